/- Sorting numbers, the greatest first. -/
import Derived.Test.YtnempffajbdneaaPC11
import Derived.Test.YtnempffajbdneaaPMq
set_option linter.unusedVariables false
set_option linter.unusedSimpArgs false
set_option maxRecDepth 8000
set_option maxHeartbeats 2000000
namespace Go.Tk
open Go Go.Av
def cmpI (x y : Int) : Int := if x < y then -1 else if y < x then 1 else 0
/-- The greatest first. -/
def sortD (l : List Int) : List Int := l.mergeSort fun a b => decide (b ≤ a)
theorem sortD_perm (l : List Int) : (sortD l).Perm l := List.mergeSort_perm _ _
theorem sortD_sorted (l : List Int) : (sortD l).Pairwise fun a b => b ≤ a := by
  have := List.pairwise_mergeSort (le := fun a b : Int => decide (b ≤ a)) (fun a b c h1 h2 => by simp only [decide_eq_true_eq] at *; omega) (fun a b => by simp only [Bool.or_eq_true, decide_eq_true_eq]; omega) l
  exact this.imp fun h => by simpa using h
theorem sortD_eq {l m : List Int} (h : m.Perm l) (hs : m.Pairwise fun a b => b ≤ a) : m = sortD l :=
  List.Perm.eq_of_pairwise (fun a b _ _ h1 h2 => by omega) hs (sortD_sorted l) (h.trans (sortD_perm l).symm)
/-- In order up to i, but for the place j. -/
def exc (L : List Int) (i j : Nat) : Prop := ∀ a b, a < b → b ≤ i → b ≠ j → L.getD b default ≤ L.getD a default
def swapL (L : List Int) (q : Nat) : List Int := (L.set (q + 1) (L.getD q default)).set q (L.getD (q + 1) default)
theorem swapL_len {L : List Int} {q : Nat} : (swapL L q).length = L.length := by simp [swapL]
theorem swapL_get {L : List Int} {q : Nat} (hq : q + 1 < L.length) (a : Nat) : (swapL L q).getD a default = if a = q then L.getD (q + 1) default else if a = q + 1 then L.getD q default else L.getD a default := by
  unfold swapL
  simp only [List.getD_eq_getElem?_getD, List.getElem?_set, List.length_set]
  by_cases h1 : a = q
  · subst h1; simp [show a < L.length by omega]
  · by_cases h2 : a = q + 1
    · subst h2; simp [hq]
    · simp [h1, h2, Ne.symm h1, Ne.symm h2]
theorem swapL_perm {L : List Int} {q : Nat} (hq : q + 1 < L.length) : (swapL L q).Perm L := by
  have := List.set_set_perm (i := q + 1) (j := q) hq (show q < L.length by omega)
  unfold swapL
  rw [getD_lt hq, getD_lt (show q < L.length by omega)]
  exact this
theorem exc_swap {L : List Int} {i q : Nat} (hq : q + 1 < L.length) (hqi : q + 1 ≤ i) (h : exc L i (q + 1)) (hlt : L.getD q default < L.getD (q + 1) default) : exc (swapL L q) i q := by
  intro a b hab hbi hbq
  rw [swapL_get hq, swapL_get hq]
  have e1 := h a b hab hbi
  have e2 := h q b
  have e3 := h (q + 1) b
  have e4 := h a q
  split <;> split <;> (try split) <;> (try split) <;> grind
theorem exc_done {L : List Int} {i j : Nat} (hj : j ≤ i) (h : exc L i j) (hd : j = 0 ∨ L.getD j default ≤ L.getD (j - 1) default) : exc L (i + 1) (i + 1) := by
  intro a b hab hbi hbq
  by_cases e : b = j
  · subst e
    rcases hd with hd | hd
    · omega
    · by_cases e2 : a = b - 1
      · subst e2; exact hd
      · have := h a (b - 1) (by omega) (by omega) (by omega)
        omega
  · exact h a b hab (by omega) e
theorem exc_sorted {L : List Int} (h : exc L L.length L.length) : L.Pairwise fun a b => b ≤ a := by
  rw [List.pairwise_iff_getElem]
  intro i j hi hj hij
  have := h i j hij (by omega) (by omega)
  rwa [getD_lt hj, getD_lt hi] at this
theorem rowL_set {L : List Int} {i : Nat} {a : Int} : (rowL intCs L).set i [.int .i64 a] = rowL intCs (L.set i a) := by simp [rowL, List.map_set, intCs]
end Go.Tk
namespace Go.Proofs.Ytnempffajbdneaa
open Go Go.Av Go.Tk
attribute [local irreducible] Holds sem semL ACalls FnIs
section
variable {G : World → Prop} (hG : ∀ w w', G w → RowKit.Below w.heap.size w w' → G w')
include hG
theorem cmp_isNaN (x : Int) : Holds Try.prog G F.cmp_isNaN_int [I x] (B false) := by
  (refine holds_of_sem hG fn_cmp_isNaN_int (by simp) fun w0 S0 hG0 D0 => ?_; unfold c_cmp_isNaN_int cval enterEnv; simp only [List.zipIdx_cons, List.zipIdx_nil, List.map_cons, List.map_nil, Nat.zero_add, Nat.reduceAdd])
  repeat' (first | ((first | refine o1 rfl ?_ | refine o0 rfl ?_); intro k hk; simp (disch := omega) only [ev0, sl_cells, simprocAttr]; refine hk _ _ ?_; clear hk k) | refine ono rfl ?_ | ((first | refine osplitG rfl (fun h => ?_) (fun h => ?_) | refine osplitB rfl (fun h => ?_) (fun h => ?_)) <;> (fail_if_success (simp only [eq_self, reduceCtorEq] at h))) | refine onx ?_ | refine onb ?_ | refine sreg ?_ | refine qT rfl ?_ | refine qF rfl ?_ | refine scondT rfl ?_ | refine scondF rfl ?_ | refine ocondP rfl (fun h => ?_) (fun h => ?_) | refine ocondB rfl (fun h => ?_) (fun h => ?_) | refine scondP rfl (fun h => ?_) (fun h => ?_) | refine scond rfl (fun h => ?_) (fun h => ?_) | refine oskip ?_ | refine oskipb ?_ | refine oret ?_ | refine sem_ret ?_ | refine sem_seq ?_ | refine sreg1 ?_)
  exact ⟨_, rfl, _, rfl, tree_eq rfl rfl⟩
theorem cmp_Compare (x y : Int) : Holds Try.prog G F.cmp_Compare_int [I x, I y] (I (cmpI x y)) := by
  (refine holds_of_sem hG fn_cmp_Compare_int (by simp) fun w0 S0 hG0 D0 => ?_; unfold c_cmp_Compare_int cval enterEnv; simp only [List.zipIdx_cons, List.zipIdx_nil, List.map_cons, List.map_nil, Nat.zero_add, Nat.reduceAdd])
  repeat' (first | ((first | refine o1 rfl ?_ | refine o0 rfl ?_); intro k hk; simp (disch := omega) only [ev0, sl_cells, simprocAttr]; refine hk _ _ ?_; clear hk k) | refine ono rfl ?_ | (apply ocall; (case he => (simp only [ev0, sl_cells, simprocAttr] <;> rfl)); (case hc => first | exact cmp_isNaN hG x | exact cmp_isNaN hG y); (case ht => rfl); (case hg => rfl)) | ((first | refine osplitG rfl (fun h => ?_) (fun h => ?_) | refine osplitB rfl (fun h => ?_) (fun h => ?_)) <;> (fail_if_success (simp only [eq_self, reduceCtorEq] at h))) | refine onx ?_ | refine onb ?_ | refine sreg ?_ | refine qT rfl ?_ | refine qF rfl ?_ | refine scondT rfl ?_ | refine scondF rfl ?_ | refine ocondP rfl (fun h => ?_) (fun h => ?_) | refine ocondB rfl (fun h => ?_) (fun h => ?_) | refine scondP rfl (fun h => ?_) (fun h => ?_) | refine scond rfl (fun h => ?_) (fun h => ?_) | refine oskip ?_ | refine oskipb ?_ | refine oret ?_ | refine sem_ret ?_ | refine sem_seq ?_ | refine sreg1 ?_)
  all_goals
    first
      | (rw [show cmpI x y = -1 by unfold cmpI; (repeat' split) <;> omega]; exact ⟨_, rfl, _, rfl, tree_eq rfl rfl⟩)
      | (rw [show cmpI x y = 1 by unfold cmpI; (repeat' split) <;> omega]; exact ⟨_, rfl, _, rfl, tree_eq rfl rfl⟩)
      | (rw [show cmpI x y = 0 by unfold cmpI; (repeat' split) <;> omega]; exact ⟨_, rfl, _, rfl, tree_eq rfl rfl⟩)
theorem sorted_1 (x y : Int) : Holds Try.prog G F.cool_sorted_int_1 [I x, I y] (I (cmpI y x)) := by
  (refine holds_of_sem hG fn_cool_sorted_int_1 (by simp) fun w0 S0 hG0 D0 => ?_; unfold c_cool_sorted_int_1 cval enterEnv; simp only [List.zipIdx_cons, List.zipIdx_nil, List.map_cons, List.map_nil, Nat.zero_add, Nat.reduceAdd])
  repeat' (first | ((first | refine o1 rfl ?_ | refine o0 rfl ?_); intro k hk; simp (disch := omega) only [ev0, sl_cells, simprocAttr]; refine hk _ _ ?_; clear hk k) | refine ono rfl ?_ | (apply ocall; (case he => (simp only [ev0, sl_cells, simprocAttr] <;> rfl)); (case hc => first | exact cmp_Compare hG y x); (case ht => rfl); (case hg => rfl)) | ((first | refine osplitG rfl (fun h => ?_) (fun h => ?_) | refine osplitB rfl (fun h => ?_) (fun h => ?_)) <;> (fail_if_success (simp only [eq_self, reduceCtorEq] at h))) | refine onx ?_ | refine onb ?_ | refine sreg ?_ | refine qT rfl ?_ | refine qF rfl ?_ | refine scondT rfl ?_ | refine scondF rfl ?_ | refine ocondP rfl (fun h => ?_) (fun h => ?_) | refine ocondB rfl (fun h => ?_) (fun h => ?_) | refine scondP rfl (fun h => ?_) (fun h => ?_) | refine scond rfl (fun h => ?_) (fun h => ?_) | refine oskip ?_ | refine oskipb ?_ | refine oret ?_ | refine sem_ret ?_ | refine sem_seq ?_ | refine sreg1 ?_)
  exact ⟨_, rfl, _, rfl, tree_eq rfl rfl⟩
end
theorem insertion {K : Ctx} (hP : K.P = Try.prog) (hGK : ∀ w w', K.G w → RowKit.Below w.heap.size w w' → K.G w') (l : List Int) (hl : l.length ≤ 12) (g : Nat) :
    ACalls K F.slices_insertionSortCmpFunc_int [.hsl 0 g 1 l.length, I 0, I l.length, .fn (.func F.cool_sorted_int_1) [] []] [.row 3 g 1 (rowL intCs l)] fun ae ν => ae = .ret (.tup []) ∧ ν = [.row 3 g 1 (rowL intCs (sortD l))] := by
  obtain ⟨P, w0, S0, G, hG0⟩ := K
  simp only at hP hGK
  subst hP
  refine acalls_of_sem fn_slices_insertionSortCmpFunc_int (by simp) fun D => ?_
  unfold c_slices_insertionSortCmpFunc_int cval enterEnv
  simp only [List.zipIdx_cons, List.zipIdx_nil, List.map_cons, List.map_nil, Nat.zero_add, Nat.reduceAdd]
  repeat' (first | ((first | refine o1 rfl ?_ | refine o0 rfl ?_); intro k hk; simp (disch := omega) only [ev0, sl_cells, simprocAttr]; refine hk _ _ ?_; clear hk k) | refine ono rfl ?_ | ((first | refine osplitG rfl (fun h => ?_) (fun h => ?_) | refine osplitB rfl (fun h => ?_) (fun h => ?_)) <;> (fail_if_success (simp only [eq_self, reduceCtorEq] at h))) | refine onx ?_ | refine onb ?_ | refine sreg ?_ | refine qT rfl ?_ | refine qF rfl ?_ | refine scondT rfl ?_ | refine scondF rfl ?_ | refine ocondP rfl (fun h => ?_) (fun h => ?_) | refine ocondB rfl (fun h => ?_) (fun h => ?_) | refine scondP rfl (fun h => ?_) (fun h => ?_) | refine scond rfl (fun h => ?_) (fun h => ?_) | refine oskip ?_ | refine oskipb ?_ | refine oret ?_ | refine sem_ret ?_ | refine sem_seq ?_ | refine sreg1 ?_)
  refine sem_block ?_
  
  refine sem_loop (α := Nat × List Int) (fun y => ⟨[(0, .hsl 0 g 1 l.length), (1, I 0), (2, I l.length), (3, .fn (.func F.cool_sorted_int_1) [] []), (8, I (y.1 + 1 : Nat))], [.row 3 g 1 (rowL intCs y.2)]⟩) (fun y => (y.1 + 1 ≤ l.length ∨ l.length = 0 ∧ y.1 = 0) ∧ y.2.length = l.length ∧ y.2.Perm l ∧ exc y.2 y.1 (y.1 + 1)) (fun y => l.length - y.1) (0, l) ⟨by dsimp only; omega, rfl, List.Perm.refl _, fun a b h1 h2 => by have h3 : b ≤ 0 := h2; omega⟩ ?_ ?_
  · (refine Le.same ?_; simp only [List.forall_mem_cons, List.forall_mem_nil, getE, selE, Nat.reduceBEq, List.not_mem_nil, false_implies, implies_true, and_true, true_and, and_self])
    simp
  · rintro ⟨i, L⟩ ⟨h1, h2, h3, h4⟩
    simp only at h1 h2 h3 h4
    repeat' (first | ((first | refine o1 rfl ?_ | refine o0 rfl ?_); intro k hk; simp (disch := omega) only [ev0, sl_cells, simprocAttr]; refine hk _ _ ?_; clear hk k) | refine ono rfl ?_ | ((first | refine osplitG rfl (fun h => ?_) (fun h => ?_) | refine osplitB rfl (fun h => ?_) (fun h => ?_)) <;> (fail_if_success (simp only [eq_self, reduceCtorEq] at h))) | refine onx ?_ | refine onb ?_ | refine sreg ?_ | refine qT rfl ?_ | refine qF rfl ?_ | refine scondT rfl ?_ | refine scondF rfl ?_ | refine ocondP rfl (fun h => ?_) (fun h => ?_) | refine ocondB rfl (fun h => ?_) (fun h => ?_) | refine scondP rfl (fun h => ?_) (fun h => ?_) | refine scond rfl (fun h => ?_) (fun h => ?_) | refine oskip ?_ | refine oskipb ?_ | refine oret ?_ | refine sem_ret ?_ | refine sem_seq ?_ | refine sreg1 ?_)
    · have hi : i + 1 < l.length := by omega
      refine sem_block ?_
      repeat' (first | ((first | refine o1 rfl ?_ | refine o0 rfl ?_); intro k hk; simp (disch := omega) only [ev0, sl_cells, simprocAttr]; refine hk _ _ ?_; clear hk k) | refine ono rfl ?_ | ((first | refine osplitG rfl (fun h => ?_) (fun h => ?_) | refine osplitB rfl (fun h => ?_) (fun h => ?_)) <;> (fail_if_success (simp only [eq_self, reduceCtorEq] at h))) | refine onx ?_ | refine onb ?_ | refine sreg ?_ | refine qT rfl ?_ | refine qF rfl ?_ | refine scondT rfl ?_ | refine scondF rfl ?_ | refine ocondP rfl (fun h => ?_) (fun h => ?_) | refine ocondB rfl (fun h => ?_) (fun h => ?_) | refine scondP rfl (fun h => ?_) (fun h => ?_) | refine scond rfl (fun h => ?_) (fun h => ?_) | refine oskip ?_ | refine oskipb ?_ | refine oret ?_ | refine sem_ret ?_ | refine sem_seq ?_ | refine sreg1 ?_)
      refine sem_block ?_
      
      refine sem_loop (α := Nat × List Int) (fun y => ⟨[(0, .hsl 0 g 1 l.length), (1, I 0), (2, I l.length), (3, .fn (.func F.cool_sorted_int_1) [] []), (8, I (i + 1 : Nat)), (9, I y.1)], [.row 3 g 1 (rowL intCs y.2)]⟩) (fun y => y.1 ≤ i + 1 ∧ y.2.length = l.length ∧ y.2.Perm l ∧ exc y.2 (i + 1) y.1) (fun y => y.1) (i + 1, L) ⟨Nat.le_refl _, h2, h3, fun a b e1 e2 e3 => h4 a b e1 (by have : b ≤ i + 1 := e2; have : b ≠ i + 1 := e3; omega) e3⟩ ?_ ?_
      · (refine Le.same ?_; simp only [List.forall_mem_cons, List.forall_mem_nil, getE, selE, Nat.reduceBEq, List.not_mem_nil, false_implies, implies_true, and_true, true_and, and_self])
      · rintro ⟨j, L2⟩ ⟨k1, k2, k3, k4⟩
        simp only at k1 k2 k3 k4
        by_cases hj : 0 < j
        · obtain ⟨q, rfl⟩ : ∃ q, j = q + 1 := ⟨j - 1, by omega⟩
          have hq1 : ((q + 1 : Nat) : Int) - 1 = (q : Int) := by omega
          have hjI : (0 : Int) < ((q + 1 : Nat) : Int) := by omega
          have hw1 := (rowL_len (enc := intCs) (l := L2))
          have hs1 := sorted_1 hGK (L2.getD (q + 1) default) (L2.getD q default)
          repeat' (first | ((first | refine o1 rfl ?_ | refine o0 rfl ?_); intro k hk; simp (disch := omega) only [ev0, sl_cells, simprocAttr]; refine hk _ _ ?_; clear hk k) | refine ono rfl ?_ | ((first | refine osplitG rfl (fun h => ?_) (fun h => ?_) | refine osplitB rfl (fun h => ?_) (fun h => ?_)) <;> (fail_if_success (simp only [eq_self, reduceCtorEq] at h))) | refine onx ?_ | refine onb ?_ | refine sreg ?_ | refine qT rfl ?_ | refine qF rfl ?_ | refine scondT rfl ?_ | refine scondF rfl ?_ | refine ocondP rfl (fun h => ?_) (fun h => ?_) | refine ocondB rfl (fun h => ?_) (fun h => ?_) | refine scondP rfl (fun h => ?_) (fun h => ?_) | refine scond rfl (fun h => ?_) (fun h => ?_) | refine oskip ?_ | refine oskipb ?_ | refine oret ?_ | refine sem_ret ?_ | refine sem_seq ?_ | refine sreg1 ?_)
          ((refine sem_mgo 14 hmix (by kernel_rfl) ?_; simp only [nt]); (repeat' (first | ((first | apply mop | apply mop0); (case hg => rfl); (case hq => rfl); intro k hk; simp (disch := omega) only [ev0, sl_cells, simprocAttr, hjI, decide_true, hq1, rowL_get, rowL_len, intCs]; refine hk _ _ rfl ?_; clear hk k) | (apply mno; (case hg => rfl)) | (apply mbox; (case hx => (simp only [wv, simprocAttr] <;> rfl)); (case hg => rfl); (case hall => rfl); (case hr => rfl); simp only [nm, Nat.reduceAdd]) | (apply mbldS; (case hb => (simp (disch := omega) only [ev0, sl_cells, simprocAttr] <;> rfl)); (case hg => rfl); (case hr => rfl); simp only [nm, Nat.reduceAdd]) | ((first | (apply msto (q := 0); (case hq => rfl)) | (apply msto (q := 1); (case hq => rfl)) | (apply msto (q := 2); (case hq => rfl)) | (apply msto (q := 3); (case hq => rfl))); (case hx => (simp only [wv, simprocAttr] <;> rfl)); (case haddr => (simp only [wv, simprocAttr] <;> rfl)); (case hg => rfl); (case hl1 => rfl); (case hl2 => rfl); (case hok => rfl); (case hr => rfl); simp only [nm, Nat.reduceAdd]) | (apply mnil; simp only [SlotR.fin, ns]) | (refine msplit rfl (fun h => ?_) (fun h => ?_) <;> simp only [h] <;> (try simp only [nb] at h)))) <;> (repeat' (first | ((first | refine o1 rfl ?_ | refine o0 rfl ?_); intro k hk; simp (disch := omega) only [ev0, sl_cells, simprocAttr, hjI, decide_true, hq1, rowL_get, rowL_len, intCs]; refine hk _ _ ?_; clear hk k) | refine ono rfl ?_ | ((first | refine osplitG rfl (fun h => ?_) (fun h => ?_) | refine osplitB rfl (fun h => ?_) (fun h => ?_)) <;> (fail_if_success (simp only [eq_self, reduceCtorEq] at h))) | refine onx ?_ | refine onb ?_ | refine sreg ?_ | refine qT rfl ?_ | refine qF rfl ?_ | refine scondT rfl ?_ | refine scondF rfl ?_ | refine ocondP rfl (fun h => ?_) (fun h => ?_) | refine ocondB rfl (fun h => ?_) (fun h => ?_) | refine scondP rfl (fun h => ?_) (fun h => ?_) | refine scond rfl (fun h => ?_) (fun h => ?_) | refine oskip ?_ | refine oskipb ?_ | refine oret ?_ | refine sem_ret ?_ | refine sem_seq ?_ | refine sreg1 ?_)))
          (apply odyn; (case hx => (simp only [ev0, sl_cells, simprocAttr] <;> rfl)); (case he => (simp only [ev0, sl_cells, simprocAttr] <;> rfl)); (case hc => exact hs1); (case ht => first | rfl | assumption); (case hg => rfl))
          repeat' (first | ((first | refine o1 rfl ?_ | refine o0 rfl ?_); intro k hk; simp (disch := omega) only [ev0, sl_cells, simprocAttr]; refine hk _ _ ?_; clear hk k) | refine ono rfl ?_ | ((first | refine osplitG rfl (fun h => ?_) (fun h => ?_) | refine osplitB rfl (fun h => ?_) (fun h => ?_)) <;> (fail_if_success (simp only [eq_self, reduceCtorEq] at h))) | refine onx ?_ | refine onb ?_ | refine sreg ?_ | refine qT rfl ?_ | refine qF rfl ?_ | refine scondT rfl ?_ | refine scondF rfl ?_ | refine ocondP rfl (fun h => ?_) (fun h => ?_) | refine ocondB rfl (fun h => ?_) (fun h => ?_) | refine scondP rfl (fun h => ?_) (fun h => ?_) | refine scond rfl (fun h => ?_) (fun h => ?_) | refine oskip ?_ | refine oskipb ?_ | refine oret ?_ | refine sem_ret ?_ | refine sem_seq ?_ | refine sreg1 ?_)
          · have hL2 : q + 1 < L2.length := by omega
            refine sem_block ?_
            obtain ⟨R, hR⟩ : ∃ R : Nat → AV, R = fun i => ([.hsl 0 g 1 l.length, I (q + 1 : Nat), .hsl 0 g 1 l.length, I (q + 1 : Nat), I q, .hsl 0 g 1 l.length, I (q + 1 : Nat), I q, .ptr 0 g 1 q 0, I (L2.getD q default), .hsl 0 g 1 l.length, I (q + 1 : Nat), .ptr 0 g 1 (q + 1) 0, I (L2.getD (q + 1) default), .ptr 0 g 1 (q + 1) 0, .dead] : List AV).getD i .dead := ⟨_, rfl⟩
            refine any_start hmix ?_
            apply any_eff2L (m := 16) (p := 15) (R := R) (la := [⟨some 37, none, .mv (.t 0)⟩, ⟨some 38, none, .mv (.t 9)⟩, ⟨some 39, none, .mv (.t 0)⟩, ⟨some 40, none, .mv (.t 9)⟩, ⟨some 41, none, .bin .sub (.t 40) (.c (.int .i64 1))⟩, ⟨some 42, none, .mv (.t 0)⟩, ⟨some 43, none, .mv (.t 9)⟩, ⟨some 44, none, .bin .sub (.t 43) (.c (.int .i64 1))⟩, ⟨some 45, none, .ixS 1 (.t 42) (.t 44)⟩, ⟨some 46, none, .load false 1 (.t 45)⟩, ⟨some 47, none, .mv (.t 0)⟩, ⟨some 48, none, .mv (.t 9)⟩, ⟨some 49, none, .ixS 1 (.t 47) (.t 48)⟩, ⟨some 50, none, .load false 1 (.t 49)⟩, ⟨some 51, none, .ixS 1 (.t 37) (.t 38)⟩]) (lb := [⟨none, none, .mv (.c (R 15))⟩]) (lc := [⟨some 37, none, .mv (.c (R 0))⟩, ⟨some 38, none, .mv (.c (R 1))⟩, ⟨some 39, none, .mv (.t 0)⟩, ⟨some 40, none, .mv (.t 9)⟩, ⟨some 41, none, .bin .sub (.t 40) (.c (.int .i64 1))⟩, ⟨some 42, none, .mv (.c (R 5))⟩, ⟨some 43, none, .mv (.c (R 6))⟩, ⟨some 44, none, .mv (.c (R 7))⟩, ⟨some 45, none, .mv (.c (R 8))⟩, ⟨some 46, none, .mv (.c (R 9))⟩, ⟨some 47, none, .mv (.c (R 10))⟩, ⟨some 48, none, .mv (.c (R 11))⟩, ⟨some 49, none, .mv (.c (R 12))⟩, ⟨some 50, none, .mv (.c (R 13))⟩, ⟨some 51, none, .mv (.c (R 14))⟩, ⟨none, none, .mv (.c (R 15))⟩]) (ν := [.row 3 g 1 (rowL intCs (L2.set (q + 1) (L2.getD q default)))]) (hok := by kernel_rfl) (hpm := by omega) (hla := rfl) (hlb := rfl) (hlc := rfl)
            case ha =>
              simp (disch := omega) only [qval, pushE, quietK, and_self, if_true, wv, simprocAttr, ev0, sl_cells, rowL_get, rowL_len, intCs, hq1]
              rfl
            case hb =>
              simp (disch := omega) only [qval, pushE, quietK, and_self, if_true, wv, simprocAttr, ev0, sl_cells, rowL_get, rowL_len, intCs, hq1]
              rfl
            case hc =>
              simp (disch := omega) only [qval, pushE, quietK, and_self, if_true, wv, simprocAttr, ev0, sl_cells, rowL_get, rowL_len, intCs, hq1]
              rfl
            case hxa => rw [hR]; rfl
            case hxb => rw [hR]; rfl
            case hxc => rw [hR]; rfl
            case hg => rfl
            case hp =>
              rw [show R 15 = .dead by rw [hR]; rfl]
              simp (disch := omega) only [opAt, List.getD_cons_succ, List.getD_cons_zero, qval, pushE, quietK, and_self, if_true, wv, simprocAttr, ev0, sl_cells, rowL_get, rowL_len, intCs, hq1]
              rw [rowL_set]
            case h =>
              have hw2 : (L2.set (q + 1) (L2.getD q default)).length = L2.length := by simp
              refine any_seq 16 18 (by kernel_rfl) ?_
              simp only [List.take_succ_cons, List.take_zero, List.drop_succ_cons, List.drop_zero, List.take_nil, List.drop_nil]
              repeat' (first | ((first | refine o1 rfl ?_ | refine o0 rfl ?_); intro k hk; simp (disch := omega) only [ev0, sl_cells, simprocAttr, rowL_get, rowL_len, intCs, hq1]; refine hk _ _ ?_; clear hk k) | refine ono rfl ?_ | ((first | refine osplitG rfl (fun h => ?_) (fun h => ?_) | refine osplitB rfl (fun h => ?_) (fun h => ?_)) <;> (fail_if_success (simp only [eq_self, reduceCtorEq] at h))) | refine onx ?_ | refine onb ?_ | refine sreg ?_ | refine qT rfl ?_ | refine qF rfl ?_ | refine scondT rfl ?_ | refine scondF rfl ?_ | refine ocondP rfl (fun h => ?_) (fun h => ?_) | refine ocondB rfl (fun h => ?_) (fun h => ?_) | refine scondP rfl (fun h => ?_) (fun h => ?_) | refine scond rfl (fun h => ?_) (fun h => ?_) | refine oskip ?_ | refine oskipb ?_ | refine oret ?_ | refine sem_ret ?_ | refine sem_seq ?_ | refine sreg1 ?_)
              refine onil ?_
              change AnyC _ _ _ _ _ 18 _
              refine any_end 18 rfl ?_
              change sem _ _ _ _ _
              have hc2 : (L2.getD q default) < (L2.getD (q + 1) default) := by
                have hcm : cmpI (L2.getD q default) (L2.getD (q + 1) default) < 0 := by assumption
                unfold cmpI at hcm
                split at hcm <;> (try split at hcm) <;> omega
              repeat' (first | ((first | refine o1 rfl ?_ | refine o0 rfl ?_); intro k hk; simp (disch := omega) only [ev0, sl_cells, simprocAttr, hq1]; refine hk _ _ ?_; clear hk k) | refine ono rfl ?_ | ((first | refine osplitG rfl (fun h => ?_) (fun h => ?_) | refine osplitB rfl (fun h => ?_) (fun h => ?_)) <;> (fail_if_success (simp only [eq_self, reduceCtorEq] at h))) | refine onx ?_ | refine onb ?_ | refine sreg ?_ | refine qT rfl ?_ | refine qF rfl ?_ | refine scondT rfl ?_ | refine scondF rfl ?_ | refine ocondP rfl (fun h => ?_) (fun h => ?_) | refine ocondB rfl (fun h => ?_) (fun h => ?_) | refine scondP rfl (fun h => ?_) (fun h => ?_) | refine scond rfl (fun h => ?_) (fun h => ?_) | refine oskip ?_ | refine oskipb ?_ | refine oret ?_ | refine sem_ret ?_ | refine sem_seq ?_ | refine sreg1 ?_)
              simp only [rowL_set]
              refine onil (lnext (q, swapL L2 q) ⟨by simp only; omega, ?_, ?_, ?_⟩ (by simp only; omega) ?_)
              · simp only [swapL_len]; exact k2
              · exact (swapL_perm hL2).trans k3
              · exact exc_swap hL2 k1 k4 hc2
              (refine Le.same ?_; simp only [List.forall_mem_cons, List.forall_mem_nil, getE, selE, Nat.reduceBEq, List.not_mem_nil, false_implies, implies_true, and_true, true_and, and_self])
          · (refine sem_exit ?_; change sem _ _ _ _ _)
            repeat' (first | ((first | refine o1 rfl ?_ | refine o0 rfl ?_); intro k hk; simp (disch := omega) only [ev0, sl_cells, simprocAttr]; refine hk _ _ ?_; clear hk k) | refine ono rfl ?_ | ((first | refine osplitG rfl (fun h => ?_) (fun h => ?_) | refine osplitB rfl (fun h => ?_) (fun h => ?_)) <;> (fail_if_success (simp only [eq_self, reduceCtorEq] at h))) | refine onx ?_ | refine onb ?_ | refine sreg ?_ | refine qT rfl ?_ | refine qF rfl ?_ | refine scondT rfl ?_ | refine scondF rfl ?_ | refine ocondP rfl (fun h => ?_) (fun h => ?_) | refine ocondB rfl (fun h => ?_) (fun h => ?_) | refine scondP rfl (fun h => ?_) (fun h => ?_) | refine scond rfl (fun h => ?_) (fun h => ?_) | refine oskip ?_ | refine oskipb ?_ | refine oret ?_ | refine sem_ret ?_ | refine sem_seq ?_ | refine sreg1 ?_)
            have hc2 : (L2.getD (q + 1) default) ≤ (L2.getD q default) := by
              have hcm : ¬ cmpI (L2.getD q default) (L2.getD (q + 1) default) < 0 := by assumption
              unfold cmpI at hcm
              split at hcm <;> (try split at hcm) <;> omega
            have hd := exc_done k1 k4 (.inr hc2)
            refine onil (lnext (i + 1, L2) ⟨by simp only; omega, k2, k3, fun a b e1 e2 e3 => hd a b e1 (by have : b ≤ i + 1 := e2; omega) (by have : b ≤ i + 1 := e2; omega)⟩ (by simp only; omega) ?_)
            (refine Le.same ?_; simp only [List.forall_mem_cons, List.forall_mem_nil, getE, selE, Nat.reduceBEq, List.not_mem_nil, false_implies, implies_true, and_true, true_and, and_self])
            simp
        · have hj0 : j = 0 := by omega
          have hjI : ¬ (0 : Int) < (j : Int) := by omega
          have hd := exc_done k1 k4 (.inl hj0)
          repeat' (first | ((first | refine o1 rfl ?_ | refine o0 rfl ?_); intro k hk; simp (disch := omega) only [ev0, sl_cells, simprocAttr]; refine hk _ _ ?_; clear hk k) | refine ono rfl ?_ | ((first | refine osplitG rfl (fun h => ?_) (fun h => ?_) | refine osplitB rfl (fun h => ?_) (fun h => ?_)) <;> (fail_if_success (simp only [eq_self, reduceCtorEq] at h))) | refine onx ?_ | refine onb ?_ | refine sreg ?_ | refine qT rfl ?_ | refine qF rfl ?_ | refine scondT rfl ?_ | refine scondF rfl ?_ | refine ocondP rfl (fun h => ?_) (fun h => ?_) | refine ocondB rfl (fun h => ?_) (fun h => ?_) | refine scondP rfl (fun h => ?_) (fun h => ?_) | refine scond rfl (fun h => ?_) (fun h => ?_) | refine oskip ?_ | refine oskipb ?_ | refine oret ?_ | refine sem_ret ?_ | refine sem_seq ?_ | refine sreg1 ?_)
          ((refine sem_mgo 14 hmix (by kernel_rfl) ?_; simp only [nt]); (repeat' (first | ((first | apply mop | apply mop0); (case hg => rfl); (case hq => rfl); intro k hk; simp (disch := omega) only [ev0, sl_cells, simprocAttr, hjI, decide_false]; refine hk _ _ rfl ?_; clear hk k) | (apply mno; (case hg => rfl)) | (apply mbox; (case hx => (simp only [wv, simprocAttr] <;> rfl)); (case hg => rfl); (case hall => rfl); (case hr => rfl); simp only [nm, Nat.reduceAdd]) | (apply mbldS; (case hb => (simp (disch := omega) only [ev0, sl_cells, simprocAttr] <;> rfl)); (case hg => rfl); (case hr => rfl); simp only [nm, Nat.reduceAdd]) | ((first | (apply msto (q := 0); (case hq => rfl)) | (apply msto (q := 1); (case hq => rfl)) | (apply msto (q := 2); (case hq => rfl)) | (apply msto (q := 3); (case hq => rfl))); (case hx => (simp only [wv, simprocAttr] <;> rfl)); (case haddr => (simp only [wv, simprocAttr] <;> rfl)); (case hg => rfl); (case hl1 => rfl); (case hl2 => rfl); (case hok => rfl); (case hr => rfl); simp only [nm, Nat.reduceAdd]) | (apply mnil; simp only [SlotR.fin, ns]) | (refine msplit rfl (fun h => ?_) (fun h => ?_) <;> simp only [h] <;> (try simp only [nb] at h)))) <;> (repeat' (first | ((first | refine o1 rfl ?_ | refine o0 rfl ?_); intro k hk; simp (disch := omega) only [ev0, sl_cells, simprocAttr, hjI, decide_false]; refine hk _ _ ?_; clear hk k) | refine ono rfl ?_ | ((first | refine osplitG rfl (fun h => ?_) (fun h => ?_) | refine osplitB rfl (fun h => ?_) (fun h => ?_)) <;> (fail_if_success (simp only [eq_self, reduceCtorEq] at h))) | refine onx ?_ | refine onb ?_ | refine sreg ?_ | refine qT rfl ?_ | refine qF rfl ?_ | refine scondT rfl ?_ | refine scondF rfl ?_ | refine ocondP rfl (fun h => ?_) (fun h => ?_) | refine ocondB rfl (fun h => ?_) (fun h => ?_) | refine scondP rfl (fun h => ?_) (fun h => ?_) | refine scond rfl (fun h => ?_) (fun h => ?_) | refine oskip ?_ | refine oskipb ?_ | refine oret ?_ | refine sem_ret ?_ | refine sem_seq ?_ | refine sreg1 ?_)))
          (refine sem_exit ?_; change sem _ _ _ _ _)
          repeat' (first | ((first | refine o1 rfl ?_ | refine o0 rfl ?_); intro k hk; simp (disch := omega) only [ev0, sl_cells, simprocAttr]; refine hk _ _ ?_; clear hk k) | refine ono rfl ?_ | ((first | refine osplitG rfl (fun h => ?_) (fun h => ?_) | refine osplitB rfl (fun h => ?_) (fun h => ?_)) <;> (fail_if_success (simp only [eq_self, reduceCtorEq] at h))) | refine onx ?_ | refine onb ?_ | refine sreg ?_ | refine qT rfl ?_ | refine qF rfl ?_ | refine scondT rfl ?_ | refine scondF rfl ?_ | refine ocondP rfl (fun h => ?_) (fun h => ?_) | refine ocondB rfl (fun h => ?_) (fun h => ?_) | refine scondP rfl (fun h => ?_) (fun h => ?_) | refine scond rfl (fun h => ?_) (fun h => ?_) | refine oskip ?_ | refine oskipb ?_ | refine oret ?_ | refine sem_ret ?_ | refine sem_seq ?_ | refine sreg1 ?_)
          refine onil (lnext (i + 1, L2) ⟨by simp only; omega, k2, k3, fun a b e1 e2 e3 => hd a b e1 (by have : b ≤ i + 1 := e2; omega) (by have : b ≤ i + 1 := e2; omega)⟩ (by simp only; omega) ?_)
          (refine Le.same ?_; simp only [List.forall_mem_cons, List.forall_mem_nil, getE, selE, Nat.reduceBEq, List.not_mem_nil, false_implies, implies_true, and_true, true_and, and_self])
          try simp
    · have hso : L = sortD l := by
        refine sortD_eq h3 (exc_sorted fun a b e1 e2 e3 => ?_)
        rcases Nat.lt_or_ge b L.length with hb | hb
        · exact h4 a b e1 (by omega) (by omega)
        · omega
      refine sem_exit ?_
      exact ⟨_, rfl, rfl, by rw [hso]⟩
end Go.Proofs.Ytnempffajbdneaa
