/- All sets of so many coolers, one after the other: whatever the loop's body keeps. -/
import Derived.Test.YtnempffajbdneaaPC28
set_option linter.unusedVariables false
set_option linter.unusedSimpArgs false
set_option maxRecDepth 8000
set_option maxHeartbeats 2000000
namespace Go.Tk
open Go Go.Av
/-- All lists of so many elements of another one, in its order. -/
def setsL : List Int → Nat → List (List Int)
  | _, 0 => [[]]
  | [], _ + 1 => []
  | x :: l, k + 1 => (setsL l k).map (x :: ·) ++ setsL l (k + 1)
theorem mem_sets {s : List Int} : ∀ {l : List Int} {k : Nat}, s ∈ setsL l k ↔ s.Sublist l ∧ s.length = k
  | l, 0 => by
    simp only [setsL, List.mem_singleton]
    constructor
    · rintro rfl; exact ⟨List.nil_sublist _, rfl⟩
    · rintro ⟨_, h⟩; exact List.eq_nil_of_length_eq_zero h
  | [], k + 1 => by
    simp only [setsL, List.not_mem_nil, false_iff]
    rintro ⟨h1, h2⟩
    rw [List.sublist_nil.1 h1] at h2
    cases h2
  | x :: l, k + 1 => by
    simp only [setsL, List.mem_append, List.mem_map, mem_sets]
    constructor
    · rintro (⟨s', ⟨h1, h2⟩, rfl⟩ | ⟨h1, h2⟩)
      · exact ⟨h1.cons_cons x, by simp [h2]⟩
      · exact ⟨h1.cons x, h2⟩
    · rintro ⟨h1, h2⟩
      cases h1 with
      | cons _ h1 => exact .inr ⟨h1, h2⟩
      | cons_cons _ h1 => exact .inl ⟨_, ⟨h1, by simpa using h2⟩, rfl⟩

/-- The first of the sets that fells the loop. -/
def firstW (bad : Nat → Bool) (now : Nat) (L : List (List Int)) : Option Nat := (L.map fun s => now ||| setB s).find? bad
theorem firstW_step {bad : Nat → Bool} {now k i : Nat} {l : List Int} (hi : i < l.length) : firstW bad now (setsL (l.drop i) (k + 1)) = (firstW bad (now ||| 2 ^ (l.getD i default).toNat) (setsL (l.drop (i + 1)) k)).or (firstW bad now (setsL (l.drop (i + 1)) (k + 1))) := by
  unfold firstW
  rw [drop_cons' hi]
  simp only [setsL, List.map_append, List.map_map, List.find?_append]
  congr 3
  funext s
  simp only [Function.comp, setB, Nat.or_assoc]
end Go.Tk
namespace Go.Proofs.Ytnempffajbdneaa
open Go Go.Av Go.Tk
attribute [local irreducible] Holds sem semL ACalls FnIs YCalls
section
variable {G : World → Prop} (hG : ∀ w w', G w → RowKit.Below w.heap.size w w' → G w')
include hG
theorem set_sets (m : Nat) (hm : m < 1024) (k : Nat) : Holds Try.prog G F.cool_set_sets [I m, I k] (.fn (.func F.cool_set_sets_1) [] [.tptr [slOf intCs (listB m)] 0, .tptr [I k] 0]) := by
  (refine holds_of_sem hG fn_cool_set_sets (by simp) fun w0 S0 hG0 D0 => ?_; unfold c_cool_set_sets cval enterEnv; simp only [List.zipIdx_cons, List.zipIdx_nil, List.map_cons, List.map_nil, Nat.zero_add, Nat.reduceAdd])
  repeat' (first | ((first | refine o1 rfl ?_ | refine o0 rfl ?_); intro k hk; simp (disch := omega) only [ev0, sl_cells, simprocAttr]; refine hk _ _ ?_; clear hk k) | refine ono rfl ?_ | (apply ocall; (case he => (simp only [ev0, sl_cells, simprocAttr] <;> rfl)); (case hc => first | exact cool_set_list hG m hm); (case ht => rfl); (case hg => rfl)) | ((first | refine osplitG rfl (fun h => ?_) (fun h => ?_) | refine osplitB rfl (fun h => ?_) (fun h => ?_)) <;> (fail_if_success (simp only [eq_self, reduceCtorEq] at h))) | refine onx ?_ | refine onb ?_ | refine sreg ?_ | refine qT rfl ?_ | refine qF rfl ?_ | refine scondT rfl ?_ | refine scondF rfl ?_ | refine ocondP rfl (fun h => ?_) (fun h => ?_) | refine ocondB rfl (fun h => ?_) (fun h => ?_) | refine scondP rfl (fun h => ?_) (fun h => ?_) | refine scond rfl (fun h => ?_) (fun h => ?_) | refine oskip ?_ | refine oskipb ?_ | refine oret ?_ | refine sem_ret ?_ | refine sem_seq ?_ | refine sreg1 ?_)
  exact ⟨_, rfl, _, rfl, treeOf_sound 40 _ _ rfl⟩
end
variable {K : Ctx} (hP : K.P = Try.prog) (hGK : ∀ w w', K.G w → RowKit.Below w.heap.size w w' → K.G w')
include hP hGK
theorem search (l : List Int) (hl : l.length ≤ 10) (hlb : ∀ x ∈ l, 0 ≤ x ∧ x < 10) (id a b : Nat) (J : List AObj → Prop) (E : Nat → List AObj → Prop) (bad : Nat → Bool)
    (hJ : ∀ μ, J μ → (∃ c st e, μ[id]? = some (.loop c st e)) ∧ μ[a]? = some (.row 127 0 1 [[.yl id]]) ∧ μ[b]? = some (.row 128 0 1 [[.fn (.func F.cool_set_sets_1_1) [] [.ptr a 0 1 0 0, .tptr [slOf intCs l] 0, .ptr b 0 1 0 0]]]))
    (hY : ∀ (w : Nat) μ, w < 1024 → J μ → YCalls K id [I w] μ fun ae μ' => if bad w = true then ae = .ret (B false) ∧ E w μ' else ae = .ret (B true) ∧ J μ') :
    ∀ (k fr now : Nat) (μ : List AObj), k ≤ 100 → fr ≤ l.length → now < 1024 → J μ → ACalls K F.cool_set_sets_1_1 [I fr, I k, I now, .ptr a 0 1 0 0, .tptr [slOf intCs l] 0, .ptr b 0 1 0 0] μ fun ae μ' =>
      match firstW bad now (setsL (l.drop fr) k) with
      | some w => ae = .ret (B false) ∧ E w μ'
      | none => ae = .ret (B true) ∧ J μ'
  | 0, fr, now, μ, _, hfr, hnow, hμ => by
    obtain ⟨⟨c, st, e, h1⟩, h2, h3⟩ := hJ μ hμ
    have hy := hY now μ hnow hμ
    have hf : firstW bad now (setsL (l.drop fr) 0) = if bad now = true then some now else none := by
      unfold firstW
      simp only [setsL, List.map_cons, List.map_nil, setB, Nat.or_zero, List.find?]
      cases bad now <;> rfl
    rw [hf]
    obtain ⟨P, w0, S0, G, hG0⟩ := K
    simp only at hP hGK
    subst hP
    refine acalls_of_sem fn_cool_set_sets_1_1 (by simp) fun D => ?_
    unfold c_cool_set_sets_1_1 cval enterEnv
    simp only [List.zipIdx_cons, List.zipIdx_nil, List.map_cons, List.map_nil, Nat.zero_add, Nat.reduceAdd]
    repeat' (first | ((first | refine o1 rfl ?_ | refine o0 rfl ?_); intro k hk; simp (disch := omega) only [ev0, sl_cells, simprocAttr, h2]; refine hk _ _ ?_; clear hk k) | refine ono rfl ?_ | ((first | refine osplitG rfl (fun h => ?_) (fun h => ?_) | refine osplitB rfl (fun h => ?_) (fun h => ?_)) <;> (fail_if_success (simp only [eq_self, reduceCtorEq] at h))) | refine onx ?_ | refine onb ?_ | refine sreg ?_ | refine qT rfl ?_ | refine qF rfl ?_ | refine scondT rfl ?_ | refine scondF rfl ?_ | refine ocondP rfl (fun h => ?_) (fun h => ?_) | refine ocondB rfl (fun h => ?_) (fun h => ?_) | refine scondP rfl (fun h => ?_) (fun h => ?_) | refine scond rfl (fun h => ?_) (fun h => ?_) | refine oskip ?_ | refine oskipb ?_ | refine oret ?_ | refine sem_ret ?_ | refine sem_seq ?_ | refine sreg1 ?_)
    refine semL_yield (c := c) (st := st) (e0 := e) rfl rfl h1 hy fun ae μ' hae => ?_
    cases hb : bad now with
    | true =>
      rw [hb, if_pos rfl] at hae
      obtain ⟨rfl, hE⟩ := hae
      change semL _ _ _ ⟨(_, B false) :: _, μ'⟩ _
      repeat' (first | ((first | refine o1 rfl ?_ | refine o0 rfl ?_); intro k hk; simp (disch := omega) only [ev0, sl_cells, simprocAttr]; refine hk _ _ ?_; clear hk k) | refine ono rfl ?_ | ((first | refine osplitG rfl (fun h => ?_) (fun h => ?_) | refine osplitB rfl (fun h => ?_) (fun h => ?_)) <;> (fail_if_success (simp only [eq_self, reduceCtorEq] at h))) | refine onx ?_ | refine onb ?_ | refine sreg ?_ | refine qT rfl ?_ | refine qF rfl ?_ | refine scondT rfl ?_ | refine scondF rfl ?_ | refine ocondP rfl (fun h => ?_) (fun h => ?_) | refine ocondB rfl (fun h => ?_) (fun h => ?_) | refine scondP rfl (fun h => ?_) (fun h => ?_) | refine scond rfl (fun h => ?_) (fun h => ?_) | refine oskip ?_ | refine oskipb ?_ | refine oret ?_ | refine sem_ret ?_ | refine sem_seq ?_ | refine sreg1 ?_)
      exact ⟨_, rfl, rfl, hE⟩
    | false =>
      rw [hb, if_neg (by simp)] at hae
      obtain ⟨rfl, hE⟩ := hae
      change semL _ _ _ ⟨(_, B true) :: _, μ'⟩ _
      repeat' (first | ((first | refine o1 rfl ?_ | refine o0 rfl ?_); intro k hk; simp (disch := omega) only [ev0, sl_cells, simprocAttr]; refine hk _ _ ?_; clear hk k) | refine ono rfl ?_ | ((first | refine osplitG rfl (fun h => ?_) (fun h => ?_) | refine osplitB rfl (fun h => ?_) (fun h => ?_)) <;> (fail_if_success (simp only [eq_self, reduceCtorEq] at h))) | refine onx ?_ | refine onb ?_ | refine sreg ?_ | refine qT rfl ?_ | refine qF rfl ?_ | refine scondT rfl ?_ | refine scondF rfl ?_ | refine ocondP rfl (fun h => ?_) (fun h => ?_) | refine ocondB rfl (fun h => ?_) (fun h => ?_) | refine scondP rfl (fun h => ?_) (fun h => ?_) | refine scond rfl (fun h => ?_) (fun h => ?_) | refine oskip ?_ | refine oskipb ?_ | refine oret ?_ | refine sem_ret ?_ | refine sem_seq ?_ | refine sreg1 ?_)
      exact ⟨_, rfl, rfl, hE⟩
  | k + 1, fr, now, μ, hk100, hfr, hnow, hμ => by
    have IH := search l hl hlb id a b J E bad hJ hY k
    obtain ⟨P, w0, S0, G, hG0⟩ := K
    simp only at hP hGK
    subst hP
    refine acalls_of_sem fn_cool_set_sets_1_1 (by simp) fun D => ?_
    unfold c_cool_set_sets_1_1 cval enterEnv
    simp only [List.zipIdx_cons, List.zipIdx_nil, List.map_cons, List.map_nil, Nat.zero_add, Nat.reduceAdd]
    have hk1 : ¬ ((k + 1 : Nat) : Int) = 0 := by omega
    have hk2 : ((k + 1 : Nat) : Int) - 1 = (k : Int) := by omega
    repeat' (first | ((first | refine o1 rfl ?_ | refine o0 rfl ?_); intro k hk; simp (disch := omega) only [ev0, sl_cells, simprocAttr, hk1]; refine hk _ _ ?_; clear hk k) | refine ono rfl ?_ | ((first | refine osplitG rfl (fun h => ?_) (fun h => ?_) | refine osplitB rfl (fun h => ?_) (fun h => ?_)) <;> (fail_if_success (simp only [eq_self, reduceCtorEq] at h))) | refine onx ?_ | refine onb ?_ | refine sreg ?_ | refine qT rfl ?_ | refine qF rfl ?_ | refine scondT rfl ?_ | refine scondF rfl ?_ | refine ocondP rfl (fun h => ?_) (fun h => ?_) | refine ocondB rfl (fun h => ?_) (fun h => ?_) | refine scondP rfl (fun h => ?_) (fun h => ?_) | refine scond rfl (fun h => ?_) (fun h => ?_) | refine oskip ?_ | refine oskipb ?_ | refine oret ?_ | refine sem_ret ?_ | refine sem_seq ?_ | refine sreg1 ?_)
    refine sem_block ?_
    
    refine sem_loop (α := Nat × List AObj) (fun p => ⟨[(1, I (k + 1 : Nat)), (2, I now), (4, .tptr [slOf intCs l] 0), (5, .ptr b 0 1 0 0), (10, I p.1)], p.2⟩) (fun p => p.1 ≤ l.length ∧ J p.2 ∧ firstW bad now (setsL (l.drop fr) (k + 1)) = firstW bad now (setsL (l.drop p.1) (k + 1))) (fun p => l.length - p.1) (fr, μ) ⟨hfr, hμ, rfl⟩ ?_ ?_
    · (refine Le.same ?_; simp only [List.forall_mem_cons, List.forall_mem_nil, getE, selE, Nat.reduceBEq, List.not_mem_nil, false_implies, implies_true, and_true, true_and, and_self])
    · rintro ⟨i, ν⟩ ⟨h1, h2, h3⟩
      simp only at h1 h2 h3
      obtain ⟨⟨c, st, e, g1⟩, g2, g3⟩ := hJ ν h2
      repeat' (first | ((first | refine o1 rfl ?_ | refine o0 rfl ?_); intro k hk; simp (disch := omega) only [ev0, sl_cells, simprocAttr, slOf]; refine hk _ _ ?_; clear hk k) | refine ono rfl ?_ | ((first | refine osplitG rfl (fun h => ?_) (fun h => ?_) | refine osplitB rfl (fun h => ?_) (fun h => ?_)) <;> (fail_if_success (simp only [eq_self, reduceCtorEq] at h))) | refine onx ?_ | refine onb ?_ | refine sreg ?_ | refine qT rfl ?_ | refine qF rfl ?_ | refine scondT rfl ?_ | refine scondF rfl ?_ | refine ocondP rfl (fun h => ?_) (fun h => ?_) | refine ocondB rfl (fun h => ?_) (fun h => ?_) | refine scondP rfl (fun h => ?_) (fun h => ?_) | refine scond rfl (fun h => ?_) (fun h => ?_) | refine oskip ?_ | refine oskipb ?_ | refine oret ?_ | refine sem_ret ?_ | refine sem_seq ?_ | refine sreg1 ?_)
      · have hi : i < l.length := by omega
        have hx := hlb (l.getD i default) (by rw [getD_lt hi]; exact List.getElem_mem _)
        rw [firstW_step hi] at h3
        generalize hxv : l.getD i default = x at *
        obtain ⟨n, rfl⟩ := Int.eq_ofNat_of_zero_le hx.1
        have hn9 : n ≤ 9 := by omega
        have hp : ∀ n : Nat, n ≤ 9 → 2 ^ n ≤ 512 := by decide
        have hpn := hp n hn9
        have e1 := shlN n (by omega)
        have e2 := orN (a := now) (b := 2 ^ n) (by omega) (by omega)
        have hor : now ||| 2 ^ n < 1024 := Nat.or_lt_two_pow (n := 10) hnow (by omega)
        have hcall := IH (i + 1) (now ||| 2 ^ n) ν (by omega) (by omega) hor h2
        rw [Int.toNat_natCast] at h3
        refine sem_block ?_
        have ra : a < ν.length := (List.getElem?_eq_some_iff.1 g2).1
        have rb : b < ν.length := (List.getElem?_eq_some_iff.1 g3).1
        repeat' (first | ((first | refine o1 rfl ?_ | refine o0 rfl ?_); intro k hk; simp (disch := omega) only [ev0, sl_cells, simprocAttr]; refine hk _ _ ?_; clear hk k) | refine ono rfl ?_ | ((first | refine osplitG rfl (fun h => ?_) (fun h => ?_) | refine osplitB rfl (fun h => ?_) (fun h => ?_)) <;> (fail_if_success (simp only [eq_self, reduceCtorEq] at h))) | refine onx ?_ | refine onb ?_ | refine sreg ?_ | refine qT rfl ?_ | refine qF rfl ?_ | refine scondT rfl ?_ | refine scondF rfl ?_ | refine ocondP rfl (fun h => ?_) (fun h => ?_) | refine ocondB rfl (fun h => ?_) (fun h => ?_) | refine scondP rfl (fun h => ?_) (fun h => ?_) | refine scond rfl (fun h => ?_) (fun h => ?_) | refine oskip ?_ | refine oskipb ?_ | refine oret ?_ | refine sem_ret ?_ | refine sem_seq ?_ | refine sreg1 ?_)
        (refine sem_mgo 12 hmix (by kernel_rfl) ?_; simp only [nt])
        refine mopV (x := .fn (.func F.cool_set_sets_1_1) [] [.ptr a 0 1 0 0, .tptr [slOf intCs l] 0, .ptr b 0 1 0 0]) rfl rfl (by simp only [ev0, simprocAttr, g3]) (by simp [refA, refL, ra, rb, slOf]) ?_
        repeat' (first | ((first | apply mop | apply mop0); (case hg => rfl); (case hq => rfl); intro k hk; simp (disch := omega) only [ev0, sl_cells, simprocAttr, slOf, intCs, hxv, e1, e2, hk2]; refine hk _ _ rfl ?_; clear hk k) | (apply mno; (case hg => rfl)) | (apply mbox; (case hx => (simp only [wv, simprocAttr] <;> rfl)); (case hg => rfl); (case hall => rfl); (case hr => rfl); simp only [nm, Nat.reduceAdd]) | (apply mbldS; (case hb => (simp (disch := omega) only [ev0, sl_cells, simprocAttr] <;> rfl)); (case hg => rfl); (case hr => rfl); simp only [nm, Nat.reduceAdd]) | ((first | (apply msto (q := 0); (case hq => rfl)) | (apply msto (q := 1); (case hq => rfl)) | (apply msto (q := 2); (case hq => rfl)) | (apply msto (q := 3); (case hq => rfl))); (case hx => (simp only [wv, simprocAttr] <;> rfl)); (case haddr => (simp only [wv, simprocAttr] <;> rfl)); (case hg => rfl); (case hl1 => rfl); (case hl2 => rfl); (case hok => rfl); (case hr => rfl); simp only [nm, Nat.reduceAdd]) | (apply mnil; simp only [SlotR.fin, ns]) | (refine msplit rfl (fun h => ?_) (fun h => ?_) <;> simp only [h] <;> (try simp only [nb] at h)))
        refine semL_dyn rfl rfl (by exact hcall) fun ae μ' hae => ?_
        cases hfw : firstW bad (now ||| 2 ^ n) (setsL (l.drop (i + 1)) k) with
        | some w =>
          rw [hfw] at hae h3
          obtain ⟨rfl, hE⟩ := hae
          rw [Option.some_or] at h3
          rw [h3]
          change semL _ _ _ ⟨(_, B false) :: _, μ'⟩ _
          repeat' (first | ((first | refine o1 rfl ?_ | refine o0 rfl ?_); intro k hk; simp (disch := omega) only [ev0, sl_cells, simprocAttr]; refine hk _ _ ?_; clear hk k) | refine ono rfl ?_ | ((first | refine osplitG rfl (fun h => ?_) (fun h => ?_) | refine osplitB rfl (fun h => ?_) (fun h => ?_)) <;> (fail_if_success (simp only [eq_self, reduceCtorEq] at h))) | refine onx ?_ | refine onb ?_ | refine sreg ?_ | refine qT rfl ?_ | refine qF rfl ?_ | refine scondT rfl ?_ | refine scondF rfl ?_ | refine ocondP rfl (fun h => ?_) (fun h => ?_) | refine ocondB rfl (fun h => ?_) (fun h => ?_) | refine scondP rfl (fun h => ?_) (fun h => ?_) | refine scond rfl (fun h => ?_) (fun h => ?_) | refine oskip ?_ | refine oskipb ?_ | refine oret ?_ | refine sem_ret ?_ | refine sem_seq ?_ | refine sreg1 ?_)
          exact ⟨_, rfl, rfl, hE⟩
        | none =>
          rw [hfw] at hae h3
          obtain ⟨rfl, hE⟩ := hae
          rw [Option.none_or] at h3
          change semL _ _ _ ⟨(_, B true) :: _, μ'⟩ _
          repeat' (first | ((first | refine o1 rfl ?_ | refine o0 rfl ?_); intro k hk; simp (disch := omega) only [ev0, sl_cells, simprocAttr]; refine hk _ _ ?_; clear hk k) | refine ono rfl ?_ | ((first | refine osplitG rfl (fun h => ?_) (fun h => ?_) | refine osplitB rfl (fun h => ?_) (fun h => ?_)) <;> (fail_if_success (simp only [eq_self, reduceCtorEq] at h))) | refine onx ?_ | refine onb ?_ | refine sreg ?_ | refine qT rfl ?_ | refine qF rfl ?_ | refine scondT rfl ?_ | refine scondF rfl ?_ | refine ocondP rfl (fun h => ?_) (fun h => ?_) | refine ocondB rfl (fun h => ?_) (fun h => ?_) | refine scondP rfl (fun h => ?_) (fun h => ?_) | refine scond rfl (fun h => ?_) (fun h => ?_) | refine oskip ?_ | refine oskipb ?_ | refine oret ?_ | refine sem_ret ?_ | refine sem_seq ?_ | refine sreg1 ?_)
          refine onil (lnext (i + 1, μ') ⟨by simp only; omega, hE, h3⟩ (by simp only; omega) ?_)
          (refine Le.same ?_; simp only [List.forall_mem_cons, List.forall_mem_nil, getE, selE, Nat.reduceBEq, List.not_mem_nil, false_implies, implies_true, and_true, true_and, and_self])
          simp
      · have hi : i = l.length := by omega
        subst hi
        rw [List.drop_length] at h3
        have hf : firstW bad now (setsL (l.drop fr) (k + 1)) = none := h3
        rw [hf]
        (refine sem_exit ?_; change sem _ _ _ _ _)
        repeat' (first | ((first | refine o1 rfl ?_ | refine o0 rfl ?_); intro k hk; simp (disch := omega) only [ev0, sl_cells, simprocAttr]; refine hk _ _ ?_; clear hk k) | refine ono rfl ?_ | ((first | refine osplitG rfl (fun h => ?_) (fun h => ?_) | refine osplitB rfl (fun h => ?_) (fun h => ?_)) <;> (fail_if_success (simp only [eq_self, reduceCtorEq] at h))) | refine onx ?_ | refine onb ?_ | refine sreg ?_ | refine qT rfl ?_ | refine qF rfl ?_ | refine scondT rfl ?_ | refine scondF rfl ?_ | refine ocondP rfl (fun h => ?_) (fun h => ?_) | refine ocondB rfl (fun h => ?_) (fun h => ?_) | refine scondP rfl (fun h => ?_) (fun h => ?_) | refine scond rfl (fun h => ?_) (fun h => ?_) | refine oskip ?_ | refine oskipb ?_ | refine oret ?_ | refine sem_ret ?_ | refine sem_seq ?_ | refine sreg1 ?_)
        exact ⟨_, rfl, rfl, h2⟩
end Go.Proofs.Ytnempffajbdneaa
