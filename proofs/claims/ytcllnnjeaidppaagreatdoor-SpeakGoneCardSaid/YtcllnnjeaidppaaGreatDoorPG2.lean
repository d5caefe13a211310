/- SpeakGone over trees. -/
import Derived.Test.YtcllnnjeaidppaaGreatDoorPG1
import Derived.Test.YtcllnnjeaidppaaGreatDoorPF7
set_option linter.unusedVariables false
set_option linter.unusedSimpArgs false
set_option linter.unusedSectionVars false
set_option maxRecDepth 8000
set_option maxHeartbeats 4000000
namespace Go.Tk
open Go Go.Av
/-- The spots at which somebody is who went from one of the first spots. -/
def reachB (riv : List Spot) (kind : Int) (steps : List Stp) (i j : Nat) : Bool := (List.range i).any fun i' => decide ((riv.getD i' default).kind = kind) && decide (walkTo riv steps i' steps.length = some j)
theorem reachB_succ {riv : List Spot} {kind : Int} {steps : List Stp} {i j : Nat} : reachB riv kind steps (i + 1) j = (reachB riv kind steps i j || (decide ((riv.getD i default).kind = kind) && decide (walkTo riv steps i steps.length = some j))) := by
  simp [reachB, List.range_succ]
theorem reachB_end {riv : List Spot} {kind : Int} {steps : List Stp} (j : Nat) : reachB riv kind steps riv.length j = decide (j ∈ nowTo riv kind steps steps.length) := by
  rw [Bool.eq_iff_iff]
  simp only [reachB, List.any_eq_true, List.mem_range, Bool.and_eq_true, decide_eq_true_eq, mem_nowTo (Nat.le_refl _)]
theorem filter_one {l : List Nat} (h : l.Nodup) {q : Nat} (hq : q ∈ l) : l.filter (fun x => decide (x = q)) = [q] := by
  induction l with
  | nil => cases hq
  | cons x l ih =>
    rw [List.nodup_cons] at h
    rw [List.filter_cons]
    by_cases hx : x = q
    · subst hx
      rw [if_pos (by simp)]
      congr 1
      rw [List.filter_eq_nil_iff]
      intro y hy
      simp only [decide_eq_true_eq]
      rintro rfl
      exact h.1 hy
    · rw [if_neg (by simpa using hx)]
      exact ih h.2 (by
        rcases List.mem_cons.1 hq with e | e
        · exact absurd e.symm hx
        · exact e)
theorem hereL_nodup (now : List Nat) (n : Nat) : (hereL now n).Nodup := List.Pairwise.filter _ List.nodup_range
theorem mem_hereL {now : List Nat} {n j : Nat} : j ∈ hereL now n ↔ j < n ∧ j ∈ now := by simp [hereL]
theorem filterI_one {l : List Nat} (h : l.Nodup) {q : Nat} (hq : q ∈ l) : (l.map fun n : Nat => (n : Int)).filter (fun x => decide (x = (q : Int))) = [(q : Int)] := by
  rw [List.filter_map, show ((fun x : Int => decide (x = (q : Int))) ∘ fun n : Nat => (n : Int)) = fun x : Nat => decide (x = q) from funext fun x => by simp only [Function.comp, decide_eq_decide]; omega, filter_one h hq]; rfl
theorem hereL_lt (now : List Nat) (n : Nat) {i : Nat} (hi : i + 1 < (hereL now n).length) : (hereL now n).getD i default < (hereL now n).getD (i + 1) default := by
  have : (hereL now n).Pairwise (· < ·) := List.Pairwise.filter _ List.pairwise_lt_range
  rw [getD_lt hi, getD_lt (by omega)]
  exact List.pairwise_iff_getElem.1 this i (i + 1) (by omega) hi (by omega)
end Go.Tk
namespace Go.Proofs.YtcllnnjeaidppaaGreatDoor
open Go Go.Av Go.Tk
attribute [local irreducible] Holds sem semL ACalls FnIs
variable {G : World → Prop} (hG : ∀ w w', G w → RowKit.Below w.heap.size w w' → G w') (hT : ∀ w, G w → GB w)
section
include hG
theorem law09_holding (l : List Int) (n : Int) (hl : l.length ≤ 100000) : Holds Tryz.prog G F.law09_holding [slOf intCs l, I n] (slOf intCs (l.filter fun x => decide (x = n))) := by
  have hsn : ∀ i, i < l.length → (l.take (i + 1)).filter (fun x => decide (x = n)) = if l.getD i default = n then (l.take i).filter (fun x => decide (x = n)) ++ [l.getD i default] else (l.take i).filter (fun x => decide (x = n)) := fun i hi => by
    rw [take_snoc hi, List.filter_append, List.filter_cons]
    by_cases h : l.getD i default = n
    · rw [if_pos h, if_pos (by simpa using h)]; rfl
    · rw [if_neg h, if_neg (by simpa using h)]; simp
  have hle : ∀ i, ((l.take i).filter fun x => decide (x = n)).length ≤ l.length := fun i => Nat.le_trans (List.length_filter_le _ _) (List.length_take_le' _ _)
  (refine holds_of_sem hG fn_law09_holding (by simp) fun w0 S0 hG0 D0 => ?_; unfold c_law09_holding cval enterEnv; simp only [List.zipIdx_cons, List.zipIdx_nil, List.map_cons, List.map_nil, Nat.zero_add, Nat.reduceAdd])
  repeat' (first | ((first | refine o1 rfl ?_ | refine o0 rfl ?_); intro k hk; simp (disch := omega) only [ev0, sl_cells, simprocAttr]; refine hk _ _ ?_; clear hk k) | refine ono rfl ?_ | ((first | refine osplitG rfl (fun h => ?_) (fun h => ?_) | refine osplitB rfl (fun h => ?_) (fun h => ?_)) <;> (fail_if_success (simp only [eq_self, reduceCtorEq] at h))) | refine onx ?_ | refine onb ?_ | refine sreg ?_ | refine qT rfl ?_ | refine qF rfl ?_ | refine scondT rfl ?_ | refine scondF rfl ?_ | refine ocondP rfl (fun h => ?_) (fun h => ?_) | refine ocondB rfl (fun h => ?_) (fun h => ?_) | refine scondP rfl (fun h => ?_) (fun h => ?_) | refine scond rfl (fun h => ?_) (fun h => ?_) | refine oskip ?_ | refine oskipb ?_ | refine oret ?_ | refine sem_ret ?_ | refine sem_seq ?_ | refine sreg1 ?_)
  refine sem_block ?_
  (refine sem_ghost 5 3 1 rfl ?_; simp only [List.length_cons, List.length_nil, Nat.reduceAdd, Nat.zero_add, List.cons_append, List.nil_append])
  
  refine sem_loop (α := Nat) (fun i => ⟨[(0, slOf intCs l), (1, I n), (5, .hsl 0 ((l.take i).filter fun x => decide (x = n)).length 1 ((l.take i).filter fun x => decide (x = n)).length), (6, I i)], [.row 3 ((l.take i).filter fun x => decide (x = n)).length 1 (rowL intCs ((l.take i).filter fun x => decide (x = n)))]⟩) (fun i => i ≤ l.length) (fun i => l.length - i) 0 (Nat.zero_le _) ?_ ?_
  · (refine Le.same ?_; simp only [List.forall_mem_cons, List.forall_mem_nil, getE, selE, Nat.reduceBEq, List.not_mem_nil, false_implies, implies_true, and_true, true_and, and_self])
    all_goals simp [slOf, rowL]
  · intro i hi
    have hle := hle i
    repeat' (first | ((first | refine o1 rfl ?_ | refine o0 rfl ?_); intro k hk; simp (disch := omega) only [ev0, sl_cells, simprocAttr, slOf]; refine hk _ _ ?_; clear hk k) | refine ono rfl ?_ | ((first | refine osplitG rfl (fun h => ?_) (fun h => ?_) | refine osplitB rfl (fun h => ?_) (fun h => ?_)) <;> (fail_if_success (simp only [eq_self, reduceCtorEq] at h))) | refine onx ?_ | refine onb ?_ | refine sreg ?_ | refine qT rfl ?_ | refine qF rfl ?_ | refine scondT rfl ?_ | refine scondF rfl ?_ | refine ocondP rfl (fun h => ?_) (fun h => ?_) | refine ocondB rfl (fun h => ?_) (fun h => ?_) | refine scondP rfl (fun h => ?_) (fun h => ?_) | refine scond rfl (fun h => ?_) (fun h => ?_) | refine oskip ?_ | refine oskipb ?_ | refine oret ?_ | refine sem_ret ?_ | refine sem_seq ?_ | refine sreg1 ?_)
    · have hi' : i < l.length := by omega
      have hsn := hsn i hi'
      refine sem_block ?_
      generalize hx0 : l.getD i default = x at *
      by_cases hx : x = n
      · have hxx : (x = n) = True := eq_true hx
        rw [if_pos hx] at hsn
        have e1 := rowL_take (enc := intCs) (l := (l.take i).filter fun x => decide (x = n))
        repeat' (first | ((first | refine o1 rfl ?_ | refine o0 rfl ?_); intro k hk; simp (disch := omega) only [ev0, sl_cells, simprocAttr, slOf, intCs, hx0, hxx, decide_true, e1]; refine hk _ _ ?_; clear hk k) | refine ono rfl ?_ | ((first | refine osplitG rfl (fun h => ?_) (fun h => ?_) | refine osplitB rfl (fun h => ?_) (fun h => ?_)) <;> (fail_if_success (simp only [eq_self, reduceCtorEq] at h))) | refine onx ?_ | refine onb ?_ | refine sreg ?_ | refine qT rfl ?_ | refine qF rfl ?_ | refine scondT rfl ?_ | refine scondF rfl ?_ | refine ocondP rfl (fun h => ?_) (fun h => ?_) | refine ocondB rfl (fun h => ?_) (fun h => ?_) | refine scondP rfl (fun h => ?_) (fun h => ?_) | refine scond rfl (fun h => ?_) (fun h => ?_) | refine oskip ?_ | refine oskipb ?_ | refine oret ?_ | refine sem_ret ?_ | refine sem_seq ?_ | refine sreg1 ?_)
        refine onil (lnext (i + 1) (by omega) (by omega) ?_)
        rw [show [[AV.int .i64 x]] = [intCs x] from rfl, rowL_snoc, hsn, List.length_append]
        (refine Le.drop ?_ rfl (by simp) rfl (by simp only [refM, refO, List.all_cons, List.all_nil, Bool.and_true, Bool.true_and, rowL_all (enc := intCs) (fun _ _ => rfl)]; first | done | rfl) ; simp only [List.forall_mem_cons, List.forall_mem_nil, getE, selE, Nat.reduceBEq, List.not_mem_nil, false_implies, implies_true, and_true, true_and, and_self])
        all_goals simp [slOf]
      · have hxx : (x = n) = False := eq_false hx
        rw [if_neg hx] at hsn
        repeat' (first | ((first | refine o1 rfl ?_ | refine o0 rfl ?_); intro k hk; simp (disch := omega) only [ev0, sl_cells, simprocAttr, slOf, intCs, hx0, hxx, decide_false]; refine hk _ _ ?_; clear hk k) | refine ono rfl ?_ | ((first | refine osplitG rfl (fun h => ?_) (fun h => ?_) | refine osplitB rfl (fun h => ?_) (fun h => ?_)) <;> (fail_if_success (simp only [eq_self, reduceCtorEq] at h))) | refine onx ?_ | refine onb ?_ | refine sreg ?_ | refine qT rfl ?_ | refine qF rfl ?_ | refine scondT rfl ?_ | refine scondF rfl ?_ | refine ocondP rfl (fun h => ?_) (fun h => ?_) | refine ocondB rfl (fun h => ?_) (fun h => ?_) | refine scondP rfl (fun h => ?_) (fun h => ?_) | refine scond rfl (fun h => ?_) (fun h => ?_) | refine oskip ?_ | refine oskipb ?_ | refine oret ?_ | refine sem_ret ?_ | refine sem_seq ?_ | refine sreg1 ?_)
        refine onil (lnext (i + 1) (by omega) (by omega) ?_)
        rw [hsn]
        (refine Le.same ?_; simp only [List.forall_mem_cons, List.forall_mem_nil, getE, selE, Nat.reduceBEq, List.not_mem_nil, false_implies, implies_true, and_true, true_and, and_self])
        all_goals simp [slOf]
    · have hi' : i = l.length := by omega
      subst hi'
      rw [List.take_length]
      (refine sem_exit ?_; change sem _ _ _ _ _)
      repeat' (first | ((first | refine o1 rfl ?_ | refine o0 rfl ?_); intro k hk; simp (disch := omega) only [ev0, sl_cells, simprocAttr]; refine hk _ _ ?_; clear hk k) | refine ono rfl ?_ | ((first | refine osplitG rfl (fun h => ?_) (fun h => ?_) | refine osplitB rfl (fun h => ?_) (fun h => ?_)) <;> (fail_if_success (simp only [eq_self, reduceCtorEq] at h))) | refine onx ?_ | refine onb ?_ | refine sreg ?_ | refine qT rfl ?_ | refine qF rfl ?_ | refine scondT rfl ?_ | refine scondF rfl ?_ | refine ocondP rfl (fun h => ?_) (fun h => ?_) | refine ocondB rfl (fun h => ?_) (fun h => ?_) | refine scondP rfl (fun h => ?_) (fun h => ?_) | refine scond rfl (fun h => ?_) (fun h => ?_) | refine oskip ?_ | refine oskipb ?_ | refine oret ?_ | refine sem_ret ?_ | refine sem_seq ?_ | refine sreg1 ?_)
      exact ⟨_, rfl, _, rfl, tree_rowN rfl rfl (fun _ => rfl) fun _ => rfl⟩
end
include hG hT
theorem law09_SpeakGone (riv : List Spot) (kind : Int) (steps : List Stp) (from_ : Int) : Holds Tryz.prog G F.law09_SpeakGone [slOf Spot.cs riv, I kind, slOf Stp.cs steps, I from_] (B true) := by
  have hkn := law09_known hG hT
  by_cases hlong : 20 < riv.length ∨ 5 < steps.length
  · have hb : (20 < (riv.length : Int)) = True ∨ ((20 < (riv.length : Int)) = False ∧ (5 < (steps.length : Int)) = True) := by
      by_cases a : 20 < riv.length
      · exact .inl (eq_true (by omega))
      · exact .inr ⟨eq_false (by omega), eq_true (by omega)⟩
    rcases hb with h1 | ⟨h1, h2⟩
    · (refine holds_of_sem hG fn_law09_SpeakGone (by simp) fun w0 S0 hG0 D0 => ?_; unfold c_law09_SpeakGone cval enterEnv; simp only [List.zipIdx_cons, List.zipIdx_nil, List.map_cons, List.map_nil, Nat.zero_add, Nat.reduceAdd])
      repeat' (first | ((first | refine o1 rfl ?_ | refine o0 rfl ?_); intro k hk; simp (disch := omega) only [ev0, sl_cells, simprocAttr, slOf, h1, decide_true]; refine hk _ _ ?_; clear hk k) | refine ono rfl ?_ | (apply ocall; (case he => (simp only [ev0, sl_cells, simprocAttr] <;> rfl)); (case hc => first | exact hkn); (case ht => rfl); (case hg => rfl)) | ((first | refine osplitG rfl (fun h => ?_) (fun h => ?_) | refine osplitB rfl (fun h => ?_) (fun h => ?_)) <;> (fail_if_success (simp only [eq_self, reduceCtorEq] at h))) | refine onx ?_ | refine onb ?_ | refine sreg ?_ | refine qT rfl ?_ | refine qF rfl ?_ | refine scondT rfl ?_ | refine scondF rfl ?_ | refine ocondP rfl (fun h => ?_) (fun h => ?_) | refine ocondB rfl (fun h => ?_) (fun h => ?_) | refine scondP rfl (fun h => ?_) (fun h => ?_) | refine scond rfl (fun h => ?_) (fun h => ?_) | refine oskip ?_ | refine oskipb ?_ | refine oret ?_ | refine sem_ret ?_ | refine sem_seq ?_ | refine sreg1 ?_)
      exact ⟨_, rfl, _, rfl, tree_eq rfl rfl⟩
    · (refine holds_of_sem hG fn_law09_SpeakGone (by simp) fun w0 S0 hG0 D0 => ?_; unfold c_law09_SpeakGone cval enterEnv; simp only [List.zipIdx_cons, List.zipIdx_nil, List.map_cons, List.map_nil, Nat.zero_add, Nat.reduceAdd])
      repeat' (first | ((first | refine o1 rfl ?_ | refine o0 rfl ?_); intro k hk; simp (disch := omega) only [ev0, sl_cells, simprocAttr, slOf, h1, h2, decide_true, decide_false]; refine hk _ _ ?_; clear hk k) | refine ono rfl ?_ | (apply ocall; (case he => (simp only [ev0, sl_cells, simprocAttr] <;> rfl)); (case hc => first | exact hkn); (case ht => rfl); (case hg => rfl)) | ((first | refine osplitG rfl (fun h => ?_) (fun h => ?_) | refine osplitB rfl (fun h => ?_) (fun h => ?_)) <;> (fail_if_success (simp only [eq_self, reduceCtorEq] at h))) | refine onx ?_ | refine onb ?_ | refine sreg ?_ | refine qT rfl ?_ | refine qF rfl ?_ | refine scondT rfl ?_ | refine scondF rfl ?_ | refine ocondP rfl (fun h => ?_) (fun h => ?_) | refine ocondB rfl (fun h => ?_) (fun h => ?_) | refine scondP rfl (fun h => ?_) (fun h => ?_) | refine scond rfl (fun h => ?_) (fun h => ?_) | refine oskip ?_ | refine oskipb ?_ | refine oret ?_ | refine sem_ret ?_ | refine sem_seq ?_ | refine sreg1 ?_)
      exact ⟨_, rfl, _, rfl, tree_eq rfl rfl⟩
  · have h1 : (20 < (riv.length : Int)) = False := eq_false (by omega)
    have h2 : (5 < (steps.length : Int)) = False := eq_false (by omega)
    have hrv := ref09_River hG riv (by omega)
    have hrp := ref09_Report hG kind steps (by omega)
    by_cases z2 : ∀ s ∈ riv, s.ok
    rotate_left
    · rw [decide_eq_false z2] at hrv
      (refine holds_of_sem hG fn_law09_SpeakGone (by simp) fun w0 S0 hG0 D0 => ?_; unfold c_law09_SpeakGone cval enterEnv; simp only [List.zipIdx_cons, List.zipIdx_nil, List.map_cons, List.map_nil, Nat.zero_add, Nat.reduceAdd])
      repeat' (first | ((first | refine o1 rfl ?_ | refine o0 rfl ?_); intro k hk; simp (disch := omega) only [ev0, sl_cells, simprocAttr, slOf, h1, h2, decide_false, Bool.not_false]; refine hk _ _ ?_; clear hk k) | refine ono rfl ?_ | (apply ocall; (case he => (simp only [ev0, sl_cells, simprocAttr] <;> rfl)); (case hc => first | exact hkn | exact hrv); (case ht => rfl); (case hg => rfl)) | ((first | refine osplitG rfl (fun h => ?_) (fun h => ?_) | refine osplitB rfl (fun h => ?_) (fun h => ?_)) <;> (fail_if_success (simp only [eq_self, reduceCtorEq] at h))) | refine onx ?_ | refine onb ?_ | refine sreg ?_ | refine qT rfl ?_ | refine qF rfl ?_ | refine scondT rfl ?_ | refine scondF rfl ?_ | refine ocondP rfl (fun h => ?_) (fun h => ?_) | refine ocondB rfl (fun h => ?_) (fun h => ?_) | refine scondP rfl (fun h => ?_) (fun h => ?_) | refine scond rfl (fun h => ?_) (fun h => ?_) | refine oskip ?_ | refine oskipb ?_ | refine oret ?_ | refine sem_ret ?_ | refine sem_seq ?_ | refine sreg1 ?_)
      exact ⟨_, rfl, _, rfl, tree_eq rfl rfl⟩
    by_cases z13 : (1 ≤ kind ∧ kind ≤ 4) ∧ ∀ s ∈ steps, s.ok
    rotate_left
    · rw [decide_eq_true z2] at hrv
      rw [decide_eq_false z13] at hrp
      (refine holds_of_sem hG fn_law09_SpeakGone (by simp) fun w0 S0 hG0 D0 => ?_; unfold c_law09_SpeakGone cval enterEnv; simp only [List.zipIdx_cons, List.zipIdx_nil, List.map_cons, List.map_nil, Nat.zero_add, Nat.reduceAdd])
      repeat' (first | ((first | refine o1 rfl ?_ | refine o0 rfl ?_); intro k hk; simp (disch := omega) only [ev0, sl_cells, simprocAttr, slOf, h1, h2, decide_false, Bool.not_true, Bool.not_false]; refine hk _ _ ?_; clear hk k) | refine ono rfl ?_ | (apply ocall; (case he => (simp only [ev0, sl_cells, simprocAttr] <;> rfl)); (case hc => first | exact hkn | exact hrv | exact hrp); (case ht => rfl); (case hg => rfl)) | ((first | refine osplitG rfl (fun h => ?_) (fun h => ?_) | refine osplitB rfl (fun h => ?_) (fun h => ?_)) <;> (fail_if_success (simp only [eq_self, reduceCtorEq] at h))) | refine onx ?_ | refine onb ?_ | refine sreg ?_ | refine qT rfl ?_ | refine qF rfl ?_ | refine scondT rfl ?_ | refine scondF rfl ?_ | refine ocondP rfl (fun h => ?_) (fun h => ?_) | refine ocondB rfl (fun h => ?_) (fun h => ?_) | refine scondP rfl (fun h => ?_) (fun h => ?_) | refine scond rfl (fun h => ?_) (fun h => ?_) | refine oskip ?_ | refine oskipb ?_ | refine oret ?_ | refine sem_ret ?_ | refine sem_seq ?_ | refine sreg1 ?_)
      exact ⟨_, rfl, _, rfl, tree_eq rfl rfl⟩
    rw [decide_eq_true z2] at hrv
    rw [decide_eq_true z13] at hrp
    obtain ⟨z1, z3⟩ := z13
    have hfd := speak_Find hG riv kind steps (by omega) (by omega)
    have hno := nowTo_ok (riv := riv) (kind := kind) (steps := steps) (Nat.le_refl _)
    have hso := here_sorted hno
    have hr : placesV riv kind steps = if nowTo riv kind steps steps.length = [] then .tup [.nilsl, I 5] else .tup [slOf intCs (sortA ((nowTo riv kind steps steps.length).map fun n : Nat => (n : Int))), I 0] := by
      unfold placesV; rw [if_neg hlong, if_neg (fun q => q ⟨z1, z2, z3⟩)]
    rw [hr, hso] at hfd
    clear hr hso
    have hhl := hereL_len (nowTo riv kind steps steps.length) riv.length
    have hwk := fun i hi => law09_walked hG riv i steps (by omega) (by omega) hi z3
    have hwlt := fun i a hi => walkTo_lt (riv := riv) (steps := steps) (f := i) (k := steps.length) (a := a) hi (Nat.le_refl _)
    have hrs := fun i j => reachB_succ (riv := riv) (kind := kind) (steps := steps) (i := i) (j := j)
    have hre := fun j => reachB_end (riv := riv) (kind := kind) (steps := steps) j
    by_cases hnn : nowTo riv kind steps steps.length = []
    · rw [if_pos hnn] at hfd
      have hrf : ∀ i, i < riv.length → (riv.getD i default).kind = kind → walkTo riv steps i steps.length = none := fun i w1 w2 => by
        cases hw : walkTo riv steps i steps.length with
        | none => rfl
        | some q =>
          have hq := (mem_nowTo (Nat.le_refl _)).2 ⟨i, w1, w2, hw⟩
          rw [hnn] at hq; cases hq
      have hgt : ((riv.length : Int) < 0) = False := eq_false (by omega)
      (refine holds_of_sem hG fn_law09_SpeakGone (by simp) fun w0 S0 hG0 D0 => ?_; unfold c_law09_SpeakGone cval enterEnv; simp only [List.zipIdx_cons, List.zipIdx_nil, List.map_cons, List.map_nil, Nat.zero_add, Nat.reduceAdd])
      repeat' (first | ((first | refine o1 rfl ?_ | refine o0 rfl ?_); intro k hk; simp (disch := omega) only [ev0, sl_cells, simprocAttr, slOf, h1, h2, hgt, decide_false, decide_true, Bool.not_true, Bool.not_false]; refine hk _ _ ?_; clear hk k) | refine ono rfl ?_ | (apply ocall; (case he => (simp only [ev0, sl_cells, simprocAttr] <;> rfl)); (case hc => first | exact hrv | exact hrp | exact hfd); (case ht => rfl); (case hg => rfl)) | ((first | refine osplitG rfl (fun h => ?_) (fun h => ?_) | refine osplitB rfl (fun h => ?_) (fun h => ?_)) <;> (fail_if_success (simp only [eq_self, reduceCtorEq] at h))) | refine onx ?_ | refine onb ?_ | refine sreg ?_ | refine qT rfl ?_ | refine qF rfl ?_ | refine scondT rfl ?_ | refine scondF rfl ?_ | refine ocondP rfl (fun h => ?_) (fun h => ?_) | refine ocondB rfl (fun h => ?_) (fun h => ?_) | refine scondP rfl (fun h => ?_) (fun h => ?_) | refine scond rfl (fun h => ?_) (fun h => ?_) | refine oskip ?_ | refine oskipb ?_ | refine oret ?_ | refine sem_ret ?_ | refine sem_seq ?_ | refine sreg1 ?_)
      refine sem_block ?_
      rw [rep_rowF]
      
      refine sem_loop (α := Nat) (fun i => ⟨[(0, slOf Spot.cs riv), (1, I kind), (2, slOf Stp.cs steps), (3, I from_), (9, .nilsl), (11, .hsl 0 0 1 riv.length), (12, I i)], [.row 4 0 1 (rowF boolCs riv.length fun _ => false)]⟩) (fun i => i ≤ riv.length) (fun i => riv.length - i) 0 (Nat.zero_le _) ?_ ?_
      · (refine Le.same ?_; simp only [List.forall_mem_cons, List.forall_mem_nil, getE, selE, Nat.reduceBEq, List.not_mem_nil, false_implies, implies_true, and_true, true_and, and_self])
        all_goals simp [slOf]
      · intro i hi
        repeat' (first | ((first | refine o1 rfl ?_ | refine o0 rfl ?_); intro k hk; simp (disch := omega) only [ev0, sl_cells, simprocAttr, slOf]; refine hk _ _ ?_; clear hk k) | refine ono rfl ?_ | ((first | refine osplitG rfl (fun h => ?_) (fun h => ?_) | refine osplitB rfl (fun h => ?_) (fun h => ?_)) <;> (fail_if_success (simp only [eq_self, reduceCtorEq] at h))) | refine onx ?_ | refine onb ?_ | refine sreg ?_ | refine qT rfl ?_ | refine qF rfl ?_ | refine scondT rfl ?_ | refine scondF rfl ?_ | refine ocondP rfl (fun h => ?_) (fun h => ?_) | refine ocondB rfl (fun h => ?_) (fun h => ?_) | refine scondP rfl (fun h => ?_) (fun h => ?_) | refine scond rfl (fun h => ?_) (fun h => ?_) | refine oskip ?_ | refine oskipb ?_ | refine oret ?_ | refine sem_ret ?_ | refine sem_seq ?_ | refine sreg1 ?_)
        · have hi' : i < riv.length := by omega
          have hwk := hwk i hi'
          have hrf := hrf i hi'
          refine sem_block ?_
          generalize hsp : riv.getD i default = sp at *
          by_cases hk2 : sp.kind = kind
          · have hkk : (sp.kind = kind) = True := eq_true hk2
            rw [hrf hk2] at hwk
            simp only [goesI] at hwk
            have hng : ((0 : Int) ≤ -1) = False := eq_false (by omega)
            repeat' (first | ((first | refine o1 rfl ?_ | refine o0 rfl ?_); intro k hk; simp (disch := omega) only [ev0, sl_cells, simprocAttr, slOf, Spot.cs, hsp, hkk, hng, decide_true, decide_false, Bool.not_true]; refine hk _ _ ?_; clear hk k) | refine ono rfl ?_ | (apply ocall; (case he => (simp only [ev0, sl_cells, simprocAttr] <;> rfl)); (case hc => first | exact hwk); (case ht => rfl); (case hg => rfl)) | ((first | refine osplitG rfl (fun h => ?_) (fun h => ?_) | refine osplitB rfl (fun h => ?_) (fun h => ?_)) <;> (fail_if_success (simp only [eq_self, reduceCtorEq] at h))) | refine onx ?_ | refine onb ?_ | refine sreg ?_ | refine qT rfl ?_ | refine qF rfl ?_ | refine scondT rfl ?_ | refine scondF rfl ?_ | refine ocondP rfl (fun h => ?_) (fun h => ?_) | refine ocondB rfl (fun h => ?_) (fun h => ?_) | refine scondP rfl (fun h => ?_) (fun h => ?_) | refine scond rfl (fun h => ?_) (fun h => ?_) | refine oskip ?_ | refine oskipb ?_ | refine oret ?_ | refine sem_ret ?_ | refine sem_seq ?_ | refine sreg1 ?_)
            all_goals
              refine onil (lnext (i + 1) (by omega) (by omega) ?_)
              (refine Le.same ?_; simp only [List.forall_mem_cons, List.forall_mem_nil, getE, selE, Nat.reduceBEq, List.not_mem_nil, false_implies, implies_true, and_true, true_and, and_self])
              all_goals simp [slOf]
          · have hkk : (sp.kind = kind) = False := eq_false hk2
            repeat' (first | ((first | refine o1 rfl ?_ | refine o0 rfl ?_); intro k hk; simp (disch := omega) only [ev0, sl_cells, simprocAttr, slOf, Spot.cs, hsp, hkk, decide_false, Bool.not_false]; refine hk _ _ ?_; clear hk k) | refine ono rfl ?_ | (apply ocall; (case he => (simp only [ev0, sl_cells, simprocAttr] <;> rfl)); (case hc => first | exact hwk); (case ht => rfl); (case hg => rfl)) | ((first | refine osplitG rfl (fun h => ?_) (fun h => ?_) | refine osplitB rfl (fun h => ?_) (fun h => ?_)) <;> (fail_if_success (simp only [eq_self, reduceCtorEq] at h))) | refine onx ?_ | refine onb ?_ | refine sreg ?_ | refine qT rfl ?_ | refine qF rfl ?_ | refine scondT rfl ?_ | refine scondF rfl ?_ | refine ocondP rfl (fun h => ?_) (fun h => ?_) | refine ocondB rfl (fun h => ?_) (fun h => ?_) | refine scondP rfl (fun h => ?_) (fun h => ?_) | refine scond rfl (fun h => ?_) (fun h => ?_) | refine oskip ?_ | refine oskipb ?_ | refine oret ?_ | refine sem_ret ?_ | refine sem_seq ?_ | refine sreg1 ?_)
            (refine sem_exit ?_; change sem _ _ _ _ _)
            repeat' (first | ((first | refine o1 rfl ?_ | refine o0 rfl ?_); intro k hk; simp (disch := omega) only [ev0, sl_cells, simprocAttr]; refine hk _ _ ?_; clear hk k) | refine ono rfl ?_ | ((first | refine osplitG rfl (fun h => ?_) (fun h => ?_) | refine osplitB rfl (fun h => ?_) (fun h => ?_)) <;> (fail_if_success (simp only [eq_self, reduceCtorEq] at h))) | refine onx ?_ | refine onb ?_ | refine sreg ?_ | refine qT rfl ?_ | refine qF rfl ?_ | refine scondT rfl ?_ | refine scondF rfl ?_ | refine ocondP rfl (fun h => ?_) (fun h => ?_) | refine ocondB rfl (fun h => ?_) (fun h => ?_) | refine scondP rfl (fun h => ?_) (fun h => ?_) | refine scond rfl (fun h => ?_) (fun h => ?_) | refine oskip ?_ | refine oskipb ?_ | refine oret ?_ | refine sem_ret ?_ | refine sem_seq ?_ | refine sreg1 ?_)
            refine onil (lnext (i + 1) (by omega) (by omega) ?_)
            (refine Le.same ?_; simp only [List.forall_mem_cons, List.forall_mem_nil, getE, selE, Nat.reduceBEq, List.not_mem_nil, false_implies, implies_true, and_true, true_and, and_self])
            all_goals simp [slOf]
        · have hi' : i = riv.length := by omega
          subst hi'
          (refine sem_exit ?_; change sem _ _ _ _ _)
          repeat' (first | ((first | refine o1 rfl ?_ | refine o0 rfl ?_); intro k hk; simp (disch := omega) only [ev0, sl_cells, simprocAttr, slOf]; refine hk _ _ ?_; clear hk k) | refine ono rfl ?_ | ((first | refine osplitG rfl (fun h => ?_) (fun h => ?_) | refine osplitB rfl (fun h => ?_) (fun h => ?_)) <;> (fail_if_success (simp only [eq_self, reduceCtorEq] at h))) | refine onx ?_ | refine onb ?_ | refine sreg ?_ | refine qT rfl ?_ | refine qF rfl ?_ | refine scondT rfl ?_ | refine scondF rfl ?_ | refine ocondP rfl (fun h => ?_) (fun h => ?_) | refine ocondB rfl (fun h => ?_) (fun h => ?_) | refine scondP rfl (fun h => ?_) (fun h => ?_) | refine scond rfl (fun h => ?_) (fun h => ?_) | refine oskip ?_ | refine oskipb ?_ | refine oret ?_ | refine sem_ret ?_ | refine sem_seq ?_ | refine sreg1 ?_)
          refine sem_block ?_
          
          refine sem_loop (α := Nat) (fun i => ⟨[(0, slOf Spot.cs riv), (9, .nilsl), (11, .hsl 0 0 1 riv.length), (14, I 0), (15, I i)], [.row 4 0 1 (rowF boolCs riv.length fun _ => false)]⟩) (fun i => i ≤ riv.length) (fun i => riv.length - i) 0 (Nat.zero_le _) ?_ ?_
          · (refine Le.same ?_; simp only [List.forall_mem_cons, List.forall_mem_nil, getE, selE, Nat.reduceBEq, List.not_mem_nil, false_implies, implies_true, and_true, true_and, and_self])
            all_goals simp [slOf]
          · intro i hi
            repeat' (first | ((first | refine o1 rfl ?_ | refine o0 rfl ?_); intro k hk; simp (disch := omega) only [ev0, sl_cells, simprocAttr, slOf]; refine hk _ _ ?_; clear hk k) | refine ono rfl ?_ | ((first | refine osplitG rfl (fun h => ?_) (fun h => ?_) | refine osplitB rfl (fun h => ?_) (fun h => ?_)) <;> (fail_if_success (simp only [eq_self, reduceCtorEq] at h))) | refine onx ?_ | refine onb ?_ | refine sreg ?_ | refine qT rfl ?_ | refine qF rfl ?_ | refine scondT rfl ?_ | refine scondF rfl ?_ | refine ocondP rfl (fun h => ?_) (fun h => ?_) | refine ocondB rfl (fun h => ?_) (fun h => ?_) | refine scondP rfl (fun h => ?_) (fun h => ?_) | refine scond rfl (fun h => ?_) (fun h => ?_) | refine oskip ?_ | refine oskipb ?_ | refine oret ?_ | refine sem_ret ?_ | refine sem_seq ?_ | refine sreg1 ?_)
            · have hi' : i < riv.length := by omega
              have hget := rowF_get (enc := boolCs) (f := fun _ => false) hi'
              refine sem_block ?_
              repeat' (first | ((first | refine o1 rfl ?_ | refine o0 rfl ?_); intro k hk; simp (disch := omega) only [ev0, sl_cells, simprocAttr, slOf, hget, boolCs]; refine hk _ _ ?_; clear hk k) | refine ono rfl ?_ | ((first | refine osplitG rfl (fun h => ?_) (fun h => ?_) | refine osplitB rfl (fun h => ?_) (fun h => ?_)) <;> (fail_if_success (simp only [eq_self, reduceCtorEq] at h))) | refine onx ?_ | refine onb ?_ | refine sreg ?_ | refine qT rfl ?_ | refine qF rfl ?_ | refine scondT rfl ?_ | refine scondF rfl ?_ | refine ocondP rfl (fun h => ?_) (fun h => ?_) | refine ocondB rfl (fun h => ?_) (fun h => ?_) | refine scondP rfl (fun h => ?_) (fun h => ?_) | refine scond rfl (fun h => ?_) (fun h => ?_) | refine oskip ?_ | refine oskipb ?_ | refine oret ?_ | refine sem_ret ?_ | refine sem_seq ?_ | refine sreg1 ?_)
              refine onil (lnext (i + 1) (by omega) (by omega) ?_)
              (refine Le.same ?_; simp only [List.forall_mem_cons, List.forall_mem_nil, getE, selE, Nat.reduceBEq, List.not_mem_nil, false_implies, implies_true, and_true, true_and, and_self])
              all_goals simp [slOf]
            · (refine sem_exit ?_; change sem _ _ _ _ _)
              repeat' (first | ((first | refine o1 rfl ?_ | refine o0 rfl ?_); intro k hk; simp (disch := omega) only [ev0, sl_cells, simprocAttr, slOf]; refine hk _ _ ?_; clear hk k) | refine ono rfl ?_ | ((first | refine osplitG rfl (fun h => ?_) (fun h => ?_) | refine osplitB rfl (fun h => ?_) (fun h => ?_)) <;> (fail_if_success (simp only [eq_self, reduceCtorEq] at h))) | refine onx ?_ | refine onb ?_ | refine sreg ?_ | refine qT rfl ?_ | refine qF rfl ?_ | refine scondT rfl ?_ | refine scondF rfl ?_ | refine ocondP rfl (fun h => ?_) (fun h => ?_) | refine ocondB rfl (fun h => ?_) (fun h => ?_) | refine scondP rfl (fun h => ?_) (fun h => ?_) | refine scond rfl (fun h => ?_) (fun h => ?_) | refine oskip ?_ | refine oskipb ?_ | refine oret ?_ | refine sem_ret ?_ | refine sem_seq ?_ | refine sreg1 ?_)
              refine sem_block ?_
              
              refine sem_loop (α := Nat) (fun i => ⟨[(0, slOf Spot.cs riv), (9, .nilsl), (11, .hsl 0 0 1 riv.length), (14, I 0), (16, I i)], [.row 4 0 1 (rowF boolCs riv.length fun _ => false)]⟩) (fun i => i = 0) (fun i => 0) 0 rfl ?_ ?_
              · (refine Le.same ?_; simp only [List.forall_mem_cons, List.forall_mem_nil, getE, selE, Nat.reduceBEq, List.not_mem_nil, false_implies, implies_true, and_true, true_and, and_self])
                all_goals simp [slOf]
              · rintro i rfl
                repeat' (first | ((first | refine o1 rfl ?_ | refine o0 rfl ?_); intro k hk; simp (disch := omega) only [ev0, sl_cells, simprocAttr, slOf, decide_true, decide_false]; refine hk _ _ ?_; clear hk k) | refine ono rfl ?_ | ((first | refine osplitG rfl (fun h => ?_) (fun h => ?_) | refine osplitB rfl (fun h => ?_) (fun h => ?_)) <;> (fail_if_success (simp only [eq_self, reduceCtorEq] at h))) | refine onx ?_ | refine onb ?_ | refine sreg ?_ | refine qT rfl ?_ | refine qF rfl ?_ | refine scondT rfl ?_ | refine scondF rfl ?_ | refine ocondP rfl (fun h => ?_) (fun h => ?_) | refine ocondB rfl (fun h => ?_) (fun h => ?_) | refine scondP rfl (fun h => ?_) (fun h => ?_) | refine scond rfl (fun h => ?_) (fun h => ?_) | refine oskip ?_ | refine oskipb ?_ | refine oret ?_ | refine sem_ret ?_ | refine sem_seq ?_ | refine sreg1 ?_)
                (refine sem_exit ?_; change sem _ _ _ _ _)
                repeat' (first | ((first | refine o1 rfl ?_ | refine o0 rfl ?_); intro k hk; simp (disch := omega) only [ev0, sl_cells, simprocAttr, slOf, decide_true]; refine hk _ _ ?_; clear hk k) | refine ono rfl ?_ | (apply ocall; (case he => (simp only [ev0, sl_cells, simprocAttr] <;> rfl)); (case hc => first | exact hkn); (case ht => rfl); (case hg => rfl)) | ((first | refine osplitG rfl (fun h => ?_) (fun h => ?_) | refine osplitB rfl (fun h => ?_) (fun h => ?_)) <;> (fail_if_success (simp only [eq_self, reduceCtorEq] at h))) | refine onx ?_ | refine onb ?_ | refine sreg ?_ | refine qT rfl ?_ | refine qF rfl ?_ | refine scondT rfl ?_ | refine scondF rfl ?_ | refine ocondP rfl (fun h => ?_) (fun h => ?_) | refine ocondB rfl (fun h => ?_) (fun h => ?_) | refine scondP rfl (fun h => ?_) (fun h => ?_) | refine scond rfl (fun h => ?_) (fun h => ?_) | refine oskip ?_ | refine oskipb ?_ | refine oret ?_ | refine sem_ret ?_ | refine sem_seq ?_ | refine sreg1 ?_)
                exact ⟨_, rfl, _, rfl, tree_eq rfl rfl⟩
    · rw [if_neg hnn] at hfd
      have hml2 : ((hereL (nowTo riv kind steps steps.length) riv.length).map fun n : Nat => (n : Int)).length = (hereL (nowTo riv kind steps steps.length) riv.length).length := List.length_map _
      have hpos : 0 < (hereL (nowTo riv kind steps steps.length) riv.length).length := by
        obtain ⟨x, hx⟩ := List.exists_mem_of_ne_nil _ hnn
        exact List.length_pos_of_mem (mem_hereL.2 ⟨hno.2 x hx, hx⟩)
      have hpp : ((0 : Int) < (hereL (nowTo riv kind steps steps.length) riv.length).length) = True := eq_true (by omega)
      have hgt : ((riv.length : Int) < (hereL (nowTo riv kind steps steps.length) riv.length).length) = False := eq_false (by omega)
      have hhd := fun n => law09_holding hG ((hereL (nowTo riv kind steps steps.length) riv.length).map fun n : Nat => (n : Int)) n (by omega)
      have hmn : ∀ i q, i < riv.length → (riv.getD i default).kind = kind → walkTo riv steps i steps.length = some q → ((hereL (nowTo riv kind steps steps.length) riv.length).map fun n : Nat => (n : Int)).filter (fun x => decide (x = (q : Int))) = [(q : Int)] := fun i q w1 w2 w3 => by
        have hq := (mem_nowTo (Nat.le_refl _)).2 ⟨i, w1, w2, w3⟩
        exact filterI_one (hereL_nodup _ _) (mem_hereL.2 ⟨hno.2 q hq, hq⟩)
      have hmg : ∀ i, i < (hereL (nowTo riv kind steps steps.length) riv.length).length → ((hereL (nowTo riv kind steps steps.length) riv.length).map fun n : Nat => (n : Int)).getD i default = (((hereL (nowTo riv kind steps steps.length) riv.length).getD i default : Nat) : Int) := fun i hi => by
        rw [getD_lt (by rw [List.length_map]; exact hi), getD_lt hi, List.getElem_map]
      have hmm : ∀ i, i < (hereL (nowTo riv kind steps steps.length) riv.length).length → (hereL (nowTo riv kind steps steps.length) riv.length).getD i default < riv.length ∧ (hereL (nowTo riv kind steps steps.length) riv.length).getD i default ∈ nowTo riv kind steps steps.length := fun i hi => mem_hereL.1 (mem_getD hi)
      have hlt2 := fun i => hereL_lt (nowTo riv kind steps steps.length) riv.length (i := i)
      have hhs := fun i => hereL_succ (now := nowTo riv kind steps steps.length) (n := i)
      have hhl2 := fun i => hereL_len (nowTo riv kind steps steps.length) i
      generalize ((hereL (nowTo riv kind steps steps.length) riv.length).map fun n : Nat => (n : Int)) = ml at *
      (refine holds_of_sem hG fn_law09_SpeakGone (by simp) fun w0 S0 hG0 D0 => ?_; unfold c_law09_SpeakGone cval enterEnv; simp only [List.zipIdx_cons, List.zipIdx_nil, List.map_cons, List.map_nil, Nat.zero_add, Nat.reduceAdd])
      repeat' (first | ((first | refine o1 rfl ?_ | refine o0 rfl ?_); intro k hk; simp (disch := omega) only [ev0, sl_cells, simprocAttr, slOf, h1, h2, hml2, hpp, hgt, decide_false, decide_true, Bool.not_true, Bool.not_false]; refine hk _ _ ?_; clear hk k) | refine ono rfl ?_ | (apply ocall; (case he => (simp only [ev0, sl_cells, simprocAttr] <;> rfl)); (case hc => first | exact hrv | exact hrp | exact hfd); (case ht => rfl); (case hg => rfl)) | ((first | refine osplitG rfl (fun h => ?_) (fun h => ?_) | refine osplitB rfl (fun h => ?_) (fun h => ?_)) <;> (fail_if_success (simp only [eq_self, reduceCtorEq] at h))) | refine onx ?_ | refine onb ?_ | refine sreg ?_ | refine qT rfl ?_ | refine qF rfl ?_ | refine scondT rfl ?_ | refine scondF rfl ?_ | refine ocondP rfl (fun h => ?_) (fun h => ?_) | refine ocondB rfl (fun h => ?_) (fun h => ?_) | refine scondP rfl (fun h => ?_) (fun h => ?_) | refine scond rfl (fun h => ?_) (fun h => ?_) | refine oskip ?_ | refine oskipb ?_ | refine oret ?_ | refine sem_ret ?_ | refine sem_seq ?_ | refine sreg1 ?_)
      refine sem_block ?_
      rw [rep_rowF]
      
      refine sem_loop (α := Nat) (fun i => ⟨[(0, slOf Spot.cs riv), (1, I kind), (2, slOf Stp.cs steps), (3, I from_), (9, slOf intCs ml), (11, .hsl 0 0 1 riv.length), (12, I i)], [.row 4 0 1 (rowF boolCs riv.length (reachB riv kind steps i))]⟩) (fun i => i ≤ riv.length) (fun i => riv.length - i) 0 (Nat.zero_le _) ?_ ?_
      · (refine Le.same ?_; simp only [List.forall_mem_cons, List.forall_mem_nil, getE, selE, Nat.reduceBEq, List.not_mem_nil, false_implies, implies_true, and_true, true_and, and_self])
        all_goals simp [slOf, hml2]
        all_goals rfl
      · intro i hi
        repeat' (first | ((first | refine o1 rfl ?_ | refine o0 rfl ?_); intro k hk; simp (disch := omega) only [ev0, sl_cells, simprocAttr, slOf]; refine hk _ _ ?_; clear hk k) | refine ono rfl ?_ | ((first | refine osplitG rfl (fun h => ?_) (fun h => ?_) | refine osplitB rfl (fun h => ?_) (fun h => ?_)) <;> (fail_if_success (simp only [eq_self, reduceCtorEq] at h))) | refine onx ?_ | refine onb ?_ | refine sreg ?_ | refine qT rfl ?_ | refine qF rfl ?_ | refine scondT rfl ?_ | refine scondF rfl ?_ | refine ocondP rfl (fun h => ?_) (fun h => ?_) | refine ocondB rfl (fun h => ?_) (fun h => ?_) | refine scondP rfl (fun h => ?_) (fun h => ?_) | refine scond rfl (fun h => ?_) (fun h => ?_) | refine oskip ?_ | refine oskipb ?_ | refine oret ?_ | refine sem_ret ?_ | refine sem_seq ?_ | refine sreg1 ?_)
        · have hi' : i < riv.length := by omega
          have hwk := hwk i hi'
          have hwlt := fun a => hwlt i a hi'
          have hrs := hrs i
          have hmn := fun q => hmn i q hi'
          refine sem_block ?_
          generalize hsp : riv.getD i default = sp at *
          by_cases hk2 : sp.kind = kind
          · have hkk : (sp.kind = kind) = True := eq_true hk2
            simp only [hk2, decide_true, Bool.true_and] at hrs
            cases hw : walkTo riv steps i steps.length with
            | none =>
              rw [hw] at hwk
              simp only [goesI] at hwk
              have hng : ((0 : Int) ≤ -1) = False := eq_false (by omega)
              repeat' (first | ((first | refine o1 rfl ?_ | refine o0 rfl ?_); intro k hk; simp (disch := omega) only [ev0, sl_cells, simprocAttr, slOf, Spot.cs, hsp, hkk, hng, decide_true, decide_false, Bool.not_true]; refine hk _ _ ?_; clear hk k) | refine ono rfl ?_ | (apply ocall; (case he => (simp only [ev0, sl_cells, simprocAttr] <;> rfl)); (case hc => first | exact hwk); (case ht => rfl); (case hg => rfl)) | ((first | refine osplitG rfl (fun h => ?_) (fun h => ?_) | refine osplitB rfl (fun h => ?_) (fun h => ?_)) <;> (fail_if_success (simp only [eq_self, reduceCtorEq] at h))) | refine onx ?_ | refine onb ?_ | refine sreg ?_ | refine qT rfl ?_ | refine qF rfl ?_ | refine scondT rfl ?_ | refine scondF rfl ?_ | refine ocondP rfl (fun h => ?_) (fun h => ?_) | refine ocondB rfl (fun h => ?_) (fun h => ?_) | refine scondP rfl (fun h => ?_) (fun h => ?_) | refine scond rfl (fun h => ?_) (fun h => ?_) | refine oskip ?_ | refine oskipb ?_ | refine oret ?_ | refine sem_ret ?_ | refine sem_seq ?_ | refine sreg1 ?_)
              all_goals
                refine onil (lnext (i + 1) (by omega) (by omega) ?_)
                rw [rowF_ext (f := reachB riv kind steps (i + 1)) (g := reachB riv kind steps i) (fun j hj => by rw [hrs j, hw]; simp)]
                (refine Le.same ?_; simp only [List.forall_mem_cons, List.forall_mem_nil, getE, selE, Nat.reduceBEq, List.not_mem_nil, false_implies, implies_true, and_true, true_and, and_self])
                all_goals simp [slOf]
            | some q =>
              rw [hw] at hwk
              simp only [goesI] at hwk
              have hql := hwlt q hw
              have hmn := hmn q hk2 hw
              have hng : ((0 : Int) ≤ (q : Int)) = True := eq_true (by omega)
              have hget2 := rowF_get (enc := boolCs) (f := reachB riv kind steps i) hql
              by_cases hif : (i : Int) = from_
              · have hiff : ((i : Int) = from_) = True := eq_true hif
                have hhq := hhd (q : Int)
                rw [hmn] at hhq
                have hsm := ref09_Same hG [(q : Int)] [(q : Int)] (by simp) (by simp)
                rw [decide_eq_true rfl] at hsm
                repeat' (first | ((first | refine o1 rfl ?_ | refine o0 rfl ?_); intro k hk; simp (disch := omega) only [ev0, sl_cells, simprocAttr, slOf, Spot.cs, hsp, hkk, hng, hiff, hget2, boolCs, rowF_len, decide_true, decide_false, Bool.not_true]; refine hk _ _ ?_; clear hk k) | refine ono rfl ?_ | (apply ocall; (case he => (simp only [ev0, sl_cells, simprocAttr] <;> rfl)); (case hc => first | exact hwk | exact hhq); (case ht => rfl); (case hg => rfl)) | ((first | refine osplitG rfl (fun h => ?_) (fun h => ?_) | refine osplitB rfl (fun h => ?_) (fun h => ?_)) <;> (fail_if_success (simp only [eq_self, reduceCtorEq] at h))) | refine onx ?_ | refine onb ?_ | refine sreg ?_ | refine qT rfl ?_ | refine qF rfl ?_ | refine scondT rfl ?_ | refine scondF rfl ?_ | refine ocondP rfl (fun h => ?_) (fun h => ?_) | refine ocondB rfl (fun h => ?_) (fun h => ?_) | refine scondP rfl (fun h => ?_) (fun h => ?_) | refine scond rfl (fun h => ?_) (fun h => ?_) | refine oskip ?_ | refine oskipb ?_ | refine oret ?_ | refine sem_ret ?_ | refine sem_seq ?_ | refine sreg1 ?_)
                refine olend (ts := [slOf intCs [(q : Int)], slOf intCs [(q : Int)]]) hsm rfl (fun i' c t qa qb => ?_) rfl rfl ?_
                · match i', qa, qb with
                  | 0, qa, qb => simp [getE, evX, selE] at qa qb; subst qa; subst qb; exact .same rfl
                  | 1, qa, qb => simp [getE, evX, selE] at qa qb; subst qa; subst qb; exact tree_rowN (l := [(q : Int)]) rfl rfl (fun _ => rfl) fun _ => rfl
                  | i' + 2, qa, qb => simp at qa
                · repeat' (first | ((first | refine o1 rfl ?_ | refine o0 rfl ?_); intro k hk; simp (disch := omega) only [ev0, sl_cells, simprocAttr, slOf, Bool.not_true]; refine hk _ _ ?_; clear hk k) | refine ono rfl ?_ | ((first | refine osplitG rfl (fun h => ?_) (fun h => ?_) | refine osplitB rfl (fun h => ?_) (fun h => ?_)) <;> (fail_if_success (simp only [eq_self, reduceCtorEq] at h))) | refine onx ?_ | refine onb ?_ | refine sreg ?_ | refine qT rfl ?_ | refine qF rfl ?_ | refine scondT rfl ?_ | refine scondF rfl ?_ | refine ocondP rfl (fun h => ?_) (fun h => ?_) | refine ocondB rfl (fun h => ?_) (fun h => ?_) | refine scondP rfl (fun h => ?_) (fun h => ?_) | refine scond rfl (fun h => ?_) (fun h => ?_) | refine oskip ?_ | refine oskipb ?_ | refine oret ?_ | refine sem_ret ?_ | refine sem_seq ?_ | refine sreg1 ?_)
                  refine onil (lnext (i + 1) (by omega) (by omega) ?_)
                  rw [show [AV.bool true] = boolCs true from rfl, rowF_set, rowF_ext (f := reachB riv kind steps (i + 1)) (g := fun k => if k = q then true else reachB riv kind steps i k) (fun j hj => by
                    rw [hrs j, hw]
                    by_cases e : j = q
                    · subst e; simp
                    · have : ¬ q = j := fun z => e z.symm
                      simp [e, this])]
                  (refine Le.drop ?_ rfl (by simp) rfl (by simp only [refM, refO, List.all_cons, List.all_nil, Bool.and_true, Bool.true_and, all_rowF (enc := boolCs) (fun _ _ => rfl)]; first | done | rfl) ; simp only [List.forall_mem_cons, List.forall_mem_nil, getE, selE, Nat.reduceBEq, List.not_mem_nil, false_implies, implies_true, and_true, true_and, and_self])
                  all_goals simp [slOf]
              · have hiff : ((i : Int) = from_) = False := eq_false hif
                repeat' (first | ((first | refine o1 rfl ?_ | refine o0 rfl ?_); intro k hk; simp (disch := omega) only [ev0, sl_cells, simprocAttr, slOf, Spot.cs, hsp, hkk, hng, hiff, hget2, boolCs, rowF_len, decide_true, decide_false, Bool.not_true]; refine hk _ _ ?_; clear hk k) | refine ono rfl ?_ | (apply ocall; (case he => (simp only [ev0, sl_cells, simprocAttr] <;> rfl)); (case hc => first | exact hwk); (case ht => rfl); (case hg => rfl)) | ((first | refine osplitG rfl (fun h => ?_) (fun h => ?_) | refine osplitB rfl (fun h => ?_) (fun h => ?_)) <;> (fail_if_success (simp only [eq_self, reduceCtorEq] at h))) | refine onx ?_ | refine onb ?_ | refine sreg ?_ | refine qT rfl ?_ | refine qF rfl ?_ | refine scondT rfl ?_ | refine scondF rfl ?_ | refine ocondP rfl (fun h => ?_) (fun h => ?_) | refine ocondB rfl (fun h => ?_) (fun h => ?_) | refine scondP rfl (fun h => ?_) (fun h => ?_) | refine scond rfl (fun h => ?_) (fun h => ?_) | refine oskip ?_ | refine oskipb ?_ | refine oret ?_ | refine sem_ret ?_ | refine sem_seq ?_ | refine sreg1 ?_)
                refine onil (lnext (i + 1) (by omega) (by omega) ?_)
                rw [show [AV.bool true] = boolCs true from rfl, rowF_set, rowF_ext (f := reachB riv kind steps (i + 1)) (g := fun k => if k = q then true else reachB riv kind steps i k) (fun j hj => by
                  rw [hrs j, hw]
                  by_cases e : j = q
                  · subst e; simp
                  · have : ¬ q = j := fun z => e z.symm
                    simp [e, this])]
                (refine Le.same ?_; simp only [List.forall_mem_cons, List.forall_mem_nil, getE, selE, Nat.reduceBEq, List.not_mem_nil, false_implies, implies_true, and_true, true_and, and_self])
                all_goals simp [slOf]
          · have hkk : (sp.kind = kind) = False := eq_false hk2
            simp only [hk2, decide_false, Bool.false_and, Bool.or_false] at hrs
            repeat' (first | ((first | refine o1 rfl ?_ | refine o0 rfl ?_); intro k hk; simp (disch := omega) only [ev0, sl_cells, simprocAttr, slOf, Spot.cs, hsp, hkk, decide_false, Bool.not_false]; refine hk _ _ ?_; clear hk k) | refine ono rfl ?_ | (apply ocall; (case he => (simp only [ev0, sl_cells, simprocAttr] <;> rfl)); (case hc => first | exact hwk); (case ht => rfl); (case hg => rfl)) | ((first | refine osplitG rfl (fun h => ?_) (fun h => ?_) | refine osplitB rfl (fun h => ?_) (fun h => ?_)) <;> (fail_if_success (simp only [eq_self, reduceCtorEq] at h))) | refine onx ?_ | refine onb ?_ | refine sreg ?_ | refine qT rfl ?_ | refine qF rfl ?_ | refine scondT rfl ?_ | refine scondF rfl ?_ | refine ocondP rfl (fun h => ?_) (fun h => ?_) | refine ocondB rfl (fun h => ?_) (fun h => ?_) | refine scondP rfl (fun h => ?_) (fun h => ?_) | refine scond rfl (fun h => ?_) (fun h => ?_) | refine oskip ?_ | refine oskipb ?_ | refine oret ?_ | refine sem_ret ?_ | refine sem_seq ?_ | refine sreg1 ?_)
            (refine sem_exit ?_; change sem _ _ _ _ _)
            repeat' (first | ((first | refine o1 rfl ?_ | refine o0 rfl ?_); intro k hk; simp (disch := omega) only [ev0, sl_cells, simprocAttr]; refine hk _ _ ?_; clear hk k) | refine ono rfl ?_ | ((first | refine osplitG rfl (fun h => ?_) (fun h => ?_) | refine osplitB rfl (fun h => ?_) (fun h => ?_)) <;> (fail_if_success (simp only [eq_self, reduceCtorEq] at h))) | refine onx ?_ | refine onb ?_ | refine sreg ?_ | refine qT rfl ?_ | refine qF rfl ?_ | refine scondT rfl ?_ | refine scondF rfl ?_ | refine ocondP rfl (fun h => ?_) (fun h => ?_) | refine ocondB rfl (fun h => ?_) (fun h => ?_) | refine scondP rfl (fun h => ?_) (fun h => ?_) | refine scond rfl (fun h => ?_) (fun h => ?_) | refine oskip ?_ | refine oskipb ?_ | refine oret ?_ | refine sem_ret ?_ | refine sem_seq ?_ | refine sreg1 ?_)
            refine onil (lnext (i + 1) (by omega) (by omega) ?_)
            rw [rowF_ext (f := reachB riv kind steps (i + 1)) (g := reachB riv kind steps i) (fun j hj => hrs j)]
            (refine Le.same ?_; simp only [List.forall_mem_cons, List.forall_mem_nil, getE, selE, Nat.reduceBEq, List.not_mem_nil, false_implies, implies_true, and_true, true_and, and_self])
            all_goals simp [slOf]
        · have hi' : i = riv.length := by omega
          subst hi'
          rw [rowF_ext (f := reachB riv kind steps riv.length) (g := fun j => decide (j ∈ nowTo riv kind steps steps.length)) (fun j hj => hre j)]
          clear hre hrs hwk hmn hhd hfd
          generalize nowTo riv kind steps steps.length = now at *
          (refine sem_exit ?_; change sem _ _ _ _ _)
          repeat' (first | ((first | refine o1 rfl ?_ | refine o0 rfl ?_); intro k hk; simp (disch := omega) only [ev0, sl_cells, simprocAttr, slOf]; refine hk _ _ ?_; clear hk k) | refine ono rfl ?_ | ((first | refine osplitG rfl (fun h => ?_) (fun h => ?_) | refine osplitB rfl (fun h => ?_) (fun h => ?_)) <;> (fail_if_success (simp only [eq_self, reduceCtorEq] at h))) | refine onx ?_ | refine onb ?_ | refine sreg ?_ | refine qT rfl ?_ | refine qF rfl ?_ | refine scondT rfl ?_ | refine scondF rfl ?_ | refine ocondP rfl (fun h => ?_) (fun h => ?_) | refine ocondB rfl (fun h => ?_) (fun h => ?_) | refine scondP rfl (fun h => ?_) (fun h => ?_) | refine scond rfl (fun h => ?_) (fun h => ?_) | refine oskip ?_ | refine oskipb ?_ | refine oret ?_ | refine sem_ret ?_ | refine sem_seq ?_ | refine sreg1 ?_)
          refine sem_block ?_
          
          refine sem_loop (α := Nat) (fun i => ⟨[(0, slOf Spot.cs riv), (9, slOf intCs ml), (11, .hsl 0 0 1 riv.length), (14, I (hereL now i).length), (15, I i)], [.row 4 0 1 (rowF boolCs riv.length fun j => decide (j ∈ now))]⟩) (fun i => i ≤ riv.length) (fun i => riv.length - i) 0 (Nat.zero_le _) ?_ ?_
          · (refine Le.same ?_; simp only [List.forall_mem_cons, List.forall_mem_nil, getE, selE, Nat.reduceBEq, List.not_mem_nil, false_implies, implies_true, and_true, true_and, and_self])
            all_goals simp [slOf, hereL]
          · intro i hi
            have hhs := hhs i
            have hhl2 := hhl2 i
            repeat' (first | ((first | refine o1 rfl ?_ | refine o0 rfl ?_); intro k hk; simp (disch := omega) only [ev0, sl_cells, simprocAttr, slOf]; refine hk _ _ ?_; clear hk k) | refine ono rfl ?_ | ((first | refine osplitG rfl (fun h => ?_) (fun h => ?_) | refine osplitB rfl (fun h => ?_) (fun h => ?_)) <;> (fail_if_success (simp only [eq_self, reduceCtorEq] at h))) | refine onx ?_ | refine onb ?_ | refine sreg ?_ | refine qT rfl ?_ | refine qF rfl ?_ | refine scondT rfl ?_ | refine scondF rfl ?_ | refine ocondP rfl (fun h => ?_) (fun h => ?_) | refine ocondB rfl (fun h => ?_) (fun h => ?_) | refine scondP rfl (fun h => ?_) (fun h => ?_) | refine scond rfl (fun h => ?_) (fun h => ?_) | refine oskip ?_ | refine oskipb ?_ | refine oret ?_ | refine sem_ret ?_ | refine sem_seq ?_ | refine sreg1 ?_)
            · have hi' : i < riv.length := by omega
              have hget := rowF_get (enc := boolCs) (f := fun j => decide (j ∈ now)) hi'
              refine sem_block ?_
              by_cases hin : i ∈ now
              · simp only [hin, decide_true] at hget
                rw [if_pos hin] at hhs
                repeat' (first | ((first | refine o1 rfl ?_ | refine o0 rfl ?_); intro k hk; simp (disch := omega) only [ev0, sl_cells, simprocAttr, slOf, hget, boolCs]; refine hk _ _ ?_; clear hk k) | refine ono rfl ?_ | ((first | refine osplitG rfl (fun h => ?_) (fun h => ?_) | refine osplitB rfl (fun h => ?_) (fun h => ?_)) <;> (fail_if_success (simp only [eq_self, reduceCtorEq] at h))) | refine onx ?_ | refine onb ?_ | refine sreg ?_ | refine qT rfl ?_ | refine qF rfl ?_ | refine scondT rfl ?_ | refine scondF rfl ?_ | refine ocondP rfl (fun h => ?_) (fun h => ?_) | refine ocondB rfl (fun h => ?_) (fun h => ?_) | refine scondP rfl (fun h => ?_) (fun h => ?_) | refine scond rfl (fun h => ?_) (fun h => ?_) | refine oskip ?_ | refine oskipb ?_ | refine oret ?_ | refine sem_ret ?_ | refine sem_seq ?_ | refine sreg1 ?_)
                refine onil (lnext (i + 1) (by omega) (by omega) ?_)
                rw [hhs, List.length_append]
                (refine Le.same ?_; simp only [List.forall_mem_cons, List.forall_mem_nil, getE, selE, Nat.reduceBEq, List.not_mem_nil, false_implies, implies_true, and_true, true_and, and_self])
                all_goals simp [slOf]
              · simp only [hin, decide_false] at hget
                rw [if_neg hin] at hhs
                repeat' (first | ((first | refine o1 rfl ?_ | refine o0 rfl ?_); intro k hk; simp (disch := omega) only [ev0, sl_cells, simprocAttr, slOf, hget, boolCs]; refine hk _ _ ?_; clear hk k) | refine ono rfl ?_ | ((first | refine osplitG rfl (fun h => ?_) (fun h => ?_) | refine osplitB rfl (fun h => ?_) (fun h => ?_)) <;> (fail_if_success (simp only [eq_self, reduceCtorEq] at h))) | refine onx ?_ | refine onb ?_ | refine sreg ?_ | refine qT rfl ?_ | refine qF rfl ?_ | refine scondT rfl ?_ | refine scondF rfl ?_ | refine ocondP rfl (fun h => ?_) (fun h => ?_) | refine ocondB rfl (fun h => ?_) (fun h => ?_) | refine scondP rfl (fun h => ?_) (fun h => ?_) | refine scond rfl (fun h => ?_) (fun h => ?_) | refine oskip ?_ | refine oskipb ?_ | refine oret ?_ | refine sem_ret ?_ | refine sem_seq ?_ | refine sreg1 ?_)
                refine onil (lnext (i + 1) (by omega) (by omega) ?_)
                rw [hhs]
                (refine Le.same ?_; simp only [List.forall_mem_cons, List.forall_mem_nil, getE, selE, Nat.reduceBEq, List.not_mem_nil, false_implies, implies_true, and_true, true_and, and_self])
                all_goals simp [slOf]
            · have hi' : i = riv.length := by omega
              subst hi'
              (refine sem_exit ?_; change sem _ _ _ _ _)
              repeat' (first | ((first | refine o1 rfl ?_ | refine o0 rfl ?_); intro k hk; simp (disch := omega) only [ev0, sl_cells, simprocAttr, slOf]; refine hk _ _ ?_; clear hk k) | refine ono rfl ?_ | ((first | refine osplitG rfl (fun h => ?_) (fun h => ?_) | refine osplitB rfl (fun h => ?_) (fun h => ?_)) <;> (fail_if_success (simp only [eq_self, reduceCtorEq] at h))) | refine onx ?_ | refine onb ?_ | refine sreg ?_ | refine qT rfl ?_ | refine qF rfl ?_ | refine scondT rfl ?_ | refine scondF rfl ?_ | refine ocondP rfl (fun h => ?_) (fun h => ?_) | refine ocondB rfl (fun h => ?_) (fun h => ?_) | refine scondP rfl (fun h => ?_) (fun h => ?_) | refine scond rfl (fun h => ?_) (fun h => ?_) | refine oskip ?_ | refine oskipb ?_ | refine oret ?_ | refine sem_ret ?_ | refine sem_seq ?_ | refine sreg1 ?_)
              refine sem_block ?_
              
              refine sem_loop (α := Nat) (fun i => ⟨[(0, slOf Spot.cs riv), (9, slOf intCs ml), (11, .hsl 0 0 1 riv.length), (14, I (hereL now riv.length).length), (16, I i)], [.row 4 0 1 (rowF boolCs riv.length fun j => decide (j ∈ now))]⟩) (fun i => i ≤ (hereL now riv.length).length) (fun i => (hereL now riv.length).length - i) 0 (Nat.zero_le _) ?_ ?_
              · (refine Le.same ?_; simp only [List.forall_mem_cons, List.forall_mem_nil, getE, selE, Nat.reduceBEq, List.not_mem_nil, false_implies, implies_true, and_true, true_and, and_self])
                all_goals simp [slOf]
              · intro i hi
                repeat' (first | ((first | refine o1 rfl ?_ | refine o0 rfl ?_); intro k hk; simp (disch := omega) only [ev0, sl_cells, simprocAttr, slOf, hml2]; refine hk _ _ ?_; clear hk k) | refine ono rfl ?_ | ((first | refine osplitG rfl (fun h => ?_) (fun h => ?_) | refine osplitB rfl (fun h => ?_) (fun h => ?_)) <;> (fail_if_success (simp only [eq_self, reduceCtorEq] at h))) | refine onx ?_ | refine onb ?_ | refine sreg ?_ | refine qT rfl ?_ | refine qF rfl ?_ | refine scondT rfl ?_ | refine scondF rfl ?_ | refine ocondP rfl (fun h => ?_) (fun h => ?_) | refine ocondB rfl (fun h => ?_) (fun h => ?_) | refine scondP rfl (fun h => ?_) (fun h => ?_) | refine scond rfl (fun h => ?_) (fun h => ?_) | refine oskip ?_ | refine oskipb ?_ | refine oret ?_ | refine sem_ret ?_ | refine sem_seq ?_ | refine sreg1 ?_)
                · have hi' : i < (hereL now riv.length).length := by omega
                  obtain ⟨m1, m2⟩ := hmm i hi'
                  have hmg1 := hmg i hi'
                  refine sem_block ?_
                  have hget := rowF_get (enc := boolCs) (f := fun j => decide (j ∈ now)) m1
                  simp only [m2, decide_true] at hget
                  have hx0 : ((((hereL now riv.length).getD i default : Nat) : Int) < 0) = False := eq_false (by omega)
                  have hx1 : ((riv.length : Int) ≤ (((hereL now riv.length).getD i default : Nat) : Int)) = False := eq_false (by omega)
                  cases i with
                  | zero =>
                    generalize (hereL now riv.length).getD 0 default = x at *
                    have hi0 : ((0 : Int) < ((0 : Nat) : Int)) = False := eq_false (by omega)
                    repeat' (first | ((first | refine o1 rfl ?_ | refine o0 rfl ?_); intro k hk; simp (disch := omega) only [ev0, sl_cells, simprocAttr, slOf]; refine hk _ _ ?_; clear hk k) | refine ono rfl ?_ | ((first | refine osplitG rfl (fun h => ?_) (fun h => ?_) | refine osplitB rfl (fun h => ?_) (fun h => ?_)) <;> (fail_if_success (simp only [eq_self, reduceCtorEq] at h))) | refine onx ?_ | refine onb ?_ | refine sreg ?_ | refine qT rfl ?_ | refine qF rfl ?_ | refine scondT rfl ?_ | refine scondF rfl ?_ | refine ocondP rfl (fun h => ?_) (fun h => ?_) | refine ocondB rfl (fun h => ?_) (fun h => ?_) | refine scondP rfl (fun h => ?_) (fun h => ?_) | refine scond rfl (fun h => ?_) (fun h => ?_) | refine oskip ?_ | refine oskipb ?_ | refine oret ?_ | refine sem_ret ?_ | refine sem_seq ?_ | refine sreg1 ?_)
                    ((refine sem_mgo 37 hmix (by kernel_rfl) ?_; simp only [nt]); (repeat' (first | ((first | apply mop | apply mop0); (case hg => rfl); (case hq => rfl); intro k hk; simp (disch := omega) only [ev0, sl_cells, simprocAttr, slOf, intCs, hml2, hmg1, hx0, hx1, hi0, hget, boolCs, decide_true, decide_false, Bool.not_true]; refine hk _ _ rfl ?_; clear hk k) | (apply mno; (case hg => rfl)) | (apply mbox; (case hx => (simp only [wv, simprocAttr] <;> rfl)); (case hg => rfl); (case hall => rfl); (case hr => rfl); simp only [nm, Nat.reduceAdd]) | (apply mbldS; (case hb => (simp (disch := omega) only [ev0, sl_cells, simprocAttr] <;> rfl)); (case hg => rfl); (case hr => rfl); simp only [nm, Nat.reduceAdd]) | ((first | (apply msto (q := 0); (case hq => rfl)) | (apply msto (q := 1); (case hq => rfl)) | (apply msto (q := 2); (case hq => rfl)) | (apply msto (q := 3); (case hq => rfl))); (case hx => (simp only [wv, simprocAttr] <;> rfl)); (case haddr => (simp only [wv, simprocAttr] <;> rfl)); (case hg => rfl); (case hl1 => rfl); (case hl2 => rfl); (case hok => rfl); (case hr => rfl); simp only [nm, Nat.reduceAdd]) | (apply mnil; simp only [SlotR.fin, ns]) | (refine msplit rfl (fun h => ?_) (fun h => ?_) <;> simp only [h] <;> (try simp only [nb] at h)))) <;> (repeat' (first | ((first | refine o1 rfl ?_ | refine o0 rfl ?_); intro k hk; simp (disch := omega) only [ev0, sl_cells, simprocAttr, slOf, intCs, hml2, hmg1, hx0, hx1, hi0, hget, boolCs, decide_true, decide_false, Bool.not_true]; refine hk _ _ ?_; clear hk k) | refine ono rfl ?_ | ((first | refine osplitG rfl (fun h => ?_) (fun h => ?_) | refine osplitB rfl (fun h => ?_) (fun h => ?_)) <;> (fail_if_success (simp only [eq_self, reduceCtorEq] at h))) | refine onx ?_ | refine onb ?_ | refine sreg ?_ | refine qT rfl ?_ | refine qF rfl ?_ | refine scondT rfl ?_ | refine scondF rfl ?_ | refine ocondP rfl (fun h => ?_) (fun h => ?_) | refine ocondB rfl (fun h => ?_) (fun h => ?_) | refine scondP rfl (fun h => ?_) (fun h => ?_) | refine scond rfl (fun h => ?_) (fun h => ?_) | refine oskip ?_ | refine oskipb ?_ | refine oret ?_ | refine sem_ret ?_ | refine sem_seq ?_ | refine sreg1 ?_)))
                    refine onil (lnext 1 (by omega) (by omega) ?_)
                    (refine Le.same ?_; simp only [List.forall_mem_cons, List.forall_mem_nil, getE, selE, Nat.reduceBEq, List.not_mem_nil, false_implies, implies_true, and_true, true_and, and_self])
                    all_goals simp [slOf, hml2]
                  | succ j =>
                    have hi0 : ((0 : Int) < ((j + 1 : Nat) : Int)) = True := eq_true (by omega)
                    have hi1 : ((j + 1 : Nat) : Int) - 1 = ((j : Nat) : Int) := by omega
                    have hmg2 := hmg j (by omega)
                    have hlt := hlt2 j (by omega)
                    generalize (hereL now riv.length).getD (j + 1) default = x at *
                    generalize (hereL now riv.length).getD j default = y at *
                    have hxy : ((x : Int) ≤ (y : Int)) = False := eq_false (by omega)
                    repeat' (first | ((first | refine o1 rfl ?_ | refine o0 rfl ?_); intro k hk; simp (disch := omega) only [ev0, sl_cells, simprocAttr, slOf]; refine hk _ _ ?_; clear hk k) | refine ono rfl ?_ | ((first | refine osplitG rfl (fun h => ?_) (fun h => ?_) | refine osplitB rfl (fun h => ?_) (fun h => ?_)) <;> (fail_if_success (simp only [eq_self, reduceCtorEq] at h))) | refine onx ?_ | refine onb ?_ | refine sreg ?_ | refine qT rfl ?_ | refine qF rfl ?_ | refine scondT rfl ?_ | refine scondF rfl ?_ | refine ocondP rfl (fun h => ?_) (fun h => ?_) | refine ocondB rfl (fun h => ?_) (fun h => ?_) | refine scondP rfl (fun h => ?_) (fun h => ?_) | refine scond rfl (fun h => ?_) (fun h => ?_) | refine oskip ?_ | refine oskipb ?_ | refine oret ?_ | refine sem_ret ?_ | refine sem_seq ?_ | refine sreg1 ?_)
                    ((refine sem_mgo 37 hmix (by kernel_rfl) ?_; simp only [nt]); (repeat' (first | ((first | apply mop | apply mop0); (case hg => rfl); (case hq => rfl); intro k hk; simp (disch := omega) only [ev0, sl_cells, simprocAttr, slOf, intCs, hml2, hmg1, hmg2, hx0, hx1, hi0, hi1, hxy, hget, boolCs, decide_true, decide_false, Bool.not_true]; refine hk _ _ rfl ?_; clear hk k) | (apply mno; (case hg => rfl)) | (apply mbox; (case hx => (simp only [wv, simprocAttr] <;> rfl)); (case hg => rfl); (case hall => rfl); (case hr => rfl); simp only [nm, Nat.reduceAdd]) | (apply mbldS; (case hb => (simp (disch := omega) only [ev0, sl_cells, simprocAttr] <;> rfl)); (case hg => rfl); (case hr => rfl); simp only [nm, Nat.reduceAdd]) | ((first | (apply msto (q := 0); (case hq => rfl)) | (apply msto (q := 1); (case hq => rfl)) | (apply msto (q := 2); (case hq => rfl)) | (apply msto (q := 3); (case hq => rfl))); (case hx => (simp only [wv, simprocAttr] <;> rfl)); (case haddr => (simp only [wv, simprocAttr] <;> rfl)); (case hg => rfl); (case hl1 => rfl); (case hl2 => rfl); (case hok => rfl); (case hr => rfl); simp only [nm, Nat.reduceAdd]) | (apply mnil; simp only [SlotR.fin, ns]) | (refine msplit rfl (fun h => ?_) (fun h => ?_) <;> simp only [h] <;> (try simp only [nb] at h)))) <;> (repeat' (first | ((first | refine o1 rfl ?_ | refine o0 rfl ?_); intro k hk; simp (disch := omega) only [ev0, sl_cells, simprocAttr, slOf, intCs, hml2, hmg1, hmg2, hx0, hx1, hi0, hi1, hxy, hget, boolCs, decide_true, decide_false, Bool.not_true]; refine hk _ _ ?_; clear hk k) | refine ono rfl ?_ | ((first | refine osplitG rfl (fun h => ?_) (fun h => ?_) | refine osplitB rfl (fun h => ?_) (fun h => ?_)) <;> (fail_if_success (simp only [eq_self, reduceCtorEq] at h))) | refine onx ?_ | refine onb ?_ | refine sreg ?_ | refine qT rfl ?_ | refine qF rfl ?_ | refine scondT rfl ?_ | refine scondF rfl ?_ | refine ocondP rfl (fun h => ?_) (fun h => ?_) | refine ocondB rfl (fun h => ?_) (fun h => ?_) | refine scondP rfl (fun h => ?_) (fun h => ?_) | refine scond rfl (fun h => ?_) (fun h => ?_) | refine oskip ?_ | refine oskipb ?_ | refine oret ?_ | refine sem_ret ?_ | refine sem_seq ?_ | refine sreg1 ?_)))
                    refine onil (lnext (j + 1 + 1) (by omega) (by omega) ?_)
                    (refine Le.same ?_; simp only [List.forall_mem_cons, List.forall_mem_nil, getE, selE, Nat.reduceBEq, List.not_mem_nil, false_implies, implies_true, and_true, true_and, and_self])
                    all_goals simp [slOf, hml2]
                · have hi' : i = (hereL now riv.length).length := by omega
                  subst hi'
                  (refine sem_exit ?_; change sem _ _ _ _ _)
                  repeat' (first | ((first | refine o1 rfl ?_ | refine o0 rfl ?_); intro k hk; simp (disch := omega) only [ev0, sl_cells, simprocAttr, slOf, hml2, decide_true]; refine hk _ _ ?_; clear hk k) | refine ono rfl ?_ | (apply ocall; (case he => (simp only [ev0, sl_cells, simprocAttr] <;> rfl)); (case hc => first | exact hkn); (case ht => rfl); (case hg => rfl)) | ((first | refine osplitG rfl (fun h => ?_) (fun h => ?_) | refine osplitB rfl (fun h => ?_) (fun h => ?_)) <;> (fail_if_success (simp only [eq_self, reduceCtorEq] at h))) | refine onx ?_ | refine onb ?_ | refine sreg ?_ | refine qT rfl ?_ | refine qF rfl ?_ | refine scondT rfl ?_ | refine scondF rfl ?_ | refine ocondP rfl (fun h => ?_) (fun h => ?_) | refine ocondB rfl (fun h => ?_) (fun h => ?_) | refine scondP rfl (fun h => ?_) (fun h => ?_) | refine scond rfl (fun h => ?_) (fun h => ?_) | refine oskip ?_ | refine oskipb ?_ | refine oret ?_ | refine sem_ret ?_ | refine sem_seq ?_ | refine sreg1 ?_)
                  exact ⟨_, rfl, _, rfl, tree_eq rfl rfl⟩
end Go.Proofs.YtcllnnjeaidppaaGreatDoor
