/- A river: the reference. -/
import Derived.Test.YtcllnnjeaidppaaGreatDoorPF4
set_option linter.unusedVariables false
set_option linter.unusedSimpArgs false
set_option linter.unusedSectionVars false
set_option maxRecDepth 8000
set_option maxHeartbeats 4000000
namespace Go.Tk
open Go Go.Av
def goesI (o : Option Nat) : Int := match o with | some i => i | none => -1
end Go.Tk
namespace Go.Proofs.YtcllnnjeaidppaaGreatDoor
open Go Go.Av Go.Tk
attribute [local irreducible] Holds sem semL ACalls FnIs
variable {G : World → Prop} (hG : ∀ w w', G w → RowKit.Below w.heap.size w w' → G w')
include hG
theorem ref09_in (x lo hi : Int) : Holds Tryz.prog G F.ref09_in [I x, I lo, I hi] (B (decide (lo ≤ x ∧ x ≤ hi))) := by
  (refine holds_of_sem hG fn_ref09_in (by simp) fun w0 S0 hG0 D0 => ?_; unfold c_ref09_in cval enterEnv; simp only [List.zipIdx_cons, List.zipIdx_nil, List.map_cons, List.map_nil, Nat.zero_add, Nat.reduceAdd])
  repeat' (first | ((first | refine o1 rfl ?_ | refine o0 rfl ?_); intro k hk; simp (disch := omega) only [ev0, sl_cells, simprocAttr]; refine hk _ _ ?_; clear hk k) | refine ono rfl ?_ | ((first | refine osplitG rfl (fun h => ?_) (fun h => ?_) | refine osplitB rfl (fun h => ?_) (fun h => ?_)) <;> (fail_if_success (simp only [eq_self, reduceCtorEq] at h))) | refine onx ?_ | refine onb ?_ | refine sreg ?_ | refine qT rfl ?_ | refine qF rfl ?_ | refine scondT rfl ?_ | refine scondF rfl ?_ | refine ocondP rfl (fun h => ?_) (fun h => ?_) | refine ocondB rfl (fun h => ?_) (fun h => ?_) | refine scondP rfl (fun h => ?_) (fun h => ?_) | refine scond rfl (fun h => ?_) (fun h => ?_) | refine oskip ?_ | refine oskipb ?_ | refine oret ?_ | refine sem_ret ?_ | refine sem_seq ?_ | refine sreg1 ?_)
  all_goals exact ⟨_, rfl, _, rfl, tree_eq rfl (by (try simp only [Bool.not_eq_true', Bool.not_eq_false', decide_eq_true_eq, decide_eq_false_iff_not] at *); simp only [getE, selE, Nat.reduceBEq]; apply congrArg AV.bool; rw [Bool.eq_iff_iff]; simp only [decide_eq_true_eq, Bool.not_eq_true', decide_eq_false_iff_not, Bool.false_eq_true, true_iff, false_iff, iff_true, iff_false, not_true_eq_false, not_false_eq_true]; omega)⟩
theorem ref09_River (l : List Spot) (hl : l.length ≤ 100000) : Holds Tryz.prog G F.ref09_River [slOf Spot.cs l] (B (decide (∀ s ∈ l, s.ok))) := by
  have hb : ∀ i, i < l.length → ¬ (l.getD i default).ok → decide (∀ s ∈ l, s.ok) = false := fun i hi h => decide_eq_false fun q => h (q _ (mem_getD hi))
  have hy : (∀ i, i < l.length → (l.getD i default).ok) → decide (∀ s ∈ l, s.ok) = true := fun h => decide_eq_true (all_getD.2 h)
  generalize decide (∀ s ∈ l, s.ok) = res at *
  (refine holds_of_sem hG fn_ref09_River (by simp) fun w0 S0 hG0 D0 => ?_; unfold c_ref09_River cval enterEnv; simp only [List.zipIdx_cons, List.zipIdx_nil, List.map_cons, List.map_nil, Nat.zero_add, Nat.reduceAdd])
  repeat' (first | ((first | refine o1 rfl ?_ | refine o0 rfl ?_); intro k hk; simp (disch := omega) only [ev0, sl_cells, simprocAttr]; refine hk _ _ ?_; clear hk k) | refine ono rfl ?_ | ((first | refine osplitG rfl (fun h => ?_) (fun h => ?_) | refine osplitB rfl (fun h => ?_) (fun h => ?_)) <;> (fail_if_success (simp only [eq_self, reduceCtorEq] at h))) | refine onx ?_ | refine onb ?_ | refine sreg ?_ | refine qT rfl ?_ | refine qF rfl ?_ | refine scondT rfl ?_ | refine scondF rfl ?_ | refine ocondP rfl (fun h => ?_) (fun h => ?_) | refine ocondB rfl (fun h => ?_) (fun h => ?_) | refine scondP rfl (fun h => ?_) (fun h => ?_) | refine scond rfl (fun h => ?_) (fun h => ?_) | refine oskip ?_ | refine oskipb ?_ | refine oret ?_ | refine sem_ret ?_ | refine sem_seq ?_ | refine sreg1 ?_)
  refine sem_block ?_
  
  refine sem_loop (α := Nat) (fun i => ⟨[(0, slOf Spot.cs l), (3, I i)], []⟩) (fun i => i ≤ l.length ∧ ∀ j, j < i → (l.getD j default).ok) (fun i => l.length - i) 0 ⟨Nat.zero_le _, fun j hj => absurd hj (Nat.not_lt_zero _)⟩ ?_ ?_
  · (refine Le.same ?_; simp only [List.forall_mem_cons, List.forall_mem_nil, getE, selE, Nat.reduceBEq, List.not_mem_nil, false_implies, implies_true, and_true, true_and, and_self])
    simp [slOf]
  · rintro i ⟨h1, h2⟩
    repeat' (first | ((first | refine o1 rfl ?_ | refine o0 rfl ?_); intro k hk; simp (disch := omega) only [ev0, sl_cells, simprocAttr, slOf]; refine hk _ _ ?_; clear hk k) | refine ono rfl ?_ | ((first | refine osplitG rfl (fun h => ?_) (fun h => ?_) | refine osplitB rfl (fun h => ?_) (fun h => ?_)) <;> (fail_if_success (simp only [eq_self, reduceCtorEq] at h))) | refine onx ?_ | refine onb ?_ | refine sreg ?_ | refine qT rfl ?_ | refine qF rfl ?_ | refine scondT rfl ?_ | refine scondF rfl ?_ | refine ocondP rfl (fun h => ?_) (fun h => ?_) | refine ocondB rfl (fun h => ?_) (fun h => ?_) | refine scondP rfl (fun h => ?_) (fun h => ?_) | refine scond rfl (fun h => ?_) (fun h => ?_) | refine oskip ?_ | refine oskipb ?_ | refine oret ?_ | refine sem_ret ?_ | refine sem_seq ?_ | refine sreg1 ?_)
    · have hi : i < l.length := by omega
      have hbi := hb i hi
      have hs : (l.getD i default).ok → ∀ j, j < i + 1 → (l.getD j default).ok := fun q j hj => by
        by_cases e : j = i
        · subst e; exact q
        · exact h2 j (by omega)
      generalize hsp : l.getD i default = sp at *
      refine sem_block ?_
      have hin := ref09_in hG sp.kind 1 4
      by_cases hk : sp.ok
      · rw [decide_eq_true hk] at hin
        repeat' (first | ((first | refine o1 rfl ?_ | refine o0 rfl ?_); intro k hk; simp (disch := omega) only [ev0, sl_cells, simprocAttr, slOf, Spot.cs, hsp, Bool.not_true]; refine hk _ _ ?_; clear hk k) | refine ono rfl ?_ | (apply ocall; (case he => (simp only [ev0, sl_cells, simprocAttr] <;> rfl)); (case hc => first | exact hin); (case ht => rfl); (case hg => rfl)) | ((first | refine osplitG rfl (fun h => ?_) (fun h => ?_) | refine osplitB rfl (fun h => ?_) (fun h => ?_)) <;> (fail_if_success (simp only [eq_self, reduceCtorEq] at h))) | refine onx ?_ | refine onb ?_ | refine sreg ?_ | refine qT rfl ?_ | refine qF rfl ?_ | refine scondT rfl ?_ | refine scondF rfl ?_ | refine ocondP rfl (fun h => ?_) (fun h => ?_) | refine ocondB rfl (fun h => ?_) (fun h => ?_) | refine scondP rfl (fun h => ?_) (fun h => ?_) | refine scond rfl (fun h => ?_) (fun h => ?_) | refine oskip ?_ | refine oskipb ?_ | refine oret ?_ | refine sem_ret ?_ | refine sem_seq ?_ | refine sreg1 ?_)
        refine onil (lnext (i + 1) ⟨by omega, hs hk⟩ (by omega) ?_)
        (refine Le.same ?_; simp only [List.forall_mem_cons, List.forall_mem_nil, getE, selE, Nat.reduceBEq, List.not_mem_nil, false_implies, implies_true, and_true, true_and, and_self])
        simp [slOf]
      · rw [decide_eq_false hk] at hin
        repeat' (first | ((first | refine o1 rfl ?_ | refine o0 rfl ?_); intro k hk; simp (disch := omega) only [ev0, sl_cells, simprocAttr, slOf, Spot.cs, hsp, Bool.not_false]; refine hk _ _ ?_; clear hk k) | refine ono rfl ?_ | (apply ocall; (case he => (simp only [ev0, sl_cells, simprocAttr] <;> rfl)); (case hc => first | exact hin); (case ht => rfl); (case hg => rfl)) | ((first | refine osplitG rfl (fun h => ?_) (fun h => ?_) | refine osplitB rfl (fun h => ?_) (fun h => ?_)) <;> (fail_if_success (simp only [eq_self, reduceCtorEq] at h))) | refine onx ?_ | refine onb ?_ | refine sreg ?_ | refine qT rfl ?_ | refine qF rfl ?_ | refine scondT rfl ?_ | refine scondF rfl ?_ | refine ocondP rfl (fun h => ?_) (fun h => ?_) | refine ocondB rfl (fun h => ?_) (fun h => ?_) | refine scondP rfl (fun h => ?_) (fun h => ?_) | refine scond rfl (fun h => ?_) (fun h => ?_) | refine oskip ?_ | refine oskipb ?_ | refine oret ?_ | refine sem_ret ?_ | refine sem_seq ?_ | refine sreg1 ?_)
        rw [hbi hk]
        exact ⟨_, rfl, _, rfl, tree_eq rfl rfl⟩
    · have hi : i = l.length := by omega
      subst hi
      rw [hy h2]
      (refine sem_exit ?_; change sem _ _ _ _ _)
      repeat' (first | ((first | refine o1 rfl ?_ | refine o0 rfl ?_); intro k hk; simp (disch := omega) only [ev0, sl_cells, simprocAttr]; refine hk _ _ ?_; clear hk k) | refine ono rfl ?_ | ((first | refine osplitG rfl (fun h => ?_) (fun h => ?_) | refine osplitB rfl (fun h => ?_) (fun h => ?_)) <;> (fail_if_success (simp only [eq_self, reduceCtorEq] at h))) | refine onx ?_ | refine onb ?_ | refine sreg ?_ | refine qT rfl ?_ | refine qF rfl ?_ | refine scondT rfl ?_ | refine scondF rfl ?_ | refine ocondP rfl (fun h => ?_) (fun h => ?_) | refine ocondB rfl (fun h => ?_) (fun h => ?_) | refine scondP rfl (fun h => ?_) (fun h => ?_) | refine scond rfl (fun h => ?_) (fun h => ?_) | refine oskip ?_ | refine oskipb ?_ | refine oret ?_ | refine sem_ret ?_ | refine sem_seq ?_ | refine sreg1 ?_)
      exact ⟨_, rfl, _, rfl, tree_eq rfl rfl⟩
theorem ref09_Report (kind : Int) (l : List Stp) (hl : l.length ≤ 100000) : Holds Tryz.prog G F.ref09_Report [I kind, slOf Stp.cs l] (B (decide ((1 ≤ kind ∧ kind ≤ 4) ∧ ∀ s ∈ l, s.ok))) := by
  have hb : ∀ i, i < l.length → ¬ (l.getD i default).ok → decide ((1 ≤ kind ∧ kind ≤ 4) ∧ ∀ s ∈ l, s.ok) = false := fun i hi h => decide_eq_false fun q => h (q.2 _ (mem_getD hi))
  have hy : (∀ i, i < l.length → (l.getD i default).ok) → decide ((1 ≤ kind ∧ kind ≤ 4) ∧ ∀ s ∈ l, s.ok) = decide (1 ≤ kind ∧ kind ≤ 4) := fun h => decide_eq_decide.2 ⟨fun q => q.1, fun q => ⟨q, all_getD.2 h⟩⟩
  generalize decide ((1 ≤ kind ∧ kind ≤ 4) ∧ ∀ s ∈ l, s.ok) = res at *
  have hkd := ref09_in hG kind 1 4
  (refine holds_of_sem hG fn_ref09_Report (by simp) fun w0 S0 hG0 D0 => ?_; unfold c_ref09_Report cval enterEnv; simp only [List.zipIdx_cons, List.zipIdx_nil, List.map_cons, List.map_nil, Nat.zero_add, Nat.reduceAdd])
  repeat' (first | ((first | refine o1 rfl ?_ | refine o0 rfl ?_); intro k hk; simp (disch := omega) only [ev0, sl_cells, simprocAttr]; refine hk _ _ ?_; clear hk k) | refine ono rfl ?_ | ((first | refine osplitG rfl (fun h => ?_) (fun h => ?_) | refine osplitB rfl (fun h => ?_) (fun h => ?_)) <;> (fail_if_success (simp only [eq_self, reduceCtorEq] at h))) | refine onx ?_ | refine onb ?_ | refine sreg ?_ | refine qT rfl ?_ | refine qF rfl ?_ | refine scondT rfl ?_ | refine scondF rfl ?_ | refine ocondP rfl (fun h => ?_) (fun h => ?_) | refine ocondB rfl (fun h => ?_) (fun h => ?_) | refine scondP rfl (fun h => ?_) (fun h => ?_) | refine scond rfl (fun h => ?_) (fun h => ?_) | refine oskip ?_ | refine oskipb ?_ | refine oret ?_ | refine sem_ret ?_ | refine sem_seq ?_ | refine sreg1 ?_)
  refine sem_block ?_
  
  refine sem_loop (α := Nat) (fun i => ⟨[(0, I kind), (1, slOf Stp.cs l), (5, I i)], []⟩) (fun i => i ≤ l.length ∧ ∀ j, j < i → (l.getD j default).ok) (fun i => l.length - i) 0 ⟨Nat.zero_le _, fun j hj => absurd hj (Nat.not_lt_zero _)⟩ ?_ ?_
  · (refine Le.same ?_; simp only [List.forall_mem_cons, List.forall_mem_nil, getE, selE, Nat.reduceBEq, List.not_mem_nil, false_implies, implies_true, and_true, true_and, and_self])
    simp [slOf]
  · rintro i ⟨h1, h2⟩
    repeat' (first | ((first | refine o1 rfl ?_ | refine o0 rfl ?_); intro k hk; simp (disch := omega) only [ev0, sl_cells, simprocAttr, slOf]; refine hk _ _ ?_; clear hk k) | refine ono rfl ?_ | ((first | refine osplitG rfl (fun h => ?_) (fun h => ?_) | refine osplitB rfl (fun h => ?_) (fun h => ?_)) <;> (fail_if_success (simp only [eq_self, reduceCtorEq] at h))) | refine onx ?_ | refine onb ?_ | refine sreg ?_ | refine qT rfl ?_ | refine qF rfl ?_ | refine scondT rfl ?_ | refine scondF rfl ?_ | refine ocondP rfl (fun h => ?_) (fun h => ?_) | refine ocondB rfl (fun h => ?_) (fun h => ?_) | refine scondP rfl (fun h => ?_) (fun h => ?_) | refine scond rfl (fun h => ?_) (fun h => ?_) | refine oskip ?_ | refine oskipb ?_ | refine oret ?_ | refine sem_ret ?_ | refine sem_seq ?_ | refine sreg1 ?_)
    · have hi : i < l.length := by omega
      have hbi := hb i hi
      have hs : (l.getD i default).ok → ∀ j, j < i + 1 → (l.getD j default).ok := fun q j hj => by
        by_cases e : j = i
        · subst e; exact q
        · exact h2 j (by omega)
      generalize hsp : l.getD i default = sp at *
      refine sem_block ?_
      have i1 := ref09_in hG sp.count 1 9
      have i2 := ref09_in hG sp.kind 1 4
      have i3 := ref09_in hG sp.bank 0 2
      by_cases k1 : 1 ≤ sp.count ∧ sp.count ≤ 9
      · rw [decide_eq_true k1] at i1
        by_cases k2 : 1 ≤ sp.kind ∧ sp.kind ≤ 4
        · rw [decide_eq_true k2] at i2
          by_cases k3 : 0 ≤ sp.bank ∧ sp.bank ≤ 2
          · rw [decide_eq_true k3] at i3
            repeat' (first | ((first | refine o1 rfl ?_ | refine o0 rfl ?_); intro k hk; simp (disch := omega) only [ev0, sl_cells, simprocAttr, slOf, Stp.cs, hsp, Bool.not_true]; refine hk _ _ ?_; clear hk k) | refine ono rfl ?_ | (apply ocall; (case he => (simp only [ev0, sl_cells, simprocAttr] <;> rfl)); (case hc => first | exact i1 | exact i2 | exact i3); (case ht => rfl); (case hg => rfl)) | ((first | refine osplitG rfl (fun h => ?_) (fun h => ?_) | refine osplitB rfl (fun h => ?_) (fun h => ?_)) <;> (fail_if_success (simp only [eq_self, reduceCtorEq] at h))) | refine onx ?_ | refine onb ?_ | refine sreg ?_ | refine qT rfl ?_ | refine qF rfl ?_ | refine scondT rfl ?_ | refine scondF rfl ?_ | refine ocondP rfl (fun h => ?_) (fun h => ?_) | refine ocondB rfl (fun h => ?_) (fun h => ?_) | refine scondP rfl (fun h => ?_) (fun h => ?_) | refine scond rfl (fun h => ?_) (fun h => ?_) | refine oskip ?_ | refine oskipb ?_ | refine oret ?_ | refine sem_ret ?_ | refine sem_seq ?_ | refine sreg1 ?_)
            refine onil (lnext (i + 1) ⟨by omega, hs ⟨k1, k2, k3⟩⟩ (by omega) ?_)
            (refine Le.same ?_; simp only [List.forall_mem_cons, List.forall_mem_nil, getE, selE, Nat.reduceBEq, List.not_mem_nil, false_implies, implies_true, and_true, true_and, and_self])
            simp [slOf]
          · rw [decide_eq_false k3] at i3
            repeat' (first | ((first | refine o1 rfl ?_ | refine o0 rfl ?_); intro k hk; simp (disch := omega) only [ev0, sl_cells, simprocAttr, slOf, Stp.cs, hsp, Bool.not_true, Bool.not_false]; refine hk _ _ ?_; clear hk k) | refine ono rfl ?_ | (apply ocall; (case he => (simp only [ev0, sl_cells, simprocAttr] <;> rfl)); (case hc => first | exact i1 | exact i2 | exact i3); (case ht => rfl); (case hg => rfl)) | ((first | refine osplitG rfl (fun h => ?_) (fun h => ?_) | refine osplitB rfl (fun h => ?_) (fun h => ?_)) <;> (fail_if_success (simp only [eq_self, reduceCtorEq] at h))) | refine onx ?_ | refine onb ?_ | refine sreg ?_ | refine qT rfl ?_ | refine qF rfl ?_ | refine scondT rfl ?_ | refine scondF rfl ?_ | refine ocondP rfl (fun h => ?_) (fun h => ?_) | refine ocondB rfl (fun h => ?_) (fun h => ?_) | refine scondP rfl (fun h => ?_) (fun h => ?_) | refine scond rfl (fun h => ?_) (fun h => ?_) | refine oskip ?_ | refine oskipb ?_ | refine oret ?_ | refine sem_ret ?_ | refine sem_seq ?_ | refine sreg1 ?_)
            rw [hbi fun q => k3 q.2.2]
            exact ⟨_, rfl, _, rfl, tree_eq rfl rfl⟩
        · rw [decide_eq_false k2] at i2
          repeat' (first | ((first | refine o1 rfl ?_ | refine o0 rfl ?_); intro k hk; simp (disch := omega) only [ev0, sl_cells, simprocAttr, slOf, Stp.cs, hsp, Bool.not_true, Bool.not_false]; refine hk _ _ ?_; clear hk k) | refine ono rfl ?_ | (apply ocall; (case he => (simp only [ev0, sl_cells, simprocAttr] <;> rfl)); (case hc => first | exact i1 | exact i2 | exact i3); (case ht => rfl); (case hg => rfl)) | ((first | refine osplitG rfl (fun h => ?_) (fun h => ?_) | refine osplitB rfl (fun h => ?_) (fun h => ?_)) <;> (fail_if_success (simp only [eq_self, reduceCtorEq] at h))) | refine onx ?_ | refine onb ?_ | refine sreg ?_ | refine qT rfl ?_ | refine qF rfl ?_ | refine scondT rfl ?_ | refine scondF rfl ?_ | refine ocondP rfl (fun h => ?_) (fun h => ?_) | refine ocondB rfl (fun h => ?_) (fun h => ?_) | refine scondP rfl (fun h => ?_) (fun h => ?_) | refine scond rfl (fun h => ?_) (fun h => ?_) | refine oskip ?_ | refine oskipb ?_ | refine oret ?_ | refine sem_ret ?_ | refine sem_seq ?_ | refine sreg1 ?_)
          rw [hbi fun q => k2 q.2.1]
          exact ⟨_, rfl, _, rfl, tree_eq rfl rfl⟩
      · rw [decide_eq_false k1] at i1
        repeat' (first | ((first | refine o1 rfl ?_ | refine o0 rfl ?_); intro k hk; simp (disch := omega) only [ev0, sl_cells, simprocAttr, slOf, Stp.cs, hsp, Bool.not_true, Bool.not_false]; refine hk _ _ ?_; clear hk k) | refine ono rfl ?_ | (apply ocall; (case he => (simp only [ev0, sl_cells, simprocAttr] <;> rfl)); (case hc => first | exact i1 | exact i2 | exact i3); (case ht => rfl); (case hg => rfl)) | ((first | refine osplitG rfl (fun h => ?_) (fun h => ?_) | refine osplitB rfl (fun h => ?_) (fun h => ?_)) <;> (fail_if_success (simp only [eq_self, reduceCtorEq] at h))) | refine onx ?_ | refine onb ?_ | refine sreg ?_ | refine qT rfl ?_ | refine qF rfl ?_ | refine scondT rfl ?_ | refine scondF rfl ?_ | refine ocondP rfl (fun h => ?_) (fun h => ?_) | refine ocondB rfl (fun h => ?_) (fun h => ?_) | refine scondP rfl (fun h => ?_) (fun h => ?_) | refine scond rfl (fun h => ?_) (fun h => ?_) | refine oskip ?_ | refine oskipb ?_ | refine oret ?_ | refine sem_ret ?_ | refine sem_seq ?_ | refine sreg1 ?_)
        rw [hbi fun q => k1 q.1]
        exact ⟨_, rfl, _, rfl, tree_eq rfl rfl⟩
    · have hi : i = l.length := by omega
      subst hi
      rw [hy h2]
      (refine sem_exit ?_; change sem _ _ _ _ _)
      repeat' (first | ((first | refine o1 rfl ?_ | refine o0 rfl ?_); intro k hk; simp (disch := omega) only [ev0, sl_cells, simprocAttr]; refine hk _ _ ?_; clear hk k) | refine ono rfl ?_ | (apply ocall; (case he => (simp only [ev0, sl_cells, simprocAttr] <;> rfl)); (case hc => first | exact hkd); (case ht => rfl); (case hg => rfl)) | ((first | refine osplitG rfl (fun h => ?_) (fun h => ?_) | refine osplitB rfl (fun h => ?_) (fun h => ?_)) <;> (fail_if_success (simp only [eq_self, reduceCtorEq] at h))) | refine onx ?_ | refine onb ?_ | refine sreg ?_ | refine qT rfl ?_ | refine qF rfl ?_ | refine scondT rfl ?_ | refine scondF rfl ?_ | refine ocondP rfl (fun h => ?_) (fun h => ?_) | refine ocondB rfl (fun h => ?_) (fun h => ?_) | refine scondP rfl (fun h => ?_) (fun h => ?_) | refine scond rfl (fun h => ?_) (fun h => ?_) | refine oskip ?_ | refine oskipb ?_ | refine oret ?_ | refine sem_ret ?_ | refine sem_seq ?_ | refine sreg1 ?_)
      exact ⟨_, rfl, _, rfl, tree_eq rfl rfl⟩
end Go.Proofs.YtcllnnjeaidppaaGreatDoor
