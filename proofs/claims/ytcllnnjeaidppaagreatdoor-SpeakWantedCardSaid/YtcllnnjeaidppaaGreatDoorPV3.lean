/- SpeakWanted over trees: whatever the input. -/
import Derived.Test.YtcllnnjeaidppaaGreatDoorPV2
set_option linter.unusedVariables false
set_option linter.unusedSimpArgs false
set_option linter.unusedSectionVars false
set_option maxRecDepth 8000
set_option maxHeartbeats 8000000
namespace Go.Proofs.YtcllnnjeaidppaaGreatDoor
open Go Go.Av Go.Tk
attribute [local irreducible] Holds sem semL ACalls FnIs cntM wordsC countV wantF
variable {G : World → Prop} (hG : ∀ w w', G w → RowKit.Below w.heap.size w w' → G w') (hT : ∀ w, G w → GB w)
include hG hT
theorem law09_SpeakWanted_out (c d : Council) (w : List Int) (hq : d.quorum = c.quorum) (hr : d.rule = c.rule) (ho : 12 < c.langs.length ∨ d.langs.length ≠ c.langs.length ∨ w.length ≠ d.langs.length ∨ ¬ c.ok ∨ ¬ d.ok) : Holds Tryz.prog G F.law09_SpeakWanted [.agg c.cs, slOf intCs w, slOf intCs d.langs, .agg [B d.n0, B d.n1, B d.n2]] (B true) := by
  have hkn := law09_known hG hT
  have key : (12 < (c.langs.length : Int)) = True ∨ (12 < (c.langs.length : Int)) = False ∧ (((d.langs.length : Int) = c.langs.length) = False ∨ ((d.langs.length : Int) = c.langs.length) = True ∧ (((w.length : Int) = d.langs.length) = False ∨ ((w.length : Int) = d.langs.length) = True ∧ (¬ c.ok ∨ c.ok ∧ ¬ d.ok))) := by
    by_cases h1 : 12 < c.langs.length
    · exact .inl (eq_true (by omega))
    · refine .inr ⟨eq_false (by omega), ?_⟩
      by_cases h2 : d.langs.length = c.langs.length
      · refine .inr ⟨eq_true (by omega), ?_⟩
        by_cases h3 : w.length = d.langs.length
        · refine .inr ⟨eq_true (by omega), ?_⟩
          by_cases h4 : c.ok
          · refine .inr ⟨h4, ?_⟩
            rcases ho with q | q | q | q | q
            · exact absurd q h1
            · exact absurd h2 q
            · exact absurd h3 q
            · exact absurd h4 q
            · exact q
          · exact .inl h4
        · exact .inl (eq_false (by omega))
      · exact .inl (eq_false (by omega))
  have hrc := fun h : c.langs.length ≤ 100000 => ref09_Council hG c h
  have hrd := fun h : d.langs.length ≤ 100000 => ref09_Council hG d h
  obtain ⟨langs, q, rule, n0, n1, n2⟩ := c
  obtain ⟨other, q', rule', m0, m1, m2⟩ := d
  simp only at hq hr key hrc hrd
  subst hq hr
  (refine holds_of_sem hG fn_law09_SpeakWanted (by simp) fun w0 S0 hG0 D0 => ?_; unfold c_law09_SpeakWanted cval enterEnv; simp only [List.zipIdx_cons, List.zipIdx_nil, List.map_cons, List.map_nil, Nat.zero_add, Nat.reduceAdd])
  repeat' (first | ((first | refine o1 rfl ?_ | refine o0 rfl ?_); intro k hk; simp (disch := omega) only [ev0, sl_cells, simprocAttr, Council.cs, slOf]; refine hk _ _ ?_; clear hk k) | refine ono rfl ?_ | ((first | refine osplitG rfl (fun h => ?_) (fun h => ?_) | refine osplitB rfl (fun h => ?_) (fun h => ?_)) <;> (fail_if_success (simp only [eq_self, reduceCtorEq] at h))) | refine onx ?_ | refine onb ?_ | refine sreg ?_ | refine qT rfl ?_ | refine qF rfl ?_ | refine scondT rfl ?_ | refine scondF rfl ?_ | refine ocondP rfl (fun h => ?_) (fun h => ?_) | refine ocondB rfl (fun h => ?_) (fun h => ?_) | refine scondP rfl (fun h => ?_) (fun h => ?_) | refine scond rfl (fun h => ?_) (fun h => ?_) | refine oskip ?_ | refine oskipb ?_ | refine oret ?_ | refine sem_ret ?_ | refine sem_seq ?_ | refine sreg1 ?_)
  obtain ⟨R, hR⟩ : ∃ R : Nat → AV, R = fun i' => ([slOf intCs other, .agg [B m0, B m1, B m2], .ptr 2 0 6 0 0, .dead] : List AV).getD i' .dead := ⟨_, rfl⟩
  refine any_start hmix ?_
  refine any_effE (ν := [.row 72 0 6 [[slOf intCs langs, I q', I rule', B n0, B n1, B n2]], .row 70 0 3 [[B m0, B m1, B m2]], .row 72 0 6 [[slOf intCs other, I q', I rule', B n0, B n1, B n2]]]) 4 3 [0, 1, 2] R (by kernel_rfl) (by omega) (by decide) ?_ ?_ ?_
  · simp only [List.forall_mem_cons, List.not_mem_nil, false_implies, implies_true, and_true]
    refine ⟨⟨.inr ?_, .inr ?_⟩, ⟨.inr ?_, .inr ?_⟩, ⟨.inr ?_, .inr ?_⟩⟩
    all_goals
      refine .inl ⟨rfl, rfl, ?_⟩
      rw [hR]
      simp (disch := omega) only [envAt, opAt, List.getD_cons_succ, List.getD_cons_zero, slOf, pushE, quietK, and_self, if_true, wv, simprocAttr, ev0, sl_cells]
  · rw [hR]
    refine ⟨rfl, ?_⟩
    simp (disch := omega) only [envAt, opAt, List.getD_cons_succ, List.getD_cons_zero, slOf, pushE, quietK, and_self, if_true, wv, simprocAttr, ev0, sl_cells]
  refine any_seq 4 6 (by kernel_rfl) ?_
  rw [hR]
  simp only [nt, envAt, opAt, List.getD_cons_succ, List.getD_cons_zero, pushE]
  repeat' (first | ((first | refine o1 rfl ?_ | refine o0 rfl ?_); intro k hk; simp (disch := omega) only [ev0, sl_cells, simprocAttr]; refine hk _ _ ?_; clear hk k) | refine ono rfl ?_ | ((first | refine osplitG rfl (fun h => ?_) (fun h => ?_) | refine osplitB rfl (fun h => ?_) (fun h => ?_)) <;> (fail_if_success (simp only [eq_self, reduceCtorEq] at h))) | refine onx ?_ | refine onb ?_ | refine sreg ?_ | refine qT rfl ?_ | refine qF rfl ?_ | refine scondT rfl ?_ | refine scondF rfl ?_ | refine ocondP rfl (fun h => ?_) (fun h => ?_) | refine ocondB rfl (fun h => ?_) (fun h => ?_) | refine scondP rfl (fun h => ?_) (fun h => ?_) | refine scond rfl (fun h => ?_) (fun h => ?_) | refine oskip ?_ | refine oskipb ?_ | refine oret ?_ | refine sem_ret ?_ | refine sem_seq ?_ | refine sreg1 ?_)
  refine onil ?_
  change AnyC _ _ _ _ _ 6 _
  refine any_end 6 rfl ?_
  change sem _ _ _ _ _
  rcases key with h1 | ⟨h1, h2 | ⟨h2, h3 | ⟨h3, h4⟩⟩⟩
  · repeat' (first | ((first | refine o1 rfl ?_ | refine o0 rfl ?_); intro k hk; simp (disch := omega) only [ev0, sl_cells, simprocAttr, Council.cs, slOf, h1, decide_true]; refine hk _ _ ?_; clear hk k) | refine ono rfl ?_ | (apply ocall; (case he => (simp only [ev0, sl_cells, simprocAttr] <;> rfl)); (case hc => first | exact hkn); (case ht => rfl); (case hg => rfl)) | ((first | refine osplitG rfl (fun h => ?_) (fun h => ?_) | refine osplitB rfl (fun h => ?_) (fun h => ?_)) <;> (fail_if_success (simp only [eq_self, reduceCtorEq] at h))) | refine onx ?_ | refine onb ?_ | refine sreg ?_ | refine qT rfl ?_ | refine qF rfl ?_ | refine scondT rfl ?_ | refine scondF rfl ?_ | refine ocondP rfl (fun h => ?_) (fun h => ?_) | refine ocondB rfl (fun h => ?_) (fun h => ?_) | refine scondP rfl (fun h => ?_) (fun h => ?_) | refine scond rfl (fun h => ?_) (fun h => ?_) | refine oskip ?_ | refine oskipb ?_ | refine oret ?_ | refine sem_ret ?_ | refine sem_seq ?_ | refine sreg1 ?_)
    exact ⟨_, rfl, _, rfl, tree_eq rfl rfl⟩
  · repeat' (first | ((first | refine o1 rfl ?_ | refine o0 rfl ?_); intro k hk; simp (disch := omega) only [ev0, sl_cells, simprocAttr, Council.cs, slOf, h1, h2, decide_true, decide_false, Bool.not_true, Bool.not_false]; refine hk _ _ ?_; clear hk k) | refine ono rfl ?_ | (apply ocall; (case he => (simp only [ev0, sl_cells, simprocAttr] <;> rfl)); (case hc => first | exact hkn); (case ht => rfl); (case hg => rfl)) | ((first | refine osplitG rfl (fun h => ?_) (fun h => ?_) | refine osplitB rfl (fun h => ?_) (fun h => ?_)) <;> (fail_if_success (simp only [eq_self, reduceCtorEq] at h))) | refine onx ?_ | refine onb ?_ | refine sreg ?_ | refine qT rfl ?_ | refine qF rfl ?_ | refine scondT rfl ?_ | refine scondF rfl ?_ | refine ocondP rfl (fun h => ?_) (fun h => ?_) | refine ocondB rfl (fun h => ?_) (fun h => ?_) | refine scondP rfl (fun h => ?_) (fun h => ?_) | refine scond rfl (fun h => ?_) (fun h => ?_) | refine oskip ?_ | refine oskipb ?_ | refine oret ?_ | refine sem_ret ?_ | refine sem_seq ?_ | refine sreg1 ?_)
    exact ⟨_, rfl, _, rfl, tree_eq rfl rfl⟩
  · repeat' (first | ((first | refine o1 rfl ?_ | refine o0 rfl ?_); intro k hk; simp (disch := omega) only [ev0, sl_cells, simprocAttr, Council.cs, slOf, h1, h2, h3, decide_true, decide_false, Bool.not_true, Bool.not_false]; refine hk _ _ ?_; clear hk k) | refine ono rfl ?_ | (apply ocall; (case he => (simp only [ev0, sl_cells, simprocAttr] <;> rfl)); (case hc => first | exact hkn); (case ht => rfl); (case hg => rfl)) | ((first | refine osplitG rfl (fun h => ?_) (fun h => ?_) | refine osplitB rfl (fun h => ?_) (fun h => ?_)) <;> (fail_if_success (simp only [eq_self, reduceCtorEq] at h))) | refine onx ?_ | refine onb ?_ | refine sreg ?_ | refine qT rfl ?_ | refine qF rfl ?_ | refine scondT rfl ?_ | refine scondF rfl ?_ | refine ocondP rfl (fun h => ?_) (fun h => ?_) | refine ocondB rfl (fun h => ?_) (fun h => ?_) | refine scondP rfl (fun h => ?_) (fun h => ?_) | refine scond rfl (fun h => ?_) (fun h => ?_) | refine oskip ?_ | refine oskipb ?_ | refine oret ?_ | refine sem_ret ?_ | refine sem_seq ?_ | refine sreg1 ?_)
    exact ⟨_, rfl, _, rfl, tree_eq rfl rfl⟩
  · have hll : langs.length ≤ 12 := by
      have : ¬ (12 < (langs.length : Int)) := by rw [h1]; exact id
      omega
    have hol : other.length ≤ 12 := by
      have : (other.length : Int) = langs.length := by rw [h2]; trivial
      omega
    have hrc := hrc (by omega)
    have hrd := hrd (by omega)
    rcases h4 with h4 | ⟨h4, h5⟩
    · rw [decide_eq_false h4] at hrc
      repeat' (first | ((first | refine o1 rfl ?_ | refine o0 rfl ?_); intro k hk; simp (disch := omega) only [ev0, sl_cells, simprocAttr, Council.cs, slOf, h1, h2, h3, decide_true, decide_false, Bool.not_true, Bool.not_false]; refine hk _ _ ?_; clear hk k) | refine ono rfl ?_ | (apply ocall; (case he => (simp only [ev0, sl_cells, simprocAttr] <;> rfl)); (case hc => first | exact hkn | exact hrc); (case ht => rfl); (case hg => rfl)) | ((first | refine osplitG rfl (fun h => ?_) (fun h => ?_) | refine osplitB rfl (fun h => ?_) (fun h => ?_)) <;> (fail_if_success (simp only [eq_self, reduceCtorEq] at h))) | refine onx ?_ | refine onb ?_ | refine sreg ?_ | refine qT rfl ?_ | refine qF rfl ?_ | refine scondT rfl ?_ | refine scondF rfl ?_ | refine ocondP rfl (fun h => ?_) (fun h => ?_) | refine ocondB rfl (fun h => ?_) (fun h => ?_) | refine scondP rfl (fun h => ?_) (fun h => ?_) | refine scond rfl (fun h => ?_) (fun h => ?_) | refine oskip ?_ | refine oskipb ?_ | refine oret ?_ | refine sem_ret ?_ | refine sem_seq ?_ | refine sreg1 ?_)
      exact ⟨_, rfl, _, rfl, tree_eq rfl rfl⟩
    · rw [decide_eq_true h4] at hrc
      rw [decide_eq_false h5] at hrd
      repeat' (first | ((first | refine o1 rfl ?_ | refine o0 rfl ?_); intro k hk; simp (disch := omega) only [ev0, sl_cells, simprocAttr, Council.cs, slOf, h1, h2, h3, decide_true, decide_false, Bool.not_true, Bool.not_false]; refine hk _ _ ?_; clear hk k) | refine ono rfl ?_ | (apply ocall; (case he => (simp only [ev0, sl_cells, simprocAttr] <;> rfl)); (case hc => first | exact hkn | exact hrc | exact hrd); (case ht => rfl); (case hg => rfl)) | ((first | refine osplitG rfl (fun h => ?_) (fun h => ?_) | refine osplitB rfl (fun h => ?_) (fun h => ?_)) <;> (fail_if_success (simp only [eq_self, reduceCtorEq] at h))) | refine onx ?_ | refine onb ?_ | refine sreg ?_ | refine qT rfl ?_ | refine qF rfl ?_ | refine scondT rfl ?_ | refine scondF rfl ?_ | refine ocondP rfl (fun h => ?_) (fun h => ?_) | refine ocondB rfl (fun h => ?_) (fun h => ?_) | refine scondP rfl (fun h => ?_) (fun h => ?_) | refine scond rfl (fun h => ?_) (fun h => ?_) | refine oskip ?_ | refine oskipb ?_ | refine oret ?_ | refine sem_ret ?_ | refine sem_seq ?_ | refine sreg1 ?_)
      exact ⟨_, rfl, _, rfl, tree_eq rfl rfl⟩
theorem law09_SpeakWanted (c : Council) (w other : List Int) (n : Bool × Bool × Bool) : Holds Tryz.prog G F.law09_SpeakWanted [.agg c.cs, slOf intCs w, slOf intCs other, .agg [B n.1, B n.2.1, B n.2.2]] (B true) := by
  obtain ⟨d, hd⟩ : ∃ d : Council, d = ⟨other, c.quorum, c.rule, n.1, n.2.1, n.2.2⟩ := ⟨_, rfl⟩
  have hq : d.quorum = c.quorum := by rw [hd]
  have hr : d.rule = c.rule := by rw [hd]
  have e : Holds Tryz.prog G F.law09_SpeakWanted [.agg c.cs, slOf intCs w, slOf intCs d.langs, .agg [B d.n0, B d.n1, B d.n2]] (B true) := by
    by_cases h : 12 < c.langs.length ∨ d.langs.length ≠ c.langs.length ∨ w.length ≠ d.langs.length ∨ ¬ c.ok ∨ ¬ d.ok
    · exact law09_SpeakWanted_out hG hT c d w hq hr h
    · have h1 : ¬ 12 < c.langs.length := fun q => h (.inl q)
      have h2 : d.langs.length = c.langs.length := Classical.byContradiction fun q => h (.inr (.inl q))
      have h3 : w.length = d.langs.length := Classical.byContradiction fun q => h (.inr (.inr (.inl q)))
      have h4 : c.ok := Classical.byContradiction fun q => h (.inr (.inr (.inr (.inl q))))
      have h5 : d.ok := Classical.byContradiction fun q => h (.inr (.inr (.inr (.inr q))))
      exact law09_SpeakWanted_in hG hT c d w (by omega) h2 (by omega) h4 h5 hq hr
  rw [hd] at e
  exact e
end Go.Proofs.YtcllnnjeaidppaaGreatDoor
