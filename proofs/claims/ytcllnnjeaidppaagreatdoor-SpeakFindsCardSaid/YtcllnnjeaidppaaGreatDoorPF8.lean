/- SpeakFinds over trees. -/
import Derived.Test.YtcllnnjeaidppaaGreatDoorPF7
set_option linter.unusedVariables false
set_option linter.unusedSimpArgs false
set_option linter.unusedSectionVars false
set_option maxRecDepth 8000
set_option maxHeartbeats 4000000
namespace Go.Proofs.YtcllnnjeaidppaaGreatDoor
open Go Go.Av Go.Tk
attribute [local irreducible] Holds sem semL ACalls FnIs
variable {G : World → Prop} (hG : ∀ w w', G w → RowKit.Below w.heap.size w w' → G w') (hT : ∀ w, G w → GB w)
include hG hT
theorem law09_SpeakFinds (riv : List Spot) (kind : Int) (steps : List Stp) : Holds Tryz.prog G F.law09_SpeakFinds [slOf Spot.cs riv, I kind, slOf Stp.cs steps] (B true) := by
  have hkn := law09_known hG hT
  by_cases hbig : 25 < riv.length ∨ 10 < steps.length
  · have hb : (25 < (riv.length : Int)) = True ∨ ((25 < (riv.length : Int)) = False ∧ (10 < (steps.length : Int)) = True) := by
      by_cases a : 25 < riv.length
      · exact .inl (eq_true (by omega))
      · exact .inr ⟨eq_false (by omega), eq_true (by omega)⟩
    rcases hb with h1 | ⟨h1, h2⟩
    · (refine holds_of_sem hG fn_law09_SpeakFinds (by simp) fun w0 S0 hG0 D0 => ?_; unfold c_law09_SpeakFinds cval enterEnv; simp only [List.zipIdx_cons, List.zipIdx_nil, List.map_cons, List.map_nil, Nat.zero_add, Nat.reduceAdd])
      repeat' (first | ((first | refine o1 rfl ?_ | refine o0 rfl ?_); intro k hk; simp (disch := omega) only [ev0, sl_cells, simprocAttr, slOf, h1, decide_true]; refine hk _ _ ?_; clear hk k) | refine ono rfl ?_ | (apply ocall; (case he => (simp only [ev0, sl_cells, simprocAttr] <;> rfl)); (case hc => first | exact hkn); (case ht => rfl); (case hg => rfl)) | ((first | refine osplitG rfl (fun h => ?_) (fun h => ?_) | refine osplitB rfl (fun h => ?_) (fun h => ?_)) <;> (fail_if_success (simp only [eq_self, reduceCtorEq] at h))) | refine onx ?_ | refine onb ?_ | refine sreg ?_ | refine qT rfl ?_ | refine qF rfl ?_ | refine scondT rfl ?_ | refine scondF rfl ?_ | refine ocondP rfl (fun h => ?_) (fun h => ?_) | refine ocondB rfl (fun h => ?_) (fun h => ?_) | refine scondP rfl (fun h => ?_) (fun h => ?_) | refine scond rfl (fun h => ?_) (fun h => ?_) | refine oskip ?_ | refine oskipb ?_ | refine oret ?_ | refine sem_ret ?_ | refine sem_seq ?_ | refine sreg1 ?_)
      exact ⟨_, rfl, _, rfl, tree_eq rfl rfl⟩
    · (refine holds_of_sem hG fn_law09_SpeakFinds (by simp) fun w0 S0 hG0 D0 => ?_; unfold c_law09_SpeakFinds cval enterEnv; simp only [List.zipIdx_cons, List.zipIdx_nil, List.map_cons, List.map_nil, Nat.zero_add, Nat.reduceAdd])
      repeat' (first | ((first | refine o1 rfl ?_ | refine o0 rfl ?_); intro k hk; simp (disch := omega) only [ev0, sl_cells, simprocAttr, slOf, h1, h2, decide_true, decide_false]; refine hk _ _ ?_; clear hk k) | refine ono rfl ?_ | (apply ocall; (case he => (simp only [ev0, sl_cells, simprocAttr] <;> rfl)); (case hc => first | exact hkn); (case ht => rfl); (case hg => rfl)) | ((first | refine osplitG rfl (fun h => ?_) (fun h => ?_) | refine osplitB rfl (fun h => ?_) (fun h => ?_)) <;> (fail_if_success (simp only [eq_self, reduceCtorEq] at h))) | refine onx ?_ | refine onb ?_ | refine sreg ?_ | refine qT rfl ?_ | refine qF rfl ?_ | refine scondT rfl ?_ | refine scondF rfl ?_ | refine ocondP rfl (fun h => ?_) (fun h => ?_) | refine ocondB rfl (fun h => ?_) (fun h => ?_) | refine scondP rfl (fun h => ?_) (fun h => ?_) | refine scond rfl (fun h => ?_) (fun h => ?_) | refine oskip ?_ | refine oskipb ?_ | refine oret ?_ | refine sem_ret ?_ | refine sem_seq ?_ | refine sreg1 ?_)
      exact ⟨_, rfl, _, rfl, tree_eq rfl rfl⟩
  · have h1 : (25 < (riv.length : Int)) = False := eq_false (by omega)
    have h2 : (10 < (steps.length : Int)) = False := eq_false (by omega)
    have hfd := speak_Find hG riv kind steps (by omega) (by omega)
    have hrv := ref09_River hG riv (by omega)
    have hrp := ref09_Report hG kind steps (by omega)
    by_cases hlong : 20 < riv.length ∨ 5 < steps.length
    · have hr : placesV riv kind steps = .tup [.nilsl, I 3] := by unfold placesV; rw [if_pos hlong]
      rw [hr] at hfd
      have hb : (20 < (riv.length : Int)) = True ∨ ((20 < (riv.length : Int)) = False ∧ (5 < (steps.length : Int)) = True) := by
        by_cases a : 20 < riv.length
        · exact .inl (eq_true (by omega))
        · exact .inr ⟨eq_false (by omega), eq_true (by omega)⟩
      rcases hb with h3 | ⟨h3, h4⟩
      · (refine holds_of_sem hG fn_law09_SpeakFinds (by simp) fun w0 S0 hG0 D0 => ?_; unfold c_law09_SpeakFinds cval enterEnv; simp only [List.zipIdx_cons, List.zipIdx_nil, List.map_cons, List.map_nil, Nat.zero_add, Nat.reduceAdd])
        repeat' (first | ((first | refine o1 rfl ?_ | refine o0 rfl ?_); intro k hk; simp (disch := omega) only [ev0, sl_cells, simprocAttr, slOf, h1, h2, h3, decide_true, decide_false]; refine hk _ _ ?_; clear hk k) | refine ono rfl ?_ | (apply ocall; (case he => (simp only [ev0, sl_cells, simprocAttr] <;> rfl)); (case hc => first | exact hkn | exact hfd); (case ht => rfl); (case hg => rfl)) | ((first | refine osplitG rfl (fun h => ?_) (fun h => ?_) | refine osplitB rfl (fun h => ?_) (fun h => ?_)) <;> (fail_if_success (simp only [eq_self, reduceCtorEq] at h))) | refine onx ?_ | refine onb ?_ | refine sreg ?_ | refine qT rfl ?_ | refine qF rfl ?_ | refine scondT rfl ?_ | refine scondF rfl ?_ | refine ocondP rfl (fun h => ?_) (fun h => ?_) | refine ocondB rfl (fun h => ?_) (fun h => ?_) | refine scondP rfl (fun h => ?_) (fun h => ?_) | refine scond rfl (fun h => ?_) (fun h => ?_) | refine oskip ?_ | refine oskipb ?_ | refine oret ?_ | refine sem_ret ?_ | refine sem_seq ?_ | refine sreg1 ?_)
        exact ⟨_, rfl, _, rfl, tree_eq rfl rfl⟩
      · (refine holds_of_sem hG fn_law09_SpeakFinds (by simp) fun w0 S0 hG0 D0 => ?_; unfold c_law09_SpeakFinds cval enterEnv; simp only [List.zipIdx_cons, List.zipIdx_nil, List.map_cons, List.map_nil, Nat.zero_add, Nat.reduceAdd])
        repeat' (first | ((first | refine o1 rfl ?_ | refine o0 rfl ?_); intro k hk; simp (disch := omega) only [ev0, sl_cells, simprocAttr, slOf, h1, h2, h3, h4, decide_true, decide_false]; refine hk _ _ ?_; clear hk k) | refine ono rfl ?_ | (apply ocall; (case he => (simp only [ev0, sl_cells, simprocAttr] <;> rfl)); (case hc => first | exact hkn | exact hfd); (case ht => rfl); (case hg => rfl)) | ((first | refine osplitG rfl (fun h => ?_) (fun h => ?_) | refine osplitB rfl (fun h => ?_) (fun h => ?_)) <;> (fail_if_success (simp only [eq_self, reduceCtorEq] at h))) | refine onx ?_ | refine onb ?_ | refine sreg ?_ | refine qT rfl ?_ | refine qF rfl ?_ | refine scondT rfl ?_ | refine scondF rfl ?_ | refine ocondP rfl (fun h => ?_) (fun h => ?_) | refine ocondB rfl (fun h => ?_) (fun h => ?_) | refine scondP rfl (fun h => ?_) (fun h => ?_) | refine scond rfl (fun h => ?_) (fun h => ?_) | refine oskip ?_ | refine oskipb ?_ | refine oret ?_ | refine sem_ret ?_ | refine sem_seq ?_ | refine sreg1 ?_)
        exact ⟨_, rfl, _, rfl, tree_eq rfl rfl⟩
    · have h3 : (20 < (riv.length : Int)) = False := eq_false (by omega)
      have h4 : (5 < (steps.length : Int)) = False := eq_false (by omega)
      by_cases hok : (1 ≤ kind ∧ kind ≤ 4) ∧ (∀ s ∈ riv, s.ok) ∧ ∀ s ∈ steps, s.ok
      · obtain ⟨z1, z2, z3⟩ := hok
        rw [decide_eq_true z2] at hrv
        rw [decide_eq_true ⟨z1, z3⟩] at hrp
        have hrf := ref09_Find hG riv kind steps (by omega) (by omega) z3
        have hno := nowTo_ok (riv := riv) (kind := kind) (steps := steps) (Nat.le_refl _)
        have hso := here_sorted hno
        have hr : placesV riv kind steps = if nowTo riv kind steps steps.length = [] then .tup [.nilsl, I 5] else .tup [slOf intCs (sortA ((nowTo riv kind steps steps.length).map fun n : Nat => (n : Int))), I 0] := by
          unfold placesV; rw [if_neg hlong, if_neg (fun q => q ⟨z1, z2, z3⟩)]
        have hhl := hereL_len (nowTo riv kind steps steps.length) riv.length
        have hml : (sortA ((nowTo riv kind steps steps.length).map fun n : Nat => (n : Int))).length = (nowTo riv kind steps steps.length).length := by
          unfold sortA; rw [List.length_mergeSort, List.length_map]
        rw [hso, List.length_map] at hml
        rw [hr, hso] at hfd
        clear hr hso
        rw [slOf_nat] at hrf
        by_cases hnn : nowTo riv kind steps steps.length = []
        · rw [if_pos hnn] at hfd
          have hh0 : hereL (nowTo riv kind steps steps.length) riv.length = [] := by rw [hnn]; simp [hereL]
          rw [hh0] at hrf
          (refine holds_of_sem hG fn_law09_SpeakFinds (by simp) fun w0 S0 hG0 D0 => ?_; unfold c_law09_SpeakFinds cval enterEnv; simp only [List.zipIdx_cons, List.zipIdx_nil, List.map_cons, List.map_nil, Nat.zero_add, Nat.reduceAdd])
          repeat' (first | ((first | refine o1 rfl ?_ | refine o0 rfl ?_); intro k hk; simp (disch := omega) only [ev0, sl_cells, simprocAttr, slOf, h1, h2, h3, h4, decide_true, decide_false, Bool.not_true, List.map_nil, List.length_nil]; refine hk _ _ ?_; clear hk k) | refine ono rfl ?_ | (apply ocall; (case he => (simp only [ev0, sl_cells, simprocAttr] <;> rfl)); (case hc => first | exact hkn | exact hfd | exact hrv | exact hrp | exact hrf); (case ht => rfl); (case hg => rfl)) | ((first | refine osplitG rfl (fun h => ?_) (fun h => ?_) | refine osplitB rfl (fun h => ?_) (fun h => ?_)) <;> (fail_if_success (simp only [eq_self, reduceCtorEq] at h))) | refine onx ?_ | refine onb ?_ | refine sreg ?_ | refine qT rfl ?_ | refine qF rfl ?_ | refine scondT rfl ?_ | refine scondF rfl ?_ | refine ocondP rfl (fun h => ?_) (fun h => ?_) | refine ocondB rfl (fun h => ?_) (fun h => ?_) | refine scondP rfl (fun h => ?_) (fun h => ?_) | refine scond rfl (fun h => ?_) (fun h => ?_) | refine oskip ?_ | refine oskipb ?_ | refine oret ?_ | refine sem_ret ?_ | refine sem_seq ?_ | refine sreg1 ?_)
          exact ⟨_, rfl, _, rfl, tree_eq rfl rfl⟩
        · rw [if_neg hnn] at hfd
          have hpos : 0 < (nowTo riv kind steps steps.length).length := List.length_pos_iff.2 hnn
          generalize hereL (nowTo riv kind steps steps.length) riv.length = hl at *
          have hml2 : (hl.map fun n : Nat => (n : Int)).length = hl.length := List.length_map _
          have hsm := ref09_Same hG (hl.map fun n : Nat => (n : Int)) (hl.map fun n : Nat => (n : Int)) (by rw [hml2]; omega) (by rw [hml2]; omega)
          rw [decide_eq_true rfl] at hsm
          generalize (hl.map fun n : Nat => (n : Int)) = ml at *
          have hz0 : ((ml.length : Int) = 0) = False := eq_false (by omega)
          have hslf : ∀ l : List Int, AV.sl l.length (fun i => intCs (l.getD i default)) = slOf intCs l := fun _ => rfl
          (refine holds_of_sem hG fn_law09_SpeakFinds (by simp) fun w0 S0 hG0 D0 => ?_; unfold c_law09_SpeakFinds cval enterEnv; simp only [List.zipIdx_cons, List.zipIdx_nil, List.map_cons, List.map_nil, Nat.zero_add, Nat.reduceAdd])
          repeat' (first | ((first | refine o1 rfl ?_ | refine o0 rfl ?_); intro k hk; simp (disch := omega) only [ev0, sl_cells, simprocAttr, h1, h2, h3, h4, hz0, slOf, decide_true, decide_false, Bool.not_true]; refine hk _ _ ?_; clear hk k) | refine ono rfl ?_ | (apply ocall; (case he => (simp only [ev0, sl_cells, simprocAttr] <;> rfl)); (case hc => first | exact hkn | exact hfd | exact hrv | exact hrp | exact hrf | exact hsm); (case ht => rfl); (case hg => rfl)) | ((first | refine osplitG rfl (fun h => ?_) (fun h => ?_) | refine osplitB rfl (fun h => ?_) (fun h => ?_)) <;> (fail_if_success (simp only [eq_self, reduceCtorEq] at h))) | refine onx ?_ | refine onb ?_ | refine sreg ?_ | refine qT rfl ?_ | refine qF rfl ?_ | refine scondT rfl ?_ | refine scondF rfl ?_ | refine ocondP rfl (fun h => ?_) (fun h => ?_) | refine ocondB rfl (fun h => ?_) (fun h => ?_) | refine scondP rfl (fun h => ?_) (fun h => ?_) | refine scond rfl (fun h => ?_) (fun h => ?_) | refine oskip ?_ | refine oskipb ?_ | refine oret ?_ | refine sem_ret ?_ | refine sem_seq ?_ | refine sreg1 ?_)
          exact ⟨_, rfl, _, rfl, tree_eq rfl rfl⟩
      · have hr : placesV riv kind steps = .tup [.nilsl, I 2] := by unfold placesV; rw [if_neg hlong, if_pos hok]
        rw [hr] at hfd
        by_cases z2 : ∀ s ∈ riv, s.ok
        · rw [decide_eq_true z2] at hrv
          rw [decide_eq_false (fun q => hok ⟨q.1, z2, q.2⟩)] at hrp
          (refine holds_of_sem hG fn_law09_SpeakFinds (by simp) fun w0 S0 hG0 D0 => ?_; unfold c_law09_SpeakFinds cval enterEnv; simp only [List.zipIdx_cons, List.zipIdx_nil, List.map_cons, List.map_nil, Nat.zero_add, Nat.reduceAdd])
          repeat' (first | ((first | refine o1 rfl ?_ | refine o0 rfl ?_); intro k hk; simp (disch := omega) only [ev0, sl_cells, simprocAttr, slOf, h1, h2, h3, h4, decide_true, decide_false, Bool.not_true, Bool.not_false]; refine hk _ _ ?_; clear hk k) | refine ono rfl ?_ | (apply ocall; (case he => (simp only [ev0, sl_cells, simprocAttr] <;> rfl)); (case hc => first | exact hkn | exact hfd | exact hrv | exact hrp); (case ht => rfl); (case hg => rfl)) | ((first | refine osplitG rfl (fun h => ?_) (fun h => ?_) | refine osplitB rfl (fun h => ?_) (fun h => ?_)) <;> (fail_if_success (simp only [eq_self, reduceCtorEq] at h))) | refine onx ?_ | refine onb ?_ | refine sreg ?_ | refine qT rfl ?_ | refine qF rfl ?_ | refine scondT rfl ?_ | refine scondF rfl ?_ | refine ocondP rfl (fun h => ?_) (fun h => ?_) | refine ocondB rfl (fun h => ?_) (fun h => ?_) | refine scondP rfl (fun h => ?_) (fun h => ?_) | refine scond rfl (fun h => ?_) (fun h => ?_) | refine oskip ?_ | refine oskipb ?_ | refine oret ?_ | refine sem_ret ?_ | refine sem_seq ?_ | refine sreg1 ?_)
          exact ⟨_, rfl, _, rfl, tree_eq rfl rfl⟩
        · rw [decide_eq_false z2] at hrv
          (refine holds_of_sem hG fn_law09_SpeakFinds (by simp) fun w0 S0 hG0 D0 => ?_; unfold c_law09_SpeakFinds cval enterEnv; simp only [List.zipIdx_cons, List.zipIdx_nil, List.map_cons, List.map_nil, Nat.zero_add, Nat.reduceAdd])
          repeat' (first | ((first | refine o1 rfl ?_ | refine o0 rfl ?_); intro k hk; simp (disch := omega) only [ev0, sl_cells, simprocAttr, slOf, h1, h2, h3, h4, decide_true, decide_false, Bool.not_true, Bool.not_false]; refine hk _ _ ?_; clear hk k) | refine ono rfl ?_ | (apply ocall; (case he => (simp only [ev0, sl_cells, simprocAttr] <;> rfl)); (case hc => first | exact hkn | exact hfd | exact hrv | exact hrp); (case ht => rfl); (case hg => rfl)) | ((first | refine osplitG rfl (fun h => ?_) (fun h => ?_) | refine osplitB rfl (fun h => ?_) (fun h => ?_)) <;> (fail_if_success (simp only [eq_self, reduceCtorEq] at h))) | refine onx ?_ | refine onb ?_ | refine sreg ?_ | refine qT rfl ?_ | refine qF rfl ?_ | refine scondT rfl ?_ | refine scondF rfl ?_ | refine ocondP rfl (fun h => ?_) (fun h => ?_) | refine ocondB rfl (fun h => ?_) (fun h => ?_) | refine scondP rfl (fun h => ?_) (fun h => ?_) | refine scond rfl (fun h => ?_) (fun h => ?_) | refine oskip ?_ | refine oskipb ?_ | refine oret ?_ | refine sem_ret ?_ | refine sem_seq ?_ | refine sreg1 ?_)
          exact ⟨_, rfl, _, rfl, tree_eq rfl rfl⟩
end Go.Proofs.YtcllnnjeaidppaaGreatDoor
