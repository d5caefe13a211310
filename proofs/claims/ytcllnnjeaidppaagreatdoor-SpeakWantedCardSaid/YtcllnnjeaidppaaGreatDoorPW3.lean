/- Votes: what the reference takes a word for; councils. -/
import Derived.Test.YtcllnnjeaidppaaGreatDoorPW2
import Derived.Test.YtcllnnjeaidppaaGreatDoorPF4
set_option linter.unusedVariables false
set_option linter.unusedSimpArgs false
set_option linter.unusedSectionVars false
set_option maxRecDepth 100000
set_option maxHeartbeats 4000000
namespace Go.Tk
open Go Go.Av
abbrev langOk (n : Int) : Prop := 0 ≤ n ∧ n ≤ 2
def Council.ok (c : Council) : Prop := (∀ n ∈ c.langs, langOk n) ∧ (1 ≤ c.langs.length ∧ c.langs.length ≤ 12) ∧ (0 ≤ c.quorum ∧ c.quorum ≤ 12) ∧ 1 ≤ c.rule ∧ c.rule ≤ 3
instance (c : Council) : Decidable c.ok := by unfold Council.ok; infer_instance
end Go.Tk
namespace Go.Proofs.YtcllnnjeaidppaaGreatDoor
open Go Go.Av Go.Tk
attribute [local irreducible] Holds sem semL ACalls FnIs
variable {G : World → Prop} (hG : ∀ w w', G w → RowKit.Below w.heap.size w w' → G w')
include hG
theorem speak_language (n : Int) : Holds Tryz.prog G F.speak_language [I n] (B (decide (langOk n))) := by
  have hin := speak_in hG n 0 2
  (refine holds_of_sem hG fn_speak_language (by simp) fun w0 S0 hG0 D0 => ?_; unfold c_speak_language cval enterEnv; simp only [List.zipIdx_cons, List.zipIdx_nil, List.map_cons, List.map_nil, Nat.zero_add, Nat.reduceAdd])
  repeat' (first | ((first | refine o1 rfl ?_ | refine o0 rfl ?_); intro k hk; simp (disch := omega) only [ev0, sl_cells, simprocAttr]; refine hk _ _ ?_; clear hk k) | refine ono rfl ?_ | (apply ocall; (case he => (simp only [ev0, sl_cells, simprocAttr] <;> rfl)); (case hc => first | exact hin); (case ht => rfl); (case hg => rfl)) | ((first | refine osplitG rfl (fun h => ?_) (fun h => ?_) | refine osplitB rfl (fun h => ?_) (fun h => ?_)) <;> (fail_if_success (simp only [eq_self, reduceCtorEq] at h))) | refine onx ?_ | refine onb ?_ | refine sreg ?_ | refine qT rfl ?_ | refine qF rfl ?_ | refine scondT rfl ?_ | refine scondF rfl ?_ | refine ocondP rfl (fun h => ?_) (fun h => ?_) | refine ocondB rfl (fun h => ?_) (fun h => ?_) | refine scondP rfl (fun h => ?_) (fun h => ?_) | refine scond rfl (fun h => ?_) (fun h => ?_) | refine oskip ?_ | refine oskipb ?_ | refine oret ?_ | refine sem_ret ?_ | refine sem_seq ?_ | refine sreg1 ?_)
  exact ⟨_, rfl, _, rfl, tree_eq rfl rfl⟩
theorem council_1 (n : Int) : Holds Tryz.prog G F.speak_council_1 [I n] (B (!decide (langOk n))) := by
  have hin := speak_language hG n
  (refine holds_of_sem hG fn_speak_council_1 (by simp) fun w0 S0 hG0 D0 => ?_; unfold c_speak_council_1 cval enterEnv; simp only [List.zipIdx_cons, List.zipIdx_nil, List.map_cons, List.map_nil, Nat.zero_add, Nat.reduceAdd])
  repeat' (first | ((first | refine o1 rfl ?_ | refine o0 rfl ?_); intro k hk; simp (disch := omega) only [ev0, sl_cells, simprocAttr]; refine hk _ _ ?_; clear hk k) | refine ono rfl ?_ | (apply ocall; (case he => (simp only [ev0, sl_cells, simprocAttr] <;> rfl)); (case hc => first | exact hin); (case ht => rfl); (case hg => rfl)) | ((first | refine osplitG rfl (fun h => ?_) (fun h => ?_) | refine osplitB rfl (fun h => ?_) (fun h => ?_)) <;> (fail_if_success (simp only [eq_self, reduceCtorEq] at h))) | refine onx ?_ | refine onb ?_ | refine sreg ?_ | refine qT rfl ?_ | refine qF rfl ?_ | refine scondT rfl ?_ | refine scondF rfl ?_ | refine ocondP rfl (fun h => ?_) (fun h => ?_) | refine ocondB rfl (fun h => ?_) (fun h => ?_) | refine scondP rfl (fun h => ?_) (fun h => ?_) | refine scond rfl (fun h => ?_) (fun h => ?_) | refine oskip ?_ | refine oskipb ?_ | refine oret ?_ | refine sem_ret ?_ | refine sem_seq ?_ | refine sreg1 ?_)
  exact ⟨_, rfl, _, rfl, tree_eq rfl rfl⟩
theorem langs_any (l : List Int) (hl : l.length ≤ 100000) : Holds Tryz.prog G F.slices_ContainsFunc_int [slOf intCs l, .fn (.func F.speak_council_1) [] []] (B (l.any fun n => !decide (langOk n))) :=
  containsFunc hG fn_slices_ContainsFunc_int (by decide) fn_slices_IndexFunc_int (by decide) intCs (fun _ => rfl) (by simp) (fun _ => rfl) l (by omega) (fi := []) (ca := []) rfl rfl (fun n => !decide (langOk n)) (fun n _ => council_1 hG n)
end Go.Proofs.YtcllnnjeaidppaaGreatDoor
