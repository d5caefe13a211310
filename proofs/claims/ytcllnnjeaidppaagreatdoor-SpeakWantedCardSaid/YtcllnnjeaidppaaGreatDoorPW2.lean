/- What the words of votes mean: the reference. -/
import Derived.Test.YtcllnnjeaidppaaGreatDoorPW1
set_option linter.unusedVariables false
set_option linter.unusedSimpArgs false
set_option linter.unusedSectionVars false
set_option maxRecDepth 100000
set_option maxHeartbeats 4000000
namespace Go.Tk
open Go Go.Av
def wordR (l : Int) (neg : Bool) (v : Int) : ByteArray :=
  if v = 3 then wDash else if l = 0 then (if v = 1 then wYes else wNo) else if l = 1 then (if (decide (v = 1) != neg) then wJoo else wEn) else if v = 1 then (if neg then wUm else wEm) else wOm
def meansR (l : Int) (neg : Bool) (w : ByteArray) : Int := if wordR l neg 1 = w then 1 else if wordR l neg 2 = w then 2 else 3
end Go.Tk
namespace Go.Proofs.YtcllnnjeaidppaaGreatDoor
open Go Go.Av Go.Tk
attribute [local irreducible] Holds sem semL ACalls FnIs
variable {G : World → Prop} (hG : ∀ w w', G w → RowKit.Below w.heap.size w w' → G w')
include hG
theorem ref09_Language (n : Int) : Holds Tryz.prog G F.ref09_Language [I n] (B (decide (0 ≤ n ∧ n ≤ 2))) := by
  have hin := ref09_in hG n 0 2
  (refine holds_of_sem hG fn_ref09_Language (by simp) fun w0 S0 hG0 D0 => ?_; unfold c_ref09_Language cval enterEnv; simp only [List.zipIdx_cons, List.zipIdx_nil, List.map_cons, List.map_nil, Nat.zero_add, Nat.reduceAdd])
  repeat' (first | ((first | refine o1 rfl ?_ | refine o0 rfl ?_); intro k hk; simp (disch := omega) only [ev0, sl_cells, simprocAttr]; refine hk _ _ ?_; clear hk k) | refine ono rfl ?_ | (apply ocall; (case he => (simp only [ev0, sl_cells, simprocAttr] <;> rfl)); (case hc => first | exact hin); (case ht => rfl); (case hg => rfl)) | ((first | refine osplitG rfl (fun h => ?_) (fun h => ?_) | refine osplitB rfl (fun h => ?_) (fun h => ?_)) <;> (fail_if_success (simp only [eq_self, reduceCtorEq] at h))) | refine onx ?_ | refine onb ?_ | refine sreg ?_ | refine qT rfl ?_ | refine qF rfl ?_ | refine scondT rfl ?_ | refine scondF rfl ?_ | refine ocondP rfl (fun h => ?_) (fun h => ?_) | refine ocondB rfl (fun h => ?_) (fun h => ?_) | refine scondP rfl (fun h => ?_) (fun h => ?_) | refine scond rfl (fun h => ?_) (fun h => ?_) | refine oskip ?_ | refine oskipb ?_ | refine oret ?_ | refine sem_ret ?_ | refine sem_seq ?_ | refine sreg1 ?_)
  exact ⟨_, rfl, _, rfl, tree_eq rfl rfl⟩
end Go.Proofs.YtcllnnjeaidppaaGreatDoor
