/- Votes counted: whether a motion passes. -/
import Derived.Test.YtcllnnjeaidppaaGreatDoorPW6
set_option linter.unusedVariables false
set_option linter.unusedSimpArgs false
set_option linter.unusedSectionVars false
set_option maxRecDepth 8000
set_option maxHeartbeats 4000000
namespace Go.Tk
open Go Go.Av
structure Grp where
  n0 : Int
  n1 : Int
  n2 : Int
  n3 : Int
  deriving Inhabited
def Grp.cs (g : Grp) : List AV := [I g.n0, I g.n1, I g.n2, I g.n3]
structure Vts where
  all : Grp
  g0 : Grp
  g1 : Grp
  g2 : Grp
def Vts.cs (v : Vts) : List AV := v.all.cs ++ v.g0.cs ++ v.g1.cs ++ v.g2.cs
def Grp.small (g : Grp) : Prop := (0 ≤ g.n0 ∧ g.n0 ≤ 1000) ∧ (0 ≤ g.n1 ∧ g.n1 ≤ 1000) ∧ (0 ≤ g.n2 ∧ g.n2 ≤ 1000) ∧ (0 ≤ g.n3 ∧ g.n3 ≤ 1000)
def Grp.bad (g : Grp) : Bool := decide (0 < g.n1 + g.n2 + g.n3) && decide (g.n1 ≤ g.n2)
def passV (v : Vts) (rule : Int) : Bool := if rule = 1 then decide (v.all.n2 < v.all.n1) else if rule = 2 then decide (2 * (v.all.n1 + v.all.n2) ≤ 3 * v.all.n1) else !([v.g0, v.g1, v.g2].any Grp.bad)
end Go.Tk
namespace Go.Proofs.YtcllnnjeaidppaaGreatDoor
open Go Go.Av Go.Tk
attribute [local irreducible] Holds sem semL ACalls FnIs
variable {G : World → Prop} (hG : ∀ w w', G w → RowKit.Below w.heap.size w w' → G w')
include hG
theorem passes_1 (g : Grp) (hs : g.small) : Holds Tryz.prog G F.speak_votes_passes_1 [.agg g.cs] (B g.bad) := by
  obtain ⟨z0, z1, z2, z3⟩ := hs
  unfold Grp.bad
  by_cases c1 : 0 < g.n1 + g.n2 + g.n3
  · rw [decide_eq_true c1, Bool.true_and]
    have c11 : (0 < g.n1 + g.n2 + g.n3) = True := eq_true c1
    (refine holds_of_sem hG fn_speak_votes_passes_1 (by simp) fun w0 S0 hG0 D0 => ?_; unfold c_speak_votes_passes_1 cval enterEnv; simp only [List.zipIdx_cons, List.zipIdx_nil, List.map_cons, List.map_nil, Nat.zero_add, Nat.reduceAdd])
    repeat' (first | ((first | refine o1 rfl ?_ | refine o0 rfl ?_); intro k hk; simp (disch := omega) only [ev0, sl_cells, simprocAttr, Grp.cs, c11, decide_true, Bool.true_and]; refine hk _ _ ?_; clear hk k) | refine ono rfl ?_ | ((first | refine osplitG rfl (fun h => ?_) (fun h => ?_) | refine osplitB rfl (fun h => ?_) (fun h => ?_)) <;> (fail_if_success (simp only [eq_self, reduceCtorEq] at h))) | refine onx ?_ | refine onb ?_ | refine sreg ?_ | refine qT rfl ?_ | refine qF rfl ?_ | refine scondT rfl ?_ | refine scondF rfl ?_ | refine ocondP rfl (fun h => ?_) (fun h => ?_) | refine ocondB rfl (fun h => ?_) (fun h => ?_) | refine scondP rfl (fun h => ?_) (fun h => ?_) | refine scond rfl (fun h => ?_) (fun h => ?_) | refine oskip ?_ | refine oskipb ?_ | refine oret ?_ | refine sem_ret ?_ | refine sem_seq ?_ | refine sreg1 ?_)
    exact ⟨_, rfl, _, rfl, tree_eq rfl rfl⟩
  · rw [decide_eq_false c1, Bool.false_and]
    have c11 : (0 < g.n1 + g.n2 + g.n3) = False := eq_false c1
    (refine holds_of_sem hG fn_speak_votes_passes_1 (by simp) fun w0 S0 hG0 D0 => ?_; unfold c_speak_votes_passes_1 cval enterEnv; simp only [List.zipIdx_cons, List.zipIdx_nil, List.map_cons, List.map_nil, Nat.zero_add, Nat.reduceAdd])
    repeat' (first | ((first | refine o1 rfl ?_ | refine o0 rfl ?_); intro k hk; simp (disch := omega) only [ev0, sl_cells, simprocAttr, Grp.cs, c11, decide_false, Bool.false_and]; refine hk _ _ ?_; clear hk k) | refine ono rfl ?_ | ((first | refine osplitG rfl (fun h => ?_) (fun h => ?_) | refine osplitB rfl (fun h => ?_) (fun h => ?_)) <;> (fail_if_success (simp only [eq_self, reduceCtorEq] at h))) | refine onx ?_ | refine onb ?_ | refine sreg ?_ | refine qT rfl ?_ | refine qF rfl ?_ | refine scondT rfl ?_ | refine scondF rfl ?_ | refine ocondP rfl (fun h => ?_) (fun h => ?_) | refine ocondB rfl (fun h => ?_) (fun h => ?_) | refine scondP rfl (fun h => ?_) (fun h => ?_) | refine scond rfl (fun h => ?_) (fun h => ?_) | refine oskip ?_ | refine oskipb ?_ | refine oret ?_ | refine sem_ret ?_ | refine sem_seq ?_ | refine sreg1 ?_)
    exact ⟨_, rfl, _, rfl, tree_eq rfl rfl⟩
theorem groups_any (l : List Grp) (hl : l.length ≤ 100000) (hs : ∀ g ∈ l, g.small) : Holds Tryz.prog G F.slices_ContainsFunc_4int [slOf Grp.cs l, .fn (.func F.speak_votes_passes_1) [] []] (B (l.any Grp.bad)) :=
  containsFunc hG fn_slices_ContainsFunc_4int (by decide) fn_slices_IndexFunc_4int (by decide) Grp.cs (fun _ => rfl) (by simp) (fun _ => rfl) l (by omega) (fi := []) (ca := []) rfl rfl Grp.bad (fun g hg => passes_1 hG g (hs g hg))
theorem groups_any' (v : Vts) (h1 : v.g0.small) (h2 : v.g1.small) (h3 : v.g2.small) : Holds Tryz.prog G F.slices_ContainsFunc_4int [.sl (3 - 0) fun i => List.take 4 (List.drop (4 + (0 + i) * 4) [I v.all.n0, I v.all.n1, I v.all.n2, I v.all.n3, I v.g0.n0, I v.g0.n1, I v.g0.n2, I v.g0.n3, I v.g1.n0, I v.g1.n1, I v.g1.n2, I v.g1.n3, I v.g2.n0, I v.g2.n1, I v.g2.n2, I v.g2.n3]), .fn (.func F.speak_votes_passes_1) [] []] (B ([v.g0, v.g1, v.g2].any Grp.bad)) := by
  refine (groups_any hG [v.g0, v.g1, v.g2] (by simp) (by simp [h1, h2, h3])).conv rfl ?_
  intro i x x' hx' hx S w u hu
  match i, hx', hx with
  | 0, hx', hx =>
    cases hx'
    cases hx
    refine eqT_sound 3 _ _ ?_ S w u hu
    simp [eqT, slOf, Grp.cs, beqA, List.range_succ]
  | 1, hx', hx => cases hx'; cases hx; exact hu
  | i + 2, hx', hx => simp at hx'
theorem votes_passes (v : Vts) (rule : Int) (h0 : v.all.small) (h1 : v.g0.small) (h2 : v.g1.small) (h3 : v.g2.small) : Holds Tryz.prog G F.speak_votes_passes [.agg v.cs, I rule] (B (passV v rule)) := by
  have hga := groups_any' hG v h1 h2 h3
  obtain ⟨z0, z1, z2, z3⟩ := h0
  unfold passV
  by_cases r1 : rule = 1
  · have r11 : (rule = 1) = True := eq_true r1
    rw [if_pos r1]
    (refine holds_of_sem hG fn_speak_votes_passes (by simp) fun w0 S0 hG0 D0 => ?_; unfold c_speak_votes_passes cval enterEnv; simp only [List.zipIdx_cons, List.zipIdx_nil, List.map_cons, List.map_nil, Nat.zero_add, Nat.reduceAdd])
    repeat' (first | ((first | refine o1 rfl ?_ | refine o0 rfl ?_); intro k hk; simp (disch := omega) only [ev0, sl_cells, simprocAttr, Vts.cs, Grp.cs]; refine hk _ _ ?_; clear hk k) | refine ono rfl ?_ | ((first | refine osplitG rfl (fun h => ?_) (fun h => ?_) | refine osplitB rfl (fun h => ?_) (fun h => ?_)) <;> (fail_if_success (simp only [eq_self, reduceCtorEq] at h))) | refine onx ?_ | refine onb ?_ | refine sreg ?_ | refine qT rfl ?_ | refine qF rfl ?_ | refine scondT rfl ?_ | refine scondF rfl ?_ | refine ocondP rfl (fun h => ?_) (fun h => ?_) | refine ocondB rfl (fun h => ?_) (fun h => ?_) | refine scondP rfl (fun h => ?_) (fun h => ?_) | refine scond rfl (fun h => ?_) (fun h => ?_) | refine oskip ?_ | refine oskipb ?_ | refine oret ?_ | refine sem_ret ?_ | refine sem_seq ?_ | refine sreg1 ?_)
    refine sem_block ?_
    repeat' (first | ((first | refine o1 rfl ?_ | refine o0 rfl ?_); intro k hk; simp (disch := omega) only [ev0, sl_cells, simprocAttr, Vts.cs, Grp.cs, r11, decide_true, List.cons_append, List.nil_append]; refine hk _ _ ?_; clear hk k) | refine ono rfl ?_ | ((first | refine osplitG rfl (fun h => ?_) (fun h => ?_) | refine osplitB rfl (fun h => ?_) (fun h => ?_)) <;> (fail_if_success (simp only [eq_self, reduceCtorEq] at h))) | refine onx ?_ | refine onb ?_ | refine sreg ?_ | refine qT rfl ?_ | refine qF rfl ?_ | refine scondT rfl ?_ | refine scondF rfl ?_ | refine ocondP rfl (fun h => ?_) (fun h => ?_) | refine ocondB rfl (fun h => ?_) (fun h => ?_) | refine scondP rfl (fun h => ?_) (fun h => ?_) | refine scond rfl (fun h => ?_) (fun h => ?_) | refine oskip ?_ | refine oskipb ?_ | refine oret ?_ | refine sem_ret ?_ | refine sem_seq ?_ | refine sreg1 ?_)
    exact ⟨_, rfl, _, rfl, tree_eq rfl rfl⟩
  · have r11 : (rule = 1) = False := eq_false r1
    rw [if_neg r1]
    by_cases r2 : rule = 2
    · have r22 : (rule = 2) = True := eq_true r2
      rw [if_pos r2]
      (refine holds_of_sem hG fn_speak_votes_passes (by simp) fun w0 S0 hG0 D0 => ?_; unfold c_speak_votes_passes cval enterEnv; simp only [List.zipIdx_cons, List.zipIdx_nil, List.map_cons, List.map_nil, Nat.zero_add, Nat.reduceAdd])
      repeat' (first | ((first | refine o1 rfl ?_ | refine o0 rfl ?_); intro k hk; simp (disch := omega) only [ev0, sl_cells, simprocAttr, Vts.cs, Grp.cs]; refine hk _ _ ?_; clear hk k) | refine ono rfl ?_ | ((first | refine osplitG rfl (fun h => ?_) (fun h => ?_) | refine osplitB rfl (fun h => ?_) (fun h => ?_)) <;> (fail_if_success (simp only [eq_self, reduceCtorEq] at h))) | refine onx ?_ | refine onb ?_ | refine sreg ?_ | refine qT rfl ?_ | refine qF rfl ?_ | refine scondT rfl ?_ | refine scondF rfl ?_ | refine ocondP rfl (fun h => ?_) (fun h => ?_) | refine ocondB rfl (fun h => ?_) (fun h => ?_) | refine scondP rfl (fun h => ?_) (fun h => ?_) | refine scond rfl (fun h => ?_) (fun h => ?_) | refine oskip ?_ | refine oskipb ?_ | refine oret ?_ | refine sem_ret ?_ | refine sem_seq ?_ | refine sreg1 ?_)
      refine sem_block ?_
      repeat' (first | ((first | refine o1 rfl ?_ | refine o0 rfl ?_); intro k hk; simp (disch := omega) only [ev0, sl_cells, simprocAttr, Vts.cs, Grp.cs, r11, r22, decide_true, decide_false, List.cons_append, List.nil_append]; refine hk _ _ ?_; clear hk k) | refine ono rfl ?_ | ((first | refine osplitG rfl (fun h => ?_) (fun h => ?_) | refine osplitB rfl (fun h => ?_) (fun h => ?_)) <;> (fail_if_success (simp only [eq_self, reduceCtorEq] at h))) | refine onx ?_ | refine onb ?_ | refine sreg ?_ | refine qT rfl ?_ | refine qF rfl ?_ | refine scondT rfl ?_ | refine scondF rfl ?_ | refine ocondP rfl (fun h => ?_) (fun h => ?_) | refine ocondB rfl (fun h => ?_) (fun h => ?_) | refine scondP rfl (fun h => ?_) (fun h => ?_) | refine scond rfl (fun h => ?_) (fun h => ?_) | refine oskip ?_ | refine oskipb ?_ | refine oret ?_ | refine sem_ret ?_ | refine sem_seq ?_ | refine sreg1 ?_)
      exact ⟨_, rfl, _, rfl, tree_eq rfl rfl⟩
    · have r22 : (rule = 2) = False := eq_false r2
      rw [if_neg r2]
      (refine holds_of_sem hG fn_speak_votes_passes (by simp) fun w0 S0 hG0 D0 => ?_; unfold c_speak_votes_passes cval enterEnv; simp only [List.zipIdx_cons, List.zipIdx_nil, List.map_cons, List.map_nil, Nat.zero_add, Nat.reduceAdd])
      repeat' (first | ((first | refine o1 rfl ?_ | refine o0 rfl ?_); intro k hk; simp (disch := omega) only [ev0, sl_cells, simprocAttr, Vts.cs, Grp.cs, List.cons_append, List.nil_append]; refine hk _ _ ?_; clear hk k) | refine ono rfl ?_ | ((first | refine osplitG rfl (fun h => ?_) (fun h => ?_) | refine osplitB rfl (fun h => ?_) (fun h => ?_)) <;> (fail_if_success (simp only [eq_self, reduceCtorEq] at h))) | refine onx ?_ | refine onb ?_ | refine sreg ?_ | refine qT rfl ?_ | refine qF rfl ?_ | refine scondT rfl ?_ | refine scondF rfl ?_ | refine ocondP rfl (fun h => ?_) (fun h => ?_) | refine ocondB rfl (fun h => ?_) (fun h => ?_) | refine scondP rfl (fun h => ?_) (fun h => ?_) | refine scond rfl (fun h => ?_) (fun h => ?_) | refine oskip ?_ | refine oskipb ?_ | refine oret ?_ | refine sem_ret ?_ | refine sem_seq ?_ | refine sreg1 ?_)
      (refine sem_frzbox 0 rfl rfl ?_; simp only [frzE, frzM, frzA, frzL, frzO, frz_sl, List.map_cons, List.map_nil, List.set_cons_zero, List.set_cons_succ, Nat.reduceEqDiff, if_true, if_false, and_self, Nat.reduceLT, Nat.reduceLeDiff, reduceIte, Nat.le_refl])
      refine sem_block ?_
      repeat' (first | ((first | refine o1 rfl ?_ | refine o0 rfl ?_); intro k hk; simp (disch := omega) only [ev0, sl_cells, simprocAttr, Vts.cs, Grp.cs, r11, r22, decide_false, List.cons_append, List.nil_append]; refine hk _ _ ?_; clear hk k) | refine ono rfl ?_ | ((first | refine osplitG rfl (fun h => ?_) (fun h => ?_) | refine osplitB rfl (fun h => ?_) (fun h => ?_)) <;> (fail_if_success (simp only [eq_self, reduceCtorEq] at h))) | refine onx ?_ | refine onb ?_ | refine sreg ?_ | refine qT rfl ?_ | refine qF rfl ?_ | refine scondT rfl ?_ | refine scondF rfl ?_ | refine ocondP rfl (fun h => ?_) (fun h => ?_) | refine ocondB rfl (fun h => ?_) (fun h => ?_) | refine scondP rfl (fun h => ?_) (fun h => ?_) | refine scond rfl (fun h => ?_) (fun h => ?_) | refine oskip ?_ | refine oskipb ?_ | refine oret ?_ | refine sem_ret ?_ | refine sem_seq ?_ | refine sreg1 ?_)
      refine ocall rfl hga rfl rfl ?_
      repeat' (first | ((first | refine o1 rfl ?_ | refine o0 rfl ?_); intro k hk; simp (disch := omega) only [ev0, sl_cells, simprocAttr]; refine hk _ _ ?_; clear hk k) | refine ono rfl ?_ | ((first | refine osplitG rfl (fun h => ?_) (fun h => ?_) | refine osplitB rfl (fun h => ?_) (fun h => ?_)) <;> (fail_if_success (simp only [eq_self, reduceCtorEq] at h))) | refine onx ?_ | refine onb ?_ | refine sreg ?_ | refine qT rfl ?_ | refine qF rfl ?_ | refine scondT rfl ?_ | refine scondF rfl ?_ | refine ocondP rfl (fun h => ?_) (fun h => ?_) | refine ocondB rfl (fun h => ?_) (fun h => ?_) | refine scondP rfl (fun h => ?_) (fun h => ?_) | refine scond rfl (fun h => ?_) (fun h => ?_) | refine oskip ?_ | refine oskipb ?_ | refine oret ?_ | refine sem_ret ?_ | refine sem_seq ?_ | refine sreg1 ?_)
      exact ⟨_, rfl, _, rfl, tree_eq rfl rfl⟩
end Go.Proofs.YtcllnnjeaidppaaGreatDoor
