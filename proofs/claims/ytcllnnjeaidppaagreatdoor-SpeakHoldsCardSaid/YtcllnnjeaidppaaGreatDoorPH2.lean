/- Motions: the reference. -/
import Derived.Test.YtcllnnjeaidppaaGreatDoorPH1
import Derived.Test.YtcllnnjeaidppaaGreatDoorPF5
set_option linter.unusedVariables false
set_option linter.unusedSimpArgs false
set_option linter.unusedSectionVars false
set_option maxRecDepth 8000
set_option maxHeartbeats 4000000
namespace Go.Tk
open Go Go.Av
def endN (m : List Part) (i : Nat) : Int := match opd m i with
  | some (_, j) => (j : Int)
  | none => -1
theorem fits_not {l : List Deed} {d : Deed} (h : ∀ j, j < l.length → hits (l.getD j default) d = false) : fits1 l d = false := by
  unfold fits1
  rw [List.any_eq_false]
  intro x hx
  obtain ⟨j, hj, rfl⟩ := List.getElem_of_mem hx
  have := h j hj
  rw [getD_lt hj] at this
  simpa [hits] using this
theorem fits_yes {l : List Deed} {d : Deed} {j : Nat} (hj : j < l.length) (h : hits (l.getD j default) d = true) : fits1 l d = true := by
  unfold fits1
  rw [List.any_eq_true]
  rw [getD_lt hj] at h
  exact ⟨_, List.getElem_mem hj, by simpa [hits] using h⟩
end Go.Tk
namespace Go.Proofs.YtcllnnjeaidppaaGreatDoor
open Go Go.Av Go.Tk
attribute [local irreducible] Holds sem semL ACalls FnIs
variable {G : World → Prop} (hG : ∀ w w', G w → RowKit.Below w.heap.size w w' → G w')
include hG
theorem ref09_Clause (a n t : Int) : Holds Tryz.prog G F.ref09_Clause [I a, I n, I t] (B (decide (Deed.ok ⟨a, n, t⟩))) := by
  have g1 := ref09_in hG a 1 4
  have g2 := ref09_in hG n 1 99
  have g3 := ref09_in hG t 1 4
  by_cases h1 : 1 ≤ a ∧ a ≤ 4
  · rw [decide_eq_true h1] at g1
    by_cases h2 : 1 ≤ n ∧ n ≤ 99
    · rw [decide_eq_true h2] at g2
      rw [show decide (Deed.ok ⟨a, n, t⟩) = decide (1 ≤ t ∧ t ≤ 4) from decide_eq_decide.2 ⟨fun q => q.2.1, fun q => ⟨h1, q, h2⟩⟩]
      (refine holds_of_sem hG fn_ref09_Clause (by simp) fun w0 S0 hG0 D0 => ?_; unfold c_ref09_Clause cval enterEnv; simp only [List.zipIdx_cons, List.zipIdx_nil, List.map_cons, List.map_nil, Nat.zero_add, Nat.reduceAdd])
      repeat' (first | ((first | refine o1 rfl ?_ | refine o0 rfl ?_); intro k hk; simp (disch := omega) only [ev0, sl_cells, simprocAttr]; refine hk _ _ ?_; clear hk k) | refine ono rfl ?_ | (apply ocall; (case he => (simp only [ev0, sl_cells, simprocAttr] <;> rfl)); (case hc => first | exact g1 | exact g2 | exact g3); (case ht => rfl); (case hg => rfl)) | ((first | refine osplitG rfl (fun h => ?_) (fun h => ?_) | refine osplitB rfl (fun h => ?_) (fun h => ?_)) <;> (fail_if_success (simp only [eq_self, reduceCtorEq] at h))) | refine onx ?_ | refine onb ?_ | refine sreg ?_ | refine qT rfl ?_ | refine qF rfl ?_ | refine scondT rfl ?_ | refine scondF rfl ?_ | refine ocondP rfl (fun h => ?_) (fun h => ?_) | refine ocondB rfl (fun h => ?_) (fun h => ?_) | refine scondP rfl (fun h => ?_) (fun h => ?_) | refine scond rfl (fun h => ?_) (fun h => ?_) | refine oskip ?_ | refine oskipb ?_ | refine oret ?_ | refine sem_ret ?_ | refine sem_seq ?_ | refine sreg1 ?_)
      exact ⟨_, rfl, _, rfl, tree_eq rfl rfl⟩
    · rw [decide_eq_false h2] at g2
      rw [decide_eq_false (show ¬ Deed.ok ⟨a, n, t⟩ from fun q => h2 q.2.2)]
      (refine holds_of_sem hG fn_ref09_Clause (by simp) fun w0 S0 hG0 D0 => ?_; unfold c_ref09_Clause cval enterEnv; simp only [List.zipIdx_cons, List.zipIdx_nil, List.map_cons, List.map_nil, Nat.zero_add, Nat.reduceAdd])
      repeat' (first | ((first | refine o1 rfl ?_ | refine o0 rfl ?_); intro k hk; simp (disch := omega) only [ev0, sl_cells, simprocAttr]; refine hk _ _ ?_; clear hk k) | refine ono rfl ?_ | (apply ocall; (case he => (simp only [ev0, sl_cells, simprocAttr] <;> rfl)); (case hc => first | exact g1 | exact g2 | exact g3); (case ht => rfl); (case hg => rfl)) | ((first | refine osplitG rfl (fun h => ?_) (fun h => ?_) | refine osplitB rfl (fun h => ?_) (fun h => ?_)) <;> (fail_if_success (simp only [eq_self, reduceCtorEq] at h))) | refine onx ?_ | refine onb ?_ | refine sreg ?_ | refine qT rfl ?_ | refine qF rfl ?_ | refine scondT rfl ?_ | refine scondF rfl ?_ | refine ocondP rfl (fun h => ?_) (fun h => ?_) | refine ocondB rfl (fun h => ?_) (fun h => ?_) | refine scondP rfl (fun h => ?_) (fun h => ?_) | refine scond rfl (fun h => ?_) (fun h => ?_) | refine oskip ?_ | refine oskipb ?_ | refine oret ?_ | refine sem_ret ?_ | refine sem_seq ?_ | refine sreg1 ?_)
      exact ⟨_, rfl, _, rfl, tree_eq rfl rfl⟩
  · rw [decide_eq_false h1] at g1
    rw [decide_eq_false (show ¬ Deed.ok ⟨a, n, t⟩ from fun q => h1 q.1)]
    (refine holds_of_sem hG fn_ref09_Clause (by simp) fun w0 S0 hG0 D0 => ?_; unfold c_ref09_Clause cval enterEnv; simp only [List.zipIdx_cons, List.zipIdx_nil, List.map_cons, List.map_nil, Nat.zero_add, Nat.reduceAdd])
    repeat' (first | ((first | refine o1 rfl ?_ | refine o0 rfl ?_); intro k hk; simp (disch := omega) only [ev0, sl_cells, simprocAttr]; refine hk _ _ ?_; clear hk k) | refine ono rfl ?_ | (apply ocall; (case he => (simp only [ev0, sl_cells, simprocAttr] <;> rfl)); (case hc => first | exact g1 | exact g2 | exact g3); (case ht => rfl); (case hg => rfl)) | ((first | refine osplitG rfl (fun h => ?_) (fun h => ?_) | refine osplitB rfl (fun h => ?_) (fun h => ?_)) <;> (fail_if_success (simp only [eq_self, reduceCtorEq] at h))) | refine onx ?_ | refine onb ?_ | refine sreg ?_ | refine qT rfl ?_ | refine qF rfl ?_ | refine scondT rfl ?_ | refine scondF rfl ?_ | refine ocondP rfl (fun h => ?_) (fun h => ?_) | refine ocondB rfl (fun h => ?_) (fun h => ?_) | refine scondP rfl (fun h => ?_) (fun h => ?_) | refine scond rfl (fun h => ?_) (fun h => ?_) | refine oskip ?_ | refine oskipb ?_ | refine oret ?_ | refine sem_ret ?_ | refine sem_seq ?_ | refine sreg1 ?_)
    exact ⟨_, rfl, _, rfl, tree_eq rfl rfl⟩
theorem End_neg (m : List Part) : Holds Tryz.prog G F.ref09_End [slOf Part.cs m, I (-1)] (I (-1)) := by
  have h1 : ((-1 : Int) < 0) = True := eq_true (by decide)
  (refine holds_of_sem hG fn_ref09_End (by simp) fun w0 S0 hG0 D0 => ?_; unfold c_ref09_End cval enterEnv; simp only [List.zipIdx_cons, List.zipIdx_nil, List.map_cons, List.map_nil, Nat.zero_add, Nat.reduceAdd])
  repeat' (first | ((first | refine o1 rfl ?_ | refine o0 rfl ?_); intro k hk; simp (disch := omega) only [ev0, sl_cells, simprocAttr, slOf, h1, decide_true]; refine hk _ _ ?_; clear hk k) | refine ono rfl ?_ | ((first | refine osplitG rfl (fun h => ?_) (fun h => ?_) | refine osplitB rfl (fun h => ?_) (fun h => ?_)) <;> (fail_if_success (simp only [eq_self, reduceCtorEq] at h))) | refine onx ?_ | refine onb ?_ | refine sreg ?_ | refine qT rfl ?_ | refine qF rfl ?_ | refine scondT rfl ?_ | refine scondF rfl ?_ | refine ocondP rfl (fun h => ?_) (fun h => ?_) | refine ocondB rfl (fun h => ?_) (fun h => ?_) | refine scondP rfl (fun h => ?_) (fun h => ?_) | refine scond rfl (fun h => ?_) (fun h => ?_) | refine oskip ?_ | refine oskipb ?_ | refine oret ?_ | refine sem_ret ?_ | refine sem_seq ?_ | refine sreg1 ?_)
  exact ⟨_, rfl, _, rfl, tree_eq rfl rfl⟩
theorem ref09_EndN (m : List Part) (hl : m.length ≤ 100000) : ∀ (n i : Nat), i ≤ m.length → m.length - i < n → Holds Tryz.prog G F.ref09_End [slOf Part.cs m, I i] (I (endN m i))
  | 0, i, _, h => absurd h (Nat.not_lt_zero _)
  | n + 1, i, hi, h => by
    have h1 : ((i : Int) < 0) = False := eq_false (by omega)
    by_cases h2 : m.length ≤ i
    · have h22 : ((m.length : Int) ≤ i) = True := eq_true (by omega)
      rw [show endN m i = -1 by unfold endN; rw [opd_end h2]]
      (refine holds_of_sem hG fn_ref09_End (by simp) fun w0 S0 hG0 D0 => ?_; unfold c_ref09_End cval enterEnv; simp only [List.zipIdx_cons, List.zipIdx_nil, List.map_cons, List.map_nil, Nat.zero_add, Nat.reduceAdd])
      repeat' (first | ((first | refine o1 rfl ?_ | refine o0 rfl ?_); intro k hk; simp (disch := omega) only [ev0, sl_cells, simprocAttr, slOf, h1, h22, decide_true, decide_false]; refine hk _ _ ?_; clear hk k) | refine ono rfl ?_ | ((first | refine osplitG rfl (fun h => ?_) (fun h => ?_) | refine osplitB rfl (fun h => ?_) (fun h => ?_)) <;> (fail_if_success (simp only [eq_self, reduceCtorEq] at h))) | refine onx ?_ | refine onb ?_ | refine sreg ?_ | refine qT rfl ?_ | refine qF rfl ?_ | refine scondT rfl ?_ | refine scondF rfl ?_ | refine ocondP rfl (fun h => ?_) (fun h => ?_) | refine ocondB rfl (fun h => ?_) (fun h => ?_) | refine scondP rfl (fun h => ?_) (fun h => ?_) | refine scond rfl (fun h => ?_) (fun h => ?_) | refine oskip ?_ | refine oskipb ?_ | refine oret ?_ | refine sem_ret ?_ | refine sem_seq ?_ | refine sreg1 ?_)
      exact ⟨_, rfl, _, rfl, tree_eq rfl rfl⟩
    have hi2 : i < m.length := by omega
    have h22 : ((m.length : Int) ≤ i) = False := eq_false (by omega)
    have ih := ref09_EndN m hl n (i + 1) (by omega) (by omega)
    have hcl := ref09_Clause hG (m.getD i default).act (m.getD i default).number (m.getD i default).thing
    have he : endN m i = (let p := m.getD i default
        if p.kind = 1 then (if p.deed.ok then (i : Int) + 1 else -1)
        else if p.op then (match opd m (i + 1) with
          | none => -1
          | some (a, j) => if p.kind = 2 then (j : Int) else endN m j)
        else -1) := by
      unfold endN
      rw [opd_eq hi2]
      simp only
      by_cases c1 : (m.getD i default).kind = 1
      · rw [if_pos c1, if_pos c1]
        by_cases c2 : (m.getD i default).deed.ok
        · rw [if_pos c2, if_pos c2]; simp
        · rw [if_neg c2, if_neg c2]
      · rw [if_neg c1, if_neg c1]
        by_cases c2 : (m.getD i default).op
        · rw [if_pos c2, if_pos c2]
          cases opd m (i + 1) with
          | none => rfl
          | some q =>
            obtain ⟨a, j⟩ := q
            simp only
            by_cases c3 : (m.getD i default).kind = 2
            · rw [if_pos c3, if_pos c3]
            · rw [if_neg c3, if_neg c3]
              cases opd m j <;> rfl
        · rw [if_neg c2, if_neg c2]
    rw [he]
    have ih2 : endN m (i + 1) = match opd m (i + 1) with
        | some (_, j) => (j : Int)
        | none => -1 := rfl
    have ih3 : ∀ a j, opd m (i + 1) = some (a, j) → Holds Tryz.prog G F.ref09_End [slOf Part.cs m, I j] (I (endN m j)) := fun a j ha => by
      have := opd_lt ha
      exact ref09_EndN m hl n j (by omega) (by omega)
    simp only
    clear he
    generalize hp : m.getD i default = p at *
    obtain ⟨pk, pa, pn, pt⟩ := p
    simp only at hcl ⊢
    by_cases hk : pk = 1
    · subst hk
      rw [if_pos rfl]
      by_cases hok : (Part.deed ⟨1, pa, pn, pt⟩).ok
      · rw [decide_eq_true (show Deed.ok ⟨pa, pn, pt⟩ from hok)] at hcl
        rw [if_pos hok]
        (refine holds_of_sem hG fn_ref09_End (by simp) fun w0 S0 hG0 D0 => ?_; unfold c_ref09_End cval enterEnv; simp only [List.zipIdx_cons, List.zipIdx_nil, List.map_cons, List.map_nil, Nat.zero_add, Nat.reduceAdd])
        repeat' (first | ((first | refine o1 rfl ?_ | refine o0 rfl ?_); intro k hk; simp (disch := omega) only [ev0, sl_cells, simprocAttr, slOf, h1, h22, hp, Part.cs, decide_true, decide_false]; refine hk _ _ ?_; clear hk k) | refine ono rfl ?_ | (apply ocall; (case he => (simp only [ev0, sl_cells, simprocAttr] <;> rfl)); (case hc => first | exact hcl); (case ht => rfl); (case hg => rfl)) | ((first | refine osplitG rfl (fun h => ?_) (fun h => ?_) | refine osplitB rfl (fun h => ?_) (fun h => ?_)) <;> (fail_if_success (simp only [eq_self, reduceCtorEq] at h))) | refine onx ?_ | refine onb ?_ | refine sreg ?_ | refine qT rfl ?_ | refine qF rfl ?_ | refine scondT rfl ?_ | refine scondF rfl ?_ | refine ocondP rfl (fun h => ?_) (fun h => ?_) | refine ocondB rfl (fun h => ?_) (fun h => ?_) | refine scondP rfl (fun h => ?_) (fun h => ?_) | refine scond rfl (fun h => ?_) (fun h => ?_) | refine oskip ?_ | refine oskipb ?_ | refine oret ?_ | refine sem_ret ?_ | refine sem_seq ?_ | refine sreg1 ?_)
        exact ⟨_, rfl, _, rfl, tree_eq rfl rfl⟩
      · rw [decide_eq_false (show ¬ Deed.ok ⟨pa, pn, pt⟩ from hok)] at hcl
        rw [if_neg hok]
        (refine holds_of_sem hG fn_ref09_End (by simp) fun w0 S0 hG0 D0 => ?_; unfold c_ref09_End cval enterEnv; simp only [List.zipIdx_cons, List.zipIdx_nil, List.map_cons, List.map_nil, Nat.zero_add, Nat.reduceAdd])
        repeat' (first | ((first | refine o1 rfl ?_ | refine o0 rfl ?_); intro k hk; simp (disch := omega) only [ev0, sl_cells, simprocAttr, slOf, h1, h22, hp, Part.cs, decide_true, decide_false]; refine hk _ _ ?_; clear hk k) | refine ono rfl ?_ | (apply ocall; (case he => (simp only [ev0, sl_cells, simprocAttr] <;> rfl)); (case hc => first | exact hcl); (case ht => rfl); (case hg => rfl)) | ((first | refine osplitG rfl (fun h => ?_) (fun h => ?_) | refine osplitB rfl (fun h => ?_) (fun h => ?_)) <;> (fail_if_success (simp only [eq_self, reduceCtorEq] at h))) | refine onx ?_ | refine onb ?_ | refine sreg ?_ | refine qT rfl ?_ | refine qF rfl ?_ | refine scondT rfl ?_ | refine scondF rfl ?_ | refine ocondP rfl (fun h => ?_) (fun h => ?_) | refine ocondB rfl (fun h => ?_) (fun h => ?_) | refine scondP rfl (fun h => ?_) (fun h => ?_) | refine scond rfl (fun h => ?_) (fun h => ?_) | refine oskip ?_ | refine oskipb ?_ | refine oret ?_ | refine sem_ret ?_ | refine sem_seq ?_ | refine sreg1 ?_)
        exact ⟨_, rfl, _, rfl, tree_eq rfl rfl⟩
    have hk1 : (pk = 1) = False := eq_false hk
    rw [if_neg hk]
    by_cases ha : pa = 0
    rotate_left
    · have haa : (pa = 0) = False := eq_false ha
      rw [if_neg (show ¬ Part.op ⟨pk, pa, pn, pt⟩ from fun q => ha q.1.1)]
      (refine holds_of_sem hG fn_ref09_End (by simp) fun w0 S0 hG0 D0 => ?_; unfold c_ref09_End cval enterEnv; simp only [List.zipIdx_cons, List.zipIdx_nil, List.map_cons, List.map_nil, Nat.zero_add, Nat.reduceAdd])
      repeat' (first | ((first | refine o1 rfl ?_ | refine o0 rfl ?_); intro k hk; simp (disch := omega) only [ev0, sl_cells, simprocAttr, slOf, h1, h22, hp, hk1, haa, Part.cs, decide_true, decide_false]; refine hk _ _ ?_; clear hk k) | refine ono rfl ?_ | ((first | refine osplitG rfl (fun h => ?_) (fun h => ?_) | refine osplitB rfl (fun h => ?_) (fun h => ?_)) <;> (fail_if_success (simp only [eq_self, reduceCtorEq] at h))) | refine onx ?_ | refine onb ?_ | refine sreg ?_ | refine qT rfl ?_ | refine qF rfl ?_ | refine scondT rfl ?_ | refine scondF rfl ?_ | refine ocondP rfl (fun h => ?_) (fun h => ?_) | refine ocondB rfl (fun h => ?_) (fun h => ?_) | refine scondP rfl (fun h => ?_) (fun h => ?_) | refine scond rfl (fun h => ?_) (fun h => ?_) | refine oskip ?_ | refine oskipb ?_ | refine oret ?_ | refine sem_ret ?_ | refine sem_seq ?_ | refine sreg1 ?_)
      exact ⟨_, rfl, _, rfl, tree_eq rfl rfl⟩
    have haa : (pa = 0) = True := eq_true ha
    by_cases hn : pn = 0
    rotate_left
    · have hnn : (pn = 0) = False := eq_false hn
      rw [if_neg (show ¬ Part.op ⟨pk, pa, pn, pt⟩ from fun q => hn q.1.2.1)]
      (refine holds_of_sem hG fn_ref09_End (by simp) fun w0 S0 hG0 D0 => ?_; unfold c_ref09_End cval enterEnv; simp only [List.zipIdx_cons, List.zipIdx_nil, List.map_cons, List.map_nil, Nat.zero_add, Nat.reduceAdd])
      repeat' (first | ((first | refine o1 rfl ?_ | refine o0 rfl ?_); intro k hk; simp (disch := omega) only [ev0, sl_cells, simprocAttr, slOf, h1, h22, hp, hk1, haa, hnn, Part.cs, decide_true, decide_false]; refine hk _ _ ?_; clear hk k) | refine ono rfl ?_ | ((first | refine osplitG rfl (fun h => ?_) (fun h => ?_) | refine osplitB rfl (fun h => ?_) (fun h => ?_)) <;> (fail_if_success (simp only [eq_self, reduceCtorEq] at h))) | refine onx ?_ | refine onb ?_ | refine sreg ?_ | refine qT rfl ?_ | refine qF rfl ?_ | refine scondT rfl ?_ | refine scondF rfl ?_ | refine ocondP rfl (fun h => ?_) (fun h => ?_) | refine ocondB rfl (fun h => ?_) (fun h => ?_) | refine scondP rfl (fun h => ?_) (fun h => ?_) | refine scond rfl (fun h => ?_) (fun h => ?_) | refine oskip ?_ | refine oskipb ?_ | refine oret ?_ | refine sem_ret ?_ | refine sem_seq ?_ | refine sreg1 ?_)
      exact ⟨_, rfl, _, rfl, tree_eq rfl rfl⟩
    have hnn : (pn = 0) = True := eq_true hn
    by_cases ht : pt = 0
    rotate_left
    · have htt : (pt = 0) = False := eq_false ht
      rw [if_neg (show ¬ Part.op ⟨pk, pa, pn, pt⟩ from fun q => ht q.1.2.2)]
      (refine holds_of_sem hG fn_ref09_End (by simp) fun w0 S0 hG0 D0 => ?_; unfold c_ref09_End cval enterEnv; simp only [List.zipIdx_cons, List.zipIdx_nil, List.map_cons, List.map_nil, Nat.zero_add, Nat.reduceAdd])
      repeat' (first | ((first | refine o1 rfl ?_ | refine o0 rfl ?_); intro k hk; simp (disch := omega) only [ev0, sl_cells, simprocAttr, slOf, h1, h22, hp, hk1, haa, hnn, htt, Part.cs, decide_true, decide_false]; refine hk _ _ ?_; clear hk k) | refine ono rfl ?_ | ((first | refine osplitG rfl (fun h => ?_) (fun h => ?_) | refine osplitB rfl (fun h => ?_) (fun h => ?_)) <;> (fail_if_success (simp only [eq_self, reduceCtorEq] at h))) | refine onx ?_ | refine onb ?_ | refine sreg ?_ | refine qT rfl ?_ | refine qF rfl ?_ | refine scondT rfl ?_ | refine scondF rfl ?_ | refine ocondP rfl (fun h => ?_) (fun h => ?_) | refine ocondB rfl (fun h => ?_) (fun h => ?_) | refine scondP rfl (fun h => ?_) (fun h => ?_) | refine scond rfl (fun h => ?_) (fun h => ?_) | refine oskip ?_ | refine oskipb ?_ | refine oret ?_ | refine sem_ret ?_ | refine sem_seq ?_ | refine sreg1 ?_)
      exact ⟨_, rfl, _, rfl, tree_eq rfl rfl⟩
    have htt : (pt = 0) = True := eq_true ht
    by_cases hop : 2 ≤ pk ∧ pk ≤ 4
    rotate_left
    · have k2 : (pk = 2) = False := eq_false (by omega)
      have k3 : (pk = 3) = False := eq_false (by omega)
      have k4 : (pk = 4) = False := eq_false (by omega)
      rw [if_neg (show ¬ Part.op ⟨pk, pa, pn, pt⟩ from fun q => hop q.2)]
      (refine holds_of_sem hG fn_ref09_End (by simp) fun w0 S0 hG0 D0 => ?_; unfold c_ref09_End cval enterEnv; simp only [List.zipIdx_cons, List.zipIdx_nil, List.map_cons, List.map_nil, Nat.zero_add, Nat.reduceAdd])
      repeat' (first | ((first | refine o1 rfl ?_ | refine o0 rfl ?_); intro k hk; simp (disch := omega) only [ev0, sl_cells, simprocAttr, slOf, h1, h22, hp, hk1, haa, hnn, htt, k2, k3, k4, Part.cs, decide_true, decide_false]; refine hk _ _ ?_; clear hk k) | refine ono rfl ?_ | ((first | refine osplitG rfl (fun h => ?_) (fun h => ?_) | refine osplitB rfl (fun h => ?_) (fun h => ?_)) <;> (fail_if_success (simp only [eq_self, reduceCtorEq] at h))) | refine onx ?_ | refine onb ?_ | refine sreg ?_ | refine qT rfl ?_ | refine qF rfl ?_ | refine scondT rfl ?_ | refine scondF rfl ?_ | refine ocondP rfl (fun h => ?_) (fun h => ?_) | refine ocondB rfl (fun h => ?_) (fun h => ?_) | refine scondP rfl (fun h => ?_) (fun h => ?_) | refine scond rfl (fun h => ?_) (fun h => ?_) | refine oskip ?_ | refine oskipb ?_ | refine oret ?_ | refine sem_ret ?_ | refine sem_seq ?_ | refine sreg1 ?_)
      refine sem_block ?_
      repeat' (first | ((first | refine o1 rfl ?_ | refine o0 rfl ?_); intro k hk; simp (disch := omega) only [ev0, sl_cells, simprocAttr, slOf, k2, k3, k4, decide_true, decide_false]; refine hk _ _ ?_; clear hk k) | refine ono rfl ?_ | ((first | refine osplitG rfl (fun h => ?_) (fun h => ?_) | refine osplitB rfl (fun h => ?_) (fun h => ?_)) <;> (fail_if_success (simp only [eq_self, reduceCtorEq] at h))) | refine onx ?_ | refine onb ?_ | refine sreg ?_ | refine qT rfl ?_ | refine qF rfl ?_ | refine scondT rfl ?_ | refine scondF rfl ?_ | refine ocondP rfl (fun h => ?_) (fun h => ?_) | refine ocondB rfl (fun h => ?_) (fun h => ?_) | refine scondP rfl (fun h => ?_) (fun h => ?_) | refine scond rfl (fun h => ?_) (fun h => ?_) | refine oskip ?_ | refine oskipb ?_ | refine oret ?_ | refine sem_ret ?_ | refine sem_seq ?_ | refine sreg1 ?_)
      exact ⟨_, rfl, _, rfl, tree_eq rfl rfl⟩
    rw [if_pos (show Part.op ⟨pk, pa, pn, pt⟩ from ⟨⟨ha, hn, ht⟩, hop⟩)]
    by_cases k : pk = 2
    · subst k
      have e : (match opd m (i + 1) with
          | none => (-1 : Int)
          | some (a, j) => if (2 : Int) = 2 then (j : Int) else endN m j) = endN m (i + 1) := by
        rw [ih2]
        cases opd m (i + 1) with
        | none => rfl
        | some q => rfl
      rw [e]
      (refine holds_of_sem hG fn_ref09_End (by simp) fun w0 S0 hG0 D0 => ?_; unfold c_ref09_End cval enterEnv; simp only [List.zipIdx_cons, List.zipIdx_nil, List.map_cons, List.map_nil, Nat.zero_add, Nat.reduceAdd])
      repeat' (first | ((first | refine o1 rfl ?_ | refine o0 rfl ?_); intro k hk; simp (disch := omega) only [ev0, sl_cells, simprocAttr, slOf, h1, h22, hp, haa, hnn, htt, Part.cs, decide_true, decide_false]; refine hk _ _ ?_; clear hk k) | refine ono rfl ?_ | ((first | refine osplitG rfl (fun h => ?_) (fun h => ?_) | refine osplitB rfl (fun h => ?_) (fun h => ?_)) <;> (fail_if_success (simp only [eq_self, reduceCtorEq] at h))) | refine onx ?_ | refine onb ?_ | refine sreg ?_ | refine qT rfl ?_ | refine qF rfl ?_ | refine scondT rfl ?_ | refine scondF rfl ?_ | refine ocondP rfl (fun h => ?_) (fun h => ?_) | refine ocondB rfl (fun h => ?_) (fun h => ?_) | refine scondP rfl (fun h => ?_) (fun h => ?_) | refine scond rfl (fun h => ?_) (fun h => ?_) | refine oskip ?_ | refine oskipb ?_ | refine oret ?_ | refine sem_ret ?_ | refine sem_seq ?_ | refine sreg1 ?_)
      refine sem_block ?_
      repeat' (first | ((first | refine o1 rfl ?_ | refine o0 rfl ?_); intro k hk; simp (disch := omega) only [ev0, sl_cells, simprocAttr, slOf, decide_true, decide_false]; refine hk _ _ ?_; clear hk k) | refine ono rfl ?_ | (apply ocall; (case he => (simp only [ev0, sl_cells, simprocAttr] <;> rfl)); (case hc => first | exact ih); (case ht => rfl); (case hg => rfl)) | ((first | refine osplitG rfl (fun h => ?_) (fun h => ?_) | refine osplitB rfl (fun h => ?_) (fun h => ?_)) <;> (fail_if_success (simp only [eq_self, reduceCtorEq] at h))) | refine onx ?_ | refine onb ?_ | refine sreg ?_ | refine qT rfl ?_ | refine qF rfl ?_ | refine scondT rfl ?_ | refine scondF rfl ?_ | refine ocondP rfl (fun h => ?_) (fun h => ?_) | refine ocondB rfl (fun h => ?_) (fun h => ?_) | refine scondP rfl (fun h => ?_) (fun h => ?_) | refine scond rfl (fun h => ?_) (fun h => ?_) | refine oskip ?_ | refine oskipb ?_ | refine oret ?_ | refine sem_ret ?_ | refine sem_seq ?_ | refine sreg1 ?_)
      exact ⟨_, rfl, _, rfl, tree_eq rfl rfl⟩
    have k2 : (pk = 2) = False := eq_false k
    have hout : ∀ z : Int, endN m (i + 1) = z → Holds Tryz.prog G F.ref09_End [slOf Part.cs m, I z] (I (match opd m (i + 1) with
          | none => (-1 : Int)
          | some (a, j) => if pk = 2 then (j : Int) else endN m j)) := fun z hz => by
      rw [ih2] at hz
      cases hq : opd m (i + 1) with
      | none =>
        rw [hq] at hz
        simp only at hz
        subst hz
        exact End_neg hG m
      | some q =>
        obtain ⟨a, j⟩ := q
        rw [hq] at hz
        simp only at hz
        subst hz
        simp only [if_neg k]
        exact ih3 a j hq
    have hout := hout _ rfl
    generalize (match opd m (i + 1) with
          | none => (-1 : Int)
          | some (a, j) => if pk = 2 then (j : Int) else endN m j) = r at *
    generalize endN m (i + 1) = z at *
    by_cases k3 : pk = 3
    · have k33 : (pk = 3) = True := eq_true k3
      (refine holds_of_sem hG fn_ref09_End (by simp) fun w0 S0 hG0 D0 => ?_; unfold c_ref09_End cval enterEnv; simp only [List.zipIdx_cons, List.zipIdx_nil, List.map_cons, List.map_nil, Nat.zero_add, Nat.reduceAdd])
      repeat' (first | ((first | refine o1 rfl ?_ | refine o0 rfl ?_); intro k hk; simp (disch := omega) only [ev0, sl_cells, simprocAttr, slOf, h1, h22, hp, hk1, haa, hnn, htt, k2, k33, Part.cs, decide_true, decide_false]; refine hk _ _ ?_; clear hk k) | refine ono rfl ?_ | ((first | refine osplitG rfl (fun h => ?_) (fun h => ?_) | refine osplitB rfl (fun h => ?_) (fun h => ?_)) <;> (fail_if_success (simp only [eq_self, reduceCtorEq] at h))) | refine onx ?_ | refine onb ?_ | refine sreg ?_ | refine qT rfl ?_ | refine qF rfl ?_ | refine scondT rfl ?_ | refine scondF rfl ?_ | refine ocondP rfl (fun h => ?_) (fun h => ?_) | refine ocondB rfl (fun h => ?_) (fun h => ?_) | refine scondP rfl (fun h => ?_) (fun h => ?_) | refine scond rfl (fun h => ?_) (fun h => ?_) | refine oskip ?_ | refine oskipb ?_ | refine oret ?_ | refine sem_ret ?_ | refine sem_seq ?_ | refine sreg1 ?_)
      refine sem_block ?_
      repeat' (first | ((first | refine o1 rfl ?_ | refine o0 rfl ?_); intro k hk; simp (disch := omega) only [ev0, sl_cells, simprocAttr, slOf, k2, k33, decide_true, decide_false]; refine hk _ _ ?_; clear hk k) | refine ono rfl ?_ | (apply ocall; (case he => (simp only [ev0, sl_cells, simprocAttr] <;> rfl)); (case hc => first | exact ih | exact hout); (case ht => rfl); (case hg => rfl)) | ((first | refine osplitG rfl (fun h => ?_) (fun h => ?_) | refine osplitB rfl (fun h => ?_) (fun h => ?_)) <;> (fail_if_success (simp only [eq_self, reduceCtorEq] at h))) | refine onx ?_ | refine onb ?_ | refine sreg ?_ | refine qT rfl ?_ | refine qF rfl ?_ | refine scondT rfl ?_ | refine scondF rfl ?_ | refine ocondP rfl (fun h => ?_) (fun h => ?_) | refine ocondB rfl (fun h => ?_) (fun h => ?_) | refine scondP rfl (fun h => ?_) (fun h => ?_) | refine scond rfl (fun h => ?_) (fun h => ?_) | refine oskip ?_ | refine oskipb ?_ | refine oret ?_ | refine sem_ret ?_ | refine sem_seq ?_ | refine sreg1 ?_)
      exact ⟨_, rfl, _, rfl, tree_eq rfl rfl⟩
    · have k33 : (pk = 3) = False := eq_false k3
      have k44 : (pk = 4) = True := eq_true (by omega)
      (refine holds_of_sem hG fn_ref09_End (by simp) fun w0 S0 hG0 D0 => ?_; unfold c_ref09_End cval enterEnv; simp only [List.zipIdx_cons, List.zipIdx_nil, List.map_cons, List.map_nil, Nat.zero_add, Nat.reduceAdd])
      repeat' (first | ((first | refine o1 rfl ?_ | refine o0 rfl ?_); intro k hk; simp (disch := omega) only [ev0, sl_cells, simprocAttr, slOf, h1, h22, hp, hk1, haa, hnn, htt, k2, k33, k44, Part.cs, decide_true, decide_false]; refine hk _ _ ?_; clear hk k) | refine ono rfl ?_ | ((first | refine osplitG rfl (fun h => ?_) (fun h => ?_) | refine osplitB rfl (fun h => ?_) (fun h => ?_)) <;> (fail_if_success (simp only [eq_self, reduceCtorEq] at h))) | refine onx ?_ | refine onb ?_ | refine sreg ?_ | refine qT rfl ?_ | refine qF rfl ?_ | refine scondT rfl ?_ | refine scondF rfl ?_ | refine ocondP rfl (fun h => ?_) (fun h => ?_) | refine ocondB rfl (fun h => ?_) (fun h => ?_) | refine scondP rfl (fun h => ?_) (fun h => ?_) | refine scond rfl (fun h => ?_) (fun h => ?_) | refine oskip ?_ | refine oskipb ?_ | refine oret ?_ | refine sem_ret ?_ | refine sem_seq ?_ | refine sreg1 ?_)
      refine sem_block ?_
      repeat' (first | ((first | refine o1 rfl ?_ | refine o0 rfl ?_); intro k hk; simp (disch := omega) only [ev0, sl_cells, simprocAttr, slOf, k2, k33, k44, decide_true, decide_false]; refine hk _ _ ?_; clear hk k) | refine ono rfl ?_ | (apply ocall; (case he => (simp only [ev0, sl_cells, simprocAttr] <;> rfl)); (case hc => first | exact ih | exact hout); (case ht => rfl); (case hg => rfl)) | ((first | refine osplitG rfl (fun h => ?_) (fun h => ?_) | refine osplitB rfl (fun h => ?_) (fun h => ?_)) <;> (fail_if_success (simp only [eq_self, reduceCtorEq] at h))) | refine onx ?_ | refine onb ?_ | refine sreg ?_ | refine qT rfl ?_ | refine qF rfl ?_ | refine scondT rfl ?_ | refine scondF rfl ?_ | refine ocondP rfl (fun h => ?_) (fun h => ?_) | refine ocondB rfl (fun h => ?_) (fun h => ?_) | refine scondP rfl (fun h => ?_) (fun h => ?_) | refine scond rfl (fun h => ?_) (fun h => ?_) | refine oskip ?_ | refine oskipb ?_ | refine oret ?_ | refine sem_ret ?_ | refine sem_seq ?_ | refine sreg1 ?_)
      exact ⟨_, rfl, _, rfl, tree_eq rfl rfl⟩
theorem ref09_End (m : List Part) (hl : m.length ≤ 100000) (i : Nat) (hi : i ≤ m.length) : Holds Tryz.prog G F.ref09_End [slOf Part.cs m, I i] (I (endN m i)) := ref09_EndN hG m hl _ i hi (Nat.lt_succ_self _)
end Go.Proofs.YtcllnnjeaidppaaGreatDoor
