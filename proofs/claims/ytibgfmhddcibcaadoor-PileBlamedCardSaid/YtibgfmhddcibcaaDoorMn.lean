import Derived.Test.YtibgfmhddcibcaaDoorMm
import Derived.Test.YtibgfmhddcibcaaDoorMh
set_option linter.unusedVariables false
set_option linter.unusedSimpArgs false
set_option maxRecDepth 8000
set_option maxHeartbeats 2000000
/- The law PilePlays over trees. -/
namespace Go.Tk
open Go Go.Av
theorem play_0 {s : PileSite} {th : List (List Span)} {plan : List Int} {l : List (List PileTruth)} (h : playE s th plan l = 0) : s.ok ∧ thawsOk s th ∧ planOk s th plan ∧ truthsOk s th l ∧ th.length ≤ 10 ∧ plan.length ≤ 10 ∧ l.length ≤ 10 := by
  unfold playE at h
  split at h
  · cases h
  · split at h
    · rename_i h1 h2; exact ⟨h2.1, h2.2.1, h2.2.2.1, h2.2.2.2, by omega, by omega, by omega⟩
    · cases h
theorem play_is0 {s : PileSite} {th : List (List Span)} {plan : List Int} {l : List (List PileTruth)} (h : plannedE s th plan = 0) (ht : truthsOk s th l) : playE s th plan l = 0 := by
  obtain ⟨a, b, c, d⟩ := planned_0 h
  have := c.1
  have := ht.1
  unfold playE
  rw [if_neg (by omega), if_pos ⟨a, b, c, ht⟩]
theorem play_plan0 {s : PileSite} {th : List (List Span)} {plan : List Int} {l : List (List PileTruth)} (h : playE s th plan l = 0) : plannedE s th plan = 0 := by
  obtain ⟨a, b, c, d, e, f, g⟩ := play_0 h
  unfold plannedE
  rw [if_neg (by omega), if_pos ⟨a, b, c⟩]
theorem play_long {s : PileSite} {th : List (List Span)} {plan : List Int} {l : List (List PileTruth)} (h : 10 < l.length) : playE s th plan l = 3 := if_pos (.inr (.inr h))
theorem play_no {s : PileSite} {th : List (List Span)} {plan : List Int} {l : List (List PileTruth)} (h : ¬ 10 < l.length) (hp : plannedE s th plan ≠ 0) : playE s th plan l = plannedE s th plan := by
  rcases planned_no hp with ⟨a, b⟩ | ⟨a, b, c, d⟩
  · rw [a]; exact if_pos (by omega)
  · rw [a]; unfold playE; rw [if_neg (by omega), if_neg (fun hh => d ⟨hh.1, hh.2.1, hh.2.2.1⟩)]
theorem play_bad {s : PileSite} {th : List (List Span)} {plan : List Int} {l : List (List PileTruth)} (h : ¬ 10 < l.length) (hp : plannedE s th plan = 0) (ht : ¬ truthsOk s th l) : playE s th plan l = 2 := by
  obtain ⟨a, b, c, d⟩ := planned_0 hp
  have := c.1
  unfold playE; rw [if_neg (by omega), if_neg (fun hh => ht hh.2.2.2)]
end Go.Tk
namespace Go.Proofs.YtibgfmhddcibcaaDoor
open Go Go.Av Go.Tk
attribute [local irreducible] Holds sem semL ACalls FnIs
variable {G : World → Prop} (hG : ∀ w w', G w → RowKit.Below w.heap.size w w' → G w')
include hG
theorem ref_play (s : PileSite) (hs : s.ok) (th : List (List Span)) (plan : List Int) (hp : planOk s th plan) (h10 : th.length ≤ 10) (l : List (List PileTruth)) (ht : truthsOk s th l) :
    Holds Tryd.prog G F.ref02_Play [.agg s.cs, slOf intCs plan, slOf truthsCs l] (slOf intsCs (playOf s.piles.length plan l)) := by
  have hn : 1 ≤ s.piles.length ∧ s.piles.length ≤ 6 := hs.2.1
  have hl := ht.1
  have hpl := hp.1
  have pow : ∀ i : Nat, i ≤ 6 → (2 : Int) ^ i ≤ 64 := by decide
  have hpw := pow _ hn.2
  exact ref02_Play hG s hn plan l (by omega) (by omega) (fun y hy => by
    have := hp.2 (plan.getD y default) (by rw [getD_lt hy]; exact List.getElem_mem _)
    omega) (fun y hy => (ht.2 y (by omega)).1) (fun y k hy => truth_st hs (ht.2 y (by omega)) k)

variable (hT : ∀ w, G w → GT w)
include hT
theorem law02_PilePlays (s : PileSite) (th : List (List Span)) (plan : List Int) (l : List (List PileTruth)) : Holds Tryd.prog G F.law02_PilePlays [.agg s.cs, slOf spansCs th, slOf intCs plan, slOf truthsCs l] (B true) := by
  by_cases hs : shortP s th
  · have hsd := decide_eq_true hs
    by_cases hpl : plan.length ≤ 15
    · by_cases hll : l.length ≤ 15
      · have hpl' : ¬ (15 : Int) < plan.length := by omega
        have hll' : ¬ (15 : Int) < l.length := by omega
        obtain ⟨-, a, b, c, d⟩ := id hs
        (refine holds_of_sem hG fn_law02_PilePlays (by simp) fun w0 S0 hG0 D0 => ?_; unfold c_law02_PilePlays cval enterEnv; simp only [List.zipIdx_cons, List.zipIdx_nil, List.map_cons, List.map_nil, Nat.zero_add, Nat.reduceAdd])
        repeat' (first | ((first | refine o1 rfl ?_ | refine o0 rfl ?_); intro k hk; simp (disch := omega) only [ev0, sl_cells, simprocAttr, slOf, hsd, PileSite.cs, hpl', hll']; refine hk _ _ ?_; clear hk k) | refine ono rfl ?_ | (apply ocall; (case he => (simp only [ev0, sl_cells, simprocAttr] <;> rfl)); (case hc => first | exact law02_short hG s th); (case ht => rfl); (case hg => rfl)) | ((first | refine osplitG rfl (fun h => ?_) (fun h => ?_) | refine osplitB rfl (fun h => ?_) (fun h => ?_)) <;> (fail_if_success (simp only [eq_self, reduceCtorEq] at h))) | refine onx ?_ | refine onb ?_ | refine sreg ?_ | refine qT rfl ?_ | refine qF rfl ?_ | refine scondT rfl ?_ | refine scondF rfl ?_ | refine ocondP rfl (fun h => ?_) (fun h => ?_) | refine ocondB rfl (fun h => ?_) (fun h => ?_) | refine scondP rfl (fun h => ?_) (fun h => ?_) | refine scond rfl (fun h => ?_) (fun h => ?_) | refine oskip ?_ | refine oskipb ?_ | refine oret ?_ | refine sem_ret ?_ | refine sem_seq ?_ | refine sreg1 ?_)
        refine sem_block ?_
        
        refine sem_loop (α := Nat) (fun t => ⟨[(1, slOf spansCs th), (2, slOf intCs plan), (3, slOf truthsCs l), (4, .ptr 0 0 6 0 0), (9, I t)], [.row 26 0 6 [s.cs]]⟩) (fun t => t ≤ l.length ∧ ∀ j, j < t → (l.getD j default).length ≤ 10) (fun t => l.length - t) 0 ⟨Nat.zero_le _, fun j hj => absurd hj (Nat.not_lt_zero _)⟩ ?_ ?_
        · (refine Le.same ?_; simp only [List.forall_mem_cons, List.forall_mem_nil, getE, selE, Nat.reduceBEq, List.not_mem_nil, false_implies, implies_true, and_true, true_and, and_self])
          simp [slOf, PileSite.cs]
        · rintro t ⟨ht, hall⟩
          repeat' (first | ((first | refine o1 rfl ?_ | refine o0 rfl ?_); intro k hk; simp (disch := omega) only [ev0, sl_cells, simprocAttr, slOf]; refine hk _ _ ?_; clear hk k) | refine ono rfl ?_ | ((first | refine osplitG rfl (fun h => ?_) (fun h => ?_) | refine osplitB rfl (fun h => ?_) (fun h => ?_)) <;> (fail_if_success (simp only [eq_self, reduceCtorEq] at h))) | refine onx ?_ | refine onb ?_ | refine sreg ?_ | refine qT rfl ?_ | refine qF rfl ?_ | refine scondT rfl ?_ | refine scondF rfl ?_ | refine ocondP rfl (fun h => ?_) (fun h => ?_) | refine ocondB rfl (fun h => ?_) (fun h => ?_) | refine scondP rfl (fun h => ?_) (fun h => ?_) | refine scond rfl (fun h => ?_) (fun h => ?_) | refine oskip ?_ | refine oskipb ?_ | refine oret ?_ | refine sem_ret ?_ | refine sem_seq ?_ | refine sreg1 ?_)
          · refine sem_block ?_
            repeat' (first | ((first | refine o1 rfl ?_ | refine o0 rfl ?_); intro k hk; simp (disch := omega) only [ev0, sl_cells, simprocAttr, slOf, truthsCs]; refine hk _ _ ?_; clear hk k) | refine ono rfl ?_ | (apply ocall; (case he => (simp only [ev0, sl_cells, simprocAttr] <;> rfl)); (case hc => first | exact law02_known hG hT); (case ht => rfl); (case hg => rfl)) | ((first | refine osplitG rfl (fun h => ?_) (fun h => ?_) | refine osplitB rfl (fun h => ?_) (fun h => ?_)) <;> (fail_if_success (simp only [eq_self, reduceCtorEq] at h))) | refine onx ?_ | refine onb ?_ | refine sreg ?_ | refine qT rfl ?_ | refine qF rfl ?_ | refine scondT rfl ?_ | refine scondF rfl ?_ | refine ocondP rfl (fun h => ?_) (fun h => ?_) | refine ocondB rfl (fun h => ?_) (fun h => ?_) | refine scondP rfl (fun h => ?_) (fun h => ?_) | refine scond rfl (fun h => ?_) (fun h => ?_) | refine oskip ?_ | refine oskipb ?_ | refine oret ?_ | refine sem_ret ?_ | refine sem_seq ?_ | refine sreg1 ?_)
            · exact ⟨_, rfl, _, rfl, tree_eq rfl rfl⟩
            · refine onil (lnext (t + 1) ⟨by omega, fun j hj => ?_⟩ (by omega) ?_)
              · by_cases e : j = t
                · subst e; omega
                · exact hall j (by omega)
              · (refine Le.same ?_; simp only [List.forall_mem_cons, List.forall_mem_nil, getE, selE, Nat.reduceBEq, List.not_mem_nil, false_implies, implies_true, and_true, true_and, and_self])
                simp [slOf]
          · have ht' : t = l.length := by omega
            subst ht'
            have hP := pile_Play hG s th plan l hs hpl hll hall
            (refine sem_exit ?_; change sem _ _ _ _ _)
            by_cases he : playE s th plan l = 0
            · obtain ⟨ok, tok, pok, trok, t10, p10, l10⟩ := play_0 he
              have hp0 := play_plan0 he
              have hl10 : ¬ (10 : Int) < l.length := by omega
              have hR := ref_play hG s ok th plan pok t10 l trok
              have hTr := ref02_Truths hG s ok th tok (by omega) l (by omega) (fun y hy => by have := hall y hy; omega)
              rw [decide_eq_true trok] at hTr
              rw [if_pos he, he] at hP
              have hsame := ref02_SameRows hG (playOf s.piles.length plan l) (by rw [play_len]; omega) (fun t h => by rw [play_len] at h; rw [play_row h]; simp [playRow]; have := ok.2.1.2; omega)
              repeat' (first | ((first | refine o1 rfl ?_ | refine o0 rfl ?_); intro k hk; simp (disch := omega) only [ev0, sl_cells, simprocAttr, slOf, PileSite.cs, hp0, hl10, eq_self]; refine hk _ _ ?_; clear hk k) | refine ono rfl ?_ | (apply ocall; (case he => (simp only [ev0, sl_cells, simprocAttr] <;> rfl)); (case hc => first | exact law02_known hG hT | exact hP | exact law02_planned hG s th plan hs hpl | exact hTr | exact hR | exact hsame); (case ht => rfl); (case hg => rfl)) | ((first | refine osplitG rfl (fun h => ?_) (fun h => ?_) | refine osplitB rfl (fun h => ?_) (fun h => ?_)) <;> (fail_if_success (simp only [eq_self, reduceCtorEq] at h))) | refine onx ?_ | refine onb ?_ | refine sreg ?_ | refine qT rfl ?_ | refine qF rfl ?_ | refine scondT rfl ?_ | refine scondF rfl ?_ | refine ocondP rfl (fun h => ?_) (fun h => ?_) | refine ocondB rfl (fun h => ?_) (fun h => ?_) | refine scondP rfl (fun h => ?_) (fun h => ?_) | refine scond rfl (fun h => ?_) (fun h => ?_) | refine oskip ?_ | refine oskipb ?_ | refine oret ?_ | refine sem_ret ?_ | refine sem_seq ?_ | refine sreg1 ?_)
              exact ⟨_, rfl, _, rfl, tree_eq rfl rfl⟩
            · rw [if_neg he] at hP
              by_cases hl10 : 10 < l.length
              · have hl10' : (10 : Int) < l.length := by omega
                rw [play_long hl10] at hP
                repeat' (first | ((first | refine o1 rfl ?_ | refine o0 rfl ?_); intro k hk; simp (disch := omega) only [ev0, sl_cells, simprocAttr, slOf, PileSite.cs, hl10', eq_self]; refine hk _ _ ?_; clear hk k) | refine ono rfl ?_ | (apply ocall; (case he => (simp only [ev0, sl_cells, simprocAttr] <;> rfl)); (case hc => first | exact law02_known hG hT | exact hP | exact law02_planned hG s th plan hs hpl); (case ht => rfl); (case hg => rfl)) | ((first | refine osplitG rfl (fun h => ?_) (fun h => ?_) | refine osplitB rfl (fun h => ?_) (fun h => ?_)) <;> (fail_if_success (simp only [eq_self, reduceCtorEq] at h))) | refine onx ?_ | refine onb ?_ | refine sreg ?_ | refine qT rfl ?_ | refine qF rfl ?_ | refine scondT rfl ?_ | refine scondF rfl ?_ | refine ocondP rfl (fun h => ?_) (fun h => ?_) | refine ocondB rfl (fun h => ?_) (fun h => ?_) | refine scondP rfl (fun h => ?_) (fun h => ?_) | refine scond rfl (fun h => ?_) (fun h => ?_) | refine oskip ?_ | refine oskipb ?_ | refine oret ?_ | refine sem_ret ?_ | refine sem_seq ?_ | refine sreg1 ?_)
                exact ⟨_, rfl, _, rfl, tree_eq rfl rfl⟩
              · have hl10' : ¬ (10 : Int) < l.length := by omega
                by_cases hp0 : plannedE s th plan = 0
                · obtain ⟨ok, tok, pok, t10⟩ := planned_0 hp0
                  have trno : ¬ truthsOk s th l := fun h => he (play_is0 hp0 h)
                  have hTr := ref02_Truths hG s ok th tok (by omega) l (by omega) (fun y hy => by have := hall y hy; omega)
                  rw [decide_eq_false trno] at hTr
                  rw [play_bad hl10 hp0 trno] at hP
                  repeat' (first | ((first | refine o1 rfl ?_ | refine o0 rfl ?_); intro k hk; simp (disch := omega) only [ev0, sl_cells, simprocAttr, slOf, PileSite.cs, hp0, hl10', eq_self]; refine hk _ _ ?_; clear hk k) | refine ono rfl ?_ | (apply ocall; (case he => (simp only [ev0, sl_cells, simprocAttr] <;> rfl)); (case hc => first | exact law02_known hG hT | exact hP | exact law02_planned hG s th plan hs hpl | exact hTr); (case ht => rfl); (case hg => rfl)) | ((first | refine osplitG rfl (fun h => ?_) (fun h => ?_) | refine osplitB rfl (fun h => ?_) (fun h => ?_)) <;> (fail_if_success (simp only [eq_self, reduceCtorEq] at h))) | refine onx ?_ | refine onb ?_ | refine sreg ?_ | refine qT rfl ?_ | refine qF rfl ?_ | refine scondT rfl ?_ | refine scondF rfl ?_ | refine ocondP rfl (fun h => ?_) (fun h => ?_) | refine ocondB rfl (fun h => ?_) (fun h => ?_) | refine scondP rfl (fun h => ?_) (fun h => ?_) | refine scond rfl (fun h => ?_) (fun h => ?_) | refine oskip ?_ | refine oskipb ?_ | refine oret ?_ | refine sem_ret ?_ | refine sem_seq ?_ | refine sreg1 ?_)
                  exact ⟨_, rfl, _, rfl, tree_eq rfl rfl⟩
                · rw [play_no hl10 hp0] at hP
                  repeat' (first | ((first | refine o1 rfl ?_ | refine o0 rfl ?_); intro k hk; simp (disch := omega) only [ev0, sl_cells, simprocAttr, slOf, PileSite.cs, hp0, hl10', eq_self]; refine hk _ _ ?_; clear hk k) | refine ono rfl ?_ | (apply ocall; (case he => (simp only [ev0, sl_cells, simprocAttr] <;> rfl)); (case hc => first | exact law02_known hG hT | exact hP | exact law02_planned hG s th plan hs hpl); (case ht => rfl); (case hg => rfl)) | ((first | refine osplitG rfl (fun h => ?_) (fun h => ?_) | refine osplitB rfl (fun h => ?_) (fun h => ?_)) <;> (fail_if_success (simp only [eq_self, reduceCtorEq] at h))) | refine onx ?_ | refine onb ?_ | refine sreg ?_ | refine qT rfl ?_ | refine qF rfl ?_ | refine scondT rfl ?_ | refine scondF rfl ?_ | refine ocondP rfl (fun h => ?_) (fun h => ?_) | refine ocondB rfl (fun h => ?_) (fun h => ?_) | refine scondP rfl (fun h => ?_) (fun h => ?_) | refine scond rfl (fun h => ?_) (fun h => ?_) | refine oskip ?_ | refine oskipb ?_ | refine oret ?_ | refine sem_ret ?_ | refine sem_seq ?_ | refine sreg1 ?_)
                  exact ⟨_, rfl, _, rfl, tree_eq rfl rfl⟩
      · have hll' : (15 : Int) < l.length := by omega
        (refine holds_of_sem hG fn_law02_PilePlays (by simp) fun w0 S0 hG0 D0 => ?_; unfold c_law02_PilePlays cval enterEnv; simp only [List.zipIdx_cons, List.zipIdx_nil, List.map_cons, List.map_nil, Nat.zero_add, Nat.reduceAdd])
        repeat' (first | ((first | refine o1 rfl ?_ | refine o0 rfl ?_); intro k hk; simp (disch := omega) only [ev0, sl_cells, simprocAttr, slOf, hsd, PileSite.cs, hll']; refine hk _ _ ?_; clear hk k) | refine ono rfl ?_ | (apply ocall; (case he => (simp only [ev0, sl_cells, simprocAttr] <;> rfl)); (case hc => first | exact law02_known hG hT | exact law02_short hG s th); (case ht => rfl); (case hg => rfl)) | ((first | refine osplitG rfl (fun h => ?_) (fun h => ?_) | refine osplitB rfl (fun h => ?_) (fun h => ?_)) <;> (fail_if_success (simp only [eq_self, reduceCtorEq] at h))) | refine onx ?_ | refine onb ?_ | refine sreg ?_ | refine qT rfl ?_ | refine qF rfl ?_ | refine scondT rfl ?_ | refine scondF rfl ?_ | refine ocondP rfl (fun h => ?_) (fun h => ?_) | refine ocondB rfl (fun h => ?_) (fun h => ?_) | refine scondP rfl (fun h => ?_) (fun h => ?_) | refine scond rfl (fun h => ?_) (fun h => ?_) | refine oskip ?_ | refine oskipb ?_ | refine oret ?_ | refine sem_ret ?_ | refine sem_seq ?_ | refine sreg1 ?_)
        all_goals first
          | exact ⟨_, rfl, _, rfl, tree_eq rfl rfl⟩
          | (exfalso; (try simp only [Bool.not_eq_true', Bool.not_eq_false', decide_eq_true_eq, decide_eq_false_iff_not, ne_eq, Decidable.not_not] at *); first | omega | contradiction | (simp only [*, Bool.true_eq_false, Bool.false_eq_true] at *; done))
    · have hpl' : (15 : Int) < plan.length := by omega
      (refine holds_of_sem hG fn_law02_PilePlays (by simp) fun w0 S0 hG0 D0 => ?_; unfold c_law02_PilePlays cval enterEnv; simp only [List.zipIdx_cons, List.zipIdx_nil, List.map_cons, List.map_nil, Nat.zero_add, Nat.reduceAdd])
      repeat' (first | ((first | refine o1 rfl ?_ | refine o0 rfl ?_); intro k hk; simp (disch := omega) only [ev0, sl_cells, simprocAttr, slOf, hsd, PileSite.cs, hpl']; refine hk _ _ ?_; clear hk k) | refine ono rfl ?_ | (apply ocall; (case he => (simp only [ev0, sl_cells, simprocAttr] <;> rfl)); (case hc => first | exact law02_known hG hT | exact law02_short hG s th); (case ht => rfl); (case hg => rfl)) | ((first | refine osplitG rfl (fun h => ?_) (fun h => ?_) | refine osplitB rfl (fun h => ?_) (fun h => ?_)) <;> (fail_if_success (simp only [eq_self, reduceCtorEq] at h))) | refine onx ?_ | refine onb ?_ | refine sreg ?_ | refine qT rfl ?_ | refine qF rfl ?_ | refine scondT rfl ?_ | refine scondF rfl ?_ | refine ocondP rfl (fun h => ?_) (fun h => ?_) | refine ocondB rfl (fun h => ?_) (fun h => ?_) | refine scondP rfl (fun h => ?_) (fun h => ?_) | refine scond rfl (fun h => ?_) (fun h => ?_) | refine oskip ?_ | refine oskipb ?_ | refine oret ?_ | refine sem_ret ?_ | refine sem_seq ?_ | refine sreg1 ?_)
      all_goals first
        | exact ⟨_, rfl, _, rfl, tree_eq rfl rfl⟩
        | (exfalso; (try simp only [Bool.not_eq_true', Bool.not_eq_false', decide_eq_true_eq, decide_eq_false_iff_not, ne_eq, Decidable.not_not] at *); first | omega | contradiction | (simp only [*, Bool.true_eq_false, Bool.false_eq_true] at *; done))
  · have hsd := decide_eq_false hs
    (refine holds_of_sem hG fn_law02_PilePlays (by simp) fun w0 S0 hG0 D0 => ?_; unfold c_law02_PilePlays cval enterEnv; simp only [List.zipIdx_cons, List.zipIdx_nil, List.map_cons, List.map_nil, Nat.zero_add, Nat.reduceAdd])
    repeat' (first | ((first | refine o1 rfl ?_ | refine o0 rfl ?_); intro k hk; simp (disch := omega) only [ev0, sl_cells, simprocAttr, slOf, hsd, PileSite.cs]; refine hk _ _ ?_; clear hk k) | refine ono rfl ?_ | (apply ocall; (case he => (simp only [ev0, sl_cells, simprocAttr] <;> rfl)); (case hc => first | exact law02_known hG hT | exact law02_short hG s th); (case ht => rfl); (case hg => rfl)) | ((first | refine osplitG rfl (fun h => ?_) (fun h => ?_) | refine osplitB rfl (fun h => ?_) (fun h => ?_)) <;> (fail_if_success (simp only [eq_self, reduceCtorEq] at h))) | refine onx ?_ | refine onb ?_ | refine sreg ?_ | refine qT rfl ?_ | refine qF rfl ?_ | refine scondT rfl ?_ | refine scondF rfl ?_ | refine ocondP rfl (fun h => ?_) (fun h => ?_) | refine ocondB rfl (fun h => ?_) (fun h => ?_) | refine scondP rfl (fun h => ?_) (fun h => ?_) | refine scond rfl (fun h => ?_) (fun h => ?_) | refine oskip ?_ | refine oskipb ?_ | refine oret ?_ | refine sem_ret ?_ | refine sem_seq ?_ | refine sreg1 ?_)
    all_goals first
      | exact ⟨_, rfl, _, rfl, tree_eq rfl rfl⟩
      | (exfalso; (try simp only [Bool.not_eq_true', Bool.not_eq_false', decide_eq_true_eq, decide_eq_false_iff_not, ne_eq, Decidable.not_not] at *); first | omega | contradiction | (simp only [*, Bool.true_eq_false, Bool.false_eq_true] at *; done))
end Go.Proofs.YtibgfmhddcibcaaDoor
