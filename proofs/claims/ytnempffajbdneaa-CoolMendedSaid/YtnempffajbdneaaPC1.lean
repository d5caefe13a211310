/- Which towns are as defined: both sides. -/
import Derived.Test.YtnempffajbdneaaPMe
set_option linter.unusedVariables false
set_option linter.unusedSimpArgs false
set_option maxRecDepth 8000
set_option maxHeartbeats 2000000
namespace Go.Tk
open Go Go.Av
abbrev inI (x lo hi : Int) : Prop := lo ≤ x ∧ x ≤ hi
abbrev Span.cold (s : Span) : Prop := 0 ≤ s.low ∧ s.low ≤ s.high ∧ s.high ≤ 1000000
abbrev CoolHouse.ok (h : CoolHouse) : Prop := h.need.cold ∧ inI h.grace 0 100
abbrev CoolSite.ok (n : Nat) (x : CoolSite) : Prop := inI x.cost 0 1000000 ∧ inI x.weeks 1 100 ∧ x.gives.length = n ∧ ∀ g ∈ x.gives, g.cold
def CoolTown.ok (t : CoolTown) : Prop := (1 ≤ t.houses.length ∧ t.houses.length ≤ 6) ∧ (1 ≤ t.sites.length ∧ t.sites.length ≤ 10) ∧ (∀ h ∈ t.houses, h.ok) ∧ ∀ x ∈ t.sites, x.ok t.houses.length
noncomputable instance (t : CoolTown) : Decidable t.ok := Classical.propDecidable _
def CoolTown.short (t : CoolTown) : Prop := t.houses.length ≤ 10 ∧ t.sites.length ≤ 15 ∧ ∀ x ∈ t.sites, x.gives.length ≤ 10
noncomputable instance (t : CoolTown) : Decidable t.short := Classical.propDecidable _
def CoolTruth.short (x : CoolTruth) : Prop := x.needs.length ≤ 10 ∧ x.gives.length ≤ 15 ∧ ∀ l ∈ x.gives, l.length ≤ 10
noncomputable instance (x : CoolTruth) : Decidable x.short := Classical.propDecidable _
theorem any_not {α : Type} (l : List α) (p : α → Prop) [DecidablePred p] [Decidable (∀ x ∈ l, p x)] : (l.any fun x => !decide (p x)) = !decide (∀ x ∈ l, p x) := by
  rw [Bool.eq_iff_iff]
  simp only [List.any_eq_true, Bool.not_eq_true', decide_eq_false_iff_not, Classical.not_forall, not_imp, exists_prop]
theorem all_getD {α : Type} [Inhabited α] {l : List α} {p : α → Prop} : (∀ x ∈ l, p x) ↔ ∀ i, i < l.length → p (l.getD i default) := by
  constructor
  · intro h i hi
    rw [getD_lt hi]; exact h _ (List.getElem_mem _)
  · intro h x hx
    obtain ⟨i, hi⟩ := List.getElem?_of_mem hx
    have hlt := (List.getElem?_eq_some_iff.1 hi).1
    have := h i hlt
    rw [getD_lt hlt, (List.getElem?_eq_some_iff.1 hi).2] at this
    exact this
end Go.Tk
namespace Go.Proofs.Ytnempffajbdneaa
open Go Go.Av Go.Tk
attribute [local irreducible] Holds sem semL ACalls FnIs
variable {G : World → Prop} (hG : ∀ w w', G w → RowKit.Below w.heap.size w w' → G w')
include hG
theorem cool_in (x lo hi : Int) : Holds Try.prog G F.cool_in [I x, I lo, I hi] (B (decide (lo ≤ x ∧ x ≤ hi))) := by
  (refine holds_of_sem hG fn_cool_in (by simp) fun w0 S0 hG0 D0 => ?_; unfold c_cool_in cval enterEnv; simp only [List.zipIdx_cons, List.zipIdx_nil, List.map_cons, List.map_nil, Nat.zero_add, Nat.reduceAdd])
  repeat' (first | ((first | refine o1 rfl ?_ | refine o0 rfl ?_); intro k hk; simp (disch := omega) only [ev0, sl_cells, simprocAttr]; refine hk _ _ ?_; clear hk k) | refine ono rfl ?_ | ((first | refine osplitG rfl (fun h => ?_) (fun h => ?_) | refine osplitB rfl (fun h => ?_) (fun h => ?_)) <;> (fail_if_success (simp only [eq_self, reduceCtorEq] at h))) | refine onx ?_ | refine onb ?_ | refine sreg ?_ | refine qT rfl ?_ | refine qF rfl ?_ | refine scondT rfl ?_ | refine scondF rfl ?_ | refine ocondP rfl (fun h => ?_) (fun h => ?_) | refine ocondB rfl (fun h => ?_) (fun h => ?_) | refine scondP rfl (fun h => ?_) (fun h => ?_) | refine scond rfl (fun h => ?_) (fun h => ?_) | refine oskip ?_ | refine oskipb ?_ | refine oret ?_ | refine sem_ret ?_ | refine sem_seq ?_ | refine sreg1 ?_)
  all_goals exact ⟨_, rfl, _, rfl, tree_eq rfl (by simp [getE, selE, *])⟩

theorem ref03_in (x lo hi : Int) : Holds Try.prog G F.ref03_in [I x, I lo, I hi] (B (decide (lo ≤ x ∧ x ≤ hi))) := by
  (refine holds_of_sem hG fn_ref03_in (by simp) fun w0 S0 hG0 D0 => ?_; unfold c_ref03_in cval enterEnv; simp only [List.zipIdx_cons, List.zipIdx_nil, List.map_cons, List.map_nil, Nat.zero_add, Nat.reduceAdd])
  repeat' (first | ((first | refine o1 rfl ?_ | refine o0 rfl ?_); intro k hk; simp (disch := omega) only [ev0, sl_cells, simprocAttr]; refine hk _ _ ?_; clear hk k) | refine ono rfl ?_ | ((first | refine osplitG rfl (fun h => ?_) (fun h => ?_) | refine osplitB rfl (fun h => ?_) (fun h => ?_)) <;> (fail_if_success (simp only [eq_self, reduceCtorEq] at h))) | refine onx ?_ | refine onb ?_ | refine sreg ?_ | refine qT rfl ?_ | refine qF rfl ?_ | refine scondT rfl ?_ | refine scondF rfl ?_ | refine ocondP rfl (fun h => ?_) (fun h => ?_) | refine ocondB rfl (fun h => ?_) (fun h => ?_) | refine scondP rfl (fun h => ?_) (fun h => ?_) | refine scond rfl (fun h => ?_) (fun h => ?_) | refine oskip ?_ | refine oskipb ?_ | refine oret ?_ | refine sem_ret ?_ | refine sem_seq ?_ | refine sreg1 ?_)
  all_goals exact ⟨_, rfl, _, rfl, tree_eq rfl (by simp [getE, selE, *])⟩

theorem cool_span (s : Span) : Holds Try.prog G F.cool_span [.agg s.cs] (B (decide s.cold)) := by
  (refine holds_of_sem hG fn_cool_span (by simp) fun w0 S0 hG0 D0 => ?_; unfold c_cool_span cval enterEnv; simp only [List.zipIdx_cons, List.zipIdx_nil, List.map_cons, List.map_nil, Nat.zero_add, Nat.reduceAdd])
  repeat' (first | ((first | refine o1 rfl ?_ | refine o0 rfl ?_); intro k hk; simp (disch := omega) only [ev0, sl_cells, simprocAttr, Span.cs]; refine hk _ _ ?_; clear hk k) | refine ono rfl ?_ | ((first | refine osplitG rfl (fun h => ?_) (fun h => ?_) | refine osplitB rfl (fun h => ?_) (fun h => ?_)) <;> (fail_if_success (simp only [eq_self, reduceCtorEq] at h))) | refine onx ?_ | refine onb ?_ | refine sreg ?_ | refine qT rfl ?_ | refine qF rfl ?_ | refine scondT rfl ?_ | refine scondF rfl ?_ | refine ocondP rfl (fun h => ?_) (fun h => ?_) | refine ocondB rfl (fun h => ?_) (fun h => ?_) | refine scondP rfl (fun h => ?_) (fun h => ?_) | refine scond rfl (fun h => ?_) (fun h => ?_) | refine oskip ?_ | refine oskipb ?_ | refine oret ?_ | refine sem_ret ?_ | refine sem_seq ?_ | refine sreg1 ?_)
  all_goals exact ⟨_, rfl, _, rfl, tree_eq rfl (by simp [getE, selE, *])⟩

theorem ref03_Cold (s : Span) : Holds Try.prog G F.ref03_Cold [.agg s.cs] (B (decide s.cold)) := by
  (refine holds_of_sem hG fn_ref03_Cold (by simp) fun w0 S0 hG0 D0 => ?_; unfold c_ref03_Cold cval enterEnv; simp only [List.zipIdx_cons, List.zipIdx_nil, List.map_cons, List.map_nil, Nat.zero_add, Nat.reduceAdd])
  repeat' (first | ((first | refine o1 rfl ?_ | refine o0 rfl ?_); intro k hk; simp (disch := omega) only [ev0, sl_cells, simprocAttr, Span.cs]; refine hk _ _ ?_; clear hk k) | refine ono rfl ?_ | ((first | refine osplitG rfl (fun h => ?_) (fun h => ?_) | refine osplitB rfl (fun h => ?_) (fun h => ?_)) <;> (fail_if_success (simp only [eq_self, reduceCtorEq] at h))) | refine onx ?_ | refine onb ?_ | refine sreg ?_ | refine qT rfl ?_ | refine qF rfl ?_ | refine scondT rfl ?_ | refine scondF rfl ?_ | refine ocondP rfl (fun h => ?_) (fun h => ?_) | refine ocondB rfl (fun h => ?_) (fun h => ?_) | refine scondP rfl (fun h => ?_) (fun h => ?_) | refine scond rfl (fun h => ?_) (fun h => ?_) | refine oskip ?_ | refine oskipb ?_ | refine oret ?_ | refine sem_ret ?_ | refine sem_seq ?_ | refine sreg1 ?_)
  all_goals exact ⟨_, rfl, _, rfl, tree_eq rfl (by simp [getE, selE, *])⟩

theorem cool_valid_1 (h : CoolHouse) : Holds Try.prog G F.cool_valid_1 [.agg h.cs] (B (!decide h.ok)) := by
  (refine holds_of_sem hG fn_cool_valid_1 (by simp) fun w0 S0 hG0 D0 => ?_; unfold c_cool_valid_1 cval enterEnv; simp only [List.zipIdx_cons, List.zipIdx_nil, List.map_cons, List.map_nil, Nat.zero_add, Nat.reduceAdd])
  repeat' (first | ((first | refine o1 rfl ?_ | refine o0 rfl ?_); intro k hk; simp (disch := omega) only [ev0, sl_cells, simprocAttr, CoolHouse.cs]; refine hk _ _ ?_; clear hk k) | refine ono rfl ?_ | (apply ocall; (case he => (simp only [ev0, sl_cells, simprocAttr] <;> rfl)); (case hc => first | exact cool_span hG h.need | exact cool_in hG _ _ _); (case ht => rfl); (case hg => rfl)) | ((first | refine osplitG rfl (fun h => ?_) (fun h => ?_) | refine osplitB rfl (fun h => ?_) (fun h => ?_)) <;> (fail_if_success (simp only [eq_self, reduceCtorEq] at h))) | refine onx ?_ | refine onb ?_ | refine sreg ?_ | refine qT rfl ?_ | refine qF rfl ?_ | refine scondT rfl ?_ | refine scondF rfl ?_ | refine ocondP rfl (fun h => ?_) (fun h => ?_) | refine ocondB rfl (fun h => ?_) (fun h => ?_) | refine scondP rfl (fun h => ?_) (fun h => ?_) | refine scond rfl (fun h => ?_) (fun h => ?_) | refine oskip ?_ | refine oskipb ?_ | refine oret ?_ | refine sem_ret ?_ | refine sem_seq ?_ | refine sreg1 ?_)
  all_goals exact ⟨_, rfl, _, rfl, tree_eq rfl (by (try simp only [Bool.not_eq_true', Bool.not_eq_false', decide_eq_true_eq, decide_eq_false_iff_not] at *); simp only [getE, selE, Nat.reduceBEq]; apply congrArg AV.bool; rw [Bool.eq_iff_iff]; simp only [decide_eq_true_eq, Bool.not_eq_true', decide_eq_false_iff_not, Bool.false_eq_true, true_iff, false_iff, iff_true, iff_false, not_true_eq_false, not_false_eq_true, CoolHouse.ok, inI, Span.cold]; omega)⟩

theorem cool_valid_2_1 (x : Span) : Holds Try.prog G F.cool_valid_2_1 [.agg x.cs] (B (!decide x.cold)) := by
  (refine holds_of_sem hG fn_cool_valid_2_1 (by simp) fun w0 S0 hG0 D0 => ?_; unfold c_cool_valid_2_1 cval enterEnv; simp only [List.zipIdx_cons, List.zipIdx_nil, List.map_cons, List.map_nil, Nat.zero_add, Nat.reduceAdd])
  repeat' (first | ((first | refine o1 rfl ?_ | refine o0 rfl ?_); intro k hk; simp (disch := omega) only [ev0, sl_cells, simprocAttr, Span.cs]; refine hk _ _ ?_; clear hk k) | refine ono rfl ?_ | (apply ocall; (case he => (simp only [ev0, sl_cells, simprocAttr] <;> rfl)); (case hc => first | exact cool_span hG x); (case ht => rfl); (case hg => rfl)) | ((first | refine osplitG rfl (fun h => ?_) (fun h => ?_) | refine osplitB rfl (fun h => ?_) (fun h => ?_)) <;> (fail_if_success (simp only [eq_self, reduceCtorEq] at h))) | refine onx ?_ | refine onb ?_ | refine sreg ?_ | refine qT rfl ?_ | refine qF rfl ?_ | refine scondT rfl ?_ | refine scondF rfl ?_ | refine ocondP rfl (fun h => ?_) (fun h => ?_) | refine ocondB rfl (fun h => ?_) (fun h => ?_) | refine scondP rfl (fun h => ?_) (fun h => ?_) | refine scond rfl (fun h => ?_) (fun h => ?_) | refine oskip ?_ | refine oskipb ?_ | refine oret ?_ | refine sem_ret ?_ | refine sem_seq ?_ | refine sreg1 ?_)
  all_goals exact ⟨_, rfl, _, rfl, tree_eq rfl (by simp [getE, selE, *])⟩

theorem cool_valid_2 (t : CoolTown) (x : CoolSite) (h1 : x.gives.length ≤ 10) : Holds Try.prog G F.cool_valid_2 [.agg x.cs, .tptr t.cs 0] (B (!decide (x.ok t.houses.length))) := by
  have hc := containsFunc hG fn_slices_ContainsFunc_apiSpan (by decide) fn_slices_IndexFunc_apiSpan (by decide) Span.cs (fun _ => rfl) (by simp) (fun _ => rfl) x.gives (by omega) (fi := []) (ca := []) rfl rfl (fun x => !decide x.cold) (fun x _ => cool_valid_2_1 hG x)
  rw [any_not] at hc
  (refine holds_of_sem hG fn_cool_valid_2 (by simp) fun w0 S0 hG0 D0 => ?_; unfold c_cool_valid_2 cval enterEnv; simp only [List.zipIdx_cons, List.zipIdx_nil, List.map_cons, List.map_nil, Nat.zero_add, Nat.reduceAdd])
  repeat' (first | ((first | refine o1 rfl ?_ | refine o0 rfl ?_); intro k hk; simp (disch := omega) only [ev0, sl_cells, simprocAttr, CoolSite.cs, CoolTown.cs, slOf]; refine hk _ _ ?_; clear hk k) | refine ono rfl ?_ | (apply ocall; (case he => (simp only [ev0, sl_cells, simprocAttr] <;> rfl)); (case hc => first | exact cool_in hG _ _ _ | exact hc); (case ht => rfl); (case hg => rfl)) | ((first | refine osplitG rfl (fun h => ?_) (fun h => ?_) | refine osplitB rfl (fun h => ?_) (fun h => ?_)) <;> (fail_if_success (simp only [eq_self, reduceCtorEq] at h))) | refine onx ?_ | refine onb ?_ | refine sreg ?_ | refine qT rfl ?_ | refine qF rfl ?_ | refine scondT rfl ?_ | refine scondF rfl ?_ | refine ocondP rfl (fun h => ?_) (fun h => ?_) | refine ocondB rfl (fun h => ?_) (fun h => ?_) | refine scondP rfl (fun h => ?_) (fun h => ?_) | refine scond rfl (fun h => ?_) (fun h => ?_) | refine oskip ?_ | refine oskipb ?_ | refine oret ?_ | refine sem_ret ?_ | refine sem_seq ?_ | refine sreg1 ?_)
  all_goals exact ⟨_, rfl, _, rfl, tree_eq rfl (by
    simp only [Bool.not_eq_true', Bool.not_eq_false', decide_eq_true_eq, decide_eq_false_iff_not, bne_iff_ne, ne_eq] at *
    simp only [getE, selE, Nat.reduceBEq]
    apply congrArg AV.bool
    rw [Bool.eq_iff_iff]
    simp only [Bool.not_eq_true', decide_eq_true_eq, decide_eq_false_iff_not, true_iff, Bool.true_eq_false]
    grind)⟩

theorem cool_valid (t : CoolTown) (hs : t.short) : Holds Try.prog G F.cool_valid [.agg t.cs] (B (decide t.ok)) := by
  obtain ⟨h1, h2, h3⟩ := hs
  have hc := containsFunc hG fn_slices_ContainsFunc_apiCoolHouse (by decide) fn_slices_IndexFunc_apiCoolHouse (by decide) CoolHouse.cs (fun _ => rfl) (by simp) (fun _ => rfl) t.houses (by omega) (fi := []) (ca := []) rfl rfl (fun x => !decide x.ok) (fun x _ => cool_valid_1 hG x)
  have hd := containsFunc hG fn_slices_ContainsFunc_apiCoolSite (by decide) fn_slices_IndexFunc_apiCoolSite (by decide) CoolSite.cs (fun _ => rfl) (by simp) (fun _ => rfl) t.sites (by omega) (fi := []) (ca := [.tptr t.cs 0]) rfl rfl (fun x => !decide (x.ok t.houses.length)) (fun x hx => cool_valid_2 hG t x (h3 x hx))
  rw [any_not] at hc hd
  (refine holds_of_sem hG fn_cool_valid (by simp) fun w0 S0 hG0 D0 => ?_; unfold c_cool_valid cval enterEnv; simp only [List.zipIdx_cons, List.zipIdx_nil, List.map_cons, List.map_nil, Nat.zero_add, Nat.reduceAdd])
  refine sreg ?_
  repeat (first | ((first | refine o1 rfl ?_ | refine o0 rfl ?_); intro k hk; simp (disch := omega) only [ev0, sl_cells, simprocAttr]; refine hk _ _ ?_; clear hk k) | refine ono rfl ?_)
  refine onx ?_
  (refine sem_frzbox 0 rfl rfl ?_; simp only [frz_span, frz_house, frz_csite, frz_town, frz_truth, frzE, frzM, frzA, frzL, frzO, frz_sl, List.map_cons, List.map_nil, List.set_cons_zero, List.set_cons_succ, Nat.reduceEqDiff, if_true, if_false, and_self, Nat.reduceLT, Nat.reduceLeDiff, reduceIte, Nat.le_refl])
  repeat' (first | ((first | refine o1 rfl ?_ | refine o0 rfl ?_); intro k hk; simp (disch := omega) only [ev0, sl_cells, simprocAttr, CoolTown.cs, slOf]; refine hk _ _ ?_; clear hk k) | refine ono rfl ?_ | (apply ocall; (case he => (simp only [ev0, sl_cells, simprocAttr] <;> rfl)); (case hc => first | exact cool_in hG _ _ _ | exact hc | exact hd); (case ht => rfl); (case hg => rfl)) | ((first | refine osplitG rfl (fun h => ?_) (fun h => ?_) | refine osplitB rfl (fun h => ?_) (fun h => ?_)) <;> (fail_if_success (simp only [eq_self, reduceCtorEq] at h))) | refine onx ?_ | refine onb ?_ | refine sreg ?_ | refine qT rfl ?_ | refine qF rfl ?_ | refine scondT rfl ?_ | refine scondF rfl ?_ | refine ocondP rfl (fun h => ?_) (fun h => ?_) | refine ocondB rfl (fun h => ?_) (fun h => ?_) | refine scondP rfl (fun h => ?_) (fun h => ?_) | refine scond rfl (fun h => ?_) (fun h => ?_) | refine oskip ?_ | refine oskipb ?_ | refine oret ?_ | refine sem_ret ?_ | refine sem_seq ?_ | refine sreg1 ?_)
  all_goals exact ⟨_, rfl, _, rfl, tree_eq rfl (by
    simp only [Bool.not_not, Bool.not_eq_true', Bool.not_eq_false', decide_eq_true_eq, decide_eq_false_iff_not] at *
    simp only [getE, selE, Nat.reduceBEq]
    apply congrArg AV.bool
    rw [Bool.eq_iff_iff]
    simp only [CoolTown.ok, Bool.not_not, Bool.not_eq_true', decide_eq_true_eq, decide_eq_false_iff_not, true_iff, Bool.false_eq_true, false_iff]
    grind)⟩
end Go.Proofs.Ytnempffajbdneaa
