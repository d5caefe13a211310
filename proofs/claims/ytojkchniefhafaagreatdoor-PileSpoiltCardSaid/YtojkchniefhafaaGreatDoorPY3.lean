/- Whether levels are a book; the text of a book. -/
import Derived.Test.YtojkchniefhafaaGreatDoorPY2
set_option linter.unusedVariables false
set_option linter.unusedSimpArgs false
set_option linter.unusedSectionVars false
set_option maxRecDepth 8000
set_option maxHeartbeats 2000000
namespace Go.Tk
open Go Go.Av
theorem any_not {α : Type} (l : List α) (p : α → Prop) [DecidablePred p] [Decidable (∀ x ∈ l, p x)] : (l.any fun x => !decide (p x)) = !decide (∀ x ∈ l, p x) := by
  rw [Bool.eq_iff_iff]
  simp only [List.any_eq_true, Bool.not_eq_true', decide_eq_false_iff_not, Classical.not_forall, not_imp, exists_prop]
theorem all_getD {α : Type} [Inhabited α] {l : List α} {p : α → Prop} : (∀ x ∈ l, p x) ↔ ∀ i, i < l.length → p (l.getD i default) := by
  constructor
  · intro h i hi
    rw [getD_lt hi]; exact h _ (List.getElem_mem _)
  · intro h x hx
    obtain ⟨i, hi, rfl⟩ := List.getElem_of_mem hx
    have := h i hi
    rwa [getD_lt hi] at this
theorem cHead : (⟨#[108, 101, 118, 101, 108, 115]⟩ : ByteArray) = strB headW := rfl
theorem cYear : (⟨#[121, 101, 97, 114]⟩ : ByteArray) = strB yearW := rfl
theorem range_all (n : Nat) : ((List.range n).all fun _ => true) = true := by simp
theorem sl_rangeI (s : List Int) : (List.range s.length).map (fun i => [AV.int .i64 (s.getD i default)]) = rowL intCs s := by
  rw [rowL_F]; rfl
theorem join_flat {c : UInt8} : ∀ {ws : List Bts}, ws ≠ [] → joinL c ws ++ [c] = ws.flatMap (· ++ [c])
  | [], h => absurd rfl h
  | [w], _ => by simp [joinL]
  | w :: v :: r, _ => by
    rw [join_cons (by simp), List.append_assoc, List.cons_append, join_flat (ws := v :: r) (by simp)]
    simp
theorem end_len {s : Nat} (h : s < 997) : (endV s).length ≤ 100 := by
  have l1 := itoa_len (n := ((s / 100 : Nat) : Int)) (by omega) (by omega)
  have l2 := itoa_len (n := ((s / 10 % 10 : Nat) : Int)) (by omega) (by omega)
  have l3 := itoa_len (n := ((s % 10 : Nat) : Int)) (by omega) (by omega)
  unfold endV
  simp only [List.length_append, List.length_cons, List.length_nil, endW]
  omega
/-- The text of the first years. -/
def bookP (l : List (List Int)) (p : Nat) (y : Nat) : Bts := (wordsL headW [(l.length : Int), (p : Int)] ++ [10]) ++ (List.range y).flatMap fun y => yearV l y ++ [10]
theorem bookP_succ (l : List (List Int)) (p y : Nat) : bookP l p (y + 1) = bookP l p y ++ (yearV l y ++ [10]) := by
  unfold bookP
  rw [List.range_succ, List.flatMap_append]
  simp
theorem bookP_end (l : List (List Int)) (p : Nat) : bookB l p = bookP l p l.length ++ (endV (sumB l) ++ [10]) := by
  unfold bookB
  rw [join_flat (by simp [linesL])]
  unfold linesL bookP
  rw [List.flatMap_cons, List.flatMap_append, List.flatMap_map]
  simp
def levOk (n : Int) : Prop := -100000 ≤ n ∧ n ≤ 100000
instance (n : Int) : Decidable (levOk n) := inferInstanceAs (Decidable (_ ∧ _))
def rowOk (m : Nat) (row : List Int) : Prop := row.length = m ∧ ∀ n ∈ row, levOk n
noncomputable instance (m row) : Decidable (rowOk m row) := Classical.propDecidable _
/-- Levels that are a level book. -/
def bookOk (l : List (List Int)) : Prop := (1 ≤ l.length ∧ l.length ≤ 10) ∧ (1 ≤ (l.getD 0 default).length ∧ (l.getD 0 default).length ≤ 6) ∧ ∀ row ∈ l, rowOk (l.getD 0 default).length row
noncomputable instance (l) : Decidable (bookOk l) := Classical.propDecidable _
end Go.Tk
namespace Go.Proofs.YtojkchniefhafaaGreatDoor
open Go Go.Av Go.Tk
attribute [local irreducible] Holds sem semL ACalls FnIs strB
variable {G : World → Prop} (hG : ∀ w w', G w → RowKit.Below w.heap.size w w' → G w')
include hG
theorem pile_booked_1_1 (n : Int) : Holds Tryz.prog G F.pile_booked_1_1 [I n] (B (!decide (levOk n))) := by
  (refine holds_of_sem hG fn_pile_booked_1_1 (by simp) fun w0 S0 hG0 D0 => ?_; unfold c_pile_booked_1_1 cval enterEnv; simp only [List.zipIdx_cons, List.zipIdx_nil, List.map_cons, List.map_nil, Nat.zero_add, Nat.reduceAdd])
  repeat' (first | ((first | refine o1 rfl ?_ | refine o0 rfl ?_); intro k hk; simp (disch := omega) only [ev0, sl_cells, simprocAttr]; refine hk _ _ ?_; clear hk k) | refine ono rfl ?_ | (apply ocall; (case he => (simp only [ev0, sl_cells, simprocAttr] <;> rfl)); (case hc => first | exact pile_in hG _ _ _); (case ht => rfl); (case hg => rfl)) | ((first | refine osplitG rfl (fun h => ?_) (fun h => ?_) | refine osplitB rfl (fun h => ?_) (fun h => ?_)) <;> (fail_if_success (simp only [eq_self, reduceCtorEq] at h))) | refine onx ?_ | refine onb ?_ | refine sreg ?_ | refine qT rfl ?_ | refine qF rfl ?_ | refine scondT rfl ?_ | refine scondF rfl ?_ | refine ocondP rfl (fun h => ?_) (fun h => ?_) | refine ocondB rfl (fun h => ?_) (fun h => ?_) | refine scondP rfl (fun h => ?_) (fun h => ?_) | refine scond rfl (fun h => ?_) (fun h => ?_) | refine oskip ?_ | refine oskipb ?_ | refine oret ?_ | refine sem_ret ?_ | refine sem_seq ?_ | refine sreg1 ?_)
  exact ⟨_, rfl, _, rfl, tree_eq rfl rfl⟩
theorem pile_booked_1 (l : List (List Int)) (h0 : 0 < l.length) (row : List Int) (hr : row.length ≤ 100000) (h1 : (l.getD 0 default).length ≤ 100000) : Holds Tryz.prog G F.pile_booked_1 [slOf intCs row, .tptr [slOf intsCs l] 0] (B (!decide (rowOk (l.getD 0 default).length row))) := by
  have hc := containsFunc hG fn_slices_ContainsFunc_int_47 (by decide) fn_slices_IndexFunc_int_71 (by decide) intCs (fun _ => rfl) (fun _ => rfl) (fun _ => rfl) row (by omega) (fi := []) (ca := []) rfl rfl (fun n => !decide (levOk n)) (fun n _ => pile_booked_1_1 hG n)
  rw [any_not] at hc
  generalize hm : l.getD 0 default = r0 at *
  by_cases hl : row.length = r0.length
  · have hl' : ((row.length : Int) = r0.length) = True := eq_true (by omega)
    by_cases ha : ∀ n ∈ row, levOk n
    · rw [decide_eq_true ha] at hc
      rw [decide_eq_true (show rowOk r0.length row from ⟨hl, ha⟩)]
      (refine holds_of_sem hG fn_pile_booked_1 (by simp) fun w0 S0 hG0 D0 => ?_; unfold c_pile_booked_1 cval enterEnv; simp only [List.zipIdx_cons, List.zipIdx_nil, List.map_cons, List.map_nil, Nat.zero_add, Nat.reduceAdd])
      repeat' (first | ((first | refine o1 rfl ?_ | refine o0 rfl ?_); intro k hk; simp (disch := omega) only [ev0, sl_cells, simprocAttr, slOf, intsCs, hm, hl', decide_true]; refine hk _ _ ?_; clear hk k) | refine ono rfl ?_ | (apply ocall; (case he => (simp only [ev0, sl_cells, simprocAttr] <;> rfl)); (case hc => first | exact hc); (case ht => rfl); (case hg => rfl)) | ((first | refine osplitG rfl (fun h => ?_) (fun h => ?_) | refine osplitB rfl (fun h => ?_) (fun h => ?_)) <;> (fail_if_success (simp only [eq_self, reduceCtorEq] at h))) | refine onx ?_ | refine onb ?_ | refine sreg ?_ | refine qT rfl ?_ | refine qF rfl ?_ | refine scondT rfl ?_ | refine scondF rfl ?_ | refine ocondP rfl (fun h => ?_) (fun h => ?_) | refine ocondB rfl (fun h => ?_) (fun h => ?_) | refine scondP rfl (fun h => ?_) (fun h => ?_) | refine scond rfl (fun h => ?_) (fun h => ?_) | refine oskip ?_ | refine oskipb ?_ | refine oret ?_ | refine sem_ret ?_ | refine sem_seq ?_ | refine sreg1 ?_)
      exact ⟨_, rfl, _, rfl, tree_eq rfl rfl⟩
    · rw [decide_eq_false ha] at hc
      rw [decide_eq_false (show ¬ rowOk r0.length row from fun q => ha q.2)]
      (refine holds_of_sem hG fn_pile_booked_1 (by simp) fun w0 S0 hG0 D0 => ?_; unfold c_pile_booked_1 cval enterEnv; simp only [List.zipIdx_cons, List.zipIdx_nil, List.map_cons, List.map_nil, Nat.zero_add, Nat.reduceAdd])
      repeat' (first | ((first | refine o1 rfl ?_ | refine o0 rfl ?_); intro k hk; simp (disch := omega) only [ev0, sl_cells, simprocAttr, slOf, intsCs, hm, hl', decide_true]; refine hk _ _ ?_; clear hk k) | refine ono rfl ?_ | (apply ocall; (case he => (simp only [ev0, sl_cells, simprocAttr] <;> rfl)); (case hc => first | exact hc); (case ht => rfl); (case hg => rfl)) | ((first | refine osplitG rfl (fun h => ?_) (fun h => ?_) | refine osplitB rfl (fun h => ?_) (fun h => ?_)) <;> (fail_if_success (simp only [eq_self, reduceCtorEq] at h))) | refine onx ?_ | refine onb ?_ | refine sreg ?_ | refine qT rfl ?_ | refine qF rfl ?_ | refine scondT rfl ?_ | refine scondF rfl ?_ | refine ocondP rfl (fun h => ?_) (fun h => ?_) | refine ocondB rfl (fun h => ?_) (fun h => ?_) | refine scondP rfl (fun h => ?_) (fun h => ?_) | refine scond rfl (fun h => ?_) (fun h => ?_) | refine oskip ?_ | refine oskipb ?_ | refine oret ?_ | refine sem_ret ?_ | refine sem_seq ?_ | refine sreg1 ?_)
      exact ⟨_, rfl, _, rfl, tree_eq rfl rfl⟩
  · have hl' : ((row.length : Int) = r0.length) = False := eq_false (by omega)
    rw [decide_eq_false (show ¬ rowOk r0.length row from fun q => hl q.1)]
    (refine holds_of_sem hG fn_pile_booked_1 (by simp) fun w0 S0 hG0 D0 => ?_; unfold c_pile_booked_1 cval enterEnv; simp only [List.zipIdx_cons, List.zipIdx_nil, List.map_cons, List.map_nil, Nat.zero_add, Nat.reduceAdd])
    repeat' (first | ((first | refine o1 rfl ?_ | refine o0 rfl ?_); intro k hk; simp (disch := omega) only [ev0, sl_cells, simprocAttr, slOf, intsCs, hm, hl', decide_false]; refine hk _ _ ?_; clear hk k) | refine ono rfl ?_ | (apply ocall; (case he => (simp only [ev0, sl_cells, simprocAttr] <;> rfl)); (case hc => first | exact hc); (case ht => rfl); (case hg => rfl)) | ((first | refine osplitG rfl (fun h => ?_) (fun h => ?_) | refine osplitB rfl (fun h => ?_) (fun h => ?_)) <;> (fail_if_success (simp only [eq_self, reduceCtorEq] at h))) | refine onx ?_ | refine onb ?_ | refine sreg ?_ | refine qT rfl ?_ | refine qF rfl ?_ | refine scondT rfl ?_ | refine scondF rfl ?_ | refine ocondP rfl (fun h => ?_) (fun h => ?_) | refine ocondB rfl (fun h => ?_) (fun h => ?_) | refine scondP rfl (fun h => ?_) (fun h => ?_) | refine scond rfl (fun h => ?_) (fun h => ?_) | refine oskip ?_ | refine oskipb ?_ | refine oret ?_ | refine sem_ret ?_ | refine sem_seq ?_ | refine sreg1 ?_)
    exact ⟨_, rfl, _, rfl, tree_eq rfl rfl⟩
theorem pile_booked (l : List (List Int)) (hl : l.length ≤ 100000) (hr : ∀ row ∈ l, row.length ≤ 100000) : Holds Tryz.prog G F.pile_booked [slOf intsCs l] (B (decide (bookOk l))) := by
  by_cases hn : 1 ≤ l.length ∧ l.length ≤ 10
  · have h0 : 0 < l.length := by omega
    have hr0 : (l.getD 0 default).length ≤ 100000 := hr _ (by rw [getD_lt h0]; exact List.getElem_mem _)
    have hc := containsFunc hG fn_slices_ContainsFunc_int (by decide) fn_slices_IndexFunc_int (by decide) intsCs (fun _ => rfl) (fun _ => rfl) (fun _ => rfl) l (by omega) (fi := []) (ca := [.tptr [slOf intsCs l] 0]) rfl rfl (fun row => !decide (rowOk (l.getD 0 default).length row)) (fun row hrow => pile_booked_1 hG l h0 row (hr _ hrow) hr0)
    rw [any_not] at hc
    have i1 := pile_in hG (l.length : Int) 1 10
    rw [decide_eq_true (show 1 ≤ (l.length : Int) ∧ (l.length : Int) ≤ 10 by omega)] at i1
    have i2 := pile_in hG ((l.getD 0 default).length : Int) 1 6
    have hbk : bookOk l ↔ (1 ≤ (l.getD 0 default).length ∧ (l.getD 0 default).length ≤ 6) ∧ ∀ row ∈ l, rowOk (l.getD 0 default).length row := ⟨fun q => q.2, fun q => ⟨hn, q⟩⟩
    generalize hm : l.getD 0 default = r0 at *
    by_cases h2 : 1 ≤ r0.length ∧ r0.length ≤ 6
    · rw [decide_eq_true (show 1 ≤ (r0.length : Int) ∧ (r0.length : Int) ≤ 6 by omega)] at i2
      by_cases h3 : ∀ row ∈ l, rowOk r0.length row
      · rw [decide_eq_true h3] at hc
        rw [decide_eq_true (hbk.2 ⟨h2, h3⟩)]
        (refine holds_of_sem hG fn_pile_booked (by simp) fun w0 S0 hG0 D0 => ?_; unfold c_pile_booked cval enterEnv; simp only [List.zipIdx_cons, List.zipIdx_nil, List.map_cons, List.map_nil, Nat.zero_add, Nat.reduceAdd])
        refine sreg ?_
        repeat (first | ((first | refine o1 rfl ?_ | refine o0 rfl ?_); intro k hk; simp (disch := omega) only [ev0, sl_cells, simprocAttr]; refine hk _ _ ?_; clear hk k) | refine ono rfl ?_)
        refine onx ?_
        (refine sem_frzbox 0 rfl rfl ?_; simp only [frzE, frzM, frzA, frzL, frzO, frz_sl, List.map_cons, List.map_nil, List.set_cons_zero, List.set_cons_succ, Nat.reduceEqDiff, if_true, if_false, and_self, Nat.reduceLT, Nat.reduceLeDiff, reduceIte, Nat.le_refl])
        repeat' (first | ((first | refine o1 rfl ?_ | refine o0 rfl ?_); intro k hk; simp (disch := omega) only [ev0, sl_cells, simprocAttr, slOf, intsCs, hm]; refine hk _ _ ?_; clear hk k) | refine ono rfl ?_ | (apply ocall; (case he => (simp only [ev0, sl_cells, simprocAttr] <;> rfl)); (case hc => first | exact hc | exact i1 | exact i2); (case ht => rfl); (case hg => rfl)) | ((first | refine osplitG rfl (fun h => ?_) (fun h => ?_) | refine osplitB rfl (fun h => ?_) (fun h => ?_)) <;> (fail_if_success (simp only [eq_self, reduceCtorEq] at h))) | refine onx ?_ | refine onb ?_ | refine sreg ?_ | refine qT rfl ?_ | refine qF rfl ?_ | refine scondT rfl ?_ | refine scondF rfl ?_ | refine ocondP rfl (fun h => ?_) (fun h => ?_) | refine ocondB rfl (fun h => ?_) (fun h => ?_) | refine scondP rfl (fun h => ?_) (fun h => ?_) | refine scond rfl (fun h => ?_) (fun h => ?_) | refine oskip ?_ | refine oskipb ?_ | refine oret ?_ | refine sem_ret ?_ | refine sem_seq ?_ | refine sreg1 ?_)
        exact ⟨_, rfl, _, rfl, tree_eq rfl rfl⟩
      · rw [decide_eq_false h3] at hc
        rw [decide_eq_false (fun q => h3 (hbk.1 q).2)]
        (refine holds_of_sem hG fn_pile_booked (by simp) fun w0 S0 hG0 D0 => ?_; unfold c_pile_booked cval enterEnv; simp only [List.zipIdx_cons, List.zipIdx_nil, List.map_cons, List.map_nil, Nat.zero_add, Nat.reduceAdd])
        refine sreg ?_
        repeat (first | ((first | refine o1 rfl ?_ | refine o0 rfl ?_); intro k hk; simp (disch := omega) only [ev0, sl_cells, simprocAttr]; refine hk _ _ ?_; clear hk k) | refine ono rfl ?_)
        refine onx ?_
        (refine sem_frzbox 0 rfl rfl ?_; simp only [frzE, frzM, frzA, frzL, frzO, frz_sl, List.map_cons, List.map_nil, List.set_cons_zero, List.set_cons_succ, Nat.reduceEqDiff, if_true, if_false, and_self, Nat.reduceLT, Nat.reduceLeDiff, reduceIte, Nat.le_refl])
        repeat' (first | ((first | refine o1 rfl ?_ | refine o0 rfl ?_); intro k hk; simp (disch := omega) only [ev0, sl_cells, simprocAttr, slOf, intsCs, hm]; refine hk _ _ ?_; clear hk k) | refine ono rfl ?_ | (apply ocall; (case he => (simp only [ev0, sl_cells, simprocAttr] <;> rfl)); (case hc => first | exact hc | exact i1 | exact i2); (case ht => rfl); (case hg => rfl)) | ((first | refine osplitG rfl (fun h => ?_) (fun h => ?_) | refine osplitB rfl (fun h => ?_) (fun h => ?_)) <;> (fail_if_success (simp only [eq_self, reduceCtorEq] at h))) | refine onx ?_ | refine onb ?_ | refine sreg ?_ | refine qT rfl ?_ | refine qF rfl ?_ | refine scondT rfl ?_ | refine scondF rfl ?_ | refine ocondP rfl (fun h => ?_) (fun h => ?_) | refine ocondB rfl (fun h => ?_) (fun h => ?_) | refine scondP rfl (fun h => ?_) (fun h => ?_) | refine scond rfl (fun h => ?_) (fun h => ?_) | refine oskip ?_ | refine oskipb ?_ | refine oret ?_ | refine sem_ret ?_ | refine sem_seq ?_ | refine sreg1 ?_)
        exact ⟨_, rfl, _, rfl, tree_eq rfl rfl⟩
    · rw [decide_eq_false (show ¬ (1 ≤ (r0.length : Int) ∧ (r0.length : Int) ≤ 6) by omega)] at i2
      rw [decide_eq_false (fun q => h2 (hbk.1 q).1)]
      (refine holds_of_sem hG fn_pile_booked (by simp) fun w0 S0 hG0 D0 => ?_; unfold c_pile_booked cval enterEnv; simp only [List.zipIdx_cons, List.zipIdx_nil, List.map_cons, List.map_nil, Nat.zero_add, Nat.reduceAdd])
      refine sreg ?_
      repeat (first | ((first | refine o1 rfl ?_ | refine o0 rfl ?_); intro k hk; simp (disch := omega) only [ev0, sl_cells, simprocAttr]; refine hk _ _ ?_; clear hk k) | refine ono rfl ?_)
      refine onx ?_
      (refine sem_frzbox 0 rfl rfl ?_; simp only [frzE, frzM, frzA, frzL, frzO, frz_sl, List.map_cons, List.map_nil, List.set_cons_zero, List.set_cons_succ, Nat.reduceEqDiff, if_true, if_false, and_self, Nat.reduceLT, Nat.reduceLeDiff, reduceIte, Nat.le_refl])
      repeat' (first | ((first | refine o1 rfl ?_ | refine o0 rfl ?_); intro k hk; simp (disch := omega) only [ev0, sl_cells, simprocAttr, slOf, intsCs, hm]; refine hk _ _ ?_; clear hk k) | refine ono rfl ?_ | (apply ocall; (case he => (simp only [ev0, sl_cells, simprocAttr] <;> rfl)); (case hc => first | exact i1 | exact i2); (case ht => rfl); (case hg => rfl)) | ((first | refine osplitG rfl (fun h => ?_) (fun h => ?_) | refine osplitB rfl (fun h => ?_) (fun h => ?_)) <;> (fail_if_success (simp only [eq_self, reduceCtorEq] at h))) | refine onx ?_ | refine onb ?_ | refine sreg ?_ | refine qT rfl ?_ | refine qF rfl ?_ | refine scondT rfl ?_ | refine scondF rfl ?_ | refine ocondP rfl (fun h => ?_) (fun h => ?_) | refine ocondB rfl (fun h => ?_) (fun h => ?_) | refine scondP rfl (fun h => ?_) (fun h => ?_) | refine scond rfl (fun h => ?_) (fun h => ?_) | refine oskip ?_ | refine oskipb ?_ | refine oret ?_ | refine sem_ret ?_ | refine sem_seq ?_ | refine sreg1 ?_)
      exact ⟨_, rfl, _, rfl, tree_eq rfl rfl⟩
  · have i1 := pile_in hG (l.length : Int) 1 10
    rw [decide_eq_false (show ¬ (1 ≤ (l.length : Int) ∧ (l.length : Int) ≤ 10) by omega)] at i1
    rw [decide_eq_false (fun q => hn q.1)]
    (refine holds_of_sem hG fn_pile_booked (by simp) fun w0 S0 hG0 D0 => ?_; unfold c_pile_booked cval enterEnv; simp only [List.zipIdx_cons, List.zipIdx_nil, List.map_cons, List.map_nil, Nat.zero_add, Nat.reduceAdd])
    refine sreg ?_
    repeat (first | ((first | refine o1 rfl ?_ | refine o0 rfl ?_); intro k hk; simp (disch := omega) only [ev0, sl_cells, simprocAttr]; refine hk _ _ ?_; clear hk k) | refine ono rfl ?_)
    refine onx ?_
    (refine sem_frzbox 0 rfl rfl ?_; simp only [frzE, frzM, frzA, frzL, frzO, frz_sl, List.map_cons, List.map_nil, List.set_cons_zero, List.set_cons_succ, Nat.reduceEqDiff, if_true, if_false, and_self, Nat.reduceLT, Nat.reduceLeDiff, reduceIte, Nat.le_refl])
    repeat' (first | ((first | refine o1 rfl ?_ | refine o0 rfl ?_); intro k hk; simp (disch := omega) only [ev0, sl_cells, simprocAttr, slOf, intsCs]; refine hk _ _ ?_; clear hk k) | refine ono rfl ?_ | (apply ocall; (case he => (simp only [ev0, sl_cells, simprocAttr] <;> rfl)); (case hc => first | exact i1); (case ht => rfl); (case hg => rfl)) | ((first | refine osplitG rfl (fun h => ?_) (fun h => ?_) | refine osplitB rfl (fun h => ?_) (fun h => ?_)) <;> (fail_if_success (simp only [eq_self, reduceCtorEq] at h))) | refine onx ?_ | refine onb ?_ | refine sreg ?_ | refine qT rfl ?_ | refine qF rfl ?_ | refine scondT rfl ?_ | refine scondF rfl ?_ | refine ocondP rfl (fun h => ?_) (fun h => ?_) | refine ocondB rfl (fun h => ?_) (fun h => ?_) | refine scondP rfl (fun h => ?_) (fun h => ?_) | refine scond rfl (fun h => ?_) (fun h => ?_) | refine oskip ?_ | refine oskipb ?_ | refine oret ?_ | refine sem_ret ?_ | refine sem_seq ?_ | refine sreg1 ?_)
    exact ⟨_, rfl, _, rfl, tree_eq rfl rfl⟩
variable (hT : ∀ w, G w → GB w)
include hT
theorem pile_Print_ok (l : List (List Int)) (hk : bookOk l) : Holds Tryz.prog G F.pile_Print [slOf intsCs l] (.tup [.str (strB (bookB l (l.getD 0 default).length)), I 0]) := by
  obtain ⟨h1, h2, h3⟩ := hk
  have h0 : 0 < l.length := by omega
  have hrl : ∀ row ∈ l, row.length ≤ 100000 := fun row hrow => by have := (h3 row hrow).1; omega
  have hb := pile_booked hG l (by omega) hrl
  rw [decide_eq_true (show bookOk l from ⟨h1, h2, h3⟩)] at hb
  have hrow : ∀ y, y < l.length → (l.getD y default).length = (l.getD 0 default).length ∧ ∀ n ∈ l.getD y default, levOk n := fun y hy => h3 _ (by rw [getD_lt hy]; exact List.getElem_mem _)
  have hend := pile_end hG hT l (by omega) (fun y hy => ⟨by have := (hrow y hy).1; omega, fun n hn => by have := (hrow y hy).2 n hn; unfold levOk at this; omega⟩)
  have hhead := pile_line hG hT headW [(l.length : Int), ((l.getD 0 default).length : Int)] (fun n hn => by
    rcases List.mem_cons.1 hn with rfl | hn
    · omega
    · have : n = ((l.getD 0 default).length : Int) := by simpa using hn
      omega) (by simp) (by decide)
  have hyear := fun y (hy : y < l.length) => pile_line hG hT yearW ((y : Int) :: l.getD y default) (fun n hn => by
    rcases List.mem_cons.1 hn with rfl | hn
    · omega
    · have := (hrow y hy).2 n hn
      unfold levOk at this
      omega) (by have := (hrow y hy).1; rw [List.length_cons]; omega) (by decide)
  generalize hm : l.getD 0 default = r0 at *
  (refine holds_of_sem hG fn_pile_Print (by simp) fun w0 S0 hG0 D0 => ?_; unfold c_pile_Print cval enterEnv; simp only [List.zipIdx_cons, List.zipIdx_nil, List.map_cons, List.map_nil, Nat.zero_add, Nat.reduceAdd])
  repeat' (first | ((first | refine o1 rfl ?_ | refine o0 rfl ?_); intro k hk; simp (disch := omega) only [ev0, sl_cells, simprocAttr, slOf, intsCs, hm]; refine hk _ _ ?_; clear hk k) | refine ono rfl ?_ | (apply ocall; (case he => (simp only [ev0, sl_cells, simprocAttr] <;> rfl)); (case hc => first | exact hb); (case ht => rfl); (case hg => rfl)) | ((first | refine osplitG rfl (fun h => ?_) (fun h => ?_) | refine osplitB rfl (fun h => ?_) (fun h => ?_)) <;> (fail_if_success (simp only [eq_self, reduceCtorEq] at h))) | refine onx ?_ | refine onb ?_ | refine sreg ?_ | refine qT rfl ?_ | refine qF rfl ?_ | refine scondT rfl ?_ | refine scondF rfl ?_ | refine ocondP rfl (fun h => ?_) (fun h => ?_) | refine ocondB rfl (fun h => ?_) (fun h => ?_) | refine scondP rfl (fun h => ?_) (fun h => ?_) | refine scond rfl (fun h => ?_) (fun h => ?_) | refine oskip ?_ | refine oskipb ?_ | refine oret ?_ | refine sem_ret ?_ | refine sem_seq ?_ | refine sreg1 ?_)
  (refine semL_frzlist (enc := intCs) (l := ([(l.length : Int), (r0.length : Int)] : List Int)) 0 rfl (fun _ => rfl) ?_; simp only [frzE, frzM, frzA, frzL, frzO, frz_sl, List.map_cons, List.map_nil, List.set_cons_zero, List.set_cons_succ, Nat.reduceEqDiff, if_true, if_false, and_self, Nat.reduceLT, Nat.reduceLeDiff, reduceIte, Nat.le_refl, List.length_cons, List.length_nil, Nat.zero_add, Nat.reduceAdd])
  rw [← cHead] at hhead
  repeat' (first | ((first | refine o1 rfl ?_ | refine o0 rfl ?_); intro k hk; simp (disch := omega) only [ev0, sl_cells, simprocAttr]; refine hk _ _ ?_; clear hk k) | refine ono rfl ?_ | (apply ocall; (case he => (simp only [ev0, sl_cells, simprocAttr] <;> rfl)); (case hc => first | exact hhead); (case ht => rfl); (case hg => rfl)) | ((first | refine osplitG rfl (fun h => ?_) (fun h => ?_) | refine osplitB rfl (fun h => ?_) (fun h => ?_)) <;> (fail_if_success (simp only [eq_self, reduceCtorEq] at h))) | refine onx ?_ | refine onb ?_ | refine sreg ?_ | refine qT rfl ?_ | refine qF rfl ?_ | refine scondT rfl ?_ | refine scondF rfl ?_ | refine ocondP rfl (fun h => ?_) (fun h => ?_) | refine ocondB rfl (fun h => ?_) (fun h => ?_) | refine scondP rfl (fun h => ?_) (fun h => ?_) | refine scond rfl (fun h => ?_) (fun h => ?_) | refine oskip ?_ | refine oskipb ?_ | refine oret ?_ | refine sem_ret ?_ | refine sem_seq ?_ | refine sreg1 ?_)
  have hP0 : bookP l r0.length 0 = wordsL headW [(l.length : Int), (r0.length : Int)] ++ [10] := by simp [bookP]
  have hPs := bookP_succ l r0.length
  have hPe := bookP_end l r0.length
  have hPl : ∀ y, y ≤ l.length → (bookP l r0.length y).length ≤ 200 + 200 * y := fun y => by
    induction y with
    | zero =>
      intro _
      rw [hP0]
      have := words_len headW (ns := [(l.length : Int), (r0.length : Int)]) (fun n hn => by
        rcases List.mem_cons.1 hn with rfl | hn
        · omega
        · have : n = (r0.length : Int) := by simpa using hn
          omega)
      simp only [List.length_append, List.length_cons, List.length_nil, headW] at this ⊢
      omega
    | succ y ih =>
      intro hy
      have h1 := ih (by omega)
      have h2 := hrow y (by omega)
      rw [hPs]
      have := words_len yearW (ns := (y : Int) :: l.getD y default) (fun n hn => by
        rcases List.mem_cons.1 hn with rfl | hn
        · omega
        · have := h2.2 n hn
          unfold levOk at this
          omega)
      unfold yearV
      simp only [List.length_append, List.length_cons, List.length_nil, yearW] at this ⊢
      omega
  rw [← hP0]
  generalize hP : bookP l r0.length = P at *
  refine sem_block ?_
  
  refine sem_loop (α := Nat) (fun y => ⟨[(0, slOf intsCs l), (4, .str (strB (P y))), (18, slOf intsCs l), (19, I l.length), (20, I y)], []⟩) (fun y => y ≤ l.length) (fun y => l.length - y) 0 (Nat.zero_le _) ?_ ?_
  · (refine Le.drop ?_ rfl (by simp) rfl (by simp only [refM, refO, List.all_cons, List.all_nil, Bool.and_true, Bool.true_and, slOf, refL, refA]; first | done | rfl) ; simp only [List.forall_mem_cons, List.forall_mem_nil, getE, selE, Nat.reduceBEq, List.not_mem_nil, false_implies, implies_true, and_true, true_and, and_self])
    simp [slOf]
  · intro y hy
    have hPy := hPl y hy
    repeat' (first | ((first | refine o1 rfl ?_ | refine o0 rfl ?_); intro k hk; simp (disch := omega) only [ev0, sl_cells, simprocAttr, slOf]; refine hk _ _ ?_; clear hk k) | refine ono rfl ?_ | ((first | refine osplitG rfl (fun h => ?_) (fun h => ?_) | refine osplitB rfl (fun h => ?_) (fun h => ?_)) <;> (fail_if_success (simp only [eq_self, reduceCtorEq] at h))) | refine onx ?_ | refine onb ?_ | refine sreg ?_ | refine qT rfl ?_ | refine qF rfl ?_ | refine scondT rfl ?_ | refine scondF rfl ?_ | refine ocondP rfl (fun h => ?_) (fun h => ?_) | refine ocondB rfl (fun h => ?_) (fun h => ?_) | refine scondP rfl (fun h => ?_) (fun h => ?_) | refine scond rfl (fun h => ?_) (fun h => ?_) | refine oskip ?_ | refine oskipb ?_ | refine oret ?_ | refine sem_ret ?_ | refine sem_seq ?_ | refine sreg1 ?_)
    · have hy' : y < l.length := by omega
      have hyy := hyear y hy'
      have hry := hrow y hy'
      have hPy1 := hPl (y + 1) (by omega)
      have hPsy := hPs y
      rw [hPsy] at hPy1
      simp only [List.length_append, List.length_cons, List.length_nil] at hPy1
      generalize hrw : l.getD y default = row at *
      have hyv : wordsL yearW ((y : Int) :: row) = yearV l y := by unfold yearV; rw [hrw]
      rw [← cYear, hyv] at hyy
      refine sem_block ?_
      repeat' (first | ((first | refine o1 rfl ?_ | refine o0 rfl ?_); intro k hk; simp (disch := omega) only [ev0, sl_cells, simprocAttr, slOf, intsCs, intCs, hrw, range_all, if_pos, sl_rangeI, rowL_len, eq_self]; refine hk _ _ ?_; clear hk k) | refine ono rfl ?_ | ((first | refine osplitG rfl (fun h => ?_) (fun h => ?_) | refine osplitB rfl (fun h => ?_) (fun h => ?_)) <;> (fail_if_success (simp only [eq_self, reduceCtorEq] at h))) | refine onx ?_ | refine onb ?_ | refine sreg ?_ | refine qT rfl ?_ | refine qF rfl ?_ | refine scondT rfl ?_ | refine scondF rfl ?_ | refine ocondP rfl (fun h => ?_) (fun h => ?_) | refine ocondB rfl (fun h => ?_) (fun h => ?_) | refine scondP rfl (fun h => ?_) (fun h => ?_) | refine scond rfl (fun h => ?_) (fun h => ?_) | refine oskip ?_ | refine oskipb ?_ | refine oret ?_ | refine sem_ret ?_ | refine sem_seq ?_ | refine sreg1 ?_)
      have hly : ((y : Int) :: row).length = 1 + row.length := by rw [List.length_cons]; omega
      refine semL_frzlist (enc := intCs) (l := (y : Int) :: row) 0 rfl (fun _ => rfl) ?_
      rw [hly]
      simp only [frzE, frzM, frzO, frzA, frzL, List.map_cons, List.map_nil, List.set_cons_zero, List.set_cons_succ, Nat.reduceEqDiff, if_true, if_false, and_self, Nat.le_refl, reduceIte, frz_sl]
      rw [← hly]
      repeat' (first | ((first | refine o1 rfl ?_ | refine o0 rfl ?_); intro k hk; simp (disch := omega) only [ev0, sl_cells, simprocAttr, strB_size, strB_app, if_pos, List.length_append, List.length_cons, List.length_nil]; refine hk _ _ ?_; clear hk k) | refine ono rfl ?_ | (apply ocall; (case he => (simp only [ev0, sl_cells, simprocAttr] <;> rfl)); (case hc => first | exact hyy); (case ht => rfl); (case hg => rfl)) | ((first | refine osplitG rfl (fun h => ?_) (fun h => ?_) | refine osplitB rfl (fun h => ?_) (fun h => ?_)) <;> (fail_if_success (simp only [eq_self, reduceCtorEq] at h))) | refine onx ?_ | refine onb ?_ | refine sreg ?_ | refine qT rfl ?_ | refine qF rfl ?_ | refine scondT rfl ?_ | refine scondF rfl ?_ | refine ocondP rfl (fun h => ?_) (fun h => ?_) | refine ocondB rfl (fun h => ?_) (fun h => ?_) | refine scondP rfl (fun h => ?_) (fun h => ?_) | refine scond rfl (fun h => ?_) (fun h => ?_) | refine oskip ?_ | refine oskipb ?_ | refine oret ?_ | refine sem_ret ?_ | refine sem_seq ?_ | refine sreg1 ?_)
      refine onil (lnext (y + 1) (by omega) (by omega) ?_)
      rw [hPsy]
      (refine Le.drop ?_ rfl (by simp) rfl (by simp only [refM, refO, List.all_cons, List.all_nil, Bool.and_true, Bool.true_and, slOf, refL, refA]; first | done | rfl) ; simp only [List.forall_mem_cons, List.forall_mem_nil, getE, selE, Nat.reduceBEq, List.not_mem_nil, false_implies, implies_true, and_true, true_and, and_self])
      simp [slOf]
    · have hy' : y = l.length := by omega
      subst hy'
      (refine sem_exit ?_; change sem _ _ _ _ _)
      have hel : (endV (sumB l)).length ≤ 100 := end_len (sumAll_lt l l.length)
      rw [hPe]
      repeat' (first | ((first | refine o1 rfl ?_ | refine o0 rfl ?_); intro k hk; simp (disch := omega) only [ev0, sl_cells, simprocAttr, strB_size, strB_app, if_pos, List.length_append, List.length_cons, List.length_nil]; refine hk _ _ ?_; clear hk k) | refine ono rfl ?_ | (apply ocall; (case he => (simp only [ev0, sl_cells, simprocAttr] <;> rfl)); (case hc => first | exact hend); (case ht => rfl); (case hg => rfl)) | ((first | refine osplitG rfl (fun h => ?_) (fun h => ?_) | refine osplitB rfl (fun h => ?_) (fun h => ?_)) <;> (fail_if_success (simp only [eq_self, reduceCtorEq] at h))) | refine onx ?_ | refine onb ?_ | refine sreg ?_ | refine qT rfl ?_ | refine qF rfl ?_ | refine scondT rfl ?_ | refine scondF rfl ?_ | refine ocondP rfl (fun h => ?_) (fun h => ?_) | refine ocondB rfl (fun h => ?_) (fun h => ?_) | refine scondP rfl (fun h => ?_) (fun h => ?_) | refine scond rfl (fun h => ?_) (fun h => ?_) | refine oskip ?_ | refine oskipb ?_ | refine oret ?_ | refine sem_ret ?_ | refine sem_seq ?_ | refine sreg1 ?_)
      exact ⟨_, rfl, _, rfl, tree_eq rfl rfl⟩
end Go.Proofs.YtojkchniefhafaaGreatDoor
