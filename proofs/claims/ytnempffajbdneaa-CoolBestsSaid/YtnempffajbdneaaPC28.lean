/- Coolers compared with others. -/
import Derived.Test.YtnempffajbdneaaPC23
set_option linter.unusedVariables false
set_option linter.unusedSimpArgs false
set_option maxRecDepth 8000
set_option maxHeartbeats 2000000
namespace Go.Tk
open Go Go.Av
def cmpL : List Int → List Int → Int
  | [], [] => 0
  | [], _ :: _ => -1
  | _ :: _, [] => 1
  | a :: l, b :: m => if cmpI a b = 0 then cmpL l m else cmpI a b
theorem cmpI_zero {x y : Int} : cmpI x y = 0 ↔ x = y := by
  unfold cmpI
  split
  · constructor <;> intro h <;> omega
  · split
    · constructor <;> intro h <;> omega
    · constructor
      · intro _; omega
      · intro _; rfl
theorem cmpI_neg {x y : Int} : cmpI x y < 0 ↔ x < y := by
  unfold cmpI
  split
  · constructor <;> intro h <;> omega
  · split <;> (constructor <;> intro h <;> omega)
theorem cmpL_before : ∀ {a b : List Int}, a.length = b.length → before a b = decide (cmpL a b < 0)
  | [], [], _ => rfl
  | [], _ :: _, h => by simp at h
  | _ :: _, [], h => by simp at h
  | x :: a, y :: b, h => by
    have ih := cmpL_before (a := a) (b := b) (by simpa using h)
    simp only [before, cmpL, cmpI_zero]
    by_cases e : x = y
    · rw [if_pos e, if_pos e, ih]
    · rw [if_neg e, if_neg e]
      rw [decide_eq_decide]
      exact cmpI_neg.symm
def beforeC (a b : Int × List Int) : Bool := if a.1 = b.1 then (if a.2.length = b.2.length then before a.2 b.2 else decide (a.2.length < b.2.length)) else decide (a.1 < b.1)
abbrev chCs (a : Int × List Int) : List AV := [I a.1, slOf intCs a.2]
def idx3 : Nat → AV
  | 0 => I 0
  | 1 => I 1
  | 2 => I 2
  | _ => I 3
end Go.Tk
namespace Go.Proofs.Ytnempffajbdneaa
open Go Go.Av Go.Tk
attribute [local irreducible] Holds sem semL ACalls FnIs
variable {G : World → Prop} (hG : ∀ w w', G w → RowKit.Below w.heap.size w w' → G w')
include hG
theorem slices_Compare (l m : List Int) (hl : l.length ≤ 1000) (hm : m.length ≤ 1000) : Holds Try.prog G F.slices_Compare_int [slOf intCs l, slOf intCs m] (I (cmpL l m)) := by
  (refine holds_of_sem hG fn_slices_Compare_int (by simp) fun w0 S0 hG0 D0 => ?_; unfold c_slices_Compare_int cval enterEnv; simp only [List.zipIdx_cons, List.zipIdx_nil, List.map_cons, List.map_nil, Nat.zero_add, Nat.reduceAdd])
  repeat' (first | ((first | refine o1 rfl ?_ | refine o0 rfl ?_); intro k hk; simp (disch := omega) only [ev0, sl_cells, simprocAttr, slOf]; refine hk _ _ ?_; clear hk k) | refine ono rfl ?_ | ((first | refine osplitG rfl (fun h => ?_) (fun h => ?_) | refine osplitB rfl (fun h => ?_) (fun h => ?_)) <;> (fail_if_success (simp only [eq_self, reduceCtorEq] at h))) | refine onx ?_ | refine onb ?_ | refine sreg ?_ | refine qT rfl ?_ | refine qF rfl ?_ | refine scondT rfl ?_ | refine scondF rfl ?_ | refine ocondP rfl (fun h => ?_) (fun h => ?_) | refine ocondB rfl (fun h => ?_) (fun h => ?_) | refine scondP rfl (fun h => ?_) (fun h => ?_) | refine scond rfl (fun h => ?_) (fun h => ?_) | refine oskip ?_ | refine oskipb ?_ | refine oret ?_ | refine sem_ret ?_ | refine sem_seq ?_ | refine sreg1 ?_)
  refine sem_block ?_
  
  refine sem_loop (α := Nat) (fun i => ⟨[(0, slOf intCs l), (1, slOf intCs m), (9, slOf intCs l), (10, I l.length), (11, I i)], []⟩) (fun i => i ≤ l.length ∧ i ≤ m.length ∧ cmpL l m = cmpL (l.drop i) (m.drop i)) (fun i => l.length - i) 0 ⟨Nat.zero_le _, Nat.zero_le _, rfl⟩ ?_ ?_
  · (refine Le.same ?_; simp only [List.forall_mem_cons, List.forall_mem_nil, getE, selE, Nat.reduceBEq, List.not_mem_nil, false_implies, implies_true, and_true, true_and, and_self])
    simp [slOf]
  · rintro i ⟨h1, h2, h3⟩
    repeat' (first | ((first | refine o1 rfl ?_ | refine o0 rfl ?_); intro k hk; simp (disch := omega) only [ev0, sl_cells, simprocAttr, slOf]; refine hk _ _ ?_; clear hk k) | refine ono rfl ?_ | ((first | refine osplitG rfl (fun h => ?_) (fun h => ?_) | refine osplitB rfl (fun h => ?_) (fun h => ?_)) <;> (fail_if_success (simp only [eq_self, reduceCtorEq] at h))) | refine onx ?_ | refine onb ?_ | refine sreg ?_ | refine qT rfl ?_ | refine qF rfl ?_ | refine scondT rfl ?_ | refine scondF rfl ?_ | refine ocondP rfl (fun h => ?_) (fun h => ?_) | refine ocondB rfl (fun h => ?_) (fun h => ?_) | refine scondP rfl (fun h => ?_) (fun h => ?_) | refine scond rfl (fun h => ?_) (fun h => ?_) | refine oskip ?_ | refine oskipb ?_ | refine oret ?_ | refine sem_ret ?_ | refine sem_seq ?_ | refine sreg1 ?_)
    · have hi : i < l.length := by omega
      have hd1 := drop_cons' hi
      refine sem_block ?_
      by_cases hi2 : i < m.length
      · have hd2 := drop_cons' hi2
        have q : ¬ (m.length : Int) ≤ i := by omega
        rw [hd1, hd2] at h3
        have hc := cmp_Compare hG (l.getD i default) (m.getD i default)
        by_cases e : cmpI (l.getD i default) (m.getD i default) = 0
        · simp only [cmpL, if_pos e] at h3
          repeat' (first | ((first | refine o1 rfl ?_ | refine o0 rfl ?_); intro k hk; simp (disch := omega) only [ev0, sl_cells, simprocAttr, slOf, intCs, q, e, eq_self]; refine hk _ _ ?_; clear hk k) | refine ono rfl ?_ | (apply ocall; (case he => (simp only [ev0, sl_cells, simprocAttr] <;> rfl)); (case hc => first | exact hc); (case ht => rfl); (case hg => rfl)) | ((first | refine osplitG rfl (fun h => ?_) (fun h => ?_) | refine osplitB rfl (fun h => ?_) (fun h => ?_)) <;> (fail_if_success (simp only [eq_self, reduceCtorEq] at h))) | refine onx ?_ | refine onb ?_ | refine sreg ?_ | refine qT rfl ?_ | refine qF rfl ?_ | refine scondT rfl ?_ | refine scondF rfl ?_ | refine ocondP rfl (fun h => ?_) (fun h => ?_) | refine ocondB rfl (fun h => ?_) (fun h => ?_) | refine scondP rfl (fun h => ?_) (fun h => ?_) | refine scond rfl (fun h => ?_) (fun h => ?_) | refine oskip ?_ | refine oskipb ?_ | refine oret ?_ | refine sem_ret ?_ | refine sem_seq ?_ | refine sreg1 ?_)
          refine onil (lnext (i + 1) ⟨by omega, by omega, h3⟩ (by omega) ?_)
          (refine Le.same ?_; simp only [List.forall_mem_cons, List.forall_mem_nil, getE, selE, Nat.reduceBEq, List.not_mem_nil, false_implies, implies_true, and_true, true_and, and_self])
          simp [slOf]
        · simp only [cmpL, if_neg e] at h3
          rw [h3]
          repeat' (first | ((first | refine o1 rfl ?_ | refine o0 rfl ?_); intro k hk; simp (disch := omega) only [ev0, sl_cells, simprocAttr, slOf, intCs, q, e]; refine hk _ _ ?_; clear hk k) | refine ono rfl ?_ | (apply ocall; (case he => (simp only [ev0, sl_cells, simprocAttr] <;> rfl)); (case hc => first | exact hc); (case ht => rfl); (case hg => rfl)) | ((first | refine osplitG rfl (fun h => ?_) (fun h => ?_) | refine osplitB rfl (fun h => ?_) (fun h => ?_)) <;> (fail_if_success (simp only [eq_self, reduceCtorEq] at h))) | refine onx ?_ | refine onb ?_ | refine sreg ?_ | refine qT rfl ?_ | refine qF rfl ?_ | refine scondT rfl ?_ | refine scondF rfl ?_ | refine ocondP rfl (fun h => ?_) (fun h => ?_) | refine ocondB rfl (fun h => ?_) (fun h => ?_) | refine scondP rfl (fun h => ?_) (fun h => ?_) | refine scond rfl (fun h => ?_) (fun h => ?_) | refine oskip ?_ | refine oskipb ?_ | refine oret ?_ | refine sem_ret ?_ | refine sem_seq ?_ | refine sreg1 ?_)
          exact ⟨_, rfl, _, rfl, tree_eq rfl rfl⟩
      · have q : (m.length : Int) ≤ i := by omega
        rw [hd1, show m.drop i = [] from List.drop_eq_nil_of_le (by omega)] at h3
        simp only [cmpL] at h3
        rw [h3]
        repeat' (first | ((first | refine o1 rfl ?_ | refine o0 rfl ?_); intro k hk; simp (disch := omega) only [ev0, sl_cells, simprocAttr, slOf, intCs, q, decide_true]; refine hk _ _ ?_; clear hk k) | refine ono rfl ?_ | ((first | refine osplitG rfl (fun h => ?_) (fun h => ?_) | refine osplitB rfl (fun h => ?_) (fun h => ?_)) <;> (fail_if_success (simp only [eq_self, reduceCtorEq] at h))) | refine onx ?_ | refine onb ?_ | refine sreg ?_ | refine qT rfl ?_ | refine qF rfl ?_ | refine scondT rfl ?_ | refine scondF rfl ?_ | refine ocondP rfl (fun h => ?_) (fun h => ?_) | refine ocondB rfl (fun h => ?_) (fun h => ?_) | refine scondP rfl (fun h => ?_) (fun h => ?_) | refine scond rfl (fun h => ?_) (fun h => ?_) | refine oskip ?_ | refine oskipb ?_ | refine oret ?_ | refine sem_ret ?_ | refine sem_seq ?_ | refine sreg1 ?_)
        exact ⟨_, rfl, _, rfl, tree_eq rfl rfl⟩
    · have hi : i = l.length := by omega
      subst hi
      rw [List.drop_length] at h3
      (refine sem_exit ?_; change sem _ _ _ _ _)
      by_cases hlt : l.length < m.length
      · have q : (l.length : Int) < m.length := by omega
        rw [drop_cons' hlt] at h3
        simp only [cmpL] at h3
        rw [h3]
        repeat' (first | ((first | refine o1 rfl ?_ | refine o0 rfl ?_); intro k hk; simp (disch := omega) only [ev0, sl_cells, simprocAttr, slOf, q, decide_true]; refine hk _ _ ?_; clear hk k) | refine ono rfl ?_ | ((first | refine osplitG rfl (fun h => ?_) (fun h => ?_) | refine osplitB rfl (fun h => ?_) (fun h => ?_)) <;> (fail_if_success (simp only [eq_self, reduceCtorEq] at h))) | refine onx ?_ | refine onb ?_ | refine sreg ?_ | refine qT rfl ?_ | refine qF rfl ?_ | refine scondT rfl ?_ | refine scondF rfl ?_ | refine ocondP rfl (fun h => ?_) (fun h => ?_) | refine ocondB rfl (fun h => ?_) (fun h => ?_) | refine scondP rfl (fun h => ?_) (fun h => ?_) | refine scond rfl (fun h => ?_) (fun h => ?_) | refine oskip ?_ | refine oskipb ?_ | refine oret ?_ | refine sem_ret ?_ | refine sem_seq ?_ | refine sreg1 ?_)
        exact ⟨_, rfl, _, rfl, tree_eq rfl rfl⟩
      · have q : ¬ (l.length : Int) < m.length := by omega
        rw [List.drop_eq_nil_of_le (by omega)] at h3
        simp only [cmpL] at h3
        rw [h3]
        repeat' (first | ((first | refine o1 rfl ?_ | refine o0 rfl ?_); intro k hk; simp (disch := omega) only [ev0, sl_cells, simprocAttr, slOf, q, decide_false]; refine hk _ _ ?_; clear hk k) | refine ono rfl ?_ | ((first | refine osplitG rfl (fun h => ?_) (fun h => ?_) | refine osplitB rfl (fun h => ?_) (fun h => ?_)) <;> (fail_if_success (simp only [eq_self, reduceCtorEq] at h))) | refine onx ?_ | refine onb ?_ | refine sreg ?_ | refine qT rfl ?_ | refine qF rfl ?_ | refine scondT rfl ?_ | refine scondF rfl ?_ | refine ocondP rfl (fun h => ?_) (fun h => ?_) | refine ocondB rfl (fun h => ?_) (fun h => ?_) | refine scondP rfl (fun h => ?_) (fun h => ?_) | refine scond rfl (fun h => ?_) (fun h => ?_) | refine oskip ?_ | refine oskipb ?_ | refine oret ?_ | refine sem_ret ?_ | refine sem_seq ?_ | refine sreg1 ?_)
        exact ⟨_, rfl, _, rfl, tree_eq rfl rfl⟩
theorem choice_costs (a b : Int × List Int) : Holds Try.prog G F.cool_choice_costs [.agg (chCs a), .agg (chCs b)] (I (cmpI a.1 b.1)) := by
  (refine holds_of_sem hG fn_cool_choice_costs (by simp) fun w0 S0 hG0 D0 => ?_; unfold c_cool_choice_costs cval enterEnv; simp only [List.zipIdx_cons, List.zipIdx_nil, List.map_cons, List.map_nil, Nat.zero_add, Nat.reduceAdd])
  repeat' (first | ((first | refine o1 rfl ?_ | refine o0 rfl ?_); intro k hk; simp (disch := omega) only [ev0, sl_cells, simprocAttr]; refine hk _ _ ?_; clear hk k) | refine ono rfl ?_ | (apply ocall; (case he => (simp only [ev0, sl_cells, simprocAttr] <;> rfl)); (case hc => first | exact cmp_Compare hG a.1 b.1); (case ht => rfl); (case hg => rfl)) | ((first | refine osplitG rfl (fun h => ?_) (fun h => ?_) | refine osplitB rfl (fun h => ?_) (fun h => ?_)) <;> (fail_if_success (simp only [eq_self, reduceCtorEq] at h))) | refine onx ?_ | refine onb ?_ | refine sreg ?_ | refine qT rfl ?_ | refine qF rfl ?_ | refine scondT rfl ?_ | refine scondF rfl ?_ | refine ocondP rfl (fun h => ?_) (fun h => ?_) | refine ocondB rfl (fun h => ?_) (fun h => ?_) | refine scondP rfl (fun h => ?_) (fun h => ?_) | refine scond rfl (fun h => ?_) (fun h => ?_) | refine oskip ?_ | refine oskipb ?_ | refine oret ?_ | refine sem_ret ?_ | refine sem_seq ?_ | refine sreg1 ?_)
  exact ⟨_, rfl, _, rfl, tree_eq rfl rfl⟩
theorem choice_many (a b : Int × List Int) (ha : a.2.length ≤ 1000) (hb : b.2.length ≤ 1000) : Holds Try.prog G F.cool_choice_many [.agg (chCs a), .agg (chCs b)] (I (cmpI a.2.length b.2.length)) := by
  (refine holds_of_sem hG fn_cool_choice_many (by simp) fun w0 S0 hG0 D0 => ?_; unfold c_cool_choice_many cval enterEnv; simp only [List.zipIdx_cons, List.zipIdx_nil, List.map_cons, List.map_nil, Nat.zero_add, Nat.reduceAdd])
  repeat' (first | ((first | refine o1 rfl ?_ | refine o0 rfl ?_); intro k hk; simp (disch := omega) only [ev0, sl_cells, simprocAttr, slOf]; refine hk _ _ ?_; clear hk k) | refine ono rfl ?_ | (apply ocall; (case he => (simp only [ev0, sl_cells, simprocAttr] <;> rfl)); (case hc => first | exact cmp_Compare hG (a.2.length : Int) (b.2.length : Int)); (case ht => rfl); (case hg => rfl)) | ((first | refine osplitG rfl (fun h => ?_) (fun h => ?_) | refine osplitB rfl (fun h => ?_) (fun h => ?_)) <;> (fail_if_success (simp only [eq_self, reduceCtorEq] at h))) | refine onx ?_ | refine onb ?_ | refine sreg ?_ | refine qT rfl ?_ | refine qF rfl ?_ | refine scondT rfl ?_ | refine scondF rfl ?_ | refine ocondP rfl (fun h => ?_) (fun h => ?_) | refine ocondB rfl (fun h => ?_) (fun h => ?_) | refine scondP rfl (fun h => ?_) (fun h => ?_) | refine scond rfl (fun h => ?_) (fun h => ?_) | refine oskip ?_ | refine oskipb ?_ | refine oret ?_ | refine sem_ret ?_ | refine sem_seq ?_ | refine sreg1 ?_)
  exact ⟨_, rfl, _, rfl, tree_eq rfl rfl⟩
theorem choice_order (a b : Int × List Int) (ha : a.2.length ≤ 1000) (hb : b.2.length ≤ 1000) : Holds Try.prog G F.cool_choice_order [.agg (chCs a), .agg (chCs b)] (I (cmpL a.2 b.2)) := by
  (refine holds_of_sem hG fn_cool_choice_order (by simp) fun w0 S0 hG0 D0 => ?_; unfold c_cool_choice_order cval enterEnv; simp only [List.zipIdx_cons, List.zipIdx_nil, List.map_cons, List.map_nil, Nat.zero_add, Nat.reduceAdd])
  repeat' (first | ((first | refine o1 rfl ?_ | refine o0 rfl ?_); intro k hk; simp (disch := omega) only [ev0, sl_cells, simprocAttr]; refine hk _ _ ?_; clear hk k) | refine ono rfl ?_ | (apply ocall; (case he => (simp only [ev0, sl_cells, simprocAttr] <;> rfl)); (case hc => first | exact slices_Compare hG a.2 b.2 ha hb); (case ht => rfl); (case hg => rfl)) | ((first | refine osplitG rfl (fun h => ?_) (fun h => ?_) | refine osplitB rfl (fun h => ?_) (fun h => ?_)) <;> (fail_if_success (simp only [eq_self, reduceCtorEq] at h))) | refine onx ?_ | refine onb ?_ | refine sreg ?_ | refine qT rfl ?_ | refine qF rfl ?_ | refine scondT rfl ?_ | refine scondF rfl ?_ | refine ocondP rfl (fun h => ?_) (fun h => ?_) | refine ocondB rfl (fun h => ?_) (fun h => ?_) | refine scondP rfl (fun h => ?_) (fun h => ?_) | refine scond rfl (fun h => ?_) (fun h => ?_) | refine oskip ?_ | refine oskipb ?_ | refine oret ?_ | refine sem_ret ?_ | refine sem_seq ?_ | refine sreg1 ?_)
  exact ⟨_, rfl, _, rfl, tree_eq rfl rfl⟩
theorem choice_before (a b : Int × List Int) (ha : a.2.length ≤ 1000) (hb : b.2.length ≤ 1000) : Holds Try.prog G F.cool_choice_before [.agg (chCs a), .agg (chCs b)] (B (beforeC a b)) := by
  have h0 := choice_costs hG a b
  have h1 := choice_many hG a b ha hb
  have h2 := choice_order hG a b ha hb
  (refine holds_of_sem hG fn_cool_choice_before (by simp) fun w0 S0 hG0 D0 => ?_; unfold c_cool_choice_before cval enterEnv; simp only [List.zipIdx_cons, List.zipIdx_nil, List.map_cons, List.map_nil, Nat.zero_add, Nat.reduceAdd])
  repeat' (first | ((first | refine o1 rfl ?_ | refine o0 rfl ?_); intro k hk; simp (disch := omega) only [ev0, sl_cells, simprocAttr]; refine hk _ _ ?_; clear hk k) | refine ono rfl ?_ | ((first | refine osplitG rfl (fun h => ?_) (fun h => ?_) | refine osplitB rfl (fun h => ?_) (fun h => ?_)) <;> (fail_if_success (simp only [eq_self, reduceCtorEq] at h))) | refine onx ?_ | refine onb ?_ | refine sreg ?_ | refine qT rfl ?_ | refine qF rfl ?_ | refine scondT rfl ?_ | refine scondF rfl ?_ | refine ocondP rfl (fun h => ?_) (fun h => ?_) | refine ocondB rfl (fun h => ?_) (fun h => ?_) | refine scondP rfl (fun h => ?_) (fun h => ?_) | refine scond rfl (fun h => ?_) (fun h => ?_) | refine oskip ?_ | refine oskipb ?_ | refine oret ?_ | refine sem_ret ?_ | refine sem_seq ?_ | refine sreg1 ?_)
  refine sem_block ?_
  
  refine sem_loop (α := Nat) (fun i => ⟨[(3, .ptr 1 0 2 0 0), (14, .agg [.fn (.func F.cool_choice_costs) [.agg (chCs a)] [], .fn (.func F.cool_choice_many) [.agg (chCs a)] [], .fn (.func F.cool_choice_order) [.agg (chCs a)] []]), (15, idx3 i)], [.row 85 0 2 [chCs a], .row 85 0 2 [chCs b]]⟩) (fun i => i ≤ 3 ∧ (0 < i → a.1 = b.1) ∧ (1 < i → a.2.length = b.2.length) ∧ (2 < i → cmpL a.2 b.2 = 0)) (fun i => 3 - i) 0 ⟨Nat.zero_le _, fun h => absurd h (by omega), fun h => absurd h (by omega), fun h => absurd h (by omega)⟩ ?_ ?_
  · (refine Le.same ?_; simp only [List.forall_mem_cons, List.forall_mem_nil, getE, selE, Nat.reduceBEq, List.not_mem_nil, false_implies, implies_true, and_true, true_and, and_self])
    simp [idx3]
  · rintro i ⟨hi, g1, g2, g3⟩
    match i, hi, g1, g2, g3 with
    | 0, hi, g1, g2, g3 =>
      simp only [idx3]
      repeat' (first | ((first | refine o1 rfl ?_ | refine o0 rfl ?_); intro k hk; simp (disch := omega) only [ev0, sl_cells, simprocAttr]; refine hk _ _ ?_; clear hk k) | refine ono rfl ?_ | ((first | refine osplitG rfl (fun h => ?_) (fun h => ?_) | refine osplitB rfl (fun h => ?_) (fun h => ?_)) <;> (fail_if_success (simp only [eq_self, reduceCtorEq] at h))) | refine onx ?_ | refine onb ?_ | refine sreg ?_ | refine qT rfl ?_ | refine qF rfl ?_ | refine scondT rfl ?_ | refine scondF rfl ?_ | refine ocondP rfl (fun h => ?_) (fun h => ?_) | refine ocondB rfl (fun h => ?_) (fun h => ?_) | refine scondP rfl (fun h => ?_) (fun h => ?_) | refine scond rfl (fun h => ?_) (fun h => ?_) | refine oskip ?_ | refine oskipb ?_ | refine oret ?_ | refine sem_ret ?_ | refine sem_seq ?_ | refine sreg1 ?_)
      refine sem_block ?_
      by_cases e : cmpI a.1 b.1 = 0
      · have e' := cmpI_zero.1 e
        repeat' (first | ((first | refine o1 rfl ?_ | refine o0 rfl ?_); intro k hk; simp (disch := omega) only [ev0, sl_cells, simprocAttr]; refine hk _ _ ?_; clear hk k) | refine ono rfl ?_ | ((first | refine osplitG rfl (fun h => ?_) (fun h => ?_) | refine osplitB rfl (fun h => ?_) (fun h => ?_)) <;> (fail_if_success (simp only [eq_self, reduceCtorEq] at h))) | refine onx ?_ | refine onb ?_ | refine sreg ?_ | refine qT rfl ?_ | refine qF rfl ?_ | refine scondT rfl ?_ | refine scondF rfl ?_ | refine ocondP rfl (fun h => ?_) (fun h => ?_) | refine ocondB rfl (fun h => ?_) (fun h => ?_) | refine scondP rfl (fun h => ?_) (fun h => ?_) | refine scond rfl (fun h => ?_) (fun h => ?_) | refine oskip ?_ | refine oskipb ?_ | refine oret ?_ | refine sem_ret ?_ | refine sem_seq ?_ | refine sreg1 ?_)
        (apply odyn; (case hx => (simp only [ev0, sl_cells, simprocAttr] <;> rfl)); (case he => (simp only [ev0, sl_cells, simprocAttr] <;> rfl)); (case hc => exact h0); (case ht => first | rfl | assumption); (case hg => rfl))
        repeat' (first | ((first | refine o1 rfl ?_ | refine o0 rfl ?_); intro k hk; simp (disch := omega) only [ev0, sl_cells, simprocAttr, e, eq_self]; refine hk _ _ ?_; clear hk k) | refine ono rfl ?_ | ((first | refine osplitG rfl (fun h => ?_) (fun h => ?_) | refine osplitB rfl (fun h => ?_) (fun h => ?_)) <;> (fail_if_success (simp only [eq_self, reduceCtorEq] at h))) | refine onx ?_ | refine onb ?_ | refine sreg ?_ | refine qT rfl ?_ | refine qF rfl ?_ | refine scondT rfl ?_ | refine scondF rfl ?_ | refine ocondP rfl (fun h => ?_) (fun h => ?_) | refine ocondB rfl (fun h => ?_) (fun h => ?_) | refine scondP rfl (fun h => ?_) (fun h => ?_) | refine scond rfl (fun h => ?_) (fun h => ?_) | refine oskip ?_ | refine oskipb ?_ | refine oret ?_ | refine sem_ret ?_ | refine sem_seq ?_ | refine sreg1 ?_)
        refine onil (lnext 1 ⟨by omega, fun _ => e', fun h => absurd h (by omega), fun h => absurd h (by omega)⟩ (by omega) ?_)
        (refine Le.same ?_; simp only [List.forall_mem_cons, List.forall_mem_nil, getE, selE, Nat.reduceBEq, List.not_mem_nil, false_implies, implies_true, and_true, true_and, and_self])
      · have e' : ¬ a.1 = b.1 := fun q => e (cmpI_zero.2 q)
        rw [show beforeC a b = decide (cmpI a.1 b.1 < 0) by unfold beforeC; rw [if_neg e', decide_eq_decide]; exact cmpI_neg.symm]
        repeat' (first | ((first | refine o1 rfl ?_ | refine o0 rfl ?_); intro k hk; simp (disch := omega) only [ev0, sl_cells, simprocAttr]; refine hk _ _ ?_; clear hk k) | refine ono rfl ?_ | ((first | refine osplitG rfl (fun h => ?_) (fun h => ?_) | refine osplitB rfl (fun h => ?_) (fun h => ?_)) <;> (fail_if_success (simp only [eq_self, reduceCtorEq] at h))) | refine onx ?_ | refine onb ?_ | refine sreg ?_ | refine qT rfl ?_ | refine qF rfl ?_ | refine scondT rfl ?_ | refine scondF rfl ?_ | refine ocondP rfl (fun h => ?_) (fun h => ?_) | refine ocondB rfl (fun h => ?_) (fun h => ?_) | refine scondP rfl (fun h => ?_) (fun h => ?_) | refine scond rfl (fun h => ?_) (fun h => ?_) | refine oskip ?_ | refine oskipb ?_ | refine oret ?_ | refine sem_ret ?_ | refine sem_seq ?_ | refine sreg1 ?_)
        (apply odyn; (case hx => (simp only [ev0, sl_cells, simprocAttr] <;> rfl)); (case he => (simp only [ev0, sl_cells, simprocAttr] <;> rfl)); (case hc => exact h0); (case ht => first | rfl | assumption); (case hg => rfl))
        repeat' (first | ((first | refine o1 rfl ?_ | refine o0 rfl ?_); intro k hk; simp (disch := omega) only [ev0, sl_cells, simprocAttr, e]; refine hk _ _ ?_; clear hk k) | refine ono rfl ?_ | ((first | refine osplitG rfl (fun h => ?_) (fun h => ?_) | refine osplitB rfl (fun h => ?_) (fun h => ?_)) <;> (fail_if_success (simp only [eq_self, reduceCtorEq] at h))) | refine onx ?_ | refine onb ?_ | refine sreg ?_ | refine qT rfl ?_ | refine qF rfl ?_ | refine scondT rfl ?_ | refine scondF rfl ?_ | refine ocondP rfl (fun h => ?_) (fun h => ?_) | refine ocondB rfl (fun h => ?_) (fun h => ?_) | refine scondP rfl (fun h => ?_) (fun h => ?_) | refine scond rfl (fun h => ?_) (fun h => ?_) | refine oskip ?_ | refine oskipb ?_ | refine oret ?_ | refine sem_ret ?_ | refine sem_seq ?_ | refine sreg1 ?_)
        exact ⟨_, rfl, _, rfl, tree_eq rfl rfl⟩
    | 1, hi, g1, g2, g3 =>
      simp only [idx3]
      repeat' (first | ((first | refine o1 rfl ?_ | refine o0 rfl ?_); intro k hk; simp (disch := omega) only [ev0, sl_cells, simprocAttr]; refine hk _ _ ?_; clear hk k) | refine ono rfl ?_ | ((first | refine osplitG rfl (fun h => ?_) (fun h => ?_) | refine osplitB rfl (fun h => ?_) (fun h => ?_)) <;> (fail_if_success (simp only [eq_self, reduceCtorEq] at h))) | refine onx ?_ | refine onb ?_ | refine sreg ?_ | refine qT rfl ?_ | refine qF rfl ?_ | refine scondT rfl ?_ | refine scondF rfl ?_ | refine ocondP rfl (fun h => ?_) (fun h => ?_) | refine ocondB rfl (fun h => ?_) (fun h => ?_) | refine scondP rfl (fun h => ?_) (fun h => ?_) | refine scond rfl (fun h => ?_) (fun h => ?_) | refine oskip ?_ | refine oskipb ?_ | refine oret ?_ | refine sem_ret ?_ | refine sem_seq ?_ | refine sreg1 ?_)
      refine sem_block ?_
      have e1 := g1 (by omega)
      by_cases e : cmpI a.2.length b.2.length = 0
      · have e' := cmpI_zero.1 e
        repeat' (first | ((first | refine o1 rfl ?_ | refine o0 rfl ?_); intro k hk; simp (disch := omega) only [ev0, sl_cells, simprocAttr]; refine hk _ _ ?_; clear hk k) | refine ono rfl ?_ | ((first | refine osplitG rfl (fun h => ?_) (fun h => ?_) | refine osplitB rfl (fun h => ?_) (fun h => ?_)) <;> (fail_if_success (simp only [eq_self, reduceCtorEq] at h))) | refine onx ?_ | refine onb ?_ | refine sreg ?_ | refine qT rfl ?_ | refine qF rfl ?_ | refine scondT rfl ?_ | refine scondF rfl ?_ | refine ocondP rfl (fun h => ?_) (fun h => ?_) | refine ocondB rfl (fun h => ?_) (fun h => ?_) | refine scondP rfl (fun h => ?_) (fun h => ?_) | refine scond rfl (fun h => ?_) (fun h => ?_) | refine oskip ?_ | refine oskipb ?_ | refine oret ?_ | refine sem_ret ?_ | refine sem_seq ?_ | refine sreg1 ?_)
        (apply odyn; (case hx => (simp only [ev0, sl_cells, simprocAttr] <;> rfl)); (case he => (simp only [ev0, sl_cells, simprocAttr] <;> rfl)); (case hc => exact h1); (case ht => first | rfl | assumption); (case hg => rfl))
        repeat' (first | ((first | refine o1 rfl ?_ | refine o0 rfl ?_); intro k hk; simp (disch := omega) only [ev0, sl_cells, simprocAttr, e, eq_self]; refine hk _ _ ?_; clear hk k) | refine ono rfl ?_ | ((first | refine osplitG rfl (fun h => ?_) (fun h => ?_) | refine osplitB rfl (fun h => ?_) (fun h => ?_)) <;> (fail_if_success (simp only [eq_self, reduceCtorEq] at h))) | refine onx ?_ | refine onb ?_ | refine sreg ?_ | refine qT rfl ?_ | refine qF rfl ?_ | refine scondT rfl ?_ | refine scondF rfl ?_ | refine ocondP rfl (fun h => ?_) (fun h => ?_) | refine ocondB rfl (fun h => ?_) (fun h => ?_) | refine scondP rfl (fun h => ?_) (fun h => ?_) | refine scond rfl (fun h => ?_) (fun h => ?_) | refine oskip ?_ | refine oskipb ?_ | refine oret ?_ | refine sem_ret ?_ | refine sem_seq ?_ | refine sreg1 ?_)
        refine onil (lnext 2 ⟨by omega, fun _ => e1, fun _ => by omega, fun h => absurd h (by omega)⟩ (by omega) ?_)
        (refine Le.same ?_; simp only [List.forall_mem_cons, List.forall_mem_nil, getE, selE, Nat.reduceBEq, List.not_mem_nil, false_implies, implies_true, and_true, true_and, and_self])
      · have e' : ¬ a.2.length = b.2.length := fun q => e (cmpI_zero.2 (by omega))
        rw [show beforeC a b = decide (cmpI (a.2.length : Int) b.2.length < 0) by unfold beforeC; rw [if_pos e1, if_neg e', decide_eq_decide, cmpI_neg]; omega]
        repeat' (first | ((first | refine o1 rfl ?_ | refine o0 rfl ?_); intro k hk; simp (disch := omega) only [ev0, sl_cells, simprocAttr]; refine hk _ _ ?_; clear hk k) | refine ono rfl ?_ | ((first | refine osplitG rfl (fun h => ?_) (fun h => ?_) | refine osplitB rfl (fun h => ?_) (fun h => ?_)) <;> (fail_if_success (simp only [eq_self, reduceCtorEq] at h))) | refine onx ?_ | refine onb ?_ | refine sreg ?_ | refine qT rfl ?_ | refine qF rfl ?_ | refine scondT rfl ?_ | refine scondF rfl ?_ | refine ocondP rfl (fun h => ?_) (fun h => ?_) | refine ocondB rfl (fun h => ?_) (fun h => ?_) | refine scondP rfl (fun h => ?_) (fun h => ?_) | refine scond rfl (fun h => ?_) (fun h => ?_) | refine oskip ?_ | refine oskipb ?_ | refine oret ?_ | refine sem_ret ?_ | refine sem_seq ?_ | refine sreg1 ?_)
        (apply odyn; (case hx => (simp only [ev0, sl_cells, simprocAttr] <;> rfl)); (case he => (simp only [ev0, sl_cells, simprocAttr] <;> rfl)); (case hc => exact h1); (case ht => first | rfl | assumption); (case hg => rfl))
        repeat' (first | ((first | refine o1 rfl ?_ | refine o0 rfl ?_); intro k hk; simp (disch := omega) only [ev0, sl_cells, simprocAttr, e]; refine hk _ _ ?_; clear hk k) | refine ono rfl ?_ | ((first | refine osplitG rfl (fun h => ?_) (fun h => ?_) | refine osplitB rfl (fun h => ?_) (fun h => ?_)) <;> (fail_if_success (simp only [eq_self, reduceCtorEq] at h))) | refine onx ?_ | refine onb ?_ | refine sreg ?_ | refine qT rfl ?_ | refine qF rfl ?_ | refine scondT rfl ?_ | refine scondF rfl ?_ | refine ocondP rfl (fun h => ?_) (fun h => ?_) | refine ocondB rfl (fun h => ?_) (fun h => ?_) | refine scondP rfl (fun h => ?_) (fun h => ?_) | refine scond rfl (fun h => ?_) (fun h => ?_) | refine oskip ?_ | refine oskipb ?_ | refine oret ?_ | refine sem_ret ?_ | refine sem_seq ?_ | refine sreg1 ?_)
        exact ⟨_, rfl, _, rfl, tree_eq rfl rfl⟩
    | 2, hi, g1, g2, g3 =>
      simp only [idx3]
      repeat' (first | ((first | refine o1 rfl ?_ | refine o0 rfl ?_); intro k hk; simp (disch := omega) only [ev0, sl_cells, simprocAttr]; refine hk _ _ ?_; clear hk k) | refine ono rfl ?_ | ((first | refine osplitG rfl (fun h => ?_) (fun h => ?_) | refine osplitB rfl (fun h => ?_) (fun h => ?_)) <;> (fail_if_success (simp only [eq_self, reduceCtorEq] at h))) | refine onx ?_ | refine onb ?_ | refine sreg ?_ | refine qT rfl ?_ | refine qF rfl ?_ | refine scondT rfl ?_ | refine scondF rfl ?_ | refine ocondP rfl (fun h => ?_) (fun h => ?_) | refine ocondB rfl (fun h => ?_) (fun h => ?_) | refine scondP rfl (fun h => ?_) (fun h => ?_) | refine scond rfl (fun h => ?_) (fun h => ?_) | refine oskip ?_ | refine oskipb ?_ | refine oret ?_ | refine sem_ret ?_ | refine sem_seq ?_ | refine sreg1 ?_)
      refine sem_block ?_
      have e1 := g1 (by omega)
      have e2 := g2 (by omega)
      by_cases e : cmpL a.2 b.2 = 0
      · repeat' (first | ((first | refine o1 rfl ?_ | refine o0 rfl ?_); intro k hk; simp (disch := omega) only [ev0, sl_cells, simprocAttr]; refine hk _ _ ?_; clear hk k) | refine ono rfl ?_ | ((first | refine osplitG rfl (fun h => ?_) (fun h => ?_) | refine osplitB rfl (fun h => ?_) (fun h => ?_)) <;> (fail_if_success (simp only [eq_self, reduceCtorEq] at h))) | refine onx ?_ | refine onb ?_ | refine sreg ?_ | refine qT rfl ?_ | refine qF rfl ?_ | refine scondT rfl ?_ | refine scondF rfl ?_ | refine ocondP rfl (fun h => ?_) (fun h => ?_) | refine ocondB rfl (fun h => ?_) (fun h => ?_) | refine scondP rfl (fun h => ?_) (fun h => ?_) | refine scond rfl (fun h => ?_) (fun h => ?_) | refine oskip ?_ | refine oskipb ?_ | refine oret ?_ | refine sem_ret ?_ | refine sem_seq ?_ | refine sreg1 ?_)
        (apply odyn; (case hx => (simp only [ev0, sl_cells, simprocAttr] <;> rfl)); (case he => (simp only [ev0, sl_cells, simprocAttr] <;> rfl)); (case hc => exact h2); (case ht => first | rfl | assumption); (case hg => rfl))
        repeat' (first | ((first | refine o1 rfl ?_ | refine o0 rfl ?_); intro k hk; simp (disch := omega) only [ev0, sl_cells, simprocAttr, e, eq_self]; refine hk _ _ ?_; clear hk k) | refine ono rfl ?_ | ((first | refine osplitG rfl (fun h => ?_) (fun h => ?_) | refine osplitB rfl (fun h => ?_) (fun h => ?_)) <;> (fail_if_success (simp only [eq_self, reduceCtorEq] at h))) | refine onx ?_ | refine onb ?_ | refine sreg ?_ | refine qT rfl ?_ | refine qF rfl ?_ | refine scondT rfl ?_ | refine scondF rfl ?_ | refine ocondP rfl (fun h => ?_) (fun h => ?_) | refine ocondB rfl (fun h => ?_) (fun h => ?_) | refine scondP rfl (fun h => ?_) (fun h => ?_) | refine scond rfl (fun h => ?_) (fun h => ?_) | refine oskip ?_ | refine oskipb ?_ | refine oret ?_ | refine sem_ret ?_ | refine sem_seq ?_ | refine sreg1 ?_)
        refine onil (lnext 3 ⟨by omega, fun _ => e1, fun _ => e2, fun _ => e⟩ (by omega) ?_)
        (refine Le.same ?_; simp only [List.forall_mem_cons, List.forall_mem_nil, getE, selE, Nat.reduceBEq, List.not_mem_nil, false_implies, implies_true, and_true, true_and, and_self])
      · rw [show beforeC a b = decide (cmpL a.2 b.2 < 0) by unfold beforeC; rw [if_pos e1, if_pos e2, cmpL_before e2]]
        repeat' (first | ((first | refine o1 rfl ?_ | refine o0 rfl ?_); intro k hk; simp (disch := omega) only [ev0, sl_cells, simprocAttr]; refine hk _ _ ?_; clear hk k) | refine ono rfl ?_ | ((first | refine osplitG rfl (fun h => ?_) (fun h => ?_) | refine osplitB rfl (fun h => ?_) (fun h => ?_)) <;> (fail_if_success (simp only [eq_self, reduceCtorEq] at h))) | refine onx ?_ | refine onb ?_ | refine sreg ?_ | refine qT rfl ?_ | refine qF rfl ?_ | refine scondT rfl ?_ | refine scondF rfl ?_ | refine ocondP rfl (fun h => ?_) (fun h => ?_) | refine ocondB rfl (fun h => ?_) (fun h => ?_) | refine scondP rfl (fun h => ?_) (fun h => ?_) | refine scond rfl (fun h => ?_) (fun h => ?_) | refine oskip ?_ | refine oskipb ?_ | refine oret ?_ | refine sem_ret ?_ | refine sem_seq ?_ | refine sreg1 ?_)
        (apply odyn; (case hx => (simp only [ev0, sl_cells, simprocAttr] <;> rfl)); (case he => (simp only [ev0, sl_cells, simprocAttr] <;> rfl)); (case hc => exact h2); (case ht => first | rfl | assumption); (case hg => rfl))
        repeat' (first | ((first | refine o1 rfl ?_ | refine o0 rfl ?_); intro k hk; simp (disch := omega) only [ev0, sl_cells, simprocAttr, e]; refine hk _ _ ?_; clear hk k) | refine ono rfl ?_ | ((first | refine osplitG rfl (fun h => ?_) (fun h => ?_) | refine osplitB rfl (fun h => ?_) (fun h => ?_)) <;> (fail_if_success (simp only [eq_self, reduceCtorEq] at h))) | refine onx ?_ | refine onb ?_ | refine sreg ?_ | refine qT rfl ?_ | refine qF rfl ?_ | refine scondT rfl ?_ | refine scondF rfl ?_ | refine ocondP rfl (fun h => ?_) (fun h => ?_) | refine ocondB rfl (fun h => ?_) (fun h => ?_) | refine scondP rfl (fun h => ?_) (fun h => ?_) | refine scond rfl (fun h => ?_) (fun h => ?_) | refine oskip ?_ | refine oskipb ?_ | refine oret ?_ | refine sem_ret ?_ | refine sem_seq ?_ | refine sreg1 ?_)
        exact ⟨_, rfl, _, rfl, tree_eq rfl rfl⟩
    | 3, hi, g1, g2, g3 =>
      simp only [idx3]
      rw [show beforeC a b = false by unfold beforeC; rw [if_pos (g1 (by omega)), if_pos (g2 (by omega)), cmpL_before (g2 (by omega)), g3 (by omega)]; rfl]
      repeat' (first | ((first | refine o1 rfl ?_ | refine o0 rfl ?_); intro k hk; simp (disch := omega) only [ev0, sl_cells, simprocAttr]; refine hk _ _ ?_; clear hk k) | refine ono rfl ?_ | ((first | refine osplitG rfl (fun h => ?_) (fun h => ?_) | refine osplitB rfl (fun h => ?_) (fun h => ?_)) <;> (fail_if_success (simp only [eq_self, reduceCtorEq] at h))) | refine onx ?_ | refine onb ?_ | refine sreg ?_ | refine qT rfl ?_ | refine qF rfl ?_ | refine scondT rfl ?_ | refine scondF rfl ?_ | refine ocondP rfl (fun h => ?_) (fun h => ?_) | refine ocondB rfl (fun h => ?_) (fun h => ?_) | refine scondP rfl (fun h => ?_) (fun h => ?_) | refine scond rfl (fun h => ?_) (fun h => ?_) | refine oskip ?_ | refine oskipb ?_ | refine oret ?_ | refine sem_ret ?_ | refine sem_seq ?_ | refine sreg1 ?_)
      (refine sem_exit ?_; change sem _ _ _ _ _)
      repeat' (first | ((first | refine o1 rfl ?_ | refine o0 rfl ?_); intro k hk; simp (disch := omega) only [ev0, sl_cells, simprocAttr]; refine hk _ _ ?_; clear hk k) | refine ono rfl ?_ | ((first | refine osplitG rfl (fun h => ?_) (fun h => ?_) | refine osplitB rfl (fun h => ?_) (fun h => ?_)) <;> (fail_if_success (simp only [eq_self, reduceCtorEq] at h))) | refine onx ?_ | refine onb ?_ | refine sreg ?_ | refine qT rfl ?_ | refine qF rfl ?_ | refine scondT rfl ?_ | refine scondF rfl ?_ | refine ocondP rfl (fun h => ?_) (fun h => ?_) | refine ocondB rfl (fun h => ?_) (fun h => ?_) | refine scondP rfl (fun h => ?_) (fun h => ?_) | refine scond rfl (fun h => ?_) (fun h => ?_) | refine oskip ?_ | refine oskipb ?_ | refine oret ?_ | refine sem_ret ?_ | refine sem_seq ?_ | refine sreg1 ?_)
      exact ⟨_, rfl, _, rfl, tree_eq rfl rfl⟩
end Go.Proofs.Ytnempffajbdneaa

/- The best coolers. -/
set_option linter.unusedVariables false
set_option linter.unusedSimpArgs false
set_option maxRecDepth 8000
set_option maxHeartbeats 2000000
namespace Go.Tk
open Go Go.Av
theorem listB_lt {c n : Nat} (hc : c < 2 ^ n) : ∀ i ∈ listB c, 0 ≤ i ∧ i < n := fun i hi => by
  obtain ⟨k, rfl, h1, h2⟩ := listB_mem.1 hi
  have := bit_lt hc h2
  omega
def chS (t : CoolTown) (s : Nat) : Int × List Int := (costL t (listB s), listB s)
/-- The best of the first sets. -/
def bestF (t : CoolTown) (f : Nat) : Nat → Option Nat
  | 0 => none
  | s + 1 => match bestF t f s with
    | none => if brk t f s t.houses.length = none then some s else none
    | some b => if beforeC (chS t s) (chS t b) = true ∧ brk t f s t.houses.length = none then some s else some b
def bestCell (t : CoolTown) : Option Nat → List AV
  | none => [I 0, .nilsl]
  | some s => chCs (chS t s)
def bestV (t : CoolTown) : Option Nat → AV
  | none => .tup [.nilsl, I 0, I 5]
  | some s => .tup [slOf intCs (listB s), I (costL t (listB s)), I 0]
theorem bestF_lt {t : CoolTown} {f : Nat} : ∀ {s b : Nat}, bestF t f s = some b → b < s
  | 0, _, h => by simp [bestF] at h
  | s + 1, b, h => by
    simp only [bestF] at h
    split at h
    · split at h
      · cases h; omega
      · cases h
    · rename_i b' hb
      split at h
      · cases h; omega
      · cases h
        have := bestF_lt hb
        omega
end Go.Tk
namespace Go.Proofs.Ytnempffajbdneaa
open Go Go.Av Go.Tk
attribute [local irreducible] Holds sem semL ACalls FnIs levelB levM
variable {G : World → Prop} (hG : ∀ w w', G w → RowKit.Below w.heap.size w w' → G w')
include hG
theorem Best_bad (t : CoolTown) (hs : t.short) (f : Int) (hn : ¬ (t.ok ∧ 0 ≤ f ∧ f ≤ 3)) : Holds Try.prog G F.cool_Best [.agg t.cs, I f] (.tup [.nilsl, I 0, I 2]) := by
  have hv := cool_valid hG t hs
  have hf := cool_failing hG f
  by_cases ok : t.ok
  · rw [decide_eq_true ok] at hv
    rw [decide_eq_false (fun q => hn ⟨ok, q⟩)] at hf
    (refine holds_of_sem hG fn_cool_Best (by simp) fun w0 S0 hG0 D0 => ?_; unfold c_cool_Best cval enterEnv; simp only [List.zipIdx_cons, List.zipIdx_nil, List.map_cons, List.map_nil, Nat.zero_add, Nat.reduceAdd])
    repeat' (first | ((first | refine o1 rfl ?_ | refine o0 rfl ?_); intro k hk; simp (disch := omega) only [ev0, sl_cells, simprocAttr]; refine hk _ _ ?_; clear hk k) | refine ono rfl ?_ | (apply ocall; (case he => (simp only [ev0, sl_cells, simprocAttr] <;> rfl)); (case hc => first | exact hv | exact hf); (case ht => rfl); (case hg => rfl)) | ((first | refine osplitG rfl (fun h => ?_) (fun h => ?_) | refine osplitB rfl (fun h => ?_) (fun h => ?_)) <;> (fail_if_success (simp only [eq_self, reduceCtorEq] at h))) | refine onx ?_ | refine onb ?_ | refine sreg ?_ | refine qT rfl ?_ | refine qF rfl ?_ | refine scondT rfl ?_ | refine scondF rfl ?_ | refine ocondP rfl (fun h => ?_) (fun h => ?_) | refine ocondB rfl (fun h => ?_) (fun h => ?_) | refine scondP rfl (fun h => ?_) (fun h => ?_) | refine scond rfl (fun h => ?_) (fun h => ?_) | refine oskip ?_ | refine oskipb ?_ | refine oret ?_ | refine sem_ret ?_ | refine sem_seq ?_ | refine sreg1 ?_)
    exact ⟨_, rfl, _, rfl, tree_eq rfl rfl⟩
  · rw [decide_eq_false ok] at hv
    (refine holds_of_sem hG fn_cool_Best (by simp) fun w0 S0 hG0 D0 => ?_; unfold c_cool_Best cval enterEnv; simp only [List.zipIdx_cons, List.zipIdx_nil, List.map_cons, List.map_nil, Nat.zero_add, Nat.reduceAdd])
    repeat' (first | ((first | refine o1 rfl ?_ | refine o0 rfl ?_); intro k hk; simp (disch := omega) only [ev0, sl_cells, simprocAttr]; refine hk _ _ ?_; clear hk k) | refine ono rfl ?_ | (apply ocall; (case he => (simp only [ev0, sl_cells, simprocAttr] <;> rfl)); (case hc => first | exact hv | exact hf); (case ht => rfl); (case hg => rfl)) | ((first | refine osplitG rfl (fun h => ?_) (fun h => ?_) | refine osplitB rfl (fun h => ?_) (fun h => ?_)) <;> (fail_if_success (simp only [eq_self, reduceCtorEq] at h))) | refine onx ?_ | refine onb ?_ | refine sreg ?_ | refine qT rfl ?_ | refine qF rfl ?_ | refine scondT rfl ?_ | refine scondF rfl ?_ | refine ocondP rfl (fun h => ?_) (fun h => ?_) | refine ocondB rfl (fun h => ?_) (fun h => ?_) | refine scondP rfl (fun h => ?_) (fun h => ?_) | refine scond rfl (fun h => ?_) (fun h => ?_) | refine oskip ?_ | refine oskipb ?_ | refine oret ?_ | refine sem_ret ?_ | refine sem_seq ?_ | refine sreg1 ?_)
    exact ⟨_, rfl, _, rfl, tree_eq rfl rfl⟩
theorem Best_ok (t : CoolTown) (hs : t.short) (ok : t.ok) (f : Nat) (hf : f ≤ 3) : Holds Try.prog G F.cool_Best [.agg t.cs, I f] (bestV t (bestF t f (2 ^ t.sites.length))) := by
  have hv := cool_valid hG t hs
  have hfa := cool_failing hG (f : Int)
  rw [decide_eq_true (show 0 ≤ (f : Int) ∧ (f : Int) ≤ 3 by omega)] at hfa
  rw [decide_eq_true ok] at hv
  have hns := ok.2.1
  have hp10 : 2 ^ t.sites.length ≤ 2 ^ 10 := Nat.pow_le_pow_right (by omega) ok.2.1.2
  have e1 := shlN t.sites.length (by omega)
  refine holds_of_sem hG fn_cool_Best (by simp) fun w0 S0 hG0 D0 => ?_
  have hbr := fun (s : Nat) (hs : s < 2 ^ t.sites.length) (μ : List AObj) (hp : μ[4]? = some (.map [])) (hq : μ[5]? = some (.row 96 0 4 [[slOf CoolHouse.cs t.houses, slOf CoolSite.cs t.sites, I s, .mp 4]])) => broken_at (K := ⟨Try.prog, w0, S0, G, hG0⟩) rfl hG t ok s hs f (by omega) [] valid_nil (μ2 := μ) (p := 4) (q := 5) (by omega) hp hq
  have hbu := fun (s : Nat) (o o' : List AV) (ho : renL (backOf []) o = o) => (cool_buy (K := ⟨Try.prog, w0, S0, G, hG0⟩) rfl hG t s).placed1 (μ2 := [.row 25 0 2 [t.cs], .row 85 0 2 [o], .row 85 0 2 [o']]) (args2 := [.agg t.cs, I s]) (x2 := .ptr 5 0 4 0 0) (ν2 := [.row 25 0 2 [t.cs], .row 85 0 2 [o], .row 85 0 2 [o'], .row 25 0 2 [t.cs], .map [], .row 96 0 4 [[slOf CoolHouse.cs t.houses, slOf CoolSite.cs t.sites, I s, .mp 4]]]) [] rfl rfl rfl rfl rfl rfl
  unfold c_cool_Best cval enterEnv
  simp only [List.zipIdx_cons, List.zipIdx_nil, List.map_cons, List.map_nil, Nat.zero_add, Nat.reduceAdd]
  repeat' (first | ((first | refine o1 rfl ?_ | refine o0 rfl ?_); intro k hk; simp (disch := omega) only [ev0, sl_cells, simprocAttr, CoolTown.cs, slOf, e1]; refine hk _ _ ?_; clear hk k) | refine ono rfl ?_ | (apply ocall; (case he => (simp only [ev0, sl_cells, simprocAttr] <;> rfl)); (case hc => first | exact hv | exact hfa); (case ht => rfl); (case hg => rfl)) | ((first | refine osplitG rfl (fun h => ?_) (fun h => ?_) | refine osplitB rfl (fun h => ?_) (fun h => ?_)) <;> (fail_if_success (simp only [eq_self, reduceCtorEq] at h))) | refine onx ?_ | refine onb ?_ | refine sreg ?_ | refine qT rfl ?_ | refine qF rfl ?_ | refine scondT rfl ?_ | refine scondF rfl ?_ | refine ocondP rfl (fun h => ?_) (fun h => ?_) | refine ocondB rfl (fun h => ?_) (fun h => ?_) | refine scondP rfl (fun h => ?_) (fun h => ?_) | refine scond rfl (fun h => ?_) (fun h => ?_) | refine oskip ?_ | refine oskipb ?_ | refine oret ?_ | refine sem_ret ?_ | refine sem_seq ?_ | refine sreg1 ?_)
  refine sem_block ?_
  
  refine sem_loop (α := Nat) (fun s => ⟨[(1, I f), (2, .ptr 0 0 2 0 0), (7, .ptr 1 0 2 0 0), (8, B (bestF t f s).isSome), (26, I (2 ^ t.sites.length : Nat)), (27, I s)], [.row 25 0 2 [t.cs], .row 85 0 2 [bestCell t (bestF t f s)]]⟩) (fun s => s ≤ 2 ^ t.sites.length) (fun s => 2 ^ t.sites.length - s) 0 (Nat.zero_le _) ?_ ?_
  · (refine Le.same ?_; simp only [List.forall_mem_cons, List.forall_mem_nil, getE, selE, Nat.reduceBEq, List.not_mem_nil, false_implies, implies_true, and_true, true_and, and_self])
    simp [bestF, bestCell, CoolTown.cs, slOf]
  · intro s hs'
    have hbs : bestF t f (s + 1) = match bestF t f s with
      | none => if brk t f s t.houses.length = none then some s else none
      | some b => if beforeC (chS t s) (chS t b) = true ∧ brk t f s t.houses.length = none then some s else some b := rfl
    have hblt := fun b (h : bestF t f s = some b) => bestF_lt h
    generalize hO : bestF t f s = o at *
    repeat' (first | ((first | refine o1 rfl ?_ | refine o0 rfl ?_); intro k hk; simp (disch := omega) only [ev0, sl_cells, simprocAttr]; refine hk _ _ ?_; clear hk k) | refine ono rfl ?_ | ((first | refine osplitG rfl (fun h => ?_) (fun h => ?_) | refine osplitB rfl (fun h => ?_) (fun h => ?_)) <;> (fail_if_success (simp only [eq_self, reduceCtorEq] at h))) | refine onx ?_ | refine onb ?_ | refine sreg ?_ | refine qT rfl ?_ | refine qF rfl ?_ | refine scondT rfl ?_ | refine scondF rfl ?_ | refine ocondP rfl (fun h => ?_) (fun h => ?_) | refine ocondB rfl (fun h => ?_) (fun h => ?_) | refine scondP rfl (fun h => ?_) (fun h => ?_) | refine scond rfl (fun h => ?_) (fun h => ?_) | refine oskip ?_ | refine oskipb ?_ | refine oret ?_ | refine sem_ret ?_ | refine sem_seq ?_ | refine sreg1 ?_)
    · have hs1 : s < 2 ^ t.sites.length := by omega
      have hli := cool_set_list hG s (by omega)
      have hll := listB_len s
      have hlb := listB_lt hs1
      have hbr' := hbr s hs1
      refine sem_block ?_
      repeat' (first | ((first | refine o1 rfl ?_ | refine o0 rfl ?_); intro k hk; simp (disch := omega) only [ev0, sl_cells, simprocAttr, slOf]; refine hk _ _ ?_; clear hk k) | refine ono rfl ?_ | (apply ocall; (case he => (simp only [ev0, sl_cells, simprocAttr] <;> rfl)); (case hc => first | exact hli); (case ht => rfl); (case hg => rfl)) | ((first | refine osplitG rfl (fun h => ?_) (fun h => ?_) | refine osplitB rfl (fun h => ?_) (fun h => ?_)) <;> (fail_if_success (simp only [eq_self, reduceCtorEq] at h))) | refine onx ?_ | refine onb ?_ | refine sreg ?_ | refine qT rfl ?_ | refine qF rfl ?_ | refine scondT rfl ?_ | refine scondF rfl ?_ | refine ocondP rfl (fun h => ?_) (fun h => ?_) | refine ocondB rfl (fun h => ?_) (fun h => ?_) | refine scondP rfl (fun h => ?_) (fun h => ?_) | refine scond rfl (fun h => ?_) (fun h => ?_) | refine oskip ?_ | refine oskipb ?_ | refine oret ?_ | refine sem_ret ?_ | refine sem_seq ?_ | refine sreg1 ?_)
      refine sem_block ?_
      
      refine sem_loop (α := Nat) (fun i => ⟨[(1, I f), (2, .ptr 0 0 2 0 0), (7, .ptr 1 0 2 0 0), (8, B o.isSome), (9, I s), (10, .ptr 2 0 2 0 0), (26, I (2 ^ t.sites.length : Nat)), (27, I s), (34, .sl (listB s).length fun i => intCs ((listB s).getD i default)), (35, I (listB s).length), (36, I i)], [.row 25 0 2 [t.cs], .row 85 0 2 [bestCell t o], .row 85 0 2 [[I (costL t ((listB s).take i)), slOf intCs (listB s)]]]⟩) (fun i => i ≤ (listB s).length) (fun i => (listB s).length - i) 0 (Nat.zero_le _) ?_ ?_
      · (refine Le.same ?_; simp only [List.forall_mem_cons, List.forall_mem_nil, getE, selE, Nat.reduceBEq, List.not_mem_nil, false_implies, implies_true, and_true, true_and, and_self])
        simp [costL, sumL, slOf]
      · intro i hi
        have hbi := sumL_bound (c := 1000000) (l := ((listB s).take i).map (costOf t)) fun v hv => by
          obtain ⟨j, hj, rfl⟩ := List.mem_map.1 hv
          exact costOf_bound ok (hlb j (List.mem_of_mem_take hj))
        rw [List.length_map, List.length_take] at hbi
        change 0 ≤ costL t ((listB s).take i) ∧ costL t ((listB s).take i) ≤ _ at hbi
        repeat' (first | ((first | refine o1 rfl ?_ | refine o0 rfl ?_); intro k hk; simp (disch := omega) only [ev0, sl_cells, simprocAttr]; refine hk _ _ ?_; clear hk k) | refine ono rfl ?_ | ((first | refine osplitG rfl (fun h => ?_) (fun h => ?_) | refine osplitB rfl (fun h => ?_) (fun h => ?_)) <;> (fail_if_success (simp only [eq_self, reduceCtorEq] at h))) | refine onx ?_ | refine onb ?_ | refine sreg ?_ | refine qT rfl ?_ | refine qF rfl ?_ | refine scondT rfl ?_ | refine scondF rfl ?_ | refine ocondP rfl (fun h => ?_) (fun h => ?_) | refine ocondB rfl (fun h => ?_) (fun h => ?_) | refine scondP rfl (fun h => ?_) (fun h => ?_) | refine scond rfl (fun h => ?_) (fun h => ?_) | refine oskip ?_ | refine oskipb ?_ | refine oret ?_ | refine sem_ret ?_ | refine sem_seq ?_ | refine sreg1 ?_)
        · have hi' : i < (listB s).length := by omega
          have hwi := hlb ((listB s).getD i default) (by rw [getD_lt hi']; exact List.getElem_mem _)
          have hcb := costOf_bound ok hwi
          have htk : costL t ((listB s).take (i + 1)) = costL t ((listB s).take i) + costOf t ((listB s).getD i default) := by
            unfold costL
            rw [map_take_getD (costOf t) hi', sumL_append]
            simp [sumL]
          generalize hwv : (listB s).getD i default = v at *
          obtain ⟨n, rfl⟩ := Int.eq_ofNat_of_zero_le hwi.1
          have hnl : n < t.sites.length := by omega
          have hgo : costOf t (n : Int) = (t.sites.getD n default).cost := rfl
          rw [hgo] at hcb htk
          refine sem_block ?_
          repeat' (first | ((first | refine o1 rfl ?_ | refine o0 rfl ?_); intro k hk; simp (disch := omega) only [ev0, sl_cells, simprocAttr, slOf, intCs, hwv]; refine hk _ _ ?_; clear hk k) | refine ono rfl ?_ | ((first | refine osplitG rfl (fun h => ?_) (fun h => ?_) | refine osplitB rfl (fun h => ?_) (fun h => ?_)) <;> (fail_if_success (simp only [eq_self, reduceCtorEq] at h))) | refine onx ?_ | refine onb ?_ | refine sreg ?_ | refine qT rfl ?_ | refine qF rfl ?_ | refine scondT rfl ?_ | refine scondF rfl ?_ | refine ocondP rfl (fun h => ?_) (fun h => ?_) | refine ocondB rfl (fun h => ?_) (fun h => ?_) | refine scondP rfl (fun h => ?_) (fun h => ?_) | refine scond rfl (fun h => ?_) (fun h => ?_) | refine oskip ?_ | refine oskipb ?_ | refine oret ?_ | refine sem_ret ?_ | refine sem_seq ?_ | refine sreg1 ?_)
          ((refine sem_mgo 8 hmix (by kernel_rfl) ?_; simp only [nt]); (repeat' (first | ((first | apply mop | apply mop0); (case hg => rfl); (case hq => rfl); intro k hk; simp (disch := omega) only [ev0, sl_cells, simprocAttr, slOf, intCs, CoolTown.cs, CoolSite.cs, hwv]; refine hk _ _ rfl ?_; clear hk k) | (apply mno; (case hg => rfl)) | (apply mbox; (case hx => (simp only [wv, simprocAttr] <;> rfl)); (case hg => rfl); (case hall => rfl); (case hr => rfl); simp only [nm, Nat.reduceAdd]) | (apply mbldS; (case hb => (simp (disch := omega) only [ev0, sl_cells, simprocAttr] <;> rfl)); (case hg => rfl); (case hr => rfl); simp only [nm, Nat.reduceAdd]) | ((first | (apply msto (q := 0); (case hq => rfl)) | (apply msto (q := 1); (case hq => rfl)) | (apply msto (q := 2); (case hq => rfl)) | (apply msto (q := 3); (case hq => rfl))); (case hx => (simp only [wv, simprocAttr] <;> rfl)); (case haddr => (simp only [wv, simprocAttr] <;> rfl)); (case hg => rfl); (case hl1 => rfl); (case hl2 => rfl); (case hok => rfl); (case hr => rfl); simp only [nm, Nat.reduceAdd]) | (apply mnil; simp only [SlotR.fin, ns]) | (refine msplit rfl (fun h => ?_) (fun h => ?_) <;> simp only [h] <;> (try simp only [nb] at h)))) <;> (repeat' (first | ((first | refine o1 rfl ?_ | refine o0 rfl ?_); intro k hk; simp (disch := omega) only [ev0, sl_cells, simprocAttr, slOf, intCs, CoolTown.cs, CoolSite.cs, hwv]; refine hk _ _ ?_; clear hk k) | refine ono rfl ?_ | ((first | refine osplitG rfl (fun h => ?_) (fun h => ?_) | refine osplitB rfl (fun h => ?_) (fun h => ?_)) <;> (fail_if_success (simp only [eq_self, reduceCtorEq] at h))) | refine onx ?_ | refine onb ?_ | refine sreg ?_ | refine qT rfl ?_ | refine qF rfl ?_ | refine scondT rfl ?_ | refine scondF rfl ?_ | refine ocondP rfl (fun h => ?_) (fun h => ?_) | refine ocondB rfl (fun h => ?_) (fun h => ?_) | refine scondP rfl (fun h => ?_) (fun h => ?_) | refine scond rfl (fun h => ?_) (fun h => ?_) | refine oskip ?_ | refine oskipb ?_ | refine oret ?_ | refine sem_ret ?_ | refine sem_seq ?_ | refine sreg1 ?_)))
          rw [← htk]
          refine onil (lnext (i + 1) (by omega) (by omega) ?_)
          (refine Le.same ?_; simp only [List.forall_mem_cons, List.forall_mem_nil, getE, selE, Nat.reduceBEq, List.not_mem_nil, false_implies, implies_true, and_true, true_and, and_self])
          simp [CoolTown.cs, slOf]
        · have hi' : i = (listB s).length := by omega
          subst hi'
          rw [List.take_length]
          (refine sem_exit ?_; change sem _ _ _ _ _)
          cases o with
          | none =>
            simp only [bestCell]
            repeat' (first | ((first | refine o1 rfl ?_ | refine o0 rfl ?_); intro k hk; simp (disch := omega) only [ev0, sl_cells, simprocAttr]; refine hk _ _ ?_; clear hk k) | refine ono rfl ?_ | ((first | refine osplitG rfl (fun h => ?_) (fun h => ?_) | refine osplitB rfl (fun h => ?_) (fun h => ?_)) <;> (fail_if_success (simp only [eq_self, reduceCtorEq] at h))) | refine onx ?_ | refine onb ?_ | refine sreg ?_ | refine qT rfl ?_ | refine qF rfl ?_ | refine scondT rfl ?_ | refine scondF rfl ?_ | refine ocondP rfl (fun h => ?_) (fun h => ?_) | refine ocondB rfl (fun h => ?_) (fun h => ?_) | refine scondP rfl (fun h => ?_) (fun h => ?_) | refine scond rfl (fun h => ?_) (fun h => ?_) | refine oskip ?_ | refine oskipb ?_ | refine oret ?_ | refine sem_ret ?_ | refine sem_seq ?_ | refine sreg1 ?_)
            refine semL_acall rfl (by exact hbu s ([I 0, .nilsl]) [I (costL t (listB s)), slOf intCs (listB s)] rfl) fun ae μ hr => ?_
            obtain ⟨rfl, rfl⟩ := hr
            change semL _ _ _ ⟨(_, _) :: _, _⟩ _
            repeat' (first | ((first | refine o1 rfl ?_ | refine o0 rfl ?_); intro k hk; simp (disch := omega) only [ev0, sl_cells, simprocAttr]; refine hk _ _ ?_; clear hk k) | refine ono rfl ?_ | ((first | refine osplitG rfl (fun h => ?_) (fun h => ?_) | refine osplitB rfl (fun h => ?_) (fun h => ?_)) <;> (fail_if_success (simp only [eq_self, reduceCtorEq] at h))) | refine onx ?_ | refine onb ?_ | refine sreg ?_ | refine qT rfl ?_ | refine qF rfl ?_ | refine scondT rfl ?_ | refine scondF rfl ?_ | refine ocondP rfl (fun h => ?_) (fun h => ?_) | refine ocondB rfl (fun h => ?_) (fun h => ?_) | refine scondP rfl (fun h => ?_) (fun h => ?_) | refine scond rfl (fun h => ?_) (fun h => ?_) | refine oskip ?_ | refine oskipb ?_ | refine oret ?_ | refine sem_ret ?_ | refine sem_seq ?_ | refine sreg1 ?_)
            refine semL_acall rfl (by exact hbr' _ rfl rfl) fun ae μ hr => ?_
            obtain ⟨es', ⟨rfl, hv'⟩, rfl⟩ := hr
            cases hbk : brk t f s t.houses.length with
            | none =>
              rw [hbk] at hbs
              change semL _ _ _ ⟨(_, .tup [I 0, B false]) :: _, _⟩ _
              simp only [List.set_cons_succ, List.set_cons_zero]
              repeat' (first | ((first | refine o1 rfl ?_ | refine o0 rfl ?_); intro k hk; simp (disch := omega) only [ev0, sl_cells, simprocAttr]; refine hk _ _ ?_; clear hk k) | refine ono rfl ?_ | ((first | refine osplitG rfl (fun h => ?_) (fun h => ?_) | refine osplitB rfl (fun h => ?_) (fun h => ?_)) <;> (fail_if_success (simp only [eq_self, reduceCtorEq] at h))) | refine onx ?_ | refine onb ?_ | refine sreg ?_ | refine qT rfl ?_ | refine qF rfl ?_ | refine scondT rfl ?_ | refine scondF rfl ?_ | refine ocondP rfl (fun h => ?_) (fun h => ?_) | refine ocondB rfl (fun h => ?_) (fun h => ?_) | refine scondP rfl (fun h => ?_) (fun h => ?_) | refine scond rfl (fun h => ?_) (fun h => ?_) | refine oskip ?_ | refine oskipb ?_ | refine oret ?_ | refine sem_ret ?_ | refine sem_seq ?_ | refine sreg1 ?_)
              refine onil (lnext (s + 1) (by omega) (by omega) ?_)
              rw [hbs, if_pos rfl]
              (refine Le.drop ?_ rfl (by simp) rfl (by simp only [refM, refO, List.all_cons, List.all_nil, Bool.and_true, Bool.true_and, CoolTown.cs, slOf, refL, refA]; first | done | rfl) ; simp only [List.forall_mem_cons, List.forall_mem_nil, getE, selE, Nat.reduceBEq, List.not_mem_nil, false_implies, implies_true, and_true, true_and, and_self])
              simp [bestCell, chS, slOf]
            | some y =>
              rw [hbk] at hbs
              change semL _ _ _ ⟨(_, .tup [I y, B true]) :: _, _⟩ _
              simp only [List.set_cons_succ, List.set_cons_zero]
              repeat' (first | ((first | refine o1 rfl ?_ | refine o0 rfl ?_); intro k hk; simp (disch := omega) only [ev0, sl_cells, simprocAttr]; refine hk _ _ ?_; clear hk k) | refine ono rfl ?_ | ((first | refine osplitG rfl (fun h => ?_) (fun h => ?_) | refine osplitB rfl (fun h => ?_) (fun h => ?_)) <;> (fail_if_success (simp only [eq_self, reduceCtorEq] at h))) | refine onx ?_ | refine onb ?_ | refine sreg ?_ | refine qT rfl ?_ | refine qF rfl ?_ | refine scondT rfl ?_ | refine scondF rfl ?_ | refine ocondP rfl (fun h => ?_) (fun h => ?_) | refine ocondB rfl (fun h => ?_) (fun h => ?_) | refine scondP rfl (fun h => ?_) (fun h => ?_) | refine scond rfl (fun h => ?_) (fun h => ?_) | refine oskip ?_ | refine oskipb ?_ | refine oret ?_ | refine sem_ret ?_ | refine sem_seq ?_ | refine sreg1 ?_)
              refine onil (lnext (s + 1) (by omega) (by omega) ?_)
              rw [hbs, if_neg (by simp)]
              (refine Le.drop ?_ rfl (by simp) rfl (by simp only [refM, refO, List.all_cons, List.all_nil, Bool.and_true, Bool.true_and, CoolTown.cs, slOf, refL, refA]; first | done | rfl) ; simp only [List.forall_mem_cons, List.forall_mem_nil, getE, selE, Nat.reduceBEq, List.not_mem_nil, false_implies, implies_true, and_true, true_and, and_self])
              simp [bestCell, chS, slOf]
          | some b =>
            have hcb := choice_before hG (chS t s) (chS t b) (by unfold chS; simp only; omega) (by unfold chS; have := listB_len b; simp only; omega)
            simp only [bestCell]
            cases hbf : beforeC (chS t s) (chS t b) with
            | false =>
              rw [hbf] at hcb
              have hbs' : bestF t f (s + 1) = some b := by rw [hbs]; simp only [hbf]; rw [if_neg (by simp)]
              repeat' (first | ((first | refine o1 rfl ?_ | refine o0 rfl ?_); intro k hk; simp (disch := omega) only [ev0, sl_cells, simprocAttr]; refine hk _ _ ?_; clear hk k) | refine ono rfl ?_ | (apply ocall; (case he => (simp only [ev0, sl_cells, simprocAttr] <;> rfl)); (case hc => first | exact hcb); (case ht => rfl); (case hg => rfl)) | ((first | refine osplitG rfl (fun h => ?_) (fun h => ?_) | refine osplitB rfl (fun h => ?_) (fun h => ?_)) <;> (fail_if_success (simp only [eq_self, reduceCtorEq] at h))) | refine onx ?_ | refine onb ?_ | refine sreg ?_ | refine qT rfl ?_ | refine qF rfl ?_ | refine scondT rfl ?_ | refine scondF rfl ?_ | refine ocondP rfl (fun h => ?_) (fun h => ?_) | refine ocondB rfl (fun h => ?_) (fun h => ?_) | refine scondP rfl (fun h => ?_) (fun h => ?_) | refine scond rfl (fun h => ?_) (fun h => ?_) | refine oskip ?_ | refine oskipb ?_ | refine oret ?_ | refine sem_ret ?_ | refine sem_seq ?_ | refine sreg1 ?_)
              (refine sem_exit ?_; change sem _ _ _ _ _)
              repeat' (first | ((first | refine o1 rfl ?_ | refine o0 rfl ?_); intro k hk; simp (disch := omega) only [ev0, sl_cells, simprocAttr]; refine hk _ _ ?_; clear hk k) | refine ono rfl ?_ | ((first | refine osplitG rfl (fun h => ?_) (fun h => ?_) | refine osplitB rfl (fun h => ?_) (fun h => ?_)) <;> (fail_if_success (simp only [eq_self, reduceCtorEq] at h))) | refine onx ?_ | refine onb ?_ | refine sreg ?_ | refine qT rfl ?_ | refine qF rfl ?_ | refine scondT rfl ?_ | refine scondF rfl ?_ | refine ocondP rfl (fun h => ?_) (fun h => ?_) | refine ocondB rfl (fun h => ?_) (fun h => ?_) | refine scondP rfl (fun h => ?_) (fun h => ?_) | refine scond rfl (fun h => ?_) (fun h => ?_) | refine oskip ?_ | refine oskipb ?_ | refine oret ?_ | refine sem_ret ?_ | refine sem_seq ?_ | refine sreg1 ?_)
              refine onil (lnext (s + 1) (by omega) (by omega) ?_)
              rw [hbs']
              (refine Le.drop ?_ rfl (by simp) rfl (by simp only [refM, refO, List.all_cons, List.all_nil, Bool.and_true, Bool.true_and, CoolTown.cs, slOf, refL, refA]; first | done | rfl) ; simp only [List.forall_mem_cons, List.forall_mem_nil, getE, selE, Nat.reduceBEq, List.not_mem_nil, false_implies, implies_true, and_true, true_and, and_self])
              simp [bestCell, chS, slOf]
            | true =>
              rw [hbf] at hcb
              repeat' (first | ((first | refine o1 rfl ?_ | refine o0 rfl ?_); intro k hk; simp (disch := omega) only [ev0, sl_cells, simprocAttr]; refine hk _ _ ?_; clear hk k) | refine ono rfl ?_ | (apply ocall; (case he => (simp only [ev0, sl_cells, simprocAttr] <;> rfl)); (case hc => first | exact hcb); (case ht => rfl); (case hg => rfl)) | ((first | refine osplitG rfl (fun h => ?_) (fun h => ?_) | refine osplitB rfl (fun h => ?_) (fun h => ?_)) <;> (fail_if_success (simp only [eq_self, reduceCtorEq] at h))) | refine onx ?_ | refine onb ?_ | refine sreg ?_ | refine qT rfl ?_ | refine qF rfl ?_ | refine scondT rfl ?_ | refine scondF rfl ?_ | refine ocondP rfl (fun h => ?_) (fun h => ?_) | refine ocondB rfl (fun h => ?_) (fun h => ?_) | refine scondP rfl (fun h => ?_) (fun h => ?_) | refine scond rfl (fun h => ?_) (fun h => ?_) | refine oskip ?_ | refine oskipb ?_ | refine oret ?_ | refine sem_ret ?_ | refine sem_seq ?_ | refine sreg1 ?_)
              refine semL_acall rfl (by exact hbu s (chCs (chS t b)) [I (costL t (listB s)), slOf intCs (listB s)] rfl) fun ae μ hr => ?_
              obtain ⟨rfl, rfl⟩ := hr
              change semL _ _ _ ⟨(_, _) :: _, _⟩ _
              repeat' (first | ((first | refine o1 rfl ?_ | refine o0 rfl ?_); intro k hk; simp (disch := omega) only [ev0, sl_cells, simprocAttr]; refine hk _ _ ?_; clear hk k) | refine ono rfl ?_ | ((first | refine osplitG rfl (fun h => ?_) (fun h => ?_) | refine osplitB rfl (fun h => ?_) (fun h => ?_)) <;> (fail_if_success (simp only [eq_self, reduceCtorEq] at h))) | refine onx ?_ | refine onb ?_ | refine sreg ?_ | refine qT rfl ?_ | refine qF rfl ?_ | refine scondT rfl ?_ | refine scondF rfl ?_ | refine ocondP rfl (fun h => ?_) (fun h => ?_) | refine ocondB rfl (fun h => ?_) (fun h => ?_) | refine scondP rfl (fun h => ?_) (fun h => ?_) | refine scond rfl (fun h => ?_) (fun h => ?_) | refine oskip ?_ | refine oskipb ?_ | refine oret ?_ | refine sem_ret ?_ | refine sem_seq ?_ | refine sreg1 ?_)
              refine semL_acall rfl (by exact hbr' _ rfl rfl) fun ae μ hr => ?_
              obtain ⟨es', ⟨rfl, hv'⟩, rfl⟩ := hr
              cases hbk : brk t f s t.houses.length with
              | none =>
                have hbs' : bestF t f (s + 1) = some s := by rw [hbs]; simp only [hbf, hbk]; rw [if_pos (by simp)]
                change semL _ _ _ ⟨(_, .tup [I 0, B false]) :: _, _⟩ _
                simp only [List.set_cons_succ, List.set_cons_zero]
                repeat' (first | ((first | refine o1 rfl ?_ | refine o0 rfl ?_); intro k hk; simp (disch := omega) only [ev0, sl_cells, simprocAttr]; refine hk _ _ ?_; clear hk k) | refine ono rfl ?_ | ((first | refine osplitG rfl (fun h => ?_) (fun h => ?_) | refine osplitB rfl (fun h => ?_) (fun h => ?_)) <;> (fail_if_success (simp only [eq_self, reduceCtorEq] at h))) | refine onx ?_ | refine onb ?_ | refine sreg ?_ | refine qT rfl ?_ | refine qF rfl ?_ | refine scondT rfl ?_ | refine scondF rfl ?_ | refine ocondP rfl (fun h => ?_) (fun h => ?_) | refine ocondB rfl (fun h => ?_) (fun h => ?_) | refine scondP rfl (fun h => ?_) (fun h => ?_) | refine scond rfl (fun h => ?_) (fun h => ?_) | refine oskip ?_ | refine oskipb ?_ | refine oret ?_ | refine sem_ret ?_ | refine sem_seq ?_ | refine sreg1 ?_)
                refine onil (lnext (s + 1) (by omega) (by omega) ?_)
                rw [hbs']
                (refine Le.drop ?_ rfl (by simp) rfl (by simp only [refM, refO, List.all_cons, List.all_nil, Bool.and_true, Bool.true_and, CoolTown.cs, slOf, refL, refA]; first | done | rfl) ; simp only [List.forall_mem_cons, List.forall_mem_nil, getE, selE, Nat.reduceBEq, List.not_mem_nil, false_implies, implies_true, and_true, true_and, and_self])
                simp [bestCell, chS, slOf]
              | some y =>
                have hbs' : bestF t f (s + 1) = some b := by rw [hbs]; simp only [hbk]; rw [if_neg (by simp)]
                change semL _ _ _ ⟨(_, .tup [I y, B true]) :: _, _⟩ _
                simp only [List.set_cons_succ, List.set_cons_zero]
                repeat' (first | ((first | refine o1 rfl ?_ | refine o0 rfl ?_); intro k hk; simp (disch := omega) only [ev0, sl_cells, simprocAttr]; refine hk _ _ ?_; clear hk k) | refine ono rfl ?_ | ((first | refine osplitG rfl (fun h => ?_) (fun h => ?_) | refine osplitB rfl (fun h => ?_) (fun h => ?_)) <;> (fail_if_success (simp only [eq_self, reduceCtorEq] at h))) | refine onx ?_ | refine onb ?_ | refine sreg ?_ | refine qT rfl ?_ | refine qF rfl ?_ | refine scondT rfl ?_ | refine scondF rfl ?_ | refine ocondP rfl (fun h => ?_) (fun h => ?_) | refine ocondB rfl (fun h => ?_) (fun h => ?_) | refine scondP rfl (fun h => ?_) (fun h => ?_) | refine scond rfl (fun h => ?_) (fun h => ?_) | refine oskip ?_ | refine oskipb ?_ | refine oret ?_ | refine sem_ret ?_ | refine sem_seq ?_ | refine sreg1 ?_)
                refine onil (lnext (s + 1) (by omega) (by omega) ?_)
                rw [hbs']
                (refine Le.drop ?_ rfl (by simp) rfl (by simp only [refM, refO, List.all_cons, List.all_nil, Bool.and_true, Bool.true_and, CoolTown.cs, slOf, refL, refA]; first | done | rfl) ; simp only [List.forall_mem_cons, List.forall_mem_nil, getE, selE, Nat.reduceBEq, List.not_mem_nil, false_implies, implies_true, and_true, true_and, and_self])
                simp [bestCell, chS, slOf]
    · have hs1 : s = 2 ^ t.sites.length := by omega
      subst hs1
      rw [hO]
      (refine sem_exit ?_; change sem _ _ _ _ _)
      cases o with
      | none =>
        simp only [bestCell, bestV]
        repeat' (first | ((first | refine o1 rfl ?_ | refine o0 rfl ?_); intro k hk; simp (disch := omega) only [ev0, sl_cells, simprocAttr]; refine hk _ _ ?_; clear hk k) | refine ono rfl ?_ | ((first | refine osplitG rfl (fun h => ?_) (fun h => ?_) | refine osplitB rfl (fun h => ?_) (fun h => ?_)) <;> (fail_if_success (simp only [eq_self, reduceCtorEq] at h))) | refine onx ?_ | refine onb ?_ | refine sreg ?_ | refine qT rfl ?_ | refine qF rfl ?_ | refine scondT rfl ?_ | refine scondF rfl ?_ | refine ocondP rfl (fun h => ?_) (fun h => ?_) | refine ocondB rfl (fun h => ?_) (fun h => ?_) | refine scondP rfl (fun h => ?_) (fun h => ?_) | refine scond rfl (fun h => ?_) (fun h => ?_) | refine oskip ?_ | refine oskipb ?_ | refine oret ?_ | refine sem_ret ?_ | refine sem_seq ?_ | refine sreg1 ?_)
        exact ⟨_, rfl, _, rfl, tree_eq rfl rfl⟩
      | some b =>
        simp only [bestCell, bestV]
        repeat' (first | ((first | refine o1 rfl ?_ | refine o0 rfl ?_); intro k hk; simp (disch := omega) only [ev0, sl_cells, simprocAttr]; refine hk _ _ ?_; clear hk k) | refine ono rfl ?_ | ((first | refine osplitG rfl (fun h => ?_) (fun h => ?_) | refine osplitB rfl (fun h => ?_) (fun h => ?_)) <;> (fail_if_success (simp only [eq_self, reduceCtorEq] at h))) | refine onx ?_ | refine onb ?_ | refine sreg ?_ | refine qT rfl ?_ | refine qF rfl ?_ | refine scondT rfl ?_ | refine scondF rfl ?_ | refine ocondP rfl (fun h => ?_) (fun h => ?_) | refine ocondB rfl (fun h => ?_) (fun h => ?_) | refine scondP rfl (fun h => ?_) (fun h => ?_) | refine scond rfl (fun h => ?_) (fun h => ?_) | refine oskip ?_ | refine oskipb ?_ | refine oret ?_ | refine sem_ret ?_ | refine sem_seq ?_ | refine sreg1 ?_)
        ((refine sem_mgo 5 hmix (by kernel_rfl) ?_; simp only [nt]); (repeat' (first | ((first | apply mop | apply mop0); (case hg => rfl); (case hq => rfl); intro k hk; simp (disch := omega) only [ev0, sl_cells, simprocAttr]; refine hk _ _ rfl ?_; clear hk k) | (apply mno; (case hg => rfl)) | (apply mbox; (case hx => (simp only [wv, simprocAttr] <;> rfl)); (case hg => rfl); (case hall => rfl); (case hr => rfl); simp only [nm, Nat.reduceAdd]) | (apply mbldS; (case hb => (simp (disch := omega) only [ev0, sl_cells, simprocAttr] <;> rfl)); (case hg => rfl); (case hr => rfl); simp only [nm, Nat.reduceAdd]) | ((first | (apply msto (q := 0); (case hq => rfl)) | (apply msto (q := 1); (case hq => rfl)) | (apply msto (q := 2); (case hq => rfl)) | (apply msto (q := 3); (case hq => rfl))); (case hx => (simp only [wv, simprocAttr] <;> rfl)); (case haddr => (simp only [wv, simprocAttr] <;> rfl)); (case hg => rfl); (case hl1 => rfl); (case hl2 => rfl); (case hok => rfl); (case hr => rfl); simp only [nm, Nat.reduceAdd]) | (apply mnil; simp only [SlotR.fin, ns]) | (refine msplit rfl (fun h => ?_) (fun h => ?_) <;> simp only [h] <;> (try simp only [nb] at h)))) <;> (repeat' (first | ((first | refine o1 rfl ?_ | refine o0 rfl ?_); intro k hk; simp (disch := omega) only [ev0, sl_cells, simprocAttr]; refine hk _ _ ?_; clear hk k) | refine ono rfl ?_ | ((first | refine osplitG rfl (fun h => ?_) (fun h => ?_) | refine osplitB rfl (fun h => ?_) (fun h => ?_)) <;> (fail_if_success (simp only [eq_self, reduceCtorEq] at h))) | refine onx ?_ | refine onb ?_ | refine sreg ?_ | refine qT rfl ?_ | refine qF rfl ?_ | refine scondT rfl ?_ | refine scondF rfl ?_ | refine ocondP rfl (fun h => ?_) (fun h => ?_) | refine ocondB rfl (fun h => ?_) (fun h => ?_) | refine scondP rfl (fun h => ?_) (fun h => ?_) | refine scond rfl (fun h => ?_) (fun h => ?_) | refine oskip ?_ | refine oskipb ?_ | refine oret ?_ | refine sem_ret ?_ | refine sem_seq ?_ | refine sreg1 ?_)))
        exact ⟨_, rfl, _, rfl, tree_eq rfl rfl⟩
end Go.Proofs.Ytnempffajbdneaa

/- The floor. -/
set_option linter.unusedVariables false
set_option linter.unusedSimpArgs false
set_option maxRecDepth 8000
set_option maxHeartbeats 2000000
namespace Go.Av
section rules
variable {K : Ctx} {μ : List AObj} {C : List (Nat × AV) → List SlotR → Prop}
theorem mcallA {j : Nat} {sl : List SlotR} {env : List (Nat × AV)} {g : Option (Nat × Bool)} {d : Nat} {f : Nat} {args : List SX} {aa : List AV} {x : AV} {l : List SOper} (he : args.map (evX env) = aa) (hc : ∀ es, ACalls K f aa (μ ++ es) fun ae ν => ae = .ret x ∧ ν = μ ++ es)
    (hg : wantA g env = some true) (hr : refA μ.length x = true) (h : MGoC K μ C (j + 1) sl l ((d, x) :: env)) : MGoC K μ C j sl (⟨some d, g, .call f args⟩ :: l) env := by
  subst he
  obtain ⟨xs, env', sl', h1, h2⟩ := h
  exact ⟨x :: xs, env', sl', .op (.inr (.inr ⟨hg, f, args, rfl, hc⟩)) hr h1, h2⟩
theorem any_eff1L {F : Fcx} {Q : AExit → St → Prop} {l la lb lc : List SOper} {pre : List (List Nat)} {env : List (Nat × AV)} {ν1 ν2 : List AObj} (m p i0 k0 : Nat) {d0 e0 f : Nat} {c0 x v : AV} {y : SX} {args : List AV} (hok : winOK l pre 0 m = true) (he : eff1OK l pre m p i0 k0 = true)
    (hb0 : opAt l i0 = ⟨some d0, none, .box e0 (.c c0)⟩) (hc0 : leafC c0 = true) (hk0 : opAt l k0 = ⟨none, none, .store 1 (.t d0) y⟩)
    (hla : (fake1 l p i0 k0 x (.ptr μ.length 1 1 0 0)).take p = la) (hlb : ((fake1 l p i0 k0 x (.ptr μ.length 1 1 0 0)).take k0).drop p = lb) (hlc : ((fake1 l p i0 k0 x (.ptr μ.length 1 1 0 0)).take m).drop k0 = lc)
    {env' envp envk : List (Nat × AV)} {xa xb xc : List AV} (ha1 : qval la env μ = some (xa, envp)) (hb1 : qval lb envp μ = some (xb, envk)) (hc1 : qval lc envk μ = some (xc, env'))
    (hcl : callee (opAt l p).op envp = some (f, args)) (hl1 : ν1.length = μ.length)
    (hc : ∀ o, o = .row e0 0 1 [] ∨ o = .row e0 1 1 [[c0]] → ACalls K f args (μ ++ [o]) fun ae ν => ae = .ret x ∧ ν = ν1 ++ [o] ++ ν2)
    (hv : evX envk y = v) (hz1 : cellsOf v = [v]) (hz2 : okCell (ν1 ++ [.row e0 1 1 [[c0]]] ++ ν2) v = true) (hdk : getE envk d0 = .ptr μ.length 1 1 0 0)
    (h : AnyC K F Q l pre m ⟨env', ν1 ++ [.row e0 1 1 [[v]]] ++ ν2⟩) : AnyC K F Q l pre 0 ⟨env, μ⟩ := by
  subst hla hlb hlc hv
  exact any_eff1 m p i0 k0 hok he hb0 hc0 hk0 (qval_sound ha1) (qval_sound hb1) (qval_sound hc1) hcl hl1 hc hz1 hz2 hdk h
end rules
end Go.Av
namespace Go.Tk
open Go Go.Av
def allS (t : CoolTown) : Nat := 2 ^ t.sites.length - 1
/-- Whether the n sites that give a house most keep it level. -/
def enough (t : CoolTown) (f n y : Nat) : Bool := decide ((t.houses.getD y default).need.high ≤ sumL (((coldsL t y (allS t)).take n).drop f))
def floorB (t : CoolTown) (f n : Nat) : Bool := (List.range t.houses.length).all (enough t f n)
def floorF (t : CoolTown) (f : Nat) : Option Nat := (List.range (t.sites.length + 1)).find? (floorB t f)
def floorV : Option Nat → AV
  | some n => .tup [I n, I 0]
  | none => .tup [I 0, I 5]
/-- The memory of a search for the floor. -/
abbrev fM0 (t : CoolTown) (f : Nat) : List AObj := [.row 25 0 2 [t.cs], .row 3 0 1 [[I f]], .row 90 1 1 [[.ptr 5 0 4 0 0]], .row 25 0 2 [t.cs], .map [], .row 96 0 4 [[slOf CoolHouse.cs t.houses, slOf CoolSite.cs t.sites, I (allS t), .mp 4]]]
abbrev fM (t : CoolTown) (f n : Nat) : List AObj := [.row 25 0 2 [t.cs], .row 3 0 1 [[I f]], .row 90 1 1 [[.ptr 5 0 4 0 0]], .row 25 0 2 [t.cs], .map [], .row 96 0 4 [[slOf CoolHouse.cs t.houses, slOf CoolSite.cs t.sites, I (allS t), .mp 4]], .row 3 0 1 [[I n]]]
theorem allS_bit {t : CoolTown} {j : Nat} : (allS t).testBit j = decide (j < t.sites.length) := by
  unfold allS
  exact Nat.testBit_two_pow_sub_one t.sites.length j
theorem all_list {t : CoolTown} (ht : t.ok) : listB (allS t) = sitesL t.sites.length := by
  refine listB_ext ht.2.1.2 ?_ (fun i hi => ?_) fun j => ?_
  · unfold sitesL
    exact List.pairwise_map.2 (List.pairwise_lt_range.imp fun h => by omega)
  · obtain ⟨k, hk, rfl⟩ := List.mem_map.1 hi
    have := List.mem_range.1 hk
    omega
  · rw [allS_bit, decide_eq_true_iff]
    unfold sitesL
    rw [List.mem_map]
    constructor
    · intro h; exact ⟨j, List.mem_range.2 h, rfl⟩
    · rintro ⟨k, hk, e⟩
      have := List.mem_range.1 hk
      omega
theorem all_len {t : CoolTown} (ht : t.ok) (y : Nat) : (coldsL t y (allS t)).length = t.sites.length := by
  unfold coldsL
  rw [(sortD_perm _).length_eq, List.length_map, all_list ht, sitesL_len]
theorem allS_lt {t : CoolTown} : allS t < 2 ^ t.sites.length := by
  have := Nat.two_pow_pos t.sites.length
  unfold allS
  omega
end Go.Tk
namespace Go.Proofs.Ytnempffajbdneaa
open Go Go.Av Go.Tk
attribute [local irreducible] Holds sem semL ACalls FnIs
theorem sl_cut {l : List Int} {n k : Nat} (hn : n ≤ l.length) (hk : k ≤ n) : ∀ S w v, VT S w (.sl (n - k) fun j => intCs (l.getD (k + j) default)) v → VT S w (slOf intCs ((l.take n).drop k)) v := fun S w v h => by
  have hl : ((l.take n).drop k).length = n - k := by rw [List.length_drop, List.length_take]; omega
  unfold slOf
  rw [hl]
  refine h.sl_congr fun j hj => ?_
  rw [getD_lt (show j < ((l.take n).drop k).length by rw [hl]; exact hj), getD_lt (show k + j < l.length by omega), List.getElem_drop, List.getElem_take]
section
variable {K : Ctx} (hP : K.P = Try.prog) (hGK : ∀ w w', K.G w → RowKit.Below w.heap.size w w' → K.G w')
include hP hGK
theorem Floor_1 (t : CoolTown) (ht : t.ok) (f n : Nat) (hf : f ≤ 3) (hn : n ≤ t.sites.length) (y : Nat) (hy : y < t.houses.length) :
    ACalls K F.cool_Floor_1 [I y, .ptr 2 1 1 0 0, .ptr 6 0 1 0 0, .ptr 1 0 1 0 0, .ptr 0 0 2 0 0] (fM t f n) fun ae ν => ae = .ret (B (enough t f n y)) ∧ ν = fM t f n := by
  have hco := fun es2 => (bought_at (R := fun ae es' => ae = .ret (slOf intCs (coldsL t y (allS t))) ∧ es' = []) ((bought_colds hP hGK t ht (allS t) [] (fun p hp => by cases hp) y hy (allS t) allS_lt).imp fun ae ν hr => ⟨[], ⟨hr.1, rfl⟩, hr.2⟩) (fun ae es' hr => ⟨fun p hp => (by rw [hr.2] at hp; cases hp), fun g => by rw [hr.1]; rfl⟩) (fun p hp => by cases hp)
    (μ2 := fM t f n ++ es2) (args2 := [.ptr 5 0 4 0 0, I y, I (allS t)]) (p := 4) (q := 5) (by omega) rfl rfl rfl rfl).imp (R' := fun ae ν => ae = .ret (slOf intCs (coldsL t y (allS t))) ∧ ν = fM t f n ++ es2) fun ae ν hr => by
      obtain ⟨es', ⟨r1, rfl⟩, rfl⟩ := hr
      exact ⟨r1, rfl⟩
  have hcl := all_len ht y
  have hcb : ∀ x ∈ coldsL t y (allS t), 0 ≤ x ∧ x ≤ 1000000 := fun x hx => by
    obtain ⟨i, hi, rfl⟩ := List.mem_map.1 ((sortD_perm _).mem_iff.1 hx)
    exact lowOf_bound ht hy (listB_lt allS_lt i hi)
  have hns := ht.2.1
  obtain ⟨k, hk1, hk2, hk3⟩ : ∃ k : Nat, mnmx false (f : Int) (n : Int) = (k : Int) ∧ k ≤ n ∧ ((coldsL t y (allS t)).take n).drop k = ((coldsL t y (allS t)).take n).drop f := by
    rcases Nat.le_total f n with h | h
    · refine ⟨f, ?_, h, rfl⟩
      simp only [mnmx, Bool.false_eq_true, if_false]; split <;> omega
    · refine ⟨n, ?_, Nat.le_refl _, ?_⟩
      · simp only [mnmx, Bool.false_eq_true, if_false]; split <;> omega
      · rw [List.drop_eq_nil_of_le (by rw [List.length_take]; omega), List.drop_eq_nil_of_le (by rw [List.length_take]; omega)]
  have hen : enough t f n y = decide ((t.houses.getD y default).need.high ≤ sumL (((coldsL t y (allS t)).take n).drop k)) := by rw [hk3]; rfl
  rw [hen]
  have hsum : Holds K.P K.G F.cool_sum [.sl (n - k) fun j => intCs ((coldsL t y (allS t)).getD (k + j) default)] (I (sumL (((coldsL t y (allS t)).take n).drop k))) := by
    rw [hP]
    exact (cool_sum hGK (((coldsL t y (allS t)).take n).drop k) (by rw [List.length_drop, List.length_take]; omega) fun x hx => hcb x (List.mem_of_mem_take (List.mem_of_mem_drop hx))).conv rfl fun q x' x0 h1 h2 S w v hv => by
      match q, h1, h2 with
      | 0, h1, h2 => cases h1; cases h2; exact sl_cut (by omega) hk2 _ _ _ hv
      | q + 1, h1, h2 => simp at h1
  clear hk3 hen
  generalize coldsL t y (allS t) = L at *
  obtain ⟨P, w0, S0, G, hG0⟩ := K
  simp only at hP hGK
  subst hP
  refine acalls_of_sem fn_cool_Floor_1 (by simp) fun D => ?_
  unfold c_cool_Floor_1 cval enterEnv
  simp only [List.zipIdx_cons, List.zipIdx_nil, List.map_cons, List.map_nil, Nat.zero_add, Nat.reduceAdd, fM]
  repeat' (first | ((first | refine o1 rfl ?_ | refine o0 rfl ?_); intro k hk; simp (disch := omega) only [ev0, sl_cells, simprocAttr]; refine hk _ _ ?_; clear hk k) | refine ono rfl ?_ | ((first | refine osplitG rfl (fun h => ?_) (fun h => ?_) | refine osplitB rfl (fun h => ?_) (fun h => ?_)) <;> (fail_if_success (simp only [eq_self, reduceCtorEq] at h))) | refine onx ?_ | refine onb ?_ | refine sreg ?_ | refine qT rfl ?_ | refine qF rfl ?_ | refine scondT rfl ?_ | refine scondF rfl ?_ | refine ocondP rfl (fun h => ?_) (fun h => ?_) | refine ocondB rfl (fun h => ?_) (fun h => ?_) | refine scondP rfl (fun h => ?_) (fun h => ?_) | refine scond rfl (fun h => ?_) (fun h => ?_) | refine oskip ?_ | refine oskipb ?_ | refine oret ?_ | refine sem_ret ?_ | refine sem_seq ?_ | refine sreg1 ?_)
  ((refine sem_mgo 8 hmix (by kernel_rfl) ?_; simp only [nt]); (repeat' (first | ((first | apply mop | apply mop0); (case hg => rfl); (case hq => rfl); intro k hk; simp (disch := omega) only [ev0, sl_cells, simprocAttr]; refine hk _ _ rfl ?_; clear hk k) | (apply mno; (case hg => rfl)) | (apply mbox; (case hx => (simp only [wv, simprocAttr] <;> rfl)); (case hg => rfl); (case hall => rfl); (case hr => rfl); simp only [nm, Nat.reduceAdd]) | (apply mbldS; (case hb => (simp (disch := omega) only [ev0, sl_cells, simprocAttr] <;> rfl)); (case hg => rfl); (case hr => rfl); simp only [nm, Nat.reduceAdd]) | ((first | (apply msto (q := 0); (case hq => rfl)) | (apply msto (q := 1); (case hq => rfl)) | (apply msto (q := 2); (case hq => rfl)) | (apply msto (q := 3); (case hq => rfl))); (case hx => (simp only [wv, simprocAttr] <;> rfl)); (case haddr => (simp only [wv, simprocAttr] <;> rfl)); (case hg => rfl); (case hl1 => rfl); (case hl2 => rfl); (case hok => rfl); (case hr => rfl); simp only [nm, Nat.reduceAdd]) | (apply mnil; simp only [SlotR.fin, ns]) | (refine msplit rfl (fun h => ?_) (fun h => ?_) <;> simp only [h] <;> (try simp only [nb] at h)))) <;> (repeat' (first | ((first | refine o1 rfl ?_ | refine o0 rfl ?_); intro k hk; simp (disch := omega) only [ev0, sl_cells, simprocAttr]; refine hk _ _ ?_; clear hk k) | refine ono rfl ?_ | ((first | refine osplitG rfl (fun h => ?_) (fun h => ?_) | refine osplitB rfl (fun h => ?_) (fun h => ?_)) <;> (fail_if_success (simp only [eq_self, reduceCtorEq] at h))) | refine onx ?_ | refine onb ?_ | refine sreg ?_ | refine qT rfl ?_ | refine qF rfl ?_ | refine scondT rfl ?_ | refine scondF rfl ?_ | refine ocondP rfl (fun h => ?_) (fun h => ?_) | refine ocondB rfl (fun h => ?_) (fun h => ?_) | refine scondP rfl (fun h => ?_) (fun h => ?_) | refine scond rfl (fun h => ?_) (fun h => ?_) | refine oskip ?_ | refine oskipb ?_ | refine oret ?_ | refine sem_ret ?_ | refine sem_seq ?_ | refine sreg1 ?_)))
  refine mcallA rfl (by exact hco) rfl rfl ?_
  repeat' (first | ((first | apply mop | apply mop0); (case hg => rfl); (case hq => rfl); intro k hk; simp (disch := omega) only [ev0, sl_cells, simprocAttr]; refine hk _ _ rfl ?_; clear hk k) | (apply mno; (case hg => rfl)) | (apply mbox; (case hx => (simp only [wv, simprocAttr] <;> rfl)); (case hg => rfl); (case hall => rfl); (case hr => rfl); simp only [nm, Nat.reduceAdd]) | (apply mbldS; (case hb => (simp (disch := omega) only [ev0, sl_cells, simprocAttr] <;> rfl)); (case hg => rfl); (case hr => rfl); simp only [nm, Nat.reduceAdd]) | ((first | (apply msto (q := 0); (case hq => rfl)) | (apply msto (q := 1); (case hq => rfl)) | (apply msto (q := 2); (case hq => rfl)) | (apply msto (q := 3); (case hq => rfl))); (case hx => (simp only [wv, simprocAttr] <;> rfl)); (case haddr => (simp only [wv, simprocAttr] <;> rfl)); (case hg => rfl); (case hl1 => rfl); (case hl2 => rfl); (case hok => rfl); (case hr => rfl); simp only [nm, Nat.reduceAdd]) | (apply mnil; simp only [SlotR.fin, ns]) | (refine msplit rfl (fun h => ?_) (fun h => ?_) <;> simp only [h] <;> (try simp only [nb] at h)))
  repeat' (first | ((first | refine o1 rfl ?_ | refine o0 rfl ?_); intro k hk; simp (disch := omega) only [ev0, sl_cells, simprocAttr, slOf, intCs, range_all, Option.map_none, List.length_cons, List.length_nil, Nat.zero_add, Nat.sub_zero, decide_true, eq_self]; refine hk _ _ ?_; clear hk k) | refine ono rfl ?_ | ((first | refine osplitG rfl (fun h => ?_) (fun h => ?_) | refine osplitB rfl (fun h => ?_) (fun h => ?_)) <;> (fail_if_success (simp only [eq_self, reduceCtorEq] at h))) | refine onx ?_ | refine onb ?_ | refine sreg ?_ | refine qT rfl ?_ | refine qF rfl ?_ | refine scondT rfl ?_ | refine scondF rfl ?_ | refine ocondP rfl (fun h => ?_) (fun h => ?_) | refine ocondB rfl (fun h => ?_) (fun h => ?_) | refine scondP rfl (fun h => ?_) (fun h => ?_) | refine scond rfl (fun h => ?_) (fun h => ?_) | refine oskip ?_ | refine oskipb ?_ | refine oret ?_ | refine sem_ret ?_ | refine sem_seq ?_ | refine sreg1 ?_)
  ((refine sem_mgo 13 hmix (by kernel_rfl) ?_; simp only [nt]); (repeat' (first | ((first | apply mop | apply mop0); (case hg => rfl); (case hq => rfl); intro k hk; simp (disch := omega) only [ev0, sl_cells, simprocAttr, slOf, intCs, hk1, CoolHouse.cs, range_all, Option.map_none, List.length_cons, List.length_nil, Nat.zero_add, Nat.sub_zero, decide_true, eq_self]; refine hk _ _ rfl ?_; clear hk k) | (apply mno; (case hg => rfl)) | (apply mcall; (case he => (simp only [ev0, sl_cells, simprocAttr] <;> rfl)); (case hc => first | exact hsum); (case ht => rfl); (case hg => rfl); (case hr => rfl)) | (apply mbox; (case hx => (simp only [wv, simprocAttr] <;> rfl)); (case hg => rfl); (case hall => rfl); (case hr => rfl); simp only [nm, Nat.reduceAdd]) | (apply mbldS; (case hb => (simp (disch := omega) only [ev0, sl_cells, simprocAttr] <;> rfl)); (case hg => rfl); (case hr => rfl); simp only [nm, Nat.reduceAdd]) | ((first | (apply msto (q := 0); (case hq => rfl)) | (apply msto (q := 1); (case hq => rfl)) | (apply msto (q := 2); (case hq => rfl)) | (apply msto (q := 3); (case hq => rfl))); (case hx => (simp only [wv, simprocAttr] <;> rfl)); (case haddr => (simp only [wv, simprocAttr] <;> rfl)); (case hg => rfl); (case hl1 => rfl); (case hl2 => rfl); (case hok => rfl); (case hr => rfl); simp only [nm, Nat.reduceAdd]) | (apply mnil; simp only [SlotR.fin, ns]) | (refine msplit rfl (fun h => ?_) (fun h => ?_) <;> simp only [h] <;> (try simp only [nb] at h)))) <;> (repeat' (first | ((first | refine o1 rfl ?_ | refine o0 rfl ?_); intro k hk; simp (disch := omega) only [ev0, sl_cells, simprocAttr, slOf, intCs, hk1, CoolHouse.cs, range_all, Option.map_none, List.length_cons, List.length_nil, Nat.zero_add, Nat.sub_zero, decide_true, eq_self]; refine hk _ _ ?_; clear hk k) | refine ono rfl ?_ | (apply ocall; (case he => (simp only [ev0, sl_cells, simprocAttr] <;> rfl)); (case hc => first | exact hsum); (case ht => rfl); (case hg => rfl)) | ((first | refine osplitG rfl (fun h => ?_) (fun h => ?_) | refine osplitB rfl (fun h => ?_) (fun h => ?_)) <;> (fail_if_success (simp only [eq_self, reduceCtorEq] at h))) | refine onx ?_ | refine onb ?_ | refine sreg ?_ | refine qT rfl ?_ | refine qF rfl ?_ | refine scondT rfl ?_ | refine scondF rfl ?_ | refine ocondP rfl (fun h => ?_) (fun h => ?_) | refine ocondB rfl (fun h => ?_) (fun h => ?_) | refine scondP rfl (fun h => ?_) (fun h => ?_) | refine scond rfl (fun h => ?_) (fun h => ?_) | refine oskip ?_ | refine oskipb ?_ | refine oret ?_ | refine sem_ret ?_ | refine sem_seq ?_ | refine sreg1 ?_)))
  exact ⟨_, rfl, rfl, rfl⟩
end
variable {G : World → Prop} (hG : ∀ w w', G w → RowKit.Below w.heap.size w w' → G w')
include hG
theorem Floor_bad (t : CoolTown) (hs : t.short) (f : Int) (hn : ¬ (t.ok ∧ 0 ≤ f ∧ f ≤ 3)) : Holds Try.prog G F.cool_Floor [.agg t.cs, I f] (.tup [I 0, I 2]) := by
  have hv := cool_valid hG t hs
  have hf := cool_failing hG f
  by_cases ok : t.ok
  · rw [decide_eq_true ok] at hv
    rw [decide_eq_false (fun q => hn ⟨ok, q⟩)] at hf
    (refine holds_of_sem hG fn_cool_Floor (by simp) fun w0 S0 hG0 D0 => ?_; unfold c_cool_Floor cval enterEnv; simp only [List.zipIdx_cons, List.zipIdx_nil, List.map_cons, List.map_nil, Nat.zero_add, Nat.reduceAdd])
    repeat' (first | ((first | refine o1 rfl ?_ | refine o0 rfl ?_); intro k hk; simp (disch := omega) only [ev0, sl_cells, simprocAttr]; refine hk _ _ ?_; clear hk k) | refine ono rfl ?_ | (apply ocall; (case he => (simp only [ev0, sl_cells, simprocAttr] <;> rfl)); (case hc => first | exact hv | exact hf); (case ht => rfl); (case hg => rfl)) | ((first | refine osplitG rfl (fun h => ?_) (fun h => ?_) | refine osplitB rfl (fun h => ?_) (fun h => ?_)) <;> (fail_if_success (simp only [eq_self, reduceCtorEq] at h))) | refine onx ?_ | refine onb ?_ | refine sreg ?_ | refine qT rfl ?_ | refine qF rfl ?_ | refine scondT rfl ?_ | refine scondF rfl ?_ | refine ocondP rfl (fun h => ?_) (fun h => ?_) | refine ocondB rfl (fun h => ?_) (fun h => ?_) | refine scondP rfl (fun h => ?_) (fun h => ?_) | refine scond rfl (fun h => ?_) (fun h => ?_) | refine oskip ?_ | refine oskipb ?_ | refine oret ?_ | refine sem_ret ?_ | refine sem_seq ?_ | refine sreg1 ?_)
    exact ⟨_, rfl, _, rfl, tree_eq rfl rfl⟩
  · rw [decide_eq_false ok] at hv
    (refine holds_of_sem hG fn_cool_Floor (by simp) fun w0 S0 hG0 D0 => ?_; unfold c_cool_Floor cval enterEnv; simp only [List.zipIdx_cons, List.zipIdx_nil, List.map_cons, List.map_nil, Nat.zero_add, Nat.reduceAdd])
    repeat' (first | ((first | refine o1 rfl ?_ | refine o0 rfl ?_); intro k hk; simp (disch := omega) only [ev0, sl_cells, simprocAttr]; refine hk _ _ ?_; clear hk k) | refine ono rfl ?_ | (apply ocall; (case he => (simp only [ev0, sl_cells, simprocAttr] <;> rfl)); (case hc => first | exact hv | exact hf); (case ht => rfl); (case hg => rfl)) | ((first | refine osplitG rfl (fun h => ?_) (fun h => ?_) | refine osplitB rfl (fun h => ?_) (fun h => ?_)) <;> (fail_if_success (simp only [eq_self, reduceCtorEq] at h))) | refine onx ?_ | refine onb ?_ | refine sreg ?_ | refine qT rfl ?_ | refine qF rfl ?_ | refine scondT rfl ?_ | refine scondF rfl ?_ | refine ocondP rfl (fun h => ?_) (fun h => ?_) | refine ocondB rfl (fun h => ?_) (fun h => ?_) | refine scondP rfl (fun h => ?_) (fun h => ?_) | refine scond rfl (fun h => ?_) (fun h => ?_) | refine oskip ?_ | refine oskipb ?_ | refine oret ?_ | refine sem_ret ?_ | refine sem_seq ?_ | refine sreg1 ?_)
    exact ⟨_, rfl, _, rfl, tree_eq rfl rfl⟩
theorem Floor_ok (t : CoolTown) (hs : t.short) (ok : t.ok) (f : Nat) (hf : f ≤ 3) : Holds Try.prog G F.cool_Floor [.agg t.cs, I f] (floorV (floorF t f)) := by
  have hv := cool_valid hG t hs
  have hfa := cool_failing hG (f : Int)
  rw [decide_eq_true (show 0 ≤ (f : Int) ∧ (f : Int) ≤ 3 by omega)] at hfa
  rw [decide_eq_true ok] at hv
  have hns := ok.2.1
  have hnh := ok.1
  have e1 := shlN t.sites.length (by omega)
  have hp0 := Nat.two_pow_pos t.sites.length
  have e2 : ((2 ^ t.sites.length : Nat) : Int) - 1 = (allS t : Int) := by unfold allS; omega
  have hal := allS_lt (t := t)
  have hp10 : 2 ^ t.sites.length ≤ 2 ^ 10 := Nat.pow_le_pow_right (by omega) ok.2.1.2
  refine holds_of_sem hG fn_cool_Floor (by simp) fun w0 S0 hG0 D0 => ?_
  have hf1 := fun (n : Nat) (hn : n ≤ t.sites.length) (y : Nat) (hy : y < t.houses.length) => Floor_1 (K := ⟨Try.prog, w0, S0, G, hG0⟩) rfl hG t ok f n hf hn y hy
  have hbu := cool_buy (K := ⟨Try.prog, w0, S0, G, hG0⟩) rfl hG t (allS t)
  have hb2 : ∀ o, o = AObj.row 90 0 1 [] ∨ o = AObj.row 90 1 1 [[.nilp]] → ACalls ⟨Try.prog, w0, S0, G, hG0⟩ F.cool_buy [.agg t.cs, I (allS t)] ([.row 25 0 2 [t.cs], .row 3 0 1 [[I f]]] ++ [o]) fun ae ν => ae = .ret (.ptr 5 0 4 0 0) ∧ ν = [.row 25 0 2 [t.cs], .row 3 0 1 [[I f]]] ++ [o] ++ [.row 25 0 2 [t.cs], .map [], .row 96 0 4 [[slOf CoolHouse.cs t.houses, slOf CoolSite.cs t.sites, I (allS t), .mp 4]]] := fun o ho => by
    rcases ho with rfl | rfl
    · exact hbu.placed1 [] rfl rfl rfl rfl rfl rfl
    · exact hbu.placed1 [] rfl rfl rfl rfl rfl rfl
  have hff : ∀ n, n ≤ t.sites.length → (∀ j, j < n → floorB t f j = false) → floorB t f n = true → floorF t f = some n := fun n hn h1 h2 => by
    unfold floorF
    rw [List.find?_range_eq_some]
    exact ⟨h2, List.mem_range.2 (by omega), fun j hj => by rw [h1 j hj]; rfl⟩
  have hfn : (∀ j, j < t.sites.length + 1 → floorB t f j = false) → floorF t f = none := fun h1 => by
    unfold floorF
    rw [List.find?_range_eq_none]
    intro j hj
    rw [h1 j hj]; rfl
  generalize floorF t f = fl at *
  unfold c_cool_Floor cval enterEnv
  simp only [List.zipIdx_cons, List.zipIdx_nil, List.map_cons, List.map_nil, Nat.zero_add, Nat.reduceAdd]
  repeat' (first | ((first | refine o1 rfl ?_ | refine o0 rfl ?_); intro k hk; simp (disch := omega) only [ev0, sl_cells, simprocAttr]; refine hk _ _ ?_; clear hk k) | refine ono rfl ?_ | (apply ocall; (case he => (simp only [ev0, sl_cells, simprocAttr] <;> rfl)); (case hc => first | exact hv | exact hfa); (case ht => rfl); (case hg => rfl)) | ((first | refine osplitG rfl (fun h => ?_) (fun h => ?_) | refine osplitB rfl (fun h => ?_) (fun h => ?_)) <;> (fail_if_success (simp only [eq_self, reduceCtorEq] at h))) | refine onx ?_ | refine onb ?_ | refine sreg ?_ | refine qT rfl ?_ | refine qF rfl ?_ | refine scondT rfl ?_ | refine scondF rfl ?_ | refine ocondP rfl (fun h => ?_) (fun h => ?_) | refine ocondB rfl (fun h => ?_) (fun h => ?_) | refine scondP rfl (fun h => ?_) (fun h => ?_) | refine scond rfl (fun h => ?_) (fun h => ?_) | refine oskip ?_ | refine oskipb ?_ | refine oret ?_ | refine sem_ret ?_ | refine sem_seq ?_ | refine sreg1 ?_)
  refine any_start hmix ?_
  apply any_eff1L (m := 9) (p := 6) (i0 := 7) (k0 := 8) (x := .ptr 5 0 4 0 0) (v := .ptr 5 0 4 0 0) (c0 := .nilp) (e0 := 90) (d0 := 6) (y := .t 25) (ν1 := [.row 25 0 2 [t.cs], .row 3 0 1 [[I f]]]) (ν2 := [.row 25 0 2 [t.cs], .map [], .row 96 0 4 [[slOf CoolHouse.cs t.houses, slOf CoolSite.cs t.sites, I (allS t), .mp 4]]]) (hok := by kernel_rfl) (he := by kernel_rfl) (hb0 := rfl) (hc0 := rfl) (hk0 := rfl) (hla := rfl) (hlb := rfl) (hlc := rfl)
  case ha1 =>
    simp (disch := omega) only [List.take_succ_cons, List.take_zero, fake1, List.set_cons_succ, List.set_cons_zero, qval, pushE, quietK, and_self, if_true, wv, simprocAttr, ev0, sl_cells, CoolTown.cs, slOf, e1, e2]
    rfl
  case hb1 =>
    simp (disch := omega) only [List.take_succ_cons, List.take_zero, List.drop_succ_cons, List.drop_zero, fake1, List.set_cons_succ, List.set_cons_zero, opAt, List.getD_cons_succ, List.getD_cons_zero, qval, pushE, quietK, and_self, if_true, wv, simprocAttr, ev0, sl_cells]
    rfl
  case hc1 =>
    simp (disch := omega) only [List.take_succ_cons, List.take_zero, List.drop_succ_cons, List.drop_zero, fake1, List.set_cons_succ, List.set_cons_zero, opAt, List.getD_cons_succ, List.getD_cons_zero, qval, pushE, quietK, and_self, if_true, wv, simprocAttr, ev0, sl_cells]
    rfl
  case hcl => rfl
  case hl1 => rfl
  case hc => exact hb2
  case hv => rfl
  case hz1 => rfl
  case hz2 => rfl
  case hdk => rfl
  case h =>
    refine any_end 9 rfl ?_
    change sem _ _ _ _ _
    simp only [List.cons_append, List.nil_append]
    repeat' (first | ((first | refine o1 rfl ?_ | refine o0 rfl ?_); intro k hk; simp (disch := omega) only [ev0, sl_cells, simprocAttr, CoolTown.cs, slOf]; refine hk _ _ ?_; clear hk k) | refine ono rfl ?_ | ((first | refine osplitG rfl (fun h => ?_) (fun h => ?_) | refine osplitB rfl (fun h => ?_) (fun h => ?_)) <;> (fail_if_success (simp only [eq_self, reduceCtorEq] at h))) | refine onx ?_ | refine onb ?_ | refine sreg ?_ | refine qT rfl ?_ | refine qF rfl ?_ | refine scondT rfl ?_ | refine scondF rfl ?_ | refine ocondP rfl (fun h => ?_) (fun h => ?_) | refine ocondB rfl (fun h => ?_) (fun h => ?_) | refine scondP rfl (fun h => ?_) (fun h => ?_) | refine scond rfl (fun h => ?_) (fun h => ?_) | refine oskip ?_ | refine oskipb ?_ | refine oret ?_ | refine sem_ret ?_ | refine sem_seq ?_ | refine sreg1 ?_)
    refine sem_block ?_
    
    refine sem_loop (α := Nat) (fun n => ⟨[(2, .ptr 0 0 2 0 0), (3, .ptr 1 0 1 0 0), (6, .ptr 2 1 1 0 0), (29, I (t.sites.length + 1)), (30, I n)], fM0 t f⟩) (fun n => n ≤ t.sites.length + 1 ∧ ∀ j, j < n → floorB t f j = false) (fun n => t.sites.length + 1 - n) 0 ⟨Nat.zero_le _, fun j hj => absurd hj (Nat.not_lt_zero _)⟩ ?_ ?_
    · (refine Le.same ?_; simp only [List.forall_mem_cons, List.forall_mem_nil, getE, selE, Nat.reduceBEq, List.not_mem_nil, false_implies, implies_true, and_true, true_and, and_self])
      simp [CoolTown.cs, slOf]
    · rintro n ⟨hn, hall⟩
      simp only [fM0]
      repeat' (first | ((first | refine o1 rfl ?_ | refine o0 rfl ?_); intro k hk; simp (disch := omega) only [ev0, sl_cells, simprocAttr]; refine hk _ _ ?_; clear hk k) | refine ono rfl ?_ | ((first | refine osplitG rfl (fun h => ?_) (fun h => ?_) | refine osplitB rfl (fun h => ?_) (fun h => ?_)) <;> (fail_if_success (simp only [eq_self, reduceCtorEq] at h))) | refine onx ?_ | refine onb ?_ | refine sreg ?_ | refine qT rfl ?_ | refine qF rfl ?_ | refine scondT rfl ?_ | refine scondF rfl ?_ | refine ocondP rfl (fun h => ?_) (fun h => ?_) | refine ocondB rfl (fun h => ?_) (fun h => ?_) | refine scondP rfl (fun h => ?_) (fun h => ?_) | refine scond rfl (fun h => ?_) (fun h => ?_) | refine oskip ?_ | refine oskipb ?_ | refine oret ?_ | refine sem_ret ?_ | refine sem_seq ?_ | refine sreg1 ?_)
      · have hn' : n ≤ t.sites.length := by omega
        have hf1' := hf1 n hn'
        refine sem_block ?_
        repeat' (first | ((first | refine o1 rfl ?_ | refine o0 rfl ?_); intro k hk; simp (disch := omega) only [ev0, sl_cells, simprocAttr]; refine hk _ _ ?_; clear hk k) | refine ono rfl ?_ | ((first | refine osplitG rfl (fun h => ?_) (fun h => ?_) | refine osplitB rfl (fun h => ?_) (fun h => ?_)) <;> (fail_if_success (simp only [eq_self, reduceCtorEq] at h))) | refine onx ?_ | refine onb ?_ | refine sreg ?_ | refine qT rfl ?_ | refine qF rfl ?_ | refine scondT rfl ?_ | refine scondF rfl ?_ | refine ocondP rfl (fun h => ?_) (fun h => ?_) | refine ocondB rfl (fun h => ?_) (fun h => ?_) | refine scondP rfl (fun h => ?_) (fun h => ?_) | refine scond rfl (fun h => ?_) (fun h => ?_) | refine oskip ?_ | refine oskipb ?_ | refine oret ?_ | refine sem_ret ?_ | refine sem_seq ?_ | refine sreg1 ?_)
        refine sem_block ?_
        
        refine sem_loop (α := Nat) (fun y => ⟨[(2, .ptr 0 0 2 0 0), (3, .ptr 1 0 1 0 0), (6, .ptr 2 1 1 0 0), (7, .ptr 6 0 1 0 0), (8, .fn (.func F.cool_Floor_1) [] [.ptr 2 1 1 0 0, .ptr 6 0 1 0 0, .ptr 1 0 1 0 0, .ptr 0 0 2 0 0]), (9, B ((List.range y).all (enough t f n))), (29, I (t.sites.length + 1)), (30, I n), (36, I t.houses.length), (37, I y)], fM t f n⟩) (fun y => y ≤ t.houses.length) (fun y => t.houses.length - y) 0 (Nat.zero_le _) ?_ ?_
        · (refine Le.same ?_; simp only [List.forall_mem_cons, List.forall_mem_nil, getE, selE, Nat.reduceBEq, List.not_mem_nil, false_implies, implies_true, and_true, true_and, and_self])
          simp [CoolTown.cs, slOf]
        · intro y hy
          have hsu : (List.range (y + 1)).all (enough t f n) = ((List.range y).all (enough t f n) && enough t f n y) := by simp [List.range_succ]
          simp only [fM]
          generalize hA : (List.range y).all (enough t f n) = A at *
          repeat' (first | ((first | refine o1 rfl ?_ | refine o0 rfl ?_); intro k hk; simp (disch := omega) only [ev0, sl_cells, simprocAttr]; refine hk _ _ ?_; clear hk k) | refine ono rfl ?_ | ((first | refine osplitG rfl (fun h => ?_) (fun h => ?_) | refine osplitB rfl (fun h => ?_) (fun h => ?_)) <;> (fail_if_success (simp only [eq_self, reduceCtorEq] at h))) | refine onx ?_ | refine onb ?_ | refine sreg ?_ | refine qT rfl ?_ | refine qF rfl ?_ | refine scondT rfl ?_ | refine scondF rfl ?_ | refine ocondP rfl (fun h => ?_) (fun h => ?_) | refine ocondB rfl (fun h => ?_) (fun h => ?_) | refine scondP rfl (fun h => ?_) (fun h => ?_) | refine scond rfl (fun h => ?_) (fun h => ?_) | refine oskip ?_ | refine oskipb ?_ | refine oret ?_ | refine sem_ret ?_ | refine sem_seq ?_ | refine sreg1 ?_)
          · have hy' : y < t.houses.length := by omega
            have hcall := hf1' y hy'
            refine sem_block ?_
            cases A with
            | true =>
              repeat' (first | ((first | refine o1 rfl ?_ | refine o0 rfl ?_); intro k hk; simp (disch := omega) only [ev0, sl_cells, simprocAttr]; refine hk _ _ ?_; clear hk k) | refine ono rfl ?_ | ((first | refine osplitG rfl (fun h => ?_) (fun h => ?_) | refine osplitB rfl (fun h => ?_) (fun h => ?_)) <;> (fail_if_success (simp only [eq_self, reduceCtorEq] at h))) | refine onx ?_ | refine onb ?_ | refine sreg ?_ | refine qT rfl ?_ | refine qF rfl ?_ | refine scondT rfl ?_ | refine scondF rfl ?_ | refine ocondP rfl (fun h => ?_) (fun h => ?_) | refine ocondB rfl (fun h => ?_) (fun h => ?_) | refine scondP rfl (fun h => ?_) (fun h => ?_) | refine scond rfl (fun h => ?_) (fun h => ?_) | refine oskip ?_ | refine oskipb ?_ | refine oret ?_ | refine sem_ret ?_ | refine sem_seq ?_ | refine sreg1 ?_)
              refine semL_dyn (R := fun ae ν => ae = .ret (B (enough t f n y)) ∧ ν = fM t f n) rfl rfl (by exact hcall) fun ae μ hr => ?_
              obtain ⟨rfl, rfl⟩ := hr
              change semL _ _ _ ⟨(_, _) :: _, _⟩ _
              simp only [fM]
              repeat' (first | ((first | refine o1 rfl ?_ | refine o0 rfl ?_); intro k hk; simp (disch := omega) only [ev0, sl_cells, simprocAttr]; refine hk _ _ ?_; clear hk k) | refine ono rfl ?_ | ((first | refine osplitG rfl (fun h => ?_) (fun h => ?_) | refine osplitB rfl (fun h => ?_) (fun h => ?_)) <;> (fail_if_success (simp only [eq_self, reduceCtorEq] at h))) | refine onx ?_ | refine onb ?_ | refine sreg ?_ | refine qT rfl ?_ | refine qF rfl ?_ | refine scondT rfl ?_ | refine scondF rfl ?_ | refine ocondP rfl (fun h => ?_) (fun h => ?_) | refine ocondB rfl (fun h => ?_) (fun h => ?_) | refine scondP rfl (fun h => ?_) (fun h => ?_) | refine scond rfl (fun h => ?_) (fun h => ?_) | refine oskip ?_ | refine oskipb ?_ | refine oret ?_ | refine sem_ret ?_ | refine sem_seq ?_ | refine sreg1 ?_)
              refine onil (lnext (y + 1) (by omega) (by omega) ?_)
              rw [hsu, Bool.true_and]
              (refine Le.same ?_; simp only [List.forall_mem_cons, List.forall_mem_nil, getE, selE, Nat.reduceBEq, List.not_mem_nil, false_implies, implies_true, and_true, true_and, and_self])
              simp
            | false =>
              repeat' (first | ((first | refine o1 rfl ?_ | refine o0 rfl ?_); intro k hk; simp (disch := omega) only [ev0, sl_cells, simprocAttr]; refine hk _ _ ?_; clear hk k) | refine ono rfl ?_ | ((first | refine osplitG rfl (fun h => ?_) (fun h => ?_) | refine osplitB rfl (fun h => ?_) (fun h => ?_)) <;> (fail_if_success (simp only [eq_self, reduceCtorEq] at h))) | refine onx ?_ | refine onb ?_ | refine sreg ?_ | refine qT rfl ?_ | refine qF rfl ?_ | refine scondT rfl ?_ | refine scondF rfl ?_ | refine ocondP rfl (fun h => ?_) (fun h => ?_) | refine ocondB rfl (fun h => ?_) (fun h => ?_) | refine scondP rfl (fun h => ?_) (fun h => ?_) | refine scond rfl (fun h => ?_) (fun h => ?_) | refine oskip ?_ | refine oskipb ?_ | refine oret ?_ | refine sem_ret ?_ | refine sem_seq ?_ | refine sreg1 ?_)
              refine onil (lnext (y + 1) (by omega) (by omega) ?_)
              rw [hsu, Bool.false_and]
              (refine Le.same ?_; simp only [List.forall_mem_cons, List.forall_mem_nil, getE, selE, Nat.reduceBEq, List.not_mem_nil, false_implies, implies_true, and_true, true_and, and_self])
              simp
          · have hy' : y = t.houses.length := by omega
            subst hy'
            change floorB t f n = A at hA
            (refine sem_exit ?_; change sem _ _ _ _ _)
            cases A with
            | true =>
              rw [hff n hn' hall hA]
              repeat' (first | ((first | refine o1 rfl ?_ | refine o0 rfl ?_); intro k hk; simp (disch := omega) only [ev0, sl_cells, simprocAttr]; refine hk _ _ ?_; clear hk k) | refine ono rfl ?_ | ((first | refine osplitG rfl (fun h => ?_) (fun h => ?_) | refine osplitB rfl (fun h => ?_) (fun h => ?_)) <;> (fail_if_success (simp only [eq_self, reduceCtorEq] at h))) | refine onx ?_ | refine onb ?_ | refine sreg ?_ | refine qT rfl ?_ | refine qF rfl ?_ | refine scondT rfl ?_ | refine scondF rfl ?_ | refine ocondP rfl (fun h => ?_) (fun h => ?_) | refine ocondB rfl (fun h => ?_) (fun h => ?_) | refine scondP rfl (fun h => ?_) (fun h => ?_) | refine scond rfl (fun h => ?_) (fun h => ?_) | refine oskip ?_ | refine oskipb ?_ | refine oret ?_ | refine sem_ret ?_ | refine sem_seq ?_ | refine sreg1 ?_)
              exact ⟨_, rfl, _, rfl, tree_eq rfl rfl⟩
            | false =>
              repeat' (first | ((first | refine o1 rfl ?_ | refine o0 rfl ?_); intro k hk; simp (disch := omega) only [ev0, sl_cells, simprocAttr]; refine hk _ _ ?_; clear hk k) | refine ono rfl ?_ | ((first | refine osplitG rfl (fun h => ?_) (fun h => ?_) | refine osplitB rfl (fun h => ?_) (fun h => ?_)) <;> (fail_if_success (simp only [eq_self, reduceCtorEq] at h))) | refine onx ?_ | refine onb ?_ | refine sreg ?_ | refine qT rfl ?_ | refine qF rfl ?_ | refine scondT rfl ?_ | refine scondF rfl ?_ | refine ocondP rfl (fun h => ?_) (fun h => ?_) | refine ocondB rfl (fun h => ?_) (fun h => ?_) | refine scondP rfl (fun h => ?_) (fun h => ?_) | refine scond rfl (fun h => ?_) (fun h => ?_) | refine oskip ?_ | refine oskipb ?_ | refine oret ?_ | refine sem_ret ?_ | refine sem_seq ?_ | refine sreg1 ?_)
              refine onil (lnext (n + 1) ⟨by omega, fun j hj => ?_⟩ (by omega) ?_)
              · by_cases e : j = n
                · subst e; exact hA
                · exact hall j (by omega)
              · (refine Le.drop ?_ rfl (by simp) rfl rfl; simp only [List.forall_mem_cons, List.forall_mem_nil, getE, selE, Nat.reduceBEq, List.not_mem_nil, false_implies, implies_true, and_true, true_and, and_self])
                simp
      · have hn' : n = t.sites.length + 1 := by omega
        subst hn'
        rw [hfn hall]
        (refine sem_exit ?_; change sem _ _ _ _ _)
        repeat' (first | ((first | refine o1 rfl ?_ | refine o0 rfl ?_); intro k hk; simp (disch := omega) only [ev0, sl_cells, simprocAttr]; refine hk _ _ ?_; clear hk k) | refine ono rfl ?_ | ((first | refine osplitG rfl (fun h => ?_) (fun h => ?_) | refine osplitB rfl (fun h => ?_) (fun h => ?_)) <;> (fail_if_success (simp only [eq_self, reduceCtorEq] at h))) | refine onx ?_ | refine onb ?_ | refine sreg ?_ | refine qT rfl ?_ | refine qF rfl ?_ | refine scondT rfl ?_ | refine scondF rfl ?_ | refine ocondP rfl (fun h => ?_) (fun h => ?_) | refine ocondB rfl (fun h => ?_) (fun h => ?_) | refine scondP rfl (fun h => ?_) (fun h => ?_) | refine scond rfl (fun h => ?_) (fun h => ?_) | refine oskip ?_ | refine oskipb ?_ | refine oret ?_ | refine sem_ret ?_ | refine sem_seq ?_ | refine sreg1 ?_)
        exact ⟨_, rfl, _, rfl, tree_eq rfl rfl⟩
end Go.Proofs.Ytnempffajbdneaa

/- Plain: which coolers are best; the floor is a bound. -/
set_option linter.unusedVariables false
set_option linter.unusedSimpArgs false
set_option maxRecDepth 8000
namespace Go.Tk
open Go Go.Av
theorem before_trans : ∀ {a b c : List Int}, before a b = true → before b c = true → before a c = true
  | [], _, _, h, _ => by simp [before] at h
  | _ :: _, [], _, h, _ => by simp [before] at h
  | _ :: _, _ :: _, [], _, h => by simp [before] at h
  | x :: a, y :: b, z :: c, h1, h2 => by
    simp only [before] at *
    by_cases e1 : x = y
    · subst e1
      rw [if_pos rfl] at h1
      by_cases e2 : x = z
      · subst e2
        rw [if_pos rfl] at h2 ⊢
        exact before_trans h1 h2
      · rw [if_neg e2] at h2 ⊢
        exact h2
    · rw [if_neg e1, decide_eq_true_iff] at h1
      by_cases e2 : y = z
      · subst e2
        rw [if_neg e1]
        exact decide_eq_true h1
      · rw [if_neg e2, decide_eq_true_iff] at h2
        rw [if_neg (by omega)]
        exact decide_eq_true (by omega)
theorem before_irrefl : ∀ a : List Int, before a a = false
  | [] => rfl
  | x :: a => by simp only [before, if_pos]; exact before_irrefl a
theorem beforeC_trans {a b c : Int × List Int} (h1 : beforeC a b = true) (h2 : beforeC b c = true) : beforeC a c = true := by
  unfold beforeC at *
  by_cases e1 : a.1 = b.1
  · rw [if_pos e1] at h1
    by_cases e2 : b.1 = c.1
    · rw [if_pos e2] at h2
      rw [if_pos (by omega)]
      by_cases l1 : a.2.length = b.2.length
      · rw [if_pos l1] at h1
        by_cases l2 : b.2.length = c.2.length
        · rw [if_pos l2] at h2
          rw [if_pos (by omega)]
          exact before_trans h1 h2
        · rw [if_neg l2, decide_eq_true_iff] at h2
          rw [if_neg (by omega)]
          exact decide_eq_true (by omega)
      · rw [if_neg l1, decide_eq_true_iff] at h1
        by_cases l2 : b.2.length = c.2.length
        · rw [if_neg (by omega)]
          exact decide_eq_true (by omega)
        · rw [if_neg l2, decide_eq_true_iff] at h2
          rw [if_neg (by omega)]
          exact decide_eq_true (by omega)
    · rw [if_neg e2, decide_eq_true_iff] at h2
      rw [if_neg (by omega)]
      exact decide_eq_true (by omega)
  · rw [if_neg e1, decide_eq_true_iff] at h1
    by_cases e2 : b.1 = c.1
    · rw [if_neg (by omega)]
      exact decide_eq_true (by omega)
    · rw [if_neg e2, decide_eq_true_iff] at h2
      rw [if_neg (by omega)]
      exact decide_eq_true (by omega)
theorem beforeC_irrefl (a : Int × List Int) : beforeC a a = false := by
  unfold beforeC
  rw [if_pos rfl, if_pos rfl]
  exact before_irrefl _
/-- Of more numbers the greatest are at least as great. -/
theorem dom : ∀ (T S R : List Int) (f : Nat), S.Pairwise (fun a b => b ≤ a) → T.Pairwise (fun a b => b ≤ a) → S.Perm (T ++ R) → sumL (T.drop f) ≤ sumL ((S.take T.length).drop f)
  | [], S, R, f, _, _, _ => by simp
  | x :: T, [], R, f, _, _, hp => by
    have := hp.length_eq
    simp at this
  | x :: T, a :: S, R, f, hs, ht, hp => by
    rw [List.pairwise_cons] at hs ht
    have hx : x ∈ a :: S := hp.mem_iff.2 (by simp)
    have hxa : x ≤ a := by
      rcases List.mem_cons.1 hx with rfl | h
      · exact Int.le_refl _
      · exact hs.1 x h
    have hR : ∃ R', S.Perm (T ++ R') := by
      by_cases e : a = x
      · subst e
        exact ⟨R, List.Perm.cons_inv (a := a) (by simpa using hp)⟩
      · have ha : a ∈ (x :: T) ++ R := hp.mem_iff.1 List.mem_cons_self
        rcases List.mem_append.1 ha with ha | ha
        · rcases List.mem_cons.1 ha with ha | ha
          · exact absurd ha e
          · have := ht.1 a ha
            exact absurd (by omega) e
        · refine ⟨x :: R.erase a, ?_⟩
          have e1 : R.Perm (a :: R.erase a) := List.perm_cons_erase ha
          have e2 : (a :: S).Perm (a :: (T ++ x :: R.erase a)) := by
            refine hp.trans ?_
            refine (e1.append_left (x :: T)).trans ?_
            refine List.perm_middle.trans (List.Perm.cons a ?_)
            rw [List.cons_append]
            exact List.perm_middle.symm
          exact e2.cons_inv
    obtain ⟨R', hR'⟩ := hR
    simp only [List.length_cons, List.take_succ_cons]
    cases f with
    | zero =>
      have := dom T S R' 0 hs.2 ht.2 hR'
      simp only [List.drop_zero, sumL] at *
      omega
    | succ f =>
      simp only [List.drop_succ_cons]
      exact dom T S R' f hs.2 ht.2 hR'

theorem bestF_spec {t : CoolTown} {f : Nat} : ∀ S, match bestF t f S with
    | none => ∀ s, s < S → brk t f s t.houses.length ≠ none
    | some b => b < S ∧ brk t f b t.houses.length = none ∧ ∀ s, s < S → brk t f s t.houses.length = none → beforeC (chS t s) (chS t b) = false
  | 0 => fun s hs => absurd hs (Nat.not_lt_zero _)
  | S + 1 => by
    have ih := bestF_spec (t := t) (f := f) S
    cases hb : bestF t f S with
    | none =>
      rw [hb] at ih
      simp only at ih
      by_cases hk : brk t f S t.houses.length = none
      · have e : bestF t f (S + 1) = some S := by simp only [bestF, hb]; rw [if_pos hk]
        rw [e]
        refine ⟨Nat.lt_succ_self _, hk, fun s hs hks => ?_⟩
        by_cases e2 : s = S
        · subst e2; exact beforeC_irrefl _
        · exact absurd hks (ih s (by omega))
      · have e : bestF t f (S + 1) = none := by simp only [bestF, hb]; rw [if_neg hk]
        rw [e]
        intro s hs
        by_cases e2 : s = S
        · subst e2; exact hk
        · exact ih s (by omega)
    | some b =>
      rw [hb] at ih
      obtain ⟨i1, i2, i3⟩ := ih
      by_cases hk : beforeC (chS t S) (chS t b) = true ∧ brk t f S t.houses.length = none
      · have e : bestF t f (S + 1) = some S := by simp only [bestF, hb]; rw [if_pos hk]
        rw [e]
        refine ⟨Nat.lt_succ_self _, hk.2, fun s hs hks => ?_⟩
        by_cases e2 : s = S
        · subst e2; exact beforeC_irrefl _
        · have h1 := i3 s (by omega) hks
          cases h2 : beforeC (chS t s) (chS t S) with
          | false => rfl
          | true => rw [beforeC_trans h2 hk.1] at h1; cases h1
      · have e : bestF t f (S + 1) = some b := by simp only [bestF, hb]; rw [if_neg hk]
        rw [e]
        refine ⟨by omega, i2, fun s hs hks => ?_⟩
        by_cases e2 : s = S
        · subst e2
          cases h2 : beforeC (chS t s) (chS t b) with
          | false => rfl
          | true => exact absurd ⟨h2, hks⟩ hk
        · exact i3 s (by omega) hks
theorem setB_listB {n c : Nat} (hn : n ≤ 10) (hc : c < 2 ^ n) : setB (listB c) = c := by
  apply Nat.eq_of_testBit_eq
  intro i
  rw [Bool.eq_iff_iff, setB_bit fun x hx => (listB_lt hc x hx).1, listB_mem]
  constructor
  · rintro ⟨j, e, _, h⟩
    have : j = i := by omega
    subst this; exact h
  · intro h
    exact ⟨i, rfl, by have := bit_lt hc h; omega, h⟩
theorem coolers_listB {n c : Nat} (hc : c < 2 ^ n) : coolersOk n (listB c) := coolersOk_of (listB_up c) (listB_lt hc)
end Go.Tk
