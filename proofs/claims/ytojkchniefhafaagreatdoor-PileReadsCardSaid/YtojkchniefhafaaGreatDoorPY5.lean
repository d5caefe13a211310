/- The reference's text of levels of so many piles; whether it takes levels for a book. -/
import Derived.Test.YtojkchniefhafaaGreatDoorPY4
set_option linter.unusedVariables false
set_option linter.unusedSimpArgs false
set_option linter.unusedSectionVars false
set_option maxRecDepth 8000
set_option maxHeartbeats 2000000
namespace Go.Tk
open Go Go.Av
theorem cHead2 : (⟨#[108, 101, 118, 101, 108, 115, 32]⟩ : ByteArray) = strB [108, 101, 118, 101, 108, 115, 32] := rfl
theorem cYear2 : (⟨#[121, 101, 97, 114, 32]⟩ : ByteArray) = strB [121, 101, 97, 114, 32] := rfl
theorem year_zero (y : Int) : wordsL yearW [y] = [121, 101, 97, 114, 32] ++ Lib.itoa y := rfl
theorem head_two (a b : Int) : wordsL headW [a, b] = [108, 101, 118, 101, 108, 115, 32] ++ Lib.itoa a ++ [32] ++ Lib.itoa b := by
  show headW ++ 32 :: (Lib.itoa a ++ 32 :: Lib.itoa b) = _
  simp [headW]
theorem bookP_len {l : List (List Int)} {p : Nat} (hp : p ≤ 999999999) (hl : l.length ≤ 30000) (hr : ∀ y, y < l.length → (l.getD y default).length ≤ 30000 ∧ ∀ n ∈ l.getD y default, n.natAbs ≤ 999999999) : ∀ y, y ≤ l.length → (bookP l p y).length ≤ 700000 + 700000 * y
  | 0, _ => by
    have : bookP l p 0 = wordsL headW [(l.length : Int), (p : Int)] ++ [10] := by simp [bookP]
    rw [this]
    have := words_len headW (ns := [(l.length : Int), (p : Int)]) (fun n hn => by
      rcases List.mem_cons.1 hn with rfl | hn
      · omega
      · have : n = (p : Int) := by simpa using hn
        omega)
    simp only [List.length_append, List.length_cons, List.length_nil, headW] at this ⊢
    omega
  | y + 1, hy => by
    have h1 := bookP_len hp hl hr y (by omega)
    have h2 := hr y (by omega)
    rw [bookP_succ]
    have := words_len yearW (ns := (y : Int) :: l.getD y default) (fun n hn => by
      rcases List.mem_cons.1 hn with rfl | hn
      · omega
      · have := h2.2 n hn
        omega)
    unfold yearV
    simp only [List.length_append, List.length_cons, List.length_nil, yearW] at this ⊢
    omega
end Go.Tk
namespace Go.Proofs.YtojkchniefhafaaGreatDoor
open Go Go.Av Go.Tk
attribute [local irreducible] Holds sem semL ACalls FnIs strB
variable {G : World → Prop} (hG : ∀ w w', G w → RowKit.Below w.heap.size w w' → G w')
include hG
theorem ref02_Print (l : List (List Int)) (p : Nat) (hp : p ≤ 999999999) (hl : l.length ≤ 30000) (hr : ∀ y, y < l.length → (l.getD y default).length ≤ 30000 ∧ ∀ n ∈ l.getD y default, n.natAbs ≤ 999999999) : Holds Tryz.prog G F.ref02_Print [slOf intsCs l, I p] (.str (strB (bookB l p))) := by
  have hPl := bookP_len hp hl hr
  have hPe := bookP_end l p
  have hPs := bookP_succ l p
  have hP0 : bookP l p 0 = [108, 101, 118, 101, 108, 115, 32] ++ Lib.itoa (l.length : Int) ++ [32] ++ Lib.itoa (p : Int) ++ [10] := by
    have : bookP l p 0 = wordsL headW [(l.length : Int), (p : Int)] ++ [10] := by simp [bookP]
    rw [this, head_two]
  have d1 := ref02_Decimal hG (l.length : Int) (by omega) (by omega)
  have d2 := ref02_Decimal hG (p : Int) (by omega) (by omega)
  have l1 := itoa_len (n := (l.length : Int)) (by omega) (by omega)
  have l2 := itoa_len (n := (p : Int)) (by omega) (by omega)
  have hck := ref02_Check hG l hl hr
  have hel : (endV (sumB l)).length ≤ 100 := end_len (sumAll_lt l l.length)
  unfold endV at hel hPe
  generalize bookP l p = P at *
  (refine holds_of_sem hG fn_ref02_Print (by simp) fun w0 S0 hG0 D0 => ?_; unfold c_ref02_Print cval enterEnv; simp only [List.zipIdx_cons, List.zipIdx_nil, List.map_cons, List.map_nil, Nat.zero_add, Nat.reduceAdd])
  repeat' (first | ((first | refine o1 rfl ?_ | refine o0 rfl ?_); intro k hk; simp (disch := omega) only [ev0, sl_cells, simprocAttr, slOf, cHead2, c32, c10, strB_size, strB_app, if_pos, List.length_append, List.length_cons, List.length_nil]; refine hk _ _ ?_; clear hk k) | refine ono rfl ?_ | (apply ocall; (case he => (simp only [ev0, sl_cells, simprocAttr] <;> rfl)); (case hc => first | exact d1 | exact d2); (case ht => rfl); (case hg => rfl)) | ((first | refine osplitG rfl (fun h => ?_) (fun h => ?_) | refine osplitB rfl (fun h => ?_) (fun h => ?_)) <;> (fail_if_success (simp only [eq_self, reduceCtorEq] at h))) | refine onx ?_ | refine onb ?_ | refine sreg ?_ | refine qT rfl ?_ | refine qF rfl ?_ | refine scondT rfl ?_ | refine scondF rfl ?_ | refine ocondP rfl (fun h => ?_) (fun h => ?_) | refine ocondB rfl (fun h => ?_) (fun h => ?_) | refine scondP rfl (fun h => ?_) (fun h => ?_) | refine scond rfl (fun h => ?_) (fun h => ?_) | refine oskip ?_ | refine oskipb ?_ | refine oret ?_ | refine sem_ret ?_ | refine sem_seq ?_ | refine sreg1 ?_)
  refine sem_block ?_
  
  refine sem_loop (α := Nat) (fun y => ⟨[(0, slOf intsCs l), (5, .str (strB (P y))), (6, I y)], []⟩) (fun y => y ≤ l.length) (fun y => l.length - y) 0 (Nat.zero_le _) ?_ ?_
  · rw [hP0]
    (refine Le.same ?_; simp only [List.forall_mem_cons, List.forall_mem_nil, getE, selE, Nat.reduceBEq, List.not_mem_nil, false_implies, implies_true, and_true, true_and, and_self])
    simp [slOf]
  · intro y hy
    have hPy := hPl y hy
    have hPsy := hPs y
    repeat' (first | ((first | refine o1 rfl ?_ | refine o0 rfl ?_); intro k hk; simp (disch := omega) only [ev0, sl_cells, simprocAttr, slOf]; refine hk _ _ ?_; clear hk k) | refine ono rfl ?_ | ((first | refine osplitG rfl (fun h => ?_) (fun h => ?_) | refine osplitB rfl (fun h => ?_) (fun h => ?_)) <;> (fail_if_success (simp only [eq_self, reduceCtorEq] at h))) | refine onx ?_ | refine onb ?_ | refine sreg ?_ | refine qT rfl ?_ | refine qF rfl ?_ | refine scondT rfl ?_ | refine scondF rfl ?_ | refine ocondP rfl (fun h => ?_) (fun h => ?_) | refine ocondB rfl (fun h => ?_) (fun h => ?_) | refine scondP rfl (fun h => ?_) (fun h => ?_) | refine scond rfl (fun h => ?_) (fun h => ?_) | refine oskip ?_ | refine oskipb ?_ | refine oret ?_ | refine sem_ret ?_ | refine sem_seq ?_ | refine sreg1 ?_)
    · have hy' : y < l.length := by omega
      have hry := hr y hy'
      have hy1 := hPl (y + 1) (by omega)
      rw [hPsy] at hy1
      unfold yearV at hPsy hy1
      generalize hrow : l.getD y default = row at *
      have dy := ref02_Decimal hG (y : Int) (by omega) (by omega)
      have ly := itoa_len (n := (y : Int)) (by omega) (by omega)
      have hws := fun i => words_len yearW (ns := (y : Int) :: row.take i) (fun n hn => by
        rcases List.mem_cons.1 hn with rfl | hn
        · omega
        · have := hry.2 n (List.mem_of_mem_take hn)
          omega)
      have hw0 : wordsL yearW ((y : Int) :: row.take 0) = [121, 101, 97, 114, 32] ++ Lib.itoa y := year_zero y
      have hwn : ∀ i, i < row.length → wordsL yearW ((y : Int) :: row.take (i + 1)) = wordsL yearW ((y : Int) :: row.take i) ++ 32 :: Lib.itoa (row.getD i default) := fun i hi => by
        rw [take_snoc hi, ← List.cons_append, words_snoc]
      have hwf : wordsL yearW ((y : Int) :: row.take row.length) = wordsL yearW ((y : Int) :: row) := by rw [List.take_length]
      rw [← hwf] at hPsy
      generalize hww : (fun i => wordsL yearW ((y : Int) :: row.take i)) = W at *
      have hW : ∀ i, wordsL yearW ((y : Int) :: row.take i) = W i := fun i => by rw [← hww]
      simp only [hW] at hws hw0 hwn hPsy
      refine sem_block ?_
      repeat' (first | ((first | refine o1 rfl ?_ | refine o0 rfl ?_); intro k hk; simp (disch := omega) only [ev0, sl_cells, simprocAttr, slOf, cYear2, c32, c10, strB_size, strB_app, if_pos, List.length_append, List.length_cons, List.length_nil]; refine hk _ _ ?_; clear hk k) | refine ono rfl ?_ | (apply ocall; (case he => (simp only [ev0, sl_cells, simprocAttr] <;> rfl)); (case hc => first | exact dy); (case ht => rfl); (case hg => rfl)) | ((first | refine osplitG rfl (fun h => ?_) (fun h => ?_) | refine osplitB rfl (fun h => ?_) (fun h => ?_)) <;> (fail_if_success (simp only [eq_self, reduceCtorEq] at h))) | refine onx ?_ | refine onb ?_ | refine sreg ?_ | refine qT rfl ?_ | refine qF rfl ?_ | refine scondT rfl ?_ | refine scondF rfl ?_ | refine ocondP rfl (fun h => ?_) (fun h => ?_) | refine ocondB rfl (fun h => ?_) (fun h => ?_) | refine scondP rfl (fun h => ?_) (fun h => ?_) | refine scond rfl (fun h => ?_) (fun h => ?_) | refine oskip ?_ | refine oskipb ?_ | refine oret ?_ | refine sem_ret ?_ | refine sem_seq ?_ | refine sreg1 ?_)
      refine sem_block ?_
      
      refine sem_loop (α := Nat) (fun i => ⟨[(0, slOf intsCs l), (5, .str (strB (P y ++ W i))), (6, I y), (7, I i)], []⟩) (fun i => i ≤ row.length) (fun i => row.length - i) 0 (Nat.zero_le _) ?_ ?_
      · rw [hw0]
        (refine Le.same ?_; simp only [List.forall_mem_cons, List.forall_mem_nil, getE, selE, Nat.reduceBEq, List.not_mem_nil, false_implies, implies_true, and_true, true_and, and_self])
        simp [slOf]
      · intro i hi
        have hwi := hws i
        have hyw : yearW.length = 4 := rfl
        rw [hyw, List.length_cons, List.length_take] at hwi
        have hwni := hwn i
        repeat' (first | ((first | refine o1 rfl ?_ | refine o0 rfl ?_); intro k hk; simp (disch := omega) only [ev0, sl_cells, simprocAttr, slOf, intsCs, hrow]; refine hk _ _ ?_; clear hk k) | refine ono rfl ?_ | ((first | refine osplitG rfl (fun h => ?_) (fun h => ?_) | refine osplitB rfl (fun h => ?_) (fun h => ?_)) <;> (fail_if_success (simp only [eq_self, reduceCtorEq] at h))) | refine onx ?_ | refine onb ?_ | refine sreg ?_ | refine qT rfl ?_ | refine qF rfl ?_ | refine scondT rfl ?_ | refine scondF rfl ?_ | refine ocondP rfl (fun h => ?_) (fun h => ?_) | refine ocondB rfl (fun h => ?_) (fun h => ?_) | refine scondP rfl (fun h => ?_) (fun h => ?_) | refine scond rfl (fun h => ?_) (fun h => ?_) | refine oskip ?_ | refine oskipb ?_ | refine oret ?_ | refine sem_ret ?_ | refine sem_seq ?_ | refine sreg1 ?_)
        · have hi' : i < row.length := by omega
          replace hwni := hwni hi'
          have hni := hry.2 (row.getD i default) (by rw [getD_lt hi']; exact List.getElem_mem _)
          generalize hv : row.getD i default = v at *
          have dv := ref02_Decimal hG v (by omega) (by omega)
          have lv := itoa_len (n := v) (by omega) (by omega)
          refine sem_block ?_
          repeat' (first | ((first | refine o1 rfl ?_ | refine o0 rfl ?_); intro k hk; simp (disch := omega) only [ev0, sl_cells, simprocAttr, slOf, intsCs, intCs, hrow, hv, c32, c10, strB_size, strB_app, if_pos, List.length_append, List.length_cons, List.length_nil]; refine hk _ _ ?_; clear hk k) | refine ono rfl ?_ | (apply ocall; (case he => (simp only [ev0, sl_cells, simprocAttr] <;> rfl)); (case hc => first | exact dv); (case ht => rfl); (case hg => rfl)) | ((first | refine osplitG rfl (fun h => ?_) (fun h => ?_) | refine osplitB rfl (fun h => ?_) (fun h => ?_)) <;> (fail_if_success (simp only [eq_self, reduceCtorEq] at h))) | refine onx ?_ | refine onb ?_ | refine sreg ?_ | refine qT rfl ?_ | refine qF rfl ?_ | refine scondT rfl ?_ | refine scondF rfl ?_ | refine ocondP rfl (fun h => ?_) (fun h => ?_) | refine ocondB rfl (fun h => ?_) (fun h => ?_) | refine scondP rfl (fun h => ?_) (fun h => ?_) | refine scond rfl (fun h => ?_) (fun h => ?_) | refine oskip ?_ | refine oskipb ?_ | refine oret ?_ | refine sem_ret ?_ | refine sem_seq ?_ | refine sreg1 ?_)
          refine onil (lnext (i + 1) (by omega) (by omega) ?_)
          rw [hwni]
          (refine Le.same ?_; simp only [List.forall_mem_cons, List.forall_mem_nil, getE, selE, Nat.reduceBEq, List.not_mem_nil, false_implies, implies_true, and_true, true_and, and_self])
          simp [slOf, intsCs, intCs]
        · have hi' : i = row.length := by omega
          subst hi'
          (refine sem_exit ?_; change sem _ _ _ _ _)
          repeat' (first | ((first | refine o1 rfl ?_ | refine o0 rfl ?_); intro k hk; simp (disch := omega) only [ev0, sl_cells, simprocAttr, c32, c10, strB_size, strB_app, if_pos, List.length_append, List.length_cons, List.length_nil]; refine hk _ _ ?_; clear hk k) | refine ono rfl ?_ | ((first | refine osplitG rfl (fun h => ?_) (fun h => ?_) | refine osplitB rfl (fun h => ?_) (fun h => ?_)) <;> (fail_if_success (simp only [eq_self, reduceCtorEq] at h))) | refine onx ?_ | refine onb ?_ | refine sreg ?_ | refine qT rfl ?_ | refine qF rfl ?_ | refine scondT rfl ?_ | refine scondF rfl ?_ | refine ocondP rfl (fun h => ?_) (fun h => ?_) | refine ocondB rfl (fun h => ?_) (fun h => ?_) | refine scondP rfl (fun h => ?_) (fun h => ?_) | refine scond rfl (fun h => ?_) (fun h => ?_) | refine oskip ?_ | refine oskipb ?_ | refine oret ?_ | refine sem_ret ?_ | refine sem_seq ?_ | refine sreg1 ?_)
          refine onil (lnext (y + 1) (by omega) (by omega) ?_)
          rw [hPsy]
          (refine Le.same ?_; simp only [List.forall_mem_cons, List.forall_mem_nil, getE, selE, Nat.reduceBEq, List.not_mem_nil, false_implies, implies_true, and_true, true_and, and_self])
          simp [slOf, intsCs]
    · have hy' : y = l.length := by omega
      subst hy'
      generalize hX : Lib.itoa ((sumB l / 100 : Nat) : Int) ++ Lib.itoa ((sumB l / 10 % 10 : Nat) : Int) ++ Lib.itoa ((sumB l % 10 : Nat) : Int) = X at *
      have hXl : X.length ≤ 100 := by
        simp only [List.length_append, List.length_cons, List.length_nil, endW] at hel
        omega
      rw [hPe, show P l.length ++ (endW ++ 32 :: X ++ [10]) = P l.length ++ [101, 110, 100, 32] ++ X ++ [10] by simp [endW]]
      (refine sem_exit ?_; change sem _ _ _ _ _)
      repeat' (first | ((first | refine o1 rfl ?_ | refine o0 rfl ?_); intro k hk; simp (disch := omega) only [ev0, sl_cells, simprocAttr, cEnd, c32, c10, strB_size, strB_app, if_pos, List.length_append, List.length_cons, List.length_nil]; refine hk _ _ ?_; clear hk k) | refine ono rfl ?_ | (apply ocall; (case he => (simp only [ev0, sl_cells, simprocAttr] <;> rfl)); (case hc => first | exact hck); (case ht => rfl); (case hg => rfl)) | ((first | refine osplitG rfl (fun h => ?_) (fun h => ?_) | refine osplitB rfl (fun h => ?_) (fun h => ?_)) <;> (fail_if_success (simp only [eq_self, reduceCtorEq] at h))) | refine onx ?_ | refine onb ?_ | refine sreg ?_ | refine qT rfl ?_ | refine qF rfl ?_ | refine scondT rfl ?_ | refine scondF rfl ?_ | refine ocondP rfl (fun h => ?_) (fun h => ?_) | refine ocondB rfl (fun h => ?_) (fun h => ?_) | refine scondP rfl (fun h => ?_) (fun h => ?_) | refine scond rfl (fun h => ?_) (fun h => ?_) | refine oskip ?_ | refine oskipb ?_ | refine oret ?_ | refine sem_ret ?_ | refine sem_seq ?_ | refine sreg1 ?_)
      exact ⟨_, rfl, _, rfl, tree_eq rfl rfl⟩
theorem ref02_in (x lo hi : Int) : Holds Tryz.prog G F.ref02_in [I x, I lo, I hi] (B (decide (lo ≤ x ∧ x ≤ hi))) := by
  (refine holds_of_sem hG fn_ref02_in (by simp) fun w0 S0 hG0 D0 => ?_; unfold c_ref02_in cval enterEnv; simp only [List.zipIdx_cons, List.zipIdx_nil, List.map_cons, List.map_nil, Nat.zero_add, Nat.reduceAdd])
  repeat' (first | ((first | refine o1 rfl ?_ | refine o0 rfl ?_); intro k hk; simp (disch := omega) only [ev0, sl_cells, simprocAttr]; refine hk _ _ ?_; clear hk k) | refine ono rfl ?_ | ((first | refine osplitG rfl (fun h => ?_) (fun h => ?_) | refine osplitB rfl (fun h => ?_) (fun h => ?_)) <;> (fail_if_success (simp only [eq_self, reduceCtorEq] at h))) | refine onx ?_ | refine onb ?_ | refine sreg ?_ | refine qT rfl ?_ | refine qF rfl ?_ | refine scondT rfl ?_ | refine scondF rfl ?_ | refine ocondP rfl (fun h => ?_) (fun h => ?_) | refine ocondB rfl (fun h => ?_) (fun h => ?_) | refine scondP rfl (fun h => ?_) (fun h => ?_) | refine scond rfl (fun h => ?_) (fun h => ?_) | refine oskip ?_ | refine oskipb ?_ | refine oret ?_ | refine sem_ret ?_ | refine sem_seq ?_ | refine sreg1 ?_)
  all_goals exact ⟨_, rfl, _, rfl, tree_eq rfl (by (try simp only [Bool.not_eq_true', Bool.not_eq_false', decide_eq_true_eq, decide_eq_false_iff_not] at *); simp only [getE, selE, Nat.reduceBEq]; apply congrArg AV.bool; rw [Bool.eq_iff_iff]; simp only [decide_eq_true_eq, Bool.not_eq_true', decide_eq_false_iff_not, Bool.false_eq_true, true_iff, false_iff, iff_true, iff_false, not_true_eq_false, not_false_eq_true]; omega)⟩
theorem ref02_Book (l : List (List Int)) (hl : l.length ≤ 100000) (hr : ∀ row ∈ l, row.length ≤ 100000) : Holds Tryz.prog G F.ref02_Book [slOf intsCs l] (B (decide (bookOk l))) := by
  have hn := ref02_in hG (l.length : Int) 1 10
  have hno : ∀ y, y < l.length → ¬ ((l.getD y default).length = (l.getD 0 default).length ∧ 1 ≤ (l.getD y default).length ∧ (l.getD y default).length ≤ 6) → decide (bookOk l) = false := fun y hy q => decide_eq_false fun ⟨b1, b2, b3⟩ => q (by
    have := (b3 _ (by rw [getD_lt hy]; exact List.getElem_mem _ : l.getD y default ∈ l)).1
    omega)
  have hno2 : ∀ y i, y < l.length → i < (l.getD y default).length → ¬ levOk ((l.getD y default).getD i default) → decide (bookOk l) = false := fun y i hy hi q => decide_eq_false fun ⟨b1, b2, b3⟩ => q ((b3 _ (by rw [getD_lt hy]; exact List.getElem_mem _ : l.getD y default ∈ l)).2 _ (by rw [getD_lt hi]; exact List.getElem_mem _))
  have hyes : (∀ y, y < l.length → (l.getD y default).length = (l.getD 0 default).length ∧ (1 ≤ (l.getD y default).length ∧ (l.getD y default).length ≤ 6) ∧ ∀ i, i < (l.getD y default).length → levOk ((l.getD y default).getD i default)) → decide (bookOk l) = decide (1 ≤ (l.length : Int) ∧ (l.length : Int) ≤ 10) := fun h => by
    rw [decide_eq_decide]
    constructor
    · rintro ⟨b1, -, -⟩; omega
    · intro q
      have h0 := h 0 (by omega)
      exact ⟨by omega, h0.2.1, fun row hrow => by
        obtain ⟨y, hy, rfl⟩ := List.getElem_of_mem hrow
        have := h y hy
        rw [getD_lt hy] at this
        exact ⟨this.1, all_getD.2 this.2.2⟩⟩
  have hrl : ∀ y, y < l.length → (l.getD y default).length ≤ 100000 := fun y hy => hr _ (by rw [getD_lt hy]; exact List.getElem_mem _)
  generalize decide (bookOk l) = res at *
  (refine holds_of_sem hG fn_ref02_Book (by simp) fun w0 S0 hG0 D0 => ?_; unfold c_ref02_Book cval enterEnv; simp only [List.zipIdx_cons, List.zipIdx_nil, List.map_cons, List.map_nil, Nat.zero_add, Nat.reduceAdd])
  repeat' (first | ((first | refine o1 rfl ?_ | refine o0 rfl ?_); intro k hk; simp (disch := omega) only [ev0, sl_cells, simprocAttr]; refine hk _ _ ?_; clear hk k) | refine ono rfl ?_ | ((first | refine osplitG rfl (fun h => ?_) (fun h => ?_) | refine osplitB rfl (fun h => ?_) (fun h => ?_)) <;> (fail_if_success (simp only [eq_self, reduceCtorEq] at h))) | refine onx ?_ | refine onb ?_ | refine sreg ?_ | refine qT rfl ?_ | refine qF rfl ?_ | refine scondT rfl ?_ | refine scondF rfl ?_ | refine ocondP rfl (fun h => ?_) (fun h => ?_) | refine ocondB rfl (fun h => ?_) (fun h => ?_) | refine scondP rfl (fun h => ?_) (fun h => ?_) | refine scond rfl (fun h => ?_) (fun h => ?_) | refine oskip ?_ | refine oskipb ?_ | refine oret ?_ | refine sem_ret ?_ | refine sem_seq ?_ | refine sreg1 ?_)
  refine sem_block ?_
  
  refine sem_loop (α := Nat) (fun y => ⟨[(0, slOf intsCs l), (3, I y)], []⟩) (fun y => y ≤ l.length ∧ ∀ j, j < y → (l.getD j default).length = (l.getD 0 default).length ∧ (1 ≤ (l.getD j default).length ∧ (l.getD j default).length ≤ 6) ∧ ∀ i, i < (l.getD j default).length → levOk ((l.getD j default).getD i default)) (fun y => l.length - y) 0 ⟨Nat.zero_le _, fun j hj => absurd hj (Nat.not_lt_zero _)⟩ ?_ ?_
  · (refine Le.same ?_; simp only [List.forall_mem_cons, List.forall_mem_nil, getE, selE, Nat.reduceBEq, List.not_mem_nil, false_implies, implies_true, and_true, true_and, and_self])
    simp [slOf]
  · rintro y ⟨h1, h2⟩
    repeat' (first | ((first | refine o1 rfl ?_ | refine o0 rfl ?_); intro k hk; simp (disch := omega) only [ev0, sl_cells, simprocAttr, slOf]; refine hk _ _ ?_; clear hk k) | refine ono rfl ?_ | ((first | refine osplitG rfl (fun h => ?_) (fun h => ?_) | refine osplitB rfl (fun h => ?_) (fun h => ?_)) <;> (fail_if_success (simp only [eq_self, reduceCtorEq] at h))) | refine onx ?_ | refine onb ?_ | refine sreg ?_ | refine qT rfl ?_ | refine qF rfl ?_ | refine scondT rfl ?_ | refine scondF rfl ?_ | refine ocondP rfl (fun h => ?_) (fun h => ?_) | refine ocondB rfl (fun h => ?_) (fun h => ?_) | refine scondP rfl (fun h => ?_) (fun h => ?_) | refine scond rfl (fun h => ?_) (fun h => ?_) | refine oskip ?_ | refine oskipb ?_ | refine oret ?_ | refine sem_ret ?_ | refine sem_seq ?_ | refine sreg1 ?_)
    · have hy : y < l.length := by omega
      have hry := hrl y hy
      have hr0 := hrl 0 (by omega)
      have hny := hno y hy
      have hny2 := fun i => hno2 y i hy
      have hnx : ((l.getD y default).length = (l.getD 0 default).length ∧ (1 ≤ (l.getD y default).length ∧ (l.getD y default).length ≤ 6) ∧ ∀ i, i < (l.getD y default).length → levOk ((l.getD y default).getD i default)) → ∀ j, j < y + 1 → (l.getD j default).length = (l.getD 0 default).length ∧ (1 ≤ (l.getD j default).length ∧ (l.getD j default).length ≤ 6) ∧ ∀ i, i < (l.getD j default).length → levOk ((l.getD j default).getD i default) := fun q j hj => by
        by_cases e : j = y
        · subst e; exact q
        · exact h2 j (by omega)
      generalize hrow : l.getD y default = row at *
      generalize hrow0 : l.getD 0 default = r0 at *
      have iy := ref02_in hG (row.length : Int) 1 6
      refine sem_block ?_
      repeat' (first | ((first | refine o1 rfl ?_ | refine o0 rfl ?_); intro k hk; simp (disch := omega) only [ev0, sl_cells, simprocAttr]; refine hk _ _ ?_; clear hk k) | refine ono rfl ?_ | ((first | refine osplitG rfl (fun h => ?_) (fun h => ?_) | refine osplitB rfl (fun h => ?_) (fun h => ?_)) <;> (fail_if_success (simp only [eq_self, reduceCtorEq] at h))) | refine onx ?_ | refine onb ?_ | refine sreg ?_ | refine qT rfl ?_ | refine qF rfl ?_ | refine scondT rfl ?_ | refine scondF rfl ?_ | refine ocondP rfl (fun h => ?_) (fun h => ?_) | refine ocondB rfl (fun h => ?_) (fun h => ?_) | refine scondP rfl (fun h => ?_) (fun h => ?_) | refine scond rfl (fun h => ?_) (fun h => ?_) | refine oskip ?_ | refine oskipb ?_ | refine oret ?_ | refine sem_ret ?_ | refine sem_seq ?_ | refine sreg1 ?_)
      by_cases c1 : row.length = r0.length
      · have c1' : ((row.length : Int) = r0.length) = True := eq_true (by omega)
        by_cases c2 : 1 ≤ row.length ∧ row.length ≤ 6
        · rw [decide_eq_true (show 1 ≤ (row.length : Int) ∧ (row.length : Int) ≤ 6 by omega)] at iy
          ((refine sem_mgo 13 hmix (by kernel_rfl) ?_; simp only [nt]); (repeat' (first | ((first | apply mop | apply mop0); (case hg => rfl); (case hq => rfl); intro k hk; simp (disch := omega) only [ev0, sl_cells, simprocAttr, slOf, intsCs, hrow, hrow0, c1', decide_true]; refine hk _ _ rfl ?_; clear hk k) | (apply mno; (case hg => rfl)) | (apply mcall; (case he => (simp only [ev0, sl_cells, simprocAttr] <;> rfl)); (case hc => first | exact iy); (case ht => rfl); (case hg => rfl); (case hr => rfl)) | (apply mbox; (case hx => (simp only [wv, simprocAttr] <;> rfl)); (case hg => rfl); (case hall => rfl); (case hr => rfl); simp only [nm, Nat.reduceAdd]) | (apply mbldS; (case hb => (simp (disch := omega) only [ev0, sl_cells, simprocAttr] <;> rfl)); (case hg => rfl); (case hr => rfl); simp only [nm, Nat.reduceAdd]) | ((first | (apply msto (q := 0); (case hq => rfl)) | (apply msto (q := 1); (case hq => rfl)) | (apply msto (q := 2); (case hq => rfl)) | (apply msto (q := 3); (case hq => rfl))); (case hx => (simp only [wv, simprocAttr] <;> rfl)); (case haddr => (simp only [wv, simprocAttr] <;> rfl)); (case hg => rfl); (case hl1 => rfl); (case hl2 => rfl); (case hok => rfl); (case hr => rfl); simp only [nm, Nat.reduceAdd]) | (apply mnil; simp only [SlotR.fin, ns]) | (refine msplit rfl (fun h => ?_) (fun h => ?_) <;> simp only [h] <;> (try simp only [nb] at h)))) <;> (repeat' (first | ((first | refine o1 rfl ?_ | refine o0 rfl ?_); intro k hk; simp (disch := omega) only [ev0, sl_cells, simprocAttr, slOf, intsCs, hrow, hrow0, c1', decide_true]; refine hk _ _ ?_; clear hk k) | refine ono rfl ?_ | (apply ocall; (case he => (simp only [ev0, sl_cells, simprocAttr] <;> rfl)); (case hc => first | exact iy); (case ht => rfl); (case hg => rfl)) | ((first | refine osplitG rfl (fun h => ?_) (fun h => ?_) | refine osplitB rfl (fun h => ?_) (fun h => ?_)) <;> (fail_if_success (simp only [eq_self, reduceCtorEq] at h))) | refine onx ?_ | refine onb ?_ | refine sreg ?_ | refine qT rfl ?_ | refine qF rfl ?_ | refine scondT rfl ?_ | refine scondF rfl ?_ | refine ocondP rfl (fun h => ?_) (fun h => ?_) | refine ocondB rfl (fun h => ?_) (fun h => ?_) | refine scondP rfl (fun h => ?_) (fun h => ?_) | refine scond rfl (fun h => ?_) (fun h => ?_) | refine oskip ?_ | refine oskipb ?_ | refine oret ?_ | refine sem_ret ?_ | refine sem_seq ?_ | refine sreg1 ?_)))
          refine sem_block ?_
          
          refine sem_loop (α := Nat) (fun i => ⟨[(0, slOf intsCs l), (3, I y), (4, I i)], []⟩) (fun i => i ≤ row.length ∧ ∀ j, j < i → levOk (row.getD j default)) (fun i => row.length - i) 0 ⟨Nat.zero_le _, fun j hj => absurd hj (Nat.not_lt_zero _)⟩ ?_ ?_
          · (refine Le.same ?_; simp only [List.forall_mem_cons, List.forall_mem_nil, getE, selE, Nat.reduceBEq, List.not_mem_nil, false_implies, implies_true, and_true, true_and, and_self])
            simp [slOf]
          · rintro i ⟨h3, h4⟩
            repeat' (first | ((first | refine o1 rfl ?_ | refine o0 rfl ?_); intro k hk; simp (disch := omega) only [ev0, sl_cells, simprocAttr, slOf, intsCs, hrow]; refine hk _ _ ?_; clear hk k) | refine ono rfl ?_ | ((first | refine osplitG rfl (fun h => ?_) (fun h => ?_) | refine osplitB rfl (fun h => ?_) (fun h => ?_)) <;> (fail_if_success (simp only [eq_self, reduceCtorEq] at h))) | refine onx ?_ | refine onb ?_ | refine sreg ?_ | refine qT rfl ?_ | refine qF rfl ?_ | refine scondT rfl ?_ | refine scondF rfl ?_ | refine ocondP rfl (fun h => ?_) (fun h => ?_) | refine ocondB rfl (fun h => ?_) (fun h => ?_) | refine scondP rfl (fun h => ?_) (fun h => ?_) | refine scond rfl (fun h => ?_) (fun h => ?_) | refine oskip ?_ | refine oskipb ?_ | refine oret ?_ | refine sem_ret ?_ | refine sem_seq ?_ | refine sreg1 ?_)
            · have hi : i < row.length := by omega
              have hnyi := hny2 i hi
              have iv := ref02_in hG (row.getD i default) (-100000) 100000
              have hni : levOk (row.getD i default) → ∀ j, j < i + 1 → levOk (row.getD j default) := fun q j hj => by
                by_cases e : j = i
                · subst e; exact q
                · exact h4 j (by omega)
              generalize hv : row.getD i default = v at *
              refine sem_block ?_
              by_cases c3 : levOk v
              · rw [decide_eq_true (show -100000 ≤ v ∧ v ≤ 100000 from c3)] at iv
                repeat' (first | ((first | refine o1 rfl ?_ | refine o0 rfl ?_); intro k hk; simp (disch := omega) only [ev0, sl_cells, simprocAttr, slOf, intsCs, intCs, hrow, hv]; refine hk _ _ ?_; clear hk k) | refine ono rfl ?_ | (apply ocall; (case he => (simp only [ev0, sl_cells, simprocAttr] <;> rfl)); (case hc => first | exact iv); (case ht => rfl); (case hg => rfl)) | ((first | refine osplitG rfl (fun h => ?_) (fun h => ?_) | refine osplitB rfl (fun h => ?_) (fun h => ?_)) <;> (fail_if_success (simp only [eq_self, reduceCtorEq] at h))) | refine onx ?_ | refine onb ?_ | refine sreg ?_ | refine qT rfl ?_ | refine qF rfl ?_ | refine scondT rfl ?_ | refine scondF rfl ?_ | refine ocondP rfl (fun h => ?_) (fun h => ?_) | refine ocondB rfl (fun h => ?_) (fun h => ?_) | refine scondP rfl (fun h => ?_) (fun h => ?_) | refine scond rfl (fun h => ?_) (fun h => ?_) | refine oskip ?_ | refine oskipb ?_ | refine oret ?_ | refine sem_ret ?_ | refine sem_seq ?_ | refine sreg1 ?_)
                refine onil (lnext (i + 1) ⟨by omega, hni c3⟩ (by omega) ?_)
                (refine Le.same ?_; simp only [List.forall_mem_cons, List.forall_mem_nil, getE, selE, Nat.reduceBEq, List.not_mem_nil, false_implies, implies_true, and_true, true_and, and_self])
                simp [slOf, intsCs]
              · rw [decide_eq_false (show ¬ (-100000 ≤ v ∧ v ≤ 100000) from c3)] at iv
                repeat' (first | ((first | refine o1 rfl ?_ | refine o0 rfl ?_); intro k hk; simp (disch := omega) only [ev0, sl_cells, simprocAttr, slOf, intsCs, intCs, hrow, hv]; refine hk _ _ ?_; clear hk k) | refine ono rfl ?_ | (apply ocall; (case he => (simp only [ev0, sl_cells, simprocAttr] <;> rfl)); (case hc => first | exact iv); (case ht => rfl); (case hg => rfl)) | ((first | refine osplitG rfl (fun h => ?_) (fun h => ?_) | refine osplitB rfl (fun h => ?_) (fun h => ?_)) <;> (fail_if_success (simp only [eq_self, reduceCtorEq] at h))) | refine onx ?_ | refine onb ?_ | refine sreg ?_ | refine qT rfl ?_ | refine qF rfl ?_ | refine scondT rfl ?_ | refine scondF rfl ?_ | refine ocondP rfl (fun h => ?_) (fun h => ?_) | refine ocondB rfl (fun h => ?_) (fun h => ?_) | refine scondP rfl (fun h => ?_) (fun h => ?_) | refine scond rfl (fun h => ?_) (fun h => ?_) | refine oskip ?_ | refine oskipb ?_ | refine oret ?_ | refine sem_ret ?_ | refine sem_seq ?_ | refine sreg1 ?_)
                rw [hnyi c3]
                exact ⟨_, rfl, _, rfl, tree_eq rfl rfl⟩
            · have hi : i = row.length := by omega
              subst hi
              (refine sem_exit ?_; change sem _ _ _ _ _)
              repeat' (first | ((first | refine o1 rfl ?_ | refine o0 rfl ?_); intro k hk; simp (disch := omega) only [ev0, sl_cells, simprocAttr]; refine hk _ _ ?_; clear hk k) | refine ono rfl ?_ | ((first | refine osplitG rfl (fun h => ?_) (fun h => ?_) | refine osplitB rfl (fun h => ?_) (fun h => ?_)) <;> (fail_if_success (simp only [eq_self, reduceCtorEq] at h))) | refine onx ?_ | refine onb ?_ | refine sreg ?_ | refine qT rfl ?_ | refine qF rfl ?_ | refine scondT rfl ?_ | refine scondF rfl ?_ | refine ocondP rfl (fun h => ?_) (fun h => ?_) | refine ocondB rfl (fun h => ?_) (fun h => ?_) | refine scondP rfl (fun h => ?_) (fun h => ?_) | refine scond rfl (fun h => ?_) (fun h => ?_) | refine oskip ?_ | refine oskipb ?_ | refine oret ?_ | refine sem_ret ?_ | refine sem_seq ?_ | refine sreg1 ?_)
              refine onil (lnext (y + 1) ⟨by omega, hnx ⟨c1, c2, h4⟩⟩ (by omega) ?_)
              (refine Le.same ?_; simp only [List.forall_mem_cons, List.forall_mem_nil, getE, selE, Nat.reduceBEq, List.not_mem_nil, false_implies, implies_true, and_true, true_and, and_self])
              simp [slOf, intsCs]
        · rw [decide_eq_false (show ¬ (1 ≤ (row.length : Int) ∧ (row.length : Int) ≤ 6) by omega)] at iy
          ((refine sem_mgo 13 hmix (by kernel_rfl) ?_; simp only [nt]); (repeat' (first | ((first | apply mop | apply mop0); (case hg => rfl); (case hq => rfl); intro k hk; simp (disch := omega) only [ev0, sl_cells, simprocAttr, slOf, intsCs, hrow, hrow0, c1', decide_true]; refine hk _ _ rfl ?_; clear hk k) | (apply mno; (case hg => rfl)) | (apply mcall; (case he => (simp only [ev0, sl_cells, simprocAttr] <;> rfl)); (case hc => first | exact iy); (case ht => rfl); (case hg => rfl); (case hr => rfl)) | (apply mbox; (case hx => (simp only [wv, simprocAttr] <;> rfl)); (case hg => rfl); (case hall => rfl); (case hr => rfl); simp only [nm, Nat.reduceAdd]) | (apply mbldS; (case hb => (simp (disch := omega) only [ev0, sl_cells, simprocAttr] <;> rfl)); (case hg => rfl); (case hr => rfl); simp only [nm, Nat.reduceAdd]) | ((first | (apply msto (q := 0); (case hq => rfl)) | (apply msto (q := 1); (case hq => rfl)) | (apply msto (q := 2); (case hq => rfl)) | (apply msto (q := 3); (case hq => rfl))); (case hx => (simp only [wv, simprocAttr] <;> rfl)); (case haddr => (simp only [wv, simprocAttr] <;> rfl)); (case hg => rfl); (case hl1 => rfl); (case hl2 => rfl); (case hok => rfl); (case hr => rfl); simp only [nm, Nat.reduceAdd]) | (apply mnil; simp only [SlotR.fin, ns]) | (refine msplit rfl (fun h => ?_) (fun h => ?_) <;> simp only [h] <;> (try simp only [nb] at h)))) <;> (repeat' (first | ((first | refine o1 rfl ?_ | refine o0 rfl ?_); intro k hk; simp (disch := omega) only [ev0, sl_cells, simprocAttr, slOf, intsCs, hrow, hrow0, c1', decide_true]; refine hk _ _ ?_; clear hk k) | refine ono rfl ?_ | (apply ocall; (case he => (simp only [ev0, sl_cells, simprocAttr] <;> rfl)); (case hc => first | exact iy); (case ht => rfl); (case hg => rfl)) | ((first | refine osplitG rfl (fun h => ?_) (fun h => ?_) | refine osplitB rfl (fun h => ?_) (fun h => ?_)) <;> (fail_if_success (simp only [eq_self, reduceCtorEq] at h))) | refine onx ?_ | refine onb ?_ | refine sreg ?_ | refine qT rfl ?_ | refine qF rfl ?_ | refine scondT rfl ?_ | refine scondF rfl ?_ | refine ocondP rfl (fun h => ?_) (fun h => ?_) | refine ocondB rfl (fun h => ?_) (fun h => ?_) | refine scondP rfl (fun h => ?_) (fun h => ?_) | refine scond rfl (fun h => ?_) (fun h => ?_) | refine oskip ?_ | refine oskipb ?_ | refine oret ?_ | refine sem_ret ?_ | refine sem_seq ?_ | refine sreg1 ?_)))
          rw [hny (fun q => c2 q.2)]
          exact ⟨_, rfl, _, rfl, tree_eq rfl rfl⟩
      · have c1' : ((row.length : Int) = r0.length) = False := eq_false (by omega)
        ((refine sem_mgo 13 hmix (by kernel_rfl) ?_; simp only [nt]); (repeat' (first | ((first | apply mop | apply mop0); (case hg => rfl); (case hq => rfl); intro k hk; simp (disch := omega) only [ev0, sl_cells, simprocAttr, slOf, intsCs, hrow, hrow0, c1', decide_false]; refine hk _ _ rfl ?_; clear hk k) | (apply mno; (case hg => rfl)) | (apply mcall; (case he => (simp only [ev0, sl_cells, simprocAttr] <;> rfl)); (case hc => first | exact iy); (case ht => rfl); (case hg => rfl); (case hr => rfl)) | (apply mbox; (case hx => (simp only [wv, simprocAttr] <;> rfl)); (case hg => rfl); (case hall => rfl); (case hr => rfl); simp only [nm, Nat.reduceAdd]) | (apply mbldS; (case hb => (simp (disch := omega) only [ev0, sl_cells, simprocAttr] <;> rfl)); (case hg => rfl); (case hr => rfl); simp only [nm, Nat.reduceAdd]) | ((first | (apply msto (q := 0); (case hq => rfl)) | (apply msto (q := 1); (case hq => rfl)) | (apply msto (q := 2); (case hq => rfl)) | (apply msto (q := 3); (case hq => rfl))); (case hx => (simp only [wv, simprocAttr] <;> rfl)); (case haddr => (simp only [wv, simprocAttr] <;> rfl)); (case hg => rfl); (case hl1 => rfl); (case hl2 => rfl); (case hok => rfl); (case hr => rfl); simp only [nm, Nat.reduceAdd]) | (apply mnil; simp only [SlotR.fin, ns]) | (refine msplit rfl (fun h => ?_) (fun h => ?_) <;> simp only [h] <;> (try simp only [nb] at h)))) <;> (repeat' (first | ((first | refine o1 rfl ?_ | refine o0 rfl ?_); intro k hk; simp (disch := omega) only [ev0, sl_cells, simprocAttr, slOf, intsCs, hrow, hrow0, c1', decide_false]; refine hk _ _ ?_; clear hk k) | refine ono rfl ?_ | (apply ocall; (case he => (simp only [ev0, sl_cells, simprocAttr] <;> rfl)); (case hc => first | exact iy); (case ht => rfl); (case hg => rfl)) | ((first | refine osplitG rfl (fun h => ?_) (fun h => ?_) | refine osplitB rfl (fun h => ?_) (fun h => ?_)) <;> (fail_if_success (simp only [eq_self, reduceCtorEq] at h))) | refine onx ?_ | refine onb ?_ | refine sreg ?_ | refine qT rfl ?_ | refine qF rfl ?_ | refine scondT rfl ?_ | refine scondF rfl ?_ | refine ocondP rfl (fun h => ?_) (fun h => ?_) | refine ocondB rfl (fun h => ?_) (fun h => ?_) | refine scondP rfl (fun h => ?_) (fun h => ?_) | refine scond rfl (fun h => ?_) (fun h => ?_) | refine oskip ?_ | refine oskipb ?_ | refine oret ?_ | refine sem_ret ?_ | refine sem_seq ?_ | refine sreg1 ?_)))
        rw [hny (fun q => c1 q.1)]
        exact ⟨_, rfl, _, rfl, tree_eq rfl rfl⟩
    · have hy : y = l.length := by omega
      subst hy
      (refine sem_exit ?_; change sem _ _ _ _ _)
      rw [hyes h2]
      repeat' (first | ((first | refine o1 rfl ?_ | refine o0 rfl ?_); intro k hk; simp (disch := omega) only [ev0, sl_cells, simprocAttr, slOf]; refine hk _ _ ?_; clear hk k) | refine ono rfl ?_ | (apply ocall; (case he => (simp only [ev0, sl_cells, simprocAttr] <;> rfl)); (case hc => first | exact hn); (case ht => rfl); (case hg => rfl)) | ((first | refine osplitG rfl (fun h => ?_) (fun h => ?_) | refine osplitB rfl (fun h => ?_) (fun h => ?_)) <;> (fail_if_success (simp only [eq_self, reduceCtorEq] at h))) | refine onx ?_ | refine onb ?_ | refine sreg ?_ | refine qT rfl ?_ | refine qF rfl ?_ | refine scondT rfl ?_ | refine scondF rfl ?_ | refine ocondP rfl (fun h => ?_) (fun h => ?_) | refine ocondB rfl (fun h => ?_) (fun h => ?_) | refine scondP rfl (fun h => ?_) (fun h => ?_) | refine scond rfl (fun h => ?_) (fun h => ?_) | refine oskip ?_ | refine oskipb ?_ | refine oret ?_ | refine sem_ret ?_ | refine sem_seq ?_ | refine sreg1 ?_)
      exact ⟨_, rfl, _, rfl, tree_eq rfl rfl⟩
end Go.Proofs.YtojkchniefhafaaGreatDoor
