/- The last line of a level book. -/
import Derived.Test.YtojkchniefhafaaGreatDoorPY1
set_option linter.unusedVariables false
set_option linter.unusedSimpArgs false
set_option maxRecDepth 8000
set_option maxHeartbeats 2000000
namespace Go.Tk
open Go Go.Av
theorem cEnd : (⟨#[101, 110, 100, 32]⟩ : ByteArray) = strB [101, 110, 100, 32] := rfl
theorem tmodN (a : Nat) (b : Nat) : Int.tmod (a : Int) (b : Int) = ((a % b : Nat) : Int) := (Int.ofNat_tmod a b).symm
theorem tdivN (a : Nat) (b : Nat) : Int.tdiv (a : Int) (b : Int) = ((a / b : Nat) : Int) := (Int.ofNat_tdiv a b).symm
theorem sumTo_succ (y s : Nat) (row : List Int) (i : Nat) : sumTo y s row (i + 1) = stepS y (sumTo y s row i) i (row.getD i default) := by
  unfold sumTo
  rw [List.range_succ, List.foldl_append]
  rfl
theorem sumAll_succ (l : List (List Int)) (y : Nat) : sumAll l (y + 1) = sumTo y (sumAll l y) (l.getD y default) (l.getD y default).length := by
  unfold sumAll
  rw [List.range_succ, List.foldl_append]
  rfl
theorem stepS_lt (y s i : Nat) (n : Int) : stepS y s i n < 997 := Nat.mod_lt _ (by omega)
theorem sumTo_lt {y s : Nat} (hs : s < 997) (row : List Int) (i : Nat) : sumTo y s row i < 997 := by
  cases i with
  | zero => exact hs
  | succ i => rw [sumTo_succ]; exact stepS_lt _ _ _ _
theorem sumAll_lt (l : List (List Int)) (y : Nat) : sumAll l y < 997 := by
  induction y with
  | zero => unfold sumAll; simp
  | succ y ih => rw [sumAll_succ]; exact sumTo_lt ih _ _
theorem kN_neg {n : Int} (h : n < 0) : (kN n : Int) = -2 * n + 1 := by
  unfold kN
  rw [if_pos h]; omega
theorem kN_pos {n : Int} (h : ¬ n < 0) : (kN n : Int) = 2 * n := by
  unfold kN
  rw [if_neg h]; omega
theorem wrapN' {n : Nat} (h : n < 9223372036854775808) : IntKind.i64.wrap (n : Int) = n := wrap_i64' (by omega)
theorem step_wrap {y s i k : Nat} (hs : s < 997) (hi : i ≤ 30000) (hy : y ≤ 30000) :
    Int.tmod (IntKind.i64.wrap ((s : Int) + IntKind.i64.wrap (Int.tmod (IntKind.i64.wrap (Int.tmod (k : Int) 997 * ((i : Int) + 1))) 997 * ((y : Int) + 1)))) 997 = (((s + k % 997 * (i + 1) % 997 * (y + 1)) % 997 : Nat) : Int) := by
  have e1 : Int.tmod (k : Int) 997 = ((k % 997 : Nat) : Int) := tmodN k 997
  have b1 : k % 997 < 997 := Nat.mod_lt _ (by omega)
  rw [e1]
  generalize k % 997 = a at *
  have e2 : (a : Int) * ((i : Int) + 1) = ((a * (i + 1) : Nat) : Int) := by simp
  have b2 : a * (i + 1) ≤ 997 * 30001 := Nat.mul_le_mul (by omega) (by omega)
  rw [e2, wrapN' (by omega)]
  have e3 : Int.tmod ((a * (i + 1) : Nat) : Int) 997 = ((a * (i + 1) % 997 : Nat) : Int) := tmodN _ 997
  rw [e3]
  have b3 : a * (i + 1) % 997 < 997 := Nat.mod_lt _ (by omega)
  generalize a * (i + 1) % 997 = c at *
  have e4 : (c : Int) * ((y : Int) + 1) = ((c * (y + 1) : Nat) : Int) := by simp
  have b4 : c * (y + 1) ≤ 997 * 30001 := Nat.mul_le_mul (by omega) (by omega)
  rw [e4, wrapN' (by omega)]
  generalize c * (y + 1) = d at *
  have e5 : (s : Int) + (d : Int) = ((s + d : Nat) : Int) := by simp
  rw [e5, wrapN' (by omega)]
  exact tmodN _ 997
end Go.Tk
namespace Go.Proofs.YtojkchniefhafaaGreatDoor
open Go Go.Av Go.Tk
attribute [local irreducible] Holds sem semL ACalls FnIs strB
variable {G : World → Prop} (hG : ∀ w w', G w → RowKit.Below w.heap.size w w' → G w') (hT : ∀ w, G w → GB w)
include hG hT
theorem pile_end (l : List (List Int)) (hl : l.length ≤ 30000) (hr : ∀ y, y < l.length → (l.getD y default).length ≤ 30000 ∧ ∀ n ∈ l.getD y default, n.natAbs ≤ 999999999) : Holds Tryz.prog G F.pile_end [slOf intsCs l] (.str (strB (endV (sumB l) ++ [10]))) := by
  (refine holds_of_sem hG fn_pile_end (by simp) fun w0 S0 hG0 D0 => ?_; unfold c_pile_end cval enterEnv; simp only [List.zipIdx_cons, List.zipIdx_nil, List.map_cons, List.map_nil, Nat.zero_add, Nat.reduceAdd])
  repeat' (first | ((first | refine o1 rfl ?_ | refine o0 rfl ?_); intro k hk; simp (disch := omega) only [ev0, sl_cells, simprocAttr, slOf]; refine hk _ _ ?_; clear hk k) | refine ono rfl ?_ | ((first | refine osplitG rfl (fun h => ?_) (fun h => ?_) | refine osplitB rfl (fun h => ?_) (fun h => ?_)) <;> (fail_if_success (simp only [eq_self, reduceCtorEq] at h))) | refine onx ?_ | refine onb ?_ | refine sreg ?_ | refine qT rfl ?_ | refine qF rfl ?_ | refine scondT rfl ?_ | refine scondF rfl ?_ | refine ocondP rfl (fun h => ?_) (fun h => ?_) | refine ocondB rfl (fun h => ?_) (fun h => ?_) | refine scondP rfl (fun h => ?_) (fun h => ?_) | refine scond rfl (fun h => ?_) (fun h => ?_) | refine oskip ?_ | refine oskipb ?_ | refine oret ?_ | refine sem_ret ?_ | refine sem_seq ?_ | refine sreg1 ?_)
  refine sem_block ?_
  
  refine sem_loop (α := Nat) (fun y => ⟨[(3, I (sumAll l y)), (9, slOf intsCs l), (10, I l.length), (11, I y)], []⟩) (fun y => y ≤ l.length) (fun y => l.length - y) 0 (Nat.zero_le _) ?_ ?_
  · (refine Le.same ?_; simp only [List.forall_mem_cons, List.forall_mem_nil, getE, selE, Nat.reduceBEq, List.not_mem_nil, false_implies, implies_true, and_true, true_and, and_self])
    simp [slOf, sumAll]
  · intro y hy
    have hs0 := sumAll_lt l y
    have hsy := sumAll_succ l y
    have hry := hr y
    generalize hs0e : sumAll l y = s0 at *
    repeat' (first | ((first | refine o1 rfl ?_ | refine o0 rfl ?_); intro k hk; simp (disch := omega) only [ev0, sl_cells, simprocAttr, slOf]; refine hk _ _ ?_; clear hk k) | refine ono rfl ?_ | ((first | refine osplitG rfl (fun h => ?_) (fun h => ?_) | refine osplitB rfl (fun h => ?_) (fun h => ?_)) <;> (fail_if_success (simp only [eq_self, reduceCtorEq] at h))) | refine onx ?_ | refine onb ?_ | refine sreg ?_ | refine qT rfl ?_ | refine qF rfl ?_ | refine scondT rfl ?_ | refine scondF rfl ?_ | refine ocondP rfl (fun h => ?_) (fun h => ?_) | refine ocondB rfl (fun h => ?_) (fun h => ?_) | refine scondP rfl (fun h => ?_) (fun h => ?_) | refine scond rfl (fun h => ?_) (fun h => ?_) | refine oskip ?_ | refine oskipb ?_ | refine oret ?_ | refine sem_ret ?_ | refine sem_seq ?_ | refine sreg1 ?_)
    · have hy' : y < l.length := by omega
      replace hry := hry hy'
      generalize hrow : l.getD y default = row at *
      refine sem_block ?_
      repeat' (first | ((first | refine o1 rfl ?_ | refine o0 rfl ?_); intro k hk; simp (disch := omega) only [ev0, sl_cells, simprocAttr, slOf, intsCs, hrow]; refine hk _ _ ?_; clear hk k) | refine ono rfl ?_ | ((first | refine osplitG rfl (fun h => ?_) (fun h => ?_) | refine osplitB rfl (fun h => ?_) (fun h => ?_)) <;> (fail_if_success (simp only [eq_self, reduceCtorEq] at h))) | refine onx ?_ | refine onb ?_ | refine sreg ?_ | refine qT rfl ?_ | refine qF rfl ?_ | refine scondT rfl ?_ | refine scondF rfl ?_ | refine ocondP rfl (fun h => ?_) (fun h => ?_) | refine ocondB rfl (fun h => ?_) (fun h => ?_) | refine scondP rfl (fun h => ?_) (fun h => ?_) | refine scond rfl (fun h => ?_) (fun h => ?_) | refine oskip ?_ | refine oskipb ?_ | refine oret ?_ | refine sem_ret ?_ | refine sem_seq ?_ | refine sreg1 ?_)
      refine sem_block ?_
      
      refine sem_loop (α := Nat) (fun i => ⟨[(3, I (sumTo y s0 row i)), (4, I y), (9, slOf intsCs l), (10, I l.length), (11, I y), (16, slOf intCs row), (17, I row.length), (18, I i)], []⟩) (fun i => i ≤ row.length) (fun i => row.length - i) 0 (Nat.zero_le _) ?_ ?_
      · (refine Le.same ?_; simp only [List.forall_mem_cons, List.forall_mem_nil, getE, selE, Nat.reduceBEq, List.not_mem_nil, false_implies, implies_true, and_true, true_and, and_self])
        simp [slOf, intsCs, sumTo]
      · intro i hi
        have hs1 := sumTo_lt (y := y) hs0 row i
        have hsi := sumTo_succ y s0 row i
        generalize hsT : sumTo y s0 row i = s at *
        repeat' (first | ((first | refine o1 rfl ?_ | refine o0 rfl ?_); intro k hk; simp (disch := omega) only [ev0, sl_cells, simprocAttr, slOf]; refine hk _ _ ?_; clear hk k) | refine ono rfl ?_ | ((first | refine osplitG rfl (fun h => ?_) (fun h => ?_) | refine osplitB rfl (fun h => ?_) (fun h => ?_)) <;> (fail_if_success (simp only [eq_self, reduceCtorEq] at h))) | refine onx ?_ | refine onb ?_ | refine sreg ?_ | refine qT rfl ?_ | refine qF rfl ?_ | refine scondT rfl ?_ | refine scondF rfl ?_ | refine ocondP rfl (fun h => ?_) (fun h => ?_) | refine ocondB rfl (fun h => ?_) (fun h => ?_) | refine scondP rfl (fun h => ?_) (fun h => ?_) | refine scond rfl (fun h => ?_) (fun h => ?_) | refine oskip ?_ | refine oskipb ?_ | refine oret ?_ | refine sem_ret ?_ | refine sem_seq ?_ | refine sreg1 ?_)
        · have hi' : i < row.length := by omega
          have hni := hry.2 (row.getD i default) (by rw [getD_lt hi']; exact List.getElem_mem _)
          generalize hv : row.getD i default = v at *
          refine sem_block ?_
          by_cases hneg : v < 0
          · have hk := kN_neg hneg
            repeat' (first | ((first | refine o1 rfl ?_ | refine o0 rfl ?_); intro k hk; simp (disch := omega) only [ev0, sl_cells, simprocAttr, slOf, intCs, hv, hneg]; refine hk _ _ ?_; clear hk k) | refine ono rfl ?_ | ((first | refine osplitG rfl (fun h => ?_) (fun h => ?_) | refine osplitB rfl (fun h => ?_) (fun h => ?_)) <;> (fail_if_success (simp only [eq_self, reduceCtorEq] at h))) | refine onx ?_ | refine onb ?_ | refine sreg ?_ | refine qT rfl ?_ | refine qF rfl ?_ | refine scondT rfl ?_ | refine scondF rfl ?_ | refine ocondP rfl (fun h => ?_) (fun h => ?_) | refine ocondB rfl (fun h => ?_) (fun h => ?_) | refine scondP rfl (fun h => ?_) (fun h => ?_) | refine scond rfl (fun h => ?_) (fun h => ?_) | refine oskip ?_ | refine oskipb ?_ | refine oret ?_ | refine sem_ret ?_ | refine sem_seq ?_ | refine sreg1 ?_)
            refine onil (lnext (i + 1) (by omega) (by omega) ?_)
            rw [← hk, step_wrap hs1 (by omega) (by omega), hsi]
            (refine Le.same ?_; simp only [List.forall_mem_cons, List.forall_mem_nil, getE, selE, Nat.reduceBEq, List.not_mem_nil, false_implies, implies_true, and_true, true_and, and_self])
            simp [slOf, intsCs, intCs, stepS]
          · have hk := kN_pos hneg
            repeat' (first | ((first | refine o1 rfl ?_ | refine o0 rfl ?_); intro k hk; simp (disch := omega) only [ev0, sl_cells, simprocAttr, slOf, intCs, hv, hneg]; refine hk _ _ ?_; clear hk k) | refine ono rfl ?_ | ((first | refine osplitG rfl (fun h => ?_) (fun h => ?_) | refine osplitB rfl (fun h => ?_) (fun h => ?_)) <;> (fail_if_success (simp only [eq_self, reduceCtorEq] at h))) | refine onx ?_ | refine onb ?_ | refine sreg ?_ | refine qT rfl ?_ | refine qF rfl ?_ | refine scondT rfl ?_ | refine scondF rfl ?_ | refine ocondP rfl (fun h => ?_) (fun h => ?_) | refine ocondB rfl (fun h => ?_) (fun h => ?_) | refine scondP rfl (fun h => ?_) (fun h => ?_) | refine scond rfl (fun h => ?_) (fun h => ?_) | refine oskip ?_ | refine oskipb ?_ | refine oret ?_ | refine sem_ret ?_ | refine sem_seq ?_ | refine sreg1 ?_)
            refine onil (lnext (i + 1) (by omega) (by omega) ?_)
            rw [← hk, step_wrap hs1 (by omega) (by omega), hsi]
            (refine Le.same ?_; simp only [List.forall_mem_cons, List.forall_mem_nil, getE, selE, Nat.reduceBEq, List.not_mem_nil, false_implies, implies_true, and_true, true_and, and_self])
            simp [slOf, intsCs, intCs, stepS]
        · have hi' : i = row.length := by omega
          subst hi'
          (refine sem_exit ?_; change sem _ _ _ _ _)
          repeat' (first | ((first | refine o1 rfl ?_ | refine o0 rfl ?_); intro k hk; simp (disch := omega) only [ev0, sl_cells, simprocAttr]; refine hk _ _ ?_; clear hk k) | refine ono rfl ?_ | ((first | refine osplitG rfl (fun h => ?_) (fun h => ?_) | refine osplitB rfl (fun h => ?_) (fun h => ?_)) <;> (fail_if_success (simp only [eq_self, reduceCtorEq] at h))) | refine onx ?_ | refine onb ?_ | refine sreg ?_ | refine qT rfl ?_ | refine qF rfl ?_ | refine scondT rfl ?_ | refine scondF rfl ?_ | refine ocondP rfl (fun h => ?_) (fun h => ?_) | refine ocondB rfl (fun h => ?_) (fun h => ?_) | refine scondP rfl (fun h => ?_) (fun h => ?_) | refine scond rfl (fun h => ?_) (fun h => ?_) | refine oskip ?_ | refine oskipb ?_ | refine oret ?_ | refine sem_ret ?_ | refine sem_seq ?_ | refine sreg1 ?_)
          refine onil (lnext (y + 1) (by omega) (by omega) ?_)
          rw [hsy, hsT]
          (refine Le.same ?_; simp only [List.forall_mem_cons, List.forall_mem_nil, getE, selE, Nat.reduceBEq, List.not_mem_nil, false_implies, implies_true, and_true, true_and, and_self])
          simp [slOf, intsCs]
    · have hy' : y = l.length := by omega
      subst hy'
      have hd1 : Int.tdiv (s0 : Int) 100 = ((s0 / 100 : Nat) : Int) := tdivN s0 100
      have hd2 : Int.tdiv (s0 : Int) 10 = ((s0 / 10 : Nat) : Int) := tdivN s0 10
      have hd3 : Int.tmod ((s0 / 10 : Nat) : Int) 10 = ((s0 / 10 % 10 : Nat) : Int) := tmodN _ 10
      have hd4 : Int.tmod (s0 : Int) 10 = ((s0 % 10 : Nat) : Int) := tmodN _ 10
      have i1 := strconv_Itoa hT ((s0 / 100 : Nat) : Int) (by omega) (by omega)
      have i2 := strconv_Itoa hT ((s0 / 10 % 10 : Nat) : Int) (by omega) (by omega)
      have i3 := strconv_Itoa hT ((s0 % 10 : Nat) : Int) (by omega) (by omega)
      have l1 := itoa_len (n := ((s0 / 100 : Nat) : Int)) (by omega) (by omega)
      have l2 := itoa_len (n := ((s0 / 10 % 10 : Nat) : Int)) (by omega) (by omega)
      have l3 := itoa_len (n := ((s0 % 10 : Nat) : Int)) (by omega) (by omega)
      unfold endV
      rw [show sumB l = s0 from hs0e]
      (refine sem_exit ?_; change sem _ _ _ _ _)
      repeat' (first | ((first | refine o1 rfl ?_ | refine o0 rfl ?_); intro k hk; simp (disch := omega) only [ev0, sl_cells, simprocAttr, hd1, hd2, hd3, hd4, strB_size, strB_app, c32, c10, cEnd, if_pos, List.length_append, List.length_cons, List.length_nil]; refine hk _ _ ?_; clear hk k) | refine ono rfl ?_ | (apply ocall; (case he => (simp only [ev0, sl_cells, simprocAttr] <;> rfl)); (case hc => first | exact i1 | exact i2 | exact i3); (case ht => rfl); (case hg => rfl)) | ((first | refine osplitG rfl (fun h => ?_) (fun h => ?_) | refine osplitB rfl (fun h => ?_) (fun h => ?_)) <;> (fail_if_success (simp only [eq_self, reduceCtorEq] at h))) | refine onx ?_ | refine onb ?_ | refine sreg ?_ | refine qT rfl ?_ | refine qF rfl ?_ | refine scondT rfl ?_ | refine scondF rfl ?_ | refine ocondP rfl (fun h => ?_) (fun h => ?_) | refine ocondB rfl (fun h => ?_) (fun h => ?_) | refine scondP rfl (fun h => ?_) (fun h => ?_) | refine scond rfl (fun h => ?_) (fun h => ?_) | refine oskip ?_ | refine oskipb ?_ | refine oret ?_ | refine sem_ret ?_ | refine sem_seq ?_ | refine sreg1 ?_)
      exact ⟨_, rfl, _, rfl, tree_eq rfl rfl⟩
end Go.Proofs.YtojkchniefhafaaGreatDoor
