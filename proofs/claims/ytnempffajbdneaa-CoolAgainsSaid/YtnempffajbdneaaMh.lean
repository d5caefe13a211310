/- The reference: without, sites, cost, before, order. -/
import Derived.Test.YtnempffajbdneaaMg
import Derived.Test.YtnempffajbdneaaMo
import Derived.Test.YtnempffajbdneaaMf
set_option linter.unusedVariables false
set_option linter.unusedSimpArgs false
set_option maxRecDepth 8000
set_option maxHeartbeats 2000000
namespace Go.Tk
open Go Go.Av
theorem without_take {l failed : List Int} {i : Nat} (h : i < l.length) : withoutL (l.take (i + 1)) failed = if l.getD i default ∈ failed then withoutL (l.take i) failed else withoutL (l.take i) failed ++ [l.getD i default] := by
  unfold withoutL
  rw [List.take_add_one, List.getElem?_eq_getElem h, List.filter_append, getD_lt h]
  by_cases hm : l[i] ∈ failed <;> simp [hm]
theorem without_len (l failed : List Int) : (withoutL l failed).length ≤ l.length := List.length_filter_le _ _
def sitesL (n : Nat) : List Int := (List.range n).map fun i : Nat => (i : Int)
theorem sitesL_succ (n : Nat) : sitesL (n + 1) = sitesL n ++ [(n : Int)] := by simp [sitesL, List.range_succ]
theorem sitesL_len (n : Nat) : (sitesL n).length = n := by simp [sitesL]
def costOf (t : CoolTown) (i : Int) : Int := (t.sites.getD i.toNat default).cost
def costL (t : CoolTown) (l : List Int) : Int := sumL (l.map (costOf t))
theorem costOf_bound {t : CoolTown} (ht : t.ok) {i : Int} (hi : 0 ≤ i ∧ i < t.sites.length) : 0 ≤ costOf t i ∧ costOf t i ≤ 1000000 := by
  have := all_getD.1 ht.2.2.2 i.toNat (by omega)
  exact this.1
theorem range_all (n : Nat) : ((List.range n).all fun _ => true) = true := by simp
/-- Bought coolers, each at most once. -/
def orderOk (b o : List Int) : Prop := ∀ i, i < o.length → o.getD i default ∈ b ∧ o.getD i default ∉ o.take i
noncomputable instance (b o) : Decidable (orderOk b o) := Classical.propDecidable _
end Go.Tk
namespace Go.Proofs.Ytnempffajbdneaa
open Go Go.Av Go.Tk
attribute [local irreducible] Holds sem semL ACalls FnIs
variable {G : World → Prop} (hG : ∀ w w', G w → RowKit.Below w.heap.size w w' → G w')
include hG
theorem ref03_Without (l failed : List Int) (hl : l.length ≤ 1000) (hf : failed.length ≤ 1000) : Holds Try.prog G F.ref03_Without [slOf intCs l, slOf intCs failed] (slOf intCs (withoutL l failed)) := by
  (refine holds_of_sem hG fn_ref03_Without (by simp) fun w0 S0 hG0 D0 => ?_; unfold c_ref03_Without cval enterEnv; simp only [List.zipIdx_cons, List.zipIdx_nil, List.map_cons, List.map_nil, Nat.zero_add, Nat.reduceAdd])
  repeat' (first | ((first | refine o1 rfl ?_ | refine o0 rfl ?_); intro k hk; simp (disch := omega) only [ev0, sl_cells, simprocAttr]; refine hk _ _ ?_; clear hk k) | refine ono rfl ?_ | ((first | refine osplitG rfl (fun h => ?_) (fun h => ?_) | refine osplitB rfl (fun h => ?_) (fun h => ?_)) <;> (fail_if_success (simp only [eq_self, reduceCtorEq] at h))) | refine onx ?_ | refine onb ?_ | refine sreg ?_ | refine qT rfl ?_ | refine qF rfl ?_ | refine scondT rfl ?_ | refine scondF rfl ?_ | refine ocondP rfl (fun h => ?_) (fun h => ?_) | refine ocondB rfl (fun h => ?_) (fun h => ?_) | refine scondP rfl (fun h => ?_) (fun h => ?_) | refine scond rfl (fun h => ?_) (fun h => ?_) | refine oskip ?_ | refine oskipb ?_ | refine oret ?_ | refine sem_ret ?_ | refine sem_seq ?_ | refine sreg1 ?_)
  refine sem_block ?_
  (refine sem_ghost 5 3 1 rfl ?_; simp only [List.length_cons, List.length_nil, Nat.reduceAdd, Nat.zero_add, List.cons_append, List.nil_append])
  
  refine sem_loop (α := Nat) (fun i => ⟨[(0, slOf intCs l), (1, slOf intCs failed), (5, .hsl 0 (withoutL (l.take i) failed).length 1 (withoutL (l.take i) failed).length), (6, I i)], [.row 3 (withoutL (l.take i) failed).length 1 (rowL intCs (withoutL (l.take i) failed))]⟩) (fun i => i ≤ l.length) (fun i => l.length - i) 0 (Nat.zero_le _) ?_ ?_
  · (refine Le.same ?_; simp only [List.forall_mem_cons, List.forall_mem_nil, getE, selE, Nat.reduceBEq, List.not_mem_nil, false_implies, implies_true, and_true, true_and, and_self])
    simp [withoutL, slOf]
  · intro i hi
    have hwl := without_len (l.take i) failed
    have hli : (l.take i).length ≤ 1000 := by rw [List.length_take]; omega
    have hs := fun hh : i < l.length => without_take (failed := failed) hh
    generalize hL : withoutL (l.take i) failed = L at *
    repeat' (first | ((first | refine o1 rfl ?_ | refine o0 rfl ?_); intro k hk; simp (disch := omega) only [ev0, sl_cells, simprocAttr, slOf]; refine hk _ _ ?_; clear hk k) | refine ono rfl ?_ | ((first | refine osplitG rfl (fun h => ?_) (fun h => ?_) | refine osplitB rfl (fun h => ?_) (fun h => ?_)) <;> (fail_if_success (simp only [eq_self, reduceCtorEq] at h))) | refine onx ?_ | refine onb ?_ | refine sreg ?_ | refine qT rfl ?_ | refine qF rfl ?_ | refine scondT rfl ?_ | refine scondF rfl ?_ | refine ocondP rfl (fun h => ?_) (fun h => ?_) | refine ocondB rfl (fun h => ?_) (fun h => ?_) | refine scondP rfl (fun h => ?_) (fun h => ?_) | refine scond rfl (fun h => ?_) (fun h => ?_) | refine oskip ?_ | refine oskipb ?_ | refine oret ?_ | refine sem_ret ?_ | refine sem_seq ?_ | refine sreg1 ?_)
    · have hi' : i < l.length := by omega
      replace hs := hs hi'
      have e1 := rowL_take (enc := intCs) (l := L)
      refine sem_block ?_
      repeat' (first | ((first | refine o1 rfl ?_ | refine o0 rfl ?_); intro k hk; simp (disch := omega) only [ev0, sl_cells, simprocAttr, slOf, intCs]; refine hk _ _ ?_; clear hk k) | refine ono rfl ?_ | (apply ocall; (case he => (simp only [ev0, sl_cells, simprocAttr] <;> rfl)); (case hc => first | exact ref03_Has hG failed (l.getD i default) hf); (case ht => rfl); (case hg => rfl)) | ((first | refine osplitG rfl (fun h => ?_) (fun h => ?_) | refine osplitB rfl (fun h => ?_) (fun h => ?_)) <;> (fail_if_success (simp only [eq_self, reduceCtorEq] at h))) | refine onx ?_ | refine onb ?_ | refine sreg ?_ | refine qT rfl ?_ | refine qF rfl ?_ | refine scondT rfl ?_ | refine scondF rfl ?_ | refine ocondP rfl (fun h => ?_) (fun h => ?_) | refine ocondB rfl (fun h => ?_) (fun h => ?_) | refine scondP rfl (fun h => ?_) (fun h => ?_) | refine scond rfl (fun h => ?_) (fun h => ?_) | refine oskip ?_ | refine oskipb ?_ | refine oret ?_ | refine sem_ret ?_ | refine sem_seq ?_ | refine sreg1 ?_)
      · rename_i h
        simp only [Bool.not_eq_true', decide_eq_false_iff_not] at h
        rw [if_neg h] at hs
        refine onil (lnext (i + 1) (by omega) (by omega) ?_)
        rw [hs, e1, show ∀ v : Int, [[AV.int .i64 v]] = [intCs v] from fun _ => rfl, rowL_snoc, List.length_append]
        (refine Le.drop ?_ rfl (by simp) rfl (by simp only [refM, refO, List.all_cons, List.all_nil, Bool.and_true, Bool.true_and, rowL_all (enc := intCs) (fun _ _ => rfl)]; first | done | rfl) ; simp only [List.forall_mem_cons, List.forall_mem_nil, getE, selE, Nat.reduceBEq, List.not_mem_nil, false_implies, implies_true, and_true, true_and, and_self])
        simp [slOf]
      · rename_i h
        simp only [Bool.not_eq_false', decide_eq_true_eq] at h
        rw [if_pos h] at hs
        refine onil (lnext (i + 1) (by omega) (by omega) ?_)
        rw [hs]
        (refine Le.same ?_; simp only [List.forall_mem_cons, List.forall_mem_nil, getE, selE, Nat.reduceBEq, List.not_mem_nil, false_implies, implies_true, and_true, true_and, and_self])
        simp [slOf]
    · have hi' : i = l.length := by omega
      subst hi'
      rw [List.take_length] at hL
      rw [hL]
      (refine sem_exit ?_; change sem _ _ _ _ _)
      refine sem_frzlist (enc := intCs) 0 rfl (fun _ => rfl) ?_
      simp only [frzE, frzM, frzO, frzA, frzL, List.map_cons, List.map_nil, List.set_cons_zero, List.set_cons_succ, Nat.reduceEqDiff, if_true, if_false, and_self, Nat.le_refl, reduceIte, frz_sl]
      repeat' (first | ((first | refine o1 rfl ?_ | refine o0 rfl ?_); intro k hk; simp (disch := omega) only [ev0, sl_cells, simprocAttr]; refine hk _ _ ?_; clear hk k) | refine ono rfl ?_ | ((first | refine osplitG rfl (fun h => ?_) (fun h => ?_) | refine osplitB rfl (fun h => ?_) (fun h => ?_)) <;> (fail_if_success (simp only [eq_self, reduceCtorEq] at h))) | refine onx ?_ | refine onb ?_ | refine sreg ?_ | refine qT rfl ?_ | refine qF rfl ?_ | refine scondT rfl ?_ | refine scondF rfl ?_ | refine ocondP rfl (fun h => ?_) (fun h => ?_) | refine ocondB rfl (fun h => ?_) (fun h => ?_) | refine scondP rfl (fun h => ?_) (fun h => ?_) | refine scond rfl (fun h => ?_) (fun h => ?_) | refine oskip ?_ | refine oskipb ?_ | refine oret ?_ | refine sem_ret ?_ | refine sem_seq ?_ | refine sreg1 ?_)
      exact ⟨_, rfl, _, rfl, tree_eq rfl rfl⟩

theorem ref03_Sites (t : CoolTown) (hn : t.sites.length ≤ 1000) : Holds Try.prog G F.ref03_Sites [.agg t.cs] (slOf intCs (sitesL t.sites.length)) := by
  (refine holds_of_sem hG fn_ref03_Sites (by simp) fun w0 S0 hG0 D0 => ?_; unfold c_ref03_Sites cval enterEnv; simp only [List.zipIdx_cons, List.zipIdx_nil, List.map_cons, List.map_nil, Nat.zero_add, Nat.reduceAdd])
  repeat' (first | ((first | refine o1 rfl ?_ | refine o0 rfl ?_); intro k hk; simp (disch := omega) only [ev0, sl_cells, simprocAttr]; refine hk _ _ ?_; clear hk k) | refine ono rfl ?_ | ((first | refine osplitG rfl (fun h => ?_) (fun h => ?_) | refine osplitB rfl (fun h => ?_) (fun h => ?_)) <;> (fail_if_success (simp only [eq_self, reduceCtorEq] at h))) | refine onx ?_ | refine onb ?_ | refine sreg ?_ | refine qT rfl ?_ | refine qF rfl ?_ | refine scondT rfl ?_ | refine scondF rfl ?_ | refine ocondP rfl (fun h => ?_) (fun h => ?_) | refine ocondB rfl (fun h => ?_) (fun h => ?_) | refine scondP rfl (fun h => ?_) (fun h => ?_) | refine scond rfl (fun h => ?_) (fun h => ?_) | refine oskip ?_ | refine oskipb ?_ | refine oret ?_ | refine sem_ret ?_ | refine sem_seq ?_ | refine sreg1 ?_)
  refine sem_block ?_
  (refine sem_ghost 3 3 1 rfl ?_; simp only [List.length_cons, List.length_nil, Nat.reduceAdd, Nat.zero_add, List.cons_append, List.nil_append])
  
  refine sem_loop (α := Nat) (fun i => ⟨[(1, .ptr 0 0 2 0 0), (3, .hsl 1 (sitesL i).length 1 (sitesL i).length), (4, I i)], [.row 25 0 2 [t.cs], .row 3 (sitesL i).length 1 (rowL intCs (sitesL i))]⟩) (fun i => i ≤ t.sites.length) (fun i => t.sites.length - i) 0 (Nat.zero_le _) ?_ ?_
  · (refine Le.same ?_; simp only [List.forall_mem_cons, List.forall_mem_nil, getE, selE, Nat.reduceBEq, List.not_mem_nil, false_implies, implies_true, and_true, true_and, and_self])
    simp [sitesL, slOf, CoolTown.cs]
  · intro i hi
    have hwl := sitesL_len i
    have hs := sitesL_succ i
    generalize hL : sitesL i = L at *
    repeat' (first | ((first | refine o1 rfl ?_ | refine o0 rfl ?_); intro k hk; simp (disch := omega) only [ev0, sl_cells, simprocAttr, CoolTown.cs, slOf]; refine hk _ _ ?_; clear hk k) | refine ono rfl ?_ | ((first | refine osplitG rfl (fun h => ?_) (fun h => ?_) | refine osplitB rfl (fun h => ?_) (fun h => ?_)) <;> (fail_if_success (simp only [eq_self, reduceCtorEq] at h))) | refine onx ?_ | refine onb ?_ | refine sreg ?_ | refine qT rfl ?_ | refine qF rfl ?_ | refine scondT rfl ?_ | refine scondF rfl ?_ | refine ocondP rfl (fun h => ?_) (fun h => ?_) | refine ocondB rfl (fun h => ?_) (fun h => ?_) | refine scondP rfl (fun h => ?_) (fun h => ?_) | refine scond rfl (fun h => ?_) (fun h => ?_) | refine oskip ?_ | refine oskipb ?_ | refine oret ?_ | refine sem_ret ?_ | refine sem_seq ?_ | refine sreg1 ?_)
    · have hi' : i < t.sites.length := by omega
      have e1 := rowL_take (enc := intCs) (l := L)
      refine sem_block ?_
      repeat' (first | ((first | refine o1 rfl ?_ | refine o0 rfl ?_); intro k hk; simp (disch := omega) only [ev0, sl_cells, simprocAttr]; refine hk _ _ ?_; clear hk k) | refine ono rfl ?_ | ((first | refine osplitG rfl (fun h => ?_) (fun h => ?_) | refine osplitB rfl (fun h => ?_) (fun h => ?_)) <;> (fail_if_success (simp only [eq_self, reduceCtorEq] at h))) | refine onx ?_ | refine onb ?_ | refine sreg ?_ | refine qT rfl ?_ | refine qF rfl ?_ | refine scondT rfl ?_ | refine scondF rfl ?_ | refine ocondP rfl (fun h => ?_) (fun h => ?_) | refine ocondB rfl (fun h => ?_) (fun h => ?_) | refine scondP rfl (fun h => ?_) (fun h => ?_) | refine scond rfl (fun h => ?_) (fun h => ?_) | refine oskip ?_ | refine oskipb ?_ | refine oret ?_ | refine sem_ret ?_ | refine sem_seq ?_ | refine sreg1 ?_)
      refine onil (lnext (i + 1) (by omega) (by omega) ?_)
      rw [hs, e1, show ∀ v : Int, [[AV.int .i64 v]] = [intCs v] from fun _ => rfl, rowL_snoc, List.length_append]
      (refine Le.drop ?_ rfl (by simp) rfl (by simp only [refM, refO, List.all_cons, List.all_nil, Bool.and_true, Bool.true_and, rowL_all (enc := intCs) (fun _ _ => rfl), CoolTown.cs]; first | done | rfl) ; simp only [List.forall_mem_cons, List.forall_mem_nil, getE, selE, Nat.reduceBEq, List.not_mem_nil, false_implies, implies_true, and_true, true_and, and_self])
      simp
    · have hi' : i = t.sites.length := by omega
      subst hi'
      rw [hL]
      (refine sem_exit ?_; change sem _ _ _ _ _)
      refine sem_frzlist (enc := intCs) 1 rfl (fun _ => rfl) ?_
      simp only [frzE, frzM, frzO, frzA, frzL, List.map_cons, List.map_nil, List.set_cons_zero, List.set_cons_succ, Nat.reduceEqDiff, if_true, if_false, and_self, Nat.le_refl, reduceIte, frz_sl]
      repeat' (first | ((first | refine o1 rfl ?_ | refine o0 rfl ?_); intro k hk; simp (disch := omega) only [ev0, sl_cells, simprocAttr]; refine hk _ _ ?_; clear hk k) | refine ono rfl ?_ | ((first | refine osplitG rfl (fun h => ?_) (fun h => ?_) | refine osplitB rfl (fun h => ?_) (fun h => ?_)) <;> (fail_if_success (simp only [eq_self, reduceCtorEq] at h))) | refine onx ?_ | refine onb ?_ | refine sreg ?_ | refine qT rfl ?_ | refine qF rfl ?_ | refine scondT rfl ?_ | refine scondF rfl ?_ | refine ocondP rfl (fun h => ?_) (fun h => ?_) | refine ocondB rfl (fun h => ?_) (fun h => ?_) | refine scondP rfl (fun h => ?_) (fun h => ?_) | refine scond rfl (fun h => ?_) (fun h => ?_) | refine oskip ?_ | refine oskipb ?_ | refine oret ?_ | refine sem_ret ?_ | refine sem_seq ?_ | refine sreg1 ?_)
      exact ⟨_, rfl, _, rfl, tree_eq rfl rfl⟩

theorem ref03_Cost (t : CoolTown) (ht : t.ok) (l : List Int) (hl : l.length ≤ 1000) (hb : ∀ i ∈ l, 0 ≤ i ∧ i < t.sites.length) : Holds Try.prog G F.ref03_Cost [.agg t.cs, slOf intCs l] (I (costL t l)) := by
  (refine holds_of_sem hG fn_ref03_Cost (by simp) fun w0 S0 hG0 D0 => ?_; unfold c_ref03_Cost cval enterEnv; simp only [List.zipIdx_cons, List.zipIdx_nil, List.map_cons, List.map_nil, Nat.zero_add, Nat.reduceAdd])
  repeat' (first | ((first | refine o1 rfl ?_ | refine o0 rfl ?_); intro k hk; simp (disch := omega) only [ev0, sl_cells, simprocAttr]; refine hk _ _ ?_; clear hk k) | refine ono rfl ?_ | ((first | refine osplitG rfl (fun h => ?_) (fun h => ?_) | refine osplitB rfl (fun h => ?_) (fun h => ?_)) <;> (fail_if_success (simp only [eq_self, reduceCtorEq] at h))) | refine onx ?_ | refine onb ?_ | refine sreg ?_ | refine qT rfl ?_ | refine qF rfl ?_ | refine scondT rfl ?_ | refine scondF rfl ?_ | refine ocondP rfl (fun h => ?_) (fun h => ?_) | refine ocondB rfl (fun h => ?_) (fun h => ?_) | refine scondP rfl (fun h => ?_) (fun h => ?_) | refine scond rfl (fun h => ?_) (fun h => ?_) | refine oskip ?_ | refine oskipb ?_ | refine oret ?_ | refine sem_ret ?_ | refine sem_seq ?_ | refine sreg1 ?_)
  refine sem_block ?_
  
  refine sem_loop (α := Nat) (fun i => ⟨[(1, slOf intCs l), (2, .ptr 0 0 2 0 0), (5, I (costL t (l.take i))), (6, I i)], [.row 25 0 2 [t.cs]]⟩) (fun i => i ≤ l.length) (fun i => l.length - i) 0 (Nat.zero_le _) ?_ ?_
  · (refine Le.same ?_; simp only [List.forall_mem_cons, List.forall_mem_nil, getE, selE, Nat.reduceBEq, List.not_mem_nil, false_implies, implies_true, and_true, true_and, and_self])
    simp [costL, sumL, slOf, CoolTown.cs]
  · intro i hi
    have hbi := sumL_bound (c := 1000000) (l := (l.take i).map (costOf t)) fun v hv => by
      obtain ⟨j, hj, rfl⟩ := List.mem_map.1 hv
      exact costOf_bound ht (hb j (List.mem_of_mem_take hj))
    rw [List.length_map, List.length_take] at hbi
    change 0 ≤ costL t (l.take i) ∧ costL t (l.take i) ≤ _ at hbi
    repeat' (first | ((first | refine o1 rfl ?_ | refine o0 rfl ?_); intro k hk; simp (disch := omega) only [ev0, sl_cells, simprocAttr, slOf]; refine hk _ _ ?_; clear hk k) | refine ono rfl ?_ | ((first | refine osplitG rfl (fun h => ?_) (fun h => ?_) | refine osplitB rfl (fun h => ?_) (fun h => ?_)) <;> (fail_if_success (simp only [eq_self, reduceCtorEq] at h))) | refine onx ?_ | refine onb ?_ | refine sreg ?_ | refine qT rfl ?_ | refine qF rfl ?_ | refine scondT rfl ?_ | refine scondF rfl ?_ | refine ocondP rfl (fun h => ?_) (fun h => ?_) | refine ocondB rfl (fun h => ?_) (fun h => ?_) | refine scondP rfl (fun h => ?_) (fun h => ?_) | refine scond rfl (fun h => ?_) (fun h => ?_) | refine oskip ?_ | refine oskipb ?_ | refine oret ?_ | refine sem_ret ?_ | refine sem_seq ?_ | refine sreg1 ?_)
    · have hi' : i < l.length := by omega
      have hwi := hb (l.getD i default) (by rw [getD_lt hi']; exact List.getElem_mem _)
      have hcb := costOf_bound ht hwi
      have htk : costL t (l.take (i + 1)) = costL t (l.take i) + costOf t (l.getD i default) := by
        unfold costL
        rw [map_take_getD (costOf t) hi', sumL_append]
        simp [sumL]
      obtain ⟨n, hn'⟩ := Int.eq_ofNat_of_zero_le hwi.1
      generalize hwv : l.getD i default = v at *
      subst hn'
      have hnl : n < t.sites.length := by omega
      have hgo : costOf t (n : Int) = (t.sites.getD n default).cost := rfl
      rw [hgo] at hcb
      refine sem_block ?_
      repeat' (first | ((first | refine o1 rfl ?_ | refine o0 rfl ?_); intro k hk; simp (disch := omega) only [ev0, sl_cells, simprocAttr]; refine hk _ _ ?_; clear hk k) | refine ono rfl ?_ | ((first | refine osplitG rfl (fun h => ?_) (fun h => ?_) | refine osplitB rfl (fun h => ?_) (fun h => ?_)) <;> (fail_if_success (simp only [eq_self, reduceCtorEq] at h))) | refine onx ?_ | refine onb ?_ | refine sreg ?_ | refine qT rfl ?_ | refine qF rfl ?_ | refine scondT rfl ?_ | refine scondF rfl ?_ | refine ocondP rfl (fun h => ?_) (fun h => ?_) | refine ocondB rfl (fun h => ?_) (fun h => ?_) | refine scondP rfl (fun h => ?_) (fun h => ?_) | refine scond rfl (fun h => ?_) (fun h => ?_) | refine oskip ?_ | refine oskipb ?_ | refine oret ?_ | refine sem_ret ?_ | refine sem_seq ?_ | refine sreg1 ?_)
      ((refine sem_mgo 10 hmix (by kernel_rfl) ?_; simp only [List.take_succ_cons, List.take_zero, List.drop_succ_cons, List.drop_zero, List.take_nil, List.drop_nil]); (repeat' (first | ((first | apply mop | apply mop0); (case hg => rfl); (case hq => rfl); intro k hk; simp (disch := omega) only [ev0, sl_cells, simprocAttr, slOf, intCs, CoolTown.cs, CoolSite.cs, hwv]; refine hk _ _ rfl ?_; clear hk k) | (apply mno; (case hg => rfl)) | (apply mbox; (case hx => (simp only [wv, simprocAttr] <;> rfl)); (case hg => rfl); (case hall => rfl); (case hr => rfl); simp only [cellsOf, List.length_cons, List.length_nil, Nat.reduceAdd, Nat.zero_add, List.nil_append, List.cons_append, List.set_cons_zero, List.set_cons_succ, chunks, List.take_succ_cons, List.take_zero, List.drop_succ_cons, List.drop_zero]) | (apply mbldS; (case hb => (simp (disch := omega) only [ev0, sl_cells, simprocAttr] <;> rfl)); (case hg => rfl); (case hr => rfl); simp only [cellsOf, List.length_cons, List.length_nil, Nat.reduceAdd, Nat.zero_add, List.nil_append, List.cons_append, List.set_cons_zero, List.set_cons_succ, chunks, List.take_succ_cons, List.take_zero, List.drop_succ_cons, List.drop_zero]) | ((first | (apply msto (q := 0); (case hq => rfl)) | (apply msto (q := 1); (case hq => rfl)) | (apply msto (q := 2); (case hq => rfl)) | (apply msto (q := 3); (case hq => rfl))); (case hx => (simp only [wv, simprocAttr] <;> rfl)); (case haddr => (simp only [wv, simprocAttr] <;> rfl)); (case hg => rfl); (case hl1 => rfl); (case hl2 => rfl); (case hok => rfl); (case hr => rfl); simp only [cellsOf, List.length_cons, List.length_nil, Nat.reduceAdd, Nat.zero_add, List.nil_append, List.cons_append, List.set_cons_zero, List.set_cons_succ, chunks, List.take_succ_cons, List.take_zero, List.drop_succ_cons, List.drop_zero]) | (apply mnil; simp only [SlotR.fin, List.map_cons, List.map_nil, List.cons_append, List.nil_append, List.append_nil]) | (refine msplit rfl (fun h => ?_) (fun h => ?_) <;> simp only [h] <;> (try simp only [Bool.not_eq_true', Bool.not_eq_false', decide_eq_true_eq, decide_eq_false_iff_not] at h)))) <;> (repeat' (first | ((first | refine o1 rfl ?_ | refine o0 rfl ?_); intro k hk; simp (disch := omega) only [ev0, sl_cells, simprocAttr, slOf, intCs, CoolTown.cs, CoolSite.cs, hwv]; refine hk _ _ ?_; clear hk k) | refine ono rfl ?_ | ((first | refine osplitG rfl (fun h => ?_) (fun h => ?_) | refine osplitB rfl (fun h => ?_) (fun h => ?_)) <;> (fail_if_success (simp only [eq_self, reduceCtorEq] at h))) | refine onx ?_ | refine onb ?_ | refine sreg ?_ | refine qT rfl ?_ | refine qF rfl ?_ | refine scondT rfl ?_ | refine scondF rfl ?_ | refine ocondP rfl (fun h => ?_) (fun h => ?_) | refine ocondB rfl (fun h => ?_) (fun h => ?_) | refine scondP rfl (fun h => ?_) (fun h => ?_) | refine scond rfl (fun h => ?_) (fun h => ?_) | refine oskip ?_ | refine oskipb ?_ | refine oret ?_ | refine sem_ret ?_ | refine sem_seq ?_ | refine sreg1 ?_)))
      refine onil (lnext (i + 1) (by omega) (by omega) ?_)
      rw [htk, hgo]
      (refine Le.same ?_; simp only [List.forall_mem_cons, List.forall_mem_nil, getE, selE, Nat.reduceBEq, List.not_mem_nil, false_implies, implies_true, and_true, true_and, and_self])
      simp [CoolTown.cs, slOf]
    · have hi' : i = l.length := by omega
      subst hi'
      rw [List.take_length]
      (refine sem_exit ?_; change sem _ _ _ _ _)
      repeat' (first | ((first | refine o1 rfl ?_ | refine o0 rfl ?_); intro k hk; simp (disch := omega) only [ev0, sl_cells, simprocAttr]; refine hk _ _ ?_; clear hk k) | refine ono rfl ?_ | ((first | refine osplitG rfl (fun h => ?_) (fun h => ?_) | refine osplitB rfl (fun h => ?_) (fun h => ?_)) <;> (fail_if_success (simp only [eq_self, reduceCtorEq] at h))) | refine onx ?_ | refine onb ?_ | refine sreg ?_ | refine qT rfl ?_ | refine qF rfl ?_ | refine scondT rfl ?_ | refine scondF rfl ?_ | refine ocondP rfl (fun h => ?_) (fun h => ?_) | refine ocondB rfl (fun h => ?_) (fun h => ?_) | refine scondP rfl (fun h => ?_) (fun h => ?_) | refine scond rfl (fun h => ?_) (fun h => ?_) | refine oskip ?_ | refine oskipb ?_ | refine oret ?_ | refine sem_ret ?_ | refine sem_seq ?_ | refine sreg1 ?_)
      exact ⟨_, rfl, _, rfl, tree_eq rfl rfl⟩

theorem ref03_Before (a b : List Int) (ha : a.length ≤ 1000) (hb : b.length ≤ 1000) : Holds Try.prog G F.ref03_Before [slOf intCs a, slOf intCs b] (B (before a b)) := by
  (refine holds_of_sem hG fn_ref03_Before (by simp) fun w0 S0 hG0 D0 => ?_; unfold c_ref03_Before cval enterEnv; simp only [List.zipIdx_cons, List.zipIdx_nil, List.map_cons, List.map_nil, Nat.zero_add, Nat.reduceAdd])
  repeat' (first | ((first | refine o1 rfl ?_ | refine o0 rfl ?_); intro k hk; simp (disch := omega) only [ev0, sl_cells, simprocAttr]; refine hk _ _ ?_; clear hk k) | refine ono rfl ?_ | ((first | refine osplitG rfl (fun h => ?_) (fun h => ?_) | refine osplitB rfl (fun h => ?_) (fun h => ?_)) <;> (fail_if_success (simp only [eq_self, reduceCtorEq] at h))) | refine onx ?_ | refine onb ?_ | refine sreg ?_ | refine qT rfl ?_ | refine qF rfl ?_ | refine scondT rfl ?_ | refine scondF rfl ?_ | refine ocondP rfl (fun h => ?_) (fun h => ?_) | refine ocondB rfl (fun h => ?_) (fun h => ?_) | refine scondP rfl (fun h => ?_) (fun h => ?_) | refine scond rfl (fun h => ?_) (fun h => ?_) | refine oskip ?_ | refine oskipb ?_ | refine oret ?_ | refine sem_ret ?_ | refine sem_seq ?_ | refine sreg1 ?_)
  refine sem_block ?_
  
  refine sem_loop (α := Nat) (fun t => ⟨[(0, slOf intCs a), (1, slOf intCs b), (5, I t)], []⟩) (fun t => t ≤ a.length ∧ t ≤ b.length ∧ before a b = before (a.drop t) (b.drop t)) (fun t => a.length - t) 0 ⟨Nat.zero_le _, Nat.zero_le _, rfl⟩ ?_ ?_
  · (refine Le.same ?_; simp only [List.forall_mem_cons, List.forall_mem_nil, getE, selE, Nat.reduceBEq, List.not_mem_nil, false_implies, implies_true, and_true, true_and, and_self])
    simp
  · rintro t ⟨h1, h2, h3⟩
    have hnil : (a.length ≤ t ∨ b.length ≤ t) → before (a.drop t) (b.drop t) = false := fun h => by
      rcases h with h | h
      · rw [List.drop_eq_nil_of_le h]; rfl
      · rw [List.drop_eq_nil_of_le h]
        cases a.drop t <;> rfl
    by_cases hin : t < a.length ∧ t < b.length
    · obtain ⟨ha', hb'⟩ := hin
      have hstep : before (a.drop t) (b.drop t) = if a.getD t default = b.getD t default then before (a.drop (t + 1)) (b.drop (t + 1)) else decide (a.getD t default < b.getD t default) := by
        rw [List.drop_eq_getElem_cons ha', List.drop_eq_getElem_cons hb', getD_lt ha', getD_lt hb']; rfl
      have g1 : (t : Int) < a.length := by omega
      have g2 : (t : Int) < b.length := by omega
      repeat' (first | ((first | refine o1 rfl ?_ | refine o0 rfl ?_); intro k hk; simp (disch := omega) only [ev0, sl_cells, simprocAttr, slOf, g1, g2]; refine hk _ _ ?_; clear hk k) | refine ono rfl ?_ | ((first | refine osplitG rfl (fun h => ?_) (fun h => ?_) | refine osplitB rfl (fun h => ?_) (fun h => ?_)) <;> (fail_if_success (simp only [eq_self, reduceCtorEq] at h))) | refine onx ?_ | refine onb ?_ | refine sreg ?_ | refine qT rfl ?_ | refine qF rfl ?_ | refine scondT rfl ?_ | refine scondF rfl ?_ | refine ocondP rfl (fun h => ?_) (fun h => ?_) | refine ocondB rfl (fun h => ?_) (fun h => ?_) | refine scondP rfl (fun h => ?_) (fun h => ?_) | refine scond rfl (fun h => ?_) (fun h => ?_) | refine oskip ?_ | refine oskipb ?_ | refine oret ?_ | refine sem_ret ?_ | refine sem_seq ?_ | refine sreg1 ?_)
      refine sem_block ?_
      by_cases e : a.getD t default = b.getD t default
      · rw [if_pos e] at hstep
        repeat' (first | ((first | refine o1 rfl ?_ | refine o0 rfl ?_); intro k hk; simp (disch := omega) only [ev0, sl_cells, simprocAttr]; refine hk _ _ ?_; clear hk k) | refine ono rfl ?_ | ((first | refine osplitG rfl (fun h => ?_) (fun h => ?_) | refine osplitB rfl (fun h => ?_) (fun h => ?_)) <;> (fail_if_success (simp only [eq_self, reduceCtorEq] at h))) | refine onx ?_ | refine onb ?_ | refine sreg ?_ | refine qT rfl ?_ | refine qF rfl ?_ | refine scondT rfl ?_ | refine scondF rfl ?_ | refine ocondP rfl (fun h => ?_) (fun h => ?_) | refine ocondB rfl (fun h => ?_) (fun h => ?_) | refine scondP rfl (fun h => ?_) (fun h => ?_) | refine scond rfl (fun h => ?_) (fun h => ?_) | refine oskip ?_ | refine oskipb ?_ | refine oret ?_ | refine sem_ret ?_ | refine sem_seq ?_ | refine sreg1 ?_)
        ((refine sem_mgo 8 hmix (by kernel_rfl) ?_; simp only [List.take_succ_cons, List.take_zero, List.drop_succ_cons, List.drop_zero, List.take_nil, List.drop_nil]); (repeat' (first | ((first | apply mop | apply mop0); (case hg => rfl); (case hq => rfl); intro k hk; simp (disch := omega) only [ev0, sl_cells, simprocAttr, slOf, intCs, e, eq_self]; refine hk _ _ rfl ?_; clear hk k) | (apply mno; (case hg => rfl)) | (apply mbox; (case hx => (simp only [wv, simprocAttr] <;> rfl)); (case hg => rfl); (case hall => rfl); (case hr => rfl); simp only [cellsOf, List.length_cons, List.length_nil, Nat.reduceAdd, Nat.zero_add, List.nil_append, List.cons_append, List.set_cons_zero, List.set_cons_succ, chunks, List.take_succ_cons, List.take_zero, List.drop_succ_cons, List.drop_zero]) | (apply mbldS; (case hb => (simp (disch := omega) only [ev0, sl_cells, simprocAttr] <;> rfl)); (case hg => rfl); (case hr => rfl); simp only [cellsOf, List.length_cons, List.length_nil, Nat.reduceAdd, Nat.zero_add, List.nil_append, List.cons_append, List.set_cons_zero, List.set_cons_succ, chunks, List.take_succ_cons, List.take_zero, List.drop_succ_cons, List.drop_zero]) | ((first | (apply msto (q := 0); (case hq => rfl)) | (apply msto (q := 1); (case hq => rfl)) | (apply msto (q := 2); (case hq => rfl)) | (apply msto (q := 3); (case hq => rfl))); (case hx => (simp only [wv, simprocAttr] <;> rfl)); (case haddr => (simp only [wv, simprocAttr] <;> rfl)); (case hg => rfl); (case hl1 => rfl); (case hl2 => rfl); (case hok => rfl); (case hr => rfl); simp only [cellsOf, List.length_cons, List.length_nil, Nat.reduceAdd, Nat.zero_add, List.nil_append, List.cons_append, List.set_cons_zero, List.set_cons_succ, chunks, List.take_succ_cons, List.take_zero, List.drop_succ_cons, List.drop_zero]) | (apply mnil; simp only [SlotR.fin, List.map_cons, List.map_nil, List.cons_append, List.nil_append, List.append_nil]) | (refine msplit rfl (fun h => ?_) (fun h => ?_) <;> simp only [h] <;> (try simp only [Bool.not_eq_true', Bool.not_eq_false', decide_eq_true_eq, decide_eq_false_iff_not] at h)))) <;> (repeat' (first | ((first | refine o1 rfl ?_ | refine o0 rfl ?_); intro k hk; simp (disch := omega) only [ev0, sl_cells, simprocAttr, slOf, intCs, e, eq_self]; refine hk _ _ ?_; clear hk k) | refine ono rfl ?_ | ((first | refine osplitG rfl (fun h => ?_) (fun h => ?_) | refine osplitB rfl (fun h => ?_) (fun h => ?_)) <;> (fail_if_success (simp only [eq_self, reduceCtorEq] at h))) | refine onx ?_ | refine onb ?_ | refine sreg ?_ | refine qT rfl ?_ | refine qF rfl ?_ | refine scondT rfl ?_ | refine scondF rfl ?_ | refine ocondP rfl (fun h => ?_) (fun h => ?_) | refine ocondB rfl (fun h => ?_) (fun h => ?_) | refine scondP rfl (fun h => ?_) (fun h => ?_) | refine scond rfl (fun h => ?_) (fun h => ?_) | refine oskip ?_ | refine oskipb ?_ | refine oret ?_ | refine sem_ret ?_ | refine sem_seq ?_ | refine sreg1 ?_)))
        refine onil (lnext (t + 1) ⟨by omega, by omega, by rw [h3, hstep]⟩ (by omega) ?_)
        (refine Le.same ?_; simp only [List.forall_mem_cons, List.forall_mem_nil, getE, selE, Nat.reduceBEq, List.not_mem_nil, false_implies, implies_true, and_true, true_and, and_self])
        simp [slOf]
      · rw [if_neg e] at hstep
        repeat' (first | ((first | refine o1 rfl ?_ | refine o0 rfl ?_); intro k hk; simp (disch := omega) only [ev0, sl_cells, simprocAttr]; refine hk _ _ ?_; clear hk k) | refine ono rfl ?_ | ((first | refine osplitG rfl (fun h => ?_) (fun h => ?_) | refine osplitB rfl (fun h => ?_) (fun h => ?_)) <;> (fail_if_success (simp only [eq_self, reduceCtorEq] at h))) | refine onx ?_ | refine onb ?_ | refine sreg ?_ | refine qT rfl ?_ | refine qF rfl ?_ | refine scondT rfl ?_ | refine scondF rfl ?_ | refine ocondP rfl (fun h => ?_) (fun h => ?_) | refine ocondB rfl (fun h => ?_) (fun h => ?_) | refine scondP rfl (fun h => ?_) (fun h => ?_) | refine scond rfl (fun h => ?_) (fun h => ?_) | refine oskip ?_ | refine oskipb ?_ | refine oret ?_ | refine sem_ret ?_ | refine sem_seq ?_ | refine sreg1 ?_)
        ((refine sem_mgo 8 hmix (by kernel_rfl) ?_; simp only [List.take_succ_cons, List.take_zero, List.drop_succ_cons, List.drop_zero, List.take_nil, List.drop_nil]); (repeat' (first | ((first | apply mop | apply mop0); (case hg => rfl); (case hq => rfl); intro k hk; simp (disch := omega) only [ev0, sl_cells, simprocAttr, slOf, intCs, e]; refine hk _ _ rfl ?_; clear hk k) | (apply mno; (case hg => rfl)) | (apply mbox; (case hx => (simp only [wv, simprocAttr] <;> rfl)); (case hg => rfl); (case hall => rfl); (case hr => rfl); simp only [cellsOf, List.length_cons, List.length_nil, Nat.reduceAdd, Nat.zero_add, List.nil_append, List.cons_append, List.set_cons_zero, List.set_cons_succ, chunks, List.take_succ_cons, List.take_zero, List.drop_succ_cons, List.drop_zero]) | (apply mbldS; (case hb => (simp (disch := omega) only [ev0, sl_cells, simprocAttr] <;> rfl)); (case hg => rfl); (case hr => rfl); simp only [cellsOf, List.length_cons, List.length_nil, Nat.reduceAdd, Nat.zero_add, List.nil_append, List.cons_append, List.set_cons_zero, List.set_cons_succ, chunks, List.take_succ_cons, List.take_zero, List.drop_succ_cons, List.drop_zero]) | ((first | (apply msto (q := 0); (case hq => rfl)) | (apply msto (q := 1); (case hq => rfl)) | (apply msto (q := 2); (case hq => rfl)) | (apply msto (q := 3); (case hq => rfl))); (case hx => (simp only [wv, simprocAttr] <;> rfl)); (case haddr => (simp only [wv, simprocAttr] <;> rfl)); (case hg => rfl); (case hl1 => rfl); (case hl2 => rfl); (case hok => rfl); (case hr => rfl); simp only [cellsOf, List.length_cons, List.length_nil, Nat.reduceAdd, Nat.zero_add, List.nil_append, List.cons_append, List.set_cons_zero, List.set_cons_succ, chunks, List.take_succ_cons, List.take_zero, List.drop_succ_cons, List.drop_zero]) | (apply mnil; simp only [SlotR.fin, List.map_cons, List.map_nil, List.cons_append, List.nil_append, List.append_nil]) | (refine msplit rfl (fun h => ?_) (fun h => ?_) <;> simp only [h] <;> (try simp only [Bool.not_eq_true', Bool.not_eq_false', decide_eq_true_eq, decide_eq_false_iff_not] at h)))) <;> (repeat' (first | ((first | refine o1 rfl ?_ | refine o0 rfl ?_); intro k hk; simp (disch := omega) only [ev0, sl_cells, simprocAttr, slOf, intCs, e]; refine hk _ _ ?_; clear hk k) | refine ono rfl ?_ | ((first | refine osplitG rfl (fun h => ?_) (fun h => ?_) | refine osplitB rfl (fun h => ?_) (fun h => ?_)) <;> (fail_if_success (simp only [eq_self, reduceCtorEq] at h))) | refine onx ?_ | refine onb ?_ | refine sreg ?_ | refine qT rfl ?_ | refine qF rfl ?_ | refine scondT rfl ?_ | refine scondF rfl ?_ | refine ocondP rfl (fun h => ?_) (fun h => ?_) | refine ocondB rfl (fun h => ?_) (fun h => ?_) | refine scondP rfl (fun h => ?_) (fun h => ?_) | refine scond rfl (fun h => ?_) (fun h => ?_) | refine oskip ?_ | refine oskipb ?_ | refine oret ?_ | refine sem_ret ?_ | refine sem_seq ?_ | refine sreg1 ?_)))
        ((refine sem_mgo 8 hmix (by kernel_rfl) ?_; simp only [List.take_succ_cons, List.take_zero, List.drop_succ_cons, List.drop_zero, List.take_nil, List.drop_nil]); (repeat' (first | ((first | apply mop | apply mop0); (case hg => rfl); (case hq => rfl); intro k hk; simp (disch := omega) only [ev0, sl_cells, simprocAttr, slOf, intCs]; refine hk _ _ rfl ?_; clear hk k) | (apply mno; (case hg => rfl)) | (apply mbox; (case hx => (simp only [wv, simprocAttr] <;> rfl)); (case hg => rfl); (case hall => rfl); (case hr => rfl); simp only [cellsOf, List.length_cons, List.length_nil, Nat.reduceAdd, Nat.zero_add, List.nil_append, List.cons_append, List.set_cons_zero, List.set_cons_succ, chunks, List.take_succ_cons, List.take_zero, List.drop_succ_cons, List.drop_zero]) | (apply mbldS; (case hb => (simp (disch := omega) only [ev0, sl_cells, simprocAttr] <;> rfl)); (case hg => rfl); (case hr => rfl); simp only [cellsOf, List.length_cons, List.length_nil, Nat.reduceAdd, Nat.zero_add, List.nil_append, List.cons_append, List.set_cons_zero, List.set_cons_succ, chunks, List.take_succ_cons, List.take_zero, List.drop_succ_cons, List.drop_zero]) | ((first | (apply msto (q := 0); (case hq => rfl)) | (apply msto (q := 1); (case hq => rfl)) | (apply msto (q := 2); (case hq => rfl)) | (apply msto (q := 3); (case hq => rfl))); (case hx => (simp only [wv, simprocAttr] <;> rfl)); (case haddr => (simp only [wv, simprocAttr] <;> rfl)); (case hg => rfl); (case hl1 => rfl); (case hl2 => rfl); (case hok => rfl); (case hr => rfl); simp only [cellsOf, List.length_cons, List.length_nil, Nat.reduceAdd, Nat.zero_add, List.nil_append, List.cons_append, List.set_cons_zero, List.set_cons_succ, chunks, List.take_succ_cons, List.take_zero, List.drop_succ_cons, List.drop_zero]) | (apply mnil; simp only [SlotR.fin, List.map_cons, List.map_nil, List.cons_append, List.nil_append, List.append_nil]) | (refine msplit rfl (fun h => ?_) (fun h => ?_) <;> simp only [h] <;> (try simp only [Bool.not_eq_true', Bool.not_eq_false', decide_eq_true_eq, decide_eq_false_iff_not] at h)))) <;> (repeat' (first | ((first | refine o1 rfl ?_ | refine o0 rfl ?_); intro k hk; simp (disch := omega) only [ev0, sl_cells, simprocAttr, slOf, intCs]; refine hk _ _ ?_; clear hk k) | refine ono rfl ?_ | ((first | refine osplitG rfl (fun h => ?_) (fun h => ?_) | refine osplitB rfl (fun h => ?_) (fun h => ?_)) <;> (fail_if_success (simp only [eq_self, reduceCtorEq] at h))) | refine onx ?_ | refine onb ?_ | refine sreg ?_ | refine qT rfl ?_ | refine qF rfl ?_ | refine scondT rfl ?_ | refine scondF rfl ?_ | refine ocondP rfl (fun h => ?_) (fun h => ?_) | refine ocondB rfl (fun h => ?_) (fun h => ?_) | refine scondP rfl (fun h => ?_) (fun h => ?_) | refine scond rfl (fun h => ?_) (fun h => ?_) | refine oskip ?_ | refine oskipb ?_ | refine oret ?_ | refine sem_ret ?_ | refine sem_seq ?_ | refine sreg1 ?_)))
        rw [h3, hstep]
        exact ⟨_, rfl, _, rfl, tree_eq rfl rfl⟩
    · rw [h3, hnil (by omega)]
      repeat' (first | ((first | refine o1 rfl ?_ | refine o0 rfl ?_); intro k hk; simp (disch := omega) only [ev0, sl_cells, simprocAttr, slOf]; refine hk _ _ ?_; clear hk k) | refine ono rfl ?_ | ((first | refine osplitG rfl (fun h => ?_) (fun h => ?_) | refine osplitB rfl (fun h => ?_) (fun h => ?_)) <;> (fail_if_success (simp only [eq_self, reduceCtorEq] at h))) | refine onx ?_ | refine onb ?_ | refine sreg ?_ | refine qT rfl ?_ | refine qF rfl ?_ | refine scondT rfl ?_ | refine scondF rfl ?_ | refine ocondP rfl (fun h => ?_) (fun h => ?_) | refine ocondB rfl (fun h => ?_) (fun h => ?_) | refine scondP rfl (fun h => ?_) (fun h => ?_) | refine scond rfl (fun h => ?_) (fun h => ?_) | refine oskip ?_ | refine oskipb ?_ | refine oret ?_ | refine sem_ret ?_ | refine sem_seq ?_ | refine sreg1 ?_)
      all_goals try (exfalso; omega)
      all_goals
        (refine sem_exit ?_; change sem _ _ _ _ _)
        repeat' (first | ((first | refine o1 rfl ?_ | refine o0 rfl ?_); intro k hk; simp (disch := omega) only [ev0, sl_cells, simprocAttr]; refine hk _ _ ?_; clear hk k) | refine ono rfl ?_ | ((first | refine osplitG rfl (fun h => ?_) (fun h => ?_) | refine osplitB rfl (fun h => ?_) (fun h => ?_)) <;> (fail_if_success (simp only [eq_self, reduceCtorEq] at h))) | refine onx ?_ | refine onb ?_ | refine sreg ?_ | refine qT rfl ?_ | refine qF rfl ?_ | refine scondT rfl ?_ | refine scondF rfl ?_ | refine ocondP rfl (fun h => ?_) (fun h => ?_) | refine ocondB rfl (fun h => ?_) (fun h => ?_) | refine scondP rfl (fun h => ?_) (fun h => ?_) | refine scond rfl (fun h => ?_) (fun h => ?_) | refine oskip ?_ | refine oskipb ?_ | refine oret ?_ | refine sem_ret ?_ | refine sem_seq ?_ | refine sreg1 ?_)
        exact ⟨_, rfl, _, rfl, tree_eq rfl rfl⟩

omit hG in
theorem sl_take {l : List Int} {i : Nat} (hi : i ≤ l.length) : ∀ S w v, VT S w (.sl i fun j => intCs (l.getD j default)) v → VT S w (slOf intCs (l.take i)) v := fun S w v h => by
  unfold slOf
  rw [List.length_take, Nat.min_eq_left hi]
  refine h.sl_congr fun j hj => ?_
  have h1 : j < (l.take i).length := by rw [List.length_take]; omega
  rw [getD_lt h1, getD_lt (show j < l.length by omega), List.getElem_take]

theorem has_take (l : List Int) (i : Nat) (hi : i ≤ l.length) (hl : l.length ≤ 1000) (x : Int) : Holds Try.prog G F.ref03_Has [.sl i fun j => intCs (l.getD j default), I x] (B (decide (x ∈ l.take i))) :=
  (ref03_Has hG (l.take i) x (by rw [List.length_take]; omega)).conv rfl fun k x' x0 h1 h2 S w v hv => by
    match k, h1, h2 with
    | 0, h1, h2 => cases h1; cases h2; exact sl_take hi _ _ _ hv
    | 1, h1, h2 => cases h1; cases h2; exact hv
    | k + 2, h1, h2 => simp at h1

theorem ref03_Order (b o : List Int) (hb : b.length ≤ 1000) (ho : o.length ≤ 1000) : Holds Try.prog G F.ref03_Order [slOf intCs b, slOf intCs o] (B (decide (orderOk b o))) := by
  (refine holds_of_sem hG fn_ref03_Order (by simp) fun w0 S0 hG0 D0 => ?_; unfold c_ref03_Order cval enterEnv; simp only [List.zipIdx_cons, List.zipIdx_nil, List.map_cons, List.map_nil, Nat.zero_add, Nat.reduceAdd])
  repeat' (first | ((first | refine o1 rfl ?_ | refine o0 rfl ?_); intro k hk; simp (disch := omega) only [ev0, sl_cells, simprocAttr]; refine hk _ _ ?_; clear hk k) | refine ono rfl ?_ | ((first | refine osplitG rfl (fun h => ?_) (fun h => ?_) | refine osplitB rfl (fun h => ?_) (fun h => ?_)) <;> (fail_if_success (simp only [eq_self, reduceCtorEq] at h))) | refine onx ?_ | refine onb ?_ | refine sreg ?_ | refine qT rfl ?_ | refine qF rfl ?_ | refine scondT rfl ?_ | refine scondF rfl ?_ | refine ocondP rfl (fun h => ?_) (fun h => ?_) | refine ocondB rfl (fun h => ?_) (fun h => ?_) | refine scondP rfl (fun h => ?_) (fun h => ?_) | refine scond rfl (fun h => ?_) (fun h => ?_) | refine oskip ?_ | refine oskipb ?_ | refine oret ?_ | refine sem_ret ?_ | refine sem_seq ?_ | refine sreg1 ?_)
  refine sem_block ?_
  
  refine sem_loop (α := Nat) (fun t => ⟨[(0, slOf intCs b), (1, slOf intCs o), (5, I t)], []⟩) (fun t => t ≤ o.length ∧ ∀ j, j < t → o.getD j default ∈ b ∧ o.getD j default ∉ o.take j) (fun t => o.length - t) 0 ⟨Nat.zero_le _, fun j hj => absurd hj (Nat.not_lt_zero _)⟩ ?_ ?_
  · (refine Le.same ?_; simp only [List.forall_mem_cons, List.forall_mem_nil, getE, selE, Nat.reduceBEq, List.not_mem_nil, false_implies, implies_true, and_true, true_and, and_self])
    simp [slOf]
  · rintro t ⟨ht, hall⟩
    repeat' (first | ((first | refine o1 rfl ?_ | refine o0 rfl ?_); intro k hk; simp (disch := omega) only [ev0, sl_cells, simprocAttr, slOf]; refine hk _ _ ?_; clear hk k) | refine ono rfl ?_ | ((first | refine osplitG rfl (fun h => ?_) (fun h => ?_) | refine osplitB rfl (fun h => ?_) (fun h => ?_)) <;> (fail_if_success (simp only [eq_self, reduceCtorEq] at h))) | refine onx ?_ | refine onb ?_ | refine sreg ?_ | refine qT rfl ?_ | refine qF rfl ?_ | refine scondT rfl ?_ | refine scondF rfl ?_ | refine ocondP rfl (fun h => ?_) (fun h => ?_) | refine ocondB rfl (fun h => ?_) (fun h => ?_) | refine scondP rfl (fun h => ?_) (fun h => ?_) | refine scond rfl (fun h => ?_) (fun h => ?_) | refine oskip ?_ | refine oskipb ?_ | refine oret ?_ | refine sem_ret ?_ | refine sem_seq ?_ | refine sreg1 ?_)
    · have ht' : t < o.length := by omega
      have hq := fun (hh : orderOk b o) => hh t ht'
      refine sem_block ?_
      repeat' (first | ((first | refine o1 rfl ?_ | refine o0 rfl ?_); intro k hk; simp (disch := omega) only [ev0, sl_cells, simprocAttr]; refine hk _ _ ?_; clear hk k) | refine ono rfl ?_ | ((first | refine osplitG rfl (fun h => ?_) (fun h => ?_) | refine osplitB rfl (fun h => ?_) (fun h => ?_)) <;> (fail_if_success (simp only [eq_self, reduceCtorEq] at h))) | refine onx ?_ | refine onb ?_ | refine sreg ?_ | refine qT rfl ?_ | refine qF rfl ?_ | refine scondT rfl ?_ | refine scondF rfl ?_ | refine ocondP rfl (fun h => ?_) (fun h => ?_) | refine ocondB rfl (fun h => ?_) (fun h => ?_) | refine scondP rfl (fun h => ?_) (fun h => ?_) | refine scond rfl (fun h => ?_) (fun h => ?_) | refine oskip ?_ | refine oskipb ?_ | refine oret ?_ | refine sem_ret ?_ | refine sem_seq ?_ | refine sreg1 ?_)
      ((refine sem_mgo 15 hmix (by kernel_rfl) ?_; simp only [List.take_succ_cons, List.take_zero, List.drop_succ_cons, List.drop_zero, List.take_nil, List.drop_nil]); (repeat' (first | ((first | apply mop | apply mop0); (case hg => rfl); (case hq => rfl); intro k hk; simp (disch := omega) only [ev0, sl_cells, simprocAttr, slOf, intCs, range_all, Option.map_none, List.length_cons, List.length_nil, Nat.zero_add, Nat.sub_zero, decide_true, eq_self]; refine hk _ _ rfl ?_; clear hk k) | (apply mno; (case hg => rfl)) | (apply mcall; (case he => (simp only [ev0, sl_cells, simprocAttr] <;> rfl)); (case hc => first | exact ref03_Has hG b (o.getD t default) hb | exact has_take hG o t (by omega) ho (o.getD t default)); (case ht => rfl); (case hg => rfl); (case hr => rfl)) | (apply mbox; (case hx => (simp only [wv, simprocAttr] <;> rfl)); (case hg => rfl); (case hall => rfl); (case hr => rfl); simp only [cellsOf, List.length_cons, List.length_nil, Nat.reduceAdd, Nat.zero_add, List.nil_append, List.cons_append, List.set_cons_zero, List.set_cons_succ, chunks, List.take_succ_cons, List.take_zero, List.drop_succ_cons, List.drop_zero]) | (apply mbldS; (case hb => (simp (disch := omega) only [ev0, sl_cells, simprocAttr] <;> rfl)); (case hg => rfl); (case hr => rfl); simp only [cellsOf, List.length_cons, List.length_nil, Nat.reduceAdd, Nat.zero_add, List.nil_append, List.cons_append, List.set_cons_zero, List.set_cons_succ, chunks, List.take_succ_cons, List.take_zero, List.drop_succ_cons, List.drop_zero]) | ((first | (apply msto (q := 0); (case hq => rfl)) | (apply msto (q := 1); (case hq => rfl)) | (apply msto (q := 2); (case hq => rfl)) | (apply msto (q := 3); (case hq => rfl))); (case hx => (simp only [wv, simprocAttr] <;> rfl)); (case haddr => (simp only [wv, simprocAttr] <;> rfl)); (case hg => rfl); (case hl1 => rfl); (case hl2 => rfl); (case hok => rfl); (case hr => rfl); simp only [cellsOf, List.length_cons, List.length_nil, Nat.reduceAdd, Nat.zero_add, List.nil_append, List.cons_append, List.set_cons_zero, List.set_cons_succ, chunks, List.take_succ_cons, List.take_zero, List.drop_succ_cons, List.drop_zero]) | (apply mnil; simp only [SlotR.fin, List.map_cons, List.map_nil, List.cons_append, List.nil_append, List.append_nil]) | (refine msplit rfl (fun h => ?_) (fun h => ?_) <;> simp only [h] <;> (try simp only [Bool.not_eq_true', Bool.not_eq_false', decide_eq_true_eq, decide_eq_false_iff_not] at h)))) <;> (repeat' (first | ((first | refine o1 rfl ?_ | refine o0 rfl ?_); intro k hk; simp (disch := omega) only [ev0, sl_cells, simprocAttr, slOf, intCs, range_all, Option.map_none, List.length_cons, List.length_nil, Nat.zero_add, Nat.sub_zero, decide_true, eq_self]; refine hk _ _ ?_; clear hk k) | refine ono rfl ?_ | (apply ocall; (case he => (simp only [ev0, sl_cells, simprocAttr] <;> rfl)); (case hc => first | exact ref03_Has hG b (o.getD t default) hb | exact has_take hG o t (by omega) ho (o.getD t default)); (case ht => rfl); (case hg => rfl)) | ((first | refine osplitG rfl (fun h => ?_) (fun h => ?_) | refine osplitB rfl (fun h => ?_) (fun h => ?_)) <;> (fail_if_success (simp only [eq_self, reduceCtorEq] at h))) | refine onx ?_ | refine onb ?_ | refine sreg ?_ | refine qT rfl ?_ | refine qF rfl ?_ | refine scondT rfl ?_ | refine scondF rfl ?_ | refine ocondP rfl (fun h => ?_) (fun h => ?_) | refine ocondB rfl (fun h => ?_) (fun h => ?_) | refine scondP rfl (fun h => ?_) (fun h => ?_) | refine scond rfl (fun h => ?_) (fun h => ?_) | refine oskip ?_ | refine oskipb ?_ | refine oret ?_ | refine sem_ret ?_ | refine sem_seq ?_ | refine sreg1 ?_)))
      all_goals first
        | exact ⟨_, rfl, _, rfl, tree_eq rfl (by
            simp only [getE, selE, Nat.reduceBEq]
            refine congrArg AV.bool (decide_eq_false (fun hh => ?_)).symm
            have := hq hh
            try simp only [Bool.not_eq_true', Bool.not_eq_false', decide_eq_true_eq, decide_eq_false_iff_not] at *
            grind)⟩
        | (refine onil (lnext (t + 1) ⟨by omega, fun j hj => ?_⟩ (by omega) ?_)
           · by_cases e : j = t
             · subst e
               try simp only [Bool.not_eq_true', Bool.not_eq_false', decide_eq_true_eq, decide_eq_false_iff_not] at *
               grind
             · exact hall j (by omega)
           · (refine Le.same ?_; simp only [List.forall_mem_cons, List.forall_mem_nil, getE, selE, Nat.reduceBEq, List.not_mem_nil, false_implies, implies_true, and_true, true_and, and_self])
             simp [slOf])
        | trace_state
    · have ht' : t = o.length := by omega
      subst ht'
      (refine sem_exit ?_; change sem _ _ _ _ _)
      repeat' (first | ((first | refine o1 rfl ?_ | refine o0 rfl ?_); intro k hk; simp (disch := omega) only [ev0, sl_cells, simprocAttr]; refine hk _ _ ?_; clear hk k) | refine ono rfl ?_ | ((first | refine osplitG rfl (fun h => ?_) (fun h => ?_) | refine osplitB rfl (fun h => ?_) (fun h => ?_)) <;> (fail_if_success (simp only [eq_self, reduceCtorEq] at h))) | refine onx ?_ | refine onb ?_ | refine sreg ?_ | refine qT rfl ?_ | refine qF rfl ?_ | refine scondT rfl ?_ | refine scondF rfl ?_ | refine ocondP rfl (fun h => ?_) (fun h => ?_) | refine ocondB rfl (fun h => ?_) (fun h => ?_) | refine scondP rfl (fun h => ?_) (fun h => ?_) | refine scond rfl (fun h => ?_) (fun h => ?_) | refine oskip ?_ | refine oskipb ?_ | refine oret ?_ | refine sem_ret ?_ | refine sem_seq ?_ | refine sreg1 ?_)
      rw [decide_eq_true (show orderOk b o from hall)]
      exact ⟨_, rfl, _, rfl, tree_eq rfl rfl⟩
end Go.Proofs.Ytnempffajbdneaa

/- A call's contract over the objects it knows, placed anywhere in its caller's memory. -/
set_option linter.unusedVariables false
set_option linter.unusedSimpArgs false
namespace Go.Av
open Go.RowKit

mutual
/-- The objects renamed. -/
def renA (g : Nat → Nat) : AV → AV
  | .agg cs => .agg (renL g cs)
  | .tup cs => .tup (renL g cs)
  | .fn f fi ca => .fn f (renL g fi) (renL g ca)
  | .iface t x => .iface t (renA g x)
  | .hsl id gn sz len => .hsl (g id) gn sz len
  | .ptr id gn sz i off => .ptr (g id) gn sz i off
  | .mp id => .mp (g id)
  | .yl id => .yl (g id)
  | .dead => .dead
  | .int k n => .int k n
  | .bool b => .bool b
  | .str s => .str s
  | .nilp => .nilp
  | .nilfn => .nilfn
  | .nilif => .nilif
  | .nilmap => .nilmap
  | .nilsl => .nilsl
  | .sl n f => .sl n f
  | .tptr cs off => .tptr cs off
def renL (g : Nat → Nat) : List AV → List AV
  | [] => []
  | x :: r => renA g x :: renL g r
end
def renE (g : Nat → Nat) (env : List (Nat × AV)) : List (Nat × AV) := env.map fun p => (p.1, renA g p.2)
def renO (g : Nat → Nat) : AObj → AObj
  | .row e gn sz es => .row e gn sz (es.map (renL g))
  | .map es => .map (es.map fun p => (p.1, renA g p.2))
  | .loop c st env => .loop c st (renE g env)
  | .gone => .gone
mutual
/-- Only such objects are named. -/
def inA (p : Nat → Bool) : AV → Bool
  | .agg cs => inL p cs
  | .tup cs => inL p cs
  | .fn _ fi ca => inL p fi && inL p ca
  | .iface _ x => inA p x
  | .hsl id _ _ _ => p id
  | .ptr id _ _ _ _ => p id
  | .mp id => p id
  | .yl id => p id
  | .dead => true
  | .int _ _ => true
  | .bool _ => true
  | .str _ => true
  | .nilp => true
  | .nilfn => true
  | .nilif => true
  | .nilmap => true
  | .nilsl => true
  | .sl _ _ => true
  | .tptr _ _ => true
def inL (p : Nat → Bool) : List AV → Bool
  | [] => true
  | x :: r => inA p x && inL p r
end
def inO (p : Nat → Bool) : AObj → Bool
  | .row _ _ _ es => es.all (inL p)
  | .map es => es.all fun q => inA p q.2
  | .loop _ _ env => env.all fun q => inA p (getE env q.1)
  | .gone => true
theorem inL_get {p : Nat → Bool} : ∀ {l : List AV} {i : Nat} {x : AV}, inL p l = true → l[i]? = some x → inA p x = true
  | [], i, x, _, h => by simp at h
  | y :: r, 0, x, hl, h => by simp only [inL, Bool.and_eq_true] at hl; simp at h; subst h; exact hl.1
  | y :: r, i + 1, x, hl, h => by simp only [inL, Bool.and_eq_true] at hl; simp at h; exact inL_get hl.2 h
theorem inE_get {p : Nat → Bool} {env : List (Nat × AV)} (h : (env.all fun q => inA p (getE env q.1)) = true) (t : Nat) : inA p (getE env t) = true := by
  by_cases hm : ∃ q ∈ env, q.1 = t
  · obtain ⟨q, hq, rfl⟩ := hm
    exact List.all_eq_true.1 h q hq
  · have : getE env t = .dead := by
      clear h
      induction env with
      | nil => rfl
      | cons q r ih =>
        obtain ⟨a, b⟩ := q
        rw [getE_cons]
        split
        · rename_i e; exact absurd ⟨(a, b), List.mem_cons_self, e⟩ hm
        · exact ih fun ⟨q, hq, e⟩ => hm ⟨q, List.mem_cons_of_mem _ hq, e⟩
    rw [this]; rfl
theorem renL_get {g : Nat → Nat} : ∀ (l : List AV) (i : Nat), (renL g l)[i]? = (l[i]?).map (renA g)
  | [], i => by simp [renL]
  | x :: l, 0 => by simp [renL]
  | x :: l, i + 1 => by simpa [renL] using renL_get l i
theorem renL_len {g : Nat → Nat} : ∀ (l : List AV), (renL g l).length = l.length
  | [] => rfl
  | x :: l => by simp [renL, renL_len l]
theorem renE_get {g : Nat → Nat} : ∀ (env : List (Nat × AV)) (t : Nat), getE (renE g env) t = renA g (getE env t)
  | [], t => by simp [renE, getE, renA]
  | (k, x) :: r, t => by
    rw [show renE g ((k, x) :: r) = (k, renA g x) :: renE g r from rfl, getE_cons, getE_cons, renE_get r t]
    split <;> rfl
theorem VT.ren {S w x v} {g : Nat → Nat} (h : VT S w x v) : VT S w (renA g x) v := by
  induction h with
  | agg cs vs hl _ ih =>
    refine .agg _ _ (by rw [renL_len]; exact hl) fun i c v a b => ?_
    rw [renL_get] at a
    obtain ⟨c', h1, rfl⟩ := Option.map_eq_some_iff.1 a
    exact ih i c' v h1 b
  | tup cs vs hl _ ih =>
    refine .tup _ _ (by rw [renL_len]; exact hl) fun i c v a b => ?_
    rw [renL_get] at a
    obtain ⟨c', h1, rfl⟩ := Option.map_eq_some_iff.1 a
    exact ih i c' v h1 b
  | fn f fi ca vf vc h1 h2 _ _ ih1 ih2 =>
    refine .fn _ _ _ _ _ (by rw [renL_len]; exact h1) (by rw [renL_len]; exact h2) (fun i c v a b => ?_) fun i c v a b => ?_
    · rw [renL_get] at a
      obtain ⟨c', h1, rfl⟩ := Option.map_eq_some_iff.1 a
      exact ih1 i c' v h1 b
    · rw [renL_get] at a
      obtain ⟨c', h1, rfl⟩ := Option.map_eq_some_iff.1 a
      exact ih2 i c' v h1 b
  | iface t x v _ ih => exact .iface _ _ _ ih
  | sl n f a cap val h1 h2 h3 h4 _ => exact .sl n f a cap val h1 h2 h3 h4
  | tptr cs off b o val hb hc hr _ => exact .tptr cs off b o val hb hc hr
  | _ => first | exact .int _ _ | exact .bool _ | exact .str _ | exact .nilp | exact .nilfn | exact .nilif | exact .nilmap | exact .nilsl
theorem renO_gone {g : Nat → Nat} {o : AObj} : renO g o = .gone ↔ o = .gone := by cases o <;> simp [renO]

theorem VR.rename {μ μ' ρ ρ' S w x v} {p : Nat → Bool} {g : Nat → Nat} (h : VR μ ρ S w x v) (hr : inA p x = true) (hm : ∀ id o, p id = true → μ[id]? = some o → μ'[g id]? = some (renO g o) ∧ ρ' (g id) = ρ id) : VR μ' ρ' S w (renA g x) v := by
  induction h with
  | t h => exact .t h.ren
  | agg cs vs hl _ ih =>
    simp only [inA] at hr
    refine .agg _ vs (by rw [renL_len]; exact hl) fun i c v a b => ?_
    rw [renL_get] at a
    obtain ⟨c', h1, rfl⟩ := Option.map_eq_some_iff.1 a
    exact ih i c' v h1 b (inL_get hr h1)
  | tup cs vs hl _ ih =>
    simp only [inA] at hr
    refine .tup _ vs (by rw [renL_len]; exact hl) fun i c v a b => ?_
    rw [renL_get] at a
    obtain ⟨c', h1, rfl⟩ := Option.map_eq_some_iff.1 a
    exact ih i c' v h1 b (inL_get hr h1)
  | fn f fi ca vf vc h1 h2 _ _ ih1 ih2 =>
    simp only [inA, Bool.and_eq_true] at hr
    refine .fn _ _ _ vf vc (by rw [renL_len]; exact h1) (by rw [renL_len]; exact h2) (fun i c v a b => ?_) fun i c v a b => ?_
    · rw [renL_get] at a
      obtain ⟨c', h1, rfl⟩ := Option.map_eq_some_iff.1 a
      exact ih1 i c' v h1 b (inL_get hr.1 h1)
    · rw [renL_get] at a
      obtain ⟨c', h1, rfl⟩ := Option.map_eq_some_iff.1 a
      exact ih2 i c' v h1 b (inL_get hr.2 h1)
  | iface t x v _ ih => simp only [inA] at hr; exact .iface t _ v (ih hr)
  | hsl h1 h2 h3 => simp only [inA] at hr; obtain ⟨e1, e2⟩ := hm _ _ hr h1; exact .hsl e1 (by simpa using h2) (e2.trans h3)
  | hsl0 h1 h3 => simp only [inA] at hr; obtain ⟨e1, e2⟩ := hm _ _ hr h1; exact .hsl0 e1 (e2.trans h3)
  | hslOld v h1 h2 => simp only [inA] at hr; obtain ⟨e1, e2⟩ := hm _ _ hr h1; exact .hslOld v e1 h2
  | hslGone v h1 => simp only [inA] at hr; obtain ⟨e1, e2⟩ := hm _ _ hr h1; exact .hslGone v e1
  | ptr h1 h2 h3 => simp only [inA] at hr; obtain ⟨e1, e2⟩ := hm _ _ hr h1; exact .ptr e1 (by simpa using h2) (e2.trans h3)
  | ptrOld v h1 h2 => simp only [inA] at hr; obtain ⟨e1, e2⟩ := hm _ _ hr h1; exact .ptrOld v e1 h2
  | ptrGone v h1 => simp only [inA] at hr; obtain ⟨e1, e2⟩ := hm _ _ hr h1; exact .ptrGone v e1
  | mp h1 h3 => simp only [inA] at hr; obtain ⟨e1, e2⟩ := hm _ _ hr h1; exact .mp e1 (e2.trans h3)
  | mpGone v h1 => simp only [inA] at hr; obtain ⟨e1, e2⟩ := hm _ _ hr h1; exact .mpGone v e1
  | yl h1 h3 => simp only [inA] at hr; obtain ⟨e1, e2⟩ := hm _ _ hr h1; exact .yl e1 (e2.trans h3)
  | ylGone v h1 => simp only [inA] at hr; obtain ⟨e1, e2⟩ := hm _ _ hr h1; exact .ylGone v e1
  | dead v => exact .dead v

section rules
variable {K : Ctx}
theorem OR.rename {μ μ' ρ ρ' S w} {p : Nat → Bool} {g : Nat → Nat} {id id' : Nat} {o : AObj} (h : OR K ρ S μ w id o) (hr : inO p o = true) (hid : ρ' id' = ρ id) (hm : ∀ id o, p id = true → μ[id]? = some o → μ'[g id]? = some (renO g o) ∧ ρ' (g id) = ρ id) : OR K ρ' S μ' w id' (renO g o) := by
  cases o with
  | gone => trivial
  | row e gn sz es =>
    rcases h with h1 | ⟨B, cap, cur, h1, h2, h3, h4, h5, h6, h7, h8⟩
    · exact .inl ⟨hid.trans h1.1, by rw [h1.2]; rfl⟩
    · refine .inr ⟨B, cap, cur, hid.trans h1, h2, h3, h4, h5, by simpa using h6, h7, fun i cs hi => ?_⟩
      rw [List.getElem?_map] at hi
      obtain ⟨cs', i1, rfl⟩ := Option.map_eq_some_iff.1 hi
      refine ⟨by rw [renL_len]; exact (h8 i cs' i1).1, fun j c hj => ?_⟩
      rw [renL_get] at hj
      obtain ⟨c', j1, rfl⟩ := Option.map_eq_some_iff.1 hj
      obtain ⟨v, v1, v2, v3⟩ := (h8 i cs' i1).2 j c' j1
      refine ⟨v, v1, v2.rename ?_ hm, v3⟩
      simp only [inO] at hr
      exact inL_get (List.all_eq_true.1 hr cs' (List.mem_of_getElem? i1)) j1
  | map es =>
    obtain ⟨B, cap, ents, clock, h1, h2, h3, h4, h5, h6⟩ := h
    refine ⟨B, cap, ents, clock, hid.trans h1, h2, h3, h4, by simpa using h5, fun i k' v hi => ?_⟩
    rw [List.getElem?_map] at hi
    obtain ⟨q, i1, i2⟩ := Option.map_eq_some_iff.1 hi
    obtain ⟨k0, v0⟩ := q
    cases i2
    obtain ⟨en, e1, e2, e3⟩ := h6 i k0 v0 i1
    refine ⟨en, e1, e2, e3.rename ?_ hm⟩
    simp only [inO] at hr
    exact List.all_eq_true.1 hr (k0, v0) (List.mem_of_getElem? i1)
  | loop c st env =>
    obtain ⟨B, cap, rec, h1, h2, h3, h4, h5, h6, h7, h8, h9, h10⟩ := h
    refine ⟨B, cap, rec, hid.trans h1, h2, h3, h4, h5, h6, h7, h8, h9, fun t => ?_⟩
    rw [renE_get]
    simp only [inO] at hr
    exact (h10 t).rename (inE_get hr t) hm

mutual
theorem inA_ref {k : Nat} : ∀ {x : AV}, refA k x = true → inA (fun i => decide (i < k)) x = true := by
  intro x h
  cases x <;> simp only [refA, inA, Bool.and_eq_true, decide_eq_true_eq] at * <;> first | exact inL_ref h | exact ⟨inL_ref h.1, inL_ref h.2⟩ | exact inA_ref h | exact h | trivial
theorem inL_ref {k : Nat} : ∀ {l : List AV}, refL k l = true → inL (fun i => decide (i < k)) l = true := by
  intro l h
  cases l with
  | nil => rfl
  | cons x r => simp only [refL, inL, Bool.and_eq_true] at *; exact ⟨inA_ref h.1, inL_ref h.2⟩
end
theorem inO_ref {k : Nat} {o : AObj} (h : refO k o = true) : inO (fun i => decide (i < k)) o = true := by
  cases o with
  | gone => rfl
  | row e g sz es => simp only [refO, inO] at *; exact List.all_eq_true.2 fun x hx => inL_ref (List.all_eq_true.1 h x hx)
  | map es => simp only [refO, inO] at *; exact List.all_eq_true.2 fun x hx => inA_ref (List.all_eq_true.1 h x hx)
  | loop c st env => simp only [refO, refE, inO] at *; exact List.all_eq_true.2 fun x hx => inA_ref (List.all_eq_true.1 h x hx)

/-- Where the objects that the callee knows lie. -/
def posOf (el : List Nat) (n i : Nat) : Nat := match el[i]? with | some j => j | none => n + (i - el.length)
def backOf (el : List Nat) (j : Nat) : Nat := el.idxOf j
def renEnd (g : Nat → Nat) : AEnd → AEnd
  | .ret x => .ret (renA g x)
  | .panic x => .panic (renA g x)
/-- The caller's memory behind the call. -/
def putL (el : List Nat) (μ2 ν : List AObj) : List AObj :=
  ((List.range μ2.length).map fun j => if el.contains j then renO (posOf el μ2.length) (ν.getD (backOf el j) .gone) else μ2.getD j .gone) ++ (ν.drop el.length).map (renO (posOf el μ2.length))
theorem objTo_ren {a b : AObj} {r r' : Option (Nat × Nat)} {g g' : Nat → Nat} (h : ObjTo (renO g a) b r r') : ObjTo a (renO g' b) r r' := by
  cases a <;> cases b <;> simp only [renO, ObjTo, List.length_map] at * <;> exact h
theorem back_get {el : List Nat} {j : Nat} (h : j ∈ el) : el[backOf el j]? = some j := by
  unfold backOf
  have hl := List.idxOf_lt_length_of_mem h
  rw [List.getElem?_eq_getElem hl, List.getElem_idxOf hl]
theorem back_of {el : List Nat} {i j : Nat} (hnd : el.Nodup) (h : el[i]? = some j) : backOf el j = i := by
  have h2 := back_get (List.mem_of_getElem? h)
  have l1 := (List.getElem?_eq_some_iff.1 h2).1
  have l2 := (List.getElem?_eq_some_iff.1 h).1
  exact (List.getElem?_inj l1 hnd).1 (h2.trans h.symm)

/-- Which of the callee's objects lie where. -/
def placeOK (el : List Nat) (μ2 : List AObj) : Bool := (decide el.Nodup && el.all fun j => decide (j < μ2.length)) && el.all fun j => inO (fun i => el.contains i) (μ2.getD j .gone)

theorem ACalls.place {f : Nat} {args args2 : List AV} {μ μ2 : List AObj} {R : AEnd → List AObj → Prop} (el : List Nat) (h : ACalls K f args μ R) (hnd : el.Nodup) (hlt : ∀ j ∈ el, j < μ2.length)
    (hμ : el.map (fun j => renO (backOf el) (μ2.getD j .gone)) = μ) (hin : ∀ j ∈ el, inO (fun i => el.contains i) (μ2.getD j .gone) = true) (ha : renL (backOf el) args2 = args) (hain : inL (fun i => el.contains i) args2 = true) :
    ACalls K f args2 μ2 fun ae ν2 => ∃ ae1 ν, R ae1 ν ∧ ae = renEnd (posOf el μ2.length) ae1 ∧ ν2 = putL el μ2 ν := by
  refine ⟨h.1, fun ρ2 S w vs hr hlv hv => ?_⟩
  obtain ⟨ρ1, hρ1⟩ : ∃ ρ1 : Nat → Option (Nat × Nat), ρ1 = fun i => match el[i]? with | some j => ρ2 j | none => none := ⟨_, rfl⟩
  have r1 : ∀ {i j : Nat}, el[i]? = some j → ρ1 i = ρ2 j := fun {i j} hi => by rw [hρ1]; simp only [hi]
  have getD2 : ∀ {j : Nat} {o : AObj}, μ2[j]? = some o → μ2.getD j .gone = o := fun hj => by simp [List.getD, hj]
  have hml : μ.length = el.length := by rw [← hμ]; simp
  have hμg : ∀ {i : Nat} {o : AObj}, μ[i]? = some o → ∃ j o2, el[i]? = some j ∧ μ2[j]? = some o2 ∧ o = renO (backOf el) o2 := fun {i o} hi => by
    rw [← hμ, List.getElem?_map] at hi
    obtain ⟨j, j1, rfl⟩ := Option.map_eq_some_iff.1 hi
    have hj := hlt j (List.mem_of_getElem? j1)
    exact ⟨j, _, j1, List.getElem?_eq_getElem hj, by rw [getD2 (List.getElem?_eq_getElem hj)]⟩
  have hm1 : ∀ id o, el.contains id = true → μ2[id]? = some o → μ[backOf el id]? = some (renO (backOf el) o) ∧ ρ1 (backOf el id) = ρ2 id := fun id o hc hi => by
    have hmem : id ∈ el := by simpa using hc
    have hb := back_get hmem
    refine ⟨?_, r1 hb⟩
    rw [← hμ, List.getElem?_map, hb]
    simp only [Option.map_some, getD2 hi]
  have hr1 : RepMu K ρ1 S μ w := by
    refine ⟨hr.below, hr.st, hr.own, fun i o hi => ?_, fun i i' o o' B c c' hi hi' hne hne' hB hB' => ?_⟩
    · obtain ⟨j, o2, j1, j2, rfl⟩ := hμg hi
      have := hin j (List.mem_of_getElem? j1)
      rw [getD2 j2] at this
      exact (hr.ob j o2 j2).rename this (r1 j1) hm1
    · obtain ⟨j, o2, j1, j2, rfl⟩ := hμg hi
      obtain ⟨j', o2', j1', j2', rfl⟩ := hμg hi'
      rw [r1 j1] at hB; rw [r1 j1'] at hB'
      have e := hr.inj j j' o2 o2' B c c' j2 j2' (fun h => hne (renO_gone.2 h)) (fun h => hne' (renO_gone.2 h)) hB hB'
      subst e
      exact (back_of hnd j1).symm.trans (back_of hnd j1')
  have hla : args.length = args2.length := by rw [← ha, renL_len]
  refine (h.2 ρ1 S w vs hr1 (hlv.trans hla.symm) (fun i x v a b => by
    rw [← ha, renL_get] at a
    obtain ⟨x2, a1, rfl⟩ := Option.map_eq_some_iff.1 a
    exact (hv i x2 v a1 b).rename (inL_get hain a1) hm1)).mono ?_
  rintro en w' ⟨ae1, ν, ρ', S', hR, hE, hr', hst⟩
  have hνl : el.length ≤ ν.length := by
    rw [← hml]
    by_cases h0 : μ.length = 0
    · omega
    · obtain ⟨o', h1, -⟩ := hst.obj (μ.length - 1) _ (List.getElem?_eq_getElem (by omega))
      have := (List.getElem?_eq_some_iff.1 h1).1
      omega
  obtain ⟨pos, hposd⟩ : ∃ pos, pos = posOf el μ2.length := ⟨_, rfl⟩
  have p1 : ∀ {i j : Nat}, el[i]? = some j → pos i = j := fun {i j} hi => by rw [hposd]; unfold posOf; simp only [hi]
  have p2 : ∀ {i : Nat}, el.length ≤ i → pos i = μ2.length + (i - el.length) := fun {i} hi => by rw [hposd]; unfold posOf; simp only [List.getElem?_eq_none hi]
  obtain ⟨ρ3, hρ3⟩ : ∃ ρ3 : Nat → Option (Nat × Nat), ρ3 = fun j => if el.contains j = true then ρ' (backOf el j) else if j < μ2.length then ρ2 j else ρ' (el.length + (j - μ2.length)) := ⟨_, rfl⟩
  have hnc : ∀ {j : Nat}, μ2.length ≤ j → ¬ el.contains j = true := fun {j} hj hc => by
    have := hlt j (by simpa using hc); omega
  have r3 : ∀ i, ρ3 (pos i) = ρ' i := fun i => by
    by_cases hi : i < el.length
    · have h1 : el[i]? = some el[i] := List.getElem?_eq_getElem hi
      rw [p1 h1, hρ3]
      have hc : el.contains el[i] = true := by simp
      simp only [hc, if_true, back_of hnd h1]
    · rw [p2 (by omega), hρ3]
      have hc := hnc (j := μ2.length + (i - el.length)) (by omega)
      show (if _ then _ else _) = _
      rw [if_neg hc]
      show (if _ then _ else _) = _
      rw [if_neg (by omega)]
      congr 1; omega
  have r3o : ∀ {j : Nat}, j < μ2.length → ¬ el.contains j = true → ρ3 j = ρ2 j := fun {j} h1 h2 => by rw [hρ3]; show (if _ then _ else _) = _; rw [if_neg h2]; show (if _ then _ else _) = _; rw [if_pos h1]
  obtain ⟨ν2, hν2⟩ : ∃ ν2, ν2 = putL el μ2 ν := ⟨_, rfl⟩
  have g1 : ∀ {j : Nat}, j < μ2.length → ν2[j]? = some (if el.contains j then renO pos (ν.getD (backOf el j) .gone) else μ2.getD j .gone) := fun {j} hj => by
    rw [hν2, hposd]; unfold putL
    rw [List.getElem?_append_left (by simpa using hj), List.getElem?_map, List.getElem?_range hj]
    rfl
  have g2 : ∀ {i : Nat}, el.length ≤ i → ν2[μ2.length + (i - el.length)]? = (ν[i]?).map (renO pos) := fun {i} hi => by
    rw [hν2, hposd]; unfold putL
    rw [List.getElem?_append_right (by simp), List.getElem?_map, List.getElem?_drop]
    congr 2
    simp; omega
  have gp : ∀ i o, ν[i]? = some o → ν2[pos i]? = some (renO pos o) := fun i o hi => by
    by_cases hl : i < el.length
    · have h1 : el[i]? = some el[i] := List.getElem?_eq_getElem hl
      rw [p1 h1, g1 (hlt _ (List.getElem_mem hl))]
      have hc : el.contains el[i] = true := by simp
      rw [if_pos hc, back_of hnd h1]
      simp [List.getD, hi]
    · rw [p2 (by omega), g2 (by omega), hi]; rfl
  have cls : ∀ i o, ν2[i]? = some o → (∃ id o', i = pos id ∧ ν[id]? = some o' ∧ o = renO pos o') ∨ (i < μ2.length ∧ ¬ el.contains i = true ∧ μ2[i]? = some o) := fun i o hi => by
    by_cases hl : i < μ2.length
    · rw [g1 hl] at hi
      by_cases hc : el.contains i = true
      · rw [if_pos hc] at hi
        cases hi
        have hb := back_get (show i ∈ el by simpa using hc)
        have hbl := (List.getElem?_eq_some_iff.1 hb).1
        have hν : ν[backOf el i]? = some ν[backOf el i] := List.getElem?_eq_getElem (by omega)
        exact .inl ⟨backOf el i, _, (p1 hb).symm, hν, by simp [List.getD, hν]⟩
      · rw [if_neg hc] at hi
        cases hi
        exact .inr ⟨hl, hc, by rw [List.getElem?_eq_getElem hl, getD2 (List.getElem?_eq_getElem hl)]⟩
    · have e : i = μ2.length + (el.length + (i - μ2.length) - el.length) := by omega
      rw [e, g2 (by omega)] at hi
      obtain ⟨o', o1, rfl⟩ := Option.map_eq_some_iff.1 hi
      exact .inl ⟨el.length + (i - μ2.length), o', by rw [p2 (by omega)]; omega, o1, rfl⟩
  have hm2 : ∀ id o, (decide (id < ν.length)) = true → ν[id]? = some o → ν2[pos id]? = some (renO pos o) ∧ ρ3 (pos id) = ρ' id := fun id o _ hi => ⟨gp id o hi, r3 id⟩
  have k : Stab0 μ2 ρ2 S w ν2 ρ3 S' w' := by
    refine ⟨hst.sub, hst.blk, fun id o ho => ?_⟩
    have hl := (List.getElem?_eq_some_iff.1 ho).1
    by_cases hc : el.contains id = true
    · obtain ⟨a1, a2⟩ := hm1 id o hc ho
      obtain ⟨o', b1, b2⟩ := hst.obj _ _ a1
      have hb := back_get (show id ∈ el by simpa using hc)
      refine ⟨renO pos o', by rw [← p1 hb]; exact gp _ _ b1, ?_⟩
      have e3 : ρ3 id = ρ' (backOf el id) := by rw [← r3, p1 hb]
      rw [e3, ← a2]
      exact objTo_ren b2
    · exact ⟨o, by rw [g1 hl, if_neg hc, getD2 ho], by rw [r3o hl hc]; exact ObjTo.refl o _⟩
  have hfr : ∀ (i : Nat) o B c, μ2[i]? = some o → ¬ el.contains i = true → o ≠ .gone → ρ2 i = some (B, c) → w'.heap[B]? = w.heap[B]? ∧ ¬ S' B ∧ NoOwn ν ρ' B := fun i o B c hi hc hne hB => by
    obtain ⟨b1, b2, b3⟩ := hr.blk hi hne hB
    refine hst.fr B b3 b2 fun i' o' c' hi' hne' hB' => ?_
    obtain ⟨j, o2, j1, j2, rfl⟩ := hμg hi'
    rw [r1 j1] at hB'
    have := hr.inj i j o o2 B c c' hi j2 hne (fun h => hne' (renO_gone.2 h)) hB hB'
    subst this
    exact hc (by simpa using List.mem_of_getElem? j1)
  have hrefM := hr'.refM
  refine ⟨renEnd pos ae1, ν2, ρ3, S', ⟨ae1, ν, hR, by rw [hposd], hν2⟩, ?_, ⟨hr'.below, hr'.st, hr'.own, fun i o hi => ?_, fun i i' o o' B c c' hi hi' hne hne' hB hB' => ?_⟩, ⟨hst.sub, hst.blk, k.obj, hst.size, hst.col, fun b hlt' b1 b2 => ?_⟩⟩
  · cases ae1 <;> cases en <;> simp only [EndRel, renEnd] at hE ⊢
    · exact hE.rename (inA_ref hE.refs) hm2
    · rename_i x chain
      match chain, hE with
      | [⟨v, false, false⟩], hE => exact VR.rename hE (inA_ref (VR.refs hE)) hm2
  · rcases cls i o hi with ⟨id, o', rfl, h1, rfl⟩ | ⟨h1, h2, h3⟩
    · refine (hr'.ob id o' h1).rename (inO_ref ?_) (r3 id) hm2
      exact refM_get hrefM h1
    · exact (hr.ob i o h3).stab0 k (r3o h1 h2) fun B c hB hne => ⟨(hfr i o B c h3 h2 hne hB).2.1, (hfr i o B c h3 h2 hne hB).1⟩
  · rcases cls i o hi with ⟨id, o1, rfl, h1, rfl⟩ | ⟨h1, h2, h3⟩ <;> rcases cls i' o' hi' with ⟨id', o1', rfl, h1', rfl⟩ | ⟨h1', h2', h3'⟩
    · rw [r3] at hB hB'
      rw [hr'.inj id id' o1 o1' B c c' h1 h1' (fun h => hne (renO_gone.2 h)) (fun h => hne' (renO_gone.2 h)) hB hB']
    · rw [r3] at hB; rw [r3o h1' h2'] at hB'
      exact absurd hB ((hfr i' o' B c' h3' h2' hne' hB').2.2 id o1 c h1 (fun h => hne (renO_gone.2 h)))
    · rw [r3] at hB'; rw [r3o h1 h2] at hB
      exact absurd hB' ((hfr i o B c h3 h2 hne hB).2.2 id' o1' c' h1' (fun h => hne' (renO_gone.2 h)))
    · rw [r3o h1 h2] at hB; rw [r3o h1' h2'] at hB'
      exact hr.inj i i' o o' B c c' h3 h3' hne hne' hB hB'
  · obtain ⟨a1, a2, a3⟩ := hst.fr b hlt' b1 fun i o c hi hne => by
      obtain ⟨j, o2, j1, j2, rfl⟩ := hμg hi
      rw [r1 j1]
      exact b2 j o2 c j2 fun h => hne (renO_gone.2 h)
    refine ⟨a1, a2, fun i o c hi hne => ?_⟩
    rcases cls i o hi with ⟨id, o1, rfl, h1, rfl⟩ | ⟨h1, h2, h3⟩
    · rw [r3]; exact a3 id o1 c h1 fun h => hne (renO_gone.2 h)
    · rw [r3o h1 h2]; exact b2 i o c h3 hne
theorem ACalls.placed {f : Nat} {args args2 : List AV} {μ μ2 : List AObj} {R : AEnd → List AObj → Prop} (el : List Nat) (h : ACalls K f args μ R) (hok : placeOK el μ2 = true)
    (hμ : el.map (fun j => renO (backOf el) (μ2.getD j .gone)) = μ) (ha : renL (backOf el) args2 = args) (hain : inL (fun i => el.contains i) args2 = true) :
    ACalls K f args2 μ2 fun ae ν2 => ∃ ae1 ν, R ae1 ν ∧ ae = renEnd (posOf el μ2.length) ae1 ∧ ν2 = putL el μ2 ν := by
  simp only [placeOK, Bool.and_eq_true, decide_eq_true_eq] at hok
  obtain ⟨⟨h1, h2⟩, h3⟩ := hok
  exact h.place el h1 (fun j hj => by simpa using List.all_eq_true.1 h2 j hj) hμ (fun j hj => List.all_eq_true.1 h3 j hj) ha hain
end rules
end Go.Av

/- A nil slice in a cell of a row that the call owns becomes an owned row without elements. -/
set_option linter.unusedVariables false
set_option linter.unusedSimpArgs false
namespace Go.Av
open Go.RowKit
section rules
variable {K : Ctx}
theorem RepMu.recell {ρ S μ w} (h : RepMu K ρ S μ w) {id e g sz : Nat} {es es' : List (List AV)} (ho : μ[id]? = some (.row e g sz es)) (hl : es'.length = es.length)
    (hc : ∀ (i : Nat) cs', es'[i]? = some cs' → ∃ cs, es[i]? = some cs ∧ cs'.length = cs.length ∧ ∀ (j : Nat) c', cs'[j]? = some c' → ∃ c, cs[j]? = some c ∧ ∀ v, VR μ ρ S w c v → VR μ ρ S w c' v) :
    RepMu K ρ S (μ.set id (.row e g sz es')) w ∧ Stab μ ρ S w (μ.set id (.row e g sz es')) ρ S w := by
  have hlt := (List.getElem?_eq_some_iff.1 ho).1
  have k : Stab μ ρ S w (μ.set id (.row e g sz es')) ρ S w := by
    refine ⟨fun _ h => h, fun b hb' => rfl, fun i o hi => ?_, Nat.le_refl _, fun _ h1 h2 => ⟨h2, h1⟩, fun b hlt h1 h2 => ⟨rfl, h1, fun i p c hi hne => ?_⟩⟩
    · by_cases hid : i = id
      · subst hid
        rw [ho] at hi; cases hi
        exact ⟨_, List.getElem?_set_self hlt, .inr ⟨rfl, rfl, rfl, by omega, rfl⟩⟩
      · exact ⟨o, by rw [List.getElem?_set_ne (Ne.symm hid)]; exact hi, ObjTo.refl o _⟩
    · by_cases hid : i = id
      · subst hid
        exact h2 i _ c ho (by intro h; cases h)
      · rw [List.getElem?_set_ne (Ne.symm hid)] at hi
        exact h2 i p c hi hne
  refine ⟨h.next h.below h.st h.own k (fun i o hi => ?_) ?_, k⟩
  · by_cases hid : i = id
    · subst hid
      rw [List.getElem?_set_self hlt] at hi
      cases hi
      refine .inr ?_
      rcases h.ob i _ ho with ⟨a1, rfl⟩ | ⟨B, cap, cur, h1, h2, h3, h4, h5, h6, h7, h8⟩
      · exact .inl ⟨a1, List.eq_nil_of_length_eq_zero (by simpa using hl)⟩
      · refine .inr ⟨B, cap, cur, h1, h2, h3, h4, h5, by omega, h7, fun i' cs' hi' => ?_⟩
        obtain ⟨cs, b1, b2, b3⟩ := hc i' cs' hi'
        refine ⟨by rw [b2]; exact (h8 i' cs b1).1, fun j c' hj => ?_⟩
        obtain ⟨c, c1, c2⟩ := b3 j c' hj
        obtain ⟨v, v1, v2, v3⟩ := (h8 i' cs b1).2 j c c1
        exact ⟨v, v1, (c2 v v2).stab k, v3⟩
    · rw [List.getElem?_set_ne (Ne.symm hid)] at hi
      exact .inl ⟨hi, rfl, fun B c hB hne => ⟨(h.blk hi hne hB).2.1, rfl⟩⟩
  · intro i i' o o' B c c' hi hi' hne hne' hB hB'
    have q : ∀ (i : Nat) o, (μ.set id (.row e g sz es'))[i]? = some o → o ≠ .gone → ∃ o2, μ[i]? = some o2 ∧ o2 ≠ .gone := fun i o hi hne => by
      by_cases hid : i = id
      · subst hid; exact ⟨_, ho, by intro h; cases h⟩
      · rw [List.getElem?_set_ne (Ne.symm hid)] at hi; exact ⟨o, hi, hne⟩
    obtain ⟨o2, a1, a2⟩ := q i o hi hne
    obtain ⟨o2', b1, b2⟩ := q i' o' hi' hne'
    exact h.inj i i' o2 o2' B c c' a1 b1 a2 b2 hB hB'

/-- The memory in which the nil slice in a cell is an owned row. -/
def ghC (μ : List AObj) (id i j e' sz' : Nat) : List AObj :=
  match μ[id]? with
  | some (.row e g sz es) => (μ ++ [AObj.row e' 0 sz' []]).set id (.row e g sz (es.set i ((es.getD i []).set j (.hsl μ.length 0 sz' 0))))
  | _ => μ
theorem sem_ghostC {F : Fcx} {Q : AExit → St → Prop} {s : SCode} {env : List (Nat × AV)} {μ μ' : List AObj} (id i j e' sz' : Nat) {e g sz : Nat} {es : List (List AV)} (ho : μ[id]? = some (.row e g sz es)) (hn : (es.getD i []).getD j .dead = .nilsl)
    (hμ : ghC μ id i j e' sz' = μ') (h : sem K F s ⟨env, μ'⟩ Q) : sem K F s ⟨env, μ⟩ Q := by
  intro c hc a w ρ S ha μ0 ρ0 S0 w0 hst
  obtain ⟨a1, k⟩ := ha.mu.addNil e' sz'
  have hlt := (List.getElem?_eq_some_iff.1 ho).1
  have ho' : (μ ++ [AObj.row e' 0 sz' []])[id]? = some (.row e g sz es) := by rw [List.getElem?_append_left hlt]; exact ho
  obtain ⟨b1, k2⟩ := a1.recell (es' := es.set i ((es.getD i []).set j (.hsl μ.length 0 sz' 0))) ho' (by simp) fun i' cs' hi' => by
    by_cases e1 : i' = i
    · subst e1
      have hl : i' < es.length := by have := (List.getElem?_eq_some_iff.1 hi').1; simpa using this
      rw [List.getElem?_set_self hl] at hi'
      cases hi'
      have hg : es.getD i' [] = es[i'] := by simp [List.getD, hl]
      refine ⟨es[i'], List.getElem?_eq_getElem hl, by rw [List.length_set, hg], fun j' c' hj' => ?_⟩
      rw [hg] at hj' hn
      by_cases e2 : j' = j
      · subst e2
        have hl2 : j' < es[i'].length := by have := (List.getElem?_eq_some_iff.1 hj').1; simpa using this
        rw [List.getElem?_set_self hl2] at hj'
        cases hj'
        refine ⟨_, List.getElem?_eq_getElem hl2, fun v hv => ?_⟩
        have hn' : es[i'][j'] = .nilsl := by simpa [List.getD, hl2] using hn
        rw [hn'] at hv
        cases hv with
        | t h' => cases h'; exact .hsl0 (e := e') (es := []) (by simp) (by simp)
      · rw [List.getElem?_set_ne (Ne.symm e2)] at hj'
        exact ⟨c', hj', fun v hv => hv⟩
    · rw [List.getElem?_set_ne (Ne.symm e1)] at hi'
      exact ⟨cs', hi', rfl, fun j' c' hj' => ⟨c', hj', fun v hv => hv⟩⟩
  have hμ' : (μ ++ [AObj.row e' 0 sz' []]).set id (.row e g sz (es.set i ((es.getD i []).set j (.hsl μ.length 0 sz' 0)))) = μ' := by
    rw [← hμ]; simp only [ghC, ho]
  rw [hμ'] at b1 k2
  have k3 := k.trans k2
  exact h c hc a w _ S ⟨b1, ha.size, ha.defers.stab k3, fun u => (ha.env u).stab k3⟩ μ0 ρ0 S0 w0 (hst.trans k3)
end rules
end Go.Av

/- The reference: the worst truth; whether a house is surely level. -/
set_option linter.unusedVariables false
set_option linter.unusedSimpArgs false
set_option maxRecDepth 8000
set_option maxHeartbeats 2000000
namespace Go.Tk
open Go Go.Av
def needsW (t : CoolTown) (n : Nat) : List Int := (List.range n).map fun y => (t.houses.getD y default).need.high
def lowsW (t : CoolTown) (n : Nat) (i : Nat) : List Int := (List.range n).map fun y => ((t.sites.getD i default).gives.getD y default).low
def givesW (t : CoolTown) (n : Nat) : List (List Int) := (List.range n).map (lowsW t t.houses.length)
def worstT (t : CoolTown) : CoolTruth := ⟨needsW t t.houses.length, givesW t t.sites.length⟩
theorem needsW_succ (t : CoolTown) (n : Nat) : needsW t (n + 1) = needsW t n ++ [(t.houses.getD n default).need.high] := by simp [needsW, List.range_succ]
theorem lowsW_succ (t : CoolTown) (n i : Nat) : lowsW t (n + 1) i = lowsW t n i ++ [((t.sites.getD i default).gives.getD n default).low] := by simp [lowsW, List.range_succ]
theorem givesW_succ (t : CoolTown) (n : Nat) : givesW t (n + 1) = givesW t n ++ [lowsW t t.houses.length n] := by simp [givesW, List.range_succ]
theorem needsW_len (t : CoolTown) (n : Nat) : (needsW t n).length = n := by simp [needsW]
theorem lowsW_len (t : CoolTown) (n i : Nat) : (lowsW t n i).length = n := by simp [lowsW]
theorem givesW_len (t : CoolTown) (n : Nat) : (givesW t n).length = n := by simp [givesW]
theorem worstB {t : CoolTown} (ht : t.ok) : truthB t (worstT t) := by
  obtain ⟨h1, h2, h3, h4⟩ := ht
  refine ⟨needsW_len _ _, fun v hv => ?_, givesW_len _ _, fun l hl => ?_⟩
  · obtain ⟨y, hy, rfl⟩ := List.mem_map.1 hv
    have := all_getD.1 h3 y (List.mem_range.1 hy)
    obtain ⟨⟨a, b, c⟩, d⟩ := this
    omega
  · obtain ⟨i, hi, rfl⟩ := List.mem_map.1 hl
    refine ⟨lowsW_len _ _ _, fun v hv => ?_⟩
    obtain ⟨y, hy, rfl⟩ := List.mem_map.1 hv
    obtain ⟨a, b, c, d⟩ := all_getD.1 h4 i (List.mem_range.1 hi)
    have := all_getD.1 d y (by rw [c]; exact List.mem_range.1 hy)
    obtain ⟨e, f, g⟩ := this
    omega
/-- Whether a house is surely level with some working coolers. -/
def levelB (t : CoolTown) (w : List Int) (y : Nat) : Bool := decide (0 ≤ over1 (worstT t) w y)
end Go.Tk
namespace Go.Proofs.Ytnempffajbdneaa
open Go Go.Av Go.Tk
attribute [local irreducible] Holds sem semL ACalls FnIs
variable {G : World → Prop} (hG : ∀ w w', G w → RowKit.Below w.heap.size w w' → G w')
include hG
theorem ref03_Worst (t : CoolTown) (ht : t.ok) : Holds Try.prog G F.ref03_Worst [.agg t.cs] (.agg (worstT t).cs) := by
  have hn := ht.1
  have hns := ht.2.1
  (refine holds_of_sem hG fn_ref03_Worst (by simp) fun w0 S0 hG0 D0 => ?_; unfold c_ref03_Worst cval enterEnv; simp only [List.zipIdx_cons, List.zipIdx_nil, List.map_cons, List.map_nil, Nat.zero_add, Nat.reduceAdd])
  repeat' (first | ((first | refine o1 rfl ?_ | refine o0 rfl ?_); intro k hk; simp (disch := omega) only [ev0, sl_cells, simprocAttr]; refine hk _ _ ?_; clear hk k) | refine ono rfl ?_ | ((first | refine osplitG rfl (fun h => ?_) (fun h => ?_) | refine osplitB rfl (fun h => ?_) (fun h => ?_)) <;> (fail_if_success (simp only [eq_self, reduceCtorEq] at h))) | refine onx ?_ | refine onb ?_ | refine sreg ?_ | refine qT rfl ?_ | refine qF rfl ?_ | refine scondT rfl ?_ | refine scondF rfl ?_ | refine ocondP rfl (fun h => ?_) (fun h => ?_) | refine ocondB rfl (fun h => ?_) (fun h => ?_) | refine scondP rfl (fun h => ?_) (fun h => ?_) | refine scond rfl (fun h => ?_) (fun h => ?_) | refine oskip ?_ | refine oskipb ?_ | refine oret ?_ | refine sem_ret ?_ | refine sem_seq ?_ | refine sreg1 ?_)
  refine sem_ghostC 2 0 0 3 1 rfl rfl rfl ?_
  refine sem_block ?_
  
  refine sem_loop (α := Nat) (fun y => ⟨[(1, .ptr 0 0 2 0 0), (2, .ptr 1 0 2 0 0), (3, .ptr 2 0 2 0 0), (4, I y)], [.row 25 0 2 [t.cs], .row 53 0 2 [[.nilsl, .nilsl]], .row 53 0 2 [[.hsl 3 (needsW t y).length 1 (needsW t y).length, .nilsl]], .row 3 (needsW t y).length 1 (rowL intCs (needsW t y))]⟩) (fun y => y ≤ t.houses.length) (fun y => t.houses.length - y) 0 (Nat.zero_le _) ?_ ?_
  · (refine Le.same ?_; simp only [List.forall_mem_cons, List.forall_mem_nil, getE, selE, Nat.reduceBEq, List.not_mem_nil, false_implies, implies_true, and_true, true_and, and_self])
    simp [needsW, CoolTown.cs]
  · intro y hy
    have hlen := needsW_len t y
    have hsu := needsW_succ t y
    generalize hL : needsW t y = L at *
    repeat' (first | ((first | refine o1 rfl ?_ | refine o0 rfl ?_); intro k hk; simp (disch := omega) only [ev0, sl_cells, simprocAttr, CoolTown.cs, slOf]; refine hk _ _ ?_; clear hk k) | refine ono rfl ?_ | ((first | refine osplitG rfl (fun h => ?_) (fun h => ?_) | refine osplitB rfl (fun h => ?_) (fun h => ?_)) <;> (fail_if_success (simp only [eq_self, reduceCtorEq] at h))) | refine onx ?_ | refine onb ?_ | refine sreg ?_ | refine qT rfl ?_ | refine qF rfl ?_ | refine scondT rfl ?_ | refine scondF rfl ?_ | refine ocondP rfl (fun h => ?_) (fun h => ?_) | refine ocondB rfl (fun h => ?_) (fun h => ?_) | refine scondP rfl (fun h => ?_) (fun h => ?_) | refine scond rfl (fun h => ?_) (fun h => ?_) | refine oskip ?_ | refine oskipb ?_ | refine oret ?_ | refine sem_ret ?_ | refine sem_seq ?_ | refine sreg1 ?_)
    · have hy' : y < t.houses.length := by omega
      have e1 := rowL_take (enc := intCs) (l := L)
      refine sem_block ?_
      repeat' (first | ((first | refine o1 rfl ?_ | refine o0 rfl ?_); intro k hk; simp (disch := omega) only [ev0, sl_cells, simprocAttr]; refine hk _ _ ?_; clear hk k) | refine ono rfl ?_ | ((first | refine osplitG rfl (fun h => ?_) (fun h => ?_) | refine osplitB rfl (fun h => ?_) (fun h => ?_)) <;> (fail_if_success (simp only [eq_self, reduceCtorEq] at h))) | refine onx ?_ | refine onb ?_ | refine sreg ?_ | refine qT rfl ?_ | refine qF rfl ?_ | refine scondT rfl ?_ | refine scondF rfl ?_ | refine ocondP rfl (fun h => ?_) (fun h => ?_) | refine ocondB rfl (fun h => ?_) (fun h => ?_) | refine scondP rfl (fun h => ?_) (fun h => ?_) | refine scond rfl (fun h => ?_) (fun h => ?_) | refine oskip ?_ | refine oskipb ?_ | refine oret ?_ | refine sem_ret ?_ | refine sem_seq ?_ | refine sreg1 ?_)
      ((refine sem_mgo 10 hmix (by kernel_rfl) ?_; simp only [List.take_succ_cons, List.take_zero, List.drop_succ_cons, List.drop_zero, List.take_nil, List.drop_nil]); (repeat' (first | ((first | apply mop | apply mop0); (case hg => rfl); (case hq => rfl); intro k hk; simp (disch := omega) only [ev0, sl_cells, simprocAttr, CoolTown.cs, CoolHouse.cs, slOf]; refine hk _ _ rfl ?_; clear hk k) | (apply mno; (case hg => rfl)) | (apply mbox; (case hx => (simp only [wv, simprocAttr] <;> rfl)); (case hg => rfl); (case hall => rfl); (case hr => rfl); simp only [cellsOf, List.length_cons, List.length_nil, Nat.reduceAdd, Nat.zero_add, List.nil_append, List.cons_append, List.set_cons_zero, List.set_cons_succ, chunks, List.take_succ_cons, List.take_zero, List.drop_succ_cons, List.drop_zero]) | (apply mbldS; (case hb => (simp (disch := omega) only [ev0, sl_cells, simprocAttr] <;> rfl)); (case hg => rfl); (case hr => rfl); simp only [cellsOf, List.length_cons, List.length_nil, Nat.reduceAdd, Nat.zero_add, List.nil_append, List.cons_append, List.set_cons_zero, List.set_cons_succ, chunks, List.take_succ_cons, List.take_zero, List.drop_succ_cons, List.drop_zero]) | ((first | (apply msto (q := 0); (case hq => rfl)) | (apply msto (q := 1); (case hq => rfl)) | (apply msto (q := 2); (case hq => rfl)) | (apply msto (q := 3); (case hq => rfl))); (case hx => (simp only [wv, simprocAttr] <;> rfl)); (case haddr => (simp only [wv, simprocAttr] <;> rfl)); (case hg => rfl); (case hl1 => rfl); (case hl2 => rfl); (case hok => rfl); (case hr => rfl); simp only [cellsOf, List.length_cons, List.length_nil, Nat.reduceAdd, Nat.zero_add, List.nil_append, List.cons_append, List.set_cons_zero, List.set_cons_succ, chunks, List.take_succ_cons, List.take_zero, List.drop_succ_cons, List.drop_zero]) | (apply mnil; simp only [SlotR.fin, List.map_cons, List.map_nil, List.cons_append, List.nil_append, List.append_nil]) | (refine msplit rfl (fun h => ?_) (fun h => ?_) <;> simp only [h] <;> (try simp only [Bool.not_eq_true', Bool.not_eq_false', decide_eq_true_eq, decide_eq_false_iff_not] at h)))) <;> (repeat' (first | ((first | refine o1 rfl ?_ | refine o0 rfl ?_); intro k hk; simp (disch := omega) only [ev0, sl_cells, simprocAttr, CoolTown.cs, CoolHouse.cs, slOf]; refine hk _ _ ?_; clear hk k) | refine ono rfl ?_ | ((first | refine osplitG rfl (fun h => ?_) (fun h => ?_) | refine osplitB rfl (fun h => ?_) (fun h => ?_)) <;> (fail_if_success (simp only [eq_self, reduceCtorEq] at h))) | refine onx ?_ | refine onb ?_ | refine sreg ?_ | refine qT rfl ?_ | refine qF rfl ?_ | refine scondT rfl ?_ | refine scondF rfl ?_ | refine ocondP rfl (fun h => ?_) (fun h => ?_) | refine ocondB rfl (fun h => ?_) (fun h => ?_) | refine scondP rfl (fun h => ?_) (fun h => ?_) | refine scond rfl (fun h => ?_) (fun h => ?_) | refine oskip ?_ | refine oskipb ?_ | refine oret ?_ | refine sem_ret ?_ | refine sem_seq ?_ | refine sreg1 ?_)))
      refine onil (lnext (y + 1) (by omega) (by omega) ?_)
      rw [hsu, e1, show ∀ v : Int, [[AV.int .i64 v]] = [intCs v] from fun _ => rfl, rowL_snoc, List.length_append]
      (refine Le.drop ?_ rfl (by simp) rfl (by simp only [refM, refO, List.all_cons, List.all_nil, Bool.and_true, Bool.true_and, rowL_all (enc := intCs) (fun _ _ => rfl), CoolTown.cs]; first | done | rfl) ; simp only [List.forall_mem_cons, List.forall_mem_nil, getE, selE, Nat.reduceBEq, List.not_mem_nil, false_implies, implies_true, and_true, true_and, and_self])
      simp
    · have hy' : y = t.houses.length := by omega
      subst hy'
      have hL' : L.length ≤ 1000 := by omega
      (refine sem_exit ?_; change sem _ _ _ _ _)
      repeat' (first | ((first | refine o1 rfl ?_ | refine o0 rfl ?_); intro k hk; simp (disch := omega) only [ev0, sl_cells, simprocAttr]; refine hk _ _ ?_; clear hk k) | refine ono rfl ?_ | ((first | refine osplitG rfl (fun h => ?_) (fun h => ?_) | refine osplitB rfl (fun h => ?_) (fun h => ?_)) <;> (fail_if_success (simp only [eq_self, reduceCtorEq] at h))) | refine onx ?_ | refine onb ?_ | refine sreg ?_ | refine qT rfl ?_ | refine qF rfl ?_ | refine scondT rfl ?_ | refine scondF rfl ?_ | refine ocondP rfl (fun h => ?_) (fun h => ?_) | refine ocondB rfl (fun h => ?_) (fun h => ?_) | refine scondP rfl (fun h => ?_) (fun h => ?_) | refine scond rfl (fun h => ?_) (fun h => ?_) | refine oskip ?_ | refine oskipb ?_ | refine oret ?_ | refine sem_ret ?_ | refine sem_seq ?_ | refine sreg1 ?_)
      refine sem_ghostC 2 0 1 28 1 rfl rfl rfl ?_
      refine sem_block ?_
      
      refine sem_loop (α := Nat) (fun i => ⟨[(1, .ptr 0 0 2 0 0), (2, .ptr 1 0 2 0 0), (3, .ptr 2 0 2 0 0), (5, I i)], [.row 25 0 2 [t.cs], .row 53 0 2 [[.nilsl, .nilsl]], .row 53 0 2 [[.hsl 3 L.length 1 L.length, .hsl 4 (givesW t i).length 1 (givesW t i).length]], .row 3 L.length 1 (rowL intCs L), .row 28 (givesW t i).length 1 (rowL intsCs (givesW t i))]⟩) (fun i => i ≤ t.sites.length) (fun i => t.sites.length - i) 0 (Nat.zero_le _) ?_ ?_
      · (refine Le.same ?_; simp only [List.forall_mem_cons, List.forall_mem_nil, getE, selE, Nat.reduceBEq, List.not_mem_nil, false_implies, implies_true, and_true, true_and, and_self])
        simp [givesW, CoolTown.cs]
      · intro i hi
        have hglen := givesW_len t i
        have hgsu := givesW_succ t i
        generalize hM : givesW t i = M at *
        repeat' (first | ((first | refine o1 rfl ?_ | refine o0 rfl ?_); intro k hk; simp (disch := omega) only [ev0, sl_cells, simprocAttr, CoolTown.cs, slOf]; refine hk _ _ ?_; clear hk k) | refine ono rfl ?_ | ((first | refine osplitG rfl (fun h => ?_) (fun h => ?_) | refine osplitB rfl (fun h => ?_) (fun h => ?_)) <;> (fail_if_success (simp only [eq_self, reduceCtorEq] at h))) | refine onx ?_ | refine onb ?_ | refine sreg ?_ | refine qT rfl ?_ | refine qF rfl ?_ | refine scondT rfl ?_ | refine scondF rfl ?_ | refine ocondP rfl (fun h => ?_) (fun h => ?_) | refine ocondB rfl (fun h => ?_) (fun h => ?_) | refine scondP rfl (fun h => ?_) (fun h => ?_) | refine scond rfl (fun h => ?_) (fun h => ?_) | refine oskip ?_ | refine oskipb ?_ | refine oret ?_ | refine sem_ret ?_ | refine sem_seq ?_ | refine sreg1 ?_)
        · have hi' : i < t.sites.length := by omega
          have hgl : (t.sites.getD i default).gives.length = t.houses.length := (all_getD.1 ht.2.2.2 i hi').2.2.1
          have e2 := rowL_take (enc := intsCs) (l := M)
          refine sem_block ?_
          repeat' (first | ((first | refine o1 rfl ?_ | refine o0 rfl ?_); intro k hk; simp (disch := omega) only [ev0, sl_cells, simprocAttr]; refine hk _ _ ?_; clear hk k) | refine ono rfl ?_ | ((first | refine osplitG rfl (fun h => ?_) (fun h => ?_) | refine osplitB rfl (fun h => ?_) (fun h => ?_)) <;> (fail_if_success (simp only [eq_self, reduceCtorEq] at h))) | refine onx ?_ | refine onb ?_ | refine sreg ?_ | refine qT rfl ?_ | refine qF rfl ?_ | refine scondT rfl ?_ | refine scondF rfl ?_ | refine ocondP rfl (fun h => ?_) (fun h => ?_) | refine ocondB rfl (fun h => ?_) (fun h => ?_) | refine scondP rfl (fun h => ?_) (fun h => ?_) | refine scond rfl (fun h => ?_) (fun h => ?_) | refine oskip ?_ | refine oskipb ?_ | refine oret ?_ | refine sem_ret ?_ | refine sem_seq ?_ | refine sreg1 ?_)
          refine sem_block ?_
          (refine sem_ghost 6 3 1 rfl ?_; simp only [List.length_cons, List.length_nil, Nat.reduceAdd, Nat.zero_add, List.cons_append, List.nil_append])
          
          refine sem_loop (α := Nat) (fun y => ⟨[(1, .ptr 0 0 2 0 0), (2, .ptr 1 0 2 0 0), (3, .ptr 2 0 2 0 0), (5, I i), (6, .hsl 5 (lowsW t y i).length 1 (lowsW t y i).length), (7, I y)], [.row 25 0 2 [t.cs], .row 53 0 2 [[.nilsl, .nilsl]], .row 53 0 2 [[.hsl 3 L.length 1 L.length, .hsl 4 M.length 1 M.length]], .row 3 L.length 1 (rowL intCs L), .row 28 M.length 1 (rowL intsCs M), .row 3 (lowsW t y i).length 1 (rowL intCs (lowsW t y i))]⟩) (fun y => y ≤ t.houses.length) (fun y => t.houses.length - y) 0 (Nat.zero_le _) ?_ ?_
          · (refine Le.same ?_; simp only [List.forall_mem_cons, List.forall_mem_nil, getE, selE, Nat.reduceBEq, List.not_mem_nil, false_implies, implies_true, and_true, true_and, and_self])
            simp [lowsW, CoolTown.cs]
          · intro y hy
            have hlen2 := lowsW_len t y i
            have hsu2 := lowsW_succ t y i
            generalize hN : lowsW t y i = N at *
            repeat' (first | ((first | refine o1 rfl ?_ | refine o0 rfl ?_); intro k hk; simp (disch := omega) only [ev0, sl_cells, simprocAttr, CoolTown.cs, slOf]; refine hk _ _ ?_; clear hk k) | refine ono rfl ?_ | ((first | refine osplitG rfl (fun h => ?_) (fun h => ?_) | refine osplitB rfl (fun h => ?_) (fun h => ?_)) <;> (fail_if_success (simp only [eq_self, reduceCtorEq] at h))) | refine onx ?_ | refine onb ?_ | refine sreg ?_ | refine qT rfl ?_ | refine qF rfl ?_ | refine scondT rfl ?_ | refine scondF rfl ?_ | refine ocondP rfl (fun h => ?_) (fun h => ?_) | refine ocondB rfl (fun h => ?_) (fun h => ?_) | refine scondP rfl (fun h => ?_) (fun h => ?_) | refine scond rfl (fun h => ?_) (fun h => ?_) | refine oskip ?_ | refine oskipb ?_ | refine oret ?_ | refine sem_ret ?_ | refine sem_seq ?_ | refine sreg1 ?_)
            · have hy' : y < t.houses.length := by omega
              have e1 := rowL_take (enc := intCs) (l := N)
              refine sem_block ?_
              repeat' (first | ((first | refine o1 rfl ?_ | refine o0 rfl ?_); intro k hk; simp (disch := omega) only [ev0, sl_cells, simprocAttr, CoolTown.cs, CoolSite.cs, Span.cs, slOf]; refine hk _ _ ?_; clear hk k) | refine ono rfl ?_ | ((first | refine osplitG rfl (fun h => ?_) (fun h => ?_) | refine osplitB rfl (fun h => ?_) (fun h => ?_)) <;> (fail_if_success (simp only [eq_self, reduceCtorEq] at h))) | refine onx ?_ | refine onb ?_ | refine sreg ?_ | refine qT rfl ?_ | refine qF rfl ?_ | refine scondT rfl ?_ | refine scondF rfl ?_ | refine ocondP rfl (fun h => ?_) (fun h => ?_) | refine ocondB rfl (fun h => ?_) (fun h => ?_) | refine scondP rfl (fun h => ?_) (fun h => ?_) | refine scond rfl (fun h => ?_) (fun h => ?_) | refine oskip ?_ | refine oskipb ?_ | refine oret ?_ | refine sem_ret ?_ | refine sem_seq ?_ | refine sreg1 ?_)
              refine onil (lnext (y + 1) (by omega) (by omega) ?_)
              rw [hsu2, e1, show ∀ v : Int, [[AV.int .i64 v]] = [intCs v] from fun _ => rfl, rowL_snoc, List.length_append]
              (refine Le.drop ?_ rfl (by simp) rfl (by simp only [refM, refO, List.all_cons, List.all_nil, Bool.and_true, Bool.true_and, rowL_all (enc := intCs) (fun _ _ => rfl), rowL_all (enc := intsCs) (fun _ _ => rfl), CoolTown.cs]; first | done | rfl) ; simp only [List.forall_mem_cons, List.forall_mem_nil, getE, selE, Nat.reduceBEq, List.not_mem_nil, false_implies, implies_true, and_true, true_and, and_self])
              simp
            · have hy' : y = t.houses.length := by omega
              subst hy'
              (refine sem_exit ?_; change sem _ _ _ _ _)
              refine sem_frzlist (enc := intCs) 5 rfl (fun _ => rfl) ?_
              simp only [frzE, frzM, frzO, frzA, frzL, List.map_cons, List.map_nil, List.set_cons_zero, List.set_cons_succ, Nat.reduceEqDiff, if_true, if_false, and_self, Nat.le_refl, reduceIte, frz_sl, frz_town]
              have gr : ∀ a : List Int, frzL 5 N.length 1 N.length (fun i => intCs (N.getD i default)) (intsCs a) = intsCs a := fun _ => rfl
              have gi : ∀ a : Int, frzL 5 N.length 1 N.length (fun i => intCs (N.getD i default)) (intCs a) = intCs a := fun _ => rfl
              try simp only [frz_rowL gr, frz_rowL gi]
              repeat' (first | ((first | refine o1 rfl ?_ | refine o0 rfl ?_); intro k hk; simp (disch := omega) only [ev0, sl_cells, simprocAttr]; refine hk _ _ ?_; clear hk k) | refine ono rfl ?_ | ((first | refine osplitG rfl (fun h => ?_) (fun h => ?_) | refine osplitB rfl (fun h => ?_) (fun h => ?_)) <;> (fail_if_success (simp only [eq_self, reduceCtorEq] at h))) | refine onx ?_ | refine onb ?_ | refine sreg ?_ | refine qT rfl ?_ | refine qF rfl ?_ | refine scondT rfl ?_ | refine scondF rfl ?_ | refine ocondP rfl (fun h => ?_) (fun h => ?_) | refine ocondB rfl (fun h => ?_) (fun h => ?_) | refine scondP rfl (fun h => ?_) (fun h => ?_) | refine scond rfl (fun h => ?_) (fun h => ?_) | refine oskip ?_ | refine oskipb ?_ | refine oret ?_ | refine sem_ret ?_ | refine sem_seq ?_ | refine sreg1 ?_)
              refine onil (lnext (i + 1) (by omega) (by omega) ?_)
              rw [hgsu, hN, e2, show ∀ v : List Int, [[.sl v.length fun i => intCs (v.getD i default)]] = [intsCs v] from fun _ => rfl, rowL_snoc, List.length_append]
              (refine Le.drop ?_ rfl (by simp) rfl (by simp only [refM, refO, List.all_cons, List.all_nil, Bool.and_true, Bool.true_and, rowL_all (enc := intCs) (fun _ _ => rfl), rowL_all (enc := intsCs) (fun _ _ => rfl), CoolTown.cs]; first | done | rfl) ; simp only [List.forall_mem_cons, List.forall_mem_nil, getE, selE, Nat.reduceBEq, List.not_mem_nil, false_implies, implies_true, and_true, true_and, and_self])
              simp
        · have hi' : i = t.sites.length := by omega
          subst hi'
          (refine sem_exit ?_; change sem _ _ _ _ _)
          refine sem_frzlist (enc := intCs) 3 rfl (fun _ => rfl) ?_
          simp only [frzE, frzM, frzO, frzA, frzL, List.map_cons, List.map_nil, List.set_cons_zero, List.set_cons_succ, Nat.reduceEqDiff, if_true, if_false, and_self, Nat.le_refl, reduceIte, frz_sl, frz_town]
          have gr : ∀ a : List Int, frzL 3 L.length 1 L.length (fun i => intCs (L.getD i default)) (intsCs a) = intsCs a := fun _ => rfl
          try simp only [frz_rowL gr]
          refine sem_frzlist (enc := intsCs) 4 rfl (fun _ => rfl) ?_
          simp only [frzE, frzM, frzO, frzA, frzL, List.map_cons, List.map_nil, List.set_cons_zero, List.set_cons_succ, Nat.reduceEqDiff, if_true, if_false, and_self, Nat.le_refl, reduceIte, frz_sl, frz_town]
          repeat' (first | ((first | refine o1 rfl ?_ | refine o0 rfl ?_); intro k hk; simp (disch := omega) only [ev0, sl_cells, simprocAttr]; refine hk _ _ ?_; clear hk k) | refine ono rfl ?_ | ((first | refine osplitG rfl (fun h => ?_) (fun h => ?_) | refine osplitB rfl (fun h => ?_) (fun h => ?_)) <;> (fail_if_success (simp only [eq_self, reduceCtorEq] at h))) | refine onx ?_ | refine onb ?_ | refine sreg ?_ | refine qT rfl ?_ | refine qF rfl ?_ | refine scondT rfl ?_ | refine scondF rfl ?_ | refine ocondP rfl (fun h => ?_) (fun h => ?_) | refine ocondB rfl (fun h => ?_) (fun h => ?_) | refine scondP rfl (fun h => ?_) (fun h => ?_) | refine scond rfl (fun h => ?_) (fun h => ?_) | refine oskip ?_ | refine oskipb ?_ | refine oret ?_ | refine sem_ret ?_ | refine sem_seq ?_ | refine sreg1 ?_)
          have hW : (worstT t).cs = [.sl L.length fun i => intCs (L.getD i default), .sl M.length fun i => intsCs (M.getD i default)] := by rw [← hL, ← hM]; rfl
          rw [hW]
          exact ⟨_, rfl, _, rfl, tree_eq rfl (by simp only [getE, selE, Nat.reduceBEq, List.take_succ_cons, List.take_zero, List.drop_zero])⟩

theorem ref03_Level (t : CoolTown) (ht : t.ok) (w : List Int) (hw : w.length ≤ 1000) (hwb : ∀ i ∈ w, 0 ≤ i ∧ i < t.sites.length) (y : Nat) (hy : y < t.houses.length) :
    Holds Try.prog G F.ref03_Level [.agg t.cs, slOf intCs w, I y] (B (levelB t w y)) := by
  have hl : (overL t.houses.length (worstT t) w).getD y default = over1 (worstT t) w y := by
    rw [getD_lt (by rw [overL_len]; exact hy)]; simp [overL]
  have hl2 := overL_len t.houses.length (worstT t) w
  (refine holds_of_sem hG fn_ref03_Level (by simp) fun w0 S0 hG0 D0 => ?_; unfold c_ref03_Level cval enterEnv; simp only [List.zipIdx_cons, List.zipIdx_nil, List.map_cons, List.map_nil, Nat.zero_add, Nat.reduceAdd])
  repeat' (first | ((first | refine o1 rfl ?_ | refine o0 rfl ?_); intro k hk; simp (disch := omega) only [ev0, sl_cells, simprocAttr]; refine hk _ _ ?_; clear hk k) | refine ono rfl ?_ | ((first | refine osplitG rfl (fun h => ?_) (fun h => ?_) | refine osplitB rfl (fun h => ?_) (fun h => ?_)) <;> (fail_if_success (simp only [eq_self, reduceCtorEq] at h))) | refine onx ?_ | refine onb ?_ | refine sreg ?_ | refine qT rfl ?_ | refine qF rfl ?_ | refine scondT rfl ?_ | refine scondF rfl ?_ | refine ocondP rfl (fun h => ?_) (fun h => ?_) | refine ocondB rfl (fun h => ?_) (fun h => ?_) | refine scondP rfl (fun h => ?_) (fun h => ?_) | refine scond rfl (fun h => ?_) (fun h => ?_) | refine oskip ?_ | refine oskipb ?_ | refine oret ?_ | refine sem_ret ?_ | refine sem_seq ?_ | refine sreg1 ?_)
  ((refine sem_mgo 6 hmix (by kernel_rfl) ?_; simp only [List.take_succ_cons, List.take_zero, List.drop_succ_cons, List.drop_zero, List.take_nil, List.drop_nil]); (repeat' (first | ((first | apply mop | apply mop0); (case hg => rfl); (case hq => rfl); intro k hk; simp (disch := omega) only [ev0, sl_cells, simprocAttr, slOf, hl2, hl]; refine hk _ _ rfl ?_; clear hk k) | (apply mno; (case hg => rfl)) | (apply mcall; (case he => (simp only [ev0, sl_cells, simprocAttr] <;> rfl)); (case hc => first | exact ref03_Worst hG t ht | exact ref03_Over hG t (worstT t) (worstB ht) (by have := ht.1; omega) w hw hwb); (case ht => rfl); (case hg => rfl); (case hr => rfl)) | (apply mbox; (case hx => (simp only [wv, simprocAttr] <;> rfl)); (case hg => rfl); (case hall => rfl); (case hr => rfl); simp only [cellsOf, List.length_cons, List.length_nil, Nat.reduceAdd, Nat.zero_add, List.nil_append, List.cons_append, List.set_cons_zero, List.set_cons_succ, chunks, List.take_succ_cons, List.take_zero, List.drop_succ_cons, List.drop_zero]) | (apply mbldS; (case hb => (simp (disch := omega) only [ev0, sl_cells, simprocAttr] <;> rfl)); (case hg => rfl); (case hr => rfl); simp only [cellsOf, List.length_cons, List.length_nil, Nat.reduceAdd, Nat.zero_add, List.nil_append, List.cons_append, List.set_cons_zero, List.set_cons_succ, chunks, List.take_succ_cons, List.take_zero, List.drop_succ_cons, List.drop_zero]) | ((first | (apply msto (q := 0); (case hq => rfl)) | (apply msto (q := 1); (case hq => rfl)) | (apply msto (q := 2); (case hq => rfl)) | (apply msto (q := 3); (case hq => rfl))); (case hx => (simp only [wv, simprocAttr] <;> rfl)); (case haddr => (simp only [wv, simprocAttr] <;> rfl)); (case hg => rfl); (case hl1 => rfl); (case hl2 => rfl); (case hok => rfl); (case hr => rfl); simp only [cellsOf, List.length_cons, List.length_nil, Nat.reduceAdd, Nat.zero_add, List.nil_append, List.cons_append, List.set_cons_zero, List.set_cons_succ, chunks, List.take_succ_cons, List.take_zero, List.drop_succ_cons, List.drop_zero]) | (apply mnil; simp only [SlotR.fin, List.map_cons, List.map_nil, List.cons_append, List.nil_append, List.append_nil]) | (refine msplit rfl (fun h => ?_) (fun h => ?_) <;> simp only [h] <;> (try simp only [Bool.not_eq_true', Bool.not_eq_false', decide_eq_true_eq, decide_eq_false_iff_not] at h)))) <;> (repeat' (first | ((first | refine o1 rfl ?_ | refine o0 rfl ?_); intro k hk; simp (disch := omega) only [ev0, sl_cells, simprocAttr, slOf, hl2, hl]; refine hk _ _ ?_; clear hk k) | refine ono rfl ?_ | (apply ocall; (case he => (simp only [ev0, sl_cells, simprocAttr] <;> rfl)); (case hc => first | exact ref03_Worst hG t ht | exact ref03_Over hG t (worstT t) (worstB ht) (by have := ht.1; omega) w hw hwb); (case ht => rfl); (case hg => rfl)) | ((first | refine osplitG rfl (fun h => ?_) (fun h => ?_) | refine osplitB rfl (fun h => ?_) (fun h => ?_)) <;> (fail_if_success (simp only [eq_self, reduceCtorEq] at h))) | refine onx ?_ | refine onb ?_ | refine sreg ?_ | refine qT rfl ?_ | refine qF rfl ?_ | refine scondT rfl ?_ | refine scondF rfl ?_ | refine ocondP rfl (fun h => ?_) (fun h => ?_) | refine ocondB rfl (fun h => ?_) (fun h => ?_) | refine scondP rfl (fun h => ?_) (fun h => ?_) | refine scond rfl (fun h => ?_) (fun h => ?_) | refine oskip ?_ | refine oskipb ?_ | refine oret ?_ | refine sem_ret ?_ | refine sem_seq ?_ | refine sreg1 ?_)))
  unfold levelB
  exact ⟨_, rfl, _, rfl, tree_eq rfl rfl⟩
end Go.Proofs.Ytnempffajbdneaa

/- The reference: in which week each house is level again; whether an order is good. -/
set_option linter.unusedVariables false
set_option linter.unusedSimpArgs false
set_option maxRecDepth 8000
set_option maxHeartbeats 2000000
namespace Go.Tk
open Go Go.Av
def weeksOf (t : CoolTown) (i : Int) : Int := (t.sites.getD i.toNat default).weeks
def weeksL (t : CoolTown) (l : List Int) : Int := sumL (l.map (weeksOf t))
theorem weeksOf_bound {t : CoolTown} (ht : t.ok) {i : Int} (hi : 0 ≤ i ∧ i < t.sites.length) : 0 ≤ weeksOf t i ∧ weeksOf t i ≤ 100 := by
  have := all_getD.1 ht.2.2.2 i.toNat (by omega)
  have := this.2.1
  unfold weeksOf
  omega
/-- In which week a house is level again, by the first n looks. -/
def agF (t : CoolTown) (b o : List Int) (y : Nat) : Nat → Int
  | 0 => -1
  | n + 1 => if agF t b o y n < 0 ∧ levelB t (withoutL b (o.drop n)) y = true then weeksL t (o.take n) else agF t b o y n
def againL (t : CoolTown) (n : Nat) (b o : List Int) : List Int := (List.range n).map fun y => agF t b o y (o.length + 1)
theorem againL_succ (t : CoolTown) (n : Nat) (b o : List Int) : againL t (n + 1) b o = againL t n b o ++ [agF t b o n (o.length + 1)] := by simp [againL, List.range_succ]
theorem againL_len (t : CoolTown) (n : Nat) (b o : List Int) : (againL t n b o).length = n := by simp [againL]
theorem weeksL_bound {t : CoolTown} (ht : t.ok) {o : List Int} (ho : ∀ i ∈ o, 0 ≤ i ∧ i < t.sites.length) (n : Nat) : 0 ≤ weeksL t (o.take n) ∧ weeksL t (o.take n) ≤ 100 * o.length := by
  have hbi := sumL_bound (c := 100) (l := (o.take n).map (weeksOf t)) fun v hv => by
    obtain ⟨j, hj, rfl⟩ := List.mem_map.1 hv
    exact weeksOf_bound ht (ho j (List.mem_of_mem_take hj))
  rw [List.length_map, List.length_take] at hbi
  unfold weeksL
  omega
theorem agF_bound {t : CoolTown} (ht : t.ok) {b o : List Int} (ho : ∀ i ∈ o, 0 ≤ i ∧ i < t.sites.length) (y n : Nat) : -1 ≤ agF t b o y n ∧ agF t b o y n ≤ 100 * o.length := by
  induction n with
  | zero => unfold agF; omega
  | succ n ih =>
    unfold agF
    have := weeksL_bound ht ho n
    split <;> omega
theorem weeksL_succ {t : CoolTown} {o : List Int} {n : Nat} (h : n < o.length) : weeksL t (o.take (n + 1)) = weeksL t (o.take n) + weeksOf t (o.getD n default) := by
  unfold weeksL
  rw [map_take_getD (weeksOf t) h, sumL_append]
  simp [sumL]
theorem mem_without {l f : List Int} {x : Int} : x ∈ withoutL l f ↔ x ∈ l ∧ x ∉ f := by simp [withoutL]
def goodB (t : CoolTown) (b o : List Int) : Bool := (List.range t.houses.length).all fun y => decide (0 ≤ agF t b o y (o.length + 1)) && decide (agF t b o y (o.length + 1) ≤ (t.houses.getD y default).grace)
end Go.Tk
namespace Go.Proofs.Ytnempffajbdneaa
open Go Go.Av Go.Tk
attribute [local irreducible] Holds sem semL ACalls FnIs levelB
theorem sl_drop {l : List Int} {i : Nat} : ∀ S w v, VT S w (.sl (l.length - i) fun j => intCs (l.getD (i + j) default)) v → VT S w (slOf intCs (l.drop i)) v := fun S w v h => by
  unfold slOf
  rw [List.length_drop]
  refine h.sl_congr fun j hj => ?_
  have h1 : j < (l.drop i).length := by rw [List.length_drop]; omega
  rw [getD_lt h1, getD_lt (show i + j < l.length by omega), List.getElem_drop]
variable {G : World → Prop} (hG : ∀ w w', G w → RowKit.Below w.heap.size w w' → G w')
include hG
theorem without_drop (l o : List Int) (i : Nat) (hl : l.length ≤ 1000) (hf : o.length ≤ 1000) : Holds Try.prog G F.ref03_Without [slOf intCs l, .sl (o.length - i) fun j => intCs (o.getD (i + j) default)] (slOf intCs (withoutL l (o.drop i))) :=
  (ref03_Without hG l (o.drop i) hl (by rw [List.length_drop]; omega)).conv rfl fun k x' x0 h1 h2 S w v hv => by
    match k, h1, h2 with
    | 0, h1, h2 => cases h1; cases h2; exact hv
    | 1, h1, h2 => cases h1; cases h2; exact sl_drop _ _ _ hv
    | k + 2, h1, h2 => simp at h1

theorem ref03_Again (t : CoolTown) (ht : t.ok) (b o : List Int) (hb : b.length ≤ 1000) (hob : o.length ≤ 1000) (hbb : ∀ i ∈ b, 0 ≤ i ∧ i < t.sites.length) (ho : ∀ i ∈ o, 0 ≤ i ∧ i < t.sites.length) :
    Holds Try.prog G F.ref03_Again [.agg t.cs, slOf intCs b, slOf intCs o] (slOf intCs (againL t t.houses.length b o)) := by
  have hn := ht.1
  have hns := ht.2.1
  (refine holds_of_sem hG fn_ref03_Again (by simp) fun w0 S0 hG0 D0 => ?_; unfold c_ref03_Again cval enterEnv; simp only [List.zipIdx_cons, List.zipIdx_nil, List.map_cons, List.map_nil, Nat.zero_add, Nat.reduceAdd])
  repeat' (first | ((first | refine o1 rfl ?_ | refine o0 rfl ?_); intro k hk; simp (disch := omega) only [ev0, sl_cells, simprocAttr]; refine hk _ _ ?_; clear hk k) | refine ono rfl ?_ | ((first | refine osplitG rfl (fun h => ?_) (fun h => ?_) | refine osplitB rfl (fun h => ?_) (fun h => ?_)) <;> (fail_if_success (simp only [eq_self, reduceCtorEq] at h))) | refine onx ?_ | refine onb ?_ | refine sreg ?_ | refine qT rfl ?_ | refine qF rfl ?_ | refine scondT rfl ?_ | refine scondF rfl ?_ | refine ocondP rfl (fun h => ?_) (fun h => ?_) | refine ocondB rfl (fun h => ?_) (fun h => ?_) | refine scondP rfl (fun h => ?_) (fun h => ?_) | refine scond rfl (fun h => ?_) (fun h => ?_) | refine oskip ?_ | refine oskipb ?_ | refine oret ?_ | refine sem_ret ?_ | refine sem_seq ?_ | refine sreg1 ?_)
  refine sem_block ?_
  (refine sem_ghost 7 3 1 rfl ?_; simp only [List.length_cons, List.length_nil, Nat.reduceAdd, Nat.zero_add, List.cons_append, List.nil_append])
  
  refine sem_loop (α := Nat) (fun y => ⟨[(1, slOf intCs b), (2, slOf intCs o), (3, .ptr 0 0 2 0 0), (7, .hsl 1 (againL t y b o).length 1 (againL t y b o).length), (8, I y)], [.row 25 0 2 [t.cs], .row 3 (againL t y b o).length 1 (rowL intCs (againL t y b o))]⟩) (fun y => y ≤ t.houses.length) (fun y => t.houses.length - y) 0 (Nat.zero_le _) ?_ ?_
  · (refine Le.same ?_; simp only [List.forall_mem_cons, List.forall_mem_nil, getE, selE, Nat.reduceBEq, List.not_mem_nil, false_implies, implies_true, and_true, true_and, and_self])
    simp [againL, slOf, CoolTown.cs]
  · intro y hy
    have hlen := againL_len t y b o
    have hsu := againL_succ t y b o
    generalize hL : againL t y b o = L at *
    repeat' (first | ((first | refine o1 rfl ?_ | refine o0 rfl ?_); intro k hk; simp (disch := omega) only [ev0, sl_cells, simprocAttr, CoolTown.cs, slOf]; refine hk _ _ ?_; clear hk k) | refine ono rfl ?_ | ((first | refine osplitG rfl (fun h => ?_) (fun h => ?_) | refine osplitB rfl (fun h => ?_) (fun h => ?_)) <;> (fail_if_success (simp only [eq_self, reduceCtorEq] at h))) | refine onx ?_ | refine onb ?_ | refine sreg ?_ | refine qT rfl ?_ | refine qF rfl ?_ | refine scondT rfl ?_ | refine scondF rfl ?_ | refine ocondP rfl (fun h => ?_) (fun h => ?_) | refine ocondB rfl (fun h => ?_) (fun h => ?_) | refine scondP rfl (fun h => ?_) (fun h => ?_) | refine scond rfl (fun h => ?_) (fun h => ?_) | refine oskip ?_ | refine oskipb ?_ | refine oret ?_ | refine sem_ret ?_ | refine sem_seq ?_ | refine sreg1 ?_)
    · have hy' : y < t.houses.length := by omega
      refine sem_block ?_
      repeat' (first | ((first | refine o1 rfl ?_ | refine o0 rfl ?_); intro k hk; simp (disch := omega) only [ev0, sl_cells, simprocAttr]; refine hk _ _ ?_; clear hk k) | refine ono rfl ?_ | ((first | refine osplitG rfl (fun h => ?_) (fun h => ?_) | refine osplitB rfl (fun h => ?_) (fun h => ?_)) <;> (fail_if_success (simp only [eq_self, reduceCtorEq] at h))) | refine onx ?_ | refine onb ?_ | refine sreg ?_ | refine qT rfl ?_ | refine qF rfl ?_ | refine scondT rfl ?_ | refine scondF rfl ?_ | refine ocondP rfl (fun h => ?_) (fun h => ?_) | refine ocondB rfl (fun h => ?_) (fun h => ?_) | refine scondP rfl (fun h => ?_) (fun h => ?_) | refine scond rfl (fun h => ?_) (fun h => ?_) | refine oskip ?_ | refine oskipb ?_ | refine oret ?_ | refine sem_ret ?_ | refine sem_seq ?_ | refine sreg1 ?_)
      refine sem_block ?_
      
      refine sem_loop (α := Nat) (fun i => ⟨[(1, slOf intCs b), (2, slOf intCs o), (3, .ptr 0 0 2 0 0), (7, .hsl 1 L.length 1 L.length), (8, I y), (9, I (agF t b o y i)), (10, I (weeksL t (o.take (i - 1)))), (11, I i)], [.row 25 0 2 [t.cs], .row 3 L.length 1 (rowL intCs L)]⟩) (fun i => i ≤ o.length + 1) (fun i => o.length + 1 - i) 0 (Nat.zero_le _) ?_ ?_
      · (refine Le.same ?_; simp only [List.forall_mem_cons, List.forall_mem_nil, getE, selE, Nat.reduceBEq, List.not_mem_nil, false_implies, implies_true, and_true, true_and, and_self])
        simp [CoolTown.cs, slOf, agF, weeksL, sumL]
      · intro i hi
        have hag := agF_bound ht (b := b) ho y i
        have hwk := weeksL_bound ht ho (i - 1)
        have hst : agF t b o y (i + 1) = if agF t b o y i < 0 ∧ levelB t (withoutL b (o.drop i)) y = true then weeksL t (o.take i) else agF t b o y i := rfl
        have hlv := ref03_Level hG t ht (withoutL b (o.drop i)) (by have := without_len b (o.drop i); omega) (fun i hi => hbb i (mem_without.1 hi).1) y hy'
        have hwo := without_drop hG b o i hb hob
        repeat' (first | ((first | refine o1 rfl ?_ | refine o0 rfl ?_); intro k hk; simp (disch := omega) only [ev0, sl_cells, simprocAttr, slOf]; refine hk _ _ ?_; clear hk k) | refine ono rfl ?_ | ((first | refine osplitG rfl (fun h => ?_) (fun h => ?_) | refine osplitB rfl (fun h => ?_) (fun h => ?_)) <;> (fail_if_success (simp only [eq_self, reduceCtorEq] at h))) | refine onx ?_ | refine onb ?_ | refine sreg ?_ | refine qT rfl ?_ | refine qF rfl ?_ | refine scondT rfl ?_ | refine scondF rfl ?_ | refine ocondP rfl (fun h => ?_) (fun h => ?_) | refine ocondB rfl (fun h => ?_) (fun h => ?_) | refine scondP rfl (fun h => ?_) (fun h => ?_) | refine scond rfl (fun h => ?_) (fun h => ?_) | refine oskip ?_ | refine oskipb ?_ | refine oret ?_ | refine sem_ret ?_ | refine sem_seq ?_ | refine sreg1 ?_)
        · have hi' : i ≤ o.length := by omega
          refine sem_block ?_
          repeat' (first | ((first | refine o1 rfl ?_ | refine o0 rfl ?_); intro k hk; simp (disch := omega) only [ev0, sl_cells, simprocAttr]; refine hk _ _ ?_; clear hk k) | refine ono rfl ?_ | ((first | refine osplitG rfl (fun h => ?_) (fun h => ?_) | refine osplitB rfl (fun h => ?_) (fun h => ?_)) <;> (fail_if_success (simp only [eq_self, reduceCtorEq] at h))) | refine onx ?_ | refine onb ?_ | refine sreg ?_ | refine qT rfl ?_ | refine qF rfl ?_ | refine scondT rfl ?_ | refine scondF rfl ?_ | refine ocondP rfl (fun h => ?_) (fun h => ?_) | refine ocondB rfl (fun h => ?_) (fun h => ?_) | refine scondP rfl (fun h => ?_) (fun h => ?_) | refine scond rfl (fun h => ?_) (fun h => ?_) | refine oskip ?_ | refine oskipb ?_ | refine oret ?_ | refine sem_ret ?_ | refine sem_seq ?_ | refine sreg1 ?_)
          · have hi0 : 0 < i := by omega
            have hp : i - 1 < o.length := by omega
            have hwi := ho (o.getD (i - 1) default) (by rw [getD_lt hp]; exact List.getElem_mem _)
            have hwb := weeksOf_bound ht hwi
            have hsw : weeksL t (o.take i) = weeksL t (o.take (i - 1)) + weeksOf t (o.getD (i - 1) default) := by
              rw [← weeksL_succ hp, show i - 1 + 1 = i by omega]
            have hi1 : (i : Int) - 1 = ((i - 1 : Nat) : Int) := by omega
            obtain ⟨n, hn'⟩ := Int.eq_ofNat_of_zero_le hwi.1
            generalize hwv : o.getD (i - 1) default = v at *
            subst hn'
            have hnl : n < t.sites.length := by omega
            have hgo : weeksOf t (n : Int) = (t.sites.getD n default).weeks := rfl
            rw [hgo] at hwb hsw
            ((refine sem_mgo 11 hmix (by kernel_rfl) ?_; simp only [List.take_succ_cons, List.take_zero, List.drop_succ_cons, List.drop_zero, List.take_nil, List.drop_nil]); (repeat' (first | ((first | apply mop | apply mop0); (case hg => rfl); (case hq => rfl); intro k hk; simp (disch := omega) only [ev0, sl_cells, simprocAttr, slOf, intCs, CoolTown.cs, CoolSite.cs, hwv, hi1]; refine hk _ _ rfl ?_; clear hk k) | (apply mno; (case hg => rfl)) | (apply mbox; (case hx => (simp only [wv, simprocAttr] <;> rfl)); (case hg => rfl); (case hall => rfl); (case hr => rfl); simp only [cellsOf, List.length_cons, List.length_nil, Nat.reduceAdd, Nat.zero_add, List.nil_append, List.cons_append, List.set_cons_zero, List.set_cons_succ, chunks, List.take_succ_cons, List.take_zero, List.drop_succ_cons, List.drop_zero]) | (apply mbldS; (case hb => (simp (disch := omega) only [ev0, sl_cells, simprocAttr] <;> rfl)); (case hg => rfl); (case hr => rfl); simp only [cellsOf, List.length_cons, List.length_nil, Nat.reduceAdd, Nat.zero_add, List.nil_append, List.cons_append, List.set_cons_zero, List.set_cons_succ, chunks, List.take_succ_cons, List.take_zero, List.drop_succ_cons, List.drop_zero]) | ((first | (apply msto (q := 0); (case hq => rfl)) | (apply msto (q := 1); (case hq => rfl)) | (apply msto (q := 2); (case hq => rfl)) | (apply msto (q := 3); (case hq => rfl))); (case hx => (simp only [wv, simprocAttr] <;> rfl)); (case haddr => (simp only [wv, simprocAttr] <;> rfl)); (case hg => rfl); (case hl1 => rfl); (case hl2 => rfl); (case hok => rfl); (case hr => rfl); simp only [cellsOf, List.length_cons, List.length_nil, Nat.reduceAdd, Nat.zero_add, List.nil_append, List.cons_append, List.set_cons_zero, List.set_cons_succ, chunks, List.take_succ_cons, List.take_zero, List.drop_succ_cons, List.drop_zero]) | (apply mnil; simp only [SlotR.fin, List.map_cons, List.map_nil, List.cons_append, List.nil_append, List.append_nil]) | (refine msplit rfl (fun h => ?_) (fun h => ?_) <;> simp only [h] <;> (try simp only [Bool.not_eq_true', Bool.not_eq_false', decide_eq_true_eq, decide_eq_false_iff_not] at h)))) <;> (repeat' (first | ((first | refine o1 rfl ?_ | refine o0 rfl ?_); intro k hk; simp (disch := omega) only [ev0, sl_cells, simprocAttr, slOf, intCs, CoolTown.cs, CoolSite.cs, hwv, hi1]; refine hk _ _ ?_; clear hk k) | refine ono rfl ?_ | ((first | refine osplitG rfl (fun h => ?_) (fun h => ?_) | refine osplitB rfl (fun h => ?_) (fun h => ?_)) <;> (fail_if_success (simp only [eq_self, reduceCtorEq] at h))) | refine onx ?_ | refine onb ?_ | refine sreg ?_ | refine qT rfl ?_ | refine qF rfl ?_ | refine scondT rfl ?_ | refine scondF rfl ?_ | refine ocondP rfl (fun h => ?_) (fun h => ?_) | refine ocondB rfl (fun h => ?_) (fun h => ?_) | refine scondP rfl (fun h => ?_) (fun h => ?_) | refine scond rfl (fun h => ?_) (fun h => ?_) | refine oskip ?_ | refine oskipb ?_ | refine oret ?_ | refine sem_ret ?_ | refine sem_seq ?_ | refine sreg1 ?_)))
            rw [← hsw]
            by_cases hneg : agF t b o y i < 0
            · ((refine sem_mgo 10 hmix (by kernel_rfl) ?_; simp only [List.take_succ_cons, List.take_zero, List.drop_succ_cons, List.drop_zero, List.take_nil, List.drop_nil]); (repeat' (first | ((first | apply mop | apply mop0); (case hg => rfl); (case hq => rfl); intro k hk; simp (disch := omega) only [ev0, sl_cells, simprocAttr, slOf, intCs, hneg, range_all, Option.map_none, List.length_cons, List.length_nil, Nat.zero_add, Nat.sub_zero, decide_true, eq_self]; refine hk _ _ rfl ?_; clear hk k) | (apply mno; (case hg => rfl)) | (apply mcall; (case he => (simp only [ev0, sl_cells, simprocAttr] <;> rfl)); (case hc => first | exact hlv | exact hwo); (case ht => rfl); (case hg => rfl); (case hr => rfl)) | (apply mbox; (case hx => (simp only [wv, simprocAttr] <;> rfl)); (case hg => rfl); (case hall => rfl); (case hr => rfl); simp only [cellsOf, List.length_cons, List.length_nil, Nat.reduceAdd, Nat.zero_add, List.nil_append, List.cons_append, List.set_cons_zero, List.set_cons_succ, chunks, List.take_succ_cons, List.take_zero, List.drop_succ_cons, List.drop_zero]) | (apply mbldS; (case hb => (simp (disch := omega) only [ev0, sl_cells, simprocAttr] <;> rfl)); (case hg => rfl); (case hr => rfl); simp only [cellsOf, List.length_cons, List.length_nil, Nat.reduceAdd, Nat.zero_add, List.nil_append, List.cons_append, List.set_cons_zero, List.set_cons_succ, chunks, List.take_succ_cons, List.take_zero, List.drop_succ_cons, List.drop_zero]) | ((first | (apply msto (q := 0); (case hq => rfl)) | (apply msto (q := 1); (case hq => rfl)) | (apply msto (q := 2); (case hq => rfl)) | (apply msto (q := 3); (case hq => rfl))); (case hx => (simp only [wv, simprocAttr] <;> rfl)); (case haddr => (simp only [wv, simprocAttr] <;> rfl)); (case hg => rfl); (case hl1 => rfl); (case hl2 => rfl); (case hok => rfl); (case hr => rfl); simp only [cellsOf, List.length_cons, List.length_nil, Nat.reduceAdd, Nat.zero_add, List.nil_append, List.cons_append, List.set_cons_zero, List.set_cons_succ, chunks, List.take_succ_cons, List.take_zero, List.drop_succ_cons, List.drop_zero]) | (apply mnil; simp only [SlotR.fin, List.map_cons, List.map_nil, List.cons_append, List.nil_append, List.append_nil]) | (refine msplit rfl (fun h => ?_) (fun h => ?_) <;> simp only [h] <;> (try simp only [Bool.not_eq_true', Bool.not_eq_false', decide_eq_true_eq, decide_eq_false_iff_not] at h)))) <;> (repeat' (first | ((first | refine o1 rfl ?_ | refine o0 rfl ?_); intro k hk; simp (disch := omega) only [ev0, sl_cells, simprocAttr, slOf, intCs, hneg, range_all, Option.map_none, List.length_cons, List.length_nil, Nat.zero_add, Nat.sub_zero, decide_true, eq_self]; refine hk _ _ ?_; clear hk k) | refine ono rfl ?_ | (apply ocall; (case he => (simp only [ev0, sl_cells, simprocAttr] <;> rfl)); (case hc => first | exact hlv | exact hwo); (case ht => rfl); (case hg => rfl)) | ((first | refine osplitG rfl (fun h => ?_) (fun h => ?_) | refine osplitB rfl (fun h => ?_) (fun h => ?_)) <;> (fail_if_success (simp only [eq_self, reduceCtorEq] at h))) | refine onx ?_ | refine onb ?_ | refine sreg ?_ | refine qT rfl ?_ | refine qF rfl ?_ | refine scondT rfl ?_ | refine scondF rfl ?_ | refine ocondP rfl (fun h => ?_) (fun h => ?_) | refine ocondB rfl (fun h => ?_) (fun h => ?_) | refine scondP rfl (fun h => ?_) (fun h => ?_) | refine scond rfl (fun h => ?_) (fun h => ?_) | refine oskip ?_ | refine oskipb ?_ | refine oret ?_ | refine sem_ret ?_ | refine sem_seq ?_ | refine sreg1 ?_)))
              · have hq : agF t b o y (i + 1) = weeksL t (o.take i) := by rw [hst, if_pos ⟨hneg, by assumption⟩]
                refine onil (lnext (i + 1) (by omega) (by omega) ?_)
                rw [hq, Nat.add_sub_cancel]
                (refine Le.same ?_; simp only [List.forall_mem_cons, List.forall_mem_nil, getE, selE, Nat.reduceBEq, List.not_mem_nil, false_implies, implies_true, and_true, true_and, and_self])
                simp [CoolTown.cs, slOf]
              · have hq : agF t b o y (i + 1) = agF t b o y i := by rw [hst, if_neg (fun q => by have := q.2; simp_all)]
                refine onil (lnext (i + 1) (by omega) (by omega) ?_)
                rw [hq, Nat.add_sub_cancel]
                (refine Le.same ?_; simp only [List.forall_mem_cons, List.forall_mem_nil, getE, selE, Nat.reduceBEq, List.not_mem_nil, false_implies, implies_true, and_true, true_and, and_self])
                simp [CoolTown.cs, slOf]
            · ((refine sem_mgo 10 hmix (by kernel_rfl) ?_; simp only [List.take_succ_cons, List.take_zero, List.drop_succ_cons, List.drop_zero, List.take_nil, List.drop_nil]); (repeat' (first | ((first | apply mop | apply mop0); (case hg => rfl); (case hq => rfl); intro k hk; simp (disch := omega) only [ev0, sl_cells, simprocAttr, slOf, hneg, decide_false]; refine hk _ _ rfl ?_; clear hk k) | (apply mno; (case hg => rfl)) | (apply mcall; (case he => (simp only [ev0, sl_cells, simprocAttr] <;> rfl)); (case hc => first | exact hlv | exact hwo); (case ht => rfl); (case hg => rfl); (case hr => rfl)) | (apply mbox; (case hx => (simp only [wv, simprocAttr] <;> rfl)); (case hg => rfl); (case hall => rfl); (case hr => rfl); simp only [cellsOf, List.length_cons, List.length_nil, Nat.reduceAdd, Nat.zero_add, List.nil_append, List.cons_append, List.set_cons_zero, List.set_cons_succ, chunks, List.take_succ_cons, List.take_zero, List.drop_succ_cons, List.drop_zero]) | (apply mbldS; (case hb => (simp (disch := omega) only [ev0, sl_cells, simprocAttr] <;> rfl)); (case hg => rfl); (case hr => rfl); simp only [cellsOf, List.length_cons, List.length_nil, Nat.reduceAdd, Nat.zero_add, List.nil_append, List.cons_append, List.set_cons_zero, List.set_cons_succ, chunks, List.take_succ_cons, List.take_zero, List.drop_succ_cons, List.drop_zero]) | ((first | (apply msto (q := 0); (case hq => rfl)) | (apply msto (q := 1); (case hq => rfl)) | (apply msto (q := 2); (case hq => rfl)) | (apply msto (q := 3); (case hq => rfl))); (case hx => (simp only [wv, simprocAttr] <;> rfl)); (case haddr => (simp only [wv, simprocAttr] <;> rfl)); (case hg => rfl); (case hl1 => rfl); (case hl2 => rfl); (case hok => rfl); (case hr => rfl); simp only [cellsOf, List.length_cons, List.length_nil, Nat.reduceAdd, Nat.zero_add, List.nil_append, List.cons_append, List.set_cons_zero, List.set_cons_succ, chunks, List.take_succ_cons, List.take_zero, List.drop_succ_cons, List.drop_zero]) | (apply mnil; simp only [SlotR.fin, List.map_cons, List.map_nil, List.cons_append, List.nil_append, List.append_nil]) | (refine msplit rfl (fun h => ?_) (fun h => ?_) <;> simp only [h] <;> (try simp only [Bool.not_eq_true', Bool.not_eq_false', decide_eq_true_eq, decide_eq_false_iff_not] at h)))) <;> (repeat' (first | ((first | refine o1 rfl ?_ | refine o0 rfl ?_); intro k hk; simp (disch := omega) only [ev0, sl_cells, simprocAttr, slOf, hneg, decide_false]; refine hk _ _ ?_; clear hk k) | refine ono rfl ?_ | (apply ocall; (case he => (simp only [ev0, sl_cells, simprocAttr] <;> rfl)); (case hc => first | exact hlv | exact hwo); (case ht => rfl); (case hg => rfl)) | ((first | refine osplitG rfl (fun h => ?_) (fun h => ?_) | refine osplitB rfl (fun h => ?_) (fun h => ?_)) <;> (fail_if_success (simp only [eq_self, reduceCtorEq] at h))) | refine onx ?_ | refine onb ?_ | refine sreg ?_ | refine qT rfl ?_ | refine qF rfl ?_ | refine scondT rfl ?_ | refine scondF rfl ?_ | refine ocondP rfl (fun h => ?_) (fun h => ?_) | refine ocondB rfl (fun h => ?_) (fun h => ?_) | refine scondP rfl (fun h => ?_) (fun h => ?_) | refine scond rfl (fun h => ?_) (fun h => ?_) | refine oskip ?_ | refine oskipb ?_ | refine oret ?_ | refine sem_ret ?_ | refine sem_seq ?_ | refine sreg1 ?_)))
              have hq : agF t b o y (i + 1) = agF t b o y i := by rw [hst, if_neg (fun q => hneg q.1)]
              refine onil (lnext (i + 1) (by omega) (by omega) ?_)
              rw [hq, Nat.add_sub_cancel]
              (refine Le.same ?_; simp only [List.forall_mem_cons, List.forall_mem_nil, getE, selE, Nat.reduceBEq, List.not_mem_nil, false_implies, implies_true, and_true, true_and, and_self])
              simp [CoolTown.cs, slOf]
          · have hi0 : i = 0 := by omega
            have hsw : weeksL t (o.take (i - 1)) = weeksL t (o.take i) := by rw [hi0]
            rw [hsw]
            by_cases hneg : agF t b o y i < 0
            · ((refine sem_mgo 10 hmix (by kernel_rfl) ?_; simp only [List.take_succ_cons, List.take_zero, List.drop_succ_cons, List.drop_zero, List.take_nil, List.drop_nil]); (repeat' (first | ((first | apply mop | apply mop0); (case hg => rfl); (case hq => rfl); intro k hk; simp (disch := omega) only [ev0, sl_cells, simprocAttr, slOf, intCs, hneg, range_all, Option.map_none, List.length_cons, List.length_nil, Nat.zero_add, Nat.sub_zero, decide_true, eq_self]; refine hk _ _ rfl ?_; clear hk k) | (apply mno; (case hg => rfl)) | (apply mcall; (case he => (simp only [ev0, sl_cells, simprocAttr] <;> rfl)); (case hc => first | exact hlv | exact hwo); (case ht => rfl); (case hg => rfl); (case hr => rfl)) | (apply mbox; (case hx => (simp only [wv, simprocAttr] <;> rfl)); (case hg => rfl); (case hall => rfl); (case hr => rfl); simp only [cellsOf, List.length_cons, List.length_nil, Nat.reduceAdd, Nat.zero_add, List.nil_append, List.cons_append, List.set_cons_zero, List.set_cons_succ, chunks, List.take_succ_cons, List.take_zero, List.drop_succ_cons, List.drop_zero]) | (apply mbldS; (case hb => (simp (disch := omega) only [ev0, sl_cells, simprocAttr] <;> rfl)); (case hg => rfl); (case hr => rfl); simp only [cellsOf, List.length_cons, List.length_nil, Nat.reduceAdd, Nat.zero_add, List.nil_append, List.cons_append, List.set_cons_zero, List.set_cons_succ, chunks, List.take_succ_cons, List.take_zero, List.drop_succ_cons, List.drop_zero]) | ((first | (apply msto (q := 0); (case hq => rfl)) | (apply msto (q := 1); (case hq => rfl)) | (apply msto (q := 2); (case hq => rfl)) | (apply msto (q := 3); (case hq => rfl))); (case hx => (simp only [wv, simprocAttr] <;> rfl)); (case haddr => (simp only [wv, simprocAttr] <;> rfl)); (case hg => rfl); (case hl1 => rfl); (case hl2 => rfl); (case hok => rfl); (case hr => rfl); simp only [cellsOf, List.length_cons, List.length_nil, Nat.reduceAdd, Nat.zero_add, List.nil_append, List.cons_append, List.set_cons_zero, List.set_cons_succ, chunks, List.take_succ_cons, List.take_zero, List.drop_succ_cons, List.drop_zero]) | (apply mnil; simp only [SlotR.fin, List.map_cons, List.map_nil, List.cons_append, List.nil_append, List.append_nil]) | (refine msplit rfl (fun h => ?_) (fun h => ?_) <;> simp only [h] <;> (try simp only [Bool.not_eq_true', Bool.not_eq_false', decide_eq_true_eq, decide_eq_false_iff_not] at h)))) <;> (repeat' (first | ((first | refine o1 rfl ?_ | refine o0 rfl ?_); intro k hk; simp (disch := omega) only [ev0, sl_cells, simprocAttr, slOf, intCs, hneg, range_all, Option.map_none, List.length_cons, List.length_nil, Nat.zero_add, Nat.sub_zero, decide_true, eq_self]; refine hk _ _ ?_; clear hk k) | refine ono rfl ?_ | (apply ocall; (case he => (simp only [ev0, sl_cells, simprocAttr] <;> rfl)); (case hc => first | exact hlv | exact hwo); (case ht => rfl); (case hg => rfl)) | ((first | refine osplitG rfl (fun h => ?_) (fun h => ?_) | refine osplitB rfl (fun h => ?_) (fun h => ?_)) <;> (fail_if_success (simp only [eq_self, reduceCtorEq] at h))) | refine onx ?_ | refine onb ?_ | refine sreg ?_ | refine qT rfl ?_ | refine qF rfl ?_ | refine scondT rfl ?_ | refine scondF rfl ?_ | refine ocondP rfl (fun h => ?_) (fun h => ?_) | refine ocondB rfl (fun h => ?_) (fun h => ?_) | refine scondP rfl (fun h => ?_) (fun h => ?_) | refine scond rfl (fun h => ?_) (fun h => ?_) | refine oskip ?_ | refine oskipb ?_ | refine oret ?_ | refine sem_ret ?_ | refine sem_seq ?_ | refine sreg1 ?_)))
              · have hq : agF t b o y (i + 1) = weeksL t (o.take i) := by rw [hst, if_pos ⟨hneg, by assumption⟩]
                refine onil (lnext (i + 1) (by omega) (by omega) ?_)
                rw [hq, Nat.add_sub_cancel]
                (refine Le.same ?_; simp only [List.forall_mem_cons, List.forall_mem_nil, getE, selE, Nat.reduceBEq, List.not_mem_nil, false_implies, implies_true, and_true, true_and, and_self])
                simp [CoolTown.cs, slOf]
              · have hq : agF t b o y (i + 1) = agF t b o y i := by rw [hst, if_neg (fun q => by have := q.2; simp_all)]
                refine onil (lnext (i + 1) (by omega) (by omega) ?_)
                rw [hq, Nat.add_sub_cancel]
                (refine Le.same ?_; simp only [List.forall_mem_cons, List.forall_mem_nil, getE, selE, Nat.reduceBEq, List.not_mem_nil, false_implies, implies_true, and_true, true_and, and_self])
                simp [CoolTown.cs, slOf]
            · ((refine sem_mgo 10 hmix (by kernel_rfl) ?_; simp only [List.take_succ_cons, List.take_zero, List.drop_succ_cons, List.drop_zero, List.take_nil, List.drop_nil]); (repeat' (first | ((first | apply mop | apply mop0); (case hg => rfl); (case hq => rfl); intro k hk; simp (disch := omega) only [ev0, sl_cells, simprocAttr, slOf, hneg, decide_false]; refine hk _ _ rfl ?_; clear hk k) | (apply mno; (case hg => rfl)) | (apply mcall; (case he => (simp only [ev0, sl_cells, simprocAttr] <;> rfl)); (case hc => first | exact hlv | exact hwo); (case ht => rfl); (case hg => rfl); (case hr => rfl)) | (apply mbox; (case hx => (simp only [wv, simprocAttr] <;> rfl)); (case hg => rfl); (case hall => rfl); (case hr => rfl); simp only [cellsOf, List.length_cons, List.length_nil, Nat.reduceAdd, Nat.zero_add, List.nil_append, List.cons_append, List.set_cons_zero, List.set_cons_succ, chunks, List.take_succ_cons, List.take_zero, List.drop_succ_cons, List.drop_zero]) | (apply mbldS; (case hb => (simp (disch := omega) only [ev0, sl_cells, simprocAttr] <;> rfl)); (case hg => rfl); (case hr => rfl); simp only [cellsOf, List.length_cons, List.length_nil, Nat.reduceAdd, Nat.zero_add, List.nil_append, List.cons_append, List.set_cons_zero, List.set_cons_succ, chunks, List.take_succ_cons, List.take_zero, List.drop_succ_cons, List.drop_zero]) | ((first | (apply msto (q := 0); (case hq => rfl)) | (apply msto (q := 1); (case hq => rfl)) | (apply msto (q := 2); (case hq => rfl)) | (apply msto (q := 3); (case hq => rfl))); (case hx => (simp only [wv, simprocAttr] <;> rfl)); (case haddr => (simp only [wv, simprocAttr] <;> rfl)); (case hg => rfl); (case hl1 => rfl); (case hl2 => rfl); (case hok => rfl); (case hr => rfl); simp only [cellsOf, List.length_cons, List.length_nil, Nat.reduceAdd, Nat.zero_add, List.nil_append, List.cons_append, List.set_cons_zero, List.set_cons_succ, chunks, List.take_succ_cons, List.take_zero, List.drop_succ_cons, List.drop_zero]) | (apply mnil; simp only [SlotR.fin, List.map_cons, List.map_nil, List.cons_append, List.nil_append, List.append_nil]) | (refine msplit rfl (fun h => ?_) (fun h => ?_) <;> simp only [h] <;> (try simp only [Bool.not_eq_true', Bool.not_eq_false', decide_eq_true_eq, decide_eq_false_iff_not] at h)))) <;> (repeat' (first | ((first | refine o1 rfl ?_ | refine o0 rfl ?_); intro k hk; simp (disch := omega) only [ev0, sl_cells, simprocAttr, slOf, hneg, decide_false]; refine hk _ _ ?_; clear hk k) | refine ono rfl ?_ | (apply ocall; (case he => (simp only [ev0, sl_cells, simprocAttr] <;> rfl)); (case hc => first | exact hlv | exact hwo); (case ht => rfl); (case hg => rfl)) | ((first | refine osplitG rfl (fun h => ?_) (fun h => ?_) | refine osplitB rfl (fun h => ?_) (fun h => ?_)) <;> (fail_if_success (simp only [eq_self, reduceCtorEq] at h))) | refine onx ?_ | refine onb ?_ | refine sreg ?_ | refine qT rfl ?_ | refine qF rfl ?_ | refine scondT rfl ?_ | refine scondF rfl ?_ | refine ocondP rfl (fun h => ?_) (fun h => ?_) | refine ocondB rfl (fun h => ?_) (fun h => ?_) | refine scondP rfl (fun h => ?_) (fun h => ?_) | refine scond rfl (fun h => ?_) (fun h => ?_) | refine oskip ?_ | refine oskipb ?_ | refine oret ?_ | refine sem_ret ?_ | refine sem_seq ?_ | refine sreg1 ?_)))
              have hq : agF t b o y (i + 1) = agF t b o y i := by rw [hst, if_neg (fun q => hneg q.1)]
              refine onil (lnext (i + 1) (by omega) (by omega) ?_)
              rw [hq, Nat.add_sub_cancel]
              (refine Le.same ?_; simp only [List.forall_mem_cons, List.forall_mem_nil, getE, selE, Nat.reduceBEq, List.not_mem_nil, false_implies, implies_true, and_true, true_and, and_self])
              simp [CoolTown.cs, slOf]
        · have hi' : i = o.length + 1 := by omega
          subst hi'
          have e1 := rowL_take (enc := intCs) (l := L)
          (refine sem_exit ?_; change sem _ _ _ _ _)
          repeat' (first | ((first | refine o1 rfl ?_ | refine o0 rfl ?_); intro k hk; simp (disch := omega) only [ev0, sl_cells, simprocAttr]; refine hk _ _ ?_; clear hk k) | refine ono rfl ?_ | ((first | refine osplitG rfl (fun h => ?_) (fun h => ?_) | refine osplitB rfl (fun h => ?_) (fun h => ?_)) <;> (fail_if_success (simp only [eq_self, reduceCtorEq] at h))) | refine onx ?_ | refine onb ?_ | refine sreg ?_ | refine qT rfl ?_ | refine qF rfl ?_ | refine scondT rfl ?_ | refine scondF rfl ?_ | refine ocondP rfl (fun h => ?_) (fun h => ?_) | refine ocondB rfl (fun h => ?_) (fun h => ?_) | refine scondP rfl (fun h => ?_) (fun h => ?_) | refine scond rfl (fun h => ?_) (fun h => ?_) | refine oskip ?_ | refine oskipb ?_ | refine oret ?_ | refine sem_ret ?_ | refine sem_seq ?_ | refine sreg1 ?_)
          refine onil (lnext (y + 1) (by omega) (by omega) ?_)
          rw [hsu, e1, show ∀ v : Int, [[AV.int .i64 v]] = [intCs v] from fun _ => rfl, rowL_snoc, List.length_append]
          (refine Le.drop ?_ rfl (by simp) rfl (by simp only [refM, refO, List.all_cons, List.all_nil, Bool.and_true, Bool.true_and, rowL_all (enc := intCs) (fun _ _ => rfl), CoolTown.cs]; first | done | rfl) ; simp only [List.forall_mem_cons, List.forall_mem_nil, getE, selE, Nat.reduceBEq, List.not_mem_nil, false_implies, implies_true, and_true, true_and, and_self])
          simp [slOf]
    · have hh' : y = t.houses.length := by omega
      subst hh'
      rw [hL]
      (refine sem_exit ?_; change sem _ _ _ _ _)
      refine sem_frzlist (enc := intCs) 1 rfl (fun _ => rfl) ?_
      simp only [frzE, frzM, frzO, frzA, frzL, List.map_cons, List.map_nil, List.set_cons_zero, List.set_cons_succ, Nat.reduceEqDiff, if_true, if_false, and_self, Nat.le_refl, reduceIte, frz_sl]
      repeat' (first | ((first | refine o1 rfl ?_ | refine o0 rfl ?_); intro k hk; simp (disch := omega) only [ev0, sl_cells, simprocAttr]; refine hk _ _ ?_; clear hk k) | refine ono rfl ?_ | ((first | refine osplitG rfl (fun h => ?_) (fun h => ?_) | refine osplitB rfl (fun h => ?_) (fun h => ?_)) <;> (fail_if_success (simp only [eq_self, reduceCtorEq] at h))) | refine onx ?_ | refine onb ?_ | refine sreg ?_ | refine qT rfl ?_ | refine qF rfl ?_ | refine scondT rfl ?_ | refine scondF rfl ?_ | refine ocondP rfl (fun h => ?_) (fun h => ?_) | refine ocondB rfl (fun h => ?_) (fun h => ?_) | refine scondP rfl (fun h => ?_) (fun h => ?_) | refine scond rfl (fun h => ?_) (fun h => ?_) | refine oskip ?_ | refine oskipb ?_ | refine oret ?_ | refine sem_ret ?_ | refine sem_seq ?_ | refine sreg1 ?_)
      exact ⟨_, rfl, _, rfl, tree_eq rfl rfl⟩

theorem ref03_Good (t : CoolTown) (ht : t.ok) (b o : List Int) (hb : b.length ≤ 1000) (hob : o.length ≤ 1000) (hbb : ∀ i ∈ b, 0 ≤ i ∧ i < t.sites.length) (ho : ∀ i ∈ o, 0 ≤ i ∧ i < t.sites.length) :
    Holds Try.prog G F.ref03_Good [.agg t.cs, slOf intCs b, slOf intCs o] (B (goodB t b o)) := by
  have hn := ht.1
  (refine holds_of_sem hG fn_ref03_Good (by simp) fun w0 S0 hG0 D0 => ?_; unfold c_ref03_Good cval enterEnv; simp only [List.zipIdx_cons, List.zipIdx_nil, List.map_cons, List.map_nil, Nat.zero_add, Nat.reduceAdd])
  repeat' (first | ((first | refine o1 rfl ?_ | refine o0 rfl ?_); intro k hk; simp (disch := omega) only [ev0, sl_cells, simprocAttr]; refine hk _ _ ?_; clear hk k) | refine ono rfl ?_ | (apply ocall; (case he => (simp only [ev0, sl_cells, simprocAttr] <;> rfl)); (case hc => first | exact ref03_Again hG t ht b o hb hob hbb ho); (case ht => rfl); (case hg => rfl)) | ((first | refine osplitG rfl (fun h => ?_) (fun h => ?_) | refine osplitB rfl (fun h => ?_) (fun h => ?_)) <;> (fail_if_success (simp only [eq_self, reduceCtorEq] at h))) | refine onx ?_ | refine onb ?_ | refine sreg ?_ | refine qT rfl ?_ | refine qF rfl ?_ | refine scondT rfl ?_ | refine scondF rfl ?_ | refine ocondP rfl (fun h => ?_) (fun h => ?_) | refine ocondB rfl (fun h => ?_) (fun h => ?_) | refine scondP rfl (fun h => ?_) (fun h => ?_) | refine scond rfl (fun h => ?_) (fun h => ?_) | refine oskip ?_ | refine oskipb ?_ | refine oret ?_ | refine sem_ret ?_ | refine sem_seq ?_ | refine sreg1 ?_)
  have hal := againL_len t t.houses.length b o
  have hag : ∀ y, y < t.houses.length → (againL t t.houses.length b o).getD y default = agF t b o y (o.length + 1) := fun y hy => by
    rw [getD_lt (by rw [hal]; exact hy)]; simp [againL]
  have hgd : goodB t b o = true ↔ ∀ y, y < t.houses.length → 0 ≤ agF t b o y (o.length + 1) ∧ agF t b o y (o.length + 1) ≤ (t.houses.getD y default).grace := by simp [goodB]
  refine sem_block ?_
  
  refine sem_loop (α := Nat) (fun i => ⟨[(3, .ptr 0 0 2 0 0), (7, slOf intCs (againL t t.houses.length b o)), (8, I i)], [.row 25 0 2 [t.cs]]⟩) (fun i => i ≤ t.houses.length ∧ ∀ y, y < i → 0 ≤ agF t b o y (o.length + 1) ∧ agF t b o y (o.length + 1) ≤ (t.houses.getD y default).grace) (fun i => t.houses.length - i) 0 ⟨Nat.zero_le _, fun y hy => absurd hy (Nat.not_lt_zero _)⟩ ?_ ?_
  · (refine Le.same ?_; simp only [List.forall_mem_cons, List.forall_mem_nil, getE, selE, Nat.reduceBEq, List.not_mem_nil, false_implies, implies_true, and_true, true_and, and_self])
    simp [CoolTown.cs]
  · rintro i ⟨hi, hall⟩
    repeat' (first | ((first | refine o1 rfl ?_ | refine o0 rfl ?_); intro k hk; simp (disch := omega) only [ev0, sl_cells, simprocAttr, slOf, hal]; refine hk _ _ ?_; clear hk k) | refine ono rfl ?_ | ((first | refine osplitG rfl (fun h => ?_) (fun h => ?_) | refine osplitB rfl (fun h => ?_) (fun h => ?_)) <;> (fail_if_success (simp only [eq_self, reduceCtorEq] at h))) | refine onx ?_ | refine onb ?_ | refine sreg ?_ | refine qT rfl ?_ | refine qF rfl ?_ | refine scondT rfl ?_ | refine scondF rfl ?_ | refine ocondP rfl (fun h => ?_) (fun h => ?_) | refine ocondB rfl (fun h => ?_) (fun h => ?_) | refine scondP rfl (fun h => ?_) (fun h => ?_) | refine scond rfl (fun h => ?_) (fun h => ?_) | refine oskip ?_ | refine oskipb ?_ | refine oret ?_ | refine sem_ret ?_ | refine sem_seq ?_ | refine sreg1 ?_)
    · have hi' : i < t.houses.length := by omega
      have hai := hag i hi'
      have hbd := agF_bound ht (b := b) ho i (o.length + 1)
      generalize hA : agF t b o i (o.length + 1) = A at *
      refine sem_block ?_
      by_cases hneg : A < 0
      · repeat' (first | ((first | refine o1 rfl ?_ | refine o0 rfl ?_); intro k hk; simp (disch := omega) only [ev0, sl_cells, simprocAttr]; refine hk _ _ ?_; clear hk k) | refine ono rfl ?_ | ((first | refine osplitG rfl (fun h => ?_) (fun h => ?_) | refine osplitB rfl (fun h => ?_) (fun h => ?_)) <;> (fail_if_success (simp only [eq_self, reduceCtorEq] at h))) | refine onx ?_ | refine onb ?_ | refine sreg ?_ | refine qT rfl ?_ | refine qF rfl ?_ | refine scondT rfl ?_ | refine scondF rfl ?_ | refine ocondP rfl (fun h => ?_) (fun h => ?_) | refine ocondB rfl (fun h => ?_) (fun h => ?_) | refine scondP rfl (fun h => ?_) (fun h => ?_) | refine scond rfl (fun h => ?_) (fun h => ?_) | refine oskip ?_ | refine oskipb ?_ | refine oret ?_ | refine sem_ret ?_ | refine sem_seq ?_ | refine sreg1 ?_)
        ((refine sem_mgo 16 hmix (by kernel_rfl) ?_; simp only [List.take_succ_cons, List.take_zero, List.drop_succ_cons, List.drop_zero, List.take_nil, List.drop_nil]); (repeat' (first | ((first | apply mop | apply mop0); (case hg => rfl); (case hq => rfl); intro k hk; simp (disch := omega) only [ev0, sl_cells, simprocAttr, slOf, intCs, hal, hai, hneg, decide_true, eq_self]; refine hk _ _ rfl ?_; clear hk k) | (apply mno; (case hg => rfl)) | (apply mbox; (case hx => (simp only [wv, simprocAttr] <;> rfl)); (case hg => rfl); (case hall => rfl); (case hr => rfl); simp only [cellsOf, List.length_cons, List.length_nil, Nat.reduceAdd, Nat.zero_add, List.nil_append, List.cons_append, List.set_cons_zero, List.set_cons_succ, chunks, List.take_succ_cons, List.take_zero, List.drop_succ_cons, List.drop_zero]) | (apply mbldS; (case hb => (simp (disch := omega) only [ev0, sl_cells, simprocAttr] <;> rfl)); (case hg => rfl); (case hr => rfl); simp only [cellsOf, List.length_cons, List.length_nil, Nat.reduceAdd, Nat.zero_add, List.nil_append, List.cons_append, List.set_cons_zero, List.set_cons_succ, chunks, List.take_succ_cons, List.take_zero, List.drop_succ_cons, List.drop_zero]) | ((first | (apply msto (q := 0); (case hq => rfl)) | (apply msto (q := 1); (case hq => rfl)) | (apply msto (q := 2); (case hq => rfl)) | (apply msto (q := 3); (case hq => rfl))); (case hx => (simp only [wv, simprocAttr] <;> rfl)); (case haddr => (simp only [wv, simprocAttr] <;> rfl)); (case hg => rfl); (case hl1 => rfl); (case hl2 => rfl); (case hok => rfl); (case hr => rfl); simp only [cellsOf, List.length_cons, List.length_nil, Nat.reduceAdd, Nat.zero_add, List.nil_append, List.cons_append, List.set_cons_zero, List.set_cons_succ, chunks, List.take_succ_cons, List.take_zero, List.drop_succ_cons, List.drop_zero]) | (apply mnil; simp only [SlotR.fin, List.map_cons, List.map_nil, List.cons_append, List.nil_append, List.append_nil]) | (refine msplit rfl (fun h => ?_) (fun h => ?_) <;> simp only [h] <;> (try simp only [Bool.not_eq_true', Bool.not_eq_false', decide_eq_true_eq, decide_eq_false_iff_not] at h)))) <;> (repeat' (first | ((first | refine o1 rfl ?_ | refine o0 rfl ?_); intro k hk; simp (disch := omega) only [ev0, sl_cells, simprocAttr, slOf, intCs, hal, hai, hneg, decide_true, eq_self]; refine hk _ _ ?_; clear hk k) | refine ono rfl ?_ | ((first | refine osplitG rfl (fun h => ?_) (fun h => ?_) | refine osplitB rfl (fun h => ?_) (fun h => ?_)) <;> (fail_if_success (simp only [eq_self, reduceCtorEq] at h))) | refine onx ?_ | refine onb ?_ | refine sreg ?_ | refine qT rfl ?_ | refine qF rfl ?_ | refine scondT rfl ?_ | refine scondF rfl ?_ | refine ocondP rfl (fun h => ?_) (fun h => ?_) | refine ocondB rfl (fun h => ?_) (fun h => ?_) | refine scondP rfl (fun h => ?_) (fun h => ?_) | refine scond rfl (fun h => ?_) (fun h => ?_) | refine oskip ?_ | refine oskipb ?_ | refine oret ?_ | refine sem_ret ?_ | refine sem_seq ?_ | refine sreg1 ?_)))
        rw [show goodB t b o = false from Bool.eq_false_iff.2 fun q => by have := (hgd.1 q i hi').1; omega]
        exact ⟨_, rfl, _, rfl, tree_eq rfl rfl⟩
      · repeat' (first | ((first | refine o1 rfl ?_ | refine o0 rfl ?_); intro k hk; simp (disch := omega) only [ev0, sl_cells, simprocAttr]; refine hk _ _ ?_; clear hk k) | refine ono rfl ?_ | ((first | refine osplitG rfl (fun h => ?_) (fun h => ?_) | refine osplitB rfl (fun h => ?_) (fun h => ?_)) <;> (fail_if_success (simp only [eq_self, reduceCtorEq] at h))) | refine onx ?_ | refine onb ?_ | refine sreg ?_ | refine qT rfl ?_ | refine qF rfl ?_ | refine scondT rfl ?_ | refine scondF rfl ?_ | refine ocondP rfl (fun h => ?_) (fun h => ?_) | refine ocondB rfl (fun h => ?_) (fun h => ?_) | refine scondP rfl (fun h => ?_) (fun h => ?_) | refine scond rfl (fun h => ?_) (fun h => ?_) | refine oskip ?_ | refine oskipb ?_ | refine oret ?_ | refine sem_ret ?_ | refine sem_seq ?_ | refine sreg1 ?_)
        ((refine sem_mgo 16 hmix (by kernel_rfl) ?_; simp only [List.take_succ_cons, List.take_zero, List.drop_succ_cons, List.drop_zero, List.take_nil, List.drop_nil]); (repeat' (first | ((first | apply mop | apply mop0); (case hg => rfl); (case hq => rfl); intro k hk; simp (disch := omega) only [ev0, sl_cells, simprocAttr, slOf, intCs, hal, hai, hneg, decide_false, CoolTown.cs, CoolHouse.cs]; refine hk _ _ rfl ?_; clear hk k) | (apply mno; (case hg => rfl)) | (apply mbox; (case hx => (simp only [wv, simprocAttr] <;> rfl)); (case hg => rfl); (case hall => rfl); (case hr => rfl); simp only [cellsOf, List.length_cons, List.length_nil, Nat.reduceAdd, Nat.zero_add, List.nil_append, List.cons_append, List.set_cons_zero, List.set_cons_succ, chunks, List.take_succ_cons, List.take_zero, List.drop_succ_cons, List.drop_zero]) | (apply mbldS; (case hb => (simp (disch := omega) only [ev0, sl_cells, simprocAttr] <;> rfl)); (case hg => rfl); (case hr => rfl); simp only [cellsOf, List.length_cons, List.length_nil, Nat.reduceAdd, Nat.zero_add, List.nil_append, List.cons_append, List.set_cons_zero, List.set_cons_succ, chunks, List.take_succ_cons, List.take_zero, List.drop_succ_cons, List.drop_zero]) | ((first | (apply msto (q := 0); (case hq => rfl)) | (apply msto (q := 1); (case hq => rfl)) | (apply msto (q := 2); (case hq => rfl)) | (apply msto (q := 3); (case hq => rfl))); (case hx => (simp only [wv, simprocAttr] <;> rfl)); (case haddr => (simp only [wv, simprocAttr] <;> rfl)); (case hg => rfl); (case hl1 => rfl); (case hl2 => rfl); (case hok => rfl); (case hr => rfl); simp only [cellsOf, List.length_cons, List.length_nil, Nat.reduceAdd, Nat.zero_add, List.nil_append, List.cons_append, List.set_cons_zero, List.set_cons_succ, chunks, List.take_succ_cons, List.take_zero, List.drop_succ_cons, List.drop_zero]) | (apply mnil; simp only [SlotR.fin, List.map_cons, List.map_nil, List.cons_append, List.nil_append, List.append_nil]) | (refine msplit rfl (fun h => ?_) (fun h => ?_) <;> simp only [h] <;> (try simp only [Bool.not_eq_true', Bool.not_eq_false', decide_eq_true_eq, decide_eq_false_iff_not] at h)))) <;> (repeat' (first | ((first | refine o1 rfl ?_ | refine o0 rfl ?_); intro k hk; simp (disch := omega) only [ev0, sl_cells, simprocAttr, slOf, intCs, hal, hai, hneg, decide_false, CoolTown.cs, CoolHouse.cs]; refine hk _ _ ?_; clear hk k) | refine ono rfl ?_ | ((first | refine osplitG rfl (fun h => ?_) (fun h => ?_) | refine osplitB rfl (fun h => ?_) (fun h => ?_)) <;> (fail_if_success (simp only [eq_self, reduceCtorEq] at h))) | refine onx ?_ | refine onb ?_ | refine sreg ?_ | refine qT rfl ?_ | refine qF rfl ?_ | refine scondT rfl ?_ | refine scondF rfl ?_ | refine ocondP rfl (fun h => ?_) (fun h => ?_) | refine ocondB rfl (fun h => ?_) (fun h => ?_) | refine scondP rfl (fun h => ?_) (fun h => ?_) | refine scond rfl (fun h => ?_) (fun h => ?_) | refine oskip ?_ | refine oskipb ?_ | refine oret ?_ | refine sem_ret ?_ | refine sem_seq ?_ | refine sreg1 ?_)))
        · rename_i h
          rw [show goodB t b o = false from Bool.eq_false_iff.2 fun q => by have := (hgd.1 q i hi').2; omega]
          exact ⟨_, rfl, _, rfl, tree_eq rfl rfl⟩
        · rename_i h
          refine onil (lnext (i + 1) ⟨by omega, fun y hy => ?_⟩ (by omega) ?_)
          · by_cases e : y = i
            · subst e; rw [hA]; omega
            · exact hall y (by omega)
          · (refine Le.same ?_; simp only [List.forall_mem_cons, List.forall_mem_nil, getE, selE, Nat.reduceBEq, List.not_mem_nil, false_implies, implies_true, and_true, true_and, and_self])
            simp [CoolTown.cs, slOf]
    · have hi' : i = t.houses.length := by omega
      subst hi'
      (refine sem_exit ?_; change sem _ _ _ _ _)
      repeat' (first | ((first | refine o1 rfl ?_ | refine o0 rfl ?_); intro k hk; simp (disch := omega) only [ev0, sl_cells, simprocAttr]; refine hk _ _ ?_; clear hk k) | refine ono rfl ?_ | ((first | refine osplitG rfl (fun h => ?_) (fun h => ?_) | refine osplitB rfl (fun h => ?_) (fun h => ?_)) <;> (fail_if_success (simp only [eq_self, reduceCtorEq] at h))) | refine onx ?_ | refine onb ?_ | refine sreg ?_ | refine qT rfl ?_ | refine qF rfl ?_ | refine scondT rfl ?_ | refine scondF rfl ?_ | refine ocondP rfl (fun h => ?_) (fun h => ?_) | refine ocondB rfl (fun h => ?_) (fun h => ?_) | refine scondP rfl (fun h => ?_) (fun h => ?_) | refine scond rfl (fun h => ?_) (fun h => ?_) | refine oskip ?_ | refine oskipb ?_ | refine oret ?_ | refine sem_ret ?_ | refine sem_seq ?_ | refine sreg1 ?_)
      rw [hgd.2 hall]
      exact ⟨_, rfl, _, rfl, tree_eq rfl rfl⟩
end Go.Proofs.Ytnempffajbdneaa

/- One window of a draw region in which one operation turns the memory, with the values given. -/
set_option linter.unusedVariables false
set_option linter.unusedSimpArgs false
namespace Go.Av
open Go.RowKit
/-- A quiet run. -/
def qval : List SOper → List (Nat × AV) → List AObj → Option (List AV × List (Nat × AV))
  | [], env, _ => some ([], env)
  | s :: l, env, μ =>
    if wantA s.guard env = some true ∧ quietK s.op = true then
      match sopA s.op env μ with
      | some (x, _) => (match qval l (pushE env s.dst x) μ with | some (xs, e) => some (x :: xs, e) | none => none)
      | none => none
    else none
section rules
variable {K : Ctx} {F : Fcx} {Q : AExit → St → Prop}
theorem qval_sound {μ : List AObj} : ∀ {l : List SOper} {env env' : List (Nat × AV)} {xs : List AV}, qval l env μ = some (xs, env') → QRun K μ l env none xs env'
  | [], env, env', xs, h => by
    simp only [qval, Option.some.injEq, Prod.mk.injEq] at h
    obtain ⟨rfl, rfl⟩ := h
    exact .nil
  | s :: l, env, env', xs, h => by
    simp only [qval] at h
    split at h
    · rename_i hg
      split at h
      · rename_i x μ' hx
        split at h
        · rename_i ys e hq
          simp only [Option.some.injEq, Prod.mk.injEq] at h
          obtain ⟨rfl, rfl⟩ := h
          obtain rfl := faA_same hg.2 hx
          exact .op (.inl ⟨hg.1, hg.2, hx⟩) (qval_sound hq)
        · cases h
      · cases h
    · cases h
theorem any_eff2L {l la lb lc : List SOper} {pre : List (List Nat)} {env : List (Nat × AV)} {μ ν : List AObj} (m p : Nat) (R : Nat → AV) (hok : winOK l pre 0 m = true) (hpm : p < m)
    (hla : fkL (fkA l pre p R) 0 p = la) (hlb : fkL (fkA l pre p R) p (m - p) = lb) (hlc : fkL (fkB l pre p R) 0 m = lc) {envp env' env'' : List (Nat × AV)} {xa xb xc : List AV}
    (ha : qval la env μ = some (xa, envp)) (hb : qval lb envp μ = some (xb, env')) (hc : qval lc env ν = some (xc, env''))
    (hxa : xa = (List.range p).map R) (hxb : xb = (List.range' p (m - p)).map R) (hxc : xc = (List.range m).map R)
    (hg : wantA (opAt l p).guard envp = some true) (hp : sopA (opAt l p).op envp μ = some (R p, ν)) (h : AnyC K F Q l pre m ⟨env', ν⟩) : AnyC K F Q l pre 0 ⟨env, μ⟩ := by
  subst hla hlb hlc hxa hxb hxc
  refine any_eff2 0 m p R hok (Nat.zero_le _) hpm (qval_sound ha) (qval_sound hb) (qval_sound hc) (fun i hi => ?_) (fun i hi => ?_) (fun i hi => ?_) hg (.inl hp) h
  · simp only [List.getD_eq_getElem?_getD, List.getElem?_map, List.getElem?_range (show i < p by omega), Option.map_some, Option.getD_some, Nat.zero_add]
  · simp only [List.getD_eq_getElem?_getD, List.getElem?_map, List.getElem?_range' hi, Option.map_some, Option.getD_some, Nat.one_mul]
  · simp only [List.getD_eq_getElem?_getD, List.getElem?_map, List.getElem?_range (show i < m by omega), Option.map_some, Option.getD_some, Nat.zero_add]
end rules
end Go.Av

/- Sorting numbers, the greatest first. -/
set_option linter.unusedVariables false
set_option linter.unusedSimpArgs false
set_option maxRecDepth 8000
set_option maxHeartbeats 2000000
namespace Go.Tk
open Go Go.Av
def cmpI (x y : Int) : Int := if x < y then -1 else if y < x then 1 else 0
/-- The greatest first. -/
def sortD (l : List Int) : List Int := l.mergeSort fun a b => decide (b ≤ a)
theorem sortD_perm (l : List Int) : (sortD l).Perm l := List.mergeSort_perm _ _
theorem sortD_sorted (l : List Int) : (sortD l).Pairwise fun a b => b ≤ a := by
  have := List.pairwise_mergeSort (le := fun a b : Int => decide (b ≤ a)) (fun a b c h1 h2 => by simp only [decide_eq_true_eq] at *; omega) (fun a b => by simp only [Bool.or_eq_true, decide_eq_true_eq]; omega) l
  exact this.imp fun h => by simpa using h
theorem sortD_eq {l m : List Int} (h : m.Perm l) (hs : m.Pairwise fun a b => b ≤ a) : m = sortD l :=
  List.Perm.eq_of_pairwise (fun a b _ _ h1 h2 => by omega) hs (sortD_sorted l) (h.trans (sortD_perm l).symm)
/-- In order up to i, but for the place j. -/
def exc (L : List Int) (i j : Nat) : Prop := ∀ a b, a < b → b ≤ i → b ≠ j → L.getD b default ≤ L.getD a default
def swapL (L : List Int) (q : Nat) : List Int := (L.set (q + 1) (L.getD q default)).set q (L.getD (q + 1) default)
theorem swapL_len {L : List Int} {q : Nat} : (swapL L q).length = L.length := by simp [swapL]
theorem swapL_get {L : List Int} {q : Nat} (hq : q + 1 < L.length) (a : Nat) : (swapL L q).getD a default = if a = q then L.getD (q + 1) default else if a = q + 1 then L.getD q default else L.getD a default := by
  unfold swapL
  simp only [List.getD_eq_getElem?_getD, List.getElem?_set, List.length_set]
  by_cases h1 : a = q
  · subst h1; simp [show a < L.length by omega]
  · by_cases h2 : a = q + 1
    · subst h2; simp [hq]
    · simp [h1, h2, Ne.symm h1, Ne.symm h2]
theorem swapL_perm {L : List Int} {q : Nat} (hq : q + 1 < L.length) : (swapL L q).Perm L := by
  have := List.set_set_perm (i := q + 1) (j := q) hq (show q < L.length by omega)
  unfold swapL
  rw [getD_lt hq, getD_lt (show q < L.length by omega)]
  exact this
theorem exc_swap {L : List Int} {i q : Nat} (hq : q + 1 < L.length) (hqi : q + 1 ≤ i) (h : exc L i (q + 1)) (hlt : L.getD q default < L.getD (q + 1) default) : exc (swapL L q) i q := by
  intro a b hab hbi hbq
  rw [swapL_get hq, swapL_get hq]
  have e1 := h a b hab hbi
  have e2 := h q b
  have e3 := h (q + 1) b
  have e4 := h a q
  split <;> split <;> (try split) <;> (try split) <;> grind
theorem exc_done {L : List Int} {i j : Nat} (hj : j ≤ i) (h : exc L i j) (hd : j = 0 ∨ L.getD j default ≤ L.getD (j - 1) default) : exc L (i + 1) (i + 1) := by
  intro a b hab hbi hbq
  by_cases e : b = j
  · subst e
    rcases hd with hd | hd
    · omega
    · by_cases e2 : a = b - 1
      · subst e2; exact hd
      · have := h a (b - 1) (by omega) (by omega) (by omega)
        omega
  · exact h a b hab (by omega) e
theorem exc_sorted {L : List Int} (h : exc L L.length L.length) : L.Pairwise fun a b => b ≤ a := by
  rw [List.pairwise_iff_getElem]
  intro i j hi hj hij
  have := h i j hij (by omega) (by omega)
  rwa [getD_lt hj, getD_lt hi] at this
theorem rowL_set {L : List Int} {i : Nat} {a : Int} : (rowL intCs L).set i [.int .i64 a] = rowL intCs (L.set i a) := by simp [rowL, List.map_set, intCs]
end Go.Tk
namespace Go.Proofs.Ytnempffajbdneaa
open Go Go.Av Go.Tk
attribute [local irreducible] Holds sem semL ACalls FnIs
section
variable {G : World → Prop} (hG : ∀ w w', G w → RowKit.Below w.heap.size w w' → G w')
include hG
theorem cmp_isNaN (x : Int) : Holds Try.prog G F.cmp_isNaN_int [I x] (B false) := by
  (refine holds_of_sem hG fn_cmp_isNaN_int (by simp) fun w0 S0 hG0 D0 => ?_; unfold c_cmp_isNaN_int cval enterEnv; simp only [List.zipIdx_cons, List.zipIdx_nil, List.map_cons, List.map_nil, Nat.zero_add, Nat.reduceAdd])
  repeat' (first | ((first | refine o1 rfl ?_ | refine o0 rfl ?_); intro k hk; simp (disch := omega) only [ev0, sl_cells, simprocAttr]; refine hk _ _ ?_; clear hk k) | refine ono rfl ?_ | ((first | refine osplitG rfl (fun h => ?_) (fun h => ?_) | refine osplitB rfl (fun h => ?_) (fun h => ?_)) <;> (fail_if_success (simp only [eq_self, reduceCtorEq] at h))) | refine onx ?_ | refine onb ?_ | refine sreg ?_ | refine qT rfl ?_ | refine qF rfl ?_ | refine scondT rfl ?_ | refine scondF rfl ?_ | refine ocondP rfl (fun h => ?_) (fun h => ?_) | refine ocondB rfl (fun h => ?_) (fun h => ?_) | refine scondP rfl (fun h => ?_) (fun h => ?_) | refine scond rfl (fun h => ?_) (fun h => ?_) | refine oskip ?_ | refine oskipb ?_ | refine oret ?_ | refine sem_ret ?_ | refine sem_seq ?_ | refine sreg1 ?_)
  exact ⟨_, rfl, _, rfl, tree_eq rfl rfl⟩
theorem cmp_Compare (x y : Int) : Holds Try.prog G F.cmp_Compare_int [I x, I y] (I (cmpI x y)) := by
  (refine holds_of_sem hG fn_cmp_Compare_int (by simp) fun w0 S0 hG0 D0 => ?_; unfold c_cmp_Compare_int cval enterEnv; simp only [List.zipIdx_cons, List.zipIdx_nil, List.map_cons, List.map_nil, Nat.zero_add, Nat.reduceAdd])
  repeat' (first | ((first | refine o1 rfl ?_ | refine o0 rfl ?_); intro k hk; simp (disch := omega) only [ev0, sl_cells, simprocAttr]; refine hk _ _ ?_; clear hk k) | refine ono rfl ?_ | (apply ocall; (case he => (simp only [ev0, sl_cells, simprocAttr] <;> rfl)); (case hc => first | exact cmp_isNaN hG x | exact cmp_isNaN hG y); (case ht => rfl); (case hg => rfl)) | ((first | refine osplitG rfl (fun h => ?_) (fun h => ?_) | refine osplitB rfl (fun h => ?_) (fun h => ?_)) <;> (fail_if_success (simp only [eq_self, reduceCtorEq] at h))) | refine onx ?_ | refine onb ?_ | refine sreg ?_ | refine qT rfl ?_ | refine qF rfl ?_ | refine scondT rfl ?_ | refine scondF rfl ?_ | refine ocondP rfl (fun h => ?_) (fun h => ?_) | refine ocondB rfl (fun h => ?_) (fun h => ?_) | refine scondP rfl (fun h => ?_) (fun h => ?_) | refine scond rfl (fun h => ?_) (fun h => ?_) | refine oskip ?_ | refine oskipb ?_ | refine oret ?_ | refine sem_ret ?_ | refine sem_seq ?_ | refine sreg1 ?_)
  all_goals
    first
      | (rw [show cmpI x y = -1 by unfold cmpI; (repeat' split) <;> omega]; exact ⟨_, rfl, _, rfl, tree_eq rfl rfl⟩)
      | (rw [show cmpI x y = 1 by unfold cmpI; (repeat' split) <;> omega]; exact ⟨_, rfl, _, rfl, tree_eq rfl rfl⟩)
      | (rw [show cmpI x y = 0 by unfold cmpI; (repeat' split) <;> omega]; exact ⟨_, rfl, _, rfl, tree_eq rfl rfl⟩)
theorem sorted_1 (x y : Int) : Holds Try.prog G F.cool_sorted_int_1 [I x, I y] (I (cmpI y x)) := by
  (refine holds_of_sem hG fn_cool_sorted_int_1 (by simp) fun w0 S0 hG0 D0 => ?_; unfold c_cool_sorted_int_1 cval enterEnv; simp only [List.zipIdx_cons, List.zipIdx_nil, List.map_cons, List.map_nil, Nat.zero_add, Nat.reduceAdd])
  repeat' (first | ((first | refine o1 rfl ?_ | refine o0 rfl ?_); intro k hk; simp (disch := omega) only [ev0, sl_cells, simprocAttr]; refine hk _ _ ?_; clear hk k) | refine ono rfl ?_ | (apply ocall; (case he => (simp only [ev0, sl_cells, simprocAttr] <;> rfl)); (case hc => first | exact cmp_Compare hG y x); (case ht => rfl); (case hg => rfl)) | ((first | refine osplitG rfl (fun h => ?_) (fun h => ?_) | refine osplitB rfl (fun h => ?_) (fun h => ?_)) <;> (fail_if_success (simp only [eq_self, reduceCtorEq] at h))) | refine onx ?_ | refine onb ?_ | refine sreg ?_ | refine qT rfl ?_ | refine qF rfl ?_ | refine scondT rfl ?_ | refine scondF rfl ?_ | refine ocondP rfl (fun h => ?_) (fun h => ?_) | refine ocondB rfl (fun h => ?_) (fun h => ?_) | refine scondP rfl (fun h => ?_) (fun h => ?_) | refine scond rfl (fun h => ?_) (fun h => ?_) | refine oskip ?_ | refine oskipb ?_ | refine oret ?_ | refine sem_ret ?_ | refine sem_seq ?_ | refine sreg1 ?_)
  exact ⟨_, rfl, _, rfl, tree_eq rfl rfl⟩
end
theorem insertion {K : Ctx} (hP : K.P = Try.prog) (hGK : ∀ w w', K.G w → RowKit.Below w.heap.size w w' → K.G w') (l : List Int) (hl : l.length ≤ 12) (g : Nat) :
    ACalls K F.slices_insertionSortCmpFunc_int [.hsl 0 g 1 l.length, I 0, I l.length, .fn (.func F.cool_sorted_int_1) [] []] [.row 3 g 1 (rowL intCs l)] fun ae ν => ae = .ret (.tup []) ∧ ν = [.row 3 g 1 (rowL intCs (sortD l))] := by
  obtain ⟨P, w0, S0, G, hG0⟩ := K
  simp only at hP hGK
  subst hP
  refine acalls_of_sem fn_slices_insertionSortCmpFunc_int (by simp) fun D => ?_
  unfold c_slices_insertionSortCmpFunc_int cval enterEnv
  simp only [List.zipIdx_cons, List.zipIdx_nil, List.map_cons, List.map_nil, Nat.zero_add, Nat.reduceAdd]
  repeat' (first | ((first | refine o1 rfl ?_ | refine o0 rfl ?_); intro k hk; simp (disch := omega) only [ev0, sl_cells, simprocAttr]; refine hk _ _ ?_; clear hk k) | refine ono rfl ?_ | ((first | refine osplitG rfl (fun h => ?_) (fun h => ?_) | refine osplitB rfl (fun h => ?_) (fun h => ?_)) <;> (fail_if_success (simp only [eq_self, reduceCtorEq] at h))) | refine onx ?_ | refine onb ?_ | refine sreg ?_ | refine qT rfl ?_ | refine qF rfl ?_ | refine scondT rfl ?_ | refine scondF rfl ?_ | refine ocondP rfl (fun h => ?_) (fun h => ?_) | refine ocondB rfl (fun h => ?_) (fun h => ?_) | refine scondP rfl (fun h => ?_) (fun h => ?_) | refine scond rfl (fun h => ?_) (fun h => ?_) | refine oskip ?_ | refine oskipb ?_ | refine oret ?_ | refine sem_ret ?_ | refine sem_seq ?_ | refine sreg1 ?_)
  refine sem_block ?_
  
  refine sem_loop (α := Nat × List Int) (fun y => ⟨[(0, .hsl 0 g 1 l.length), (1, I 0), (2, I l.length), (3, .fn (.func F.cool_sorted_int_1) [] []), (8, I (y.1 + 1 : Nat))], [.row 3 g 1 (rowL intCs y.2)]⟩) (fun y => (y.1 + 1 ≤ l.length ∨ l.length = 0 ∧ y.1 = 0) ∧ y.2.length = l.length ∧ y.2.Perm l ∧ exc y.2 y.1 (y.1 + 1)) (fun y => l.length - y.1) (0, l) ⟨by dsimp only; omega, rfl, List.Perm.refl _, fun a b h1 h2 => by have h3 : b ≤ 0 := h2; omega⟩ ?_ ?_
  · (refine Le.same ?_; simp only [List.forall_mem_cons, List.forall_mem_nil, getE, selE, Nat.reduceBEq, List.not_mem_nil, false_implies, implies_true, and_true, true_and, and_self])
    simp
  · rintro ⟨i, L⟩ ⟨h1, h2, h3, h4⟩
    simp only at h1 h2 h3 h4
    repeat' (first | ((first | refine o1 rfl ?_ | refine o0 rfl ?_); intro k hk; simp (disch := omega) only [ev0, sl_cells, simprocAttr]; refine hk _ _ ?_; clear hk k) | refine ono rfl ?_ | ((first | refine osplitG rfl (fun h => ?_) (fun h => ?_) | refine osplitB rfl (fun h => ?_) (fun h => ?_)) <;> (fail_if_success (simp only [eq_self, reduceCtorEq] at h))) | refine onx ?_ | refine onb ?_ | refine sreg ?_ | refine qT rfl ?_ | refine qF rfl ?_ | refine scondT rfl ?_ | refine scondF rfl ?_ | refine ocondP rfl (fun h => ?_) (fun h => ?_) | refine ocondB rfl (fun h => ?_) (fun h => ?_) | refine scondP rfl (fun h => ?_) (fun h => ?_) | refine scond rfl (fun h => ?_) (fun h => ?_) | refine oskip ?_ | refine oskipb ?_ | refine oret ?_ | refine sem_ret ?_ | refine sem_seq ?_ | refine sreg1 ?_)
    · have hi : i + 1 < l.length := by omega
      refine sem_block ?_
      repeat' (first | ((first | refine o1 rfl ?_ | refine o0 rfl ?_); intro k hk; simp (disch := omega) only [ev0, sl_cells, simprocAttr]; refine hk _ _ ?_; clear hk k) | refine ono rfl ?_ | ((first | refine osplitG rfl (fun h => ?_) (fun h => ?_) | refine osplitB rfl (fun h => ?_) (fun h => ?_)) <;> (fail_if_success (simp only [eq_self, reduceCtorEq] at h))) | refine onx ?_ | refine onb ?_ | refine sreg ?_ | refine qT rfl ?_ | refine qF rfl ?_ | refine scondT rfl ?_ | refine scondF rfl ?_ | refine ocondP rfl (fun h => ?_) (fun h => ?_) | refine ocondB rfl (fun h => ?_) (fun h => ?_) | refine scondP rfl (fun h => ?_) (fun h => ?_) | refine scond rfl (fun h => ?_) (fun h => ?_) | refine oskip ?_ | refine oskipb ?_ | refine oret ?_ | refine sem_ret ?_ | refine sem_seq ?_ | refine sreg1 ?_)
      refine sem_block ?_
      
      refine sem_loop (α := Nat × List Int) (fun y => ⟨[(0, .hsl 0 g 1 l.length), (1, I 0), (2, I l.length), (3, .fn (.func F.cool_sorted_int_1) [] []), (8, I (i + 1 : Nat)), (9, I y.1)], [.row 3 g 1 (rowL intCs y.2)]⟩) (fun y => y.1 ≤ i + 1 ∧ y.2.length = l.length ∧ y.2.Perm l ∧ exc y.2 (i + 1) y.1) (fun y => y.1) (i + 1, L) ⟨Nat.le_refl _, h2, h3, fun a b e1 e2 e3 => h4 a b e1 (by have : b ≤ i + 1 := e2; have : b ≠ i + 1 := e3; omega) e3⟩ ?_ ?_
      · (refine Le.same ?_; simp only [List.forall_mem_cons, List.forall_mem_nil, getE, selE, Nat.reduceBEq, List.not_mem_nil, false_implies, implies_true, and_true, true_and, and_self])
      · rintro ⟨j, L2⟩ ⟨k1, k2, k3, k4⟩
        simp only at k1 k2 k3 k4
        by_cases hj : 0 < j
        · obtain ⟨q, rfl⟩ : ∃ q, j = q + 1 := ⟨j - 1, by omega⟩
          have hq1 : ((q + 1 : Nat) : Int) - 1 = (q : Int) := by omega
          have hjI : (0 : Int) < ((q + 1 : Nat) : Int) := by omega
          have hw1 := (rowL_len (enc := intCs) (l := L2))
          have hs1 := sorted_1 hGK (L2.getD (q + 1) default) (L2.getD q default)
          repeat' (first | ((first | refine o1 rfl ?_ | refine o0 rfl ?_); intro k hk; simp (disch := omega) only [ev0, sl_cells, simprocAttr]; refine hk _ _ ?_; clear hk k) | refine ono rfl ?_ | ((first | refine osplitG rfl (fun h => ?_) (fun h => ?_) | refine osplitB rfl (fun h => ?_) (fun h => ?_)) <;> (fail_if_success (simp only [eq_self, reduceCtorEq] at h))) | refine onx ?_ | refine onb ?_ | refine sreg ?_ | refine qT rfl ?_ | refine qF rfl ?_ | refine scondT rfl ?_ | refine scondF rfl ?_ | refine ocondP rfl (fun h => ?_) (fun h => ?_) | refine ocondB rfl (fun h => ?_) (fun h => ?_) | refine scondP rfl (fun h => ?_) (fun h => ?_) | refine scond rfl (fun h => ?_) (fun h => ?_) | refine oskip ?_ | refine oskipb ?_ | refine oret ?_ | refine sem_ret ?_ | refine sem_seq ?_ | refine sreg1 ?_)
          ((refine sem_mgo 14 hmix (by kernel_rfl) ?_; simp only [List.take_succ_cons, List.take_zero, List.drop_succ_cons, List.drop_zero, List.take_nil, List.drop_nil]); (repeat' (first | ((first | apply mop | apply mop0); (case hg => rfl); (case hq => rfl); intro k hk; simp (disch := omega) only [ev0, sl_cells, simprocAttr, hjI, decide_true, hq1, rowL_get, rowL_len, intCs]; refine hk _ _ rfl ?_; clear hk k) | (apply mno; (case hg => rfl)) | (apply mbox; (case hx => (simp only [wv, simprocAttr] <;> rfl)); (case hg => rfl); (case hall => rfl); (case hr => rfl); simp only [cellsOf, List.length_cons, List.length_nil, Nat.reduceAdd, Nat.zero_add, List.nil_append, List.cons_append, List.set_cons_zero, List.set_cons_succ, chunks, List.take_succ_cons, List.take_zero, List.drop_succ_cons, List.drop_zero]) | (apply mbldS; (case hb => (simp (disch := omega) only [ev0, sl_cells, simprocAttr] <;> rfl)); (case hg => rfl); (case hr => rfl); simp only [cellsOf, List.length_cons, List.length_nil, Nat.reduceAdd, Nat.zero_add, List.nil_append, List.cons_append, List.set_cons_zero, List.set_cons_succ, chunks, List.take_succ_cons, List.take_zero, List.drop_succ_cons, List.drop_zero]) | ((first | (apply msto (q := 0); (case hq => rfl)) | (apply msto (q := 1); (case hq => rfl)) | (apply msto (q := 2); (case hq => rfl)) | (apply msto (q := 3); (case hq => rfl))); (case hx => (simp only [wv, simprocAttr] <;> rfl)); (case haddr => (simp only [wv, simprocAttr] <;> rfl)); (case hg => rfl); (case hl1 => rfl); (case hl2 => rfl); (case hok => rfl); (case hr => rfl); simp only [cellsOf, List.length_cons, List.length_nil, Nat.reduceAdd, Nat.zero_add, List.nil_append, List.cons_append, List.set_cons_zero, List.set_cons_succ, chunks, List.take_succ_cons, List.take_zero, List.drop_succ_cons, List.drop_zero]) | (apply mnil; simp only [SlotR.fin, List.map_cons, List.map_nil, List.cons_append, List.nil_append, List.append_nil]) | (refine msplit rfl (fun h => ?_) (fun h => ?_) <;> simp only [h] <;> (try simp only [Bool.not_eq_true', Bool.not_eq_false', decide_eq_true_eq, decide_eq_false_iff_not] at h)))) <;> (repeat' (first | ((first | refine o1 rfl ?_ | refine o0 rfl ?_); intro k hk; simp (disch := omega) only [ev0, sl_cells, simprocAttr, hjI, decide_true, hq1, rowL_get, rowL_len, intCs]; refine hk _ _ ?_; clear hk k) | refine ono rfl ?_ | ((first | refine osplitG rfl (fun h => ?_) (fun h => ?_) | refine osplitB rfl (fun h => ?_) (fun h => ?_)) <;> (fail_if_success (simp only [eq_self, reduceCtorEq] at h))) | refine onx ?_ | refine onb ?_ | refine sreg ?_ | refine qT rfl ?_ | refine qF rfl ?_ | refine scondT rfl ?_ | refine scondF rfl ?_ | refine ocondP rfl (fun h => ?_) (fun h => ?_) | refine ocondB rfl (fun h => ?_) (fun h => ?_) | refine scondP rfl (fun h => ?_) (fun h => ?_) | refine scond rfl (fun h => ?_) (fun h => ?_) | refine oskip ?_ | refine oskipb ?_ | refine oret ?_ | refine sem_ret ?_ | refine sem_seq ?_ | refine sreg1 ?_)))
          (apply odyn; (case hx => (simp only [ev0, sl_cells, simprocAttr] <;> rfl)); (case he => (simp only [ev0, sl_cells, simprocAttr] <;> rfl)); (case hc => exact hs1); (case ht => first | rfl | assumption); (case hg => rfl))
          repeat' (first | ((first | refine o1 rfl ?_ | refine o0 rfl ?_); intro k hk; simp (disch := omega) only [ev0, sl_cells, simprocAttr]; refine hk _ _ ?_; clear hk k) | refine ono rfl ?_ | ((first | refine osplitG rfl (fun h => ?_) (fun h => ?_) | refine osplitB rfl (fun h => ?_) (fun h => ?_)) <;> (fail_if_success (simp only [eq_self, reduceCtorEq] at h))) | refine onx ?_ | refine onb ?_ | refine sreg ?_ | refine qT rfl ?_ | refine qF rfl ?_ | refine scondT rfl ?_ | refine scondF rfl ?_ | refine ocondP rfl (fun h => ?_) (fun h => ?_) | refine ocondB rfl (fun h => ?_) (fun h => ?_) | refine scondP rfl (fun h => ?_) (fun h => ?_) | refine scond rfl (fun h => ?_) (fun h => ?_) | refine oskip ?_ | refine oskipb ?_ | refine oret ?_ | refine sem_ret ?_ | refine sem_seq ?_ | refine sreg1 ?_)
          · have hL2 : q + 1 < L2.length := by omega
            refine sem_block ?_
            obtain ⟨R, hR⟩ : ∃ R : Nat → AV, R = fun i => ([.hsl 0 g 1 l.length, I (q + 1 : Nat), .hsl 0 g 1 l.length, I (q + 1 : Nat), I q, .hsl 0 g 1 l.length, I (q + 1 : Nat), I q, .ptr 0 g 1 q 0, I (L2.getD q default), .hsl 0 g 1 l.length, I (q + 1 : Nat), .ptr 0 g 1 (q + 1) 0, I (L2.getD (q + 1) default), .ptr 0 g 1 (q + 1) 0, .dead] : List AV).getD i .dead := ⟨_, rfl⟩
            refine any_start hmix ?_
            apply any_eff2L (m := 16) (p := 15) (R := R) (la := [⟨some 37, none, .mv (.t 0)⟩, ⟨some 38, none, .mv (.t 9)⟩, ⟨some 39, none, .mv (.t 0)⟩, ⟨some 40, none, .mv (.t 9)⟩, ⟨some 41, none, .bin .sub (.t 40) (.c (.int .i64 1))⟩, ⟨some 42, none, .mv (.t 0)⟩, ⟨some 43, none, .mv (.t 9)⟩, ⟨some 44, none, .bin .sub (.t 43) (.c (.int .i64 1))⟩, ⟨some 45, none, .ixS 1 (.t 42) (.t 44)⟩, ⟨some 46, none, .load false 1 (.t 45)⟩, ⟨some 47, none, .mv (.t 0)⟩, ⟨some 48, none, .mv (.t 9)⟩, ⟨some 49, none, .ixS 1 (.t 47) (.t 48)⟩, ⟨some 50, none, .load false 1 (.t 49)⟩, ⟨some 51, none, .ixS 1 (.t 37) (.t 38)⟩]) (lb := [⟨none, none, .mv (.c (R 15))⟩]) (lc := [⟨some 37, none, .mv (.c (R 0))⟩, ⟨some 38, none, .mv (.c (R 1))⟩, ⟨some 39, none, .mv (.t 0)⟩, ⟨some 40, none, .mv (.t 9)⟩, ⟨some 41, none, .bin .sub (.t 40) (.c (.int .i64 1))⟩, ⟨some 42, none, .mv (.c (R 5))⟩, ⟨some 43, none, .mv (.c (R 6))⟩, ⟨some 44, none, .mv (.c (R 7))⟩, ⟨some 45, none, .mv (.c (R 8))⟩, ⟨some 46, none, .mv (.c (R 9))⟩, ⟨some 47, none, .mv (.c (R 10))⟩, ⟨some 48, none, .mv (.c (R 11))⟩, ⟨some 49, none, .mv (.c (R 12))⟩, ⟨some 50, none, .mv (.c (R 13))⟩, ⟨some 51, none, .mv (.c (R 14))⟩, ⟨none, none, .mv (.c (R 15))⟩]) (ν := [.row 3 g 1 (rowL intCs (L2.set (q + 1) (L2.getD q default)))]) (hok := by kernel_rfl) (hpm := by omega) (hla := rfl) (hlb := rfl) (hlc := rfl)
            case ha =>
              simp (disch := omega) only [qval, pushE, quietK, and_self, if_true, wv, simprocAttr, ev0, sl_cells, rowL_get, rowL_len, intCs, hq1]
              rfl
            case hb =>
              simp (disch := omega) only [qval, pushE, quietK, and_self, if_true, wv, simprocAttr, ev0, sl_cells, rowL_get, rowL_len, intCs, hq1]
              rfl
            case hc =>
              simp (disch := omega) only [qval, pushE, quietK, and_self, if_true, wv, simprocAttr, ev0, sl_cells, rowL_get, rowL_len, intCs, hq1]
              rfl
            case hxa => rw [hR]; rfl
            case hxb => rw [hR]; rfl
            case hxc => rw [hR]; rfl
            case hg => rfl
            case hp =>
              rw [show R 15 = .dead by rw [hR]; rfl]
              simp (disch := omega) only [opAt, List.getD_cons_succ, List.getD_cons_zero, qval, pushE, quietK, and_self, if_true, wv, simprocAttr, ev0, sl_cells, rowL_get, rowL_len, intCs, hq1]
              rw [rowL_set]
            case h =>
              have hw2 : (L2.set (q + 1) (L2.getD q default)).length = L2.length := by simp
              refine any_seq 16 18 (by kernel_rfl) ?_
              simp only [List.take_succ_cons, List.take_zero, List.drop_succ_cons, List.drop_zero, List.take_nil, List.drop_nil]
              repeat' (first | ((first | refine o1 rfl ?_ | refine o0 rfl ?_); intro k hk; simp (disch := omega) only [ev0, sl_cells, simprocAttr, rowL_get, rowL_len, intCs, hq1]; refine hk _ _ ?_; clear hk k) | refine ono rfl ?_ | ((first | refine osplitG rfl (fun h => ?_) (fun h => ?_) | refine osplitB rfl (fun h => ?_) (fun h => ?_)) <;> (fail_if_success (simp only [eq_self, reduceCtorEq] at h))) | refine onx ?_ | refine onb ?_ | refine sreg ?_ | refine qT rfl ?_ | refine qF rfl ?_ | refine scondT rfl ?_ | refine scondF rfl ?_ | refine ocondP rfl (fun h => ?_) (fun h => ?_) | refine ocondB rfl (fun h => ?_) (fun h => ?_) | refine scondP rfl (fun h => ?_) (fun h => ?_) | refine scond rfl (fun h => ?_) (fun h => ?_) | refine oskip ?_ | refine oskipb ?_ | refine oret ?_ | refine sem_ret ?_ | refine sem_seq ?_ | refine sreg1 ?_)
              refine onil ?_
              change AnyC _ _ _ _ _ 18 _
              refine any_end 18 rfl ?_
              change sem _ _ _ _ _
              have hc2 : (L2.getD q default) < (L2.getD (q + 1) default) := by
                have hcm : cmpI (L2.getD q default) (L2.getD (q + 1) default) < 0 := by assumption
                unfold cmpI at hcm
                split at hcm <;> (try split at hcm) <;> omega
              repeat' (first | ((first | refine o1 rfl ?_ | refine o0 rfl ?_); intro k hk; simp (disch := omega) only [ev0, sl_cells, simprocAttr, hq1]; refine hk _ _ ?_; clear hk k) | refine ono rfl ?_ | ((first | refine osplitG rfl (fun h => ?_) (fun h => ?_) | refine osplitB rfl (fun h => ?_) (fun h => ?_)) <;> (fail_if_success (simp only [eq_self, reduceCtorEq] at h))) | refine onx ?_ | refine onb ?_ | refine sreg ?_ | refine qT rfl ?_ | refine qF rfl ?_ | refine scondT rfl ?_ | refine scondF rfl ?_ | refine ocondP rfl (fun h => ?_) (fun h => ?_) | refine ocondB rfl (fun h => ?_) (fun h => ?_) | refine scondP rfl (fun h => ?_) (fun h => ?_) | refine scond rfl (fun h => ?_) (fun h => ?_) | refine oskip ?_ | refine oskipb ?_ | refine oret ?_ | refine sem_ret ?_ | refine sem_seq ?_ | refine sreg1 ?_)
              simp only [rowL_set]
              refine onil (lnext (q, swapL L2 q) ⟨by simp only; omega, ?_, ?_, ?_⟩ (by simp only; omega) ?_)
              · simp only [swapL_len]; exact k2
              · exact (swapL_perm hL2).trans k3
              · exact exc_swap hL2 k1 k4 hc2
              (refine Le.same ?_; simp only [List.forall_mem_cons, List.forall_mem_nil, getE, selE, Nat.reduceBEq, List.not_mem_nil, false_implies, implies_true, and_true, true_and, and_self])
          · (refine sem_exit ?_; change sem _ _ _ _ _)
            repeat' (first | ((first | refine o1 rfl ?_ | refine o0 rfl ?_); intro k hk; simp (disch := omega) only [ev0, sl_cells, simprocAttr]; refine hk _ _ ?_; clear hk k) | refine ono rfl ?_ | ((first | refine osplitG rfl (fun h => ?_) (fun h => ?_) | refine osplitB rfl (fun h => ?_) (fun h => ?_)) <;> (fail_if_success (simp only [eq_self, reduceCtorEq] at h))) | refine onx ?_ | refine onb ?_ | refine sreg ?_ | refine qT rfl ?_ | refine qF rfl ?_ | refine scondT rfl ?_ | refine scondF rfl ?_ | refine ocondP rfl (fun h => ?_) (fun h => ?_) | refine ocondB rfl (fun h => ?_) (fun h => ?_) | refine scondP rfl (fun h => ?_) (fun h => ?_) | refine scond rfl (fun h => ?_) (fun h => ?_) | refine oskip ?_ | refine oskipb ?_ | refine oret ?_ | refine sem_ret ?_ | refine sem_seq ?_ | refine sreg1 ?_)
            have hc2 : (L2.getD (q + 1) default) ≤ (L2.getD q default) := by
              have hcm : ¬ cmpI (L2.getD q default) (L2.getD (q + 1) default) < 0 := by assumption
              unfold cmpI at hcm
              split at hcm <;> (try split at hcm) <;> omega
            have hd := exc_done k1 k4 (.inr hc2)
            refine onil (lnext (i + 1, L2) ⟨by simp only; omega, k2, k3, fun a b e1 e2 e3 => hd a b e1 (by have : b ≤ i + 1 := e2; omega) (by have : b ≤ i + 1 := e2; omega)⟩ (by simp only; omega) ?_)
            (refine Le.same ?_; simp only [List.forall_mem_cons, List.forall_mem_nil, getE, selE, Nat.reduceBEq, List.not_mem_nil, false_implies, implies_true, and_true, true_and, and_self])
            simp
        · have hj0 : j = 0 := by omega
          have hjI : ¬ (0 : Int) < (j : Int) := by omega
          have hd := exc_done k1 k4 (.inl hj0)
          repeat' (first | ((first | refine o1 rfl ?_ | refine o0 rfl ?_); intro k hk; simp (disch := omega) only [ev0, sl_cells, simprocAttr]; refine hk _ _ ?_; clear hk k) | refine ono rfl ?_ | ((first | refine osplitG rfl (fun h => ?_) (fun h => ?_) | refine osplitB rfl (fun h => ?_) (fun h => ?_)) <;> (fail_if_success (simp only [eq_self, reduceCtorEq] at h))) | refine onx ?_ | refine onb ?_ | refine sreg ?_ | refine qT rfl ?_ | refine qF rfl ?_ | refine scondT rfl ?_ | refine scondF rfl ?_ | refine ocondP rfl (fun h => ?_) (fun h => ?_) | refine ocondB rfl (fun h => ?_) (fun h => ?_) | refine scondP rfl (fun h => ?_) (fun h => ?_) | refine scond rfl (fun h => ?_) (fun h => ?_) | refine oskip ?_ | refine oskipb ?_ | refine oret ?_ | refine sem_ret ?_ | refine sem_seq ?_ | refine sreg1 ?_)
          ((refine sem_mgo 14 hmix (by kernel_rfl) ?_; simp only [List.take_succ_cons, List.take_zero, List.drop_succ_cons, List.drop_zero, List.take_nil, List.drop_nil]); (repeat' (first | ((first | apply mop | apply mop0); (case hg => rfl); (case hq => rfl); intro k hk; simp (disch := omega) only [ev0, sl_cells, simprocAttr, hjI, decide_false]; refine hk _ _ rfl ?_; clear hk k) | (apply mno; (case hg => rfl)) | (apply mbox; (case hx => (simp only [wv, simprocAttr] <;> rfl)); (case hg => rfl); (case hall => rfl); (case hr => rfl); simp only [cellsOf, List.length_cons, List.length_nil, Nat.reduceAdd, Nat.zero_add, List.nil_append, List.cons_append, List.set_cons_zero, List.set_cons_succ, chunks, List.take_succ_cons, List.take_zero, List.drop_succ_cons, List.drop_zero]) | (apply mbldS; (case hb => (simp (disch := omega) only [ev0, sl_cells, simprocAttr] <;> rfl)); (case hg => rfl); (case hr => rfl); simp only [cellsOf, List.length_cons, List.length_nil, Nat.reduceAdd, Nat.zero_add, List.nil_append, List.cons_append, List.set_cons_zero, List.set_cons_succ, chunks, List.take_succ_cons, List.take_zero, List.drop_succ_cons, List.drop_zero]) | ((first | (apply msto (q := 0); (case hq => rfl)) | (apply msto (q := 1); (case hq => rfl)) | (apply msto (q := 2); (case hq => rfl)) | (apply msto (q := 3); (case hq => rfl))); (case hx => (simp only [wv, simprocAttr] <;> rfl)); (case haddr => (simp only [wv, simprocAttr] <;> rfl)); (case hg => rfl); (case hl1 => rfl); (case hl2 => rfl); (case hok => rfl); (case hr => rfl); simp only [cellsOf, List.length_cons, List.length_nil, Nat.reduceAdd, Nat.zero_add, List.nil_append, List.cons_append, List.set_cons_zero, List.set_cons_succ, chunks, List.take_succ_cons, List.take_zero, List.drop_succ_cons, List.drop_zero]) | (apply mnil; simp only [SlotR.fin, List.map_cons, List.map_nil, List.cons_append, List.nil_append, List.append_nil]) | (refine msplit rfl (fun h => ?_) (fun h => ?_) <;> simp only [h] <;> (try simp only [Bool.not_eq_true', Bool.not_eq_false', decide_eq_true_eq, decide_eq_false_iff_not] at h)))) <;> (repeat' (first | ((first | refine o1 rfl ?_ | refine o0 rfl ?_); intro k hk; simp (disch := omega) only [ev0, sl_cells, simprocAttr, hjI, decide_false]; refine hk _ _ ?_; clear hk k) | refine ono rfl ?_ | ((first | refine osplitG rfl (fun h => ?_) (fun h => ?_) | refine osplitB rfl (fun h => ?_) (fun h => ?_)) <;> (fail_if_success (simp only [eq_self, reduceCtorEq] at h))) | refine onx ?_ | refine onb ?_ | refine sreg ?_ | refine qT rfl ?_ | refine qF rfl ?_ | refine scondT rfl ?_ | refine scondF rfl ?_ | refine ocondP rfl (fun h => ?_) (fun h => ?_) | refine ocondB rfl (fun h => ?_) (fun h => ?_) | refine scondP rfl (fun h => ?_) (fun h => ?_) | refine scond rfl (fun h => ?_) (fun h => ?_) | refine oskip ?_ | refine oskipb ?_ | refine oret ?_ | refine sem_ret ?_ | refine sem_seq ?_ | refine sreg1 ?_)))
          (refine sem_exit ?_; change sem _ _ _ _ _)
          repeat' (first | ((first | refine o1 rfl ?_ | refine o0 rfl ?_); intro k hk; simp (disch := omega) only [ev0, sl_cells, simprocAttr]; refine hk _ _ ?_; clear hk k) | refine ono rfl ?_ | ((first | refine osplitG rfl (fun h => ?_) (fun h => ?_) | refine osplitB rfl (fun h => ?_) (fun h => ?_)) <;> (fail_if_success (simp only [eq_self, reduceCtorEq] at h))) | refine onx ?_ | refine onb ?_ | refine sreg ?_ | refine qT rfl ?_ | refine qF rfl ?_ | refine scondT rfl ?_ | refine scondF rfl ?_ | refine ocondP rfl (fun h => ?_) (fun h => ?_) | refine ocondB rfl (fun h => ?_) (fun h => ?_) | refine scondP rfl (fun h => ?_) (fun h => ?_) | refine scond rfl (fun h => ?_) (fun h => ?_) | refine oskip ?_ | refine oskipb ?_ | refine oret ?_ | refine sem_ret ?_ | refine sem_seq ?_ | refine sreg1 ?_)
          refine onil (lnext (i + 1, L2) ⟨by simp only; omega, k2, k3, fun a b e1 e2 e3 => hd a b e1 (by have : b ≤ i + 1 := e2; omega) (by have : b ≤ i + 1 := e2; omega)⟩ (by simp only; omega) ?_)
          (refine Le.same ?_; simp only [List.forall_mem_cons, List.forall_mem_nil, getE, selE, Nat.reduceBEq, List.not_mem_nil, false_implies, implies_true, and_true, true_and, and_self])
          try simp
    · have hso : L = sortD l := by
        refine sortD_eq h3 (exc_sorted fun a b e1 e2 e3 => ?_)
        rcases Nat.lt_or_ge b L.length with hb | hb
        · exact h4 a b e1 (by omega) (by omega)
        · omega
      refine sem_exit ?_
      exact ⟨_, rfl, rfl, by rw [hso]⟩
end Go.Proofs.Ytnempffajbdneaa

/- Sorting: what stands around it; the colds of a house, the greatest first. -/
set_option linter.unusedVariables false
set_option linter.unusedSimpArgs false
set_option maxRecDepth 8000
set_option maxHeartbeats 2000000
namespace Go.Tk
open Go Go.Av
def lenB : Nat → Int
  | 0 => 0
  | 1 => 1
  | 2 => 2
  | 3 => 2
  | 4 => 3
  | 5 => 3
  | 6 => 3
  | 7 => 3
  | _ => 4
theorem wrapU : ∀ n : Nat, n ≤ 10 → IntKind.u64.wrap (n : Int) = n := by decide
end Go.Tk
namespace Go.Proofs.Ytnempffajbdneaa
open Go Go.Av Go.Tk
attribute [local irreducible] Holds sem semL ACalls FnIs
section
variable {G : World → Prop} (hG : ∀ w w', G w → RowKit.Below w.heap.size w w' → G w')
include hG
theorem bits_Len : ∀ n : Nat, n ≤ 10 → Holds Try.prog G F.math_bits_Len [.int .u64 n] (I (lenB n))
  | 0, _ => holds_match (T := T) (X := X0) (n := 3000) (kok hG (fun _ _ _ h => by cases h)) hG (fnok_of rfl) (by kernel_rfl)
  | 1, _ => holds_match (T := T) (X := X0) (n := 3000) (kok hG (fun _ _ _ h => by cases h)) hG (fnok_of rfl) (by kernel_rfl)
  | 2, _ => holds_match (T := T) (X := X0) (n := 3000) (kok hG (fun _ _ _ h => by cases h)) hG (fnok_of rfl) (by kernel_rfl)
  | 3, _ => holds_match (T := T) (X := X0) (n := 3000) (kok hG (fun _ _ _ h => by cases h)) hG (fnok_of rfl) (by kernel_rfl)
  | 4, _ => holds_match (T := T) (X := X0) (n := 3000) (kok hG (fun _ _ _ h => by cases h)) hG (fnok_of rfl) (by kernel_rfl)
  | 5, _ => holds_match (T := T) (X := X0) (n := 3000) (kok hG (fun _ _ _ h => by cases h)) hG (fnok_of rfl) (by kernel_rfl)
  | 6, _ => holds_match (T := T) (X := X0) (n := 3000) (kok hG (fun _ _ _ h => by cases h)) hG (fnok_of rfl) (by kernel_rfl)
  | 7, _ => holds_match (T := T) (X := X0) (n := 3000) (kok hG (fun _ _ _ h => by cases h)) hG (fnok_of rfl) (by kernel_rfl)
  | 8, _ => holds_match (T := T) (X := X0) (n := 3000) (kok hG (fun _ _ _ h => by cases h)) hG (fnok_of rfl) (by kernel_rfl)
  | 9, _ => holds_match (T := T) (X := X0) (n := 3000) (kok hG (fun _ _ _ h => by cases h)) hG (fnok_of rfl) (by kernel_rfl)
  | 10, _ => holds_match (T := T) (X := X0) (n := 3000) (kok hG (fun _ _ _ h => by cases h)) hG (fnok_of rfl) (by kernel_rfl)
  | n + 11, h => absurd h (by omega)
end
variable {K : Ctx} (hP : K.P = Try.prog) (hGK : ∀ w w', K.G w → RowKit.Below w.heap.size w w' → K.G w')
include hP hGK
theorem pdqsort (l : List Int) (hl : l.length ≤ 12) (g : Nat) (b : Int) :
    ACalls K F.slices_pdqsortCmpFunc_int [.hsl 0 g 1 l.length, I 0, I l.length, I b, .fn (.func F.cool_sorted_int_1) [] []] [.row 3 g 1 (rowL intCs l)] fun ae ν => ae = .ret (.tup []) ∧ ν = [.row 3 g 1 (rowL intCs (sortD l))] := by
  have hins := insertion hP hGK l hl g
  obtain ⟨P, w0, S0, G, hG0⟩ := K
  simp only at hP hGK
  subst hP
  refine acalls_of_sem fn_slices_pdqsortCmpFunc_int (by simp) fun D => ?_
  unfold c_slices_pdqsortCmpFunc_int cval enterEnv
  simp only [List.zipIdx_cons, List.zipIdx_nil, List.map_cons, List.map_nil, Nat.zero_add, Nat.reduceAdd]
  repeat' (first | ((first | refine o1 rfl ?_ | refine o0 rfl ?_); intro k hk; simp (disch := omega) only [ev0, sl_cells, simprocAttr]; refine hk _ _ ?_; clear hk k) | refine ono rfl ?_ | ((first | refine osplitG rfl (fun h => ?_) (fun h => ?_) | refine osplitB rfl (fun h => ?_) (fun h => ?_)) <;> (fail_if_success (simp only [eq_self, reduceCtorEq] at h))) | refine onx ?_ | refine onb ?_ | refine sreg ?_ | refine qT rfl ?_ | refine qF rfl ?_ | refine scondT rfl ?_ | refine scondF rfl ?_ | refine ocondP rfl (fun h => ?_) (fun h => ?_) | refine ocondB rfl (fun h => ?_) (fun h => ?_) | refine scondP rfl (fun h => ?_) (fun h => ?_) | refine scond rfl (fun h => ?_) (fun h => ?_) | refine oskip ?_ | refine oskipb ?_ | refine oret ?_ | refine sem_ret ?_ | refine sem_seq ?_ | refine sreg1 ?_)
  refine sem_block ?_
  
  refine sem_loop (α := Unit) (fun _ => ⟨[(0, .hsl 0 g 1 l.length), (1, I 0), (2, I l.length), (3, I b), (4, .fn (.func F.cool_sorted_int_1) [] []), (10, B true), (11, B true)], [.row 3 g 1 (rowL intCs l)]⟩) (fun _ => True) (fun _ => 0) () trivial ?_ ?_
  · (refine Le.same ?_; simp only [List.forall_mem_cons, List.forall_mem_nil, getE, selE, Nat.reduceBEq, List.not_mem_nil, false_implies, implies_true, and_true, true_and, and_self])
  · intro _ _
    refine sem_block ?_
    repeat' (first | ((first | refine o1 rfl ?_ | refine o0 rfl ?_); intro k hk; simp (disch := omega) only [ev0, sl_cells, simprocAttr]; refine hk _ _ ?_; clear hk k) | refine ono rfl ?_ | ((first | refine osplitG rfl (fun h => ?_) (fun h => ?_) | refine osplitB rfl (fun h => ?_) (fun h => ?_)) <;> (fail_if_success (simp only [eq_self, reduceCtorEq] at h))) | refine onx ?_ | refine onb ?_ | refine sreg ?_ | refine qT rfl ?_ | refine qF rfl ?_ | refine scondT rfl ?_ | refine scondF rfl ?_ | refine ocondP rfl (fun h => ?_) (fun h => ?_) | refine ocondB rfl (fun h => ?_) (fun h => ?_) | refine scondP rfl (fun h => ?_) (fun h => ?_) | refine scond rfl (fun h => ?_) (fun h => ?_) | refine oskip ?_ | refine oskipb ?_ | refine oret ?_ | refine sem_ret ?_ | refine sem_seq ?_ | refine sreg1 ?_)
    · refine semL_acall rfl hins fun ae μ hr => ?_
      obtain ⟨rfl, rfl⟩ := hr
      change semL _ _ _ ⟨_, _⟩ _
      repeat' (first | ((first | refine o1 rfl ?_ | refine o0 rfl ?_); intro k hk; simp (disch := omega) only [ev0, sl_cells, simprocAttr]; refine hk _ _ ?_; clear hk k) | refine ono rfl ?_ | ((first | refine osplitG rfl (fun h => ?_) (fun h => ?_) | refine osplitB rfl (fun h => ?_) (fun h => ?_)) <;> (fail_if_success (simp only [eq_self, reduceCtorEq] at h))) | refine onx ?_ | refine onb ?_ | refine sreg ?_ | refine qT rfl ?_ | refine qF rfl ?_ | refine scondT rfl ?_ | refine scondF rfl ?_ | refine ocondP rfl (fun h => ?_) (fun h => ?_) | refine ocondB rfl (fun h => ?_) (fun h => ?_) | refine scondP rfl (fun h => ?_) (fun h => ?_) | refine scond rfl (fun h => ?_) (fun h => ?_) | refine oskip ?_ | refine oskipb ?_ | refine oret ?_ | refine sem_ret ?_ | refine sem_seq ?_ | refine sreg1 ?_)
      exact ⟨_, rfl, rfl, rfl⟩
    all_goals (exfalso; (try simp only [Bool.not_eq_true', Bool.not_eq_false', decide_eq_true_eq, decide_eq_false_iff_not, ne_eq, Decidable.not_not] at *); first | omega | contradiction | (simp only [*, Bool.true_eq_false, Bool.false_eq_true] at *; done))
theorem sortFunc (l : List Int) (hl : l.length ≤ 10) (g : Nat) :
    ACalls K F.slices_SortFunc_int [.hsl 0 g 1 l.length, .fn (.func F.cool_sorted_int_1) [] []] [.row 3 g 1 (rowL intCs l)] fun ae ν => ae = .ret (.tup []) ∧ ν = [.row 3 g 1 (rowL intCs (sortD l))] := by
  have hpd := pdqsort hP hGK l (by omega) g (lenB l.length)
  obtain ⟨P, w0, S0, G, hG0⟩ := K
  simp only at hP hGK
  subst hP
  refine acalls_of_sem fn_slices_SortFunc_int (by simp) fun D => ?_
  unfold c_slices_SortFunc_int cval enterEnv
  simp only [List.zipIdx_cons, List.zipIdx_nil, List.map_cons, List.map_nil, Nat.zero_add, Nat.reduceAdd]
  have hwu := wrapU _ hl
  repeat' (first | ((first | refine o1 rfl ?_ | refine o0 rfl ?_); intro k hk; simp (disch := omega) only [ev0, sl_cells, simprocAttr, rowL_len, hwu]; refine hk _ _ ?_; clear hk k) | refine ono rfl ?_ | (apply ocall; (case he => (simp only [ev0, sl_cells, simprocAttr] <;> rfl)); (case hc => first | exact bits_Len hGK l.length hl); (case ht => rfl); (case hg => rfl)) | ((first | refine osplitG rfl (fun h => ?_) (fun h => ?_) | refine osplitB rfl (fun h => ?_) (fun h => ?_)) <;> (fail_if_success (simp only [eq_self, reduceCtorEq] at h))) | refine onx ?_ | refine onb ?_ | refine sreg ?_ | refine qT rfl ?_ | refine qF rfl ?_ | refine scondT rfl ?_ | refine scondF rfl ?_ | refine ocondP rfl (fun h => ?_) (fun h => ?_) | refine ocondB rfl (fun h => ?_) (fun h => ?_) | refine scondP rfl (fun h => ?_) (fun h => ?_) | refine scond rfl (fun h => ?_) (fun h => ?_) | refine oskip ?_ | refine oskipb ?_ | refine oret ?_ | refine sem_ret ?_ | refine sem_seq ?_ | refine sreg1 ?_)
  refine semL_acall rfl hpd fun ae μ hr => ?_
  obtain ⟨rfl, rfl⟩ := hr
  change semL _ _ _ ⟨_, _⟩ _
  exact onil ⟨_, rfl, rfl, rfl⟩
end Go.Proofs.Ytnempffajbdneaa

/- The colds of a house, the greatest first. -/
set_option linter.unusedVariables false
set_option linter.unusedSimpArgs false
set_option maxRecDepth 8000
set_option maxHeartbeats 2000000
namespace Go.Tk
open Go Go.Av
abbrev ES := List (AV × AV)
/-- A town with coolers that were bought: what is kept, and the town, the coolers. -/
abbrev buyM (t : CoolTown) (m : Nat) (es : ES) : List AObj := [.map es, .row 96 0 4 [[slOf CoolHouse.cs t.houses, slOf CoolSite.cs t.sites, I m, .mp 0]]]
def boolE (es : ES) : Prop := ∀ p ∈ es, ∃ b, p.2 = .bool b
theorem boolE.ref {es : ES} (h : boolE es) (k : Nat) : es.all (fun p => refA k p.2) = true := List.all_eq_true.2 fun p hp => by
  obtain ⟨b, hb⟩ := h p hp
  rw [hb]; rfl
theorem boolE.frz {es : ES} (h : boolE es) {id g sz n : Nat} {F : Nat → List AV} : es.map (fun p => (p.1, frzA id g sz n F p.2)) = es := by
  conv => rhs; rw [← List.map_id es]
  refine List.map_congr_left fun p hp => ?_
  obtain ⟨b, hb⟩ := h p hp
  obtain ⟨k, v⟩ := p
  simp only at hb
  subst hb
  rfl
theorem boolE.ren {es : ES} (h : boolE es) {g : Nat → Nat} : es.map (fun p => (p.1, renA g p.2)) = es := by
  conv => rhs; rw [← List.map_id es]
  refine List.map_congr_left fun p hp => ?_
  obtain ⟨b, hb⟩ := h p hp
  obtain ⟨k, v⟩ := p
  simp only at hb
  subst hb
  rfl
theorem boolE.inn {es : ES} (h : boolE es) {q : Nat → Bool} : es.all (fun p => inA q p.2) = true := List.all_eq_true.2 fun p hp => by
  obtain ⟨b, hb⟩ := h p hp
  rw [hb]; rfl
def lowOf (t : CoolTown) (y : Nat) (i : Int) : Int := ((t.sites.getD i.toNat default).gives.getD y default).low
theorem lowOf_bound {t : CoolTown} (ht : t.ok) {y : Nat} (hy : y < t.houses.length) {i : Int} (hi : 0 ≤ i ∧ i < t.sites.length) : 0 ≤ lowOf t y i ∧ lowOf t y i ≤ 1000000 := by
  obtain ⟨a, b, c, d⟩ := all_getD.1 ht.2.2.2 i.toNat (by omega)
  obtain ⟨e, f, g⟩ := all_getD.1 d y (by omega)
  unfold lowOf
  omega
theorem ren_rowI {g : Nat → Nat} {l : List Int} : (rowL intCs l).map (renL g) = rowL intCs l := by
  unfold rowL
  rw [List.map_map]
  exact List.map_congr_left fun a _ => rfl
theorem in_rowI {q : Nat → Bool} {l : List Int} : (rowL intCs l).all (inL q) = true := List.all_eq_true.2 fun x hx => by
  obtain ⟨a, _, rfl⟩ := List.mem_map.1 hx
  rfl
def coldsL (t : CoolTown) (y : Nat) (c : Nat) : List Int := sortD ((listB c).map (lowOf t y))
end Go.Tk
namespace Go.Proofs.Ytnempffajbdneaa
open Go Go.Av Go.Tk
attribute [local irreducible] Holds sem semL ACalls FnIs
variable {K : Ctx} (hP : K.P = Try.prog) (hGK : ∀ w w', K.G w → RowKit.Below w.heap.size w w' → K.G w')
include hP hGK
theorem colds_1 (t : CoolTown) (ht : t.ok) (m : Nat) (es : ES) (y : Nat) (hy : y < t.houses.length) (n : Nat) (hn : n < t.sites.length) :
    ACalls K F.cool_bought_colds_1 [I n, .ptr 2 0 1 0 0, .ptr 3 0 1 0 0] (buyM t m es ++ [.row 90 0 1 [[.ptr 1 0 4 0 0]], .row 3 0 1 [[I y]]]) fun ae ν => ae = .ret (I (lowOf t y n)) ∧ ν = buyM t m es ++ [.row 90 0 1 [[.ptr 1 0 4 0 0]], .row 3 0 1 [[I y]]] := by
  have hgl : (t.sites.getD n default).gives.length = t.houses.length := (all_getD.1 ht.2.2.2 n hn).2.2.1
  obtain ⟨P, w0, S0, G, hG0⟩ := K
  simp only at hP hGK
  subst hP
  refine acalls_of_sem fn_cool_bought_colds_1 (by simp) fun D => ?_
  unfold c_cool_bought_colds_1 cval enterEnv buyM
  simp only [List.zipIdx_cons, List.zipIdx_nil, List.map_cons, List.map_nil, Nat.zero_add, Nat.reduceAdd, List.cons_append, List.nil_append]
  repeat' (first | ((first | refine o1 rfl ?_ | refine o0 rfl ?_); intro k hk; simp (disch := omega) only [ev0, sl_cells, simprocAttr]; refine hk _ _ ?_; clear hk k) | refine ono rfl ?_ | ((first | refine osplitG rfl (fun h => ?_) (fun h => ?_) | refine osplitB rfl (fun h => ?_) (fun h => ?_)) <;> (fail_if_success (simp only [eq_self, reduceCtorEq] at h))) | refine onx ?_ | refine onb ?_ | refine sreg ?_ | refine qT rfl ?_ | refine qF rfl ?_ | refine scondT rfl ?_ | refine scondF rfl ?_ | refine ocondP rfl (fun h => ?_) (fun h => ?_) | refine ocondB rfl (fun h => ?_) (fun h => ?_) | refine scondP rfl (fun h => ?_) (fun h => ?_) | refine scond rfl (fun h => ?_) (fun h => ?_) | refine oskip ?_ | refine oskipb ?_ | refine oret ?_ | refine sem_ret ?_ | refine sem_seq ?_ | refine sreg1 ?_)
  ((refine sem_mgo 10 hmix (by kernel_rfl) ?_; simp only [List.take_succ_cons, List.take_zero, List.drop_succ_cons, List.drop_zero, List.take_nil, List.drop_nil]); (repeat' (first | ((first | apply mop | apply mop0); (case hg => rfl); (case hq => rfl); intro k hk; simp (disch := omega) only [ev0, sl_cells, simprocAttr, slOf, CoolSite.cs, Span.cs]; refine hk _ _ rfl ?_; clear hk k) | (apply mno; (case hg => rfl)) | (apply mbox; (case hx => (simp only [wv, simprocAttr] <;> rfl)); (case hg => rfl); (case hall => rfl); (case hr => rfl); simp only [cellsOf, List.length_cons, List.length_nil, Nat.reduceAdd, Nat.zero_add, List.nil_append, List.cons_append, List.set_cons_zero, List.set_cons_succ, chunks, List.take_succ_cons, List.take_zero, List.drop_succ_cons, List.drop_zero]) | (apply mbldS; (case hb => (simp (disch := omega) only [ev0, sl_cells, simprocAttr] <;> rfl)); (case hg => rfl); (case hr => rfl); simp only [cellsOf, List.length_cons, List.length_nil, Nat.reduceAdd, Nat.zero_add, List.nil_append, List.cons_append, List.set_cons_zero, List.set_cons_succ, chunks, List.take_succ_cons, List.take_zero, List.drop_succ_cons, List.drop_zero]) | ((first | (apply msto (q := 0); (case hq => rfl)) | (apply msto (q := 1); (case hq => rfl)) | (apply msto (q := 2); (case hq => rfl)) | (apply msto (q := 3); (case hq => rfl))); (case hx => (simp only [wv, simprocAttr] <;> rfl)); (case haddr => (simp only [wv, simprocAttr] <;> rfl)); (case hg => rfl); (case hl1 => rfl); (case hl2 => rfl); (case hok => rfl); (case hr => rfl); simp only [cellsOf, List.length_cons, List.length_nil, Nat.reduceAdd, Nat.zero_add, List.nil_append, List.cons_append, List.set_cons_zero, List.set_cons_succ, chunks, List.take_succ_cons, List.take_zero, List.drop_succ_cons, List.drop_zero]) | (apply mnil; simp only [SlotR.fin, List.map_cons, List.map_nil, List.cons_append, List.nil_append, List.append_nil]) | (refine msplit rfl (fun h => ?_) (fun h => ?_) <;> simp only [h] <;> (try simp only [Bool.not_eq_true', Bool.not_eq_false', decide_eq_true_eq, decide_eq_false_iff_not] at h)))) <;> (repeat' (first | ((first | refine o1 rfl ?_ | refine o0 rfl ?_); intro k hk; simp (disch := omega) only [ev0, sl_cells, simprocAttr, slOf, CoolSite.cs, Span.cs]; refine hk _ _ ?_; clear hk k) | refine ono rfl ?_ | ((first | refine osplitG rfl (fun h => ?_) (fun h => ?_) | refine osplitB rfl (fun h => ?_) (fun h => ?_)) <;> (fail_if_success (simp only [eq_self, reduceCtorEq] at h))) | refine onx ?_ | refine onb ?_ | refine sreg ?_ | refine qT rfl ?_ | refine qF rfl ?_ | refine scondT rfl ?_ | refine scondF rfl ?_ | refine ocondP rfl (fun h => ?_) (fun h => ?_) | refine ocondB rfl (fun h => ?_) (fun h => ?_) | refine scondP rfl (fun h => ?_) (fun h => ?_) | refine scond rfl (fun h => ?_) (fun h => ?_) | refine oskip ?_ | refine oskipb ?_ | refine oret ?_ | refine sem_ret ?_ | refine sem_seq ?_ | refine sreg1 ?_)))
  exact ⟨_, rfl, rfl, rfl⟩

theorem sorted_int (t : CoolTown) (ht : t.ok) (m : Nat) (es : ES) (hbe : boolE es) (y : Nat) (hy : y < t.houses.length) (l : List Int) (hl : l.length ≤ 10) (hlb : ∀ i ∈ l, 0 ≤ i ∧ i < t.sites.length) :
    ACalls K F.cool_sorted_int [slOf intCs l, .fn (.func F.cool_bought_colds_1) [] [.ptr 2 0 1 0 0, .ptr 3 0 1 0 0]] (buyM t m es ++ [.row 90 0 1 [[.ptr 1 0 4 0 0]], .row 3 0 1 [[I y]]])
      fun ae ν => ae = .ret (slOf intCs (sortD (l.map (lowOf t y)))) ∧ ν = buyM t m es ++ [.row 90 0 1 [[.ptr 1 0 4 0 0]], .row 3 0 1 [[I y]]] := by
  have hes := hbe.ref
  have hc1 := colds_1 hP hGK t ht m es y hy
  have hsf := sortFunc hP hGK (l.map (lowOf t y)) (by simpa using hl)
  obtain ⟨P, w0, S0, G, hG0⟩ := K
  simp only at hP hGK
  subst hP
  refine ACalls.drop (acalls_of_sem fn_cool_sorted_int (by simp) fun D => ?_) rfl (by simp [refM, refO, refA, refL, hes, slOf])
  unfold c_cool_sorted_int cval enterEnv buyM
  simp only [List.zipIdx_cons, List.zipIdx_nil, List.map_cons, List.map_nil, Nat.zero_add, Nat.reduceAdd, List.cons_append, List.nil_append]
  repeat' (first | ((first | refine o1 rfl ?_ | refine o0 rfl ?_); intro k hk; simp (disch := omega) only [ev0, sl_cells, simprocAttr]; refine hk _ _ ?_; clear hk k) | refine ono rfl ?_ | ((first | refine osplitG rfl (fun h => ?_) (fun h => ?_) | refine osplitB rfl (fun h => ?_) (fun h => ?_)) <;> (fail_if_success (simp only [eq_self, reduceCtorEq] at h))) | refine onx ?_ | refine onb ?_ | refine sreg ?_ | refine qT rfl ?_ | refine qF rfl ?_ | refine scondT rfl ?_ | refine scondF rfl ?_ | refine ocondP rfl (fun h => ?_) (fun h => ?_) | refine ocondB rfl (fun h => ?_) (fun h => ?_) | refine scondP rfl (fun h => ?_) (fun h => ?_) | refine scond rfl (fun h => ?_) (fun h => ?_) | refine oskip ?_ | refine oskipb ?_ | refine oret ?_ | refine sem_ret ?_ | refine sem_seq ?_ | refine sreg1 ?_)
  refine sem_block ?_
  (refine sem_ghost 5 3 1 rfl ?_; simp only [List.length_cons, List.length_nil, Nat.reduceAdd, Nat.zero_add, List.cons_append, List.nil_append])
  
  refine sem_loop (α := Nat) (fun i => ⟨[(1, .fn (.func F.cool_bought_colds_1) [] [.ptr 2 0 1 0 0, .ptr 3 0 1 0 0]), (5, .hsl 4 ((l.take i).map (lowOf t y)).length 1 ((l.take i).map (lowOf t y)).length), (8, slOf intCs l), (9, I l.length), (10, I i)], buyM t m es ++ [.row 90 0 1 [[.ptr 1 0 4 0 0]], .row 3 0 1 [[I y]], .row 3 ((l.take i).map (lowOf t y)).length 1 (rowL intCs ((l.take i).map (lowOf t y)))]⟩) (fun i => i ≤ l.length) (fun i => l.length - i) 0 (Nat.zero_le _) ?_ ?_
  · (refine Le.same ?_; simp only [List.forall_mem_cons, List.forall_mem_nil, getE, selE, Nat.reduceBEq, List.not_mem_nil, false_implies, implies_true, and_true, true_and, and_self])
    simp [slOf]
  · intro i hi
    have hLl : ((l.take i).map (lowOf t y)).length ≤ 1000 := by rw [List.length_map, List.length_take]; omega
    have hs := fun h : i < l.length => map_take_getD (lowOf t y) h
    generalize hL : (l.take i).map (lowOf t y) = L at *
    repeat' (first | ((first | refine o1 rfl ?_ | refine o0 rfl ?_); intro k hk; simp (disch := omega) only [ev0, sl_cells, simprocAttr, slOf]; refine hk _ _ ?_; clear hk k) | refine ono rfl ?_ | ((first | refine osplitG rfl (fun h => ?_) (fun h => ?_) | refine osplitB rfl (fun h => ?_) (fun h => ?_)) <;> (fail_if_success (simp only [eq_self, reduceCtorEq] at h))) | refine onx ?_ | refine onb ?_ | refine sreg ?_ | refine qT rfl ?_ | refine qF rfl ?_ | refine scondT rfl ?_ | refine scondF rfl ?_ | refine ocondP rfl (fun h => ?_) (fun h => ?_) | refine ocondB rfl (fun h => ?_) (fun h => ?_) | refine scondP rfl (fun h => ?_) (fun h => ?_) | refine scond rfl (fun h => ?_) (fun h => ?_) | refine oskip ?_ | refine oskipb ?_ | refine oret ?_ | refine sem_ret ?_ | refine sem_seq ?_ | refine sreg1 ?_)
    · have hi' : i < l.length := by omega
      have hb := hlb (l.getD i default) (by rw [getD_lt hi']; exact List.getElem_mem _)
      replace hs := hs hi'
      have e1 := rowL_take (enc := intCs) (l := L)
      obtain ⟨n, hn'⟩ := Int.eq_ofNat_of_zero_le hb.1
      generalize hwv : l.getD i default = v at *
      subst hn'
      have hnl : n < t.sites.length := by omega
      refine sem_block ?_
      repeat' (first | ((first | refine o1 rfl ?_ | refine o0 rfl ?_); intro k hk; simp (disch := omega) only [ev0, sl_cells, simprocAttr, slOf, intCs, hwv]; refine hk _ _ ?_; clear hk k) | refine ono rfl ?_ | ((first | refine osplitG rfl (fun h => ?_) (fun h => ?_) | refine osplitB rfl (fun h => ?_) (fun h => ?_)) <;> (fail_if_success (simp only [eq_self, reduceCtorEq] at h))) | refine onx ?_ | refine onb ?_ | refine sreg ?_ | refine qT rfl ?_ | refine qF rfl ?_ | refine scondT rfl ?_ | refine scondF rfl ?_ | refine ocondP rfl (fun h => ?_) (fun h => ?_) | refine ocondB rfl (fun h => ?_) (fun h => ?_) | refine scondP rfl (fun h => ?_) (fun h => ?_) | refine scond rfl (fun h => ?_) (fun h => ?_) | refine oskip ?_ | refine oskipb ?_ | refine oret ?_ | refine sem_ret ?_ | refine sem_seq ?_ | refine sreg1 ?_)
      have hcall := (hc1 n hnl).frame (es := [.row 3 L.length 1 (rowL intCs L)]) rfl (by simp [refM, refO, refA, refL, hes, slOf]) (by simp [refO, rowL_all (enc := intCs) (fun _ _ => rfl)]) rfl
      refine semL_dyn (R := fun ae μ => ae = .ret (I (lowOf t y n)) ∧ μ = buyM t m es ++ [.row 90 0 1 [[.ptr 1 0 4 0 0]], .row 3 0 1 [[I y]], .row 3 L.length 1 (rowL intCs L)]) rfl rfl (by exact hcall) fun ae μ hr => ?_
      obtain ⟨rfl, rfl⟩ := hr
      change semL _ _ _ ⟨(_, _) :: _, _⟩ _
      simp only [buyM, List.cons_append, List.nil_append]
      repeat' (first | ((first | refine o1 rfl ?_ | refine o0 rfl ?_); intro k hk; simp (disch := omega) only [ev0, sl_cells, simprocAttr]; refine hk _ _ ?_; clear hk k) | refine ono rfl ?_ | ((first | refine osplitG rfl (fun h => ?_) (fun h => ?_) | refine osplitB rfl (fun h => ?_) (fun h => ?_)) <;> (fail_if_success (simp only [eq_self, reduceCtorEq] at h))) | refine onx ?_ | refine onb ?_ | refine sreg ?_ | refine qT rfl ?_ | refine qF rfl ?_ | refine scondT rfl ?_ | refine scondF rfl ?_ | refine ocondP rfl (fun h => ?_) (fun h => ?_) | refine ocondB rfl (fun h => ?_) (fun h => ?_) | refine scondP rfl (fun h => ?_) (fun h => ?_) | refine scond rfl (fun h => ?_) (fun h => ?_) | refine oskip ?_ | refine oskipb ?_ | refine oret ?_ | refine sem_ret ?_ | refine sem_seq ?_ | refine sreg1 ?_)
      refine onil (lnext (i + 1) (by omega) (by omega) ?_)
      rw [hs, e1, show [[AV.int .i64 (lowOf t y n)]] = [intCs (lowOf t y n)] from rfl, rowL_snoc, List.length_append]
      (refine Le.drop ?_ rfl (by simp) rfl (by simp only [refM, refO, List.all_cons, List.all_nil, Bool.and_true, Bool.true_and, rowL_all (enc := intCs) (fun _ _ => rfl), hes, refL, refA]; first | done | rfl) ; simp only [List.forall_mem_cons, List.forall_mem_nil, getE, selE, Nat.reduceBEq, List.not_mem_nil, false_implies, implies_true, and_true, true_and, and_self])
      simp [slOf]
    · have hi' : i = l.length := by omega
      subst hi'
      rw [List.take_length] at hL
      subst hL
      (refine sem_exit ?_; change sem _ _ _ _ _)
      repeat' (first | ((first | refine o1 rfl ?_ | refine o0 rfl ?_); intro k hk; simp (disch := omega) only [ev0, sl_cells, simprocAttr]; refine hk _ _ ?_; clear hk k) | refine ono rfl ?_ | ((first | refine osplitG rfl (fun h => ?_) (fun h => ?_) | refine osplitB rfl (fun h => ?_) (fun h => ?_)) <;> (fail_if_success (simp only [eq_self, reduceCtorEq] at h))) | refine onx ?_ | refine onb ?_ | refine sreg ?_ | refine qT rfl ?_ | refine qF rfl ?_ | refine scondT rfl ?_ | refine scondF rfl ?_ | refine ocondP rfl (fun h => ?_) (fun h => ?_) | refine ocondB rfl (fun h => ?_) (fun h => ?_) | refine scondP rfl (fun h => ?_) (fun h => ?_) | refine scond rfl (fun h => ?_) (fun h => ?_) | refine oskip ?_ | refine oskipb ?_ | refine oret ?_ | refine sem_ret ?_ | refine sem_seq ?_ | refine sreg1 ?_)
      generalize hL : l.map (lowOf t y) = L at *
      have hLn : L.length = l.length := by rw [← hL, List.length_map]
      have hcall := (hsf L.length).placed (μ2 := buyM t m es ++ [.row 90 0 1 [[.ptr 1 0 4 0 0]], .row 3 0 1 [[I y]], .row 3 L.length 1 (rowL intCs L)]) (args2 := [.hsl 4 L.length 1 L.length, .fn (.func F.cool_sorted_int_1) [] []]) [4]
        (by simp [placeOK, inO, in_rowI]) (by show [AObj.row 3 L.length 1 ((rowL intCs L).map (renL (backOf [4])))] = _; rw [ren_rowI]) rfl rfl
      refine semL_acall rfl (by exact hcall) fun ae μ hr => ?_
      obtain ⟨_, _, ⟨rfl, rfl⟩, rfl, rfl⟩ := hr
      have hput : putL [4] (buyM t m es ++ [.row 90 0 1 [[.ptr 1 0 4 0 0]], .row 3 0 1 [[I y]], .row 3 L.length 1 (rowL intCs L)]) [.row 3 L.length 1 (rowL intCs (sortD L))] = [.map es, .row 96 0 4 [[slOf CoolHouse.cs t.houses, slOf CoolSite.cs t.sites, I m, .mp 0]], .row 90 0 1 [[.ptr 1 0 4 0 0]], .row 3 0 1 [[I y]], .row 3 L.length 1 (rowL intCs (sortD L))] := by
        show [.map es, .row 96 0 4 [[slOf CoolHouse.cs t.houses, slOf CoolSite.cs t.sites, I m, .mp 0]], .row 90 0 1 [[.ptr 1 0 4 0 0]], .row 3 0 1 [[I y]], AObj.row 3 L.length 1 ((rowL intCs (sortD L)).map (renL (posOf [4] 5)))] = _
        rw [ren_rowI]
      simp only [renEnd, renA, renL]
      rw [hput]
      change semL _ _ _ ⟨(_, _) :: _, _⟩ _
      have hlS : (sortD L).length = L.length := (sortD_perm L).length_eq
      rw [← hlS]
      (refine semL_frzlist (enc := intCs) (l := sortD L) 4 rfl (fun _ => rfl) ?_; simp only [frzE, frzM, frzA, frzL, frzO, frz_sl, List.map_cons, List.map_nil, List.set_cons_zero, List.set_cons_succ, Nat.reduceEqDiff, if_true, if_false, and_self, Nat.reduceLT, Nat.reduceLeDiff, reduceIte, Nat.le_refl, List.length_cons, List.length_nil, Nat.zero_add, Nat.reduceAdd, frz_house, frz_csite])
      rw [hbe.frz]
      repeat' (first | ((first | refine o1 rfl ?_ | refine o0 rfl ?_); intro k hk; simp (disch := omega) only [ev0, sl_cells, simprocAttr]; refine hk _ _ ?_; clear hk k) | refine ono rfl ?_ | ((first | refine osplitG rfl (fun h => ?_) (fun h => ?_) | refine osplitB rfl (fun h => ?_) (fun h => ?_)) <;> (fail_if_success (simp only [eq_self, reduceCtorEq] at h))) | refine onx ?_ | refine onb ?_ | refine sreg ?_ | refine qT rfl ?_ | refine qF rfl ?_ | refine scondT rfl ?_ | refine scondF rfl ?_ | refine ocondP rfl (fun h => ?_) (fun h => ?_) | refine ocondB rfl (fun h => ?_) (fun h => ?_) | refine scondP rfl (fun h => ?_) (fun h => ?_) | refine scond rfl (fun h => ?_) (fun h => ?_) | refine oskip ?_ | refine oskipb ?_ | refine oret ?_ | refine sem_ret ?_ | refine sem_seq ?_ | refine sreg1 ?_)
      exact ⟨_, rfl, rfl, rfl, by simp⟩

theorem bought_colds (t : CoolTown) (ht : t.ok) (m : Nat) (es : ES) (hbe : boolE es) (y : Nat) (hy : y < t.houses.length) (c : Nat) (hc : c < 2 ^ t.sites.length) :
    ACalls K F.cool_bought_colds [.ptr 1 0 4 0 0, I y, I c] (buyM t m es) fun ae ν => ae = .ret (slOf intCs (coldsL t y c)) ∧ ν = buyM t m es := by
  have hc2 : c < 1024 := Nat.lt_of_lt_of_le hc (show 2 ^ t.sites.length ≤ 2 ^ 10 from Nat.pow_le_pow_right (by omega) ht.2.1.2)
  have hes := hbe.ref
  have hso := sorted_int hP hGK t ht m es hbe y hy (listB c) (listB_len c) (fun i hi => by
    obtain ⟨n, rfl, h1, h2⟩ := listB_mem.1 hi
    refine ⟨by omega, ?_⟩
    have : n < t.sites.length := by
      rcases Nat.lt_or_ge n t.sites.length with h | h
      · exact h
      · rw [Nat.testBit_lt_two_pow (Nat.lt_of_lt_of_le hc (Nat.pow_le_pow_right (by omega) h))] at h2
        cases h2
    omega)
  obtain ⟨P, w0, S0, G, hG0⟩ := K
  simp only at hP hGK
  subst hP
  refine ACalls.drop (acalls_of_sem fn_cool_bought_colds (by simp) fun D => ?_) rfl (by simp [refM, refO, refA, refL, hes, slOf])
  unfold c_cool_bought_colds cval enterEnv buyM
  simp only [List.zipIdx_cons, List.zipIdx_nil, List.map_cons, List.map_nil, Nat.zero_add, Nat.reduceAdd, List.cons_append, List.nil_append]
  repeat' (first | ((first | refine o1 rfl ?_ | refine o0 rfl ?_); intro k hk; simp (disch := omega) only [ev0, sl_cells, simprocAttr]; refine hk _ _ ?_; clear hk k) | refine ono rfl ?_ | (apply ocall; (case he => (simp only [ev0, sl_cells, simprocAttr] <;> rfl)); (case hc => first | exact cool_set_list hGK c hc2); (case ht => rfl); (case hg => rfl)) | ((first | refine osplitG rfl (fun h => ?_) (fun h => ?_) | refine osplitB rfl (fun h => ?_) (fun h => ?_)) <;> (fail_if_success (simp only [eq_self, reduceCtorEq] at h))) | refine onx ?_ | refine onb ?_ | refine sreg ?_ | refine qT rfl ?_ | refine qF rfl ?_ | refine scondT rfl ?_ | refine scondF rfl ?_ | refine ocondP rfl (fun h => ?_) (fun h => ?_) | refine ocondB rfl (fun h => ?_) (fun h => ?_) | refine scondP rfl (fun h => ?_) (fun h => ?_) | refine scond rfl (fun h => ?_) (fun h => ?_) | refine oskip ?_ | refine oskipb ?_ | refine oret ?_ | refine sem_ret ?_ | refine sem_seq ?_ | refine sreg1 ?_)
  refine semL_acall rfl (by exact hso) fun ae μ hr => ?_
  obtain ⟨rfl, rfl⟩ := hr
  change semL _ _ _ ⟨(_, _) :: _, _⟩ _
  repeat' (first | ((first | refine o1 rfl ?_ | refine o0 rfl ?_); intro k hk; simp (disch := omega) only [ev0, sl_cells, simprocAttr]; refine hk _ _ ?_; clear hk k) | refine ono rfl ?_ | ((first | refine osplitG rfl (fun h => ?_) (fun h => ?_) | refine osplitB rfl (fun h => ?_) (fun h => ?_)) <;> (fail_if_success (simp only [eq_self, reduceCtorEq] at h))) | refine onx ?_ | refine onb ?_ | refine sreg ?_ | refine qT rfl ?_ | refine qF rfl ?_ | refine scondT rfl ?_ | refine scondF rfl ?_ | refine ocondP rfl (fun h => ?_) (fun h => ?_) | refine ocondB rfl (fun h => ?_) (fun h => ?_) | refine scondP rfl (fun h => ?_) (fun h => ?_) | refine scond rfl (fun h => ?_) (fun h => ?_) | refine oskip ?_ | refine oskipb ?_ | refine oret ?_ | refine sem_ret ?_ | refine sem_seq ?_ | refine sreg1 ?_)
  exact ⟨_, rfl, rfl, rfl, by simp⟩
end Go.Proofs.Ytnempffajbdneaa
