/- The law CoolMended over trees. -/
import Derived.Test.YtnempffajbdneaaPC48
set_option linter.unusedVariables false
set_option linter.unusedSimpArgs false
set_option maxRecDepth 8000
set_option maxHeartbeats 4000000
namespace Go.Proofs.Ytnempffajbdneaa
open Go Go.Av Go.Tk
attribute [local irreducible] Holds sem semL ACalls FnIs levelB levM ordS goodB
section
variable {K : Ctx} (hP : K.P = Try.prog) (hGK : ∀ w w', K.G w → RowKit.Below w.heap.size w w' → K.G w')
include hP hGK
theorem WithoutO (l failed : List Int) (hl : l.length ≤ 1000) (hf : failed.length ≤ 1000) : ACalls K F.ref03_Without [slOf intCs l, slOf intCs failed] [] fun ae ν => ae = .ret (.hsl 0 (withoutL l failed).length 1 (withoutL l failed).length) ∧ ν = [.row 3 (withoutL l failed).length 1 (rowL intCs (withoutL l failed))] := by
  obtain ⟨P, w0, S0, G, hG0⟩ := K
  simp only at hP hGK
  subst hP
  refine acalls_of_sem fn_ref03_Without (by simp) fun D => ?_
  unfold c_ref03_Without cval enterEnv
  simp only [List.zipIdx_cons, List.zipIdx_nil, List.map_cons, List.map_nil, Nat.zero_add, Nat.reduceAdd]
  repeat' (first | ((first | refine o1 rfl ?_ | refine o0 rfl ?_); intro k hk; simp (disch := omega) only [ev0, sl_cells, simprocAttr]; refine hk _ _ ?_; clear hk k) | refine ono rfl ?_ | ((first | refine osplitG rfl (fun h => ?_) (fun h => ?_) | refine osplitB rfl (fun h => ?_) (fun h => ?_)) <;> (fail_if_success (simp only [eq_self, reduceCtorEq] at h))) | refine onx ?_ | refine onb ?_ | refine sreg ?_ | refine qT rfl ?_ | refine qF rfl ?_ | refine scondT rfl ?_ | refine scondF rfl ?_ | refine ocondP rfl (fun h => ?_) (fun h => ?_) | refine ocondB rfl (fun h => ?_) (fun h => ?_) | refine scondP rfl (fun h => ?_) (fun h => ?_) | refine scond rfl (fun h => ?_) (fun h => ?_) | refine oskip ?_ | refine oskipb ?_ | refine oret ?_ | refine sem_ret ?_ | refine sem_seq ?_ | refine sreg1 ?_)
  refine sem_block ?_
  (refine sem_ghost 5 3 1 rfl ?_; simp only [List.length_cons, List.length_nil, Nat.reduceAdd, Nat.zero_add, List.cons_append, List.nil_append])
  
  refine sem_loop (α := Nat) (fun i => ⟨[(0, slOf intCs l), (1, slOf intCs failed), (5, .hsl 0 (withoutL (l.take i) failed).length 1 (withoutL (l.take i) failed).length), (6, I i)], [.row 3 (withoutL (l.take i) failed).length 1 (rowL intCs (withoutL (l.take i) failed))]⟩) (fun i => i ≤ l.length) (fun i => l.length - i) 0 (Nat.zero_le _) ?_ ?_
  · (refine Le.same ?_; simp only [List.forall_mem_cons, List.forall_mem_nil, getE, selE, Nat.reduceBEq, List.not_mem_nil, false_implies, implies_true, and_true, true_and, and_self])
    simp [withoutL, slOf]
  · intro i hi
    have hwl := without_len (l.take i) failed
    have hli : (l.take i).length ≤ 1000 := by rw [List.length_take]; omega
    have hs := fun hh : i < l.length => without_take (failed := failed) hh
    generalize hL : withoutL (l.take i) failed = L at *
    repeat' (first | ((first | refine o1 rfl ?_ | refine o0 rfl ?_); intro k hk; simp (disch := omega) only [ev0, sl_cells, simprocAttr, slOf]; refine hk _ _ ?_; clear hk k) | refine ono rfl ?_ | ((first | refine osplitG rfl (fun h => ?_) (fun h => ?_) | refine osplitB rfl (fun h => ?_) (fun h => ?_)) <;> (fail_if_success (simp only [eq_self, reduceCtorEq] at h))) | refine onx ?_ | refine onb ?_ | refine sreg ?_ | refine qT rfl ?_ | refine qF rfl ?_ | refine scondT rfl ?_ | refine scondF rfl ?_ | refine ocondP rfl (fun h => ?_) (fun h => ?_) | refine ocondB rfl (fun h => ?_) (fun h => ?_) | refine scondP rfl (fun h => ?_) (fun h => ?_) | refine scond rfl (fun h => ?_) (fun h => ?_) | refine oskip ?_ | refine oskipb ?_ | refine oret ?_ | refine sem_ret ?_ | refine sem_seq ?_ | refine sreg1 ?_)
    · have hi' : i < l.length := by omega
      replace hs := hs hi'
      have e1 := rowL_take (enc := intCs) (l := L)
      refine sem_block ?_
      repeat' (first | ((first | refine o1 rfl ?_ | refine o0 rfl ?_); intro k hk; simp (disch := omega) only [ev0, sl_cells, simprocAttr, slOf, intCs]; refine hk _ _ ?_; clear hk k) | refine ono rfl ?_ | (apply ocall; (case he => (simp only [ev0, sl_cells, simprocAttr] <;> rfl)); (case hc => first | exact ref03_Has hGK failed (l.getD i default) hf); (case ht => rfl); (case hg => rfl)) | ((first | refine osplitG rfl (fun h => ?_) (fun h => ?_) | refine osplitB rfl (fun h => ?_) (fun h => ?_)) <;> (fail_if_success (simp only [eq_self, reduceCtorEq] at h))) | refine onx ?_ | refine onb ?_ | refine sreg ?_ | refine qT rfl ?_ | refine qF rfl ?_ | refine scondT rfl ?_ | refine scondF rfl ?_ | refine ocondP rfl (fun h => ?_) (fun h => ?_) | refine ocondB rfl (fun h => ?_) (fun h => ?_) | refine scondP rfl (fun h => ?_) (fun h => ?_) | refine scond rfl (fun h => ?_) (fun h => ?_) | refine oskip ?_ | refine oskipb ?_ | refine oret ?_ | refine sem_ret ?_ | refine sem_seq ?_ | refine sreg1 ?_)
      · rename_i h
        simp only [Bool.not_eq_true', decide_eq_false_iff_not] at h
        rw [if_neg h] at hs
        refine onil (lnext (i + 1) (by omega) (by omega) ?_)
        rw [hs, e1, show ∀ v : Int, [[AV.int .i64 v]] = [intCs v] from fun _ => rfl, rowL_snoc, List.length_append]
        (refine Le.drop ?_ rfl (by simp) rfl (by simp only [refM, refO, List.all_cons, List.all_nil, Bool.and_true, Bool.true_and, rowL_all (enc := intCs) (fun _ _ => rfl)]; first | done | rfl) ; simp only [List.forall_mem_cons, List.forall_mem_nil, getE, selE, Nat.reduceBEq, List.not_mem_nil, false_implies, implies_true, and_true, true_and, and_self])
        simp [slOf]
      · rename_i h
        simp only [Bool.not_eq_false', decide_eq_true_eq] at h
        rw [if_pos h] at hs
        refine onil (lnext (i + 1) (by omega) (by omega) ?_)
        rw [hs]
        (refine Le.same ?_; simp only [List.forall_mem_cons, List.forall_mem_nil, getE, selE, Nat.reduceBEq, List.not_mem_nil, false_implies, implies_true, and_true, true_and, and_self])
        simp [slOf]
    · have hi' : i = l.length := by omega
      subst hi'
      rw [List.take_length] at hL
      rw [hL]
      (refine sem_exit ?_; change sem _ _ _ _ _)
      repeat' (first | ((first | refine o1 rfl ?_ | refine o0 rfl ?_); intro k hk; simp (disch := omega) only [ev0, sl_cells, simprocAttr]; refine hk _ _ ?_; clear hk k) | refine ono rfl ?_ | ((first | refine osplitG rfl (fun h => ?_) (fun h => ?_) | refine osplitB rfl (fun h => ?_) (fun h => ?_)) <;> (fail_if_success (simp only [eq_self, reduceCtorEq] at h))) | refine onx ?_ | refine onb ?_ | refine sreg ?_ | refine qT rfl ?_ | refine qF rfl ?_ | refine scondT rfl ?_ | refine scondF rfl ?_ | refine ocondP rfl (fun h => ?_) (fun h => ?_) | refine ocondB rfl (fun h => ?_) (fun h => ?_) | refine scondP rfl (fun h => ?_) (fun h => ?_) | refine scond rfl (fun h => ?_) (fun h => ?_) | refine oskip ?_ | refine oskipb ?_ | refine oret ?_ | refine sem_ret ?_ | refine sem_seq ?_ | refine sreg1 ?_)
      exact ⟨_, rfl, rfl, rfl⟩
end
variable {G : World → Prop} (hG : ∀ w w', G w → RowKit.Below w.heap.size w w' → G w')
include hG
theorem law03_CoolMended (t : CoolTown) (b o : List Int) (x : CoolTruth) : Holds Try.prog G F.law03_CoolMended [.agg t.cs, slOf intCs b, slOf intCs o, .agg x.cs] (B true) := by
  have hS := law03_short hG t
  have hZ := law03_sized hG x
  have hK := law03_known hG
  by_cases p1 : t.short
  · rw [decide_eq_true p1] at hS
    by_cases p2 : x.short
    · rw [decide_eq_true p2] at hZ
      by_cases p3 : b.length ≤ 15
      · have q3 : ¬ (15 : Int) < b.length := by omega
        by_cases p4 : o.length ≤ 6
        · have q4 : ¬ (6 : Int) < o.length := by omega
          have hR := law03_repaired hG t p1 b o (by omega) (by omega)
          by_cases ha : (t.ok ∧ coolersOk t.sites.length b) ∧ orderOk b o
          · have e : repI t b o = 0 := by unfold repI; rw [if_neg (by omega), if_pos ha]
            rw [e] at hR
            obtain ⟨⟨ok, hc⟩, hoo⟩ := ha
            have hT := ref03_Truth hG t x ok p2
            by_cases p5 : truthOk t x
            · rw [decide_eq_true p5] at hT
              have hxb := truthOk.b ok p5
              have hns := ok.2.1
              have hnh := ok.1
              have hd1 := failed_up (o := o) hc.up
              have hdl := failed_len hc.up hoo
              have hod := failed_order hoo
              have hbd := failed_ok (o := o) hc.up
              have hdb : ∀ z ∈ failedL b o, z ∈ b := fun z hz => (mem_failed.1 hz).1
              have hdo : coolersOk t.sites.length (failedL b o) := sub_ok ok hc List.filter_sublist
              have hRe := Repair_ok hG t p1 b (failedL b o) (by omega) (by omega) ok hc
              rw [if_pos ⟨hbd, (sorted_iff hc hbd).2 hdo⟩] at hRe
              have hAg := Again_ok hG t p1 b o (by omega) (by omega) ok hc hoo
              have hal := againL_len t t.houses.length b o
              have hag : ∀ y, y < t.houses.length → (againL t t.houses.length b o).getD y default = agF t b o y (o.length + 1) := fun y hy => by
                rw [getD_lt (by rw [hal]; exact hy)]; simp [againL]
              have hgd : goodB t b o = (List.range t.houses.length).all fun y => decide (0 ≤ (againL t t.houses.length b o).getD y default) && decide ((againL t t.houses.length b o).getD y default ≤ (t.houses.getD y default).grace) := by
                unfold goodB
                rw [Bool.eq_iff_iff, List.all_eq_true, List.all_eq_true]
                constructor
                · intro h y hy
                  rw [hag y (List.mem_range.1 hy)]; exact h y hy
                · intro h y hy
                  rw [← hag y (List.mem_range.1 hy)]; exact h y hy
              have hgs : ∀ i, ((List.range (i + 1)).all fun y => decide (0 ≤ (againL t t.houses.length b o).getD y default) && decide ((againL t t.houses.length b o).getD y default ≤ (t.houses.getD y default).grace)) = (((List.range i).all fun y => decide (0 ≤ (againL t t.houses.length b o).getD y default) && decide ((againL t t.houses.length b o).getD y default ≤ (t.houses.getD y default).grace)) && (decide (0 ≤ (againL t t.houses.length b o).getD i default) && decide ((againL t t.houses.length b o).getD i default ≤ (t.houses.getD i default).grace))) := fun i => by
                rw [List.range_succ, List.all_append]; simp
              have hg0 : ((List.range 0).all fun y => decide (0 ≤ (againL t t.houses.length b o).getD y default) && decide ((againL t t.houses.length b o).getD y default ≤ (t.houses.getD y default).grace)) = true := rfl
              have hspec := ordS_spec (t := t) (b := b) hd1 (failedL b o).length []
              have hsl := fun l => ordS_len (t := t) (b := b) (d := failedL b o) (n := (failedL b o).length) (o := []) (l := l)
              have hstep := fun i (h : i < b.length) => failed_take (o := o) h
              have hfb := fun i => List.length_filter_le (fun x => decide (x ∈ o)) (b.take i)
              have hfull : failedL (b.take b.length) o = failedL b o := by rw [List.take_length]
              generalize ordS t b (failedL b o) (failedL b o).length [] = res at *
              generalize againL t t.houses.length b o = A at *
              generalize hgk : (fun i : Nat => (List.range i).all fun y => decide (0 ≤ A.getD y default) && decide (A.getD y default ≤ (t.houses.getD y default).grace)) = gk
              have hgk' : ∀ i, ((List.range i).all fun y => decide (0 ≤ A.getD y default) && decide (A.getD y default ≤ (t.houses.getD y default).grace)) = gk i := fun i => by rw [← hgk]
              simp only [hgk'] at hgd hgs hg0
              clear hgk hgk'
              (refine holds_of_sem hG fn_law03_CoolMended (by simp) fun w0 S0 hG0 D0 => ?_; unfold c_law03_CoolMended cval enterEnv; simp only [List.zipIdx_cons, List.zipIdx_nil, List.map_cons, List.map_nil, Nat.zero_add, Nat.reduceAdd])
              repeat' (first | ((first | refine o1 rfl ?_ | refine o0 rfl ?_); intro k hk; simp (disch := omega) only [ev0, sl_cells, simprocAttr, slOf, q3, q4, eq_self, decide_true, decide_false]; refine hk _ _ ?_; clear hk k) | refine ono rfl ?_ | (apply ocall; (case he => (simp only [ev0, sl_cells, simprocAttr] <;> rfl)); (case hc => first | exact hS | exact hZ | exact hK | exact hR | exact hT); (case ht => rfl); (case hg => rfl)) | ((first | refine osplitG rfl (fun h => ?_) (fun h => ?_) | refine osplitB rfl (fun h => ?_) (fun h => ?_)) <;> (fail_if_success (simp only [eq_self, reduceCtorEq] at h))) | refine onx ?_ | refine onb ?_ | refine sreg ?_ | refine qT rfl ?_ | refine qF rfl ?_ | refine scondT rfl ?_ | refine scondF rfl ?_ | refine ocondP rfl (fun h => ?_) (fun h => ?_) | refine ocondB rfl (fun h => ?_) (fun h => ?_) | refine scondP rfl (fun h => ?_) (fun h => ?_) | refine scond rfl (fun h => ?_) (fun h => ?_) | refine oskip ?_ | refine oskipb ?_ | refine oret ?_ | refine sem_ret ?_ | refine sem_seq ?_ | refine sreg1 ?_)
              refine sem_block ?_
              (refine sem_ghost 9 3 1 rfl ?_; simp only [List.length_cons, List.length_nil, Nat.reduceAdd, Nat.zero_add, List.cons_append, List.nil_append])
              
              refine sem_loop (α := Nat) (fun i => ⟨[(1, slOf intCs b), (2, slOf intCs o), (4, .ptr 0 0 2 0 0), (7, .ptr 1 0 2 0 0), (9, .hsl 2 (failedL (b.take i) o).length 1 (failedL (b.take i) o).length), (10, I i)], [.row 25 0 2 [t.cs], .row 53 0 2 [x.cs], .row 3 (failedL (b.take i) o).length 1 (rowL intCs (failedL (b.take i) o))]⟩) (fun i => i ≤ b.length) (fun i => b.length - i) 0 (Nat.zero_le _) ?_ ?_
              · (refine Le.same ?_; simp only [List.forall_mem_cons, List.forall_mem_nil, getE, selE, Nat.reduceBEq, List.not_mem_nil, false_implies, implies_true, and_true, true_and, and_self])
                simp [failedL, slOf, CoolTown.cs, CoolTruth.cs]
              · intro i hi
                have hst := hstep i
                have hfi : (failedL (b.take i) o).length ≤ 15 := by
                  have := hfb i
                  rw [List.length_take] at this
                  unfold failedL
                  omega
                generalize hL : failedL (b.take i) o = L at *
                repeat' (first | ((first | refine o1 rfl ?_ | refine o0 rfl ?_); intro k hk; simp (disch := omega) only [ev0, sl_cells, simprocAttr, slOf]; refine hk _ _ ?_; clear hk k) | refine ono rfl ?_ | ((first | refine osplitG rfl (fun h => ?_) (fun h => ?_) | refine osplitB rfl (fun h => ?_) (fun h => ?_)) <;> (fail_if_success (simp only [eq_self, reduceCtorEq] at h))) | refine onx ?_ | refine onb ?_ | refine sreg ?_ | refine qT rfl ?_ | refine qF rfl ?_ | refine scondT rfl ?_ | refine scondF rfl ?_ | refine ocondP rfl (fun h => ?_) (fun h => ?_) | refine ocondB rfl (fun h => ?_) (fun h => ?_) | refine scondP rfl (fun h => ?_) (fun h => ?_) | refine scond rfl (fun h => ?_) (fun h => ?_) | refine oskip ?_ | refine oskipb ?_ | refine oret ?_ | refine sem_ret ?_ | refine sem_seq ?_ | refine sreg1 ?_)
                · have hi' : i < b.length := by omega
                  replace hst := hst hi'
                  have e1 := rowL_take (enc := intCs) (l := L)
                  have hHa := ref03_Has hG o (b.getD i default) (by omega)
                  generalize hv : b.getD i default = v at *
                  refine sem_block ?_
                  by_cases hm : v ∈ o
                  · rw [decide_eq_true hm] at hHa
                    rw [if_pos hm] at hst
                    repeat' (first | ((first | refine o1 rfl ?_ | refine o0 rfl ?_); intro k hk; simp (disch := omega) only [ev0, sl_cells, simprocAttr, slOf, intCs, hv]; refine hk _ _ ?_; clear hk k) | refine ono rfl ?_ | (apply ocall; (case he => (simp only [ev0, sl_cells, simprocAttr] <;> rfl)); (case hc => first | exact hHa); (case ht => rfl); (case hg => rfl)) | ((first | refine osplitG rfl (fun h => ?_) (fun h => ?_) | refine osplitB rfl (fun h => ?_) (fun h => ?_)) <;> (fail_if_success (simp only [eq_self, reduceCtorEq] at h))) | refine onx ?_ | refine onb ?_ | refine sreg ?_ | refine qT rfl ?_ | refine qF rfl ?_ | refine scondT rfl ?_ | refine scondF rfl ?_ | refine ocondP rfl (fun h => ?_) (fun h => ?_) | refine ocondB rfl (fun h => ?_) (fun h => ?_) | refine scondP rfl (fun h => ?_) (fun h => ?_) | refine scond rfl (fun h => ?_) (fun h => ?_) | refine oskip ?_ | refine oskipb ?_ | refine oret ?_ | refine sem_ret ?_ | refine sem_seq ?_ | refine sreg1 ?_)
                    refine onil (lnext (i + 1) (by omega) (by omega) ?_)
                    rw [hst, e1, show ∀ v : Int, [[AV.int .i64 v]] = [intCs v] from fun _ => rfl, rowL_snoc, List.length_append]
                    (refine Le.drop ?_ rfl (by simp) rfl (by simp only [refM, refO, List.all_cons, List.all_nil, Bool.and_true, Bool.true_and, rowL_all (enc := intCs) (fun _ _ => rfl), CoolTown.cs, CoolTruth.cs]; first | done | rfl) ; simp only [List.forall_mem_cons, List.forall_mem_nil, getE, selE, Nat.reduceBEq, List.not_mem_nil, false_implies, implies_true, and_true, true_and, and_self])
                    simp [slOf]
                  · rw [decide_eq_false hm] at hHa
                    rw [if_neg hm] at hst
                    repeat' (first | ((first | refine o1 rfl ?_ | refine o0 rfl ?_); intro k hk; simp (disch := omega) only [ev0, sl_cells, simprocAttr, slOf, intCs, hv]; refine hk _ _ ?_; clear hk k) | refine ono rfl ?_ | (apply ocall; (case he => (simp only [ev0, sl_cells, simprocAttr] <;> rfl)); (case hc => first | exact hHa); (case ht => rfl); (case hg => rfl)) | ((first | refine osplitG rfl (fun h => ?_) (fun h => ?_) | refine osplitB rfl (fun h => ?_) (fun h => ?_)) <;> (fail_if_success (simp only [eq_self, reduceCtorEq] at h))) | refine onx ?_ | refine onb ?_ | refine sreg ?_ | refine qT rfl ?_ | refine qF rfl ?_ | refine scondT rfl ?_ | refine scondF rfl ?_ | refine ocondP rfl (fun h => ?_) (fun h => ?_) | refine ocondB rfl (fun h => ?_) (fun h => ?_) | refine scondP rfl (fun h => ?_) (fun h => ?_) | refine scond rfl (fun h => ?_) (fun h => ?_) | refine oskip ?_ | refine oskipb ?_ | refine oret ?_ | refine sem_ret ?_ | refine sem_seq ?_ | refine sreg1 ?_)
                    refine onil (lnext (i + 1) (by omega) (by omega) ?_)
                    rw [hst]
                    (refine Le.same ?_; simp only [List.forall_mem_cons, List.forall_mem_nil, getE, selE, Nat.reduceBEq, List.not_mem_nil, false_implies, implies_true, and_true, true_and, and_self])
                    simp [slOf]
                · have hi' : i = b.length := by omega
                  subst hi'
                  rw [hfull] at hL
                  subst hL
                  (refine sem_exit ?_; change sem _ _ _ _ _)
                  refine sem_frzlist (enc := intCs) 2 rfl (fun _ => rfl) ?_
                  simp only [frzE, frzM, frzO, frzA, frzL, List.map_cons, List.map_nil, List.set_cons_zero, List.set_cons_succ, Nat.reduceEqDiff, if_true, if_false, and_self, Nat.le_refl, reduceIte, frz_sl, frz_town, frz_truth]
                  cases res with
                  | none =>
                    unfold repV at hRe
                    dsimp only at hRe hspec
                    have hng : goodB t b o = false := by
                      have := hspec o (by omega) (by simpa using hod)
                      simpa using this
                    generalize failedL b o = d at *
                    repeat' (first | ((first | refine o1 rfl ?_ | refine o0 rfl ?_); intro k hk; simp (disch := omega) only [ev0, sl_cells, simprocAttr, slOf, CoolTown.cs, hal]; refine hk _ _ ?_; clear hk k) | refine ono rfl ?_ | (apply ocall; (case he => (simp only [ev0, sl_cells, simprocAttr] <;> rfl)); (case hc => first | exact hRe | exact hAg); (case ht => rfl); (case hg => rfl)) | ((first | refine osplitG rfl (fun h => ?_) (fun h => ?_) | refine osplitB rfl (fun h => ?_) (fun h => ?_)) <;> (fail_if_success (simp only [eq_self, reduceCtorEq] at h))) | refine onx ?_ | refine onb ?_ | refine sreg ?_ | refine qT rfl ?_ | refine qF rfl ?_ | refine scondT rfl ?_ | refine scondF rfl ?_ | refine ocondP rfl (fun h => ?_) (fun h => ?_) | refine ocondB rfl (fun h => ?_) (fun h => ?_) | refine scondP rfl (fun h => ?_) (fun h => ?_) | refine scond rfl (fun h => ?_) (fun h => ?_) | refine oskip ?_ | refine oskipb ?_ | refine oret ?_ | refine sem_ret ?_ | refine sem_seq ?_ | refine sreg1 ?_)
                    refine sem_block ?_
                    
                    refine sem_loop (α := Nat) (fun i => ⟨[(1, slOf intCs b), (2, slOf intCs o), (4, .ptr 0 0 2 0 0), (7, .ptr 1 0 2 0 0), (9, slOf intCs d), (11, .nilsl), (12, I 5), (13, slOf intCs A), (15, B (gk i)), (16, I i)], [.row 25 0 2 [t.cs], .row 53 0 2 [x.cs]]⟩) (fun i => i ≤ t.houses.length) (fun i => t.houses.length - i) 0 (Nat.zero_le _) ?_ ?_
                    · rw [hg0]
                      (refine Le.drop ?_ rfl (by simp) rfl (by simp only [refM, refO, List.all_cons, List.all_nil, Bool.and_true, Bool.true_and, CoolTown.cs, CoolTruth.cs, slOf, refL, refA]; first | done | rfl) ; simp only [List.forall_mem_cons, List.forall_mem_nil, getE, selE, Nat.reduceBEq, List.not_mem_nil, false_implies, implies_true, and_true, true_and, and_self])
                      simp [slOf, hal]
                    · intro i hi
                      have hgi := hgs i
                      repeat' (first | ((first | refine o1 rfl ?_ | refine o0 rfl ?_); intro k hk; simp (disch := omega) only [ev0, sl_cells, simprocAttr, slOf, hal]; refine hk _ _ ?_; clear hk k) | refine ono rfl ?_ | ((first | refine osplitG rfl (fun h => ?_) (fun h => ?_) | refine osplitB rfl (fun h => ?_) (fun h => ?_)) <;> (fail_if_success (simp only [eq_self, reduceCtorEq] at h))) | refine onx ?_ | refine onb ?_ | refine sreg ?_ | refine qT rfl ?_ | refine qF rfl ?_ | refine scondT rfl ?_ | refine scondF rfl ?_ | refine ocondP rfl (fun h => ?_) (fun h => ?_) | refine ocondB rfl (fun h => ?_) (fun h => ?_) | refine scondP rfl (fun h => ?_) (fun h => ?_) | refine scond rfl (fun h => ?_) (fun h => ?_) | refine oskip ?_ | refine oskipb ?_ | refine oret ?_ | refine sem_ret ?_ | refine sem_seq ?_ | refine sreg1 ?_)
                      · have hi' : i < t.houses.length := by omega
                        refine sem_block ?_
                        repeat' (first | ((first | refine o1 rfl ?_ | refine o0 rfl ?_); intro k hk; simp (disch := omega) only [ev0, sl_cells, simprocAttr]; refine hk _ _ ?_; clear hk k) | refine ono rfl ?_ | ((first | refine osplitG rfl (fun h => ?_) (fun h => ?_) | refine osplitB rfl (fun h => ?_) (fun h => ?_)) <;> (fail_if_success (simp only [eq_self, reduceCtorEq] at h))) | refine onx ?_ | refine onb ?_ | refine sreg ?_ | refine qT rfl ?_ | refine qF rfl ?_ | refine scondT rfl ?_ | refine scondF rfl ?_ | refine ocondP rfl (fun h => ?_) (fun h => ?_) | refine ocondB rfl (fun h => ?_) (fun h => ?_) | refine scondP rfl (fun h => ?_) (fun h => ?_) | refine scond rfl (fun h => ?_) (fun h => ?_) | refine oskip ?_ | refine oskipb ?_ | refine oret ?_ | refine sem_ret ?_ | refine sem_seq ?_ | refine sreg1 ?_)
                        cases hv : gk i with
                        | false =>
                          rw [hv, Bool.false_and] at hgi
                          ((refine sem_mgo 19 hmix (by kernel_rfl) ?_; simp only [nt]); (repeat' (first | ((first | apply mop | apply mop0); (case hg => rfl); (case hq => rfl); intro k hk; simp (disch := omega) only [ev0, sl_cells, simprocAttr, slOf, intCs, hal, CoolTown.cs, CoolHouse.cs]; refine hk _ _ rfl ?_; clear hk k) | (apply mno; (case hg => rfl)) | (apply mbox; (case hx => (simp only [wv, simprocAttr] <;> rfl)); (case hg => rfl); (case hall => rfl); (case hr => rfl); simp only [nm, Nat.reduceAdd]) | (apply mbldS; (case hb => (simp (disch := omega) only [ev0, sl_cells, simprocAttr] <;> rfl)); (case hg => rfl); (case hr => rfl); simp only [nm, Nat.reduceAdd]) | ((first | (apply msto (q := 0); (case hq => rfl)) | (apply msto (q := 1); (case hq => rfl)) | (apply msto (q := 2); (case hq => rfl)) | (apply msto (q := 3); (case hq => rfl))); (case hx => (simp only [wv, simprocAttr] <;> rfl)); (case haddr => (simp only [wv, simprocAttr] <;> rfl)); (case hg => rfl); (case hl1 => rfl); (case hl2 => rfl); (case hok => rfl); (case hr => rfl); simp only [nm, Nat.reduceAdd]) | (apply mnil; simp only [SlotR.fin, ns]) | (refine msplit rfl (fun h => ?_) (fun h => ?_) <;> simp only [h] <;> (try simp only [nb] at h)))) <;> (repeat' (first | ((first | refine o1 rfl ?_ | refine o0 rfl ?_); intro k hk; simp (disch := omega) only [ev0, sl_cells, simprocAttr, slOf, intCs, hal, CoolTown.cs, CoolHouse.cs]; refine hk _ _ ?_; clear hk k) | refine ono rfl ?_ | ((first | refine osplitG rfl (fun h => ?_) (fun h => ?_) | refine osplitB rfl (fun h => ?_) (fun h => ?_)) <;> (fail_if_success (simp only [eq_self, reduceCtorEq] at h))) | refine onx ?_ | refine onb ?_ | refine sreg ?_ | refine qT rfl ?_ | refine qF rfl ?_ | refine scondT rfl ?_ | refine scondF rfl ?_ | refine ocondP rfl (fun h => ?_) (fun h => ?_) | refine ocondB rfl (fun h => ?_) (fun h => ?_) | refine scondP rfl (fun h => ?_) (fun h => ?_) | refine scond rfl (fun h => ?_) (fun h => ?_) | refine oskip ?_ | refine oskipb ?_ | refine oret ?_ | refine sem_ret ?_ | refine sem_seq ?_ | refine sreg1 ?_)))
                          refine onil (lnext (i + 1) (by omega) (by omega) ?_)
                          rw [hgi]
                          (refine Le.same ?_; simp only [List.forall_mem_cons, List.forall_mem_nil, getE, selE, Nat.reduceBEq, List.not_mem_nil, false_implies, implies_true, and_true, true_and, and_self])
                          simp [slOf]
                        | true =>
                          rw [hv, Bool.true_and] at hgi
                          by_cases ha1 : 0 ≤ A.getD i default
                          · rw [decide_eq_true ha1, Bool.true_and] at hgi
                            ((refine sem_mgo 19 hmix (by kernel_rfl) ?_; simp only [nt]); (repeat' (first | ((first | apply mop | apply mop0); (case hg => rfl); (case hq => rfl); intro k hk; simp (disch := omega) only [ev0, sl_cells, simprocAttr, slOf, intCs, hal, CoolTown.cs, CoolHouse.cs, ha1, decide_true]; refine hk _ _ rfl ?_; clear hk k) | (apply mno; (case hg => rfl)) | (apply mbox; (case hx => (simp only [wv, simprocAttr] <;> rfl)); (case hg => rfl); (case hall => rfl); (case hr => rfl); simp only [nm, Nat.reduceAdd]) | (apply mbldS; (case hb => (simp (disch := omega) only [ev0, sl_cells, simprocAttr] <;> rfl)); (case hg => rfl); (case hr => rfl); simp only [nm, Nat.reduceAdd]) | ((first | (apply msto (q := 0); (case hq => rfl)) | (apply msto (q := 1); (case hq => rfl)) | (apply msto (q := 2); (case hq => rfl)) | (apply msto (q := 3); (case hq => rfl))); (case hx => (simp only [wv, simprocAttr] <;> rfl)); (case haddr => (simp only [wv, simprocAttr] <;> rfl)); (case hg => rfl); (case hl1 => rfl); (case hl2 => rfl); (case hok => rfl); (case hr => rfl); simp only [nm, Nat.reduceAdd]) | (apply mnil; simp only [SlotR.fin, ns]) | (refine msplit rfl (fun h => ?_) (fun h => ?_) <;> simp only [h] <;> (try simp only [nb] at h)))) <;> (repeat' (first | ((first | refine o1 rfl ?_ | refine o0 rfl ?_); intro k hk; simp (disch := omega) only [ev0, sl_cells, simprocAttr, slOf, intCs, hal, CoolTown.cs, CoolHouse.cs, ha1, decide_true]; refine hk _ _ ?_; clear hk k) | refine ono rfl ?_ | ((first | refine osplitG rfl (fun h => ?_) (fun h => ?_) | refine osplitB rfl (fun h => ?_) (fun h => ?_)) <;> (fail_if_success (simp only [eq_self, reduceCtorEq] at h))) | refine onx ?_ | refine onb ?_ | refine sreg ?_ | refine qT rfl ?_ | refine qF rfl ?_ | refine scondT rfl ?_ | refine scondF rfl ?_ | refine ocondP rfl (fun h => ?_) (fun h => ?_) | refine ocondB rfl (fun h => ?_) (fun h => ?_) | refine scondP rfl (fun h => ?_) (fun h => ?_) | refine scond rfl (fun h => ?_) (fun h => ?_) | refine oskip ?_ | refine oskipb ?_ | refine oret ?_ | refine sem_ret ?_ | refine sem_seq ?_ | refine sreg1 ?_)))
                            refine onil (lnext (i + 1) (by omega) (by omega) ?_)
                            rw [hgi]
                            (refine Le.same ?_; simp only [List.forall_mem_cons, List.forall_mem_nil, getE, selE, Nat.reduceBEq, List.not_mem_nil, false_implies, implies_true, and_true, true_and, and_self])
                            simp [slOf]
                          · rw [decide_eq_false ha1, Bool.false_and] at hgi
                            ((refine sem_mgo 19 hmix (by kernel_rfl) ?_; simp only [nt]); (repeat' (first | ((first | apply mop | apply mop0); (case hg => rfl); (case hq => rfl); intro k hk; simp (disch := omega) only [ev0, sl_cells, simprocAttr, slOf, intCs, hal, CoolTown.cs, CoolHouse.cs, ha1, decide_false]; refine hk _ _ rfl ?_; clear hk k) | (apply mno; (case hg => rfl)) | (apply mbox; (case hx => (simp only [wv, simprocAttr] <;> rfl)); (case hg => rfl); (case hall => rfl); (case hr => rfl); simp only [nm, Nat.reduceAdd]) | (apply mbldS; (case hb => (simp (disch := omega) only [ev0, sl_cells, simprocAttr] <;> rfl)); (case hg => rfl); (case hr => rfl); simp only [nm, Nat.reduceAdd]) | ((first | (apply msto (q := 0); (case hq => rfl)) | (apply msto (q := 1); (case hq => rfl)) | (apply msto (q := 2); (case hq => rfl)) | (apply msto (q := 3); (case hq => rfl))); (case hx => (simp only [wv, simprocAttr] <;> rfl)); (case haddr => (simp only [wv, simprocAttr] <;> rfl)); (case hg => rfl); (case hl1 => rfl); (case hl2 => rfl); (case hok => rfl); (case hr => rfl); simp only [nm, Nat.reduceAdd]) | (apply mnil; simp only [SlotR.fin, ns]) | (refine msplit rfl (fun h => ?_) (fun h => ?_) <;> simp only [h] <;> (try simp only [nb] at h)))) <;> (repeat' (first | ((first | refine o1 rfl ?_ | refine o0 rfl ?_); intro k hk; simp (disch := omega) only [ev0, sl_cells, simprocAttr, slOf, intCs, hal, CoolTown.cs, CoolHouse.cs, ha1, decide_false]; refine hk _ _ ?_; clear hk k) | refine ono rfl ?_ | ((first | refine osplitG rfl (fun h => ?_) (fun h => ?_) | refine osplitB rfl (fun h => ?_) (fun h => ?_)) <;> (fail_if_success (simp only [eq_self, reduceCtorEq] at h))) | refine onx ?_ | refine onb ?_ | refine sreg ?_ | refine qT rfl ?_ | refine qF rfl ?_ | refine scondT rfl ?_ | refine scondF rfl ?_ | refine ocondP rfl (fun h => ?_) (fun h => ?_) | refine ocondB rfl (fun h => ?_) (fun h => ?_) | refine scondP rfl (fun h => ?_) (fun h => ?_) | refine scond rfl (fun h => ?_) (fun h => ?_) | refine oskip ?_ | refine oskipb ?_ | refine oret ?_ | refine sem_ret ?_ | refine sem_seq ?_ | refine sreg1 ?_)))
                            refine onil (lnext (i + 1) (by omega) (by omega) ?_)
                            rw [hgi]
                            (refine Le.same ?_; simp only [List.forall_mem_cons, List.forall_mem_nil, getE, selE, Nat.reduceBEq, List.not_mem_nil, false_implies, implies_true, and_true, true_and, and_self])
                            simp [slOf]
                      · have hi' : i = t.houses.length := by omega
                        subst hi'
                        rw [← hgd]
                        (refine sem_exit ?_; change sem _ _ _ _ _)
                        rw [hng]
                        repeat' (first | ((first | refine o1 rfl ?_ | refine o0 rfl ?_); intro k hk; simp (disch := omega) only [ev0, sl_cells, simprocAttr, eq_self, decide_true]; refine hk _ _ ?_; clear hk k) | refine ono rfl ?_ | (apply ocall; (case he => (simp only [ev0, sl_cells, simprocAttr] <;> rfl)); (case hc => first | exact hK); (case ht => rfl); (case hg => rfl)) | ((first | refine osplitG rfl (fun h => ?_) (fun h => ?_) | refine osplitB rfl (fun h => ?_) (fun h => ?_)) <;> (fail_if_success (simp only [eq_self, reduceCtorEq] at h))) | refine onx ?_ | refine onb ?_ | refine sreg ?_ | refine qT rfl ?_ | refine qF rfl ?_ | refine scondT rfl ?_ | refine scondF rfl ?_ | refine ocondP rfl (fun h => ?_) (fun h => ?_) | refine ocondB rfl (fun h => ?_) (fun h => ?_) | refine scondP rfl (fun h => ?_) (fun h => ?_) | refine scond rfl (fun h => ?_) (fun h => ?_) | refine oskip ?_ | refine oskipb ?_ | refine oret ?_ | refine sem_ret ?_ | refine sem_seq ?_ | refine sreg1 ?_)
                        exact ⟨_, rfl, _, rfl, tree_eq rfl rfl⟩
                  | some l =>
                    have hll := hsl l rfl
                    simp only [List.length_nil, Nat.zero_add] at hll
                    unfold repV at hRe
                    dsimp only at hRe hspec
                    obtain ⟨hgl, -, hol, hbef⟩ := hspec
                    have hol := hol (fun i hi => absurd hi (Nat.not_lt_zero _))
                    have hbo : goodB t b o = true → before o l = false := fun q => by
                      have := hbef o (by omega) (by simpa using hod) (by simpa using q)
                      simpa using this
                    have hmend := fun y (hy : y < t.houses.length) => mended ok p5 hc hdb hol (by omega) hgl hy
                    have hOr := ref03_Order hG (failedL b o) l (by omega) (by omega)
                    rw [decide_eq_true hol] at hOr
                    have hBe := ref03_Before hG o l (by omega) (by omega)
                    have hlb : ∀ z ∈ l, 0 ≤ z ∧ z < t.sites.length := fun z hz => hc.mem z (hdb z (order_mem hol z hz))
                    generalize failedL b o = d at *
                    repeat' (first | ((first | refine o1 rfl ?_ | refine o0 rfl ?_); intro k hk; simp (disch := omega) only [ev0, sl_cells, simprocAttr, slOf, CoolTown.cs, hal]; refine hk _ _ ?_; clear hk k) | refine ono rfl ?_ | (apply ocall; (case he => (simp only [ev0, sl_cells, simprocAttr] <;> rfl)); (case hc => first | exact hRe | exact hAg); (case ht => rfl); (case hg => rfl)) | ((first | refine osplitG rfl (fun h => ?_) (fun h => ?_) | refine osplitB rfl (fun h => ?_) (fun h => ?_)) <;> (fail_if_success (simp only [eq_self, reduceCtorEq] at h))) | refine onx ?_ | refine onb ?_ | refine sreg ?_ | refine qT rfl ?_ | refine qF rfl ?_ | refine scondT rfl ?_ | refine scondF rfl ?_ | refine ocondP rfl (fun h => ?_) (fun h => ?_) | refine ocondB rfl (fun h => ?_) (fun h => ?_) | refine scondP rfl (fun h => ?_) (fun h => ?_) | refine scond rfl (fun h => ?_) (fun h => ?_) | refine oskip ?_ | refine oskipb ?_ | refine oret ?_ | refine sem_ret ?_ | refine sem_seq ?_ | refine sreg1 ?_)
                    refine sem_block ?_
                    
                    refine sem_loop (α := Nat) (fun i => ⟨[(1, slOf intCs b), (2, slOf intCs o), (4, .ptr 0 0 2 0 0), (7, .ptr 1 0 2 0 0), (9, slOf intCs d), (11, slOf intCs l), (12, I 0), (13, slOf intCs A), (15, B (gk i)), (16, I i)], [.row 25 0 2 [t.cs], .row 53 0 2 [x.cs]]⟩) (fun i => i ≤ t.houses.length) (fun i => t.houses.length - i) 0 (Nat.zero_le _) ?_ ?_
                    · rw [hg0]
                      (refine Le.drop ?_ rfl (by simp) rfl (by simp only [refM, refO, List.all_cons, List.all_nil, Bool.and_true, Bool.true_and, CoolTown.cs, CoolTruth.cs, slOf, refL, refA]; first | done | rfl) ; simp only [List.forall_mem_cons, List.forall_mem_nil, getE, selE, Nat.reduceBEq, List.not_mem_nil, false_implies, implies_true, and_true, true_and, and_self])
                      simp [slOf, hal]
                    · intro i hi
                      have hgi := hgs i
                      repeat' (first | ((first | refine o1 rfl ?_ | refine o0 rfl ?_); intro k hk; simp (disch := omega) only [ev0, sl_cells, simprocAttr, slOf, hal]; refine hk _ _ ?_; clear hk k) | refine ono rfl ?_ | ((first | refine osplitG rfl (fun h => ?_) (fun h => ?_) | refine osplitB rfl (fun h => ?_) (fun h => ?_)) <;> (fail_if_success (simp only [eq_self, reduceCtorEq] at h))) | refine onx ?_ | refine onb ?_ | refine sreg ?_ | refine qT rfl ?_ | refine qF rfl ?_ | refine scondT rfl ?_ | refine scondF rfl ?_ | refine ocondP rfl (fun h => ?_) (fun h => ?_) | refine ocondB rfl (fun h => ?_) (fun h => ?_) | refine scondP rfl (fun h => ?_) (fun h => ?_) | refine scond rfl (fun h => ?_) (fun h => ?_) | refine oskip ?_ | refine oskipb ?_ | refine oret ?_ | refine sem_ret ?_ | refine sem_seq ?_ | refine sreg1 ?_)
                      · have hi' : i < t.houses.length := by omega
                        refine sem_block ?_
                        repeat' (first | ((first | refine o1 rfl ?_ | refine o0 rfl ?_); intro k hk; simp (disch := omega) only [ev0, sl_cells, simprocAttr]; refine hk _ _ ?_; clear hk k) | refine ono rfl ?_ | ((first | refine osplitG rfl (fun h => ?_) (fun h => ?_) | refine osplitB rfl (fun h => ?_) (fun h => ?_)) <;> (fail_if_success (simp only [eq_self, reduceCtorEq] at h))) | refine onx ?_ | refine onb ?_ | refine sreg ?_ | refine qT rfl ?_ | refine qF rfl ?_ | refine scondT rfl ?_ | refine scondF rfl ?_ | refine ocondP rfl (fun h => ?_) (fun h => ?_) | refine ocondB rfl (fun h => ?_) (fun h => ?_) | refine scondP rfl (fun h => ?_) (fun h => ?_) | refine scond rfl (fun h => ?_) (fun h => ?_) | refine oskip ?_ | refine oskipb ?_ | refine oret ?_ | refine sem_ret ?_ | refine sem_seq ?_ | refine sreg1 ?_)
                        cases hv : gk i with
                        | false =>
                          rw [hv, Bool.false_and] at hgi
                          ((refine sem_mgo 19 hmix (by kernel_rfl) ?_; simp only [nt]); (repeat' (first | ((first | apply mop | apply mop0); (case hg => rfl); (case hq => rfl); intro k hk; simp (disch := omega) only [ev0, sl_cells, simprocAttr, slOf, intCs, hal, CoolTown.cs, CoolHouse.cs]; refine hk _ _ rfl ?_; clear hk k) | (apply mno; (case hg => rfl)) | (apply mbox; (case hx => (simp only [wv, simprocAttr] <;> rfl)); (case hg => rfl); (case hall => rfl); (case hr => rfl); simp only [nm, Nat.reduceAdd]) | (apply mbldS; (case hb => (simp (disch := omega) only [ev0, sl_cells, simprocAttr] <;> rfl)); (case hg => rfl); (case hr => rfl); simp only [nm, Nat.reduceAdd]) | ((first | (apply msto (q := 0); (case hq => rfl)) | (apply msto (q := 1); (case hq => rfl)) | (apply msto (q := 2); (case hq => rfl)) | (apply msto (q := 3); (case hq => rfl))); (case hx => (simp only [wv, simprocAttr] <;> rfl)); (case haddr => (simp only [wv, simprocAttr] <;> rfl)); (case hg => rfl); (case hl1 => rfl); (case hl2 => rfl); (case hok => rfl); (case hr => rfl); simp only [nm, Nat.reduceAdd]) | (apply mnil; simp only [SlotR.fin, ns]) | (refine msplit rfl (fun h => ?_) (fun h => ?_) <;> simp only [h] <;> (try simp only [nb] at h)))) <;> (repeat' (first | ((first | refine o1 rfl ?_ | refine o0 rfl ?_); intro k hk; simp (disch := omega) only [ev0, sl_cells, simprocAttr, slOf, intCs, hal, CoolTown.cs, CoolHouse.cs]; refine hk _ _ ?_; clear hk k) | refine ono rfl ?_ | ((first | refine osplitG rfl (fun h => ?_) (fun h => ?_) | refine osplitB rfl (fun h => ?_) (fun h => ?_)) <;> (fail_if_success (simp only [eq_self, reduceCtorEq] at h))) | refine onx ?_ | refine onb ?_ | refine sreg ?_ | refine qT rfl ?_ | refine qF rfl ?_ | refine scondT rfl ?_ | refine scondF rfl ?_ | refine ocondP rfl (fun h => ?_) (fun h => ?_) | refine ocondB rfl (fun h => ?_) (fun h => ?_) | refine scondP rfl (fun h => ?_) (fun h => ?_) | refine scond rfl (fun h => ?_) (fun h => ?_) | refine oskip ?_ | refine oskipb ?_ | refine oret ?_ | refine sem_ret ?_ | refine sem_seq ?_ | refine sreg1 ?_)))
                          refine onil (lnext (i + 1) (by omega) (by omega) ?_)
                          rw [hgi]
                          (refine Le.same ?_; simp only [List.forall_mem_cons, List.forall_mem_nil, getE, selE, Nat.reduceBEq, List.not_mem_nil, false_implies, implies_true, and_true, true_and, and_self])
                          simp [slOf]
                        | true =>
                          rw [hv, Bool.true_and] at hgi
                          by_cases ha1 : 0 ≤ A.getD i default
                          · rw [decide_eq_true ha1, Bool.true_and] at hgi
                            ((refine sem_mgo 19 hmix (by kernel_rfl) ?_; simp only [nt]); (repeat' (first | ((first | apply mop | apply mop0); (case hg => rfl); (case hq => rfl); intro k hk; simp (disch := omega) only [ev0, sl_cells, simprocAttr, slOf, intCs, hal, CoolTown.cs, CoolHouse.cs, ha1, decide_true]; refine hk _ _ rfl ?_; clear hk k) | (apply mno; (case hg => rfl)) | (apply mbox; (case hx => (simp only [wv, simprocAttr] <;> rfl)); (case hg => rfl); (case hall => rfl); (case hr => rfl); simp only [nm, Nat.reduceAdd]) | (apply mbldS; (case hb => (simp (disch := omega) only [ev0, sl_cells, simprocAttr] <;> rfl)); (case hg => rfl); (case hr => rfl); simp only [nm, Nat.reduceAdd]) | ((first | (apply msto (q := 0); (case hq => rfl)) | (apply msto (q := 1); (case hq => rfl)) | (apply msto (q := 2); (case hq => rfl)) | (apply msto (q := 3); (case hq => rfl))); (case hx => (simp only [wv, simprocAttr] <;> rfl)); (case haddr => (simp only [wv, simprocAttr] <;> rfl)); (case hg => rfl); (case hl1 => rfl); (case hl2 => rfl); (case hok => rfl); (case hr => rfl); simp only [nm, Nat.reduceAdd]) | (apply mnil; simp only [SlotR.fin, ns]) | (refine msplit rfl (fun h => ?_) (fun h => ?_) <;> simp only [h] <;> (try simp only [nb] at h)))) <;> (repeat' (first | ((first | refine o1 rfl ?_ | refine o0 rfl ?_); intro k hk; simp (disch := omega) only [ev0, sl_cells, simprocAttr, slOf, intCs, hal, CoolTown.cs, CoolHouse.cs, ha1, decide_true]; refine hk _ _ ?_; clear hk k) | refine ono rfl ?_ | ((first | refine osplitG rfl (fun h => ?_) (fun h => ?_) | refine osplitB rfl (fun h => ?_) (fun h => ?_)) <;> (fail_if_success (simp only [eq_self, reduceCtorEq] at h))) | refine onx ?_ | refine onb ?_ | refine sreg ?_ | refine qT rfl ?_ | refine qF rfl ?_ | refine scondT rfl ?_ | refine scondF rfl ?_ | refine ocondP rfl (fun h => ?_) (fun h => ?_) | refine ocondB rfl (fun h => ?_) (fun h => ?_) | refine scondP rfl (fun h => ?_) (fun h => ?_) | refine scond rfl (fun h => ?_) (fun h => ?_) | refine oskip ?_ | refine oskipb ?_ | refine oret ?_ | refine sem_ret ?_ | refine sem_seq ?_ | refine sreg1 ?_)))
                            refine onil (lnext (i + 1) (by omega) (by omega) ?_)
                            rw [hgi]
                            (refine Le.same ?_; simp only [List.forall_mem_cons, List.forall_mem_nil, getE, selE, Nat.reduceBEq, List.not_mem_nil, false_implies, implies_true, and_true, true_and, and_self])
                            simp [slOf]
                          · rw [decide_eq_false ha1, Bool.false_and] at hgi
                            ((refine sem_mgo 19 hmix (by kernel_rfl) ?_; simp only [nt]); (repeat' (first | ((first | apply mop | apply mop0); (case hg => rfl); (case hq => rfl); intro k hk; simp (disch := omega) only [ev0, sl_cells, simprocAttr, slOf, intCs, hal, CoolTown.cs, CoolHouse.cs, ha1, decide_false]; refine hk _ _ rfl ?_; clear hk k) | (apply mno; (case hg => rfl)) | (apply mbox; (case hx => (simp only [wv, simprocAttr] <;> rfl)); (case hg => rfl); (case hall => rfl); (case hr => rfl); simp only [nm, Nat.reduceAdd]) | (apply mbldS; (case hb => (simp (disch := omega) only [ev0, sl_cells, simprocAttr] <;> rfl)); (case hg => rfl); (case hr => rfl); simp only [nm, Nat.reduceAdd]) | ((first | (apply msto (q := 0); (case hq => rfl)) | (apply msto (q := 1); (case hq => rfl)) | (apply msto (q := 2); (case hq => rfl)) | (apply msto (q := 3); (case hq => rfl))); (case hx => (simp only [wv, simprocAttr] <;> rfl)); (case haddr => (simp only [wv, simprocAttr] <;> rfl)); (case hg => rfl); (case hl1 => rfl); (case hl2 => rfl); (case hok => rfl); (case hr => rfl); simp only [nm, Nat.reduceAdd]) | (apply mnil; simp only [SlotR.fin, ns]) | (refine msplit rfl (fun h => ?_) (fun h => ?_) <;> simp only [h] <;> (try simp only [nb] at h)))) <;> (repeat' (first | ((first | refine o1 rfl ?_ | refine o0 rfl ?_); intro k hk; simp (disch := omega) only [ev0, sl_cells, simprocAttr, slOf, intCs, hal, CoolTown.cs, CoolHouse.cs, ha1, decide_false]; refine hk _ _ ?_; clear hk k) | refine ono rfl ?_ | ((first | refine osplitG rfl (fun h => ?_) (fun h => ?_) | refine osplitB rfl (fun h => ?_) (fun h => ?_)) <;> (fail_if_success (simp only [eq_self, reduceCtorEq] at h))) | refine onx ?_ | refine onb ?_ | refine sreg ?_ | refine qT rfl ?_ | refine qF rfl ?_ | refine scondT rfl ?_ | refine scondF rfl ?_ | refine ocondP rfl (fun h => ?_) (fun h => ?_) | refine ocondB rfl (fun h => ?_) (fun h => ?_) | refine scondP rfl (fun h => ?_) (fun h => ?_) | refine scond rfl (fun h => ?_) (fun h => ?_) | refine oskip ?_ | refine oskipb ?_ | refine oret ?_ | refine sem_ret ?_ | refine sem_seq ?_ | refine sreg1 ?_)))
                            refine onil (lnext (i + 1) (by omega) (by omega) ?_)
                            rw [hgi]
                            (refine Le.same ?_; simp only [List.forall_mem_cons, List.forall_mem_nil, getE, selE, Nat.reduceBEq, List.not_mem_nil, false_implies, implies_true, and_true, true_and, and_self])
                            simp [slOf]
                      · have hi' : i = t.houses.length := by omega
                        subst hi'
                        rw [← hgd]
                        (refine sem_exit ?_; change sem _ _ _ _ _)
                        have hdl2 : ((l.length : Int) = d.length) = True := eq_true (by omega)
                        cases hgo : goodB t b o with
                        | true =>
                          rw [hbo hgo] at hBe
                          repeat' (first | ((first | refine o1 rfl ?_ | refine o0 rfl ?_); intro k hk; simp (disch := omega) only [ev0, sl_cells, simprocAttr, slOf, eq_self, decide_true, decide_false, hdl2]; refine hk _ _ ?_; clear hk k) | refine ono rfl ?_ | (apply ocall; (case he => (simp only [ev0, sl_cells, simprocAttr] <;> rfl)); (case hc => first | exact hOr | exact hBe); (case ht => rfl); (case hg => rfl)) | ((first | refine osplitG rfl (fun h => ?_) (fun h => ?_) | refine osplitB rfl (fun h => ?_) (fun h => ?_)) <;> (fail_if_success (simp only [eq_self, reduceCtorEq] at h))) | refine onx ?_ | refine onb ?_ | refine sreg ?_ | refine qT rfl ?_ | refine qF rfl ?_ | refine scondT rfl ?_ | refine scondF rfl ?_ | refine ocondP rfl (fun h => ?_) (fun h => ?_) | refine ocondB rfl (fun h => ?_) (fun h => ?_) | refine scondP rfl (fun h => ?_) (fun h => ?_) | refine scond rfl (fun h => ?_) (fun h => ?_) | refine oskip ?_ | refine oskipb ?_ | refine oret ?_ | refine sem_ret ?_ | refine sem_seq ?_ | refine sreg1 ?_)
                          refine sem_block ?_
                          
                          refine sem_loop (α := Nat) (fun y => ⟨[(1, slOf intCs b), (4, .ptr 0 0 2 0 0), (7, .ptr 1 0 2 0 0), (9, slOf intCs d), (11, slOf intCs l), (17, I y)], [.row 25 0 2 [t.cs], .row 53 0 2 [x.cs]]⟩) (fun y => y ≤ t.houses.length) (fun y => t.houses.length - y) 0 (Nat.zero_le _) ?_ ?_
                          · (refine Le.same ?_; simp only [List.forall_mem_cons, List.forall_mem_nil, getE, selE, Nat.reduceBEq, List.not_mem_nil, false_implies, implies_true, and_true, true_and, and_self])
                            simp [slOf]
                          · intro y hy
                            have hmy := fun h => hmend y h
                            have hW1 := WithoutO (K := ⟨Try.prog, w0, S0, G, hG0⟩) rfl hG b d (by omega) (by omega)
                            have hwl := without_len b d
                            have hwm : ∀ z ∈ withoutL b d, 0 ≤ z ∧ z < t.sites.length := fun z hz => hc.mem z (mem_without.1 hz).1
                            generalize withoutL b d = W at *
                            repeat' (first | ((first | refine o1 rfl ?_ | refine o0 rfl ?_); intro k hk; simp (disch := omega) only [ev0, sl_cells, simprocAttr, slOf, CoolTown.cs]; refine hk _ _ ?_; clear hk k) | refine ono rfl ?_ | ((first | refine osplitG rfl (fun h => ?_) (fun h => ?_) | refine osplitB rfl (fun h => ?_) (fun h => ?_)) <;> (fail_if_success (simp only [eq_self, reduceCtorEq] at h))) | refine onx ?_ | refine onb ?_ | refine sreg ?_ | refine qT rfl ?_ | refine qF rfl ?_ | refine scondT rfl ?_ | refine scondF rfl ?_ | refine ocondP rfl (fun h => ?_) (fun h => ?_) | refine ocondB rfl (fun h => ?_) (fun h => ?_) | refine scondP rfl (fun h => ?_) (fun h => ?_) | refine scond rfl (fun h => ?_) (fun h => ?_) | refine oskip ?_ | refine oskipb ?_ | refine oret ?_ | refine sem_ret ?_ | refine sem_seq ?_ | refine sreg1 ?_)
                            · have hy' : y < t.houses.length := by omega
                              replace hmy := hmy hy'
                              have hW2 := hW1.placed1 (μ2 := [.row 25 0 2 [t.cs], .row 53 0 2 [x.cs]]) (args2 := [slOf intCs b, slOf intCs d]) (x2 := .hsl 2 W.length 1 W.length) (ν2 := [.row 25 0 2 [t.cs], .row 53 0 2 [x.cs], .row 3 W.length 1 (rowL intCs W)]) [] rfl rfl rfl rfl rfl (by
                                change [_, _] ++ [renO _ (.row 3 W.length 1 (rowL intCs W))] = _
                                simp only [renO, rowL_ren (enc := intCs) (fun _ => rfl)]
                                rfl)
                              refine sem_block ?_
                              repeat' (first | ((first | refine o1 rfl ?_ | refine o0 rfl ?_); intro k hk; simp (disch := omega) only [ev0, sl_cells, simprocAttr, slOf]; refine hk _ _ ?_; clear hk k) | refine ono rfl ?_ | ((first | refine osplitG rfl (fun h => ?_) (fun h => ?_) | refine osplitB rfl (fun h => ?_) (fun h => ?_)) <;> (fail_if_success (simp only [eq_self, reduceCtorEq] at h))) | refine onx ?_ | refine onb ?_ | refine sreg ?_ | refine qT rfl ?_ | refine qF rfl ?_ | refine scondT rfl ?_ | refine scondF rfl ?_ | refine ocondP rfl (fun h => ?_) (fun h => ?_) | refine ocondB rfl (fun h => ?_) (fun h => ?_) | refine scondP rfl (fun h => ?_) (fun h => ?_) | refine scond rfl (fun h => ?_) (fun h => ?_) | refine oskip ?_ | refine oskipb ?_ | refine oret ?_ | refine sem_ret ?_ | refine sem_seq ?_ | refine sreg1 ?_)
                              refine semL_acall rfl (by exact hW2) fun ae μ hr => ?_
                              obtain ⟨rfl, rfl⟩ := hr
                              change semL _ _ _ ⟨(_, _) :: _, _⟩ _
                              repeat' (first | ((first | refine o1 rfl ?_ | refine o0 rfl ?_); intro k hk; simp (disch := omega) only [ev0, sl_cells, simprocAttr]; refine hk _ _ ?_; clear hk k) | refine ono rfl ?_ | ((first | refine osplitG rfl (fun h => ?_) (fun h => ?_) | refine osplitB rfl (fun h => ?_) (fun h => ?_)) <;> (fail_if_success (simp only [eq_self, reduceCtorEq] at h))) | refine onx ?_ | refine onb ?_ | refine sreg ?_ | refine qT rfl ?_ | refine qF rfl ?_ | refine scondT rfl ?_ | refine scondF rfl ?_ | refine ocondP rfl (fun h => ?_) (fun h => ?_) | refine ocondB rfl (fun h => ?_) (fun h => ?_) | refine scondP rfl (fun h => ?_) (fun h => ?_) | refine scond rfl (fun h => ?_) (fun h => ?_) | refine oskip ?_ | refine oskipb ?_ | refine oret ?_ | refine sem_ret ?_ | refine sem_seq ?_ | refine sreg1 ?_)
                              refine sem_block ?_
                              have hw0 : workL t W l (t.houses.getD y default).grace 0 = W := by simp [workL]
                              have hws := fun i => workL_succ t W l (t.houses.getD y default).grace i
                              have hwkl := fun i => workL_len t W l (t.houses.getD y default).grace i
                              have hwkm := fun z => workL_mem (t := t) (W := W) (gr := (t.houses.getD y default).grace) (Nat.le_refl l.length) z
                              generalize hwk : workL t W l (t.houses.getD y default).grace = wk at *
                              
                              refine sem_loop (α := Nat) (fun i => ⟨[(1, slOf intCs b), (4, .ptr 0 0 2 0 0), (7, .ptr 1 0 2 0 0), (9, slOf intCs d), (11, slOf intCs l), (17, I y), (18, .hsl 2 (wk i).length 1 (wk i).length), (19, I (weeksL t (l.take i))), (20, I i)], [.row 25 0 2 [t.cs], .row 53 0 2 [x.cs], .row 3 (wk i).length 1 (rowL intCs (wk i))]⟩) (fun i => i ≤ l.length) (fun i => l.length - i) 0 (Nat.zero_le _) ?_ ?_
                              · rw [hw0]
                                (refine Le.same ?_; simp only [List.forall_mem_cons, List.forall_mem_nil, getE, selE, Nat.reduceBEq, List.not_mem_nil, false_implies, implies_true, and_true, true_and, and_self])
                                simp [slOf, CoolTown.cs, weeksL, sumL]
                              · intro i hi
                                have hwki := hwkl i
                                have hwsi := hws i
                                have hwb := weeksL_bound ok hlb i
                                repeat' (first | ((first | refine o1 rfl ?_ | refine o0 rfl ?_); intro k hk; simp (disch := omega) only [ev0, sl_cells, simprocAttr, slOf]; refine hk _ _ ?_; clear hk k) | refine ono rfl ?_ | ((first | refine osplitG rfl (fun h => ?_) (fun h => ?_) | refine osplitB rfl (fun h => ?_) (fun h => ?_)) <;> (fail_if_success (simp only [eq_self, reduceCtorEq] at h))) | refine onx ?_ | refine onb ?_ | refine sreg ?_ | refine qT rfl ?_ | refine qF rfl ?_ | refine scondT rfl ?_ | refine scondF rfl ?_ | refine ocondP rfl (fun h => ?_) (fun h => ?_) | refine ocondB rfl (fun h => ?_) (fun h => ?_) | refine scondP rfl (fun h => ?_) (fun h => ?_) | refine scond rfl (fun h => ?_) (fun h => ?_) | refine oskip ?_ | refine oskipb ?_ | refine oret ?_ | refine sem_ret ?_ | refine sem_seq ?_ | refine sreg1 ?_)
                                · have hi' : i < l.length := by omega
                                  have hwi := hlb (l.getD i default) (by rw [getD_lt hi']; exact List.getElem_mem _)
                                  have hwo := weeksOf_bound ok hwi
                                  have hsw := weeksL_succ (t := t) hi'
                                  obtain ⟨n, hn'⟩ := Int.eq_ofNat_of_zero_le hwi.1
                                  generalize hwv : l.getD i default = v at *
                                  subst hn'
                                  have hnl : n < t.sites.length := by omega
                                  have hgo2 : weeksOf t (n : Int) = (t.sites.getD n default).weeks := rfl
                                  rw [hgo2] at hwo hsw
                                  have hsw' := hsw.symm
                                  generalize hL : wk i = L at *
                                  have e1 := rowL_take (enc := intCs) (l := L)
                                  refine sem_block ?_
                                  repeat' (first | ((first | refine o1 rfl ?_ | refine o0 rfl ?_); intro k hk; simp (disch := omega) only [ev0, sl_cells, simprocAttr]; refine hk _ _ ?_; clear hk k) | refine ono rfl ?_ | ((first | refine osplitG rfl (fun h => ?_) (fun h => ?_) | refine osplitB rfl (fun h => ?_) (fun h => ?_)) <;> (fail_if_success (simp only [eq_self, reduceCtorEq] at h))) | refine onx ?_ | refine onb ?_ | refine sreg ?_ | refine qT rfl ?_ | refine qF rfl ?_ | refine scondT rfl ?_ | refine scondF rfl ?_ | refine ocondP rfl (fun h => ?_) (fun h => ?_) | refine ocondB rfl (fun h => ?_) (fun h => ?_) | refine scondP rfl (fun h => ?_) (fun h => ?_) | refine scond rfl (fun h => ?_) (fun h => ?_) | refine oskip ?_ | refine oskipb ?_ | refine oret ?_ | refine sem_ret ?_ | refine sem_seq ?_ | refine sreg1 ?_)
                                  by_cases hgr : weeksL t (l.take (i + 1)) ≤ (t.houses.getD y default).grace
                                  · rw [if_pos hgr] at hwsi
                                    ((refine sem_mgo 10 hmix (by kernel_rfl) ?_; simp only [nt]); (repeat' (first | ((first | apply mop | apply mop0); (case hg => rfl); (case hq => rfl); intro k hk; simp (disch := omega) only [ev0, sl_cells, simprocAttr, slOf, intCs, CoolTown.cs, CoolSite.cs, CoolHouse.cs, hwv, hsw', hgr, decide_true]; refine hk _ _ rfl ?_; clear hk k) | (apply mno; (case hg => rfl)) | (apply mbox; (case hx => (simp only [wv, simprocAttr] <;> rfl)); (case hg => rfl); (case hall => rfl); (case hr => rfl); simp only [nm, Nat.reduceAdd]) | (apply mbldS; (case hb => (simp (disch := omega) only [ev0, sl_cells, simprocAttr] <;> rfl)); (case hg => rfl); (case hr => rfl); simp only [nm, Nat.reduceAdd]) | ((first | (apply msto (q := 0); (case hq => rfl)) | (apply msto (q := 1); (case hq => rfl)) | (apply msto (q := 2); (case hq => rfl)) | (apply msto (q := 3); (case hq => rfl))); (case hx => (simp only [wv, simprocAttr] <;> rfl)); (case haddr => (simp only [wv, simprocAttr] <;> rfl)); (case hg => rfl); (case hl1 => rfl); (case hl2 => rfl); (case hok => rfl); (case hr => rfl); simp only [nm, Nat.reduceAdd]) | (apply mnil; simp only [SlotR.fin, ns]) | (refine msplit rfl (fun h => ?_) (fun h => ?_) <;> simp only [h] <;> (try simp only [nb] at h)))) <;> (repeat' (first | ((first | refine o1 rfl ?_ | refine o0 rfl ?_); intro k hk; simp (disch := omega) only [ev0, sl_cells, simprocAttr, slOf, intCs, CoolTown.cs, CoolSite.cs, CoolHouse.cs, hwv, hsw', hgr, decide_true]; refine hk _ _ ?_; clear hk k) | refine ono rfl ?_ | ((first | refine osplitG rfl (fun h => ?_) (fun h => ?_) | refine osplitB rfl (fun h => ?_) (fun h => ?_)) <;> (fail_if_success (simp only [eq_self, reduceCtorEq] at h))) | refine onx ?_ | refine onb ?_ | refine sreg ?_ | refine qT rfl ?_ | refine qF rfl ?_ | refine scondT rfl ?_ | refine scondF rfl ?_ | refine ocondP rfl (fun h => ?_) (fun h => ?_) | refine ocondB rfl (fun h => ?_) (fun h => ?_) | refine scondP rfl (fun h => ?_) (fun h => ?_) | refine scond rfl (fun h => ?_) (fun h => ?_) | refine oskip ?_ | refine oskipb ?_ | refine oret ?_ | refine sem_ret ?_ | refine sem_seq ?_ | refine sreg1 ?_)))
                                    refine onil (lnext (i + 1) (by omega) (by omega) ?_)
                                    rw [hwsi, e1, show ∀ v : Int, [[AV.int .i64 v]] = [intCs v] from fun _ => rfl, rowL_snoc, List.length_append]
                                    (refine Le.drop ?_ rfl (by simp) rfl (by simp only [refM, refO, List.all_cons, List.all_nil, Bool.and_true, Bool.true_and, rowL_all (enc := intCs) (fun _ _ => rfl), CoolTown.cs, CoolTruth.cs]; first | done | rfl) ; simp only [List.forall_mem_cons, List.forall_mem_nil, getE, selE, Nat.reduceBEq, List.not_mem_nil, false_implies, implies_true, and_true, true_and, and_self])
                                    simp [slOf, CoolTown.cs]
                                  · rw [if_neg hgr] at hwsi
                                    ((refine sem_mgo 10 hmix (by kernel_rfl) ?_; simp only [nt]); (repeat' (first | ((first | apply mop | apply mop0); (case hg => rfl); (case hq => rfl); intro k hk; simp (disch := omega) only [ev0, sl_cells, simprocAttr, slOf, intCs, CoolTown.cs, CoolSite.cs, CoolHouse.cs, hwv, hsw', hgr, decide_false]; refine hk _ _ rfl ?_; clear hk k) | (apply mno; (case hg => rfl)) | (apply mbox; (case hx => (simp only [wv, simprocAttr] <;> rfl)); (case hg => rfl); (case hall => rfl); (case hr => rfl); simp only [nm, Nat.reduceAdd]) | (apply mbldS; (case hb => (simp (disch := omega) only [ev0, sl_cells, simprocAttr] <;> rfl)); (case hg => rfl); (case hr => rfl); simp only [nm, Nat.reduceAdd]) | ((first | (apply msto (q := 0); (case hq => rfl)) | (apply msto (q := 1); (case hq => rfl)) | (apply msto (q := 2); (case hq => rfl)) | (apply msto (q := 3); (case hq => rfl))); (case hx => (simp only [wv, simprocAttr] <;> rfl)); (case haddr => (simp only [wv, simprocAttr] <;> rfl)); (case hg => rfl); (case hl1 => rfl); (case hl2 => rfl); (case hok => rfl); (case hr => rfl); simp only [nm, Nat.reduceAdd]) | (apply mnil; simp only [SlotR.fin, ns]) | (refine msplit rfl (fun h => ?_) (fun h => ?_) <;> simp only [h] <;> (try simp only [nb] at h)))) <;> (repeat' (first | ((first | refine o1 rfl ?_ | refine o0 rfl ?_); intro k hk; simp (disch := omega) only [ev0, sl_cells, simprocAttr, slOf, intCs, CoolTown.cs, CoolSite.cs, CoolHouse.cs, hwv, hsw', hgr, decide_false]; refine hk _ _ ?_; clear hk k) | refine ono rfl ?_ | ((first | refine osplitG rfl (fun h => ?_) (fun h => ?_) | refine osplitB rfl (fun h => ?_) (fun h => ?_)) <;> (fail_if_success (simp only [eq_self, reduceCtorEq] at h))) | refine onx ?_ | refine onb ?_ | refine sreg ?_ | refine qT rfl ?_ | refine qF rfl ?_ | refine scondT rfl ?_ | refine scondF rfl ?_ | refine ocondP rfl (fun h => ?_) (fun h => ?_) | refine ocondB rfl (fun h => ?_) (fun h => ?_) | refine scondP rfl (fun h => ?_) (fun h => ?_) | refine scond rfl (fun h => ?_) (fun h => ?_) | refine oskip ?_ | refine oskipb ?_ | refine oret ?_ | refine sem_ret ?_ | refine sem_seq ?_ | refine sreg1 ?_)))
                                    refine onil (lnext (i + 1) (by omega) (by omega) ?_)
                                    rw [hwsi]
                                    (refine Le.same ?_; simp only [List.forall_mem_cons, List.forall_mem_nil, getE, selE, Nat.reduceBEq, List.not_mem_nil, false_implies, implies_true, and_true, true_and, and_self])
                                    simp [slOf, CoolTown.cs]
                                · have hi' : i = l.length := by omega
                                  subst hi'
                                  have hwkb : ∀ z ∈ wk l.length, 0 ≤ z ∧ z < t.sites.length := fun z hz => (hwkm z hz).elim (hwm z) (hlb z)
                                  generalize wk l.length = w at *
                                  have hh2 : y < x.needs.length := by rw [hxb.nl]; exact hy'
                                  have hnb := hxb.nb (x.needs.getD y default) (by rw [getD_lt hh2]; exact List.getElem_mem _)
                                  (refine sem_exit ?_; change sem _ _ _ _ _)
                                  refine sem_frzlist (enc := intCs) (l := w) 2 rfl (fun _ => rfl) ?_
                                  simp only [frzE, frzM, frzO, frzA, frzL, List.map_cons, List.map_nil, List.set_cons_zero, List.set_cons_succ, Nat.reduceEqDiff, if_true, if_false, and_self, Nat.le_refl, reduceIte, frz_sl, frz_town, frz_truth]
                                  repeat' (first | ((first | refine o1 rfl ?_ | refine o0 rfl ?_); intro k hk; simp (disch := omega) only [ev0, sl_cells, simprocAttr, CoolTruth.cs, slOf, intCs]; refine hk _ _ ?_; clear hk k) | refine ono rfl ?_ | ((first | refine osplitG rfl (fun h => ?_) (fun h => ?_) | refine osplitB rfl (fun h => ?_) (fun h => ?_)) <;> (fail_if_success (simp only [eq_self, reduceCtorEq] at h))) | refine onx ?_ | refine onb ?_ | refine sreg ?_ | refine qT rfl ?_ | refine qF rfl ?_ | refine scondT rfl ?_ | refine scondF rfl ?_ | refine ocondP rfl (fun h => ?_) (fun h => ?_) | refine ocondB rfl (fun h => ?_) (fun h => ?_) | refine scondP rfl (fun h => ?_) (fun h => ?_) | refine scond rfl (fun h => ?_) (fun h => ?_) | refine oskip ?_ | refine oskipb ?_ | refine oret ?_ | refine sem_ret ?_ | refine sem_seq ?_ | refine sreg1 ?_)
                                  refine sem_block ?_
                                  
                                  refine sem_loop (α := Nat) (fun i => ⟨[(1, slOf intCs b), (4, .ptr 0 0 2 0 0), (7, .ptr 1 0 2 0 0), (9, slOf intCs d), (11, slOf intCs l), (17, I y), (18, slOf intCs w), (21, I (-(x.needs.getD y default) + sumL ((w.take i).map (giveOf x y)))), (22, I i)], [.row 25 0 2 [t.cs], .row 53 0 2 [x.cs]]⟩) (fun i => i ≤ w.length) (fun i => w.length - i) 0 (Nat.zero_le _) ?_ ?_
                                  · (refine Le.drop ?_ rfl (by simp) rfl (by simp only [refM, refO, List.all_cons, List.all_nil, Bool.and_true, Bool.true_and, CoolTown.cs, CoolTruth.cs, slOf, refL, refA]; first | done | rfl) ; simp only [List.forall_mem_cons, List.forall_mem_nil, getE, selE, Nat.reduceBEq, List.not_mem_nil, false_implies, implies_true, and_true, true_and, and_self])
                                    simp [CoolTown.cs, CoolTruth.cs, slOf, sumL]
                                  · intro i hi
                                    have hbi := sumL_bound (c := 1000000) (l := (w.take i).map (giveOf x y)) fun v hv => by
                                      obtain ⟨j, hj, rfl⟩ := List.mem_map.1 hv
                                      exact giveOf_bound hxb hy' (hwkb j (List.mem_of_mem_take hj))
                                    rw [List.length_map, List.length_take] at hbi
                                    repeat' (first | ((first | refine o1 rfl ?_ | refine o0 rfl ?_); intro k hk; simp (disch := omega) only [ev0, sl_cells, simprocAttr, slOf]; refine hk _ _ ?_; clear hk k) | refine ono rfl ?_ | ((first | refine osplitG rfl (fun h => ?_) (fun h => ?_) | refine osplitB rfl (fun h => ?_) (fun h => ?_)) <;> (fail_if_success (simp only [eq_self, reduceCtorEq] at h))) | refine onx ?_ | refine onb ?_ | refine sreg ?_ | refine qT rfl ?_ | refine qF rfl ?_ | refine scondT rfl ?_ | refine scondF rfl ?_ | refine ocondP rfl (fun h => ?_) (fun h => ?_) | refine ocondB rfl (fun h => ?_) (fun h => ?_) | refine scondP rfl (fun h => ?_) (fun h => ?_) | refine scond rfl (fun h => ?_) (fun h => ?_) | refine oskip ?_ | refine oskipb ?_ | refine oret ?_ | refine sem_ret ?_ | refine sem_seq ?_ | refine sreg1 ?_)
                                    · have hi' : i < w.length := by omega
                                      have hwi := hwkb (w.getD i default) (by rw [getD_lt hi']; exact List.getElem_mem _)
                                      have hgb := giveOf_bound hxb hy' hwi
                                      have htk := map_take_getD (giveOf x y) hi'
                                      obtain ⟨n, hn'⟩ := Int.eq_ofNat_of_zero_le hwi.1
                                      generalize hwv : w.getD i default = v at *
                                      subst hn'
                                      have hnl : n < x.gives.length := by rw [hxb.gl]; omega
                                      have hgl := (hxb.g _ (List.getElem_mem hnl)).1
                                      rw [← getD_lt hnl] at hgl
                                      have hgo3 : giveOf x y (n : Int) = (x.gives.getD n default).getD y default := rfl
                                      rw [hgo3] at hgb
                                      refine sem_block ?_
                                      repeat' (first | ((first | refine o1 rfl ?_ | refine o0 rfl ?_); intro k hk; simp (disch := omega) only [ev0, sl_cells, simprocAttr]; refine hk _ _ ?_; clear hk k) | refine ono rfl ?_ | ((first | refine osplitG rfl (fun h => ?_) (fun h => ?_) | refine osplitB rfl (fun h => ?_) (fun h => ?_)) <;> (fail_if_success (simp only [eq_self, reduceCtorEq] at h))) | refine onx ?_ | refine onb ?_ | refine sreg ?_ | refine qT rfl ?_ | refine qF rfl ?_ | refine scondT rfl ?_ | refine scondF rfl ?_ | refine ocondP rfl (fun h => ?_) (fun h => ?_) | refine ocondB rfl (fun h => ?_) (fun h => ?_) | refine scondP rfl (fun h => ?_) (fun h => ?_) | refine scond rfl (fun h => ?_) (fun h => ?_) | refine oskip ?_ | refine oskipb ?_ | refine oret ?_ | refine sem_ret ?_ | refine sem_seq ?_ | refine sreg1 ?_)
                                      ((refine sem_mgo 12 hmix (by kernel_rfl) ?_; simp only [nt]); (repeat' (first | ((first | apply mop | apply mop0); (case hg => rfl); (case hq => rfl); intro k hk; simp (disch := omega) only [ev0, sl_cells, simprocAttr, slOf, intCs, intsCs, CoolTruth.cs, hwv]; refine hk _ _ rfl ?_; clear hk k) | (apply mno; (case hg => rfl)) | (apply mbox; (case hx => (simp only [wv, simprocAttr] <;> rfl)); (case hg => rfl); (case hall => rfl); (case hr => rfl); simp only [nm, Nat.reduceAdd]) | (apply mbldS; (case hb => (simp (disch := omega) only [ev0, sl_cells, simprocAttr] <;> rfl)); (case hg => rfl); (case hr => rfl); simp only [nm, Nat.reduceAdd]) | ((first | (apply msto (q := 0); (case hq => rfl)) | (apply msto (q := 1); (case hq => rfl)) | (apply msto (q := 2); (case hq => rfl)) | (apply msto (q := 3); (case hq => rfl))); (case hx => (simp only [wv, simprocAttr] <;> rfl)); (case haddr => (simp only [wv, simprocAttr] <;> rfl)); (case hg => rfl); (case hl1 => rfl); (case hl2 => rfl); (case hok => rfl); (case hr => rfl); simp only [nm, Nat.reduceAdd]) | (apply mnil; simp only [SlotR.fin, ns]) | (refine msplit rfl (fun h => ?_) (fun h => ?_) <;> simp only [h] <;> (try simp only [nb] at h)))) <;> (repeat' (first | ((first | refine o1 rfl ?_ | refine o0 rfl ?_); intro k hk; simp (disch := omega) only [ev0, sl_cells, simprocAttr, slOf, intCs, intsCs, CoolTruth.cs, hwv]; refine hk _ _ ?_; clear hk k) | refine ono rfl ?_ | ((first | refine osplitG rfl (fun h => ?_) (fun h => ?_) | refine osplitB rfl (fun h => ?_) (fun h => ?_)) <;> (fail_if_success (simp only [eq_self, reduceCtorEq] at h))) | refine onx ?_ | refine onb ?_ | refine sreg ?_ | refine qT rfl ?_ | refine qF rfl ?_ | refine scondT rfl ?_ | refine scondF rfl ?_ | refine ocondP rfl (fun h => ?_) (fun h => ?_) | refine ocondB rfl (fun h => ?_) (fun h => ?_) | refine scondP rfl (fun h => ?_) (fun h => ?_) | refine scond rfl (fun h => ?_) (fun h => ?_) | refine oskip ?_ | refine oskipb ?_ | refine oret ?_ | refine sem_ret ?_ | refine sem_seq ?_ | refine sreg1 ?_)))
                                      refine onil (lnext (i + 1) (by omega) (by omega) ?_)
                                      rw [htk, sumL_append]
                                      (refine Le.same ?_; simp only [List.forall_mem_cons, List.forall_mem_nil, getE, selE, Nat.reduceBEq, List.not_mem_nil, false_implies, implies_true, and_true, true_and, and_self])
                                      simp [CoolTown.cs, CoolTruth.cs, slOf, sumL, hgo3, Int.add_assoc]
                                    · have hi' : i = w.length := by omega
                                      subst hi'
                                      rw [List.take_length] at *
                                      unfold over1 at hmy
                                      have hov : ¬ (-(x.needs.getD y default) + sumL (w.map (giveOf x y))) < 0 := by omega
                                      (refine sem_exit ?_; change sem _ _ _ _ _)
                                      repeat' (first | ((first | refine o1 rfl ?_ | refine o0 rfl ?_); intro k hk; simp (disch := omega) only [ev0, sl_cells, simprocAttr, hov, decide_false]; refine hk _ _ ?_; clear hk k) | refine ono rfl ?_ | ((first | refine osplitG rfl (fun h => ?_) (fun h => ?_) | refine osplitB rfl (fun h => ?_) (fun h => ?_)) <;> (fail_if_success (simp only [eq_self, reduceCtorEq] at h))) | refine onx ?_ | refine onb ?_ | refine sreg ?_ | refine qT rfl ?_ | refine qF rfl ?_ | refine scondT rfl ?_ | refine scondF rfl ?_ | refine ocondP rfl (fun h => ?_) (fun h => ?_) | refine ocondB rfl (fun h => ?_) (fun h => ?_) | refine scondP rfl (fun h => ?_) (fun h => ?_) | refine scond rfl (fun h => ?_) (fun h => ?_) | refine oskip ?_ | refine oskipb ?_ | refine oret ?_ | refine sem_ret ?_ | refine sem_seq ?_ | refine sreg1 ?_)
                                      refine onil (lnext (y + 1) (by omega) (by omega) ?_)
                                      (refine Le.same ?_; simp only [List.forall_mem_cons, List.forall_mem_nil, getE, selE, Nat.reduceBEq, List.not_mem_nil, false_implies, implies_true, and_true, true_and, and_self])
                                      simp [CoolTown.cs, CoolTruth.cs, slOf]
                            · have hy' : y = t.houses.length := by omega
                              subst hy'
                              (refine sem_exit ?_; change sem _ _ _ _ _)
                              repeat' (first | ((first | refine o1 rfl ?_ | refine o0 rfl ?_); intro k hk; simp (disch := omega) only [ev0, sl_cells, simprocAttr]; refine hk _ _ ?_; clear hk k) | refine ono rfl ?_ | (apply ocall; (case he => (simp only [ev0, sl_cells, simprocAttr] <;> rfl)); (case hc => first | exact hK); (case ht => rfl); (case hg => rfl)) | ((first | refine osplitG rfl (fun h => ?_) (fun h => ?_) | refine osplitB rfl (fun h => ?_) (fun h => ?_)) <;> (fail_if_success (simp only [eq_self, reduceCtorEq] at h))) | refine onx ?_ | refine onb ?_ | refine sreg ?_ | refine qT rfl ?_ | refine qF rfl ?_ | refine scondT rfl ?_ | refine scondF rfl ?_ | refine ocondP rfl (fun h => ?_) (fun h => ?_) | refine ocondB rfl (fun h => ?_) (fun h => ?_) | refine scondP rfl (fun h => ?_) (fun h => ?_) | refine scond rfl (fun h => ?_) (fun h => ?_) | refine oskip ?_ | refine oskipb ?_ | refine oret ?_ | refine sem_ret ?_ | refine sem_seq ?_ | refine sreg1 ?_)
                              exact ⟨_, rfl, _, rfl, tree_eq rfl rfl⟩
                        | false =>
                          repeat' (first | ((first | refine o1 rfl ?_ | refine o0 rfl ?_); intro k hk; simp (disch := omega) only [ev0, sl_cells, simprocAttr, slOf, eq_self, decide_true, decide_false, hdl2]; refine hk _ _ ?_; clear hk k) | refine ono rfl ?_ | (apply ocall; (case he => (simp only [ev0, sl_cells, simprocAttr] <;> rfl)); (case hc => first | exact hOr); (case ht => rfl); (case hg => rfl)) | ((first | refine osplitG rfl (fun h => ?_) (fun h => ?_) | refine osplitB rfl (fun h => ?_) (fun h => ?_)) <;> (fail_if_success (simp only [eq_self, reduceCtorEq] at h))) | refine onx ?_ | refine onb ?_ | refine sreg ?_ | refine qT rfl ?_ | refine qF rfl ?_ | refine scondT rfl ?_ | refine scondF rfl ?_ | refine ocondP rfl (fun h => ?_) (fun h => ?_) | refine ocondB rfl (fun h => ?_) (fun h => ?_) | refine scondP rfl (fun h => ?_) (fun h => ?_) | refine scond rfl (fun h => ?_) (fun h => ?_) | refine oskip ?_ | refine oskipb ?_ | refine oret ?_ | refine sem_ret ?_ | refine sem_seq ?_ | refine sreg1 ?_)
                          refine sem_block ?_
                          
                          refine sem_loop (α := Nat) (fun y => ⟨[(1, slOf intCs b), (4, .ptr 0 0 2 0 0), (7, .ptr 1 0 2 0 0), (9, slOf intCs d), (11, slOf intCs l), (17, I y)], [.row 25 0 2 [t.cs], .row 53 0 2 [x.cs]]⟩) (fun y => y ≤ t.houses.length) (fun y => t.houses.length - y) 0 (Nat.zero_le _) ?_ ?_
                          · (refine Le.same ?_; simp only [List.forall_mem_cons, List.forall_mem_nil, getE, selE, Nat.reduceBEq, List.not_mem_nil, false_implies, implies_true, and_true, true_and, and_self])
                            simp [slOf]
                          · intro y hy
                            have hmy := fun h => hmend y h
                            have hW1 := WithoutO (K := ⟨Try.prog, w0, S0, G, hG0⟩) rfl hG b d (by omega) (by omega)
                            have hwl := without_len b d
                            have hwm : ∀ z ∈ withoutL b d, 0 ≤ z ∧ z < t.sites.length := fun z hz => hc.mem z (mem_without.1 hz).1
                            generalize withoutL b d = W at *
                            repeat' (first | ((first | refine o1 rfl ?_ | refine o0 rfl ?_); intro k hk; simp (disch := omega) only [ev0, sl_cells, simprocAttr, slOf, CoolTown.cs]; refine hk _ _ ?_; clear hk k) | refine ono rfl ?_ | ((first | refine osplitG rfl (fun h => ?_) (fun h => ?_) | refine osplitB rfl (fun h => ?_) (fun h => ?_)) <;> (fail_if_success (simp only [eq_self, reduceCtorEq] at h))) | refine onx ?_ | refine onb ?_ | refine sreg ?_ | refine qT rfl ?_ | refine qF rfl ?_ | refine scondT rfl ?_ | refine scondF rfl ?_ | refine ocondP rfl (fun h => ?_) (fun h => ?_) | refine ocondB rfl (fun h => ?_) (fun h => ?_) | refine scondP rfl (fun h => ?_) (fun h => ?_) | refine scond rfl (fun h => ?_) (fun h => ?_) | refine oskip ?_ | refine oskipb ?_ | refine oret ?_ | refine sem_ret ?_ | refine sem_seq ?_ | refine sreg1 ?_)
                            · have hy' : y < t.houses.length := by omega
                              replace hmy := hmy hy'
                              have hW2 := hW1.placed1 (μ2 := [.row 25 0 2 [t.cs], .row 53 0 2 [x.cs]]) (args2 := [slOf intCs b, slOf intCs d]) (x2 := .hsl 2 W.length 1 W.length) (ν2 := [.row 25 0 2 [t.cs], .row 53 0 2 [x.cs], .row 3 W.length 1 (rowL intCs W)]) [] rfl rfl rfl rfl rfl (by
                                change [_, _] ++ [renO _ (.row 3 W.length 1 (rowL intCs W))] = _
                                simp only [renO, rowL_ren (enc := intCs) (fun _ => rfl)]
                                rfl)
                              refine sem_block ?_
                              repeat' (first | ((first | refine o1 rfl ?_ | refine o0 rfl ?_); intro k hk; simp (disch := omega) only [ev0, sl_cells, simprocAttr, slOf]; refine hk _ _ ?_; clear hk k) | refine ono rfl ?_ | ((first | refine osplitG rfl (fun h => ?_) (fun h => ?_) | refine osplitB rfl (fun h => ?_) (fun h => ?_)) <;> (fail_if_success (simp only [eq_self, reduceCtorEq] at h))) | refine onx ?_ | refine onb ?_ | refine sreg ?_ | refine qT rfl ?_ | refine qF rfl ?_ | refine scondT rfl ?_ | refine scondF rfl ?_ | refine ocondP rfl (fun h => ?_) (fun h => ?_) | refine ocondB rfl (fun h => ?_) (fun h => ?_) | refine scondP rfl (fun h => ?_) (fun h => ?_) | refine scond rfl (fun h => ?_) (fun h => ?_) | refine oskip ?_ | refine oskipb ?_ | refine oret ?_ | refine sem_ret ?_ | refine sem_seq ?_ | refine sreg1 ?_)
                              refine semL_acall rfl (by exact hW2) fun ae μ hr => ?_
                              obtain ⟨rfl, rfl⟩ := hr
                              change semL _ _ _ ⟨(_, _) :: _, _⟩ _
                              repeat' (first | ((first | refine o1 rfl ?_ | refine o0 rfl ?_); intro k hk; simp (disch := omega) only [ev0, sl_cells, simprocAttr]; refine hk _ _ ?_; clear hk k) | refine ono rfl ?_ | ((first | refine osplitG rfl (fun h => ?_) (fun h => ?_) | refine osplitB rfl (fun h => ?_) (fun h => ?_)) <;> (fail_if_success (simp only [eq_self, reduceCtorEq] at h))) | refine onx ?_ | refine onb ?_ | refine sreg ?_ | refine qT rfl ?_ | refine qF rfl ?_ | refine scondT rfl ?_ | refine scondF rfl ?_ | refine ocondP rfl (fun h => ?_) (fun h => ?_) | refine ocondB rfl (fun h => ?_) (fun h => ?_) | refine scondP rfl (fun h => ?_) (fun h => ?_) | refine scond rfl (fun h => ?_) (fun h => ?_) | refine oskip ?_ | refine oskipb ?_ | refine oret ?_ | refine sem_ret ?_ | refine sem_seq ?_ | refine sreg1 ?_)
                              refine sem_block ?_
                              have hw0 : workL t W l (t.houses.getD y default).grace 0 = W := by simp [workL]
                              have hws := fun i => workL_succ t W l (t.houses.getD y default).grace i
                              have hwkl := fun i => workL_len t W l (t.houses.getD y default).grace i
                              have hwkm := fun z => workL_mem (t := t) (W := W) (gr := (t.houses.getD y default).grace) (Nat.le_refl l.length) z
                              generalize hwk : workL t W l (t.houses.getD y default).grace = wk at *
                              
                              refine sem_loop (α := Nat) (fun i => ⟨[(1, slOf intCs b), (4, .ptr 0 0 2 0 0), (7, .ptr 1 0 2 0 0), (9, slOf intCs d), (11, slOf intCs l), (17, I y), (18, .hsl 2 (wk i).length 1 (wk i).length), (19, I (weeksL t (l.take i))), (20, I i)], [.row 25 0 2 [t.cs], .row 53 0 2 [x.cs], .row 3 (wk i).length 1 (rowL intCs (wk i))]⟩) (fun i => i ≤ l.length) (fun i => l.length - i) 0 (Nat.zero_le _) ?_ ?_
                              · rw [hw0]
                                (refine Le.same ?_; simp only [List.forall_mem_cons, List.forall_mem_nil, getE, selE, Nat.reduceBEq, List.not_mem_nil, false_implies, implies_true, and_true, true_and, and_self])
                                simp [slOf, CoolTown.cs, weeksL, sumL]
                              · intro i hi
                                have hwki := hwkl i
                                have hwsi := hws i
                                have hwb := weeksL_bound ok hlb i
                                repeat' (first | ((first | refine o1 rfl ?_ | refine o0 rfl ?_); intro k hk; simp (disch := omega) only [ev0, sl_cells, simprocAttr, slOf]; refine hk _ _ ?_; clear hk k) | refine ono rfl ?_ | ((first | refine osplitG rfl (fun h => ?_) (fun h => ?_) | refine osplitB rfl (fun h => ?_) (fun h => ?_)) <;> (fail_if_success (simp only [eq_self, reduceCtorEq] at h))) | refine onx ?_ | refine onb ?_ | refine sreg ?_ | refine qT rfl ?_ | refine qF rfl ?_ | refine scondT rfl ?_ | refine scondF rfl ?_ | refine ocondP rfl (fun h => ?_) (fun h => ?_) | refine ocondB rfl (fun h => ?_) (fun h => ?_) | refine scondP rfl (fun h => ?_) (fun h => ?_) | refine scond rfl (fun h => ?_) (fun h => ?_) | refine oskip ?_ | refine oskipb ?_ | refine oret ?_ | refine sem_ret ?_ | refine sem_seq ?_ | refine sreg1 ?_)
                                · have hi' : i < l.length := by omega
                                  have hwi := hlb (l.getD i default) (by rw [getD_lt hi']; exact List.getElem_mem _)
                                  have hwo := weeksOf_bound ok hwi
                                  have hsw := weeksL_succ (t := t) hi'
                                  obtain ⟨n, hn'⟩ := Int.eq_ofNat_of_zero_le hwi.1
                                  generalize hwv : l.getD i default = v at *
                                  subst hn'
                                  have hnl : n < t.sites.length := by omega
                                  have hgo2 : weeksOf t (n : Int) = (t.sites.getD n default).weeks := rfl
                                  rw [hgo2] at hwo hsw
                                  have hsw' := hsw.symm
                                  generalize hL : wk i = L at *
                                  have e1 := rowL_take (enc := intCs) (l := L)
                                  refine sem_block ?_
                                  repeat' (first | ((first | refine o1 rfl ?_ | refine o0 rfl ?_); intro k hk; simp (disch := omega) only [ev0, sl_cells, simprocAttr]; refine hk _ _ ?_; clear hk k) | refine ono rfl ?_ | ((first | refine osplitG rfl (fun h => ?_) (fun h => ?_) | refine osplitB rfl (fun h => ?_) (fun h => ?_)) <;> (fail_if_success (simp only [eq_self, reduceCtorEq] at h))) | refine onx ?_ | refine onb ?_ | refine sreg ?_ | refine qT rfl ?_ | refine qF rfl ?_ | refine scondT rfl ?_ | refine scondF rfl ?_ | refine ocondP rfl (fun h => ?_) (fun h => ?_) | refine ocondB rfl (fun h => ?_) (fun h => ?_) | refine scondP rfl (fun h => ?_) (fun h => ?_) | refine scond rfl (fun h => ?_) (fun h => ?_) | refine oskip ?_ | refine oskipb ?_ | refine oret ?_ | refine sem_ret ?_ | refine sem_seq ?_ | refine sreg1 ?_)
                                  by_cases hgr : weeksL t (l.take (i + 1)) ≤ (t.houses.getD y default).grace
                                  · rw [if_pos hgr] at hwsi
                                    ((refine sem_mgo 10 hmix (by kernel_rfl) ?_; simp only [nt]); (repeat' (first | ((first | apply mop | apply mop0); (case hg => rfl); (case hq => rfl); intro k hk; simp (disch := omega) only [ev0, sl_cells, simprocAttr, slOf, intCs, CoolTown.cs, CoolSite.cs, CoolHouse.cs, hwv, hsw', hgr, decide_true]; refine hk _ _ rfl ?_; clear hk k) | (apply mno; (case hg => rfl)) | (apply mbox; (case hx => (simp only [wv, simprocAttr] <;> rfl)); (case hg => rfl); (case hall => rfl); (case hr => rfl); simp only [nm, Nat.reduceAdd]) | (apply mbldS; (case hb => (simp (disch := omega) only [ev0, sl_cells, simprocAttr] <;> rfl)); (case hg => rfl); (case hr => rfl); simp only [nm, Nat.reduceAdd]) | ((first | (apply msto (q := 0); (case hq => rfl)) | (apply msto (q := 1); (case hq => rfl)) | (apply msto (q := 2); (case hq => rfl)) | (apply msto (q := 3); (case hq => rfl))); (case hx => (simp only [wv, simprocAttr] <;> rfl)); (case haddr => (simp only [wv, simprocAttr] <;> rfl)); (case hg => rfl); (case hl1 => rfl); (case hl2 => rfl); (case hok => rfl); (case hr => rfl); simp only [nm, Nat.reduceAdd]) | (apply mnil; simp only [SlotR.fin, ns]) | (refine msplit rfl (fun h => ?_) (fun h => ?_) <;> simp only [h] <;> (try simp only [nb] at h)))) <;> (repeat' (first | ((first | refine o1 rfl ?_ | refine o0 rfl ?_); intro k hk; simp (disch := omega) only [ev0, sl_cells, simprocAttr, slOf, intCs, CoolTown.cs, CoolSite.cs, CoolHouse.cs, hwv, hsw', hgr, decide_true]; refine hk _ _ ?_; clear hk k) | refine ono rfl ?_ | ((first | refine osplitG rfl (fun h => ?_) (fun h => ?_) | refine osplitB rfl (fun h => ?_) (fun h => ?_)) <;> (fail_if_success (simp only [eq_self, reduceCtorEq] at h))) | refine onx ?_ | refine onb ?_ | refine sreg ?_ | refine qT rfl ?_ | refine qF rfl ?_ | refine scondT rfl ?_ | refine scondF rfl ?_ | refine ocondP rfl (fun h => ?_) (fun h => ?_) | refine ocondB rfl (fun h => ?_) (fun h => ?_) | refine scondP rfl (fun h => ?_) (fun h => ?_) | refine scond rfl (fun h => ?_) (fun h => ?_) | refine oskip ?_ | refine oskipb ?_ | refine oret ?_ | refine sem_ret ?_ | refine sem_seq ?_ | refine sreg1 ?_)))
                                    refine onil (lnext (i + 1) (by omega) (by omega) ?_)
                                    rw [hwsi, e1, show ∀ v : Int, [[AV.int .i64 v]] = [intCs v] from fun _ => rfl, rowL_snoc, List.length_append]
                                    (refine Le.drop ?_ rfl (by simp) rfl (by simp only [refM, refO, List.all_cons, List.all_nil, Bool.and_true, Bool.true_and, rowL_all (enc := intCs) (fun _ _ => rfl), CoolTown.cs, CoolTruth.cs]; first | done | rfl) ; simp only [List.forall_mem_cons, List.forall_mem_nil, getE, selE, Nat.reduceBEq, List.not_mem_nil, false_implies, implies_true, and_true, true_and, and_self])
                                    simp [slOf, CoolTown.cs]
                                  · rw [if_neg hgr] at hwsi
                                    ((refine sem_mgo 10 hmix (by kernel_rfl) ?_; simp only [nt]); (repeat' (first | ((first | apply mop | apply mop0); (case hg => rfl); (case hq => rfl); intro k hk; simp (disch := omega) only [ev0, sl_cells, simprocAttr, slOf, intCs, CoolTown.cs, CoolSite.cs, CoolHouse.cs, hwv, hsw', hgr, decide_false]; refine hk _ _ rfl ?_; clear hk k) | (apply mno; (case hg => rfl)) | (apply mbox; (case hx => (simp only [wv, simprocAttr] <;> rfl)); (case hg => rfl); (case hall => rfl); (case hr => rfl); simp only [nm, Nat.reduceAdd]) | (apply mbldS; (case hb => (simp (disch := omega) only [ev0, sl_cells, simprocAttr] <;> rfl)); (case hg => rfl); (case hr => rfl); simp only [nm, Nat.reduceAdd]) | ((first | (apply msto (q := 0); (case hq => rfl)) | (apply msto (q := 1); (case hq => rfl)) | (apply msto (q := 2); (case hq => rfl)) | (apply msto (q := 3); (case hq => rfl))); (case hx => (simp only [wv, simprocAttr] <;> rfl)); (case haddr => (simp only [wv, simprocAttr] <;> rfl)); (case hg => rfl); (case hl1 => rfl); (case hl2 => rfl); (case hok => rfl); (case hr => rfl); simp only [nm, Nat.reduceAdd]) | (apply mnil; simp only [SlotR.fin, ns]) | (refine msplit rfl (fun h => ?_) (fun h => ?_) <;> simp only [h] <;> (try simp only [nb] at h)))) <;> (repeat' (first | ((first | refine o1 rfl ?_ | refine o0 rfl ?_); intro k hk; simp (disch := omega) only [ev0, sl_cells, simprocAttr, slOf, intCs, CoolTown.cs, CoolSite.cs, CoolHouse.cs, hwv, hsw', hgr, decide_false]; refine hk _ _ ?_; clear hk k) | refine ono rfl ?_ | ((first | refine osplitG rfl (fun h => ?_) (fun h => ?_) | refine osplitB rfl (fun h => ?_) (fun h => ?_)) <;> (fail_if_success (simp only [eq_self, reduceCtorEq] at h))) | refine onx ?_ | refine onb ?_ | refine sreg ?_ | refine qT rfl ?_ | refine qF rfl ?_ | refine scondT rfl ?_ | refine scondF rfl ?_ | refine ocondP rfl (fun h => ?_) (fun h => ?_) | refine ocondB rfl (fun h => ?_) (fun h => ?_) | refine scondP rfl (fun h => ?_) (fun h => ?_) | refine scond rfl (fun h => ?_) (fun h => ?_) | refine oskip ?_ | refine oskipb ?_ | refine oret ?_ | refine sem_ret ?_ | refine sem_seq ?_ | refine sreg1 ?_)))
                                    refine onil (lnext (i + 1) (by omega) (by omega) ?_)
                                    rw [hwsi]
                                    (refine Le.same ?_; simp only [List.forall_mem_cons, List.forall_mem_nil, getE, selE, Nat.reduceBEq, List.not_mem_nil, false_implies, implies_true, and_true, true_and, and_self])
                                    simp [slOf, CoolTown.cs]
                                · have hi' : i = l.length := by omega
                                  subst hi'
                                  have hwkb : ∀ z ∈ wk l.length, 0 ≤ z ∧ z < t.sites.length := fun z hz => (hwkm z hz).elim (hwm z) (hlb z)
                                  generalize wk l.length = w at *
                                  have hh2 : y < x.needs.length := by rw [hxb.nl]; exact hy'
                                  have hnb := hxb.nb (x.needs.getD y default) (by rw [getD_lt hh2]; exact List.getElem_mem _)
                                  (refine sem_exit ?_; change sem _ _ _ _ _)
                                  refine sem_frzlist (enc := intCs) (l := w) 2 rfl (fun _ => rfl) ?_
                                  simp only [frzE, frzM, frzO, frzA, frzL, List.map_cons, List.map_nil, List.set_cons_zero, List.set_cons_succ, Nat.reduceEqDiff, if_true, if_false, and_self, Nat.le_refl, reduceIte, frz_sl, frz_town, frz_truth]
                                  repeat' (first | ((first | refine o1 rfl ?_ | refine o0 rfl ?_); intro k hk; simp (disch := omega) only [ev0, sl_cells, simprocAttr, CoolTruth.cs, slOf, intCs]; refine hk _ _ ?_; clear hk k) | refine ono rfl ?_ | ((first | refine osplitG rfl (fun h => ?_) (fun h => ?_) | refine osplitB rfl (fun h => ?_) (fun h => ?_)) <;> (fail_if_success (simp only [eq_self, reduceCtorEq] at h))) | refine onx ?_ | refine onb ?_ | refine sreg ?_ | refine qT rfl ?_ | refine qF rfl ?_ | refine scondT rfl ?_ | refine scondF rfl ?_ | refine ocondP rfl (fun h => ?_) (fun h => ?_) | refine ocondB rfl (fun h => ?_) (fun h => ?_) | refine scondP rfl (fun h => ?_) (fun h => ?_) | refine scond rfl (fun h => ?_) (fun h => ?_) | refine oskip ?_ | refine oskipb ?_ | refine oret ?_ | refine sem_ret ?_ | refine sem_seq ?_ | refine sreg1 ?_)
                                  refine sem_block ?_
                                  
                                  refine sem_loop (α := Nat) (fun i => ⟨[(1, slOf intCs b), (4, .ptr 0 0 2 0 0), (7, .ptr 1 0 2 0 0), (9, slOf intCs d), (11, slOf intCs l), (17, I y), (18, slOf intCs w), (21, I (-(x.needs.getD y default) + sumL ((w.take i).map (giveOf x y)))), (22, I i)], [.row 25 0 2 [t.cs], .row 53 0 2 [x.cs]]⟩) (fun i => i ≤ w.length) (fun i => w.length - i) 0 (Nat.zero_le _) ?_ ?_
                                  · (refine Le.drop ?_ rfl (by simp) rfl (by simp only [refM, refO, List.all_cons, List.all_nil, Bool.and_true, Bool.true_and, CoolTown.cs, CoolTruth.cs, slOf, refL, refA]; first | done | rfl) ; simp only [List.forall_mem_cons, List.forall_mem_nil, getE, selE, Nat.reduceBEq, List.not_mem_nil, false_implies, implies_true, and_true, true_and, and_self])
                                    simp [CoolTown.cs, CoolTruth.cs, slOf, sumL]
                                  · intro i hi
                                    have hbi := sumL_bound (c := 1000000) (l := (w.take i).map (giveOf x y)) fun v hv => by
                                      obtain ⟨j, hj, rfl⟩ := List.mem_map.1 hv
                                      exact giveOf_bound hxb hy' (hwkb j (List.mem_of_mem_take hj))
                                    rw [List.length_map, List.length_take] at hbi
                                    repeat' (first | ((first | refine o1 rfl ?_ | refine o0 rfl ?_); intro k hk; simp (disch := omega) only [ev0, sl_cells, simprocAttr, slOf]; refine hk _ _ ?_; clear hk k) | refine ono rfl ?_ | ((first | refine osplitG rfl (fun h => ?_) (fun h => ?_) | refine osplitB rfl (fun h => ?_) (fun h => ?_)) <;> (fail_if_success (simp only [eq_self, reduceCtorEq] at h))) | refine onx ?_ | refine onb ?_ | refine sreg ?_ | refine qT rfl ?_ | refine qF rfl ?_ | refine scondT rfl ?_ | refine scondF rfl ?_ | refine ocondP rfl (fun h => ?_) (fun h => ?_) | refine ocondB rfl (fun h => ?_) (fun h => ?_) | refine scondP rfl (fun h => ?_) (fun h => ?_) | refine scond rfl (fun h => ?_) (fun h => ?_) | refine oskip ?_ | refine oskipb ?_ | refine oret ?_ | refine sem_ret ?_ | refine sem_seq ?_ | refine sreg1 ?_)
                                    · have hi' : i < w.length := by omega
                                      have hwi := hwkb (w.getD i default) (by rw [getD_lt hi']; exact List.getElem_mem _)
                                      have hgb := giveOf_bound hxb hy' hwi
                                      have htk := map_take_getD (giveOf x y) hi'
                                      obtain ⟨n, hn'⟩ := Int.eq_ofNat_of_zero_le hwi.1
                                      generalize hwv : w.getD i default = v at *
                                      subst hn'
                                      have hnl : n < x.gives.length := by rw [hxb.gl]; omega
                                      have hgl := (hxb.g _ (List.getElem_mem hnl)).1
                                      rw [← getD_lt hnl] at hgl
                                      have hgo3 : giveOf x y (n : Int) = (x.gives.getD n default).getD y default := rfl
                                      rw [hgo3] at hgb
                                      refine sem_block ?_
                                      repeat' (first | ((first | refine o1 rfl ?_ | refine o0 rfl ?_); intro k hk; simp (disch := omega) only [ev0, sl_cells, simprocAttr]; refine hk _ _ ?_; clear hk k) | refine ono rfl ?_ | ((first | refine osplitG rfl (fun h => ?_) (fun h => ?_) | refine osplitB rfl (fun h => ?_) (fun h => ?_)) <;> (fail_if_success (simp only [eq_self, reduceCtorEq] at h))) | refine onx ?_ | refine onb ?_ | refine sreg ?_ | refine qT rfl ?_ | refine qF rfl ?_ | refine scondT rfl ?_ | refine scondF rfl ?_ | refine ocondP rfl (fun h => ?_) (fun h => ?_) | refine ocondB rfl (fun h => ?_) (fun h => ?_) | refine scondP rfl (fun h => ?_) (fun h => ?_) | refine scond rfl (fun h => ?_) (fun h => ?_) | refine oskip ?_ | refine oskipb ?_ | refine oret ?_ | refine sem_ret ?_ | refine sem_seq ?_ | refine sreg1 ?_)
                                      ((refine sem_mgo 12 hmix (by kernel_rfl) ?_; simp only [nt]); (repeat' (first | ((first | apply mop | apply mop0); (case hg => rfl); (case hq => rfl); intro k hk; simp (disch := omega) only [ev0, sl_cells, simprocAttr, slOf, intCs, intsCs, CoolTruth.cs, hwv]; refine hk _ _ rfl ?_; clear hk k) | (apply mno; (case hg => rfl)) | (apply mbox; (case hx => (simp only [wv, simprocAttr] <;> rfl)); (case hg => rfl); (case hall => rfl); (case hr => rfl); simp only [nm, Nat.reduceAdd]) | (apply mbldS; (case hb => (simp (disch := omega) only [ev0, sl_cells, simprocAttr] <;> rfl)); (case hg => rfl); (case hr => rfl); simp only [nm, Nat.reduceAdd]) | ((first | (apply msto (q := 0); (case hq => rfl)) | (apply msto (q := 1); (case hq => rfl)) | (apply msto (q := 2); (case hq => rfl)) | (apply msto (q := 3); (case hq => rfl))); (case hx => (simp only [wv, simprocAttr] <;> rfl)); (case haddr => (simp only [wv, simprocAttr] <;> rfl)); (case hg => rfl); (case hl1 => rfl); (case hl2 => rfl); (case hok => rfl); (case hr => rfl); simp only [nm, Nat.reduceAdd]) | (apply mnil; simp only [SlotR.fin, ns]) | (refine msplit rfl (fun h => ?_) (fun h => ?_) <;> simp only [h] <;> (try simp only [nb] at h)))) <;> (repeat' (first | ((first | refine o1 rfl ?_ | refine o0 rfl ?_); intro k hk; simp (disch := omega) only [ev0, sl_cells, simprocAttr, slOf, intCs, intsCs, CoolTruth.cs, hwv]; refine hk _ _ ?_; clear hk k) | refine ono rfl ?_ | ((first | refine osplitG rfl (fun h => ?_) (fun h => ?_) | refine osplitB rfl (fun h => ?_) (fun h => ?_)) <;> (fail_if_success (simp only [eq_self, reduceCtorEq] at h))) | refine onx ?_ | refine onb ?_ | refine sreg ?_ | refine qT rfl ?_ | refine qF rfl ?_ | refine scondT rfl ?_ | refine scondF rfl ?_ | refine ocondP rfl (fun h => ?_) (fun h => ?_) | refine ocondB rfl (fun h => ?_) (fun h => ?_) | refine scondP rfl (fun h => ?_) (fun h => ?_) | refine scond rfl (fun h => ?_) (fun h => ?_) | refine oskip ?_ | refine oskipb ?_ | refine oret ?_ | refine sem_ret ?_ | refine sem_seq ?_ | refine sreg1 ?_)))
                                      refine onil (lnext (i + 1) (by omega) (by omega) ?_)
                                      rw [htk, sumL_append]
                                      (refine Le.same ?_; simp only [List.forall_mem_cons, List.forall_mem_nil, getE, selE, Nat.reduceBEq, List.not_mem_nil, false_implies, implies_true, and_true, true_and, and_self])
                                      simp [CoolTown.cs, CoolTruth.cs, slOf, sumL, hgo3, Int.add_assoc]
                                    · have hi' : i = w.length := by omega
                                      subst hi'
                                      rw [List.take_length] at *
                                      unfold over1 at hmy
                                      have hov : ¬ (-(x.needs.getD y default) + sumL (w.map (giveOf x y))) < 0 := by omega
                                      (refine sem_exit ?_; change sem _ _ _ _ _)
                                      repeat' (first | ((first | refine o1 rfl ?_ | refine o0 rfl ?_); intro k hk; simp (disch := omega) only [ev0, sl_cells, simprocAttr, hov, decide_false]; refine hk _ _ ?_; clear hk k) | refine ono rfl ?_ | ((first | refine osplitG rfl (fun h => ?_) (fun h => ?_) | refine osplitB rfl (fun h => ?_) (fun h => ?_)) <;> (fail_if_success (simp only [eq_self, reduceCtorEq] at h))) | refine onx ?_ | refine onb ?_ | refine sreg ?_ | refine qT rfl ?_ | refine qF rfl ?_ | refine scondT rfl ?_ | refine scondF rfl ?_ | refine ocondP rfl (fun h => ?_) (fun h => ?_) | refine ocondB rfl (fun h => ?_) (fun h => ?_) | refine scondP rfl (fun h => ?_) (fun h => ?_) | refine scond rfl (fun h => ?_) (fun h => ?_) | refine oskip ?_ | refine oskipb ?_ | refine oret ?_ | refine sem_ret ?_ | refine sem_seq ?_ | refine sreg1 ?_)
                                      refine onil (lnext (y + 1) (by omega) (by omega) ?_)
                                      (refine Le.same ?_; simp only [List.forall_mem_cons, List.forall_mem_nil, getE, selE, Nat.reduceBEq, List.not_mem_nil, false_implies, implies_true, and_true, true_and, and_self])
                                      simp [CoolTown.cs, CoolTruth.cs, slOf]
                            · have hy' : y = t.houses.length := by omega
                              subst hy'
                              (refine sem_exit ?_; change sem _ _ _ _ _)
                              repeat' (first | ((first | refine o1 rfl ?_ | refine o0 rfl ?_); intro k hk; simp (disch := omega) only [ev0, sl_cells, simprocAttr]; refine hk _ _ ?_; clear hk k) | refine ono rfl ?_ | (apply ocall; (case he => (simp only [ev0, sl_cells, simprocAttr] <;> rfl)); (case hc => first | exact hK); (case ht => rfl); (case hg => rfl)) | ((first | refine osplitG rfl (fun h => ?_) (fun h => ?_) | refine osplitB rfl (fun h => ?_) (fun h => ?_)) <;> (fail_if_success (simp only [eq_self, reduceCtorEq] at h))) | refine onx ?_ | refine onb ?_ | refine sreg ?_ | refine qT rfl ?_ | refine qF rfl ?_ | refine scondT rfl ?_ | refine scondF rfl ?_ | refine ocondP rfl (fun h => ?_) (fun h => ?_) | refine ocondB rfl (fun h => ?_) (fun h => ?_) | refine scondP rfl (fun h => ?_) (fun h => ?_) | refine scond rfl (fun h => ?_) (fun h => ?_) | refine oskip ?_ | refine oskipb ?_ | refine oret ?_ | refine sem_ret ?_ | refine sem_seq ?_ | refine sreg1 ?_)
                              exact ⟨_, rfl, _, rfl, tree_eq rfl rfl⟩
            · rw [decide_eq_false p5] at hT
              (refine holds_of_sem hG fn_law03_CoolMended (by simp) fun w0 S0 hG0 D0 => ?_; unfold c_law03_CoolMended cval enterEnv; simp only [List.zipIdx_cons, List.zipIdx_nil, List.map_cons, List.map_nil, Nat.zero_add, Nat.reduceAdd])
              repeat' (first | ((first | refine o1 rfl ?_ | refine o0 rfl ?_); intro k hk; simp (disch := omega) only [ev0, sl_cells, simprocAttr, slOf, q3, q4, eq_self, decide_true, decide_false]; refine hk _ _ ?_; clear hk k) | refine ono rfl ?_ | (apply ocall; (case he => (simp only [ev0, sl_cells, simprocAttr] <;> rfl)); (case hc => first | exact hS | exact hZ | exact hK | exact hR | exact hT); (case ht => rfl); (case hg => rfl)) | ((first | refine osplitG rfl (fun h => ?_) (fun h => ?_) | refine osplitB rfl (fun h => ?_) (fun h => ?_)) <;> (fail_if_success (simp only [eq_self, reduceCtorEq] at h))) | refine onx ?_ | refine onb ?_ | refine sreg ?_ | refine qT rfl ?_ | refine qF rfl ?_ | refine scondT rfl ?_ | refine scondF rfl ?_ | refine ocondP rfl (fun h => ?_) (fun h => ?_) | refine ocondB rfl (fun h => ?_) (fun h => ?_) | refine scondP rfl (fun h => ?_) (fun h => ?_) | refine scond rfl (fun h => ?_) (fun h => ?_) | refine oskip ?_ | refine oskipb ?_ | refine oret ?_ | refine sem_ret ?_ | refine sem_seq ?_ | refine sreg1 ?_)
              exact ⟨_, rfl, _, rfl, tree_eq rfl rfl⟩
          · have e : repI t b o = 2 := by unfold repI; rw [if_neg (by omega), if_neg ha]
            rw [e] at hR
            (refine holds_of_sem hG fn_law03_CoolMended (by simp) fun w0 S0 hG0 D0 => ?_; unfold c_law03_CoolMended cval enterEnv; simp only [List.zipIdx_cons, List.zipIdx_nil, List.map_cons, List.map_nil, Nat.zero_add, Nat.reduceAdd])
            repeat' (first | ((first | refine o1 rfl ?_ | refine o0 rfl ?_); intro k hk; simp (disch := omega) only [ev0, sl_cells, simprocAttr, slOf, q3, q4, eq_self, decide_true, decide_false]; refine hk _ _ ?_; clear hk k) | refine ono rfl ?_ | (apply ocall; (case he => (simp only [ev0, sl_cells, simprocAttr] <;> rfl)); (case hc => first | exact hS | exact hZ | exact hK | exact hR); (case ht => rfl); (case hg => rfl)) | ((first | refine osplitG rfl (fun h => ?_) (fun h => ?_) | refine osplitB rfl (fun h => ?_) (fun h => ?_)) <;> (fail_if_success (simp only [eq_self, reduceCtorEq] at h))) | refine onx ?_ | refine onb ?_ | refine sreg ?_ | refine qT rfl ?_ | refine qF rfl ?_ | refine scondT rfl ?_ | refine scondF rfl ?_ | refine ocondP rfl (fun h => ?_) (fun h => ?_) | refine ocondB rfl (fun h => ?_) (fun h => ?_) | refine scondP rfl (fun h => ?_) (fun h => ?_) | refine scond rfl (fun h => ?_) (fun h => ?_) | refine oskip ?_ | refine oskipb ?_ | refine oret ?_ | refine sem_ret ?_ | refine sem_seq ?_ | refine sreg1 ?_)
            exact ⟨_, rfl, _, rfl, tree_eq rfl rfl⟩
        · have q4 : (6 : Int) < o.length := by omega
          (refine holds_of_sem hG fn_law03_CoolMended (by simp) fun w0 S0 hG0 D0 => ?_; unfold c_law03_CoolMended cval enterEnv; simp only [List.zipIdx_cons, List.zipIdx_nil, List.map_cons, List.map_nil, Nat.zero_add, Nat.reduceAdd])
          repeat' (first | ((first | refine o1 rfl ?_ | refine o0 rfl ?_); intro k hk; simp (disch := omega) only [ev0, sl_cells, simprocAttr, slOf, q3, q4, decide_true, decide_false]; refine hk _ _ ?_; clear hk k) | refine ono rfl ?_ | (apply ocall; (case he => (simp only [ev0, sl_cells, simprocAttr] <;> rfl)); (case hc => first | exact hS | exact hZ | exact hK); (case ht => rfl); (case hg => rfl)) | ((first | refine osplitG rfl (fun h => ?_) (fun h => ?_) | refine osplitB rfl (fun h => ?_) (fun h => ?_)) <;> (fail_if_success (simp only [eq_self, reduceCtorEq] at h))) | refine onx ?_ | refine onb ?_ | refine sreg ?_ | refine qT rfl ?_ | refine qF rfl ?_ | refine scondT rfl ?_ | refine scondF rfl ?_ | refine ocondP rfl (fun h => ?_) (fun h => ?_) | refine ocondB rfl (fun h => ?_) (fun h => ?_) | refine scondP rfl (fun h => ?_) (fun h => ?_) | refine scond rfl (fun h => ?_) (fun h => ?_) | refine oskip ?_ | refine oskipb ?_ | refine oret ?_ | refine sem_ret ?_ | refine sem_seq ?_ | refine sreg1 ?_)
          exact ⟨_, rfl, _, rfl, tree_eq rfl rfl⟩
      · have q3 : (15 : Int) < b.length := by omega
        (refine holds_of_sem hG fn_law03_CoolMended (by simp) fun w0 S0 hG0 D0 => ?_; unfold c_law03_CoolMended cval enterEnv; simp only [List.zipIdx_cons, List.zipIdx_nil, List.map_cons, List.map_nil, Nat.zero_add, Nat.reduceAdd])
        repeat' (first | ((first | refine o1 rfl ?_ | refine o0 rfl ?_); intro k hk; simp (disch := omega) only [ev0, sl_cells, simprocAttr, slOf, q3, decide_true, decide_false]; refine hk _ _ ?_; clear hk k) | refine ono rfl ?_ | (apply ocall; (case he => (simp only [ev0, sl_cells, simprocAttr] <;> rfl)); (case hc => first | exact hS | exact hZ | exact hK); (case ht => rfl); (case hg => rfl)) | ((first | refine osplitG rfl (fun h => ?_) (fun h => ?_) | refine osplitB rfl (fun h => ?_) (fun h => ?_)) <;> (fail_if_success (simp only [eq_self, reduceCtorEq] at h))) | refine onx ?_ | refine onb ?_ | refine sreg ?_ | refine qT rfl ?_ | refine qF rfl ?_ | refine scondT rfl ?_ | refine scondF rfl ?_ | refine ocondP rfl (fun h => ?_) (fun h => ?_) | refine ocondB rfl (fun h => ?_) (fun h => ?_) | refine scondP rfl (fun h => ?_) (fun h => ?_) | refine scond rfl (fun h => ?_) (fun h => ?_) | refine oskip ?_ | refine oskipb ?_ | refine oret ?_ | refine sem_ret ?_ | refine sem_seq ?_ | refine sreg1 ?_)
        exact ⟨_, rfl, _, rfl, tree_eq rfl rfl⟩
    · rw [decide_eq_false p2] at hZ
      (refine holds_of_sem hG fn_law03_CoolMended (by simp) fun w0 S0 hG0 D0 => ?_; unfold c_law03_CoolMended cval enterEnv; simp only [List.zipIdx_cons, List.zipIdx_nil, List.map_cons, List.map_nil, Nat.zero_add, Nat.reduceAdd])
      repeat' (first | ((first | refine o1 rfl ?_ | refine o0 rfl ?_); intro k hk; simp (disch := omega) only [ev0, sl_cells, simprocAttr, slOf]; refine hk _ _ ?_; clear hk k) | refine ono rfl ?_ | (apply ocall; (case he => (simp only [ev0, sl_cells, simprocAttr] <;> rfl)); (case hc => first | exact hS | exact hZ | exact hK); (case ht => rfl); (case hg => rfl)) | ((first | refine osplitG rfl (fun h => ?_) (fun h => ?_) | refine osplitB rfl (fun h => ?_) (fun h => ?_)) <;> (fail_if_success (simp only [eq_self, reduceCtorEq] at h))) | refine onx ?_ | refine onb ?_ | refine sreg ?_ | refine qT rfl ?_ | refine qF rfl ?_ | refine scondT rfl ?_ | refine scondF rfl ?_ | refine ocondP rfl (fun h => ?_) (fun h => ?_) | refine ocondB rfl (fun h => ?_) (fun h => ?_) | refine scondP rfl (fun h => ?_) (fun h => ?_) | refine scond rfl (fun h => ?_) (fun h => ?_) | refine oskip ?_ | refine oskipb ?_ | refine oret ?_ | refine sem_ret ?_ | refine sem_seq ?_ | refine sreg1 ?_)
      exact ⟨_, rfl, _, rfl, tree_eq rfl rfl⟩
  · rw [decide_eq_false p1] at hS
    (refine holds_of_sem hG fn_law03_CoolMended (by simp) fun w0 S0 hG0 D0 => ?_; unfold c_law03_CoolMended cval enterEnv; simp only [List.zipIdx_cons, List.zipIdx_nil, List.map_cons, List.map_nil, Nat.zero_add, Nat.reduceAdd])
    repeat' (first | ((first | refine o1 rfl ?_ | refine o0 rfl ?_); intro k hk; simp (disch := omega) only [ev0, sl_cells, simprocAttr, slOf]; refine hk _ _ ?_; clear hk k) | refine ono rfl ?_ | (apply ocall; (case he => (simp only [ev0, sl_cells, simprocAttr] <;> rfl)); (case hc => first | exact hS | exact hK); (case ht => rfl); (case hg => rfl)) | ((first | refine osplitG rfl (fun h => ?_) (fun h => ?_) | refine osplitB rfl (fun h => ?_) (fun h => ?_)) <;> (fail_if_success (simp only [eq_self, reduceCtorEq] at h))) | refine onx ?_ | refine onb ?_ | refine sreg ?_ | refine qT rfl ?_ | refine qF rfl ?_ | refine scondT rfl ?_ | refine scondF rfl ?_ | refine ocondP rfl (fun h => ?_) (fun h => ?_) | refine ocondB rfl (fun h => ?_) (fun h => ?_) | refine scondP rfl (fun h => ?_) (fun h => ?_) | refine scond rfl (fun h => ?_) (fun h => ?_) | refine oskip ?_ | refine oskipb ?_ | refine oret ?_ | refine sem_ret ?_ | refine sem_seq ?_ | refine sreg1 ?_)
    exact ⟨_, rfl, _, rfl, tree_eq rfl rfl⟩
end Go.Proofs.Ytnempffajbdneaa
