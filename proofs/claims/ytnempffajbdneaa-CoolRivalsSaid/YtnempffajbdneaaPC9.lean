/- The reference: without, sites, cost, before, order. -/
import Derived.Test.YtnempffajbdneaaPC6
set_option linter.unusedVariables false
set_option linter.unusedSimpArgs false
set_option maxRecDepth 8000
set_option maxHeartbeats 2000000
namespace Go.Tk
open Go Go.Av
def sitesL (n : Nat) : List Int := (List.range n).map fun i : Nat => (i : Int)
theorem sitesL_len (n : Nat) : (sitesL n).length = n := by simp [sitesL]
def costOf (t : CoolTown) (i : Int) : Int := (t.sites.getD i.toNat default).cost
def costL (t : CoolTown) (l : List Int) : Int := sumL (l.map (costOf t))
theorem costOf_bound {t : CoolTown} (ht : t.ok) {i : Int} (hi : 0 ≤ i ∧ i < t.sites.length) : 0 ≤ costOf t i ∧ costOf t i ≤ 1000000 := by
  have := all_getD.1 ht.2.2.2 i.toNat (by omega)
  exact this.1
theorem range_all (n : Nat) : ((List.range n).all fun _ => true) = true := by simp
/-- Bought coolers, each at most once. -/
def orderOk (b o : List Int) : Prop := ∀ i, i < o.length → o.getD i default ∈ b ∧ o.getD i default ∉ o.take i
noncomputable instance (b o) : Decidable (orderOk b o) := Classical.propDecidable _
end Go.Tk
namespace Go.Proofs.Ytnempffajbdneaa
open Go Go.Av Go.Tk
attribute [local irreducible] Holds sem semL ACalls FnIs
variable {G : World → Prop} (hG : ∀ w w', G w → RowKit.Below w.heap.size w w' → G w')
include hG
theorem ref03_Cost (t : CoolTown) (ht : t.ok) (l : List Int) (hl : l.length ≤ 1000) (hb : ∀ i ∈ l, 0 ≤ i ∧ i < t.sites.length) : Holds Try.prog G F.ref03_Cost [.agg t.cs, slOf intCs l] (I (costL t l)) := by
  (refine holds_of_sem hG fn_ref03_Cost (by simp) fun w0 S0 hG0 D0 => ?_; unfold c_ref03_Cost cval enterEnv; simp only [List.zipIdx_cons, List.zipIdx_nil, List.map_cons, List.map_nil, Nat.zero_add, Nat.reduceAdd])
  repeat' (first | ((first | refine o1 rfl ?_ | refine o0 rfl ?_); intro k hk; simp (disch := omega) only [ev0, sl_cells, simprocAttr]; refine hk _ _ ?_; clear hk k) | refine ono rfl ?_ | ((first | refine osplitG rfl (fun h => ?_) (fun h => ?_) | refine osplitB rfl (fun h => ?_) (fun h => ?_)) <;> (fail_if_success (simp only [eq_self, reduceCtorEq] at h))) | refine onx ?_ | refine onb ?_ | refine sreg ?_ | refine qT rfl ?_ | refine qF rfl ?_ | refine scondT rfl ?_ | refine scondF rfl ?_ | refine ocondP rfl (fun h => ?_) (fun h => ?_) | refine ocondB rfl (fun h => ?_) (fun h => ?_) | refine scondP rfl (fun h => ?_) (fun h => ?_) | refine scond rfl (fun h => ?_) (fun h => ?_) | refine oskip ?_ | refine oskipb ?_ | refine oret ?_ | refine sem_ret ?_ | refine sem_seq ?_ | refine sreg1 ?_)
  refine sem_block ?_
  
  refine sem_loop (α := Nat) (fun i => ⟨[(1, slOf intCs l), (2, .ptr 0 0 2 0 0), (5, I (costL t (l.take i))), (6, I i)], [.row 25 0 2 [t.cs]]⟩) (fun i => i ≤ l.length) (fun i => l.length - i) 0 (Nat.zero_le _) ?_ ?_
  · (refine Le.same ?_; simp only [List.forall_mem_cons, List.forall_mem_nil, getE, selE, Nat.reduceBEq, List.not_mem_nil, false_implies, implies_true, and_true, true_and, and_self])
    simp [costL, sumL, slOf, CoolTown.cs]
  · intro i hi
    have hbi := sumL_bound (c := 1000000) (l := (l.take i).map (costOf t)) fun v hv => by
      obtain ⟨j, hj, rfl⟩ := List.mem_map.1 hv
      exact costOf_bound ht (hb j (List.mem_of_mem_take hj))
    rw [List.length_map, List.length_take] at hbi
    change 0 ≤ costL t (l.take i) ∧ costL t (l.take i) ≤ _ at hbi
    repeat' (first | ((first | refine o1 rfl ?_ | refine o0 rfl ?_); intro k hk; simp (disch := omega) only [ev0, sl_cells, simprocAttr, slOf]; refine hk _ _ ?_; clear hk k) | refine ono rfl ?_ | ((first | refine osplitG rfl (fun h => ?_) (fun h => ?_) | refine osplitB rfl (fun h => ?_) (fun h => ?_)) <;> (fail_if_success (simp only [eq_self, reduceCtorEq] at h))) | refine onx ?_ | refine onb ?_ | refine sreg ?_ | refine qT rfl ?_ | refine qF rfl ?_ | refine scondT rfl ?_ | refine scondF rfl ?_ | refine ocondP rfl (fun h => ?_) (fun h => ?_) | refine ocondB rfl (fun h => ?_) (fun h => ?_) | refine scondP rfl (fun h => ?_) (fun h => ?_) | refine scond rfl (fun h => ?_) (fun h => ?_) | refine oskip ?_ | refine oskipb ?_ | refine oret ?_ | refine sem_ret ?_ | refine sem_seq ?_ | refine sreg1 ?_)
    · have hi' : i < l.length := by omega
      have hwi := hb (l.getD i default) (by rw [getD_lt hi']; exact List.getElem_mem _)
      have hcb := costOf_bound ht hwi
      have htk : costL t (l.take (i + 1)) = costL t (l.take i) + costOf t (l.getD i default) := by
        unfold costL
        rw [map_take_getD (costOf t) hi', sumL_append]
        simp [sumL]
      obtain ⟨n, hn'⟩ := Int.eq_ofNat_of_zero_le hwi.1
      generalize hwv : l.getD i default = v at *
      subst hn'
      have hnl : n < t.sites.length := by omega
      have hgo : costOf t (n : Int) = (t.sites.getD n default).cost := rfl
      rw [hgo] at hcb
      refine sem_block ?_
      repeat' (first | ((first | refine o1 rfl ?_ | refine o0 rfl ?_); intro k hk; simp (disch := omega) only [ev0, sl_cells, simprocAttr]; refine hk _ _ ?_; clear hk k) | refine ono rfl ?_ | ((first | refine osplitG rfl (fun h => ?_) (fun h => ?_) | refine osplitB rfl (fun h => ?_) (fun h => ?_)) <;> (fail_if_success (simp only [eq_self, reduceCtorEq] at h))) | refine onx ?_ | refine onb ?_ | refine sreg ?_ | refine qT rfl ?_ | refine qF rfl ?_ | refine scondT rfl ?_ | refine scondF rfl ?_ | refine ocondP rfl (fun h => ?_) (fun h => ?_) | refine ocondB rfl (fun h => ?_) (fun h => ?_) | refine scondP rfl (fun h => ?_) (fun h => ?_) | refine scond rfl (fun h => ?_) (fun h => ?_) | refine oskip ?_ | refine oskipb ?_ | refine oret ?_ | refine sem_ret ?_ | refine sem_seq ?_ | refine sreg1 ?_)
      ((refine sem_mgo 10 hmix (by kernel_rfl) ?_; simp only [nt]); (repeat' (first | ((first | apply mop | apply mop0); (case hg => rfl); (case hq => rfl); intro k hk; simp (disch := omega) only [ev0, sl_cells, simprocAttr, slOf, intCs, CoolTown.cs, CoolSite.cs, hwv]; refine hk _ _ rfl ?_; clear hk k) | (apply mno; (case hg => rfl)) | (apply mbox; (case hx => (simp only [wv, simprocAttr] <;> rfl)); (case hg => rfl); (case hall => rfl); (case hr => rfl); simp only [nm, Nat.reduceAdd]) | (apply mbldS; (case hb => (simp (disch := omega) only [ev0, sl_cells, simprocAttr] <;> rfl)); (case hg => rfl); (case hr => rfl); simp only [nm, Nat.reduceAdd]) | ((first | (apply msto (q := 0); (case hq => rfl)) | (apply msto (q := 1); (case hq => rfl)) | (apply msto (q := 2); (case hq => rfl)) | (apply msto (q := 3); (case hq => rfl))); (case hx => (simp only [wv, simprocAttr] <;> rfl)); (case haddr => (simp only [wv, simprocAttr] <;> rfl)); (case hg => rfl); (case hl1 => rfl); (case hl2 => rfl); (case hok => rfl); (case hr => rfl); simp only [nm, Nat.reduceAdd]) | (apply mnil; simp only [SlotR.fin, ns]) | (refine msplit rfl (fun h => ?_) (fun h => ?_) <;> simp only [h] <;> (try simp only [nb] at h)))) <;> (repeat' (first | ((first | refine o1 rfl ?_ | refine o0 rfl ?_); intro k hk; simp (disch := omega) only [ev0, sl_cells, simprocAttr, slOf, intCs, CoolTown.cs, CoolSite.cs, hwv]; refine hk _ _ ?_; clear hk k) | refine ono rfl ?_ | ((first | refine osplitG rfl (fun h => ?_) (fun h => ?_) | refine osplitB rfl (fun h => ?_) (fun h => ?_)) <;> (fail_if_success (simp only [eq_self, reduceCtorEq] at h))) | refine onx ?_ | refine onb ?_ | refine sreg ?_ | refine qT rfl ?_ | refine qF rfl ?_ | refine scondT rfl ?_ | refine scondF rfl ?_ | refine ocondP rfl (fun h => ?_) (fun h => ?_) | refine ocondB rfl (fun h => ?_) (fun h => ?_) | refine scondP rfl (fun h => ?_) (fun h => ?_) | refine scond rfl (fun h => ?_) (fun h => ?_) | refine oskip ?_ | refine oskipb ?_ | refine oret ?_ | refine sem_ret ?_ | refine sem_seq ?_ | refine sreg1 ?_)))
      refine onil (lnext (i + 1) (by omega) (by omega) ?_)
      rw [htk, hgo]
      (refine Le.same ?_; simp only [List.forall_mem_cons, List.forall_mem_nil, getE, selE, Nat.reduceBEq, List.not_mem_nil, false_implies, implies_true, and_true, true_and, and_self])
      simp [CoolTown.cs, slOf]
    · have hi' : i = l.length := by omega
      subst hi'
      rw [List.take_length]
      (refine sem_exit ?_; change sem _ _ _ _ _)
      repeat' (first | ((first | refine o1 rfl ?_ | refine o0 rfl ?_); intro k hk; simp (disch := omega) only [ev0, sl_cells, simprocAttr]; refine hk _ _ ?_; clear hk k) | refine ono rfl ?_ | ((first | refine osplitG rfl (fun h => ?_) (fun h => ?_) | refine osplitB rfl (fun h => ?_) (fun h => ?_)) <;> (fail_if_success (simp only [eq_self, reduceCtorEq] at h))) | refine onx ?_ | refine onb ?_ | refine sreg ?_ | refine qT rfl ?_ | refine qF rfl ?_ | refine scondT rfl ?_ | refine scondF rfl ?_ | refine ocondP rfl (fun h => ?_) (fun h => ?_) | refine ocondB rfl (fun h => ?_) (fun h => ?_) | refine scondP rfl (fun h => ?_) (fun h => ?_) | refine scond rfl (fun h => ?_) (fun h => ?_) | refine oskip ?_ | refine oskipb ?_ | refine oret ?_ | refine sem_ret ?_ | refine sem_seq ?_ | refine sreg1 ?_)
      exact ⟨_, rfl, _, rfl, tree_eq rfl rfl⟩

theorem ref03_Before (a b : List Int) (ha : a.length ≤ 1000) (hb : b.length ≤ 1000) : Holds Try.prog G F.ref03_Before [slOf intCs a, slOf intCs b] (B (before a b)) := by
  (refine holds_of_sem hG fn_ref03_Before (by simp) fun w0 S0 hG0 D0 => ?_; unfold c_ref03_Before cval enterEnv; simp only [List.zipIdx_cons, List.zipIdx_nil, List.map_cons, List.map_nil, Nat.zero_add, Nat.reduceAdd])
  repeat' (first | ((first | refine o1 rfl ?_ | refine o0 rfl ?_); intro k hk; simp (disch := omega) only [ev0, sl_cells, simprocAttr]; refine hk _ _ ?_; clear hk k) | refine ono rfl ?_ | ((first | refine osplitG rfl (fun h => ?_) (fun h => ?_) | refine osplitB rfl (fun h => ?_) (fun h => ?_)) <;> (fail_if_success (simp only [eq_self, reduceCtorEq] at h))) | refine onx ?_ | refine onb ?_ | refine sreg ?_ | refine qT rfl ?_ | refine qF rfl ?_ | refine scondT rfl ?_ | refine scondF rfl ?_ | refine ocondP rfl (fun h => ?_) (fun h => ?_) | refine ocondB rfl (fun h => ?_) (fun h => ?_) | refine scondP rfl (fun h => ?_) (fun h => ?_) | refine scond rfl (fun h => ?_) (fun h => ?_) | refine oskip ?_ | refine oskipb ?_ | refine oret ?_ | refine sem_ret ?_ | refine sem_seq ?_ | refine sreg1 ?_)
  refine sem_block ?_
  
  refine sem_loop (α := Nat) (fun t => ⟨[(0, slOf intCs a), (1, slOf intCs b), (5, I t)], []⟩) (fun t => t ≤ a.length ∧ t ≤ b.length ∧ before a b = before (a.drop t) (b.drop t)) (fun t => a.length - t) 0 ⟨Nat.zero_le _, Nat.zero_le _, rfl⟩ ?_ ?_
  · (refine Le.same ?_; simp only [List.forall_mem_cons, List.forall_mem_nil, getE, selE, Nat.reduceBEq, List.not_mem_nil, false_implies, implies_true, and_true, true_and, and_self])
    simp
  · rintro t ⟨h1, h2, h3⟩
    have hnil : (a.length ≤ t ∨ b.length ≤ t) → before (a.drop t) (b.drop t) = false := fun h => by
      rcases h with h | h
      · rw [List.drop_eq_nil_of_le h]; rfl
      · rw [List.drop_eq_nil_of_le h]
        cases a.drop t <;> rfl
    by_cases hin : t < a.length ∧ t < b.length
    · obtain ⟨ha', hb'⟩ := hin
      have hstep : before (a.drop t) (b.drop t) = if a.getD t default = b.getD t default then before (a.drop (t + 1)) (b.drop (t + 1)) else decide (a.getD t default < b.getD t default) := by
        rw [List.drop_eq_getElem_cons ha', List.drop_eq_getElem_cons hb', getD_lt ha', getD_lt hb']; rfl
      have g1 : (t : Int) < a.length := by omega
      have g2 : (t : Int) < b.length := by omega
      repeat' (first | ((first | refine o1 rfl ?_ | refine o0 rfl ?_); intro k hk; simp (disch := omega) only [ev0, sl_cells, simprocAttr, slOf, g1, g2]; refine hk _ _ ?_; clear hk k) | refine ono rfl ?_ | ((first | refine osplitG rfl (fun h => ?_) (fun h => ?_) | refine osplitB rfl (fun h => ?_) (fun h => ?_)) <;> (fail_if_success (simp only [eq_self, reduceCtorEq] at h))) | refine onx ?_ | refine onb ?_ | refine sreg ?_ | refine qT rfl ?_ | refine qF rfl ?_ | refine scondT rfl ?_ | refine scondF rfl ?_ | refine ocondP rfl (fun h => ?_) (fun h => ?_) | refine ocondB rfl (fun h => ?_) (fun h => ?_) | refine scondP rfl (fun h => ?_) (fun h => ?_) | refine scond rfl (fun h => ?_) (fun h => ?_) | refine oskip ?_ | refine oskipb ?_ | refine oret ?_ | refine sem_ret ?_ | refine sem_seq ?_ | refine sreg1 ?_)
      refine sem_block ?_
      by_cases e : a.getD t default = b.getD t default
      · rw [if_pos e] at hstep
        repeat' (first | ((first | refine o1 rfl ?_ | refine o0 rfl ?_); intro k hk; simp (disch := omega) only [ev0, sl_cells, simprocAttr]; refine hk _ _ ?_; clear hk k) | refine ono rfl ?_ | ((first | refine osplitG rfl (fun h => ?_) (fun h => ?_) | refine osplitB rfl (fun h => ?_) (fun h => ?_)) <;> (fail_if_success (simp only [eq_self, reduceCtorEq] at h))) | refine onx ?_ | refine onb ?_ | refine sreg ?_ | refine qT rfl ?_ | refine qF rfl ?_ | refine scondT rfl ?_ | refine scondF rfl ?_ | refine ocondP rfl (fun h => ?_) (fun h => ?_) | refine ocondB rfl (fun h => ?_) (fun h => ?_) | refine scondP rfl (fun h => ?_) (fun h => ?_) | refine scond rfl (fun h => ?_) (fun h => ?_) | refine oskip ?_ | refine oskipb ?_ | refine oret ?_ | refine sem_ret ?_ | refine sem_seq ?_ | refine sreg1 ?_)
        ((refine sem_mgo 8 hmix (by kernel_rfl) ?_; simp only [nt]); (repeat' (first | ((first | apply mop | apply mop0); (case hg => rfl); (case hq => rfl); intro k hk; simp (disch := omega) only [ev0, sl_cells, simprocAttr, slOf, intCs, e, eq_self]; refine hk _ _ rfl ?_; clear hk k) | (apply mno; (case hg => rfl)) | (apply mbox; (case hx => (simp only [wv, simprocAttr] <;> rfl)); (case hg => rfl); (case hall => rfl); (case hr => rfl); simp only [nm, Nat.reduceAdd]) | (apply mbldS; (case hb => (simp (disch := omega) only [ev0, sl_cells, simprocAttr] <;> rfl)); (case hg => rfl); (case hr => rfl); simp only [nm, Nat.reduceAdd]) | ((first | (apply msto (q := 0); (case hq => rfl)) | (apply msto (q := 1); (case hq => rfl)) | (apply msto (q := 2); (case hq => rfl)) | (apply msto (q := 3); (case hq => rfl))); (case hx => (simp only [wv, simprocAttr] <;> rfl)); (case haddr => (simp only [wv, simprocAttr] <;> rfl)); (case hg => rfl); (case hl1 => rfl); (case hl2 => rfl); (case hok => rfl); (case hr => rfl); simp only [nm, Nat.reduceAdd]) | (apply mnil; simp only [SlotR.fin, ns]) | (refine msplit rfl (fun h => ?_) (fun h => ?_) <;> simp only [h] <;> (try simp only [nb] at h)))) <;> (repeat' (first | ((first | refine o1 rfl ?_ | refine o0 rfl ?_); intro k hk; simp (disch := omega) only [ev0, sl_cells, simprocAttr, slOf, intCs, e, eq_self]; refine hk _ _ ?_; clear hk k) | refine ono rfl ?_ | ((first | refine osplitG rfl (fun h => ?_) (fun h => ?_) | refine osplitB rfl (fun h => ?_) (fun h => ?_)) <;> (fail_if_success (simp only [eq_self, reduceCtorEq] at h))) | refine onx ?_ | refine onb ?_ | refine sreg ?_ | refine qT rfl ?_ | refine qF rfl ?_ | refine scondT rfl ?_ | refine scondF rfl ?_ | refine ocondP rfl (fun h => ?_) (fun h => ?_) | refine ocondB rfl (fun h => ?_) (fun h => ?_) | refine scondP rfl (fun h => ?_) (fun h => ?_) | refine scond rfl (fun h => ?_) (fun h => ?_) | refine oskip ?_ | refine oskipb ?_ | refine oret ?_ | refine sem_ret ?_ | refine sem_seq ?_ | refine sreg1 ?_)))
        refine onil (lnext (t + 1) ⟨by omega, by omega, by rw [h3, hstep]⟩ (by omega) ?_)
        (refine Le.same ?_; simp only [List.forall_mem_cons, List.forall_mem_nil, getE, selE, Nat.reduceBEq, List.not_mem_nil, false_implies, implies_true, and_true, true_and, and_self])
        simp [slOf]
      · rw [if_neg e] at hstep
        repeat' (first | ((first | refine o1 rfl ?_ | refine o0 rfl ?_); intro k hk; simp (disch := omega) only [ev0, sl_cells, simprocAttr]; refine hk _ _ ?_; clear hk k) | refine ono rfl ?_ | ((first | refine osplitG rfl (fun h => ?_) (fun h => ?_) | refine osplitB rfl (fun h => ?_) (fun h => ?_)) <;> (fail_if_success (simp only [eq_self, reduceCtorEq] at h))) | refine onx ?_ | refine onb ?_ | refine sreg ?_ | refine qT rfl ?_ | refine qF rfl ?_ | refine scondT rfl ?_ | refine scondF rfl ?_ | refine ocondP rfl (fun h => ?_) (fun h => ?_) | refine ocondB rfl (fun h => ?_) (fun h => ?_) | refine scondP rfl (fun h => ?_) (fun h => ?_) | refine scond rfl (fun h => ?_) (fun h => ?_) | refine oskip ?_ | refine oskipb ?_ | refine oret ?_ | refine sem_ret ?_ | refine sem_seq ?_ | refine sreg1 ?_)
        ((refine sem_mgo 8 hmix (by kernel_rfl) ?_; simp only [nt]); (repeat' (first | ((first | apply mop | apply mop0); (case hg => rfl); (case hq => rfl); intro k hk; simp (disch := omega) only [ev0, sl_cells, simprocAttr, slOf, intCs, e]; refine hk _ _ rfl ?_; clear hk k) | (apply mno; (case hg => rfl)) | (apply mbox; (case hx => (simp only [wv, simprocAttr] <;> rfl)); (case hg => rfl); (case hall => rfl); (case hr => rfl); simp only [nm, Nat.reduceAdd]) | (apply mbldS; (case hb => (simp (disch := omega) only [ev0, sl_cells, simprocAttr] <;> rfl)); (case hg => rfl); (case hr => rfl); simp only [nm, Nat.reduceAdd]) | ((first | (apply msto (q := 0); (case hq => rfl)) | (apply msto (q := 1); (case hq => rfl)) | (apply msto (q := 2); (case hq => rfl)) | (apply msto (q := 3); (case hq => rfl))); (case hx => (simp only [wv, simprocAttr] <;> rfl)); (case haddr => (simp only [wv, simprocAttr] <;> rfl)); (case hg => rfl); (case hl1 => rfl); (case hl2 => rfl); (case hok => rfl); (case hr => rfl); simp only [nm, Nat.reduceAdd]) | (apply mnil; simp only [SlotR.fin, ns]) | (refine msplit rfl (fun h => ?_) (fun h => ?_) <;> simp only [h] <;> (try simp only [nb] at h)))) <;> (repeat' (first | ((first | refine o1 rfl ?_ | refine o0 rfl ?_); intro k hk; simp (disch := omega) only [ev0, sl_cells, simprocAttr, slOf, intCs, e]; refine hk _ _ ?_; clear hk k) | refine ono rfl ?_ | ((first | refine osplitG rfl (fun h => ?_) (fun h => ?_) | refine osplitB rfl (fun h => ?_) (fun h => ?_)) <;> (fail_if_success (simp only [eq_self, reduceCtorEq] at h))) | refine onx ?_ | refine onb ?_ | refine sreg ?_ | refine qT rfl ?_ | refine qF rfl ?_ | refine scondT rfl ?_ | refine scondF rfl ?_ | refine ocondP rfl (fun h => ?_) (fun h => ?_) | refine ocondB rfl (fun h => ?_) (fun h => ?_) | refine scondP rfl (fun h => ?_) (fun h => ?_) | refine scond rfl (fun h => ?_) (fun h => ?_) | refine oskip ?_ | refine oskipb ?_ | refine oret ?_ | refine sem_ret ?_ | refine sem_seq ?_ | refine sreg1 ?_)))
        ((refine sem_mgo 8 hmix (by kernel_rfl) ?_; simp only [nt]); (repeat' (first | ((first | apply mop | apply mop0); (case hg => rfl); (case hq => rfl); intro k hk; simp (disch := omega) only [ev0, sl_cells, simprocAttr, slOf, intCs]; refine hk _ _ rfl ?_; clear hk k) | (apply mno; (case hg => rfl)) | (apply mbox; (case hx => (simp only [wv, simprocAttr] <;> rfl)); (case hg => rfl); (case hall => rfl); (case hr => rfl); simp only [nm, Nat.reduceAdd]) | (apply mbldS; (case hb => (simp (disch := omega) only [ev0, sl_cells, simprocAttr] <;> rfl)); (case hg => rfl); (case hr => rfl); simp only [nm, Nat.reduceAdd]) | ((first | (apply msto (q := 0); (case hq => rfl)) | (apply msto (q := 1); (case hq => rfl)) | (apply msto (q := 2); (case hq => rfl)) | (apply msto (q := 3); (case hq => rfl))); (case hx => (simp only [wv, simprocAttr] <;> rfl)); (case haddr => (simp only [wv, simprocAttr] <;> rfl)); (case hg => rfl); (case hl1 => rfl); (case hl2 => rfl); (case hok => rfl); (case hr => rfl); simp only [nm, Nat.reduceAdd]) | (apply mnil; simp only [SlotR.fin, ns]) | (refine msplit rfl (fun h => ?_) (fun h => ?_) <;> simp only [h] <;> (try simp only [nb] at h)))) <;> (repeat' (first | ((first | refine o1 rfl ?_ | refine o0 rfl ?_); intro k hk; simp (disch := omega) only [ev0, sl_cells, simprocAttr, slOf, intCs]; refine hk _ _ ?_; clear hk k) | refine ono rfl ?_ | ((first | refine osplitG rfl (fun h => ?_) (fun h => ?_) | refine osplitB rfl (fun h => ?_) (fun h => ?_)) <;> (fail_if_success (simp only [eq_self, reduceCtorEq] at h))) | refine onx ?_ | refine onb ?_ | refine sreg ?_ | refine qT rfl ?_ | refine qF rfl ?_ | refine scondT rfl ?_ | refine scondF rfl ?_ | refine ocondP rfl (fun h => ?_) (fun h => ?_) | refine ocondB rfl (fun h => ?_) (fun h => ?_) | refine scondP rfl (fun h => ?_) (fun h => ?_) | refine scond rfl (fun h => ?_) (fun h => ?_) | refine oskip ?_ | refine oskipb ?_ | refine oret ?_ | refine sem_ret ?_ | refine sem_seq ?_ | refine sreg1 ?_)))
        rw [h3, hstep]
        exact ⟨_, rfl, _, rfl, tree_eq rfl rfl⟩
    · rw [h3, hnil (by omega)]
      repeat' (first | ((first | refine o1 rfl ?_ | refine o0 rfl ?_); intro k hk; simp (disch := omega) only [ev0, sl_cells, simprocAttr, slOf]; refine hk _ _ ?_; clear hk k) | refine ono rfl ?_ | ((first | refine osplitG rfl (fun h => ?_) (fun h => ?_) | refine osplitB rfl (fun h => ?_) (fun h => ?_)) <;> (fail_if_success (simp only [eq_self, reduceCtorEq] at h))) | refine onx ?_ | refine onb ?_ | refine sreg ?_ | refine qT rfl ?_ | refine qF rfl ?_ | refine scondT rfl ?_ | refine scondF rfl ?_ | refine ocondP rfl (fun h => ?_) (fun h => ?_) | refine ocondB rfl (fun h => ?_) (fun h => ?_) | refine scondP rfl (fun h => ?_) (fun h => ?_) | refine scond rfl (fun h => ?_) (fun h => ?_) | refine oskip ?_ | refine oskipb ?_ | refine oret ?_ | refine sem_ret ?_ | refine sem_seq ?_ | refine sreg1 ?_)
      all_goals try (exfalso; omega)
      all_goals
        (refine sem_exit ?_; change sem _ _ _ _ _)
        repeat' (first | ((first | refine o1 rfl ?_ | refine o0 rfl ?_); intro k hk; simp (disch := omega) only [ev0, sl_cells, simprocAttr]; refine hk _ _ ?_; clear hk k) | refine ono rfl ?_ | ((first | refine osplitG rfl (fun h => ?_) (fun h => ?_) | refine osplitB rfl (fun h => ?_) (fun h => ?_)) <;> (fail_if_success (simp only [eq_self, reduceCtorEq] at h))) | refine onx ?_ | refine onb ?_ | refine sreg ?_ | refine qT rfl ?_ | refine qF rfl ?_ | refine scondT rfl ?_ | refine scondF rfl ?_ | refine ocondP rfl (fun h => ?_) (fun h => ?_) | refine ocondB rfl (fun h => ?_) (fun h => ?_) | refine scondP rfl (fun h => ?_) (fun h => ?_) | refine scond rfl (fun h => ?_) (fun h => ?_) | refine oskip ?_ | refine oskipb ?_ | refine oret ?_ | refine sem_ret ?_ | refine sem_seq ?_ | refine sreg1 ?_)
        exact ⟨_, rfl, _, rfl, tree_eq rfl rfl⟩

end Go.Proofs.Ytnempffajbdneaa
