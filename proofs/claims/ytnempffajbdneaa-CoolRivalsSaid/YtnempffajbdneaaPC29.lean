/- The law CoolRivals over trees. -/
import Derived.Test.YtnempffajbdneaaPC28
import Derived.Test.YtnempffajbdneaaPC8
set_option linter.unusedVariables false
set_option linter.unusedSimpArgs false
set_option maxRecDepth 8000
set_option maxHeartbeats 4000000
namespace Go.Proofs.Ytnempffajbdneaa
open Go Go.Av Go.Tk
attribute [local irreducible] Holds sem semL ACalls FnIs levelB levM keepsB bestF floorF
variable {G : World → Prop} (hG : ∀ w w', G w → RowKit.Below w.heap.size w w' → G w')
include hG
theorem law03_CoolRivals (t : CoolTown) (f : Int) (o : List Int) : Holds Try.prog G F.law03_CoolRivals [.agg t.cs, I f, slOf intCs o] (B true) := by
  have hS := law03_short hG t
  have hK := law03_known hG
  have hF := ref03_Fails hG f
  by_cases p1 : t.short
  · rw [decide_eq_true p1] at hS
    by_cases p3 : o.length ≤ 15
    · have q3 : ¬ (15 : Int) < o.length := by omega
      have hA := law03_asked hG t p1 o (by omega)
      by_cases p5 : t.ok ∧ coolersOk t.sites.length o
      · rw [decide_eq_true p5] at hA
        by_cases p7 : 0 ≤ f ∧ f ≤ 3
        · rw [decide_eq_true p7] at hF
          obtain ⟨ok, hc⟩ := p5
          obtain ⟨n, rfl⟩ := Int.eq_ofNat_of_zero_le p7.1
          have hn : n ≤ 3 := by omega
          have hKe := Keeps_ok hG t p1 o (by omega) ok hc n hn
          have hBe := Best_ok hG t p1 ok n hn
          have hFl := Floor_ok hG t p1 ok n hn
          have hsp := bestF_spec (t := t) (f := n) (2 ^ t.sites.length)
          have hflo := fun h => floor_le ok hc (f := n) h
          have hob := setB_lt hc.mem
          have hol := hc.list ok.2.1.2
          have hko : keepsB t o n = true ↔ brk t n (setB o) t.houses.length = none := by unfold keepsB; exact decide_eq_true_iff
          cases hbf : bestF t n (2 ^ t.sites.length) with
          | none =>
            rw [hbf] at hBe hsp
            have hown : keepsB t o n = false := Bool.eq_false_iff.2 fun q => hsp _ hob (hko.1 q)
            rw [hown] at hKe
            simp only [bestV] at hBe
            cases hff : floorF t n with
            | none =>
              rw [hff] at hFl
              simp only [floorV] at hFl
              (refine holds_of_sem hG fn_law03_CoolRivals (by simp) fun w0 S0 hG0 D0 => ?_; unfold c_law03_CoolRivals cval enterEnv; simp only [List.zipIdx_cons, List.zipIdx_nil, List.map_cons, List.map_nil, Nat.zero_add, Nat.reduceAdd])
              repeat' (first | ((first | refine o1 rfl ?_ | refine o0 rfl ?_); intro k hk; simp (disch := omega) only [ev0, sl_cells, simprocAttr, slOf, q3]; refine hk _ _ ?_; clear hk k) | refine ono rfl ?_ | (apply ocall; (case he => (simp only [ev0, sl_cells, simprocAttr] <;> rfl)); (case hc => first | exact hS | exact hK | exact hA | exact hF | exact hBe | exact hFl | exact hKe); (case ht => rfl); (case hg => rfl)) | ((first | refine osplitG rfl (fun h => ?_) (fun h => ?_) | refine osplitB rfl (fun h => ?_) (fun h => ?_)) <;> (fail_if_success (simp only [eq_self, reduceCtorEq] at h))) | refine onx ?_ | refine onb ?_ | refine sreg ?_ | refine qT rfl ?_ | refine qF rfl ?_ | refine scondT rfl ?_ | refine scondF rfl ?_ | refine ocondP rfl (fun h => ?_) (fun h => ?_) | refine ocondB rfl (fun h => ?_) (fun h => ?_) | refine scondP rfl (fun h => ?_) (fun h => ?_) | refine scond rfl (fun h => ?_) (fun h => ?_) | refine oskip ?_ | refine oskipb ?_ | refine oret ?_ | refine sem_ret ?_ | refine sem_seq ?_ | refine sreg1 ?_)
              exact ⟨_, rfl, _, rfl, tree_eq rfl rfl⟩
            | some m =>
              rw [hff] at hFl
              simp only [floorV] at hFl
              (refine holds_of_sem hG fn_law03_CoolRivals (by simp) fun w0 S0 hG0 D0 => ?_; unfold c_law03_CoolRivals cval enterEnv; simp only [List.zipIdx_cons, List.zipIdx_nil, List.map_cons, List.map_nil, Nat.zero_add, Nat.reduceAdd])
              repeat' (first | ((first | refine o1 rfl ?_ | refine o0 rfl ?_); intro k hk; simp (disch := omega) only [ev0, sl_cells, simprocAttr, slOf, q3]; refine hk _ _ ?_; clear hk k) | refine ono rfl ?_ | (apply ocall; (case he => (simp only [ev0, sl_cells, simprocAttr] <;> rfl)); (case hc => first | exact hS | exact hK | exact hA | exact hF | exact hBe | exact hFl | exact hKe); (case ht => rfl); (case hg => rfl)) | ((first | refine osplitG rfl (fun h => ?_) (fun h => ?_) | refine osplitB rfl (fun h => ?_) (fun h => ?_)) <;> (fail_if_success (simp only [eq_self, reduceCtorEq] at h))) | refine onx ?_ | refine onb ?_ | refine sreg ?_ | refine qT rfl ?_ | refine qF rfl ?_ | refine scondT rfl ?_ | refine scondF rfl ?_ | refine ocondP rfl (fun h => ?_) (fun h => ?_) | refine ocondB rfl (fun h => ?_) (fun h => ?_) | refine scondP rfl (fun h => ?_) (fun h => ?_) | refine scond rfl (fun h => ?_) (fun h => ?_) | refine oskip ?_ | refine oskipb ?_ | refine oret ?_ | refine sem_ret ?_ | refine sem_seq ?_ | refine sreg1 ?_)
              exact ⟨_, rfl, _, rfl, tree_eq rfl rfl⟩
          | some b =>
            rw [hbf] at hBe hsp
            obtain ⟨s1, s2, s3⟩ := hsp
            have hcb := coolers_listB s1
            have hsb := setB_listB ok.2.1.2 s1
            have hkb : keepsB t (listB b) n = true := by unfold keepsB; rw [hsb]; exact decide_eq_true s2
            obtain ⟨m, hff, hm⟩ := floor_le ok hcb hkb
            have hll := listB_len b
            have hKb := Keeps_ok hG t p1 (listB b) (by omega) ok hcb n hn
            rw [hkb] at hKb
            rw [hff] at hFl
            have hCo := ref03_Cost hG t ok o (by omega) hc.mem
            have hCl := ref03_Cost hG t ok (listB b) (by omega) hcb.mem
            have hCC := ref03_Coolers hG t (by have := ok.2.1; omega) (listB b) (by omega)
            rw [decide_eq_true hcb] at hCC
            have hBo := ref03_Before hG o (listB b) (by omega) (by omega)
            have hmo : keepsB t o n = true → m ≤ o.length := fun q => by
              obtain ⟨m', e1, e2⟩ := hflo q
              rw [hff] at e1; cases e1; exact e2
            have hbe : keepsB t o n = true → beforeC (costL t o, o) (costL t (listB b), listB b) = false := fun q => by
              have := s3 _ hob (hko.1 q)
              unfold chS at this
              rw [hol] at this
              exact this
            unfold beforeC at hbe
            simp only at hbe
            have hco0 : (0 : Int) ≤ m := by omega
            have q8 : ¬ (m : Int) < 0 := by omega
            have q9 : ¬ ((listB b).length : Int) < m := by omega
            simp only [bestV] at hBe
            simp only [floorV] at hFl
            generalize costL t o = co at *
            generalize listB b = L at *
            generalize costL t L = cl at *
            generalize hbo : before o L = bo at *
            clear hsb s3 hob hko hflo
            cases hown : keepsB t o n with
            | false =>
              rw [hown] at hKe
              (refine holds_of_sem hG fn_law03_CoolRivals (by simp) fun w0 S0 hG0 D0 => ?_; unfold c_law03_CoolRivals cval enterEnv; simp only [List.zipIdx_cons, List.zipIdx_nil, List.map_cons, List.map_nil, Nat.zero_add, Nat.reduceAdd])
              repeat' (first | ((first | refine o1 rfl ?_ | refine o0 rfl ?_); intro k hk; simp (disch := omega) only [ev0, sl_cells, simprocAttr, slOf, q3, q8, q9, eq_self]; refine hk _ _ ?_; clear hk k) | refine ono rfl ?_ | (apply ocall; (case he => (simp only [ev0, sl_cells, simprocAttr] <;> rfl)); (case hc => first | exact hS | exact hK | exact hA | exact hF | exact hBe | exact hFl | exact hKe | exact hKb | exact hCo | exact hCl | exact hCC | exact hBo); (case ht => rfl); (case hg => rfl)) | ((first | refine osplitG rfl (fun h => ?_) (fun h => ?_) | refine osplitB rfl (fun h => ?_) (fun h => ?_)) <;> (fail_if_success (simp only [eq_self, reduceCtorEq] at h))) | refine onx ?_ | refine onb ?_ | refine sreg ?_ | refine qT rfl ?_ | refine qF rfl ?_ | refine scondT rfl ?_ | refine scondF rfl ?_ | refine ocondP rfl (fun h => ?_) (fun h => ?_) | refine ocondB rfl (fun h => ?_) (fun h => ?_) | refine scondP rfl (fun h => ?_) (fun h => ?_) | refine scond rfl (fun h => ?_) (fun h => ?_) | refine oskip ?_ | refine oskipb ?_ | refine oret ?_ | refine sem_ret ?_ | refine sem_seq ?_ | refine sreg1 ?_)
              all_goals first
                | exact ⟨_, rfl, _, rfl, tree_eq rfl rfl⟩
                | trace_state
            | true =>
              rw [hown] at hKe
              have hmo' := hmo hown
              have hbe' := hbe hown
              have q10 : ¬ (o.length : Int) < m := by omega
              (refine holds_of_sem hG fn_law03_CoolRivals (by simp) fun w0 S0 hG0 D0 => ?_; unfold c_law03_CoolRivals cval enterEnv; simp only [List.zipIdx_cons, List.zipIdx_nil, List.map_cons, List.map_nil, Nat.zero_add, Nat.reduceAdd])
              repeat' (first | ((first | refine o1 rfl ?_ | refine o0 rfl ?_); intro k hk; simp (disch := omega) only [ev0, sl_cells, simprocAttr, slOf, q3, q8, q9, q10, eq_self]; refine hk _ _ ?_; clear hk k) | refine ono rfl ?_ | (apply ocall; (case he => (simp only [ev0, sl_cells, simprocAttr] <;> rfl)); (case hc => first | exact hS | exact hK | exact hA | exact hF | exact hBe | exact hFl | exact hKe | exact hKb | exact hCo | exact hCl | exact hCC | exact hBo); (case ht => rfl); (case hg => rfl)) | ((first | refine osplitG rfl (fun h => ?_) (fun h => ?_) | refine osplitB rfl (fun h => ?_) (fun h => ?_)) <;> (fail_if_success (simp only [eq_self, reduceCtorEq] at h))) | refine onx ?_ | refine onb ?_ | refine sreg ?_ | refine qT rfl ?_ | refine qF rfl ?_ | refine scondT rfl ?_ | refine scondF rfl ?_ | refine ocondP rfl (fun h => ?_) (fun h => ?_) | refine ocondB rfl (fun h => ?_) (fun h => ?_) | refine scondP rfl (fun h => ?_) (fun h => ?_) | refine scond rfl (fun h => ?_) (fun h => ?_) | refine oskip ?_ | refine oskipb ?_ | refine oret ?_ | refine sem_ret ?_ | refine sem_seq ?_ | refine sreg1 ?_)
              all_goals first
                | exact ⟨_, rfl, _, rfl, tree_eq rfl rfl⟩
                | (exfalso; (try simp only [nb] at *); grind)
                | trace_state
        · rw [decide_eq_false p7] at hF
          (refine holds_of_sem hG fn_law03_CoolRivals (by simp) fun w0 S0 hG0 D0 => ?_; unfold c_law03_CoolRivals cval enterEnv; simp only [List.zipIdx_cons, List.zipIdx_nil, List.map_cons, List.map_nil, Nat.zero_add, Nat.reduceAdd])
          repeat' (first | ((first | refine o1 rfl ?_ | refine o0 rfl ?_); intro k hk; simp (disch := omega) only [ev0, sl_cells, simprocAttr, slOf, q3]; refine hk _ _ ?_; clear hk k) | refine ono rfl ?_ | (apply ocall; (case he => (simp only [ev0, sl_cells, simprocAttr] <;> rfl)); (case hc => first | exact hS | exact hK | exact hA | exact hF); (case ht => rfl); (case hg => rfl)) | ((first | refine osplitG rfl (fun h => ?_) (fun h => ?_) | refine osplitB rfl (fun h => ?_) (fun h => ?_)) <;> (fail_if_success (simp only [eq_self, reduceCtorEq] at h))) | refine onx ?_ | refine onb ?_ | refine sreg ?_ | refine qT rfl ?_ | refine qF rfl ?_ | refine scondT rfl ?_ | refine scondF rfl ?_ | refine ocondP rfl (fun h => ?_) (fun h => ?_) | refine ocondB rfl (fun h => ?_) (fun h => ?_) | refine scondP rfl (fun h => ?_) (fun h => ?_) | refine scond rfl (fun h => ?_) (fun h => ?_) | refine oskip ?_ | refine oskipb ?_ | refine oret ?_ | refine sem_ret ?_ | refine sem_seq ?_ | refine sreg1 ?_)
          exact ⟨_, rfl, _, rfl, tree_eq rfl rfl⟩
      · rw [decide_eq_false p5] at hA
        (refine holds_of_sem hG fn_law03_CoolRivals (by simp) fun w0 S0 hG0 D0 => ?_; unfold c_law03_CoolRivals cval enterEnv; simp only [List.zipIdx_cons, List.zipIdx_nil, List.map_cons, List.map_nil, Nat.zero_add, Nat.reduceAdd])
        repeat' (first | ((first | refine o1 rfl ?_ | refine o0 rfl ?_); intro k hk; simp (disch := omega) only [ev0, sl_cells, simprocAttr, slOf, q3]; refine hk _ _ ?_; clear hk k) | refine ono rfl ?_ | (apply ocall; (case he => (simp only [ev0, sl_cells, simprocAttr] <;> rfl)); (case hc => first | exact hS | exact hK | exact hA); (case ht => rfl); (case hg => rfl)) | ((first | refine osplitG rfl (fun h => ?_) (fun h => ?_) | refine osplitB rfl (fun h => ?_) (fun h => ?_)) <;> (fail_if_success (simp only [eq_self, reduceCtorEq] at h))) | refine onx ?_ | refine onb ?_ | refine sreg ?_ | refine qT rfl ?_ | refine qF rfl ?_ | refine scondT rfl ?_ | refine scondF rfl ?_ | refine ocondP rfl (fun h => ?_) (fun h => ?_) | refine ocondB rfl (fun h => ?_) (fun h => ?_) | refine scondP rfl (fun h => ?_) (fun h => ?_) | refine scond rfl (fun h => ?_) (fun h => ?_) | refine oskip ?_ | refine oskipb ?_ | refine oret ?_ | refine sem_ret ?_ | refine sem_seq ?_ | refine sreg1 ?_)
        exact ⟨_, rfl, _, rfl, tree_eq rfl rfl⟩
    · have q3 : (15 : Int) < o.length := by omega
      (refine holds_of_sem hG fn_law03_CoolRivals (by simp) fun w0 S0 hG0 D0 => ?_; unfold c_law03_CoolRivals cval enterEnv; simp only [List.zipIdx_cons, List.zipIdx_nil, List.map_cons, List.map_nil, Nat.zero_add, Nat.reduceAdd])
      repeat' (first | ((first | refine o1 rfl ?_ | refine o0 rfl ?_); intro k hk; simp (disch := omega) only [ev0, sl_cells, simprocAttr, slOf, q3, decide_true]; refine hk _ _ ?_; clear hk k) | refine ono rfl ?_ | (apply ocall; (case he => (simp only [ev0, sl_cells, simprocAttr] <;> rfl)); (case hc => first | exact hS | exact hK); (case ht => rfl); (case hg => rfl)) | ((first | refine osplitG rfl (fun h => ?_) (fun h => ?_) | refine osplitB rfl (fun h => ?_) (fun h => ?_)) <;> (fail_if_success (simp only [eq_self, reduceCtorEq] at h))) | refine onx ?_ | refine onb ?_ | refine sreg ?_ | refine qT rfl ?_ | refine qF rfl ?_ | refine scondT rfl ?_ | refine scondF rfl ?_ | refine ocondP rfl (fun h => ?_) (fun h => ?_) | refine ocondB rfl (fun h => ?_) (fun h => ?_) | refine scondP rfl (fun h => ?_) (fun h => ?_) | refine scond rfl (fun h => ?_) (fun h => ?_) | refine oskip ?_ | refine oskipb ?_ | refine oret ?_ | refine sem_ret ?_ | refine sem_seq ?_ | refine sreg1 ?_)
      exact ⟨_, rfl, _, rfl, tree_eq rfl rfl⟩
  · rw [decide_eq_false p1] at hS
    (refine holds_of_sem hG fn_law03_CoolRivals (by simp) fun w0 S0 hG0 D0 => ?_; unfold c_law03_CoolRivals cval enterEnv; simp only [List.zipIdx_cons, List.zipIdx_nil, List.map_cons, List.map_nil, Nat.zero_add, Nat.reduceAdd])
    repeat' (first | ((first | refine o1 rfl ?_ | refine o0 rfl ?_); intro k hk; simp (disch := omega) only [ev0, sl_cells, simprocAttr, slOf]; refine hk _ _ ?_; clear hk k) | refine ono rfl ?_ | (apply ocall; (case he => (simp only [ev0, sl_cells, simprocAttr] <;> rfl)); (case hc => first | exact hS | exact hK); (case ht => rfl); (case hg => rfl)) | ((first | refine osplitG rfl (fun h => ?_) (fun h => ?_) | refine osplitB rfl (fun h => ?_) (fun h => ?_)) <;> (fail_if_success (simp only [eq_self, reduceCtorEq] at h))) | refine onx ?_ | refine onb ?_ | refine sreg ?_ | refine qT rfl ?_ | refine qF rfl ?_ | refine scondT rfl ?_ | refine scondF rfl ?_ | refine ocondP rfl (fun h => ?_) (fun h => ?_) | refine ocondB rfl (fun h => ?_) (fun h => ?_) | refine scondP rfl (fun h => ?_) (fun h => ?_) | refine scond rfl (fun h => ?_) (fun h => ?_) | refine oskip ?_ | refine oskipb ?_ | refine oret ?_ | refine sem_ret ?_ | refine sem_seq ?_ | refine sreg1 ?_)
    exact ⟨_, rfl, _, rfl, tree_eq rfl rfl⟩
end Go.Proofs.Ytnempffajbdneaa
