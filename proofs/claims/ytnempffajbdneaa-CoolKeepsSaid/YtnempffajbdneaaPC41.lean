/- Coolers that are refused; the law CoolKeeps over trees. -/
import Derived.Test.YtnempffajbdneaaPC37
import Derived.Test.YtnempffajbdneaaPC35
set_option linter.unusedVariables false
set_option linter.unusedSimpArgs false
set_option maxRecDepth 8000
set_option maxHeartbeats 4000000
namespace Go.Proofs.Ytnempffajbdneaa
open Go Go.Av Go.Tk
attribute [local irreducible] Holds sem semL ACalls FnIs levelB levM brkW keepsB bearsI
variable {G : World → Prop} (hG : ∀ w w', G w → RowKit.Below w.heap.size w w' → G w')
include hG
theorem Keeps_bad (t : CoolTown) (hs : t.short) (b : List Int) (hbl : b.length ≤ 1000) (f : Int) (hn : ¬ (t.ok ∧ (0 ≤ f ∧ f ≤ 3) ∧ coolersOk t.sites.length b)) : Holds Try.prog G F.cool_Keeps [.agg t.cs, slOf intCs b, I f] (.tup [B false, I 2]) := by
  have hfa := cool_failing hG f
  refine holds_of_sem hG fn_cool_Keeps (by simp) fun w0 S0 hG0 D0 => ?_
  have hgi := given_bad (K := ⟨Try.prog, w0, S0, G, hG0⟩) rfl hG t hs b hbl (decide (0 ≤ f ∧ f ≤ 3)) (fun q => hn ⟨q.1, of_decide_eq_true q.2.1, q.2.2⟩)
  unfold c_cool_Keeps cval enterEnv
  simp only [List.zipIdx_cons, List.zipIdx_nil, List.map_cons, List.map_nil, Nat.zero_add, Nat.reduceAdd]
  repeat' (first | ((first | refine o1 rfl ?_ | refine o0 rfl ?_); intro k hk; simp (disch := omega) only [ev0, sl_cells, simprocAttr]; refine hk _ _ ?_; clear hk k) | refine ono rfl ?_ | ((first | refine osplitG rfl (fun h => ?_) (fun h => ?_) | refine osplitB rfl (fun h => ?_) (fun h => ?_)) <;> (fail_if_success (simp only [eq_self, reduceCtorEq] at h))) | refine onx ?_ | refine onb ?_ | refine sreg ?_ | refine qT rfl ?_ | refine qF rfl ?_ | refine scondT rfl ?_ | refine scondF rfl ?_ | refine ocondP rfl (fun h => ?_) (fun h => ?_) | refine ocondB rfl (fun h => ?_) (fun h => ?_) | refine scondP rfl (fun h => ?_) (fun h => ?_) | refine scond rfl (fun h => ?_) (fun h => ?_) | refine oskip ?_ | refine oskipb ?_ | refine oret ?_ | refine sem_ret ?_ | refine sem_seq ?_ | refine sreg1 ?_)
  refine any_start hmix (any_win 0 4 (by kernel_rfl) ?_)
  simp only [List.take_succ_cons, List.take_zero, List.drop_succ_cons, List.drop_zero, List.take_nil, List.drop_nil]
  repeat' (first | ((first | apply mop | apply mop0); (case hg => rfl); (case hq => rfl); intro k hk; simp (disch := omega) only [ev0, sl_cells, simprocAttr]; refine hk _ _ rfl ?_; clear hk k) | (apply mno; (case hg => rfl)) | (apply mcall; (case he => (simp only [ev0, sl_cells, simprocAttr] <;> rfl)); (case hc => first | exact hfa); (case ht => rfl); (case hg => rfl); (case hr => rfl)) | (apply mbox; (case hx => (simp only [wv, simprocAttr] <;> rfl)); (case hg => rfl); (case hall => rfl); (case hr => rfl); simp only [nm, Nat.reduceAdd]) | (apply mbldS; (case hb => (simp (disch := omega) only [ev0, sl_cells, simprocAttr] <;> rfl)); (case hg => rfl); (case hr => rfl); simp only [nm, Nat.reduceAdd]) | ((first | (apply msto (q := 0); (case hq => rfl)) | (apply msto (q := 1); (case hq => rfl)) | (apply msto (q := 2); (case hq => rfl)) | (apply msto (q := 3); (case hq => rfl))); (case hx => (simp only [wv, simprocAttr] <;> rfl)); (case haddr => (simp only [wv, simprocAttr] <;> rfl)); (case hg => rfl); (case hl1 => rfl); (case hl2 => rfl); (case hok => rfl); (case hr => rfl); simp only [nm, Nat.reduceAdd]) | (apply mnil; simp only [SlotR.fin, ns]) | (refine msplit rfl (fun h => ?_) (fun h => ?_) <;> simp only [h] <;> (try simp only [nb] at h)))
  refine mnilC ?_
  simp only [List.map_nil, List.append_nil]
  refine any_seq 4 5 (by kernel_rfl) ?_
  simp only [List.take_succ_cons, List.take_zero, List.drop_succ_cons, List.drop_zero, List.take_nil, List.drop_nil]
  refine semL_acall rfl (by exact hgi) fun ae μ hr => ?_
  obtain ⟨rfl, rfl⟩ := hr
  change semL _ _ _ ⟨(_, _) :: _, _⟩ _
  refine onil ?_
  change AnyC _ _ _ _ _ 5 _
  refine any_win 5 10 (by kernel_rfl) ?_
  simp only [List.take_succ_cons, List.take_zero, List.drop_succ_cons, List.drop_zero, List.take_nil, List.drop_nil]
  repeat' (first | ((first | apply mop | apply mop0); (case hg => rfl); (case hq => rfl); intro k hk; simp (disch := omega) only [ev0, sl_cells, simprocAttr]; refine hk _ _ rfl ?_; clear hk k) | (apply mno; (case hg => rfl)) | (apply mbox; (case hx => (simp only [wv, simprocAttr] <;> rfl)); (case hg => rfl); (case hall => rfl); (case hr => rfl); simp only [nm, Nat.reduceAdd]) | (apply mbldS; (case hb => (simp (disch := omega) only [ev0, sl_cells, simprocAttr] <;> rfl)); (case hg => rfl); (case hr => rfl); simp only [nm, Nat.reduceAdd]) | ((first | (apply msto (q := 0); (case hq => rfl)) | (apply msto (q := 1); (case hq => rfl)) | (apply msto (q := 2); (case hq => rfl)) | (apply msto (q := 3); (case hq => rfl))); (case hx => (simp only [wv, simprocAttr] <;> rfl)); (case haddr => (simp only [wv, simprocAttr] <;> rfl)); (case hg => rfl); (case hl1 => rfl); (case hl2 => rfl); (case hok => rfl); (case hr => rfl); simp only [nm, Nat.reduceAdd]) | (apply mnil; simp only [SlotR.fin, ns]) | (refine msplit rfl (fun h => ?_) (fun h => ?_) <;> simp only [h] <;> (try simp only [nb] at h)))
  refine mnilC (any_end 10 rfl ?_)
  simp only [List.map_nil, List.append_nil]
  change sem _ _ _ _ _
  repeat' (first | ((first | refine o1 rfl ?_ | refine o0 rfl ?_); intro k hk; simp (disch := omega) only [ev0, sl_cells, simprocAttr]; refine hk _ _ ?_; clear hk k) | refine ono rfl ?_ | ((first | refine osplitG rfl (fun h => ?_) (fun h => ?_) | refine osplitB rfl (fun h => ?_) (fun h => ?_)) <;> (fail_if_success (simp only [eq_self, reduceCtorEq] at h))) | refine onx ?_ | refine onb ?_ | refine sreg ?_ | refine qT rfl ?_ | refine qF rfl ?_ | refine scondT rfl ?_ | refine scondF rfl ?_ | refine ocondP rfl (fun h => ?_) (fun h => ?_) | refine ocondB rfl (fun h => ?_) (fun h => ?_) | refine scondP rfl (fun h => ?_) (fun h => ?_) | refine scond rfl (fun h => ?_) (fun h => ?_) | refine oskip ?_ | refine oskipb ?_ | refine oret ?_ | refine sem_ret ?_ | refine sem_seq ?_ | refine sreg1 ?_)
  exact ⟨_, rfl, _, rfl, tree_eq rfl rfl⟩
theorem Bears_bad (t : CoolTown) (hs : t.short) (b : List Int) (hbl : b.length ≤ 1000) (hn : ¬ (t.ok ∧ coolersOk t.sites.length b)) : Holds Try.prog G F.cool_Bears [.agg t.cs, slOf intCs b] (.tup [I 0, I 2]) := by
  refine holds_of_sem hG fn_cool_Bears (by simp) fun w0 S0 hG0 D0 => ?_
  have hgi := given_bad (K := ⟨Try.prog, w0, S0, G, hG0⟩) rfl hG t hs b hbl true (fun q => hn ⟨q.1, q.2.2⟩)
  unfold c_cool_Bears cval enterEnv
  simp only [List.zipIdx_cons, List.zipIdx_nil, List.map_cons, List.map_nil, Nat.zero_add, Nat.reduceAdd]
  repeat' (first | ((first | refine o1 rfl ?_ | refine o0 rfl ?_); intro k hk; simp (disch := omega) only [ev0, sl_cells, simprocAttr]; refine hk _ _ ?_; clear hk k) | refine ono rfl ?_ | ((first | refine osplitG rfl (fun h => ?_) (fun h => ?_) | refine osplitB rfl (fun h => ?_) (fun h => ?_)) <;> (fail_if_success (simp only [eq_self, reduceCtorEq] at h))) | refine onx ?_ | refine onb ?_ | refine sreg ?_ | refine qT rfl ?_ | refine qF rfl ?_ | refine scondT rfl ?_ | refine scondF rfl ?_ | refine ocondP rfl (fun h => ?_) (fun h => ?_) | refine ocondB rfl (fun h => ?_) (fun h => ?_) | refine scondP rfl (fun h => ?_) (fun h => ?_) | refine scond rfl (fun h => ?_) (fun h => ?_) | refine oskip ?_ | refine oskipb ?_ | refine oret ?_ | refine sem_ret ?_ | refine sem_seq ?_ | refine sreg1 ?_)
  refine semL_acall rfl (by exact hgi) fun ae μ hr => ?_
  obtain ⟨rfl, rfl⟩ := hr
  change semL _ _ _ ⟨(_, _) :: _, _⟩ _
  repeat' (first | ((first | refine o1 rfl ?_ | refine o0 rfl ?_); intro k hk; simp (disch := omega) only [ev0, sl_cells, simprocAttr]; refine hk _ _ ?_; clear hk k) | refine ono rfl ?_ | ((first | refine osplitG rfl (fun h => ?_) (fun h => ?_) | refine osplitB rfl (fun h => ?_) (fun h => ?_)) <;> (fail_if_success (simp only [eq_self, reduceCtorEq] at h))) | refine onx ?_ | refine onb ?_ | refine sreg ?_ | refine qT rfl ?_ | refine qF rfl ?_ | refine scondT rfl ?_ | refine scondF rfl ?_ | refine ocondP rfl (fun h => ?_) (fun h => ?_) | refine ocondB rfl (fun h => ?_) (fun h => ?_) | refine scondP rfl (fun h => ?_) (fun h => ?_) | refine scond rfl (fun h => ?_) (fun h => ?_) | refine oskip ?_ | refine oskipb ?_ | refine oret ?_ | refine sem_ret ?_ | refine sem_seq ?_ | refine sreg1 ?_)
  exact ⟨_, rfl, _, rfl, tree_eq rfl rfl⟩
theorem Break_bad (t : CoolTown) (hs : t.short) (b : List Int) (hbl : b.length ≤ 1000) (f : Int) (hn : ¬ (t.ok ∧ (0 ≤ f ∧ f ≤ 3) ∧ coolersOk t.sites.length b)) : Holds Try.prog G F.cool_Break [.agg t.cs, slOf intCs b, I f] (.tup [I 0, .nilsl, I 2]) := by
  have hfa := cool_failing hG f
  refine holds_of_sem hG fn_cool_Break (by simp) fun w0 S0 hG0 D0 => ?_
  have hgi := (cool_given (K := ⟨Try.prog, w0, S0, G, hG0⟩) rfl hG t hs b hbl (decide (0 ≤ f ∧ f ≤ 3))).imp (R' := fun ae ν => ae = .ret (.tup [.nilp, I 2]) ∧ ν = [.row 25 0 2 [t.cs]]) fun ae ν hr => by rwa [if_neg (fun q => hn ⟨q.1, of_decide_eq_true q.2.1, q.2.2⟩)] at hr
  have hg2 : ∀ o, o = AObj.row 90 0 1 [] ∨ o = AObj.row 90 1 1 [[.nilp]] → ACalls ⟨Try.prog, w0, S0, G, hG0⟩ F.cool_given [.agg t.cs, slOf intCs b, B (decide (0 ≤ f ∧ f ≤ 3))] ([.row 25 0 2 [t.cs]] ++ [o]) fun ae ν => ae = .ret (.tup [.nilp, I 2]) ∧ ν = [.row 25 0 2 [t.cs]] ++ [o] ++ [.row 25 0 2 [t.cs]] := fun o ho => by
    rcases ho with rfl | rfl
    · exact hgi.placed1 [] rfl rfl rfl rfl rfl rfl
    · exact hgi.placed1 [] rfl rfl rfl rfl rfl rfl
  unfold c_cool_Break cval enterEnv
  simp only [List.zipIdx_cons, List.zipIdx_nil, List.map_cons, List.map_nil, Nat.zero_add, Nat.reduceAdd]
  repeat' (first | ((first | refine o1 rfl ?_ | refine o0 rfl ?_); intro k hk; simp (disch := omega) only [ev0, sl_cells, simprocAttr]; refine hk _ _ ?_; clear hk k) | refine ono rfl ?_ | ((first | refine osplitG rfl (fun h => ?_) (fun h => ?_) | refine osplitB rfl (fun h => ?_) (fun h => ?_)) <;> (fail_if_success (simp only [eq_self, reduceCtorEq] at h))) | refine onx ?_ | refine onb ?_ | refine sreg ?_ | refine qT rfl ?_ | refine qF rfl ?_ | refine scondT rfl ?_ | refine scondF rfl ?_ | refine ocondP rfl (fun h => ?_) (fun h => ?_) | refine ocondB rfl (fun h => ?_) (fun h => ?_) | refine scondP rfl (fun h => ?_) (fun h => ?_) | refine scond rfl (fun h => ?_) (fun h => ?_) | refine oskip ?_ | refine oskipb ?_ | refine oret ?_ | refine sem_ret ?_ | refine sem_seq ?_ | refine sreg1 ?_)
  refine sem_scope ?_
  repeat' (first | ((first | refine o1 rfl ?_ | refine o0 rfl ?_); intro k hk; simp (disch := omega) only [ev0, sl_cells, simprocAttr]; refine hk _ _ ?_; clear hk k) | refine ono rfl ?_ | ((first | refine osplitG rfl (fun h => ?_) (fun h => ?_) | refine osplitB rfl (fun h => ?_) (fun h => ?_)) <;> (fail_if_success (simp only [eq_self, reduceCtorEq] at h))) | refine onx ?_ | refine onb ?_ | refine sreg ?_ | refine qT rfl ?_ | refine qF rfl ?_ | refine scondT rfl ?_ | refine scondF rfl ?_ | refine ocondP rfl (fun h => ?_) (fun h => ?_) | refine ocondB rfl (fun h => ?_) (fun h => ?_) | refine scondP rfl (fun h => ?_) (fun h => ?_) | refine scond rfl (fun h => ?_) (fun h => ?_) | refine oskip ?_ | refine oskipb ?_ | refine oret ?_ | refine sem_ret ?_ | refine sem_seq ?_ | refine sreg1 ?_)
  refine any_start hmix ?_
  have hq1 : qval [⟨some 17, none, .load true 2 (.t 3)⟩, ⟨some 18, none, .mv (.t 1)⟩, ⟨some 19, none, .mv (.t 2)⟩] [(8, .int .i64 0), (7, .nilsl), (6, .int .i64 0), (3, .ptr 0 0 t.cs.length 0 0), (0, .agg t.cs), (1, slOf intCs b), (2, I f)] [.row 25 0 t.cs.length [t.cs]] = some ([.agg (t.cs.take 2), slOf intCs b, I f], [(19, I f), (18, slOf intCs b), (17, .agg (t.cs.take 2)), (8, .int .i64 0), (7, .nilsl), (6, .int .i64 0), (3, .ptr 0 0 t.cs.length 0 0), (0, .agg t.cs), (1, slOf intCs b), (2, I f)]) := rfl
  have hq2 := (qval_sound (K := ⟨Try.prog, w0, S0, G, hG0⟩) hq1).append (qcall (s := ⟨some 20, none, .call 50 [.t 19]⟩) rfl hfa rfl)
  apply any_eff1Q (m := 11) (p := 4) (i0 := 8) (k0 := 9) (x := .tup [.nilp, I 2]) (v := .nilp) (c0 := .nilp) (e0 := 90) (d0 := 9) (y := .t 22) (ν1 := [.row 25 0 2 [t.cs]]) (ν2 := [.row 25 0 2 [t.cs]]) (hok := by kernel_rfl) (he := by kernel_rfl) (hb0 := rfl) (hc0 := rfl) (hk0 := rfl) (hla := rfl) (hlb := rfl) (hlc := rfl) (ha1 := hq2)
  case hb1 =>
    simp (disch := omega) only [List.take_succ_cons, List.take_zero, List.drop_succ_cons, List.drop_zero, fake1, List.set_cons_succ, List.set_cons_zero, opAt, List.getD_cons_succ, List.getD_cons_zero, qval, pushE, quietK, and_self, if_true, wv, simprocAttr, ev0, sl_cells]
    rfl
  case hc1 =>
    simp (disch := omega) only [List.take_succ_cons, List.take_zero, List.drop_succ_cons, List.drop_zero, fake1, List.set_cons_succ, List.set_cons_zero, opAt, List.getD_cons_succ, List.getD_cons_zero, qval, pushE, quietK, and_self, if_true, wv, simprocAttr, ev0, sl_cells]
    rfl
  case hcl => rfl
  case hl1 => rfl
  case hc => exact hg2
  case hv => rfl
  case hz1 => rfl
  case hz2 => rfl
  case hdk => rfl
  case h =>
    refine any_end 11 rfl ?_
    change sem _ _ _ _ _
    simp only [List.cons_append, List.nil_append]
    repeat' (first | ((first | refine o1 rfl ?_ | refine o0 rfl ?_); intro k hk; simp (disch := omega) only [ev0, sl_cells, simprocAttr]; refine hk _ _ ?_; clear hk k) | refine ono rfl ?_ | ((first | refine osplitG rfl (fun h => ?_) (fun h => ?_) | refine osplitB rfl (fun h => ?_) (fun h => ?_)) <;> (fail_if_success (simp only [eq_self, reduceCtorEq] at h))) | refine onx ?_ | refine onb ?_ | refine sreg ?_ | refine qT rfl ?_ | refine qF rfl ?_ | refine scondT rfl ?_ | refine scondF rfl ?_ | refine ocondP rfl (fun h => ?_) (fun h => ?_) | refine ocondB rfl (fun h => ?_) (fun h => ?_) | refine scondP rfl (fun h => ?_) (fun h => ?_) | refine scond rfl (fun h => ?_) (fun h => ?_) | refine oskip ?_ | refine oskipb ?_ | refine oret ?_ | refine sem_ret ?_ | refine sem_seq ?_ | refine sreg1 ?_)
    exact ⟨_, rfl, _, rfl, tree_eq rfl rfl⟩
theorem law03_CoolKeeps (t : CoolTown) (b : List Int) (f : Int) : Holds Try.prog G F.law03_CoolKeeps [.agg t.cs, slOf intCs b, I f] (B true) := by
  have hS := law03_short hG t
  have hK := law03_known hG
  have hF := ref03_Fails hG f
  by_cases p1 : t.short
  · rw [decide_eq_true p1] at hS
    by_cases p2 : b.length ≤ 8
    · have q2 : ¬ (8 : Int) < b.length := by omega
      have hT := ref03_Town hG t p1
      have hC := cool_Check hG t p1
      have hA := law03_asked hG t p1 b (by omega)
      by_cases p3 : t.ok ∧ coolersOk t.sites.length b
      · obtain ⟨ok, hc⟩ := p3
        rw [decide_eq_true ⟨ok, hc⟩] at hA
        rw [decide_eq_true ok] at hT
        rw [if_pos ok] at hC
        have hBe := Bears_ok hG t p1 b (by omega) ok hc
        have hRBe := ref03_Bears hG t ok b hc
        by_cases p7 : 0 ≤ f ∧ f ≤ 3
        · rw [decide_eq_true p7] at hF
          obtain ⟨n, rfl⟩ := Int.eq_ofNat_of_zero_le p7.1
          have hn : n ≤ 3 := by omega
          have hKe := Keeps_ok hG t p1 b (by omega) ok hc n hn
          have hBr := Break_ok hG t p1 b (by omega) ok hc n hn
          have hRB := ref03_Break hG t ok b hc n hn
          unfold breakV at hBr
          unfold refBr at hRB
          unfold keepsB at hKe
          cases hbk : brk t n (setB b) t.houses.length with
          | none =>
            rw [hbk] at hBr hRB hKe
            rw [decide_eq_true rfl] at hKe
            simp only at hBr hRB
            by_cases hb0 : 0 ≤ bearsI t b
            · rw [if_pos hb0] at hBe
              generalize bearsI t b = r at *
              have hb1 : ¬ r < 0 := by omega
              (refine holds_of_sem hG fn_law03_CoolKeeps (by simp) fun w0 S0 hG0 D0 => ?_; unfold c_law03_CoolKeeps cval enterEnv; simp only [List.zipIdx_cons, List.zipIdx_nil, List.map_cons, List.map_nil, Nat.zero_add, Nat.reduceAdd])
              repeat' (first | ((first | refine o1 rfl ?_ | refine o0 rfl ?_); intro k hk; simp (disch := omega) only [ev0, sl_cells, simprocAttr, slOf, CoolTown.cs, q2, hb0, hb1, eq_self, decide_true, decide_false]; refine hk _ _ ?_; clear hk k) | refine ono rfl ?_ | (apply ocall; (case he => (simp only [ev0, sl_cells, simprocAttr] <;> rfl)); (case hc => first | exact hS | exact hK | exact hT | exact hF | exact hC | exact hA | exact hBe | exact hRBe | exact hKe | exact hBr | exact hRB); (case ht => rfl); (case hg => rfl)) | ((first | refine osplitG rfl (fun h => ?_) (fun h => ?_) | refine osplitB rfl (fun h => ?_) (fun h => ?_)) <;> (fail_if_success (simp only [eq_self, reduceCtorEq] at h))) | refine onx ?_ | refine onb ?_ | refine sreg ?_ | refine qT rfl ?_ | refine qF rfl ?_ | refine scondT rfl ?_ | refine scondF rfl ?_ | refine ocondP rfl (fun h => ?_) (fun h => ?_) | refine ocondB rfl (fun h => ?_) (fun h => ?_) | refine scondP rfl (fun h => ?_) (fun h => ?_) | refine scond rfl (fun h => ?_) (fun h => ?_) | refine oskip ?_ | refine oskipb ?_ | refine oret ?_ | refine sem_ret ?_ | refine sem_seq ?_ | refine sreg1 ?_)
              exact ⟨_, rfl, _, rfl, tree_eq rfl rfl⟩
            · rw [if_neg hb0] at hBe
              generalize bearsI t b = r at *
              have hb1 : r < 0 := by omega
              (refine holds_of_sem hG fn_law03_CoolKeeps (by simp) fun w0 S0 hG0 D0 => ?_; unfold c_law03_CoolKeeps cval enterEnv; simp only [List.zipIdx_cons, List.zipIdx_nil, List.map_cons, List.map_nil, Nat.zero_add, Nat.reduceAdd])
              repeat' (first | ((first | refine o1 rfl ?_ | refine o0 rfl ?_); intro k hk; simp (disch := omega) only [ev0, sl_cells, simprocAttr, slOf, CoolTown.cs, q2, hb0, hb1, eq_self, decide_true, decide_false]; refine hk _ _ ?_; clear hk k) | refine ono rfl ?_ | (apply ocall; (case he => (simp only [ev0, sl_cells, simprocAttr] <;> rfl)); (case hc => first | exact hS | exact hK | exact hT | exact hF | exact hC | exact hA | exact hBe | exact hRBe | exact hKe | exact hBr | exact hRB); (case ht => rfl); (case hg => rfl)) | ((first | refine osplitG rfl (fun h => ?_) (fun h => ?_) | refine osplitB rfl (fun h => ?_) (fun h => ?_)) <;> (fail_if_success (simp only [eq_self, reduceCtorEq] at h))) | refine onx ?_ | refine onb ?_ | refine sreg ?_ | refine qT rfl ?_ | refine qF rfl ?_ | refine scondT rfl ?_ | refine scondF rfl ?_ | refine ocondP rfl (fun h => ?_) (fun h => ?_) | refine ocondB rfl (fun h => ?_) (fun h => ?_) | refine scondP rfl (fun h => ?_) (fun h => ?_) | refine scond rfl (fun h => ?_) (fun h => ?_) | refine oskip ?_ | refine oskipb ?_ | refine oret ?_ | refine sem_ret ?_ | refine sem_seq ?_ | refine sreg1 ?_)
              exact ⟨_, rfl, _, rfl, tree_eq rfl rfl⟩
          | some y =>
            rw [hbk] at hBr hRB hKe
            rw [decide_eq_false (by simp)] at hKe
            simp only at hBr hRB
            have hl10 := listB_len ((brkW t b n y).getD 0)
            generalize listB ((brkW t b n y).getD 0) = l at *
            have hSa := ref03_Same hG l l (by omega) (by omega)
            rw [decide_eq_true rfl] at hSa
            have hy1 : ¬ (y : Int) < 0 := by omega
            by_cases hb0 : 0 ≤ bearsI t b
            · rw [if_pos hb0] at hBe
              generalize bearsI t b = r at *
              have hb1 : ¬ r < 0 := by omega
              (refine holds_of_sem hG fn_law03_CoolKeeps (by simp) fun w0 S0 hG0 D0 => ?_; unfold c_law03_CoolKeeps cval enterEnv; simp only [List.zipIdx_cons, List.zipIdx_nil, List.map_cons, List.map_nil, Nat.zero_add, Nat.reduceAdd])
              repeat' (first | ((first | refine o1 rfl ?_ | refine o0 rfl ?_); intro k hk; simp (disch := omega) only [ev0, sl_cells, simprocAttr, slOf, CoolTown.cs, q2, hb0, hb1, hy1, eq_self, decide_true, decide_false]; refine hk _ _ ?_; clear hk k) | refine ono rfl ?_ | (apply ocall; (case he => (simp only [ev0, sl_cells, simprocAttr] <;> rfl)); (case hc => first | exact hS | exact hK | exact hT | exact hF | exact hC | exact hA | exact hBe | exact hRBe | exact hKe | exact hBr | exact hRB | exact hSa); (case ht => rfl); (case hg => rfl)) | ((first | refine osplitG rfl (fun h => ?_) (fun h => ?_) | refine osplitB rfl (fun h => ?_) (fun h => ?_)) <;> (fail_if_success (simp only [eq_self, reduceCtorEq] at h))) | refine onx ?_ | refine onb ?_ | refine sreg ?_ | refine qT rfl ?_ | refine qF rfl ?_ | refine scondT rfl ?_ | refine scondF rfl ?_ | refine ocondP rfl (fun h => ?_) (fun h => ?_) | refine ocondB rfl (fun h => ?_) (fun h => ?_) | refine scondP rfl (fun h => ?_) (fun h => ?_) | refine scond rfl (fun h => ?_) (fun h => ?_) | refine oskip ?_ | refine oskipb ?_ | refine oret ?_ | refine sem_ret ?_ | refine sem_seq ?_ | refine sreg1 ?_)
              exact ⟨_, rfl, _, rfl, tree_eq rfl rfl⟩
            · rw [if_neg hb0] at hBe
              generalize bearsI t b = r at *
              have hb1 : r < 0 := by omega
              (refine holds_of_sem hG fn_law03_CoolKeeps (by simp) fun w0 S0 hG0 D0 => ?_; unfold c_law03_CoolKeeps cval enterEnv; simp only [List.zipIdx_cons, List.zipIdx_nil, List.map_cons, List.map_nil, Nat.zero_add, Nat.reduceAdd])
              repeat' (first | ((first | refine o1 rfl ?_ | refine o0 rfl ?_); intro k hk; simp (disch := omega) only [ev0, sl_cells, simprocAttr, slOf, CoolTown.cs, q2, hb0, hb1, hy1, eq_self, decide_true, decide_false]; refine hk _ _ ?_; clear hk k) | refine ono rfl ?_ | (apply ocall; (case he => (simp only [ev0, sl_cells, simprocAttr] <;> rfl)); (case hc => first | exact hS | exact hK | exact hT | exact hF | exact hC | exact hA | exact hBe | exact hRBe | exact hKe | exact hBr | exact hRB | exact hSa); (case ht => rfl); (case hg => rfl)) | ((first | refine osplitG rfl (fun h => ?_) (fun h => ?_) | refine osplitB rfl (fun h => ?_) (fun h => ?_)) <;> (fail_if_success (simp only [eq_self, reduceCtorEq] at h))) | refine onx ?_ | refine onb ?_ | refine sreg ?_ | refine qT rfl ?_ | refine qF rfl ?_ | refine scondT rfl ?_ | refine scondF rfl ?_ | refine ocondP rfl (fun h => ?_) (fun h => ?_) | refine ocondB rfl (fun h => ?_) (fun h => ?_) | refine scondP rfl (fun h => ?_) (fun h => ?_) | refine scond rfl (fun h => ?_) (fun h => ?_) | refine oskip ?_ | refine oskipb ?_ | refine oret ?_ | refine sem_ret ?_ | refine sem_seq ?_ | refine sreg1 ?_)
              exact ⟨_, rfl, _, rfl, tree_eq rfl rfl⟩
        · rw [decide_eq_false p7] at hF
          have hKe := Keeps_bad hG t p1 b (by omega) f (fun q => p7 q.2.1)
          have hBr := Break_bad hG t p1 b (by omega) f (fun q => p7 q.2.1)
          by_cases hb0 : 0 ≤ bearsI t b
          · rw [if_pos hb0] at hBe
            generalize bearsI t b = r at *
            have hb1 : ¬ r < 0 := by omega
            (refine holds_of_sem hG fn_law03_CoolKeeps (by simp) fun w0 S0 hG0 D0 => ?_; unfold c_law03_CoolKeeps cval enterEnv; simp only [List.zipIdx_cons, List.zipIdx_nil, List.map_cons, List.map_nil, Nat.zero_add, Nat.reduceAdd])
            repeat' (first | ((first | refine o1 rfl ?_ | refine o0 rfl ?_); intro k hk; simp (disch := omega) only [ev0, sl_cells, simprocAttr, slOf, CoolTown.cs, q2, hb0, hb1, eq_self, decide_true, decide_false]; refine hk _ _ ?_; clear hk k) | refine ono rfl ?_ | (apply ocall; (case he => (simp only [ev0, sl_cells, simprocAttr] <;> rfl)); (case hc => first | exact hS | exact hK | exact hT | exact hF | exact hC | exact hA | exact hBe | exact hRBe | exact hKe | exact hBr); (case ht => rfl); (case hg => rfl)) | ((first | refine osplitG rfl (fun h => ?_) (fun h => ?_) | refine osplitB rfl (fun h => ?_) (fun h => ?_)) <;> (fail_if_success (simp only [eq_self, reduceCtorEq] at h))) | refine onx ?_ | refine onb ?_ | refine sreg ?_ | refine qT rfl ?_ | refine qF rfl ?_ | refine scondT rfl ?_ | refine scondF rfl ?_ | refine ocondP rfl (fun h => ?_) (fun h => ?_) | refine ocondB rfl (fun h => ?_) (fun h => ?_) | refine scondP rfl (fun h => ?_) (fun h => ?_) | refine scond rfl (fun h => ?_) (fun h => ?_) | refine oskip ?_ | refine oskipb ?_ | refine oret ?_ | refine sem_ret ?_ | refine sem_seq ?_ | refine sreg1 ?_)
            exact ⟨_, rfl, _, rfl, tree_eq rfl rfl⟩
          · rw [if_neg hb0] at hBe
            generalize bearsI t b = r at *
            have hb1 : r < 0 := by omega
            (refine holds_of_sem hG fn_law03_CoolKeeps (by simp) fun w0 S0 hG0 D0 => ?_; unfold c_law03_CoolKeeps cval enterEnv; simp only [List.zipIdx_cons, List.zipIdx_nil, List.map_cons, List.map_nil, Nat.zero_add, Nat.reduceAdd])
            repeat' (first | ((first | refine o1 rfl ?_ | refine o0 rfl ?_); intro k hk; simp (disch := omega) only [ev0, sl_cells, simprocAttr, slOf, CoolTown.cs, q2, hb0, hb1, eq_self, decide_true, decide_false]; refine hk _ _ ?_; clear hk k) | refine ono rfl ?_ | (apply ocall; (case he => (simp only [ev0, sl_cells, simprocAttr] <;> rfl)); (case hc => first | exact hS | exact hK | exact hT | exact hF | exact hC | exact hA | exact hBe | exact hRBe | exact hKe | exact hBr); (case ht => rfl); (case hg => rfl)) | ((first | refine osplitG rfl (fun h => ?_) (fun h => ?_) | refine osplitB rfl (fun h => ?_) (fun h => ?_)) <;> (fail_if_success (simp only [eq_self, reduceCtorEq] at h))) | refine onx ?_ | refine onb ?_ | refine sreg ?_ | refine qT rfl ?_ | refine qF rfl ?_ | refine scondT rfl ?_ | refine scondF rfl ?_ | refine ocondP rfl (fun h => ?_) (fun h => ?_) | refine ocondB rfl (fun h => ?_) (fun h => ?_) | refine scondP rfl (fun h => ?_) (fun h => ?_) | refine scond rfl (fun h => ?_) (fun h => ?_) | refine oskip ?_ | refine oskipb ?_ | refine oret ?_ | refine sem_ret ?_ | refine sem_seq ?_ | refine sreg1 ?_)
            exact ⟨_, rfl, _, rfl, tree_eq rfl rfl⟩
      · rw [decide_eq_false p3] at hA
        have hKe := Keeps_bad hG t p1 b (by omega) f (fun q => p3 ⟨q.1, q.2.2⟩)
        have hBr := Break_bad hG t p1 b (by omega) f (fun q => p3 ⟨q.1, q.2.2⟩)
        have hBe := Bears_bad hG t p1 b (by omega) p3
        by_cases ok : t.ok
        · rw [decide_eq_true ok] at hT
          rw [if_pos ok] at hC
          (refine holds_of_sem hG fn_law03_CoolKeeps (by simp) fun w0 S0 hG0 D0 => ?_; unfold c_law03_CoolKeeps cval enterEnv; simp only [List.zipIdx_cons, List.zipIdx_nil, List.map_cons, List.map_nil, Nat.zero_add, Nat.reduceAdd])
          repeat' (first | ((first | refine o1 rfl ?_ | refine o0 rfl ?_); intro k hk; simp (disch := omega) only [ev0, sl_cells, simprocAttr, slOf, CoolTown.cs, q2, decide_true, decide_false]; refine hk _ _ ?_; clear hk k) | refine ono rfl ?_ | (apply ocall; (case he => (simp only [ev0, sl_cells, simprocAttr] <;> rfl)); (case hc => first | exact hS | exact hK | exact hT | exact hC | exact hA | exact hBe | exact hKe | exact hBr); (case ht => rfl); (case hg => rfl)) | ((first | refine osplitG rfl (fun h => ?_) (fun h => ?_) | refine osplitB rfl (fun h => ?_) (fun h => ?_)) <;> (fail_if_success (simp only [eq_self, reduceCtorEq] at h))) | refine onx ?_ | refine onb ?_ | refine sreg ?_ | refine qT rfl ?_ | refine qF rfl ?_ | refine scondT rfl ?_ | refine scondF rfl ?_ | refine ocondP rfl (fun h => ?_) (fun h => ?_) | refine ocondB rfl (fun h => ?_) (fun h => ?_) | refine scondP rfl (fun h => ?_) (fun h => ?_) | refine scond rfl (fun h => ?_) (fun h => ?_) | refine oskip ?_ | refine oskipb ?_ | refine oret ?_ | refine sem_ret ?_ | refine sem_seq ?_ | refine sreg1 ?_)
          exact ⟨_, rfl, _, rfl, tree_eq rfl rfl⟩
        · rw [decide_eq_false ok] at hT
          rw [if_neg ok] at hC
          (refine holds_of_sem hG fn_law03_CoolKeeps (by simp) fun w0 S0 hG0 D0 => ?_; unfold c_law03_CoolKeeps cval enterEnv; simp only [List.zipIdx_cons, List.zipIdx_nil, List.map_cons, List.map_nil, Nat.zero_add, Nat.reduceAdd])
          repeat' (first | ((first | refine o1 rfl ?_ | refine o0 rfl ?_); intro k hk; simp (disch := omega) only [ev0, sl_cells, simprocAttr, slOf, CoolTown.cs, q2, decide_true, decide_false]; refine hk _ _ ?_; clear hk k) | refine ono rfl ?_ | (apply ocall; (case he => (simp only [ev0, sl_cells, simprocAttr] <;> rfl)); (case hc => first | exact hS | exact hK | exact hT | exact hC | exact hA | exact hBe | exact hKe | exact hBr); (case ht => rfl); (case hg => rfl)) | ((first | refine osplitG rfl (fun h => ?_) (fun h => ?_) | refine osplitB rfl (fun h => ?_) (fun h => ?_)) <;> (fail_if_success (simp only [eq_self, reduceCtorEq] at h))) | refine onx ?_ | refine onb ?_ | refine sreg ?_ | refine qT rfl ?_ | refine qF rfl ?_ | refine scondT rfl ?_ | refine scondF rfl ?_ | refine ocondP rfl (fun h => ?_) (fun h => ?_) | refine ocondB rfl (fun h => ?_) (fun h => ?_) | refine scondP rfl (fun h => ?_) (fun h => ?_) | refine scond rfl (fun h => ?_) (fun h => ?_) | refine oskip ?_ | refine oskipb ?_ | refine oret ?_ | refine sem_ret ?_ | refine sem_seq ?_ | refine sreg1 ?_)
          exact ⟨_, rfl, _, rfl, tree_eq rfl rfl⟩
    · have q2 : (8 : Int) < b.length := by omega
      (refine holds_of_sem hG fn_law03_CoolKeeps (by simp) fun w0 S0 hG0 D0 => ?_; unfold c_law03_CoolKeeps cval enterEnv; simp only [List.zipIdx_cons, List.zipIdx_nil, List.map_cons, List.map_nil, Nat.zero_add, Nat.reduceAdd])
      repeat' (first | ((first | refine o1 rfl ?_ | refine o0 rfl ?_); intro k hk; simp (disch := omega) only [ev0, sl_cells, simprocAttr, slOf, q2, decide_true]; refine hk _ _ ?_; clear hk k) | refine ono rfl ?_ | (apply ocall; (case he => (simp only [ev0, sl_cells, simprocAttr] <;> rfl)); (case hc => first | exact hS | exact hK); (case ht => rfl); (case hg => rfl)) | ((first | refine osplitG rfl (fun h => ?_) (fun h => ?_) | refine osplitB rfl (fun h => ?_) (fun h => ?_)) <;> (fail_if_success (simp only [eq_self, reduceCtorEq] at h))) | refine onx ?_ | refine onb ?_ | refine sreg ?_ | refine qT rfl ?_ | refine qF rfl ?_ | refine scondT rfl ?_ | refine scondF rfl ?_ | refine ocondP rfl (fun h => ?_) (fun h => ?_) | refine ocondB rfl (fun h => ?_) (fun h => ?_) | refine scondP rfl (fun h => ?_) (fun h => ?_) | refine scond rfl (fun h => ?_) (fun h => ?_) | refine oskip ?_ | refine oskipb ?_ | refine oret ?_ | refine sem_ret ?_ | refine sem_seq ?_ | refine sreg1 ?_)
      exact ⟨_, rfl, _, rfl, tree_eq rfl rfl⟩
  · rw [decide_eq_false p1] at hS
    (refine holds_of_sem hG fn_law03_CoolKeeps (by simp) fun w0 S0 hG0 D0 => ?_; unfold c_law03_CoolKeeps cval enterEnv; simp only [List.zipIdx_cons, List.zipIdx_nil, List.map_cons, List.map_nil, Nat.zero_add, Nat.reduceAdd])
    repeat' (first | ((first | refine o1 rfl ?_ | refine o0 rfl ?_); intro k hk; simp (disch := omega) only [ev0, sl_cells, simprocAttr, slOf]; refine hk _ _ ?_; clear hk k) | refine ono rfl ?_ | (apply ocall; (case he => (simp only [ev0, sl_cells, simprocAttr] <;> rfl)); (case hc => first | exact hS | exact hK); (case ht => rfl); (case hg => rfl)) | ((first | refine osplitG rfl (fun h => ?_) (fun h => ?_) | refine osplitB rfl (fun h => ?_) (fun h => ?_)) <;> (fail_if_success (simp only [eq_self, reduceCtorEq] at h))) | refine onx ?_ | refine onb ?_ | refine sreg ?_ | refine qT rfl ?_ | refine qF rfl ?_ | refine scondT rfl ?_ | refine scondF rfl ?_ | refine ocondP rfl (fun h => ?_) (fun h => ?_) | refine ocondB rfl (fun h => ?_) (fun h => ?_) | refine scondP rfl (fun h => ?_) (fun h => ?_) | refine scond rfl (fun h => ?_) (fun h => ?_) | refine oskip ?_ | refine oskipb ?_ | refine oret ?_ | refine sem_ret ?_ | refine sem_seq ?_ | refine sreg1 ?_)
    exact ⟨_, rfl, _, rfl, tree_eq rfl rfl⟩
end Go.Proofs.Ytnempffajbdneaa
