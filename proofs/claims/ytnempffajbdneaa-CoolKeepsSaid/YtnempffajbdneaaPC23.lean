/- Whether coolers keep a town; how many failures they bear. -/
import Derived.Test.YtnempffajbdneaaPC19
import Derived.Test.YtnempffajbdneaaPC22
set_option linter.unusedVariables false
set_option linter.unusedSimpArgs false
set_option maxRecDepth 8000
set_option maxHeartbeats 2000000
namespace Go.Tk
open Go Go.Av
def keepsB (t : CoolTown) (b : List Int) (f : Nat) : Bool := decide (brk t f (setB b) t.houses.length = none)
def bearsI (t : CoolTown) (b : List Int) : Int := if keepsB t b 3 = true then 3 else if keepsB t b 2 = true then 2 else if keepsB t b 1 = true then 1 else if keepsB t b 0 = true then 0 else -1
end Go.Tk
namespace Go.Proofs.Ytnempffajbdneaa
open Go Go.Av Go.Tk
attribute [local irreducible] Holds sem semL ACalls FnIs levelB levM
section
variable {K : Ctx} (hP : K.P = Try.prog) (hGK : ∀ w w', K.G w → RowKit.Below w.heap.size w w' → K.G w')
include hP hGK
theorem broken_at (t : CoolTown) (ht : t.ok) (m : Nat) (hm : m < 2 ^ t.sites.length) (f : Nat) (hf : f ≤ 100) (es : ES) (hv : validQ t es) {μ2 : List AObj} {p q : Nat} (hpq : p ≠ q) (hp : μ2[p]? = some (.map es)) (hq : μ2[q]? = some (.row 96 0 4 [[slOf CoolHouse.cs t.houses, slOf CoolSite.cs t.sites, I m, .mp p]])) :
    ACalls K F.cool_bought_broken [.ptr q 0 4 0 0, I f] μ2 fun ae ν => ∃ es', (ae = .ret (brkV (brk t f m t.houses.length)) ∧ validQ t es') ∧ ν = μ2.set p (.map es') := by
  refine bought_at (R := fun ae es' => ae = .ret (brkV (brk t f m t.houses.length)) ∧ validQ t es') ((bought_broken hP hGK t ht m hm es hv f hf).imp fun ae ν hr => by
    obtain ⟨x, ⟨rfl, es', h1, rfl⟩, rfl⟩ := hr
    exact ⟨es', ⟨rfl, h1⟩, rfl⟩) (fun ae es' hr => ⟨hr.2.bools, fun g => by rw [hr.1]; unfold brkV; split <;> rfl⟩) hv.bools hpq hp hq ?_ ?_
  · simp [renL, renA, backOf, List.idxOf_cons, beq_eq_false_iff_ne.2 hpq]
  · simp [inL, inA]
end
variable {G : World → Prop} (hG : ∀ w w', G w → RowKit.Below w.heap.size w w' → G w')
include hG
theorem Keeps_ok (t : CoolTown) (hs : t.short) (b : List Int) (hbl : b.length ≤ 1000) (hok : t.ok) (hc : coolersOk t.sites.length b) (f : Nat) (hf : f ≤ 3) : Holds Try.prog G F.cool_Keeps [.agg t.cs, slOf intCs b, I f] (.tup [B (keepsB t b f), I 0]) := by
  have hfa := cool_failing hG (f : Int)
  rw [decide_eq_true (show 0 ≤ (f : Int) ∧ (f : Int) ≤ 3 by omega)] at hfa
  refine holds_of_sem hG fn_cool_Keeps (by simp) fun w0 S0 hG0 D0 => ?_
  have hgi := given_ok (K := ⟨Try.prog, w0, S0, G, hG0⟩) rfl hG t hs b hbl hok hc
  have hbr := broken_at (K := ⟨Try.prog, w0, S0, G, hG0⟩) rfl hG t hok (setB b) (setB_lt hc.mem) f (by omega) [] valid_nil (μ2 := gM t (setB b) []) (p := 3) (q := 4) (by omega) rfl rfl
  unfold c_cool_Keeps cval enterEnv
  simp only [List.zipIdx_cons, List.zipIdx_nil, List.map_cons, List.map_nil, Nat.zero_add, Nat.reduceAdd]
  repeat' (first | ((first | refine o1 rfl ?_ | refine o0 rfl ?_); intro k hk; simp (disch := omega) only [ev0, sl_cells, simprocAttr]; refine hk _ _ ?_; clear hk k) | refine ono rfl ?_ | ((first | refine osplitG rfl (fun h => ?_) (fun h => ?_) | refine osplitB rfl (fun h => ?_) (fun h => ?_)) <;> (fail_if_success (simp only [eq_self, reduceCtorEq] at h))) | refine onx ?_ | refine onb ?_ | refine sreg ?_ | refine qT rfl ?_ | refine qF rfl ?_ | refine scondT rfl ?_ | refine scondF rfl ?_ | refine ocondP rfl (fun h => ?_) (fun h => ?_) | refine ocondB rfl (fun h => ?_) (fun h => ?_) | refine scondP rfl (fun h => ?_) (fun h => ?_) | refine scond rfl (fun h => ?_) (fun h => ?_) | refine oskip ?_ | refine oskipb ?_ | refine oret ?_ | refine sem_ret ?_ | refine sem_seq ?_ | refine sreg1 ?_)
  refine any_start hmix (any_win 0 4 (by kernel_rfl) ?_)
  simp only [List.take_succ_cons, List.take_zero, List.drop_succ_cons, List.drop_zero, List.take_nil, List.drop_nil]
  repeat' (first | ((first | apply mop | apply mop0); (case hg => rfl); (case hq => rfl); intro k hk; simp (disch := omega) only [ev0, sl_cells, simprocAttr]; refine hk _ _ rfl ?_; clear hk k) | (apply mno; (case hg => rfl)) | (apply mcall; (case he => (simp only [ev0, sl_cells, simprocAttr] <;> rfl)); (case hc => first | exact hfa); (case ht => rfl); (case hg => rfl); (case hr => rfl)) | (apply mbox; (case hx => (simp only [wv, simprocAttr] <;> rfl)); (case hg => rfl); (case hall => rfl); (case hr => rfl); simp only [nm, Nat.reduceAdd]) | (apply mbldS; (case hb => (simp (disch := omega) only [ev0, sl_cells, simprocAttr] <;> rfl)); (case hg => rfl); (case hr => rfl); simp only [nm, Nat.reduceAdd]) | ((first | (apply msto (q := 0); (case hq => rfl)) | (apply msto (q := 1); (case hq => rfl)) | (apply msto (q := 2); (case hq => rfl)) | (apply msto (q := 3); (case hq => rfl))); (case hx => (simp only [wv, simprocAttr] <;> rfl)); (case haddr => (simp only [wv, simprocAttr] <;> rfl)); (case hg => rfl); (case hl1 => rfl); (case hl2 => rfl); (case hok => rfl); (case hr => rfl); simp only [nm, Nat.reduceAdd]) | (apply mnil; simp only [SlotR.fin, ns]) | (refine msplit rfl (fun h => ?_) (fun h => ?_) <;> simp only [h] <;> (try simp only [nb] at h)))
  refine mnilC ?_
  simp only [List.map_nil, List.append_nil]
  refine any_seq 4 5 (by kernel_rfl) ?_
  simp only [List.take_succ_cons, List.take_zero, List.drop_succ_cons, List.drop_zero, List.take_nil, List.drop_nil]
  refine semL_acall rfl (by exact hgi) fun ae μ hr => ?_
  obtain ⟨rfl, rfl⟩ := hr
  change semL _ _ _ ⟨(_, _) :: _, _⟩ _
  refine onil ?_
  change AnyC _ _ _ _ _ 5 _
  refine any_win 5 10 (by kernel_rfl) ?_
  simp only [List.take_succ_cons, List.take_zero, List.drop_succ_cons, List.drop_zero, List.take_nil, List.drop_nil]
  repeat' (first | ((first | apply mop | apply mop0); (case hg => rfl); (case hq => rfl); intro k hk; simp (disch := omega) only [ev0, sl_cells, simprocAttr]; refine hk _ _ rfl ?_; clear hk k) | (apply mno; (case hg => rfl)) | (apply mbox; (case hx => (simp only [wv, simprocAttr] <;> rfl)); (case hg => rfl); (case hall => rfl); (case hr => rfl); simp only [nm, Nat.reduceAdd]) | (apply mbldS; (case hb => (simp (disch := omega) only [ev0, sl_cells, simprocAttr] <;> rfl)); (case hg => rfl); (case hr => rfl); simp only [nm, Nat.reduceAdd]) | ((first | (apply msto (q := 0); (case hq => rfl)) | (apply msto (q := 1); (case hq => rfl)) | (apply msto (q := 2); (case hq => rfl)) | (apply msto (q := 3); (case hq => rfl))); (case hx => (simp only [wv, simprocAttr] <;> rfl)); (case haddr => (simp only [wv, simprocAttr] <;> rfl)); (case hg => rfl); (case hl1 => rfl); (case hl2 => rfl); (case hok => rfl); (case hr => rfl); simp only [nm, Nat.reduceAdd]) | (apply mnil; simp only [SlotR.fin, ns]) | (refine msplit rfl (fun h => ?_) (fun h => ?_) <;> simp only [h] <;> (try simp only [nb] at h)))
  refine mnilC (any_end 10 rfl ?_)
  simp only [List.map_nil, List.append_nil]
  change sem _ _ _ _ _
  simp only [gM]
  repeat' (first | ((first | refine o1 rfl ?_ | refine o0 rfl ?_); intro k hk; simp (disch := omega) only [ev0, sl_cells, simprocAttr]; refine hk _ _ ?_; clear hk k) | refine ono rfl ?_ | ((first | refine osplitG rfl (fun h => ?_) (fun h => ?_) | refine osplitB rfl (fun h => ?_) (fun h => ?_)) <;> (fail_if_success (simp only [eq_self, reduceCtorEq] at h))) | refine onx ?_ | refine onb ?_ | refine sreg ?_ | refine qT rfl ?_ | refine qF rfl ?_ | refine scondT rfl ?_ | refine scondF rfl ?_ | refine ocondP rfl (fun h => ?_) (fun h => ?_) | refine ocondB rfl (fun h => ?_) (fun h => ?_) | refine scondP rfl (fun h => ?_) (fun h => ?_) | refine scond rfl (fun h => ?_) (fun h => ?_) | refine oskip ?_ | refine oskipb ?_ | refine oret ?_ | refine sem_ret ?_ | refine sem_seq ?_ | refine sreg1 ?_)
  refine semL_acall rfl (by exact hbr) fun ae μ hr => ?_
  obtain ⟨es', ⟨rfl, hv⟩, rfl⟩ := hr
  unfold keepsB
  cases brk t f (setB b) t.houses.length with
  | none =>
    change semL _ _ _ ⟨(_, .tup [I 0, B false]) :: _, _⟩ _
    repeat' (first | ((first | refine o1 rfl ?_ | refine o0 rfl ?_); intro k hk; simp (disch := omega) only [ev0, sl_cells, simprocAttr]; refine hk _ _ ?_; clear hk k) | refine ono rfl ?_ | ((first | refine osplitG rfl (fun h => ?_) (fun h => ?_) | refine osplitB rfl (fun h => ?_) (fun h => ?_)) <;> (fail_if_success (simp only [eq_self, reduceCtorEq] at h))) | refine onx ?_ | refine onb ?_ | refine sreg ?_ | refine qT rfl ?_ | refine qF rfl ?_ | refine scondT rfl ?_ | refine scondF rfl ?_ | refine ocondP rfl (fun h => ?_) (fun h => ?_) | refine ocondB rfl (fun h => ?_) (fun h => ?_) | refine scondP rfl (fun h => ?_) (fun h => ?_) | refine scond rfl (fun h => ?_) (fun h => ?_) | refine oskip ?_ | refine oskipb ?_ | refine oret ?_ | refine sem_ret ?_ | refine sem_seq ?_ | refine sreg1 ?_)
    exact ⟨_, rfl, _, rfl, tree_eq rfl rfl⟩
  | some y =>
    change semL _ _ _ ⟨(_, .tup [I y, B true]) :: _, _⟩ _
    repeat' (first | ((first | refine o1 rfl ?_ | refine o0 rfl ?_); intro k hk; simp (disch := omega) only [ev0, sl_cells, simprocAttr]; refine hk _ _ ?_; clear hk k) | refine ono rfl ?_ | ((first | refine osplitG rfl (fun h => ?_) (fun h => ?_) | refine osplitB rfl (fun h => ?_) (fun h => ?_)) <;> (fail_if_success (simp only [eq_self, reduceCtorEq] at h))) | refine onx ?_ | refine onb ?_ | refine sreg ?_ | refine qT rfl ?_ | refine qF rfl ?_ | refine scondT rfl ?_ | refine scondF rfl ?_ | refine ocondP rfl (fun h => ?_) (fun h => ?_) | refine ocondB rfl (fun h => ?_) (fun h => ?_) | refine scondP rfl (fun h => ?_) (fun h => ?_) | refine scond rfl (fun h => ?_) (fun h => ?_) | refine oskip ?_ | refine oskipb ?_ | refine oret ?_ | refine sem_ret ?_ | refine sem_seq ?_ | refine sreg1 ?_)
    exact ⟨_, rfl, _, rfl, tree_eq rfl rfl⟩

theorem Bears_ok (t : CoolTown) (hs : t.short) (b : List Int) (hbl : b.length ≤ 1000) (hok : t.ok) (hc : coolersOk t.sites.length b) : Holds Try.prog G F.cool_Bears [.agg t.cs, slOf intCs b] (if 0 ≤ bearsI t b then .tup [I (bearsI t b), I 0] else .tup [I 0, I 5]) := by
  refine holds_of_sem hG fn_cool_Bears (by simp) fun w0 S0 hG0 D0 => ?_
  have hgi := given_ok (K := ⟨Try.prog, w0, S0, G, hG0⟩) rfl hG t hs b hbl hok hc
  have hbr := fun (es : ES) (hv : validQ t es) (f : Nat) (hf : f ≤ 100) => broken_at (K := ⟨Try.prog, w0, S0, G, hG0⟩) rfl hG t hok (setB b) (setB_lt hc.mem) f hf es hv (μ2 := gM t (setB b) es) (p := 3) (q := 4) (by omega) rfl rfl
  have hkb : ∀ f, keepsB t b f = decide (brk t f (setB b) t.houses.length = none) := fun f => rfl
  have hbe : ∀ k, k ≤ 3 → (∀ j, j < k → keepsB t b (3 - j) = false) → keepsB t b (3 - k) = true → bearsI t b = ((3 - k : Nat) : Int) := fun k hk h1 h2 => by
    unfold bearsI
    match k, hk with
    | 0, _ => simp_all
    | 1, _ => have := h1 0 (by omega); simp_all
    | 2, _ => have := h1 0 (by omega); have := h1 1 (by omega); simp_all
    | 3, _ => have := h1 0 (by omega); have := h1 1 (by omega); have := h1 2 (by omega); simp_all
  have hbn : (∀ j, j < 4 → keepsB t b (3 - j) = false) → bearsI t b = -1 := fun h => by
    unfold bearsI
    have := h 0 (by omega); have := h 1 (by omega); have := h 2 (by omega); have := h 3 (by omega)
    simp_all
  generalize bearsI t b = r at *
  unfold c_cool_Bears cval enterEnv
  simp only [List.zipIdx_cons, List.zipIdx_nil, List.map_cons, List.map_nil, Nat.zero_add, Nat.reduceAdd]
  repeat' (first | ((first | refine o1 rfl ?_ | refine o0 rfl ?_); intro k hk; simp (disch := omega) only [ev0, sl_cells, simprocAttr]; refine hk _ _ ?_; clear hk k) | refine ono rfl ?_ | ((first | refine osplitG rfl (fun h => ?_) (fun h => ?_) | refine osplitB rfl (fun h => ?_) (fun h => ?_)) <;> (fail_if_success (simp only [eq_self, reduceCtorEq] at h))) | refine onx ?_ | refine onb ?_ | refine sreg ?_ | refine qT rfl ?_ | refine qF rfl ?_ | refine scondT rfl ?_ | refine scondF rfl ?_ | refine ocondP rfl (fun h => ?_) (fun h => ?_) | refine ocondB rfl (fun h => ?_) (fun h => ?_) | refine scondP rfl (fun h => ?_) (fun h => ?_) | refine scond rfl (fun h => ?_) (fun h => ?_) | refine oskip ?_ | refine oskipb ?_ | refine oret ?_ | refine sem_ret ?_ | refine sem_seq ?_ | refine sreg1 ?_)
  refine semL_acall rfl (by exact hgi) fun ae μ hr => ?_
  obtain ⟨rfl, rfl⟩ := hr
  change semL _ _ _ ⟨(_, _) :: _, _⟩ _
  simp only [gM]
  repeat' (first | ((first | refine o1 rfl ?_ | refine o0 rfl ?_); intro k hk; simp (disch := omega) only [ev0, sl_cells, simprocAttr]; refine hk _ _ ?_; clear hk k) | refine ono rfl ?_ | ((first | refine osplitG rfl (fun h => ?_) (fun h => ?_) | refine osplitB rfl (fun h => ?_) (fun h => ?_)) <;> (fail_if_success (simp only [eq_self, reduceCtorEq] at h))) | refine onx ?_ | refine onb ?_ | refine sreg ?_ | refine qT rfl ?_ | refine qF rfl ?_ | refine scondT rfl ?_ | refine scondF rfl ?_ | refine ocondP rfl (fun h => ?_) (fun h => ?_) | refine ocondB rfl (fun h => ?_) (fun h => ?_) | refine scondP rfl (fun h => ?_) (fun h => ?_) | refine scond rfl (fun h => ?_) (fun h => ?_) | refine oskip ?_ | refine oskipb ?_ | refine oret ?_ | refine sem_ret ?_ | refine sem_seq ?_ | refine sreg1 ?_)
  refine sem_block ?_
  
  refine sem_loop (α := Nat × ES) (fun x => ⟨[(6, .ptr 4 0 4 0 0), (8, I (3 - (x.1 : Int)))], gM t (setB b) x.2⟩) (fun x => x.1 ≤ 4 ∧ validQ t x.2 ∧ ∀ j, j < x.1 → keepsB t b (3 - j) = false) (fun x => 4 - x.1) (0, []) ⟨Nat.zero_le _, valid_nil, fun j hj => absurd hj (Nat.not_lt_zero _)⟩ ?_ ?_
  · (refine Le.same ?_; simp only [List.forall_mem_cons, List.forall_mem_nil, getE, selE, Nat.reduceBEq, List.not_mem_nil, false_implies, implies_true, and_true, true_and, and_self])
    simp
  · rintro ⟨k, es⟩ ⟨h1, h2, h3⟩
    simp only at h1 h2 h3
    repeat' (first | ((first | refine o1 rfl ?_ | refine o0 rfl ?_); intro k hk; simp (disch := omega) only [ev0, sl_cells, simprocAttr]; refine hk _ _ ?_; clear hk k) | refine ono rfl ?_ | ((first | refine osplitG rfl (fun h => ?_) (fun h => ?_) | refine osplitB rfl (fun h => ?_) (fun h => ?_)) <;> (fail_if_success (simp only [eq_self, reduceCtorEq] at h))) | refine onx ?_ | refine onb ?_ | refine sreg ?_ | refine qT rfl ?_ | refine qF rfl ?_ | refine scondT rfl ?_ | refine scondF rfl ?_ | refine ocondP rfl (fun h => ?_) (fun h => ?_) | refine ocondB rfl (fun h => ?_) (fun h => ?_) | refine scondP rfl (fun h => ?_) (fun h => ?_) | refine scond rfl (fun h => ?_) (fun h => ?_) | refine oskip ?_ | refine oskipb ?_ | refine oret ?_ | refine sem_ret ?_ | refine sem_seq ?_ | refine sreg1 ?_)
    · have hk : k ≤ 3 := by omega
      have hkI : (3 : Int) - (k : Int) = ((3 - k : Nat) : Int) := by omega
      have hb1 := hbr es h2 (3 - k) (by omega)
      have hb2 := hbe k hk h3
      have hkk := hkb (3 - k)
      rw [hkI]
      refine sem_block ?_
      repeat' (first | ((first | refine o1 rfl ?_ | refine o0 rfl ?_); intro k hk; simp (disch := omega) only [ev0, sl_cells, simprocAttr]; refine hk _ _ ?_; clear hk k) | refine ono rfl ?_ | ((first | refine osplitG rfl (fun h => ?_) (fun h => ?_) | refine osplitB rfl (fun h => ?_) (fun h => ?_)) <;> (fail_if_success (simp only [eq_self, reduceCtorEq] at h))) | refine onx ?_ | refine onb ?_ | refine sreg ?_ | refine qT rfl ?_ | refine qF rfl ?_ | refine scondT rfl ?_ | refine scondF rfl ?_ | refine ocondP rfl (fun h => ?_) (fun h => ?_) | refine ocondB rfl (fun h => ?_) (fun h => ?_) | refine scondP rfl (fun h => ?_) (fun h => ?_) | refine scond rfl (fun h => ?_) (fun h => ?_) | refine oskip ?_ | refine oskipb ?_ | refine oret ?_ | refine sem_ret ?_ | refine sem_seq ?_ | refine sreg1 ?_)
      refine semL_acall rfl (by exact hb1) fun ae μ hr => ?_
      obtain ⟨es', ⟨rfl, hv⟩, rfl⟩ := hr
      cases hbk : brk t (3 - k) (setB b) t.houses.length with
      | none =>
        rw [hbk] at hkk
        change semL _ _ _ ⟨(_, .tup [I 0, B false]) :: _, _⟩ _
        repeat' (first | ((first | refine o1 rfl ?_ | refine o0 rfl ?_); intro k hk; simp (disch := omega) only [ev0, sl_cells, simprocAttr]; refine hk _ _ ?_; clear hk k) | refine ono rfl ?_ | ((first | refine osplitG rfl (fun h => ?_) (fun h => ?_) | refine osplitB rfl (fun h => ?_) (fun h => ?_)) <;> (fail_if_success (simp only [eq_self, reduceCtorEq] at h))) | refine onx ?_ | refine onb ?_ | refine sreg ?_ | refine qT rfl ?_ | refine qF rfl ?_ | refine scondT rfl ?_ | refine scondF rfl ?_ | refine ocondP rfl (fun h => ?_) (fun h => ?_) | refine ocondB rfl (fun h => ?_) (fun h => ?_) | refine scondP rfl (fun h => ?_) (fun h => ?_) | refine scond rfl (fun h => ?_) (fun h => ?_) | refine oskip ?_ | refine oskipb ?_ | refine oret ?_ | refine sem_ret ?_ | refine sem_seq ?_ | refine sreg1 ?_)
        rw [hb2 hkk, if_pos (by omega)]
        exact ⟨_, rfl, _, rfl, tree_eq rfl rfl⟩
      | some y =>
        rw [hbk] at hkk
        change semL _ _ _ ⟨(_, .tup [I y, B true]) :: _, _⟩ _
        repeat' (first | ((first | refine o1 rfl ?_ | refine o0 rfl ?_); intro k hk; simp (disch := omega) only [ev0, sl_cells, simprocAttr]; refine hk _ _ ?_; clear hk k) | refine ono rfl ?_ | ((first | refine osplitG rfl (fun h => ?_) (fun h => ?_) | refine osplitB rfl (fun h => ?_) (fun h => ?_)) <;> (fail_if_success (simp only [eq_self, reduceCtorEq] at h))) | refine onx ?_ | refine onb ?_ | refine sreg ?_ | refine qT rfl ?_ | refine qF rfl ?_ | refine scondT rfl ?_ | refine scondF rfl ?_ | refine ocondP rfl (fun h => ?_) (fun h => ?_) | refine ocondB rfl (fun h => ?_) (fun h => ?_) | refine scondP rfl (fun h => ?_) (fun h => ?_) | refine scond rfl (fun h => ?_) (fun h => ?_) | refine oskip ?_ | refine oskipb ?_ | refine oret ?_ | refine sem_ret ?_ | refine sem_seq ?_ | refine sreg1 ?_)
        refine onil (lnext (k + 1, es') ⟨by simp only; omega, hv, fun j hj => ?_⟩ (by simp only; omega) ?_)
        · by_cases e : j = k
          · subst e; rw [hkk]; rfl
          · have hj' : j < k + 1 := hj
            exact h3 j (by omega)
        · (refine Le.same ?_; simp only [List.forall_mem_cons, List.forall_mem_nil, getE, selE, Nat.reduceBEq, List.not_mem_nil, false_implies, implies_true, and_true, true_and, and_self])
          simp
          omega
    · have hk : k = 4 := by omega
      subst hk
      (refine sem_exit ?_; change sem _ _ _ _ _)
      repeat' (first | ((first | refine o1 rfl ?_ | refine o0 rfl ?_); intro k hk; simp (disch := omega) only [ev0, sl_cells, simprocAttr]; refine hk _ _ ?_; clear hk k) | refine ono rfl ?_ | ((first | refine osplitG rfl (fun h => ?_) (fun h => ?_) | refine osplitB rfl (fun h => ?_) (fun h => ?_)) <;> (fail_if_success (simp only [eq_self, reduceCtorEq] at h))) | refine onx ?_ | refine onb ?_ | refine sreg ?_ | refine qT rfl ?_ | refine qF rfl ?_ | refine scondT rfl ?_ | refine scondF rfl ?_ | refine ocondP rfl (fun h => ?_) (fun h => ?_) | refine ocondB rfl (fun h => ?_) (fun h => ?_) | refine scondP rfl (fun h => ?_) (fun h => ?_) | refine scond rfl (fun h => ?_) (fun h => ?_) | refine oskip ?_ | refine oskipb ?_ | refine oret ?_ | refine sem_ret ?_ | refine sem_seq ?_ | refine sreg1 ?_)
      rw [hbn h3, if_neg (by omega)]
      exact ⟨_, rfl, _, rfl, tree_eq rfl rfl⟩
end Go.Proofs.Ytnempffajbdneaa
