/- The first house that is not surely level: what gives up is taken back. -/
import Derived.Test.YtnempffajbdneaaPC19
set_option linter.unusedVariables false
set_option linter.unusedSimpArgs false
set_option maxRecDepth 8000
set_option maxHeartbeats 2000000
namespace Go.Tk
open Go Go.Av
def brk (t : CoolTown) (f c n : Nat) : Option Nat := (List.range n).find? fun y => !levM t y f c
abbrev brkV (o : Option Nat) : AV := match o with | some y => .tup [I y, B true] | none => .tup [I 0, B false]
theorem brk_some {t : CoolTown} {f c n y : Nat} (hy : y < n) (h : levM t y f c = false) (hall : ∀ j, j < y → levM t j f c = true) : brk t f c n = some y := by
  unfold brk
  rw [List.find?_range_eq_some]
  refine ⟨by rw [h]; rfl, List.mem_range.2 hy, fun j hj => by rw [hall j hj]; rfl⟩
theorem brk_none {t : CoolTown} {f c n : Nat} (hall : ∀ j, j < n → levM t j f c = true) : brk t f c n = none := by
  unfold brk
  rw [List.find?_range_eq_none]
  intro j hj
  rw [hall j hj]; rfl
end Go.Tk
namespace Go.Proofs.Ytnempffajbdneaa
open Go Go.Av Go.Tk
attribute [local irreducible] Holds sem semL ACalls FnIs levM
variable {K : Ctx} (hP : K.P = Try.prog) (hGK : ∀ w w', K.G w → RowKit.Below w.heap.size w w' → K.G w')
include hP hGK
theorem bought_must (t : CoolTown) (ht : t.ok) (m : Nat) (hm : m < 2 ^ t.sites.length) (es : ES) (hv : validQ t es) (y : Nat) (hy : y < t.houses.length) (f : Nat) (hf : f ≤ 100) :
    ACalls K F.cool_bought_must [.ptr 1 0 4 0 0, I y, I f] (buyM t m es) fun ae ν => ∃ es', (ae = (if levM t y f m = true then AEnd.ret (.tup []) else .panic (.iface 121 (.agg [I y]))) ∧ validQ t es') ∧ ν = buyM t m es' := by
  have hlev := level_at hP hGK t ht m es hv y hy f hf m hm (μ2 := buyM t m es) (p := 0) (q := 1) (by omega) rfl rfl
  obtain ⟨P, w0, S0, G, hG0⟩ := K
  simp only at hP hGK
  subst hP
  refine acalls_of_sem fn_cool_bought_must (by simp) fun D => ?_
  unfold c_cool_bought_must cval enterEnv buyM
  simp only [List.zipIdx_cons, List.zipIdx_nil, List.map_cons, List.map_nil, Nat.zero_add, Nat.reduceAdd]
  repeat' (first | ((first | refine o1 rfl ?_ | refine o0 rfl ?_); intro k hk; simp (disch := omega) only [ev0, sl_cells, simprocAttr]; refine hk _ _ ?_; clear hk k) | refine ono rfl ?_ | ((first | refine osplitG rfl (fun h => ?_) (fun h => ?_) | refine osplitB rfl (fun h => ?_) (fun h => ?_)) <;> (fail_if_success (simp only [eq_self, reduceCtorEq] at h))) | refine onx ?_ | refine onb ?_ | refine sreg ?_ | refine qT rfl ?_ | refine qF rfl ?_ | refine scondT rfl ?_ | refine scondF rfl ?_ | refine ocondP rfl (fun h => ?_) (fun h => ?_) | refine ocondB rfl (fun h => ?_) (fun h => ?_) | refine scondP rfl (fun h => ?_) (fun h => ?_) | refine scond rfl (fun h => ?_) (fun h => ?_) | refine oskip ?_ | refine oskipb ?_ | refine oret ?_ | refine sem_ret ?_ | refine sem_seq ?_ | refine sreg1 ?_)
  refine semL_acall rfl (by exact hlev) fun ae μ hr => ?_
  obtain ⟨es', ⟨rfl, hv'⟩, rfl⟩ := hr
  change semL _ _ _ ⟨(_, B (levM t y f m)) :: _, _⟩ _
  simp only [List.set_cons_zero]
  cases levM t y f m with
  | true =>
    repeat' (first | ((first | refine o1 rfl ?_ | refine o0 rfl ?_); intro k hk; simp (disch := omega) only [ev0, sl_cells, simprocAttr]; refine hk _ _ ?_; clear hk k) | refine ono rfl ?_ | ((first | refine osplitG rfl (fun h => ?_) (fun h => ?_) | refine osplitB rfl (fun h => ?_) (fun h => ?_)) <;> (fail_if_success (simp only [eq_self, reduceCtorEq] at h))) | refine onx ?_ | refine onb ?_ | refine sreg ?_ | refine qT rfl ?_ | refine qF rfl ?_ | refine scondT rfl ?_ | refine scondF rfl ?_ | refine ocondP rfl (fun h => ?_) (fun h => ?_) | refine ocondB rfl (fun h => ?_) (fun h => ?_) | refine scondP rfl (fun h => ?_) (fun h => ?_) | refine scond rfl (fun h => ?_) (fun h => ?_) | refine oskip ?_ | refine oskipb ?_ | refine oret ?_ | refine sem_ret ?_ | refine sem_seq ?_ | refine sreg1 ?_)
    refine sem_skip ?_
    exact ⟨_, rfl, es', ⟨rfl, hv'⟩, rfl⟩
  | false =>
    repeat' (first | ((first | refine o1 rfl ?_ | refine o0 rfl ?_); intro k hk; simp (disch := omega) only [ev0, sl_cells, simprocAttr]; refine hk _ _ ?_; clear hk k) | refine ono rfl ?_ | ((first | refine osplitG rfl (fun h => ?_) (fun h => ?_) | refine osplitB rfl (fun h => ?_) (fun h => ?_)) <;> (fail_if_success (simp only [eq_self, reduceCtorEq] at h))) | refine onx ?_ | refine onb ?_ | refine sreg ?_ | refine qT rfl ?_ | refine qF rfl ?_ | refine scondT rfl ?_ | refine scondF rfl ?_ | refine ocondP rfl (fun h => ?_) (fun h => ?_) | refine ocondB rfl (fun h => ?_) (fun h => ?_) | refine scondP rfl (fun h => ?_) (fun h => ?_) | refine scond rfl (fun h => ?_) (fun h => ?_) | refine oskip ?_ | refine oskipb ?_ | refine oret ?_ | refine sem_ret ?_ | refine sem_seq ?_ | refine sreg1 ?_)
    refine semL_pan rfl rfl ?_
    exact ⟨es', ⟨rfl, hv'⟩, rfl⟩
theorem must_at (t : CoolTown) (ht : t.ok) (m : Nat) (hm : m < 2 ^ t.sites.length) (es : ES) (hv : validQ t es) (y : Nat) (hy : y < t.houses.length) (f : Nat) (hf : f ≤ 100) (es2 : List AObj) :
    ACalls K F.cool_bought_must [.ptr 1 0 4 0 0, I y, I f] (buyM t m es ++ es2) fun ae ν => ∃ es', (ae = (if levM t y f m = true then AEnd.ret (.tup []) else .panic (.iface 121 (.agg [I y]))) ∧ validQ t es') ∧ ν = (buyM t m es ++ es2).set 0 (.map es') :=
  bought_at (R := fun ae es' => ae = (if levM t y f m = true then AEnd.ret (.tup []) else .panic (.iface 121 (.agg [I y]))) ∧ validQ t es') (bought_must hP hGK t ht m hm es hv y hy f hf) (fun ae es' hr => ⟨hr.2.bools, fun g => by rw [hr.1]; split <;> rfl⟩) hv.bools (p := 0) (q := 1) (by omega) rfl rfl rfl rfl

theorem bought_broken (t : CoolTown) (ht : t.ok) (m : Nat) (hm : m < 2 ^ t.sites.length) (es : ES) (hv : validQ t es) (f : Nat) (hf : f ≤ 100) :
    ACalls K F.cool_bought_broken [.ptr 1 0 4 0 0, I f] (buyM t m es) fun ae ν => ∃ x, (x = brkV (brk t f m t.houses.length) ∧ ∃ es', validQ t es' ∧ ν = buyM t m es') ∧ ae = .ret x := by
  have hmu := fun (es : ES) (hv : validQ t es) (y : Nat) (hy : y < t.houses.length) => must_at hP hGK t ht m hm es hv y hy f hf [.row 3 0 1 [[I 0]], .row 4 0 1 [[B false]]]
  have hn := ht.1
  obtain ⟨P, w0, S0, G, hG0⟩ := K
  simp only at hP hGK
  subst hP
  refine ACalls.dropE (R := fun x ν => x = brkV (brk t f m t.houses.length) ∧ ∃ es', validQ t es' ∧ ν = buyM t m es') (acalls_of_runD fn_cool_bought_broken (by simp) ?_) ?_
  rotate_left
  · rintro x ν ⟨rfl, es', hv', rfl⟩
    exact ⟨by unfold brkV; split <;> rfl, by simp [refM, refO, refA, refL, hv'.bools.ref, slOf]⟩
  unfold c_cool_bought_broken cval enterEnv buyM
  simp only [List.zipIdx_cons, List.zipIdx_nil, List.map_cons, List.map_nil, Nat.zero_add, Nat.reduceAdd]
  intro D tl
  repeat' (first | ((first | refine o1 rfl ?_ | refine o0 rfl ?_); intro k hk; simp (disch := omega) only [ev0, sl_cells, simprocAttr]; refine hk _ _ ?_; clear hk k) | refine ono rfl ?_ | ((first | refine osplitG rfl (fun h => ?_) (fun h => ?_) | refine osplitB rfl (fun h => ?_) (fun h => ?_)) <;> (fail_if_success (simp only [eq_self, reduceCtorEq] at h))) | refine onx ?_ | refine onb ?_ | refine sreg ?_ | refine qT rfl ?_ | refine qF rfl ?_ | refine scondT rfl ?_ | refine scondF rfl ?_ | refine ocondP rfl (fun h => ?_) (fun h => ?_) | refine ocondB rfl (fun h => ?_) (fun h => ?_) | refine scondP rfl (fun h => ?_) (fun h => ?_) | refine scond rfl (fun h => ?_) (fun h => ?_) | refine oskip ?_ | refine oskipb ?_ | refine oret ?_ | refine sem_ret ?_ | refine sem_seq ?_ | refine sreg1 ?_)
  refine onil ?_
  refine ⟨rfl, fun D2 => ?_⟩
  repeat' (first | ((first | refine o1 rfl ?_ | refine o0 rfl ?_); intro k hk; simp (disch := omega) only [ev0, sl_cells, simprocAttr]; refine hk _ _ ?_; clear hk k) | refine ono rfl ?_ | ((first | refine osplitG rfl (fun h => ?_) (fun h => ?_) | refine osplitB rfl (fun h => ?_) (fun h => ?_)) <;> (fail_if_success (simp only [eq_self, reduceCtorEq] at h))) | refine onx ?_ | refine onb ?_ | refine sreg ?_ | refine qT rfl ?_ | refine qF rfl ?_ | refine scondT rfl ?_ | refine scondF rfl ?_ | refine ocondP rfl (fun h => ?_) (fun h => ?_) | refine ocondB rfl (fun h => ?_) (fun h => ?_) | refine scondP rfl (fun h => ?_) (fun h => ?_) | refine scond rfl (fun h => ?_) (fun h => ?_) | refine oskip ?_ | refine oskipb ?_ | refine oret ?_ | refine sem_ret ?_ | refine sem_seq ?_ | refine sreg1 ?_)
  refine onil ⟨86, [.ptr 2 0 1 0 0, .ptr 3 0 1 0 0], rfl, fun D3 tl3 => ?_⟩
  simp only [bOf, tlOf, List.length_cons, List.length_nil, Nat.zero_add, Nat.reduceAdd]
  repeat' (first | ((first | refine o1 rfl ?_ | refine o0 rfl ?_); intro k hk; simp (disch := omega) only [ev0, sl_cells, simprocAttr]; refine hk _ _ ?_; clear hk k) | refine ono rfl ?_ | ((first | refine osplitG rfl (fun h => ?_) (fun h => ?_) | refine osplitB rfl (fun h => ?_) (fun h => ?_)) <;> (fail_if_success (simp only [eq_self, reduceCtorEq] at h))) | refine onx ?_ | refine onb ?_ | refine sreg ?_ | refine qT rfl ?_ | refine qF rfl ?_ | refine scondT rfl ?_ | refine scondF rfl ?_ | refine ocondP rfl (fun h => ?_) (fun h => ?_) | refine ocondB rfl (fun h => ?_) (fun h => ?_) | refine scondP rfl (fun h => ?_) (fun h => ?_) | refine scond rfl (fun h => ?_) (fun h => ?_) | refine oskip ?_ | refine oskipb ?_ | refine oret ?_ | refine sem_ret ?_ | refine sem_seq ?_ | refine sreg1 ?_)
  refine sem_block ?_
  
  refine sem_loop (α := Nat × ES) (fun x => ⟨[(0, .ptr 1 0 4 0 0), (1, I f), (4, .ptr 2 0 1 0 0), (5, .ptr 3 0 1 0 0), (13, I t.houses.length), (14, I x.1)], buyM t m x.2 ++ [.row 3 0 1 [[I 0]], .row 4 0 1 [[B false]]]⟩) (fun x => x.1 ≤ t.houses.length ∧ validQ t x.2 ∧ ∀ j, j < x.1 → levM t j f m = true) (fun x => t.houses.length - x.1) (0, es) ⟨Nat.zero_le _, hv, fun j hj => absurd hj (Nat.not_lt_zero _)⟩ ?_ ?_
  · (refine Le.same ?_; simp only [List.forall_mem_cons, List.forall_mem_nil, getE, selE, Nat.reduceBEq, List.not_mem_nil, false_implies, implies_true, and_true, true_and, and_self])
    simp
  · rintro ⟨y, es2⟩ ⟨h1, h2, h3⟩
    simp only at h1 h2 h3
    repeat' (first | ((first | refine o1 rfl ?_ | refine o0 rfl ?_); intro k hk; simp (disch := omega) only [ev0, sl_cells, simprocAttr]; refine hk _ _ ?_; clear hk k) | refine ono rfl ?_ | ((first | refine osplitG rfl (fun h => ?_) (fun h => ?_) | refine osplitB rfl (fun h => ?_) (fun h => ?_)) <;> (fail_if_success (simp only [eq_self, reduceCtorEq] at h))) | refine onx ?_ | refine onb ?_ | refine sreg ?_ | refine qT rfl ?_ | refine qF rfl ?_ | refine scondT rfl ?_ | refine scondF rfl ?_ | refine ocondP rfl (fun h => ?_) (fun h => ?_) | refine ocondB rfl (fun h => ?_) (fun h => ?_) | refine scondP rfl (fun h => ?_) (fun h => ?_) | refine scond rfl (fun h => ?_) (fun h => ?_) | refine oskip ?_ | refine oskipb ?_ | refine oret ?_ | refine sem_ret ?_ | refine sem_seq ?_ | refine sreg1 ?_)
    · have hy : y < t.houses.length := by omega
      refine sem_block ?_
      repeat' (first | ((first | refine o1 rfl ?_ | refine o0 rfl ?_); intro k hk; simp (disch := omega) only [ev0, sl_cells, simprocAttr]; refine hk _ _ ?_; clear hk k) | refine ono rfl ?_ | ((first | refine osplitG rfl (fun h => ?_) (fun h => ?_) | refine osplitB rfl (fun h => ?_) (fun h => ?_)) <;> (fail_if_success (simp only [eq_self, reduceCtorEq] at h))) | refine onx ?_ | refine onb ?_ | refine sreg ?_ | refine qT rfl ?_ | refine qF rfl ?_ | refine scondT rfl ?_ | refine scondF rfl ?_ | refine ocondP rfl (fun h => ?_) (fun h => ?_) | refine ocondB rfl (fun h => ?_) (fun h => ?_) | refine scondP rfl (fun h => ?_) (fun h => ?_) | refine scond rfl (fun h => ?_) (fun h => ?_) | refine oskip ?_ | refine oskipb ?_ | refine oret ?_ | refine sem_ret ?_ | refine sem_seq ?_ | refine sreg1 ?_)
      refine semL_acall rfl (by exact hmu es2 h2 y hy) fun ae μ hr => ?_
      obtain ⟨es3, ⟨rfl, hv3⟩, rfl⟩ := hr
      simp only [List.cons_append, List.nil_append, List.set_cons_zero]
      cases hlm : levM t y f m with
      | true =>
        rw [if_pos rfl]
        change semL _ _ _ ⟨(_, _) :: _, _⟩ _
        repeat' (first | ((first | refine o1 rfl ?_ | refine o0 rfl ?_); intro k hk; simp (disch := omega) only [ev0, sl_cells, simprocAttr]; refine hk _ _ ?_; clear hk k) | refine ono rfl ?_ | ((first | refine osplitG rfl (fun h => ?_) (fun h => ?_) | refine osplitB rfl (fun h => ?_) (fun h => ?_)) <;> (fail_if_success (simp only [eq_self, reduceCtorEq] at h))) | refine onx ?_ | refine onb ?_ | refine sreg ?_ | refine qT rfl ?_ | refine qF rfl ?_ | refine scondT rfl ?_ | refine scondF rfl ?_ | refine ocondP rfl (fun h => ?_) (fun h => ?_) | refine ocondB rfl (fun h => ?_) (fun h => ?_) | refine scondP rfl (fun h => ?_) (fun h => ?_) | refine scond rfl (fun h => ?_) (fun h => ?_) | refine oskip ?_ | refine oskipb ?_ | refine oret ?_ | refine sem_ret ?_ | refine sem_seq ?_ | refine sreg1 ?_)
        refine onil (lnext (y + 1, es3) ⟨by simp only; omega, hv3, fun j hj => ?_⟩ (by simp only; omega) ?_)
        · have hj' : j < y + 1 := hj
          by_cases e : j = y
          · subst e; exact hlm
          · exact h3 j (by omega)
        · (refine Le.same ?_; simp only [List.forall_mem_cons, List.forall_mem_nil, getE, selE, Nat.reduceBEq, List.not_mem_nil, false_implies, implies_true, and_true, true_and, and_self])
          simp
      | false =>
        rw [if_neg (by simp), brk_some hy hlm h3]
        simp only [afterCall, blockQ, thenQ, loopQ, bodyD]
        refine ⟨fun μ' => μ' = [.map es3, .row 96 0 4 [[slOf CoolHouse.cs t.houses, slOf CoolSite.cs t.sites, I m, .mp 0]], .row 3 0 1 [[I y]], .row 4 0 1 [[B true]], .row 121 0 1 [[I y]]], dcalls_of_sem fn_cool_bought_broken_1 (by simp) fun D4 => ?_, fun μ' hμ => ?_⟩
        · unfold c_cool_bought_broken_1 cval enterEnv
          simp only [List.zipIdx_cons, List.zipIdx_nil, List.map_cons, List.map_nil, Nat.zero_add, Nat.reduceAdd, Option.getD_some]
          refine sem_block ?_
          repeat' (first | ((first | refine o1 rfl ?_ | refine o0 rfl ?_); intro k hk; simp (disch := omega) only [ev0, sl_cells, simprocAttr]; refine hk _ _ ?_; clear hk k) | refine ono rfl ?_ | ((first | refine osplitG rfl (fun h => ?_) (fun h => ?_) | refine osplitB rfl (fun h => ?_) (fun h => ?_)) <;> (fail_if_success (simp only [eq_self, reduceCtorEq] at h))) | refine onx ?_ | refine onb ?_ | refine sreg ?_ | refine qT rfl ?_ | refine qF rfl ?_ | refine scondT rfl ?_ | refine scondF rfl ?_ | refine ocondP rfl (fun h => ?_) (fun h => ?_) | refine ocondB rfl (fun h => ?_) (fun h => ?_) | refine scondP rfl (fun h => ?_) (fun h => ?_) | refine scond rfl (fun h => ?_) (fun h => ?_) | refine oskip ?_ | refine oskipb ?_ | refine oret ?_ | refine sem_ret ?_ | refine sem_seq ?_ | refine sreg1 ?_)
          exact onil ⟨.inl rfl, rfl⟩
        · subst hμ
          exact ⟨_, rfl, _, ⟨rfl, es3, hv3, rfl⟩, rfl, by simp⟩
    · have hy : y = t.houses.length := by omega
      subst hy
      rw [brk_none h3]
      (refine sem_exit ?_; change sem _ _ _ _ _)
      repeat' (first | ((first | refine o1 rfl ?_ | refine o0 rfl ?_); intro k hk; simp (disch := omega) only [ev0, sl_cells, simprocAttr]; refine hk _ _ ?_; clear hk k) | refine ono rfl ?_ | ((first | refine osplitG rfl (fun h => ?_) (fun h => ?_) | refine osplitB rfl (fun h => ?_) (fun h => ?_)) <;> (fail_if_success (simp only [eq_self, reduceCtorEq] at h))) | refine onx ?_ | refine onb ?_ | refine sreg ?_ | refine qT rfl ?_ | refine qF rfl ?_ | refine scondT rfl ?_ | refine scondF rfl ?_ | refine ocondP rfl (fun h => ?_) (fun h => ?_) | refine ocondB rfl (fun h => ?_) (fun h => ?_) | refine scondP rfl (fun h => ?_) (fun h => ?_) | refine scond rfl (fun h => ?_) (fun h => ?_) | refine oskip ?_ | refine oskipb ?_ | refine oret ?_ | refine sem_ret ?_ | refine sem_seq ?_ | refine sreg1 ?_)
      simp only [bodyD]
      refine ⟨fun μ' => μ' = [.map es2, .row 96 0 4 [[slOf CoolHouse.cs t.houses, slOf CoolSite.cs t.sites, I m, .mp 0]], .row 3 0 1 [[I 0]], .row 4 0 1 [[B false]]], dcalls_of_sem fn_cool_bought_broken_1 (by simp) fun D4 => ?_, fun μ' hμ => ?_⟩
      · unfold c_cool_bought_broken_1 cval enterEnv
        simp only [List.zipIdx_cons, List.zipIdx_nil, List.map_cons, List.map_nil, Nat.zero_add, Nat.reduceAdd, Option.getD_none]
        refine sem_block ?_
        repeat' (first | ((first | refine o1 rfl ?_ | refine o0 rfl ?_); intro k hk; simp (disch := omega) only [ev0, sl_cells, simprocAttr]; refine hk _ _ ?_; clear hk k) | refine ono rfl ?_ | ((first | refine osplitG rfl (fun h => ?_) (fun h => ?_) | refine osplitB rfl (fun h => ?_) (fun h => ?_)) <;> (fail_if_success (simp only [eq_self, reduceCtorEq] at h))) | refine onx ?_ | refine onb ?_ | refine sreg ?_ | refine qT rfl ?_ | refine qF rfl ?_ | refine scondT rfl ?_ | refine scondF rfl ?_ | refine ocondP rfl (fun h => ?_) (fun h => ?_) | refine ocondB rfl (fun h => ?_) (fun h => ?_) | refine scondP rfl (fun h => ?_) (fun h => ?_) | refine scond rfl (fun h => ?_) (fun h => ?_) | refine oskip ?_ | refine oskipb ?_ | refine oret ?_ | refine sem_ret ?_ | refine sem_seq ?_ | refine sreg1 ?_)
        exact onil ⟨.inl rfl, rfl⟩
      · subst hμ
        exact ⟨_, rfl, _, ⟨rfl, es2, h2, rfl⟩, rfl, by simp⟩
end Go.Proofs.Ytnempffajbdneaa
