/- Motions: what gives up is taken back; the tree of a motion. -/
import Derived.Test.YtcllnnjeaidppaaGreatDoorPH4
set_option linter.unusedVariables false
set_option linter.unusedSimpArgs false
set_option linter.unusedSectionVars false
set_option maxRecDepth 8000
set_option maxHeartbeats 4000000
namespace Go.Av
section rules
variable {K : Ctx} {μ : List AObj}
theorem ACalls.dropE {f : Nat} {args : List AV} {R : AV → List AObj → Prop} (h : ACalls K f args μ fun ae μ' => ∃ x, R x (μ'.take μ.length) ∧ ae = .ret x ∧ μ.length ≤ μ'.length) (hR : ∀ x ν, R x ν → refA μ.length x = true ∧ refM μ.length ν = true) :
    ACalls K f args μ fun ae μ' => ∃ x, R x μ' ∧ ae = .ret x := by
  refine ⟨h.1, fun ρ S w vs hm hl hv => (h.2 ρ S w vs hm hl hv).mono ?_⟩
  rintro e w' ⟨ae, μ', ρ', S', ⟨x, hRx, rfl, hle⟩, r2, r3, r4⟩
  obtain ⟨hx, hν⟩ := hR _ _ hRx
  cases e <;> simp only [EndRel] at r2
  refine ⟨.ret x, _, ρ', S', ⟨x, hRx, rfl⟩, r2.take hx, r3.take hle hν, r4.sub, r4.blk, fun id o ho => ?_, r4.size, r4.col, fun b hlt h1 h2 => ?_⟩
  · obtain ⟨o', h1, h2⟩ := r4.obj id o ho
    exact ⟨o', by rw [List.getElem?_take, if_pos (List.getElem?_eq_some_iff.1 ho).1]; exact h1, h2⟩
  · obtain ⟨a1, a2, a3⟩ := r4.fr b hlt h1 h2
    exact ⟨a1, a2, a3.take⟩
end rules
end Go.Av
namespace Go.Proofs.YtcllnnjeaidppaaGreatDoor
open Go Go.Av Go.Tk
attribute [local irreducible] Holds sem semL ACalls FnIs opd
variable {K : Ctx} (hP : K.P = Tryz.prog) (hGK : ∀ w w', K.G w → RowKit.Below w.heap.size w w' → K.G w')
include hP hGK
/-- What is tried, and gives up or not. -/
theorem speak_try {g : Nat} {ca : List AV} {μ : List AObj} {R : Bool → List AObj → Prop} (hca : refL μ.length ca = true)
    (hc : ACalls K g ca (μ ++ [.row 4 0 1 [[B false]]]) fun ae ν => ∃ ν0 b, ν = ν0 ++ [.row 4 0 1 [[B false]]] ∧ R b ν0 ∧ (b = true ∧ ae = .ret (.tup []) ∨ b = false ∧ ∃ s, ae = .panic (wrongV s)))
    (hR : ∀ b ν0, R b ν0 → ν0.length = μ.length ∧ refM μ.length ν0 = true) :
    ACalls K F.speak_try [.fn (.func g) [] ca] μ fun ae ν => ∃ x, (∃ b, R b ν ∧ x = B b) ∧ ae = .ret x := by
  obtain ⟨P, w0, S0, G, hG0⟩ := K
  simp only at hP hGK
  subst hP
  refine ACalls.dropE (R := fun x ν => ∃ b, R b ν ∧ x = B b) (acalls_of_runD fn_speak_try (by simp) ?_) ?_
  rotate_left
  · rintro x ν ⟨b, hr, rfl⟩
    exact ⟨rfl, (hR b ν hr).2⟩
  unfold c_speak_try cval enterEnv
  simp only [List.zipIdx_cons, List.zipIdx_nil, List.map_cons, List.map_nil, Nat.zero_add, Nat.reduceAdd]
  intro D tl
  repeat' (first | ((first | refine o1 rfl ?_ | refine o0 rfl ?_); intro k hk; simp (disch := omega) only [ev0, sl_cells, simprocAttr]; refine hk _ _ ?_; clear hk k) | refine ono rfl ?_ | ((first | refine osplitG rfl (fun h => ?_) (fun h => ?_) | refine osplitB rfl (fun h => ?_) (fun h => ?_)) <;> (fail_if_success (simp only [eq_self, reduceCtorEq] at h))) | refine onx ?_ | refine onb ?_ | refine sreg ?_ | refine qT rfl ?_ | refine qF rfl ?_ | refine scondT rfl ?_ | refine scondF rfl ?_ | refine ocondP rfl (fun h => ?_) (fun h => ?_) | refine ocondB rfl (fun h => ?_) (fun h => ?_) | refine scondP rfl (fun h => ?_) (fun h => ?_) | refine scond rfl (fun h => ?_) (fun h => ?_) | refine oskip ?_ | refine oskipb ?_ | refine oret ?_ | refine sem_ret ?_ | refine sem_seq ?_ | refine sreg1 ?_)
  refine onil ?_
  refine ⟨rfl, fun D2 => ?_⟩
  repeat' (first | ((first | refine o1 rfl ?_ | refine o0 rfl ?_); intro k hk; simp (disch := omega) only [ev0, sl_cells, simprocAttr]; refine hk _ _ ?_; clear hk k) | refine ono rfl ?_ | ((first | refine osplitG rfl (fun h => ?_) (fun h => ?_) | refine osplitB rfl (fun h => ?_) (fun h => ?_)) <;> (fail_if_success (simp only [eq_self, reduceCtorEq] at h))) | refine onx ?_ | refine onb ?_ | refine sreg ?_ | refine qT rfl ?_ | refine qF rfl ?_ | refine scondT rfl ?_ | refine scondF rfl ?_ | refine ocondP rfl (fun h => ?_) (fun h => ?_) | refine ocondB rfl (fun h => ?_) (fun h => ?_) | refine scondP rfl (fun h => ?_) (fun h => ?_) | refine scond rfl (fun h => ?_) (fun h => ?_) | refine oskip ?_ | refine oskipb ?_ | refine oret ?_ | refine sem_ret ?_ | refine sem_seq ?_ | refine sreg1 ?_)
  refine onil ⟨106, [.ptr μ.length 0 1 0 0], rfl, fun D3 tl3 => ?_⟩
  simp only [bOf, tlOf]
  repeat' (first | ((first | refine o1 rfl ?_ | refine o0 rfl ?_); intro k hk; simp (disch := omega) only [ev0, sl_cells, simprocAttr]; refine hk _ _ ?_; clear hk k) | refine ono rfl ?_ | ((first | refine osplitG rfl (fun h => ?_) (fun h => ?_) | refine osplitB rfl (fun h => ?_) (fun h => ?_)) <;> (fail_if_success (simp only [eq_self, reduceCtorEq] at h))) | refine onx ?_ | refine onb ?_ | refine sreg ?_ | refine qT rfl ?_ | refine qF rfl ?_ | refine scondT rfl ?_ | refine scondF rfl ?_ | refine ocondP rfl (fun h => ?_) (fun h => ?_) | refine ocondB rfl (fun h => ?_) (fun h => ?_) | refine scondP rfl (fun h => ?_) (fun h => ?_) | refine scond rfl (fun h => ?_) (fun h => ?_) | refine oskip ?_ | refine oskipb ?_ | refine oret ?_ | refine sem_ret ?_ | refine sem_seq ?_ | refine sreg1 ?_)
  refine semL_callee (f := g) (args := ca) rfl (by simp [callee, evX, getE, selE]) hc fun ae ν hr => ?_
  obtain ⟨ν0, b, rfl, hr, hb⟩ := hr
  obtain ⟨hl0, hm0⟩ := hR b ν0 hr
  have hget : ∀ o : AObj, (ν0 ++ [o])[μ.length]? = some o := fun o => by rw [← hl0]; simp
  have hset : ∀ o o' : AObj, (ν0 ++ [o]).set μ.length o' = ν0 ++ [o'] := fun o o' => by rw [← hl0]; simp
  have hget2 : ∀ a a0 b : AObj, (ν0 ++ [a] ++ [b])[(ν0 ++ [a0]).length]? = some b := fun a a0 b => by simp
  have hset2 : ∀ a a0 b b' : AObj, (ν0 ++ [a] ++ [b]).set (ν0 ++ [a0]).length b' = ν0 ++ [a] ++ [b'] := fun a a0 b b' => by simp
  have hget3 : ∀ a b : AObj, (ν0 ++ [a] ++ [b])[μ.length]? = some a := fun a b => by rw [← hl0]; simp
  have hset3 : ∀ a a' b : AObj, (ν0 ++ [a] ++ [b]).set μ.length a' = ν0 ++ [a'] ++ [b] := fun a a' b => by rw [← hl0]; simp
  have hget4 : ∀ a b : AObj, (ν0 ++ [a, b])[μ.length]? = some a := fun a b => by rw [← hl0]; simp
  rcases hb with ⟨rfl, rfl⟩ | ⟨rfl, s, rfl⟩
  · change semL _ _ _ ⟨(5, .tup []) :: _, _⟩ _
    repeat' (first | ((first | refine o1 rfl ?_ | refine o0 rfl ?_); intro k hk; simp (disch := omega) only [ev0, sl_cells, simprocAttr, hget, hset]; refine hk _ _ ?_; clear hk k) | refine ono rfl ?_ | ((first | refine osplitG rfl (fun h => ?_) (fun h => ?_) | refine osplitB rfl (fun h => ?_) (fun h => ?_)) <;> (fail_if_success (simp only [eq_self, reduceCtorEq] at h))) | refine onx ?_ | refine onb ?_ | refine sreg ?_ | refine qT rfl ?_ | refine qF rfl ?_ | refine scondT rfl ?_ | refine scondF rfl ?_ | refine ocondP rfl (fun h => ?_) (fun h => ?_) | refine ocondB rfl (fun h => ?_) (fun h => ?_) | refine scondP rfl (fun h => ?_) (fun h => ?_) | refine scond rfl (fun h => ?_) (fun h => ?_) | refine oskip ?_ | refine oskipb ?_ | refine oret ?_ | refine sem_ret ?_ | refine sem_seq ?_ | refine sreg1 ?_)
    simp only [bodyD]
    refine ⟨fun μ' => μ' = ν0 ++ [.row 4 0 1 [[B true]]], dcalls_of_sem fn_speak_try_1 (by simp) fun D4 => ?_, fun μ' hμ => ?_⟩
    · unfold c_speak_try_1 cval enterEnv
      simp only [List.zipIdx_cons, List.zipIdx_nil, List.map_cons, List.map_nil, Nat.zero_add, Nat.reduceAdd, Option.getD_none]
      refine sem_block ?_
      repeat' (first | ((first | refine o1 rfl ?_ | refine o0 rfl ?_); intro k hk; simp (disch := omega) only [ev0, sl_cells, simprocAttr]; refine hk _ _ ?_; clear hk k) | refine ono rfl ?_ | ((first | refine osplitG rfl (fun h => ?_) (fun h => ?_) | refine osplitB rfl (fun h => ?_) (fun h => ?_)) <;> (fail_if_success (simp only [eq_self, reduceCtorEq] at h))) | refine onx ?_ | refine onb ?_ | refine sreg ?_ | refine qT rfl ?_ | refine qF rfl ?_ | refine scondT rfl ?_ | refine scondF rfl ?_ | refine ocondP rfl (fun h => ?_) (fun h => ?_) | refine ocondB rfl (fun h => ?_) (fun h => ?_) | refine scondP rfl (fun h => ?_) (fun h => ?_) | refine scond rfl (fun h => ?_) (fun h => ?_) | refine oskip ?_ | refine oskipb ?_ | refine oret ?_ | refine sem_ret ?_ | refine sem_seq ?_ | refine sreg1 ?_)
      exact onil ⟨.inl rfl, rfl⟩
    · subst hμ
      refine ⟨B true, ?_, _, ⟨true, ?_, rfl⟩, rfl, ?_⟩
      · simp [resA, rvsA, rvA, loadA, place, hget, hget4, getE, selE]
      · rw [← hl0]; simpa using hr
      · simp [hl0]
  · simp only [afterCall, thenQ, bodyD]
    refine ⟨fun μ' => ∃ o, μ' = ν0 ++ [.row 4 0 1 [[B false]]] ++ [o], dcalls_of_sem fn_speak_try_1 (by simp) fun D4 => ?_, fun μ' hμ => ?_⟩
    · unfold c_speak_try_1 cval enterEnv
      simp only [List.zipIdx_cons, List.zipIdx_nil, List.map_cons, List.map_nil, Nat.zero_add, Nat.reduceAdd, Option.getD_some]
      refine sem_block ?_
      repeat' (first | ((first | refine o1 rfl ?_ | refine o0 rfl ?_); intro k hk; simp (disch := omega) only [ev0, sl_cells, simprocAttr, hget, hset, hget2, hset2, hget3, hset3]; refine hk _ _ ?_; clear hk k) | refine ono rfl ?_ | ((first | refine osplitG rfl (fun h => ?_) (fun h => ?_) | refine osplitB rfl (fun h => ?_) (fun h => ?_)) <;> (fail_if_success (simp only [eq_self, reduceCtorEq] at h))) | refine onx ?_ | refine onb ?_ | refine sreg ?_ | refine qT rfl ?_ | refine qF rfl ?_ | refine scondT rfl ?_ | refine scondF rfl ?_ | refine ocondP rfl (fun h => ?_) (fun h => ?_) | refine ocondB rfl (fun h => ?_) (fun h => ?_) | refine scondP rfl (fun h => ?_) (fun h => ?_) | refine scond rfl (fun h => ?_) (fun h => ?_) | refine oskip ?_ | refine oskipb ?_ | refine oret ?_ | refine sem_ret ?_ | refine sem_seq ?_ | refine sreg1 ?_)
      exact onil ⟨.inl rfl, _, rfl⟩
    · obtain ⟨o, rfl⟩ := hμ
      refine ⟨B false, ?_, _, ⟨false, ?_, rfl⟩, rfl, ?_⟩
      · simp [resA, rvsA, rvA, loadA, place, hget, hget4, getE, selE]
      · rw [← hl0]; simpa using hr
      · simp [hl0]
end Go.Proofs.YtcllnnjeaidppaaGreatDoor
