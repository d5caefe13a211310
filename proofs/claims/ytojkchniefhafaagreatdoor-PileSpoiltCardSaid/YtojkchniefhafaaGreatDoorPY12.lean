/- pile.Read: what gives up is taken back. -/
import Derived.Test.YtojkchniefhafaaGreatDoorPY11
set_option linter.unusedVariables false
set_option linter.unusedSimpArgs false
set_option linter.unusedSectionVars false
set_option maxRecDepth 8000
set_option maxHeartbeats 4000000
namespace Go.Tk
open Go Go.Av
theorem valid_len {T : Bts} {l : List (List Int)} {p : Nat} (h : validT T l p) : l.length ≤ T.length ∧ ∀ row ∈ l, row.length ≤ T.length := by
  obtain ⟨b, hb, hs⟩ := valid_lines h
  have hbl : T.length = b.length + 1 := by rw [hb]; simp
  have h1 := splitL_len 10 b
  rw [hs, lines_len] at h1
  refine ⟨by omega, fun row hr => ?_⟩
  obtain ⟨j, g1, rfl⟩ := List.mem_iff_getElem.1 hr
  have h2 := split_word 10 b (yearV l j) (by
    rw [hs, ← lines_year l p g1, getD_lt (by rw [lines_len]; omega)]
    exact List.getElem_mem _)
  have h3 := splitL_len 32 (yearV l j)
  unfold yearV at h3
  rw [words_split (by decide), getD_lt g1] at h3
  simp at h3
  unfold yearV at h2
  rw [getD_lt g1] at h2
  omega
/-- What pile.Read answers. -/
def readR (T : Bts) (x : AV) : Prop := if 20000 < T.length then x = .tup [.nilsl, I 3] else
  (∃ l p, validT T l p ∧ x = if bookOk l then .tup [slOf intsCs l, I 0] else .tup [.nilsl, I 2]) ∨ ((∀ l p, ¬ validT T l p) ∧ x = .tup [.nilsl, I 4])
theorem readE.ren {T : Bts} {ae : AEnd} (h : readE T ae) (g : Nat → Nat) : readE T (renEnd g ae) := by
  rcases h with ⟨l, p, hv, rfl⟩ | ⟨hn, hw⟩
  · exact .inl ⟨l, p, hv, rfl⟩
  · exact .inr ⟨hn, hw.ren g⟩
end Go.Tk
namespace Go.Proofs.YtojkchniefhafaaGreatDoor
open Go Go.Av Go.Tk
attribute [local irreducible] Holds sem semL ACalls FnIs strB
variable {K : Ctx} (hP : K.P = Tryz.prog) (hGK : ∀ w w', K.G w → RowKit.Below w.heap.size w w' → K.G w') (hT : ∀ w, K.G w → GB w)
include hP hGK hT
theorem Read_0 (T : Bts) (hl : T.length ≤ 100000) : ACalls K F.pile_Read [.str (strB T)] [] fun ae ν => ∃ x, (readR T x ∧ ν = []) ∧ ae = .ret x := by
  have hread := fun h μ => (read_0 hP hGK hT T h).beside (fun g ae hr => hr.ren g) rfl rfl μ
  obtain ⟨P, w0, S0, G, hG0⟩ := K
  simp only at hP hGK hT
  subst hP
  refine ACalls.dropAny (acalls_of_runD fn_pile_Read (by simp) ?_) fun ae ν hr => ?_
  rotate_left
  · obtain ⟨x, ⟨hr, rfl⟩, rfl⟩ := hr
    refine ⟨⟨x, .inl rfl, ?_⟩, rfl⟩
    unfold readR at hr
    split at hr
    · rw [hr]; rfl
    · rcases hr with ⟨l, p, -, rfl⟩ | ⟨-, rfl⟩
      · split <;> rfl
      · rfl
  unfold c_pile_Read cval enterEnv
  simp only [List.zipIdx_cons, List.zipIdx_nil, List.map_cons, List.map_nil, Nat.zero_add, Nat.reduceAdd]
  intro D tl
  repeat' (first | ((first | refine o1 rfl ?_ | refine o0 rfl ?_); intro k hk; simp (disch := omega) only [ev0, sl_cells, simprocAttr, strB_size]; refine hk _ _ ?_; clear hk k) | refine ono rfl ?_ | ((first | refine osplitG rfl (fun h => ?_) (fun h => ?_) | refine osplitB rfl (fun h => ?_) (fun h => ?_)) <;> (fail_if_success (simp only [eq_self, reduceCtorEq] at h))) | refine onx ?_ | refine onb ?_ | refine sreg ?_ | refine qT rfl ?_ | refine qF rfl ?_ | refine scondT rfl ?_ | refine scondF rfl ?_ | refine ocondP rfl (fun h => ?_) (fun h => ?_) | refine ocondB rfl (fun h => ?_) (fun h => ?_) | refine scondP rfl (fun h => ?_) (fun h => ?_) | refine scond rfl (fun h => ?_) (fun h => ?_) | refine oskip ?_ | refine oskipb ?_ | refine oret ?_ | refine sem_ret ?_ | refine sem_seq ?_ | refine sreg1 ?_)
  refine onil ?_
  intro D2 tl2
  by_cases hlong : 20000 < T.length
  · have hlg : (20000 < (T.length : Int)) = True := eq_true (by omega)
    repeat' (first | ((first | refine o1 rfl ?_ | refine o0 rfl ?_); intro k hk; simp (disch := omega) only [ev0, sl_cells, simprocAttr, strB_size, hlg, decide_true]; refine hk _ _ ?_; clear hk k) | refine ono rfl ?_ | ((first | refine osplitG rfl (fun h => ?_) (fun h => ?_) | refine osplitB rfl (fun h => ?_) (fun h => ?_)) <;> (fail_if_success (simp only [eq_self, reduceCtorEq] at h))) | refine onx ?_ | refine onb ?_ | refine sreg ?_ | refine qT rfl ?_ | refine qF rfl ?_ | refine scondT rfl ?_ | refine scondF rfl ?_ | refine ocondP rfl (fun h => ?_) (fun h => ?_) | refine ocondB rfl (fun h => ?_) (fun h => ?_) | refine scondP rfl (fun h => ?_) (fun h => ?_) | refine scond rfl (fun h => ?_) (fun h => ?_) | refine oskip ?_ | refine oskipb ?_ | refine oret ?_ | refine sem_ret ?_ | refine sem_seq ?_ | refine sreg1 ?_)
    simp only [bodyD]
    refine ⟨_, rfl, ⟨_, ⟨?_, rfl⟩, rfl⟩, by simp⟩
    unfold readR
    rw [if_pos hlong]
  · have hlg : (20000 < (T.length : Int)) = False := eq_false (by omega)
    repeat' (first | ((first | refine o1 rfl ?_ | refine o0 rfl ?_); intro k hk; simp (disch := omega) only [ev0, sl_cells, simprocAttr, strB_size, hlg, decide_false]; refine hk _ _ ?_; clear hk k) | refine ono rfl ?_ | ((first | refine osplitG rfl (fun h => ?_) (fun h => ?_) | refine osplitB rfl (fun h => ?_) (fun h => ?_)) <;> (fail_if_success (simp only [eq_self, reduceCtorEq] at h))) | refine onx ?_ | refine onb ?_ | refine sreg ?_ | refine qT rfl ?_ | refine qF rfl ?_ | refine scondT rfl ?_ | refine scondF rfl ?_ | refine ocondP rfl (fun h => ?_) (fun h => ?_) | refine ocondB rfl (fun h => ?_) (fun h => ?_) | refine scondP rfl (fun h => ?_) (fun h => ?_) | refine scond rfl (fun h => ?_) (fun h => ?_) | refine oskip ?_ | refine oskipb ?_ | refine oret ?_ | refine sem_ret ?_ | refine sem_seq ?_ | refine sreg1 ?_)
    refine sem_skip ?_
    refine ⟨rfl, fun D3 => ?_⟩
    repeat' (first | ((first | refine o1 rfl ?_ | refine o0 rfl ?_); intro k hk; simp (disch := omega) only [ev0, sl_cells, simprocAttr]; refine hk _ _ ?_; clear hk k) | refine ono rfl ?_ | ((first | refine osplitG rfl (fun h => ?_) (fun h => ?_) | refine osplitB rfl (fun h => ?_) (fun h => ?_)) <;> (fail_if_success (simp only [eq_self, reduceCtorEq] at h))) | refine onx ?_ | refine onb ?_ | refine sreg ?_ | refine qT rfl ?_ | refine qF rfl ?_ | refine scondT rfl ?_ | refine scondF rfl ?_ | refine ocondP rfl (fun h => ?_) (fun h => ?_) | refine ocondB rfl (fun h => ?_) (fun h => ?_) | refine scondP rfl (fun h => ?_) (fun h => ?_) | refine scond rfl (fun h => ?_) (fun h => ?_) | refine oskip ?_ | refine oskipb ?_ | refine oret ?_ | refine sem_ret ?_ | refine sem_seq ?_ | refine sreg1 ?_)
    refine onil ⟨25, [.ptr 0 0 1 0 0, .ptr 1 0 1 0 0], rfl, fun D4 tl4 => ?_⟩
    simp only [bOf, tlOf, List.length_cons, List.length_nil, Nat.zero_add, Nat.reduceAdd]
    repeat' (first | ((first | refine o1 rfl ?_ | refine o0 rfl ?_); intro k hk; simp (disch := omega) only [ev0, sl_cells, simprocAttr]; refine hk _ _ ?_; clear hk k) | refine ono rfl ?_ | ((first | refine osplitG rfl (fun h => ?_) (fun h => ?_) | refine osplitB rfl (fun h => ?_) (fun h => ?_)) <;> (fail_if_success (simp only [eq_self, reduceCtorEq] at h))) | refine onx ?_ | refine onb ?_ | refine sreg ?_ | refine qT rfl ?_ | refine qF rfl ?_ | refine scondT rfl ?_ | refine scondF rfl ?_ | refine ocondP rfl (fun h => ?_) (fun h => ?_) | refine ocondB rfl (fun h => ?_) (fun h => ?_) | refine scondP rfl (fun h => ?_) (fun h => ?_) | refine scond rfl (fun h => ?_) (fun h => ?_) | refine oskip ?_ | refine oskipb ?_ | refine oret ?_ | refine sem_ret ?_ | refine sem_seq ?_ | refine sreg1 ?_)
    refine semL_acall rfl (by exact hread (by omega) _) fun ae μ hr => ?_
    obtain ⟨hr, rfl⟩ := hr
    rcases hr with ⟨l, p, hv, rfl⟩ | ⟨hno, s, rfl⟩
    · have hvl := valid_len hv
      have hbk := pile_booked hGK l (by omega) fun row hr => by have := hvl.2 row hr; omega
      change semL _ _ _ ⟨(_, slOf intsCs l) :: _, _⟩ _
      by_cases hbo : bookOk l
      · rw [decide_eq_true hbo] at hbk
        repeat' (first | ((first | refine o1 rfl ?_ | refine o0 rfl ?_); intro k hk; simp (disch := omega) only [ev0, sl_cells, simprocAttr, Bool.not_true]; refine hk _ _ ?_; clear hk k) | refine ono rfl ?_ | (apply ocall; (case he => (simp only [ev0, sl_cells, simprocAttr] <;> rfl)); (case hc => first | exact hbk); (case ht => rfl); (case hg => rfl)) | ((first | refine osplitG rfl (fun h => ?_) (fun h => ?_) | refine osplitB rfl (fun h => ?_) (fun h => ?_)) <;> (fail_if_success (simp only [eq_self, reduceCtorEq] at h))) | refine onx ?_ | refine onb ?_ | refine sreg ?_ | refine qT rfl ?_ | refine qF rfl ?_ | refine scondT rfl ?_ | refine scondF rfl ?_ | refine ocondP rfl (fun h => ?_) (fun h => ?_) | refine ocondB rfl (fun h => ?_) (fun h => ?_) | refine scondP rfl (fun h => ?_) (fun h => ?_) | refine scond rfl (fun h => ?_) (fun h => ?_) | refine oskip ?_ | refine oskipb ?_ | refine oret ?_ | refine sem_ret ?_ | refine sem_seq ?_ | refine sreg1 ?_)
        simp only [bodyD]
        refine ⟨fun μ' => μ' = [.row 22 0 1 [[slOf intsCs l]], .row 25 0 1 [[I 0]]], dcalls_of_sem fn_pile_Read_1 (by simp) fun D5 => ?_, fun μ' hμ => ?_⟩
        · unfold c_pile_Read_1 cval enterEnv
          simp only [List.zipIdx_cons, List.zipIdx_nil, List.map_cons, List.map_nil, Nat.zero_add, Nat.reduceAdd, Option.getD_none]
          refine sem_block ?_
          repeat' (first | ((first | refine o1 rfl ?_ | refine o0 rfl ?_); intro k hk; simp (disch := omega) only [ev0, sl_cells, simprocAttr]; refine hk _ _ ?_; clear hk k) | refine ono rfl ?_ | ((first | refine osplitG rfl (fun h => ?_) (fun h => ?_) | refine osplitB rfl (fun h => ?_) (fun h => ?_)) <;> (fail_if_success (simp only [eq_self, reduceCtorEq] at h))) | refine onx ?_ | refine onb ?_ | refine sreg ?_ | refine qT rfl ?_ | refine qF rfl ?_ | refine scondT rfl ?_ | refine scondF rfl ?_ | refine ocondP rfl (fun h => ?_) (fun h => ?_) | refine ocondB rfl (fun h => ?_) (fun h => ?_) | refine scondP rfl (fun h => ?_) (fun h => ?_) | refine scond rfl (fun h => ?_) (fun h => ?_) | refine oskip ?_ | refine oskipb ?_ | refine oret ?_ | refine sem_ret ?_ | refine sem_seq ?_ | refine sreg1 ?_)
          exact onil ⟨.inl rfl, rfl⟩
        · subst hμ
          refine ⟨_, rfl, ⟨_, ⟨?_, rfl⟩, rfl⟩, by simp⟩
          unfold readR
          rw [if_neg hlong]
          exact .inl ⟨l, p, hv, by rw [if_pos hbo]⟩
      · rw [decide_eq_false hbo] at hbk
        repeat' (first | ((first | refine o1 rfl ?_ | refine o0 rfl ?_); intro k hk; simp (disch := omega) only [ev0, sl_cells, simprocAttr, Bool.not_false]; refine hk _ _ ?_; clear hk k) | refine ono rfl ?_ | (apply ocall; (case he => (simp only [ev0, sl_cells, simprocAttr] <;> rfl)); (case hc => first | exact hbk); (case ht => rfl); (case hg => rfl)) | ((first | refine osplitG rfl (fun h => ?_) (fun h => ?_) | refine osplitB rfl (fun h => ?_) (fun h => ?_)) <;> (fail_if_success (simp only [eq_self, reduceCtorEq] at h))) | refine onx ?_ | refine onb ?_ | refine sreg ?_ | refine qT rfl ?_ | refine qF rfl ?_ | refine scondT rfl ?_ | refine scondF rfl ?_ | refine ocondP rfl (fun h => ?_) (fun h => ?_) | refine ocondB rfl (fun h => ?_) (fun h => ?_) | refine scondP rfl (fun h => ?_) (fun h => ?_) | refine scond rfl (fun h => ?_) (fun h => ?_) | refine oskip ?_ | refine oskipb ?_ | refine oret ?_ | refine sem_ret ?_ | refine sem_seq ?_ | refine sreg1 ?_)
        simp only [bodyD]
        refine ⟨fun μ' => μ' = [.row 22 0 1 [[.nilsl]], .row 25 0 1 [[I 2]]], dcalls_of_sem fn_pile_Read_1 (by simp) fun D5 => ?_, fun μ' hμ => ?_⟩
        · unfold c_pile_Read_1 cval enterEnv
          simp only [List.zipIdx_cons, List.zipIdx_nil, List.map_cons, List.map_nil, Nat.zero_add, Nat.reduceAdd, Option.getD_none]
          refine sem_block ?_
          repeat' (first | ((first | refine o1 rfl ?_ | refine o0 rfl ?_); intro k hk; simp (disch := omega) only [ev0, sl_cells, simprocAttr]; refine hk _ _ ?_; clear hk k) | refine ono rfl ?_ | ((first | refine osplitG rfl (fun h => ?_) (fun h => ?_) | refine osplitB rfl (fun h => ?_) (fun h => ?_)) <;> (fail_if_success (simp only [eq_self, reduceCtorEq] at h))) | refine onx ?_ | refine onb ?_ | refine sreg ?_ | refine qT rfl ?_ | refine qF rfl ?_ | refine scondT rfl ?_ | refine scondF rfl ?_ | refine ocondP rfl (fun h => ?_) (fun h => ?_) | refine ocondB rfl (fun h => ?_) (fun h => ?_) | refine scondP rfl (fun h => ?_) (fun h => ?_) | refine scond rfl (fun h => ?_) (fun h => ?_) | refine oskip ?_ | refine oskipb ?_ | refine oret ?_ | refine sem_ret ?_ | refine sem_seq ?_ | refine sreg1 ?_)
          exact onil ⟨.inl rfl, rfl⟩
        · subst hμ
          refine ⟨_, rfl, ⟨_, ⟨?_, rfl⟩, rfl⟩, by simp⟩
          unfold readR
          rw [if_neg hlong]
          exact .inl ⟨l, p, hv, by rw [if_neg hbo]⟩
    · simp only [afterCall, blockQ, thenQ, loopQ, bodyD]
      refine ⟨fun μ' => μ' = [.row 22 0 1 [[.nilsl]], .row 25 0 1 [[I 4]], .row 71 0 1 [[.str s]]], dcalls_of_sem fn_pile_Read_1 (by simp) fun D5 => ?_, fun μ' hμ => ?_⟩
      · unfold c_pile_Read_1 cval enterEnv
        simp only [List.zipIdx_cons, List.zipIdx_nil, List.map_cons, List.map_nil, Nat.zero_add, Nat.reduceAdd, Option.getD_some]
        refine sem_block ?_
        repeat' (first | ((first | refine o1 rfl ?_ | refine o0 rfl ?_); intro k hk; simp (disch := omega) only [ev0, sl_cells, simprocAttr]; refine hk _ _ ?_; clear hk k) | refine ono rfl ?_ | ((first | refine osplitG rfl (fun h => ?_) (fun h => ?_) | refine osplitB rfl (fun h => ?_) (fun h => ?_)) <;> (fail_if_success (simp only [eq_self, reduceCtorEq] at h))) | refine onx ?_ | refine onb ?_ | refine sreg ?_ | refine qT rfl ?_ | refine qF rfl ?_ | refine scondT rfl ?_ | refine scondF rfl ?_ | refine ocondP rfl (fun h => ?_) (fun h => ?_) | refine ocondB rfl (fun h => ?_) (fun h => ?_) | refine scondP rfl (fun h => ?_) (fun h => ?_) | refine scond rfl (fun h => ?_) (fun h => ?_) | refine oskip ?_ | refine oskipb ?_ | refine oret ?_ | refine sem_ret ?_ | refine sem_seq ?_ | refine sreg1 ?_)
        exact onil ⟨.inl rfl, rfl⟩
      · subst hμ
        refine ⟨_, rfl, ⟨_, ⟨?_, rfl⟩, rfl⟩, by simp⟩
        unfold readR
        rw [if_neg hlong]
        exact .inr ⟨hno, rfl⟩
end Go.Proofs.YtojkchniefhafaaGreatDoor
