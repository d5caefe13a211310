/- The table of the kinds of lines, and the first line beside the row that is to be filled. -/
import Derived.Test.YtojkchniefhafaaGreatDoorPY8
import Derived.Test.YtojkchniefhafaaGreatDoorPAv41
set_option linter.unusedVariables false
set_option linter.unusedSimpArgs false
set_option linter.unusedSectionVars false
set_option maxRecDepth 8000
set_option maxHeartbeats 4000000
namespace Go.Proofs.YtojkchniefhafaaGreatDoor
open Go Go.Av Go.Tk
attribute [local irreducible] Holds sem semL ACalls FnIs strB
variable {K : Ctx} (hP : K.P = Tryz.prog) (hGK : ∀ w w', K.G w → RowKit.Below w.heap.size w w' → K.G w') (hT : ∀ w, K.G w → GB w)
include hP hGK hT
theorem kinds_2 (a b : AObj) : ACalls K F.pile_kinds [] [a, b] fun ae ν => ae = .ret (.mp 2) ∧ ν = [a, b, .map [(.str (strB headW), .fn (.func F.pile_book_head) [] []), (.str (strB yearW), .fn (.func F.pile_book_year) [] [])]] := by
  obtain ⟨P, w0, S0, G, hG0⟩ := K
  simp only at hP hGK hT
  subst hP
  refine acalls_of_sem fn_pile_kinds (by simp) fun D => ?_
  unfold c_pile_kinds cval enterEnv
  simp only [List.zipIdx_cons, List.zipIdx_nil, List.map_cons, List.map_nil, Nat.zero_add, Nat.reduceAdd]
  repeat' (first | ((first | refine o1 rfl ?_ | refine o0 rfl ?_); intro k hk; simp (disch := omega) only [ev0, sl_cells, simprocAttr]; refine hk _ _ ?_; clear hk k) | refine ono rfl ?_ | ((first | refine osplitG rfl (fun h => ?_) (fun h => ?_) | refine osplitB rfl (fun h => ?_) (fun h => ?_)) <;> (fail_if_success (simp only [eq_self, reduceCtorEq] at h))) | refine onx ?_ | refine onb ?_ | refine sreg ?_ | refine qT rfl ?_ | refine qF rfl ?_ | refine scondT rfl ?_ | refine scondF rfl ?_ | refine ocondP rfl (fun h => ?_) (fun h => ?_) | refine ocondB rfl (fun h => ?_) (fun h => ?_) | refine scondP rfl (fun h => ?_) (fun h => ?_) | refine scond rfl (fun h => ?_) (fun h => ?_) | refine oskip ?_ | refine oskipb ?_ | refine oret ?_ | refine sem_ret ?_ | refine sem_seq ?_ | refine sreg1 ?_)
  refine semL_op rfl (x := .dead) (μ := [a, b, .map [(.str (strB headW), .fn (.func F.pile_book_head) [] []), (.str (strB yearW), .fn (.func F.pile_book_year) [] [])]]) (by kernel_rfl) ?_
  simp only [St.put]
  repeat' (first | ((first | refine o1 rfl ?_ | refine o0 rfl ?_); intro k hk; simp (disch := omega) only [ev0, sl_cells, simprocAttr]; refine hk _ _ ?_; clear hk k) | refine ono rfl ?_ | ((first | refine osplitG rfl (fun h => ?_) (fun h => ?_) | refine osplitB rfl (fun h => ?_) (fun h => ?_)) <;> (fail_if_success (simp only [eq_self, reduceCtorEq] at h))) | refine onx ?_ | refine onb ?_ | refine sreg ?_ | refine qT rfl ?_ | refine qF rfl ?_ | refine scondT rfl ?_ | refine scondF rfl ?_ | refine ocondP rfl (fun h => ?_) (fun h => ?_) | refine ocondB rfl (fun h => ?_) (fun h => ?_) | refine scondP rfl (fun h => ?_) (fun h => ?_) | refine scond rfl (fun h => ?_) (fun h => ?_) | refine oskip ?_ | refine oskipb ?_ | refine oret ?_ | refine sem_ret ?_ | refine sem_seq ?_ | refine sreg1 ?_)

  exact ⟨_, rfl, rfl, rfl⟩
/-- The first line, beside the row that is to be filled. -/
theorem head_2 (ws : List Bts) (hw : ∀ w ∈ ws, w.length ≤ 100000) (hl : ws.length ≤ 100000) (y p : Int) : ACalls K F.pile_book_head [.ptr 0 0 3 0 0, slOf strCs ws] [bkM y p (.hsl 1 0 1 0), .row 23 0 1 []] fun ae ν => match headOf ws with
    | some (A, B) => ae = .ret (.tup []) ∧ ν = [bkM A B (.hsl 1 0 1 0), .row 23 0 1 []]
    | none => wrongE ae ∧ ν = [bkM y p (.hsl 1 0 1 0), .row 23 0 1 []] := by
  have ham := fun w (h : w ∈ ws) μ => amount_at hP hGK hT w (hw w h) μ
  obtain ⟨P, w0, S0, G, hG0⟩ := K
  simp only at hP hGK hT
  subst hP
  refine acalls_of_sem fn_pile_book_head (by simp) fun D => ?_
  unfold c_pile_book_head cval enterEnv bkM
  simp only [List.zipIdx_cons, List.zipIdx_nil, List.map_cons, List.map_nil, Nat.zero_add, Nat.reduceAdd]
  have hbad : ws.length ≠ 2 → headOf ws = none := fun h => by
    unfold headOf
    split
    · simp at h
    · rfl
  by_cases hl2 : ws.length = 2
  · obtain ⟨a, b, rfl⟩ : ∃ a b, ws = [a, b] := by
      match ws, hl2 with
      | [a, b], _ => exact ⟨a, b, rfl⟩
    have ha := ham a (by simp)
    have hb := ham b (by simp)
    have h2 : (([a, b] : List Bts).length : Int) = 2 := rfl
    have hbt : decide ((2 : Int) = 2) = true := rfl
    repeat' (first | ((first | refine o1 rfl ?_ | refine o0 rfl ?_); intro k hk; simp (disch := omega) only [ev0, sl_cells, simprocAttr, slOf, h2, hbt, Bool.not_true]; refine hk _ _ ?_; clear hk k) | refine ono rfl ?_ | ((first | refine osplitG rfl (fun h => ?_) (fun h => ?_) | refine osplitB rfl (fun h => ?_) (fun h => ?_)) <;> (fail_if_success (simp only [eq_self, reduceCtorEq] at h))) | refine onx ?_ | refine onb ?_ | refine sreg ?_ | refine qT rfl ?_ | refine qF rfl ?_ | refine scondT rfl ?_ | refine scondF rfl ?_ | refine ocondP rfl (fun h => ?_) (fun h => ?_) | refine ocondB rfl (fun h => ?_) (fun h => ?_) | refine scondP rfl (fun h => ?_) (fun h => ?_) | refine scond rfl (fun h => ?_) (fun h => ?_) | refine oskip ?_ | refine oskipb ?_ | refine oret ?_ | refine sem_ret ?_ | refine sem_seq ?_ | refine sreg1 ?_)
    cases hA : amtOf a with
    | none =>
      rw [hA] at ha
      have hh : headOf [a, b] = none := by simp only [headOf, hA]
      rw [hh]
      obtain ⟨R, hR⟩ : ∃ R : Nat → AV, R = fun i' => ([.ptr 0 0 3 0 0, .ptr 0 0 3 0 0, slOf strCs [a, b], .tptr [.str (strB a)] 0, .str (strB a), .dead, slOf strCs [a, b], .tptr [.str (strB b)] 0, .str (strB b)] : List AV).getD i' .dead := ⟨_, rfl⟩
      refine any_start hmix ?_
      refine any_die 16 5 [0, 1, 2, 3, 4, 6, 7, 8] R (by kernel_rfl) (by omega) (by decide) ?_ (f := F.pile_amount) (args := [.str (strB a)]) rfl ?_ ((ha _).imp fun ae ν hr => ?_)
      · simp only [List.forall_mem_cons, List.not_mem_nil, false_implies, implies_true, and_true]
        refine ⟨?_, ?_, ?_, ?_, ?_, ?_, ?_, ?_⟩
        all_goals
          first
          | (refine .inl ⟨rfl, rfl, ?_⟩
             rw [hR]
             simp (disch := omega) only [envAt, opAt, List.getD_cons_succ, List.getD_cons_zero, slOf, strCs, List.length_cons, List.length_nil, pushE, quietK, and_self, if_true, wv, simprocAttr, ev0, sl_cells, Nat.zero_add, Nat.reduceAdd]
             done)
          | skip
      · rw [hR]
        rfl
      · obtain ⟨⟨s, rfl⟩, rfl⟩ := hr
        exact ⟨_, rfl, ⟨s, rfl⟩, rfl⟩
    | some A =>
      rw [hA] at ha
      cases hB : amtOf b with
      | none =>
        rw [hB] at hb
        have hh : headOf [a, b] = none := by simp only [headOf, hA, hB]
        rw [hh]
        obtain ⟨R, hR⟩ : ∃ R : Nat → AV, R = fun i' => ([.ptr 0 0 3 0 0, .ptr 0 0 3 0 0, slOf strCs [a, b], .tptr [.str (strB a)] 0, .str (strB a), I A, slOf strCs [a, b], .tptr [.str (strB b)] 0, .str (strB b)] : List AV).getD i' .dead := ⟨_, rfl⟩
        refine any_start hmix ?_
        refine any_die 16 9 [0, 1, 2, 3, 4, 5, 6, 7, 8] R (by kernel_rfl) (by omega) (by decide) ?_ (f := F.pile_amount) (args := [.str (strB b)]) rfl ?_ ((hb _).imp fun ae ν hr => ?_)
        · simp only [List.forall_mem_cons, List.not_mem_nil, false_implies, implies_true, and_true]
          refine ⟨?_, ?_, ?_, ?_, ?_, ?_, ?_, ?_, ?_⟩
          all_goals
            first
            | (refine .inl ⟨rfl, rfl, ?_⟩
               rw [hR]
               simp (disch := omega) only [envAt, opAt, List.getD_cons_succ, List.getD_cons_zero, slOf, strCs, List.length_cons, List.length_nil, pushE, quietK, and_self, if_true, wv, simprocAttr, ev0, sl_cells, Nat.zero_add, Nat.reduceAdd]
               done)
            | skip
          refine .inr (.inr ⟨rfl, F.pile_amount, [.t 13], rfl, fun es => ?_⟩)
          rw [hR]
          exact (ha _).imp fun ae ν hr => hr
        · rw [hR]
          rfl
        · obtain ⟨⟨s, rfl⟩, rfl⟩ := hr
          exact ⟨_, rfl, ⟨s, rfl⟩, rfl⟩
      | some B' =>
        rw [hB] at hb
        have hh : headOf [a, b] = some (A, B') := by simp only [headOf, hA, hB]
        rw [hh]
        obtain ⟨R, hR⟩ : ∃ R : Nat → AV, R = fun i' => ([.ptr 0 0 3 0 0, .ptr 0 0 3 0 0, slOf strCs [a, b], .tptr [.str (strB a)] 0, .str (strB a), I A, slOf strCs [a, b], .tptr [.str (strB b)] 0, .str (strB b), I B', .ptr 0 0 3 0 0, .ptr 0 0 3 0 0] : List AV).getD i' .dead := ⟨_, rfl⟩
        refine any_start hmix ?_
        refine any_effE (ν := [.row 113 0 3 [[I A, I p, .hsl 1 0 1 0]], .row 23 0 1 []]) 13 12 [0, 1, 2, 3, 4, 5, 6, 7, 8, 9, 10, 11] R (by kernel_rfl) (by omega) (by decide) ?_ ?_ ?_
        · simp only [List.forall_mem_cons, List.not_mem_nil, false_implies, implies_true, and_true]
          refine ⟨?_, ?_, ?_, ?_, ?_, ?_, ?_, ?_, ?_, ?_, ?_, ?_⟩
          · refine ⟨.inr ?_, .inl (by kernel_rfl)⟩
            refine .inl ⟨rfl, rfl, ?_⟩
            rw [hR]
            simp (disch := omega) only [envAt, opAt, List.getD_cons_succ, List.getD_cons_zero, slOf, strCs, List.length_cons, List.length_nil, pushE, quietK, and_self, if_true, wv, simprocAttr, ev0, sl_cells, Nat.zero_add, Nat.reduceAdd]
          · refine ⟨.inr ?_, .inr ?_⟩
            · refine .inl ⟨rfl, rfl, ?_⟩
              rw [hR]
              simp (disch := omega) only [envAt, opAt, List.getD_cons_succ, List.getD_cons_zero, slOf, strCs, List.length_cons, List.length_nil, pushE, quietK, and_self, if_true, wv, simprocAttr, ev0, sl_cells, Nat.zero_add, Nat.reduceAdd]
            · refine .inl ⟨rfl, rfl, ?_⟩
              rw [hR]
              simp (disch := omega) only [envAt, opAt, List.getD_cons_succ, List.getD_cons_zero, slOf, strCs, List.length_cons, List.length_nil, pushE, quietK, and_self, if_true, wv, simprocAttr, ev0, sl_cells, Nat.zero_add, Nat.reduceAdd]
          · refine ⟨.inr ?_, .inl (by kernel_rfl)⟩
            refine .inl ⟨rfl, rfl, ?_⟩
            rw [hR]
            simp (disch := omega) only [envAt, opAt, List.getD_cons_succ, List.getD_cons_zero, slOf, strCs, List.length_cons, List.length_nil, pushE, quietK, and_self, if_true, wv, simprocAttr, ev0, sl_cells, Nat.zero_add, Nat.reduceAdd]
          · refine ⟨.inr ?_, .inl (by kernel_rfl)⟩
            refine .inl ⟨rfl, rfl, ?_⟩
            rw [hR]
            simp (disch := omega) only [envAt, opAt, List.getD_cons_succ, List.getD_cons_zero, slOf, strCs, List.length_cons, List.length_nil, pushE, quietK, and_self, if_true, wv, simprocAttr, ev0, sl_cells, Nat.zero_add, Nat.reduceAdd]
          · refine ⟨.inr ?_, .inl (by kernel_rfl)⟩
            refine .inl ⟨rfl, rfl, ?_⟩
            rw [hR]
            simp (disch := omega) only [envAt, opAt, List.getD_cons_succ, List.getD_cons_zero, slOf, strCs, List.length_cons, List.length_nil, pushE, quietK, and_self, if_true, wv, simprocAttr, ev0, sl_cells, Nat.zero_add, Nat.reduceAdd]
          · refine ⟨.inr (.inr (.inr ⟨rfl, F.pile_amount, [.t 13], rfl, fun es => ?_⟩)), .inl (by kernel_rfl)⟩
            rw [hR]
            exact (ha _).imp fun ae ν hr => hr
          · refine ⟨.inr ?_, .inl (by kernel_rfl)⟩
            refine .inl ⟨rfl, rfl, ?_⟩
            rw [hR]
            simp (disch := omega) only [envAt, opAt, List.getD_cons_succ, List.getD_cons_zero, slOf, strCs, List.length_cons, List.length_nil, pushE, quietK, and_self, if_true, wv, simprocAttr, ev0, sl_cells, Nat.zero_add, Nat.reduceAdd]
          · refine ⟨.inr ?_, .inl (by kernel_rfl)⟩
            refine .inl ⟨rfl, rfl, ?_⟩
            rw [hR]
            simp (disch := omega) only [envAt, opAt, List.getD_cons_succ, List.getD_cons_zero, slOf, strCs, List.length_cons, List.length_nil, pushE, quietK, and_self, if_true, wv, simprocAttr, ev0, sl_cells, Nat.zero_add, Nat.reduceAdd]
          · refine ⟨.inr ?_, .inl (by kernel_rfl)⟩
            refine .inl ⟨rfl, rfl, ?_⟩
            rw [hR]
            simp (disch := omega) only [envAt, opAt, List.getD_cons_succ, List.getD_cons_zero, slOf, strCs, List.length_cons, List.length_nil, pushE, quietK, and_self, if_true, wv, simprocAttr, ev0, sl_cells, Nat.zero_add, Nat.reduceAdd]
          · refine ⟨.inr (.inr (.inr ⟨rfl, F.pile_amount, [.t 17], rfl, fun es => ?_⟩)), .inl (by kernel_rfl)⟩
            rw [hR]
            exact (hb _).imp fun ae ν hr => hr
          · refine ⟨.inr ?_, .inl (by kernel_rfl)⟩
            refine .inl ⟨rfl, rfl, ?_⟩
            rw [hR]
            simp (disch := omega) only [envAt, opAt, List.getD_cons_succ, List.getD_cons_zero, slOf, strCs, List.length_cons, List.length_nil, pushE, quietK, and_self, if_true, wv, simprocAttr, ev0, sl_cells, Nat.zero_add, Nat.reduceAdd]
          · refine ⟨.inr ?_, .inl (by kernel_rfl)⟩
            refine .inl ⟨rfl, rfl, ?_⟩
            rw [hR]
            simp (disch := omega) only [envAt, opAt, List.getD_cons_succ, List.getD_cons_zero, slOf, strCs, List.length_cons, List.length_nil, pushE, quietK, and_self, if_true, wv, simprocAttr, ev0, sl_cells, Nat.zero_add, Nat.reduceAdd]
        · refine ⟨rfl, ?_⟩
          rw [hR]
          simp (disch := omega) only [envAt, opAt, List.getD_cons_succ, List.getD_cons_zero, slOf, strCs, List.length_cons, List.length_nil, pushE, quietK, and_self, if_true, wv, simprocAttr, ev0, sl_cells, Nat.zero_add, Nat.reduceAdd]
          rfl
        · refine any_seq 13 16 (by kernel_rfl) ?_
          simp only [nt]
          rw [hR]
          simp only [envAt, opAt, List.getD_cons_succ, List.getD_cons_zero, pushE]
          repeat' (first | ((first | refine o1 rfl ?_ | refine o0 rfl ?_); intro k hk; simp (disch := omega) only [ev0, sl_cells, simprocAttr]; refine hk _ _ ?_; clear hk k) | refine ono rfl ?_ | ((first | refine osplitG rfl (fun h => ?_) (fun h => ?_) | refine osplitB rfl (fun h => ?_) (fun h => ?_)) <;> (fail_if_success (simp only [eq_self, reduceCtorEq] at h))) | refine onx ?_ | refine onb ?_ | refine sreg ?_ | refine qT rfl ?_ | refine qF rfl ?_ | refine scondT rfl ?_ | refine scondF rfl ?_ | refine ocondP rfl (fun h => ?_) (fun h => ?_) | refine ocondB rfl (fun h => ?_) (fun h => ?_) | refine scondP rfl (fun h => ?_) (fun h => ?_) | refine scond rfl (fun h => ?_) (fun h => ?_) | refine oskip ?_ | refine oskipb ?_ | refine oret ?_ | refine sem_ret ?_ | refine sem_seq ?_ | refine sreg1 ?_)
          refine onil ?_
          change AnyC _ _ _ _ _ 16 _
          refine any_end 16 rfl ?_
          exact ⟨_, rfl, rfl, rfl⟩
  · have hl2' : ((ws.length : Int) = 2) = False := eq_false (by omega)
    rw [hbad hl2]
    repeat' (first | ((first | refine o1 rfl ?_ | refine o0 rfl ?_); intro k hk; simp (disch := omega) only [ev0, sl_cells, simprocAttr, slOf, hl2', decide_false, Bool.not_false]; refine hk _ _ ?_; clear hk k) | refine ono rfl ?_ | ((first | refine osplitG rfl (fun h => ?_) (fun h => ?_) | refine osplitB rfl (fun h => ?_) (fun h => ?_)) <;> (fail_if_success (simp only [eq_self, reduceCtorEq] at h))) | refine onx ?_ | refine onb ?_ | refine sreg ?_ | refine qT rfl ?_ | refine qF rfl ?_ | refine scondT rfl ?_ | refine scondF rfl ?_ | refine ocondP rfl (fun h => ?_) (fun h => ?_) | refine ocondB rfl (fun h => ?_) (fun h => ?_) | refine scondP rfl (fun h => ?_) (fun h => ?_) | refine scond rfl (fun h => ?_) (fun h => ?_) | refine oskip ?_ | refine oskipb ?_ | refine oret ?_ | refine sem_ret ?_ | refine sem_seq ?_ | refine sreg1 ?_)
    refine semL_pan rfl rfl ?_
    exact ⟨⟨_, rfl⟩, rfl⟩
end Go.Proofs.YtojkchniefhafaaGreatDoor
