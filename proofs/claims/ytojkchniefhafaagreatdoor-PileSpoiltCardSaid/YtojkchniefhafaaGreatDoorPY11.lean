/- A text is read. -/
import Derived.Test.YtojkchniefhafaaGreatDoorPY9b
import Derived.Test.YtojkchniefhafaaGreatDoorPY10
set_option linter.unusedVariables false
set_option linter.unusedSimpArgs false
set_option linter.unusedSectionVars false
set_option maxRecDepth 8000
set_option maxHeartbeats 4000000
namespace Go.Tk
open Go Go.Av
/-- What reading gives: the levels of the book, or the fault that is thrown. -/
def readE (T : Bts) (ae : AEnd) : Prop := (∃ l p, validT T l p ∧ ae = .ret (slOf intsCs l)) ∨ ((∀ l p, ¬ validT T l p) ∧ wrongE ae)
end Go.Tk
namespace Go.Proofs.YtojkchniefhafaaGreatDoor
open Go Go.Av Go.Tk
attribute [local irreducible] Holds sem semL ACalls FnIs strB
variable {K : Ctx} (hP : K.P = Tryz.prog) (hGK : ∀ w w', K.G w → RowKit.Below w.heap.size w w' → K.G w') (hT : ∀ w, K.G w → GB w)
include hP hGK hT
theorem read_0 (T : Bts) (hl : T.length ≤ 20000) : ACalls K F.pile_read [.str (strB T)] [] fun ae ν => readE T ae ∧ ν = [] := by
  have hhead := fun ws h1 h2 y p M => head_3 hP hGK hT ws h1 h2 y p M
  have hyear := fun ws h1 h2 y p hp L hL M => year_3 hP hGK hT ws h1 h2 y p hp L hL M
  have hkind := kinds_2 hP hGK hT
  obtain ⟨P, w0, S0, G, hG0⟩ := K
  simp only at hP hGK hT
  subst hP
  have hcut := strings_CutSuffix hT T [10] (by omega)
  rw [← c10] at hcut
  refine ACalls.dropAny (acalls_of_sem fn_pile_read (by simp) fun D => ?_) fun ae ν hr => ?_
  rotate_left
  · obtain ⟨h, rfl⟩ := hr
    refine ⟨?_, rfl⟩
    rcases h with ⟨l, p, -, rfl⟩ | ⟨-, s, rfl⟩
    · exact ⟨_, .inl rfl, rfl⟩
    · exact ⟨_, .inr rfl, rfl⟩
  unfold c_pile_read cval enterEnv
  simp only [List.zipIdx_cons, List.zipIdx_nil, List.map_cons, List.map_nil, Nat.zero_add, Nat.reduceAdd]
  have hspl0 := fun s h => strings_Split hT s 10 h
  rw [← c10] at hspl0
  have hspw := fun s h => strings_Split hT s 32 h
  rw [← c32] at hspw
  cases hs : Lib.hasSuffix T [10] with
  | false =>
    have hno := suffix_no hs
    have htr : Lib.trimSuffix T [10] = T := by unfold Lib.trimSuffix; rw [if_neg (by rw [hs]; simp)]
    rw [hs, htr] at hcut
    have hspl := hspl0 T (by omega)
    repeat' (first | ((first | refine o1 rfl ?_ | refine o0 rfl ?_); intro k hk; simp (disch := omega) only [ev0, sl_cells, simprocAttr, slOf]; refine hk _ _ ?_; clear hk k) | refine ono rfl ?_ | (apply ocall; (case he => (simp only [ev0, sl_cells, simprocAttr] <;> rfl)); (case hc => first | exact hcut | exact hspl); (case ht => rfl); (case hg => rfl)) | ((first | refine osplitG rfl (fun h => ?_) (fun h => ?_) | refine osplitB rfl (fun h => ?_) (fun h => ?_)) <;> (fail_if_success (simp only [eq_self, reduceCtorEq] at h))) | refine onx ?_ | refine onb ?_ | refine sreg ?_ | refine qT rfl ?_ | refine qF rfl ?_ | refine scondT rfl ?_ | refine scondF rfl ?_ | refine ocondP rfl (fun h => ?_) (fun h => ?_) | refine ocondB rfl (fun h => ?_) (fun h => ?_) | refine scondP rfl (fun h => ?_) (fun h => ?_) | refine scond rfl (fun h => ?_) (fun h => ?_) | refine oskip ?_ | refine oskipb ?_ | refine oret ?_ | refine sem_ret ?_ | refine sem_seq ?_ | refine sreg1 ?_)
    refine semL_pan rfl rfl ?_
    exact ⟨⟨.inr ⟨hno, _, rfl⟩, rfl⟩, by simp⟩
  | true =>
    obtain ⟨body, hb, hb2⟩ := suffix_yes hs
    rw [hs, hb2] at hcut
    have hbl : body.length ≤ 20000 := by have := congrArg List.length hb; simp at this; omega
    have hspl := hspl0 body (by omega)
    have hfew := few_no hb
    have hword := fun i Y p L hr hi w r => bad_word hb (i := i) (Y := Y) (p := p) (L := L) hr hi (w := w) (r := r)
    have hbh := fun i Y p L hr hi w r => bad_head hb (i := i) (Y := Y) (p := p) (L := L) hr hi (w := w) (r := r)
    have hby := fun i Y p L hr hi w r => bad_year hb (i := i) (Y := Y) (p := p) (L := L) hr hi (w := w) (r := r)
    have hgh := fun i Y p L hr hi r A B => good_head hb (i := i) (Y := Y) (p := p) (L := L) hr hi (r := r) (A := A) (B := B)
    have hgy := fun i Y p L hr hi r row => good_year hb (i := i) (Y := Y) (p := p) (L := L) hr hi (r := r) (row := row)
    have hend := fun Y p L h2 hr => read_end (Y := Y) (p := p) (L := L) hb h2 hr (by omega)
    have hstart := read_start (splitL 10 body)
    have hwl := fun w (h : w ∈ splitL 10 body) => Nat.le_trans (split_word 10 body w h) hbl
    have hll := splitL_len 10 body
    generalize hls : splitL 10 body = ls at *
    by_cases hlen : ls.length < 2
    · have hlt : ((ls.length : Int) - 1 < 1) = True := eq_true (by omega)
      have hw0 : IntKind.i64.wrap ((ls.length : Int) - 1) = (ls.length : Int) - 1 := wrap_i64' (by omega)
      repeat' (first | ((first | refine o1 rfl ?_ | refine o0 rfl ?_); intro k hk; simp (disch := omega) only [ev0, sl_cells, simprocAttr, slOf, hlt, hw0]; refine hk _ _ ?_; clear hk k) | refine ono rfl ?_ | (apply ocall; (case he => (simp only [ev0, sl_cells, simprocAttr] <;> rfl)); (case hc => first | exact hcut | exact hspl); (case ht => rfl); (case hg => rfl)) | ((first | refine osplitG rfl (fun h => ?_) (fun h => ?_) | refine osplitB rfl (fun h => ?_) (fun h => ?_)) <;> (fail_if_success (simp only [eq_self, reduceCtorEq] at h))) | refine onx ?_ | refine onb ?_ | refine sreg ?_ | refine qT rfl ?_ | refine qF rfl ?_ | refine scondT rfl ?_ | refine scondF rfl ?_ | refine ocondP rfl (fun h => ?_) (fun h => ?_) | refine ocondB rfl (fun h => ?_) (fun h => ?_) | refine scondP rfl (fun h => ?_) (fun h => ?_) | refine scond rfl (fun h => ?_) (fun h => ?_) | refine oskip ?_ | refine oskipb ?_ | refine oret ?_ | refine sem_ret ?_ | refine sem_seq ?_ | refine sreg1 ?_)
      refine semL_pan rfl rfl ?_
      exact ⟨⟨.inr ⟨hfew hlen, _, rfl⟩, rfl⟩, by simp⟩
    · obtain ⟨m, hm⟩ : ∃ m, ls.length = m + 2 := ⟨ls.length - 2, by omega⟩
      have hlt : (((m + 2 : Nat) : Int) - 1 < 1) = False := eq_false (by omega)
      have hm1 : ((m + 2 : Nat) : Int) - 1 = ((m + 1 : Nat) : Int) := by omega
      have hw0 : IntKind.i64.wrap ((m + 1 : Nat) : Int) = ((m + 1 : Nat) : Int) := wrap_i64' (by omega)
      repeat' (first | ((first | refine o1 rfl ?_ | refine o0 rfl ?_); intro k hk; simp (disch := omega) only [ev0, sl_cells, simprocAttr, slOf, hm, hm1, hlt, hw0, Option.map_none, Option.map_some, range_all]; refine hk _ _ ?_; clear hk k) | refine ono rfl ?_ | (apply ocall; (case he => (simp only [ev0, sl_cells, simprocAttr] <;> rfl)); (case hc => first | exact hcut | exact hspl); (case ht => rfl); (case hg => rfl)) | ((first | refine osplitG rfl (fun h => ?_) (fun h => ?_) | refine osplitB rfl (fun h => ?_) (fun h => ?_)) <;> (fail_if_success (simp only [eq_self, reduceCtorEq] at h))) | refine onx ?_ | refine onb ?_ | refine sreg ?_ | refine qT rfl ?_ | refine qF rfl ?_ | refine scondT rfl ?_ | refine scondF rfl ?_ | refine ocondP rfl (fun h => ?_) (fun h => ?_) | refine ocondB rfl (fun h => ?_) (fun h => ?_) | refine scondP rfl (fun h => ?_) (fun h => ?_) | refine scond rfl (fun h => ?_) (fun h => ?_) | refine oskip ?_ | refine oskipb ?_ | refine oret ?_ | refine sem_ret ?_ | refine sem_seq ?_ | refine sreg1 ?_)
      refine sem_block ?_
      refine sem_ghostC 0 0 2 23 1 rfl rfl rfl ?_
      
      refine sem_loop (α := Nat × Nat × Nat × List (List Int)) (fun x => ⟨[(5, .sl (m + 2) fun i => strCs (ls.getD i default)), (6, I (m + 1 : Nat)), (7, .ptr 0 0 3 0 0), (33, .sl (m + 1) fun i => strCs (ls.getD i default)), (34, I (m + 1 : Nat)), (35, I x.1)], [.row 113 0 3 [[I x.2.1, I x.2.2.1, .hsl 1 x.2.2.2.length 1 x.2.2.2.length]], .row 23 x.2.2.2.length 1 (rowL intsCs x.2.2.2)]⟩)
        (fun x => x.1 ≤ m + 1 ∧ readT ls x.1 x.2.1 x.2.2.1 x.2.2.2 ∧ ∀ y, y < x.2.2.2.length → (x.2.2.2.getD y default).length ≤ 20000) (fun x => m + 1 - x.1) (0, 0, 0, []) ⟨Nat.zero_le _, hstart, fun y hy => absurd hy (Nat.not_lt_zero _)⟩ ?_ ?_
      · (refine Le.same ?_; simp only [List.forall_mem_cons, List.forall_mem_nil, getE, selE, Nat.reduceBEq, List.not_mem_nil, false_implies, implies_true, and_true, true_and, and_self])
        simp [slOf, rowL]
        try trace_state
      · rintro ⟨i, Y, p, L⟩ ⟨h1, h2, h3⟩
        simp only at h1 h2 h3
        repeat' (first | ((first | refine o1 rfl ?_ | refine o0 rfl ?_); intro k hk; simp (disch := omega) only [ev0, sl_cells, simprocAttr, slOf]; refine hk _ _ ?_; clear hk k) | refine ono rfl ?_ | ((first | refine osplitG rfl (fun h => ?_) (fun h => ?_) | refine osplitB rfl (fun h => ?_) (fun h => ?_)) <;> (fail_if_success (simp only [eq_self, reduceCtorEq] at h))) | refine onx ?_ | refine onb ?_ | refine sreg ?_ | refine qT rfl ?_ | refine qF rfl ?_ | refine scondT rfl ?_ | refine scondF rfl ?_ | refine ocondP rfl (fun h => ?_) (fun h => ?_) | refine ocondB rfl (fun h => ?_) (fun h => ?_) | refine scondP rfl (fun h => ?_) (fun h => ?_) | refine scond rfl (fun h => ?_) (fun h => ?_) | refine oskip ?_ | refine oskipb ?_ | refine oret ?_ | refine sem_ret ?_ | refine sem_seq ?_ | refine sreg1 ?_)
        · have hi : i < m + 1 := by omega
          have hwl1 := hwl (ls.getD i default) (by rw [getD_lt (by omega)]; exact List.getElem_mem _)
          have hsp := hspw (ls.getD i default) (by omega)
          have hsl := splitL_len 32 (ls.getD i default)
          have hsw := split_word 32 (ls.getD i default)
          obtain ⟨w0, r, hwr⟩ : ∃ w0 r, splitL 32 (ls.getD i default) = w0 :: r := by
            cases hc : splitL 32 (ls.getD i default) with
            | nil => exact absurd hc (split_ne 32 _)
            | cons w r => exact ⟨w, r, rfl⟩
          rw [hwr] at hsp hsl hsw
          have hbad := hword i Y p L h2 (by omega) w0 r hwr
          have hrw : ∀ w ∈ r, w.length ≤ 100000 := fun w hw => by have := hsw w (List.mem_cons_of_mem _ hw); omega
          have hrl : r.length ≤ 20000 := by rw [List.length_cons] at hsl; omega
          have hgr : ∀ i, (w0 :: r).getD (1 + i) default = r.getD i default := fun i => by rw [Nat.add_comm]; rfl
          generalize hv : ls.getD i default = v at *
          by_cases h0 : i = 0
          · subst h0
            obtain ⟨rfl, rfl, rfl⟩ := h2.zero rfl
            by_cases hw0 : w0 = headW
            · subst hw0
              have hcmp : (!(headW :: r).getD 0 default == headW) = false := rfl
              refine sem_block ?_
              repeat' (first | ((first | refine o1 rfl ?_ | refine o0 rfl ?_); intro k hk; simp (disch := omega) only [ev0, sl_cells, simprocAttr, slOf, hv, strCs, strB_toList, cHead, cYear, hcmp]; refine hk _ _ ?_; clear hk k) | refine ono rfl ?_ | (apply ocall; (case he => (simp only [ev0, sl_cells, simprocAttr] <;> rfl)); (case hc => first | exact hsp); (case ht => rfl); (case hg => rfl)) | ((first | refine osplitG rfl (fun h => ?_) (fun h => ?_) | refine osplitB rfl (fun h => ?_) (fun h => ?_)) <;> (fail_if_success (simp only [eq_self, reduceCtorEq] at h))) | refine onx ?_ | refine onb ?_ | refine sreg ?_ | refine qT rfl ?_ | refine qF rfl ?_ | refine scondT rfl ?_ | refine scondF rfl ?_ | refine ocondP rfl (fun h => ?_) (fun h => ?_) | refine ocondB rfl (fun h => ?_) (fun h => ?_) | refine scondP rfl (fun h => ?_) (fun h => ?_) | refine scond rfl (fun h => ?_) (fun h => ?_) | refine oskip ?_ | refine oskipb ?_ | refine oret ?_ | refine sem_ret ?_ | refine sem_seq ?_ | refine sreg1 ?_)
              obtain ⟨M, hM⟩ : ∃ M : List (AV × AV), M = [(.str (strB headW), .fn (.func F.pile_book_head) [] []), (.str (strB yearW), .fn (.func F.pile_book_year) [] [])] := ⟨_, rfl⟩
              obtain ⟨R, hR⟩ : ∃ R : Nat → AV, R = fun i' => ([.mp 2, .str (strB headW), .fn (.func F.pile_book_head) [] [], .sl (r.length + 1) (fun i => [.str (strB ((headW :: r).getD i default))]), slOf strCs r] : List AV).getD i' .dead := ⟨_, rfl⟩
              refine any_start hmix ?_
              refine any_effC (ν := bkR 0 0 [] ++ [.map M]) 5 0 [1, 2, 3, 4] R (f := F.pile_kinds) (args := []) (by kernel_rfl) (by omega) (by decide) ?_ ?_ ?_
              · simp only [List.forall_mem_cons, List.not_mem_nil, false_implies, implies_true, and_true]
                refine ⟨?_, ?_, ?_, ?_⟩
                · refine ⟨.inr ?_, .inr ?_⟩
                  all_goals
                    refine .inl ⟨rfl, rfl, ?_⟩
                    rw [hR]
                    rfl
                · refine ⟨.inl (by kernel_rfl), .inr ?_⟩
                  refine .inl ⟨rfl, rfl, ?_⟩
                  rw [hR, hM]
                  kernel_rfl
                · refine ⟨.inr ?_, .inr ?_⟩
                  all_goals
                    refine .inl ⟨rfl, rfl, ?_⟩
                    rw [hR]
                    rfl
                · refine ⟨.inr ?_, .inr ?_⟩
                  all_goals
                    refine .inl ⟨rfl, rfl, ?_⟩
                    rw [hR]
                    simp (disch := omega) only [envAt, opAt, List.getD_cons_succ, List.getD_cons_zero, slOf, strCs, List.length_cons, List.length_nil, pushE, quietK, and_self, if_true, wv, simprocAttr, ev0, sl_cells, Nat.zero_add, Nat.reduceAdd, Option.map_none, Option.map_some, range_all, hgr, Nat.add_sub_cancel]
              · refine ⟨rfl, ?_, ?_⟩
                · rw [hR]; rfl
                · rw [hR, hM]; exact hkind _ _
              · refine any_seq 5 6 (by kernel_rfl) ?_
                simp only [nt]
                rw [hR]
                simp only [envAt, opAt, List.getD_cons_succ, List.getD_cons_zero, pushE]
                refine semL_dyn rfl rfl (hhead r hrw (by omega) 0 0 M) fun ae ν hr => ?_
                cases hh : headOf r with
                | none =>
                  rw [hh] at hr
                  obtain ⟨⟨s, rfl⟩, rfl⟩ := hr
                  simp only [afterCall, blockQ, thenQ, loopQ, bodyD, anyQ]
                  exact ⟨⟨.inr ⟨hbh 0 0 0 [] h2 (by omega) _ _ rfl (by rw [hv]; exact hwr) hh, s, rfl⟩, rfl⟩, by simp⟩
                | some x =>
                  obtain ⟨A, B'⟩ := x
                  rw [hh] at hr
                  obtain ⟨rfl, rfl⟩ := hr
                  obtain ⟨Y', p', rfl, rfl, hnx⟩ := hgh 0 0 0 [] h2 (by omega) r A B' rfl (by rw [hv]; exact hwr) hh
                  simp only [afterCall]
                  refine onil ?_
                  change AnyC _ _ _ _ _ 6 _
                  refine any_end 6 rfl ?_
                  dsimp only
                  repeat' (first | ((first | refine o1 rfl ?_ | refine o0 rfl ?_); intro k hk; simp (disch := omega) only [ev0, sl_cells, simprocAttr]; refine hk _ _ ?_; clear hk k) | refine ono rfl ?_ | ((first | refine osplitG rfl (fun h => ?_) (fun h => ?_) | refine osplitB rfl (fun h => ?_) (fun h => ?_)) <;> (fail_if_success (simp only [eq_self, reduceCtorEq] at h))) | refine onx ?_ | refine onb ?_ | refine sreg ?_ | refine qT rfl ?_ | refine qF rfl ?_ | refine scondT rfl ?_ | refine scondF rfl ?_ | refine ocondP rfl (fun h => ?_) (fun h => ?_) | refine ocondB rfl (fun h => ?_) (fun h => ?_) | refine scondP rfl (fun h => ?_) (fun h => ?_) | refine scond rfl (fun h => ?_) (fun h => ?_) | refine oskip ?_ | refine oskipb ?_ | refine oret ?_ | refine sem_ret ?_ | refine sem_seq ?_ | refine sreg1 ?_)
                  refine onil (lnext (0 + 1, Y', p', []) ⟨by simp only; omega, hnx, fun y hy => absurd hy (Nat.not_lt_zero _)⟩ (by simp only; omega) ?_)
                  simp only
                  (refine Le.drop ?_ rfl (by simp) rfl (by simp only [refM, refO, List.all_cons, List.all_nil, Bool.and_true, Bool.true_and, rowL_all (enc := intsCs) (fun _ _ => rfl), refL, refA]; first | done | rfl) ; simp only [List.forall_mem_cons, List.forall_mem_nil, getE, selE, Nat.reduceBEq, List.not_mem_nil, false_implies, implies_true, and_true, true_and, and_self])
                  simp [slOf, rowL]
            · have hcmp : (!(w0 :: r).getD 0 default == headW) = true := by simp [hw0]
              refine sem_block ?_
              repeat' (first | ((first | refine o1 rfl ?_ | refine o0 rfl ?_); intro k hk; simp (disch := omega) only [ev0, sl_cells, simprocAttr, slOf, hv, strCs, strB_toList, cHead, cYear, hcmp]; refine hk _ _ ?_; clear hk k) | refine ono rfl ?_ | (apply ocall; (case he => (simp only [ev0, sl_cells, simprocAttr] <;> rfl)); (case hc => first | exact hsp); (case ht => rfl); (case hg => rfl)) | ((first | refine osplitG rfl (fun h => ?_) (fun h => ?_) | refine osplitB rfl (fun h => ?_) (fun h => ?_)) <;> (fail_if_success (simp only [eq_self, reduceCtorEq] at h))) | refine onx ?_ | refine onb ?_ | refine sreg ?_ | refine qT rfl ?_ | refine qF rfl ?_ | refine scondT rfl ?_ | refine scondF rfl ?_ | refine ocondP rfl (fun h => ?_) (fun h => ?_) | refine ocondB rfl (fun h => ?_) (fun h => ?_) | refine scondP rfl (fun h => ?_) (fun h => ?_) | refine scond rfl (fun h => ?_) (fun h => ?_) | refine oskip ?_ | refine oskipb ?_ | refine oret ?_ | refine sem_ret ?_ | refine sem_seq ?_ | refine sreg1 ?_)
              refine semL_pan rfl rfl ?_
              exact ⟨⟨.inr ⟨hbad hw0, _, rfl⟩, rfl⟩, by simp⟩
          · have hi0 : ((i : Int) = 0) = False := eq_false (by omega)
            by_cases hw0 : w0 = yearW
            · subst hw0
              have hcmp : (!(yearW :: r).getD 0 default == yearW) = false := rfl
              refine sem_block ?_
              repeat' (first | ((first | refine o1 rfl ?_ | refine o0 rfl ?_); intro k hk; simp (disch := omega) only [ev0, sl_cells, simprocAttr, slOf, hv, strCs, strB_toList, cHead, cYear, hi0, decide_false, hcmp]; refine hk _ _ ?_; clear hk k) | refine ono rfl ?_ | (apply ocall; (case he => (simp only [ev0, sl_cells, simprocAttr] <;> rfl)); (case hc => first | exact hsp); (case ht => rfl); (case hg => rfl)) | ((first | refine osplitG rfl (fun h => ?_) (fun h => ?_) | refine osplitB rfl (fun h => ?_) (fun h => ?_)) <;> (fail_if_success (simp only [eq_self, reduceCtorEq] at h))) | refine onx ?_ | refine onb ?_ | refine sreg ?_ | refine qT rfl ?_ | refine qF rfl ?_ | refine scondT rfl ?_ | refine scondF rfl ?_ | refine ocondP rfl (fun h => ?_) (fun h => ?_) | refine ocondB rfl (fun h => ?_) (fun h => ?_) | refine scondP rfl (fun h => ?_) (fun h => ?_) | refine scond rfl (fun h => ?_) (fun h => ?_) | refine oskip ?_ | refine oskipb ?_ | refine oret ?_ | refine sem_ret ?_ | refine sem_seq ?_ | refine sreg1 ?_)
              obtain ⟨M, hM⟩ : ∃ M : List (AV × AV), M = [(.str (strB headW), .fn (.func F.pile_book_head) [] []), (.str (strB yearW), .fn (.func F.pile_book_year) [] [])] := ⟨_, rfl⟩
              obtain ⟨R, hR⟩ : ∃ R : Nat → AV, R = fun i' => ([.mp 2, .str (strB yearW), .fn (.func F.pile_book_year) [] [], .sl (r.length + 1) (fun i => [.str (strB ((yearW :: r).getD i default))]), slOf strCs r] : List AV).getD i' .dead := ⟨_, rfl⟩
              refine any_start hmix ?_
              refine any_effC (ν := bkR Y p L ++ [.map M]) 5 0 [1, 2, 3, 4] R (f := F.pile_kinds) (args := []) (by kernel_rfl) (by omega) (by decide) ?_ ?_ ?_
              · simp only [List.forall_mem_cons, List.not_mem_nil, false_implies, implies_true, and_true]
                refine ⟨?_, ?_, ?_, ?_⟩
                · refine ⟨.inr ?_, .inr ?_⟩
                  all_goals
                    refine .inl ⟨rfl, rfl, ?_⟩
                    rw [hR]
                    rfl
                · refine ⟨.inl (by kernel_rfl), .inr ?_⟩
                  refine .inl ⟨rfl, rfl, ?_⟩
                  rw [hR, hM]
                  kernel_rfl
                · refine ⟨.inr ?_, .inr ?_⟩
                  all_goals
                    refine .inl ⟨rfl, rfl, ?_⟩
                    rw [hR]
                    rfl
                · refine ⟨.inr ?_, .inr ?_⟩
                  all_goals
                    refine .inl ⟨rfl, rfl, ?_⟩
                    rw [hR]
                    simp (disch := omega) only [envAt, opAt, List.getD_cons_succ, List.getD_cons_zero, slOf, strCs, List.length_cons, List.length_nil, pushE, quietK, and_self, if_true, wv, simprocAttr, ev0, sl_cells, Nat.zero_add, Nat.reduceAdd, Option.map_none, Option.map_some, range_all, hgr, Nat.add_sub_cancel]
              · refine ⟨rfl, ?_, ?_⟩
                · rw [hR]; rfl
                · rw [hR, hM]; exact hkind _ _
              · refine any_seq 5 6 (by kernel_rfl) ?_
                simp only [nt]
                rw [hR]
                simp only [envAt, opAt, List.getD_cons_succ, List.getD_cons_zero, pushE]
                have hLm := h2.len
                refine semL_dyn rfl rfl (hyear r hrw (by omega) Y p h2.hp L (by omega) M) fun ae ν hr => ?_
                cases hh : yearOf r p L.length with
                | none =>
                  rw [hh] at hr
                  obtain ⟨⟨s, rfl⟩, rfl⟩ := hr
                  simp only [afterCall, blockQ, thenQ, loopQ, bodyD, anyQ]
                  exact ⟨⟨.inr ⟨hby i Y p L h2 (by omega) _ _ (by omega) (by rw [hv]; exact hwr) hh, s, rfl⟩, rfl⟩, by simp⟩
                | some row =>
                  rw [hh] at hr
                  obtain ⟨rfl, rfl⟩ := hr
                  obtain ⟨hnx, hrow⟩ := hgy i Y p L h2 (by omega) r row (by omega) (by omega) (by rw [hv]; exact hwr) hh
                  simp only [afterCall]
                  refine onil ?_
                  change AnyC _ _ _ _ _ 6 _
                  refine any_end 6 rfl ?_
                  dsimp only
                  repeat' (first | ((first | refine o1 rfl ?_ | refine o0 rfl ?_); intro k hk; simp (disch := omega) only [ev0, sl_cells, simprocAttr]; refine hk _ _ ?_; clear hk k) | refine ono rfl ?_ | ((first | refine osplitG rfl (fun h => ?_) (fun h => ?_) | refine osplitB rfl (fun h => ?_) (fun h => ?_)) <;> (fail_if_success (simp only [eq_self, reduceCtorEq] at h))) | refine onx ?_ | refine onb ?_ | refine sreg ?_ | refine qT rfl ?_ | refine qF rfl ?_ | refine scondT rfl ?_ | refine scondF rfl ?_ | refine ocondP rfl (fun h => ?_) (fun h => ?_) | refine ocondB rfl (fun h => ?_) (fun h => ?_) | refine scondP rfl (fun h => ?_) (fun h => ?_) | refine scond rfl (fun h => ?_) (fun h => ?_) | refine oskip ?_ | refine oskipb ?_ | refine oret ?_ | refine sem_ret ?_ | refine sem_seq ?_ | refine sreg1 ?_)
                  refine onil (lnext (i + 1, Y, p, L ++ [row]) ⟨by simp only; omega, hnx, fun y hy => by
                    simp only at hy ⊢
                    rw [List.length_append, List.length_singleton] at hy
                    by_cases e : y < L.length
                    · rw [show (L ++ [row]).getD y default = L.getD y default by rw [getD_lt e, getD_lt (by simp; omega), List.getElem_append_left e]]; exact h3 y e
                    · have e2 : y = L.length := by omega
                      subst e2
                      rw [show (L ++ [row]).getD L.length default = row by rw [getD_lt (by simp), List.getElem_append_right (Nat.le_refl _)]; simp]; omega⟩ (by simp only; omega) ?_)
                  simp only
                  (refine Le.drop ?_ rfl (by simp) rfl (by simp only [refM, refO, List.all_cons, List.all_nil, Bool.and_true, Bool.true_and, rowL_all (enc := intsCs) (fun _ _ => rfl), refL, refA]; first | done | rfl) ; simp only [List.forall_mem_cons, List.forall_mem_nil, getE, selE, Nat.reduceBEq, List.not_mem_nil, false_implies, implies_true, and_true, true_and, and_self])
                  simp [slOf, rowL]
            · have hcmp : (!(w0 :: r).getD 0 default == yearW) = true := by simp [hw0]
              refine sem_block ?_
              repeat' (first | ((first | refine o1 rfl ?_ | refine o0 rfl ?_); intro k hk; simp (disch := omega) only [ev0, sl_cells, simprocAttr, slOf, hv, strCs, strB_toList, cHead, cYear, hi0, decide_false, hcmp]; refine hk _ _ ?_; clear hk k) | refine ono rfl ?_ | (apply ocall; (case he => (simp only [ev0, sl_cells, simprocAttr] <;> rfl)); (case hc => first | exact hsp); (case ht => rfl); (case hg => rfl)) | ((first | refine osplitG rfl (fun h => ?_) (fun h => ?_) | refine osplitB rfl (fun h => ?_) (fun h => ?_)) <;> (fail_if_success (simp only [eq_self, reduceCtorEq] at h))) | refine onx ?_ | refine onb ?_ | refine sreg ?_ | refine qT rfl ?_ | refine qF rfl ?_ | refine scondT rfl ?_ | refine scondF rfl ?_ | refine ocondP rfl (fun h => ?_) (fun h => ?_) | refine ocondB rfl (fun h => ?_) (fun h => ?_) | refine scondP rfl (fun h => ?_) (fun h => ?_) | refine scond rfl (fun h => ?_) (fun h => ?_) | refine oskip ?_ | refine oskipb ?_ | refine oret ?_ | refine sem_ret ?_ | refine sem_seq ?_ | refine sreg1 ?_)
              refine semL_pan rfl rfl ?_
              exact ⟨⟨.inr ⟨hbad (by unfold kindW; rw [if_neg h0]; exact hw0), _, rfl⟩, rfl⟩, by simp⟩
        · have hi : i = m + 1 := by omega
          subst hi
          have hLm := h2.len
          have hpe := pile_end hGK hT L (by omega) fun y hy => ⟨by have := h3 y hy; omega, (h2.row y hy).2.2⟩
          have hE := hend Y p L (by omega) (by rw [hm]; exact h2)
          rw [show L.length + 1 = m + 1 by omega] at hE
          have hwe := hwl (ls.getD (m + 1) default) (by rw [getD_lt (by omega)]; exact List.getElem_mem _)
          (refine sem_exit ?_; change sem _ _ _ _ _)
          refine sem_frzlist (enc := intsCs) (l := L) 1 rfl (fun _ => rfl) ?_
          simp only [frzE, frzM, frzO, frzA, frzL, List.map_cons, List.map_nil, List.set_cons_zero, List.set_cons_succ, Nat.reduceEqDiff, if_true, if_false, and_self, Nat.le_refl, reduceIte, frz_sl]
          by_cases hYL : Y = L.length
          · subst hYL
            by_cases hEq : ls.getD (m + 1) default = endV (sumB L)
            · have hwe2 : (endV (sumB L)).length ≤ 20000 := by rw [← hEq]; exact hwe
              have hcmp : (!(endV (sumB L) ++ [10] == endV (sumB L) ++ [10])) = false := by simp
              repeat' (first | ((first | refine o1 rfl ?_ | refine o0 rfl ?_); intro k hk; simp (disch := omega) only [ev0, sl_cells, simprocAttr]; refine hk _ _ ?_; clear hk k) | refine ono rfl ?_ | ((first | refine osplitG rfl (fun h => ?_) (fun h => ?_) | refine osplitB rfl (fun h => ?_) (fun h => ?_)) <;> (fail_if_success (simp only [eq_self, reduceCtorEq] at h))) | refine onx ?_ | refine onb ?_ | refine sreg ?_ | refine qT rfl ?_ | refine qF rfl ?_ | refine scondT rfl ?_ | refine scondF rfl ?_ | refine ocondP rfl (fun h => ?_) (fun h => ?_) | refine ocondB rfl (fun h => ?_) (fun h => ?_) | refine scondP rfl (fun h => ?_) (fun h => ?_) | refine scond rfl (fun h => ?_) (fun h => ?_) | refine oskip ?_ | refine oskipb ?_ | refine oret ?_ | refine sem_ret ?_ | refine sem_seq ?_ | refine sreg1 ?_)
              ((refine sem_mgo 15 hmix (by kernel_rfl) ?_; simp only [nt]); (repeat' (first | ((first | apply mop | apply mop0); (case hg => rfl); (case hq => rfl); intro k hk; simp (disch := omega) only [ev0, sl_cells, simprocAttr, slOf, strCs, hEq, strB_size, List.length_append, List.length_cons, List.length_nil, strB_app, c10, strB_toList, hcmp, decide_true, decide_false, Bool.not_true, Bool.not_false, eq_self, ne_eq, not_true_eq_false]; refine hk _ _ rfl ?_; clear hk k) | (apply mno; (case hg => rfl)) | (apply mcall; (case he => (simp only [ev0, sl_cells, simprocAttr] <;> rfl)); (case hc => first | exact hpe); (case ht => rfl); (case hg => rfl); (case hr => rfl)) | (apply mbox; (case hx => (simp only [wv, simprocAttr] <;> rfl)); (case hg => rfl); (case hall => rfl); (case hr => rfl); simp only [nm, Nat.reduceAdd]) | (apply mbldS; (case hb => (simp (disch := omega) only [ev0, sl_cells, simprocAttr] <;> rfl)); (case hg => rfl); (case hr => rfl); simp only [nm, Nat.reduceAdd]) | ((first | (apply msto (q := 0); (case hq => rfl)) | (apply msto (q := 1); (case hq => rfl)) | (apply msto (q := 2); (case hq => rfl)) | (apply msto (q := 3); (case hq => rfl))); (case hx => (simp only [wv, simprocAttr] <;> rfl)); (case haddr => (simp only [wv, simprocAttr] <;> rfl)); (case hg => rfl); (case hl1 => rfl); (case hl2 => rfl); (case hok => rfl); (case hr => rfl); simp only [nm, Nat.reduceAdd]) | (apply mnil; simp only [SlotR.fin, ns]) | (refine msplit rfl (fun h => ?_) (fun h => ?_) <;> simp only [h] <;> (try simp only [nb] at h)))) <;> (repeat' (first | ((first | refine o1 rfl ?_ | refine o0 rfl ?_); intro k hk; simp (disch := omega) only [ev0, sl_cells, simprocAttr, slOf, strCs, hEq, strB_size, List.length_append, List.length_cons, List.length_nil, strB_app, c10, strB_toList, hcmp, decide_true, decide_false, Bool.not_true, Bool.not_false, eq_self, ne_eq, not_true_eq_false]; refine hk _ _ ?_; clear hk k) | refine ono rfl ?_ | (apply ocall; (case he => (simp only [ev0, sl_cells, simprocAttr] <;> rfl)); (case hc => first | exact hpe); (case ht => rfl); (case hg => rfl)) | ((first | refine osplitG rfl (fun h => ?_) (fun h => ?_) | refine osplitB rfl (fun h => ?_) (fun h => ?_)) <;> (fail_if_success (simp only [eq_self, reduceCtorEq] at h))) | refine onx ?_ | refine onb ?_ | refine sreg ?_ | refine qT rfl ?_ | refine qF rfl ?_ | refine scondT rfl ?_ | refine scondF rfl ?_ | refine ocondP rfl (fun h => ?_) (fun h => ?_) | refine ocondB rfl (fun h => ?_) (fun h => ?_) | refine scondP rfl (fun h => ?_) (fun h => ?_) | refine scond rfl (fun h => ?_) (fun h => ?_) | refine oskip ?_ | refine oskipb ?_ | refine oret ?_ | refine sem_ret ?_ | refine sem_seq ?_ | refine sreg1 ?_)))
              exact ⟨_, rfl, ⟨.inl ⟨L, p, hE.1 ⟨rfl, hEq⟩, rfl⟩, rfl⟩, by simp⟩
            · have hcmp : (!(ls.getD (m + 1) default ++ [10] == endV (sumB L) ++ [10])) = true := by
                rw [Bool.not_eq_true', beq_eq_false_iff_ne]
                exact fun q => hEq (List.append_cancel_right q)
              repeat' (first | ((first | refine o1 rfl ?_ | refine o0 rfl ?_); intro k hk; simp (disch := omega) only [ev0, sl_cells, simprocAttr]; refine hk _ _ ?_; clear hk k) | refine ono rfl ?_ | ((first | refine osplitG rfl (fun h => ?_) (fun h => ?_) | refine osplitB rfl (fun h => ?_) (fun h => ?_)) <;> (fail_if_success (simp only [eq_self, reduceCtorEq] at h))) | refine onx ?_ | refine onb ?_ | refine sreg ?_ | refine qT rfl ?_ | refine qF rfl ?_ | refine scondT rfl ?_ | refine scondF rfl ?_ | refine ocondP rfl (fun h => ?_) (fun h => ?_) | refine ocondB rfl (fun h => ?_) (fun h => ?_) | refine scondP rfl (fun h => ?_) (fun h => ?_) | refine scond rfl (fun h => ?_) (fun h => ?_) | refine oskip ?_ | refine oskipb ?_ | refine oret ?_ | refine sem_ret ?_ | refine sem_seq ?_ | refine sreg1 ?_)
              ((refine sem_mgo 15 hmix (by kernel_rfl) ?_; simp only [nt]); (repeat' (first | ((first | apply mop | apply mop0); (case hg => rfl); (case hq => rfl); intro k hk; simp (disch := omega) only [ev0, sl_cells, simprocAttr, slOf, strCs, strB_size, List.length_append, List.length_cons, List.length_nil, strB_app, c10, strB_toList, hcmp, decide_true, decide_false, Bool.not_true, Bool.not_false, eq_self, ne_eq, not_true_eq_false]; refine hk _ _ rfl ?_; clear hk k) | (apply mno; (case hg => rfl)) | (apply mcall; (case he => (simp only [ev0, sl_cells, simprocAttr] <;> rfl)); (case hc => first | exact hpe); (case ht => rfl); (case hg => rfl); (case hr => rfl)) | (apply mbox; (case hx => (simp only [wv, simprocAttr] <;> rfl)); (case hg => rfl); (case hall => rfl); (case hr => rfl); simp only [nm, Nat.reduceAdd]) | (apply mbldS; (case hb => (simp (disch := omega) only [ev0, sl_cells, simprocAttr] <;> rfl)); (case hg => rfl); (case hr => rfl); simp only [nm, Nat.reduceAdd]) | ((first | (apply msto (q := 0); (case hq => rfl)) | (apply msto (q := 1); (case hq => rfl)) | (apply msto (q := 2); (case hq => rfl)) | (apply msto (q := 3); (case hq => rfl))); (case hx => (simp only [wv, simprocAttr] <;> rfl)); (case haddr => (simp only [wv, simprocAttr] <;> rfl)); (case hg => rfl); (case hl1 => rfl); (case hl2 => rfl); (case hok => rfl); (case hr => rfl); simp only [nm, Nat.reduceAdd]) | (apply mnil; simp only [SlotR.fin, ns]) | (refine msplit rfl (fun h => ?_) (fun h => ?_) <;> simp only [h] <;> (try simp only [nb] at h)))) <;> (repeat' (first | ((first | refine o1 rfl ?_ | refine o0 rfl ?_); intro k hk; simp (disch := omega) only [ev0, sl_cells, simprocAttr, slOf, strCs, strB_size, List.length_append, List.length_cons, List.length_nil, strB_app, c10, strB_toList, hcmp, decide_true, decide_false, Bool.not_true, Bool.not_false, eq_self, ne_eq, not_true_eq_false]; refine hk _ _ ?_; clear hk k) | refine ono rfl ?_ | (apply ocall; (case he => (simp only [ev0, sl_cells, simprocAttr] <;> rfl)); (case hc => first | exact hpe); (case ht => rfl); (case hg => rfl)) | ((first | refine osplitG rfl (fun h => ?_) (fun h => ?_) | refine osplitB rfl (fun h => ?_) (fun h => ?_)) <;> (fail_if_success (simp only [eq_self, reduceCtorEq] at h))) | refine onx ?_ | refine onb ?_ | refine sreg ?_ | refine qT rfl ?_ | refine qF rfl ?_ | refine scondT rfl ?_ | refine scondF rfl ?_ | refine ocondP rfl (fun h => ?_) (fun h => ?_) | refine ocondB rfl (fun h => ?_) (fun h => ?_) | refine scondP rfl (fun h => ?_) (fun h => ?_) | refine scond rfl (fun h => ?_) (fun h => ?_) | refine oskip ?_ | refine oskipb ?_ | refine oret ?_ | refine sem_ret ?_ | refine sem_seq ?_ | refine sreg1 ?_)))
              refine semL_pan rfl rfl ?_
              exact ⟨⟨.inr ⟨hE.2 fun q => hEq q.2, _, rfl⟩, rfl⟩, by simp⟩
          · have hYL' : ((L.length : Int) = (Y : Int)) = False := eq_false (by omega)
            repeat' (first | ((first | refine o1 rfl ?_ | refine o0 rfl ?_); intro k hk; simp (disch := omega) only [ev0, sl_cells, simprocAttr]; refine hk _ _ ?_; clear hk k) | refine ono rfl ?_ | ((first | refine osplitG rfl (fun h => ?_) (fun h => ?_) | refine osplitB rfl (fun h => ?_) (fun h => ?_)) <;> (fail_if_success (simp only [eq_self, reduceCtorEq] at h))) | refine onx ?_ | refine onb ?_ | refine sreg ?_ | refine qT rfl ?_ | refine qF rfl ?_ | refine scondT rfl ?_ | refine scondF rfl ?_ | refine ocondP rfl (fun h => ?_) (fun h => ?_) | refine ocondB rfl (fun h => ?_) (fun h => ?_) | refine scondP rfl (fun h => ?_) (fun h => ?_) | refine scond rfl (fun h => ?_) (fun h => ?_) | refine oskip ?_ | refine oskipb ?_ | refine oret ?_ | refine sem_ret ?_ | refine sem_seq ?_ | refine sreg1 ?_)
            ((refine sem_mgo 15 hmix (by kernel_rfl) ?_; simp only [nt]); (repeat' (first | ((first | apply mop | apply mop0); (case hg => rfl); (case hq => rfl); intro k hk; simp (disch := omega) only [ev0, sl_cells, simprocAttr, slOf, strCs, hYL', decide_true, decide_false, Bool.not_true, Bool.not_false, ne_eq, not_false_eq_true]; refine hk _ _ rfl ?_; clear hk k) | (apply mno; (case hg => rfl)) | (apply mcall; (case he => (simp only [ev0, sl_cells, simprocAttr] <;> rfl)); (case hc => first | exact hpe); (case ht => rfl); (case hg => rfl); (case hr => rfl)) | (apply mbox; (case hx => (simp only [wv, simprocAttr] <;> rfl)); (case hg => rfl); (case hall => rfl); (case hr => rfl); simp only [nm, Nat.reduceAdd]) | (apply mbldS; (case hb => (simp (disch := omega) only [ev0, sl_cells, simprocAttr] <;> rfl)); (case hg => rfl); (case hr => rfl); simp only [nm, Nat.reduceAdd]) | ((first | (apply msto (q := 0); (case hq => rfl)) | (apply msto (q := 1); (case hq => rfl)) | (apply msto (q := 2); (case hq => rfl)) | (apply msto (q := 3); (case hq => rfl))); (case hx => (simp only [wv, simprocAttr] <;> rfl)); (case haddr => (simp only [wv, simprocAttr] <;> rfl)); (case hg => rfl); (case hl1 => rfl); (case hl2 => rfl); (case hok => rfl); (case hr => rfl); simp only [nm, Nat.reduceAdd]) | (apply mnil; simp only [SlotR.fin, ns]) | (refine msplit rfl (fun h => ?_) (fun h => ?_) <;> simp only [h] <;> (try simp only [nb] at h)))) <;> (repeat' (first | ((first | refine o1 rfl ?_ | refine o0 rfl ?_); intro k hk; simp (disch := omega) only [ev0, sl_cells, simprocAttr, slOf, strCs, hYL', decide_true, decide_false, Bool.not_true, Bool.not_false, ne_eq, not_false_eq_true]; refine hk _ _ ?_; clear hk k) | refine ono rfl ?_ | (apply ocall; (case he => (simp only [ev0, sl_cells, simprocAttr] <;> rfl)); (case hc => first | exact hpe); (case ht => rfl); (case hg => rfl)) | ((first | refine osplitG rfl (fun h => ?_) (fun h => ?_) | refine osplitB rfl (fun h => ?_) (fun h => ?_)) <;> (fail_if_success (simp only [eq_self, reduceCtorEq] at h))) | refine onx ?_ | refine onb ?_ | refine sreg ?_ | refine qT rfl ?_ | refine qF rfl ?_ | refine scondT rfl ?_ | refine scondF rfl ?_ | refine ocondP rfl (fun h => ?_) (fun h => ?_) | refine ocondB rfl (fun h => ?_) (fun h => ?_) | refine scondP rfl (fun h => ?_) (fun h => ?_) | refine scond rfl (fun h => ?_) (fun h => ?_) | refine oskip ?_ | refine oskipb ?_ | refine oret ?_ | refine sem_ret ?_ | refine sem_seq ?_ | refine sreg1 ?_)))
            refine semL_pan rfl rfl ?_
            exact ⟨⟨.inr ⟨hE.2 fun q => hYL q.1, _, rfl⟩, rfl⟩, by simp⟩
end Go.Proofs.YtojkchniefhafaaGreatDoor
