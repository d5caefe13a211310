/- The first line of a book, and the line of a year, as they are read. -/
import Derived.Test.YtojkchniefhafaaGreatDoorPY6
import Derived.Test.YtojkchniefhafaaGreatDoorPAv40
set_option linter.unusedVariables false
set_option linter.unusedSimpArgs false
set_option linter.unusedSectionVars false
set_option maxRecDepth 8000
set_option maxHeartbeats 4000000
namespace Go.Tk
open Go Go.Av
def amtOf (w : Bts) : Option Int := match numOf w with
  | some n => if n < 0 then none else some n
  | none => none
theorem amt_some {w : Bts} {n : Int} : amtOf w = some n ↔ numOf w = some n ∧ 0 ≤ n := by
  unfold amtOf
  cases h : numOf w with
  | none => simp
  | some m =>
    dsimp only
    by_cases c : m < 0
    · rw [if_pos c]
      constructor
      · intro q; cases q
      · rintro ⟨q, g⟩; cases q; omega
    · rw [if_neg c]
      constructor
      · intro q; cases q; exact ⟨rfl, by omega⟩
      · rintro ⟨q, g⟩; exact q
def headOf : List Bts → Option (Int × Int)
  | [a, b] => match amtOf a, amtOf b with
    | some A, some B => some (A, B)
    | _, _ => none
  | _ => none
def numsOf : List Bts → Option (List Int)
  | [] => some []
  | w :: ws => match numOf w, numsOf ws with
    | some n, some ns => some (n :: ns)
    | _, _ => none
theorem nums_snoc {r : List Bts} {i : Nat} {N : List Int} {v : Int} (hi : i < r.length) (h : numsOf (r.take i) = some N) (hv : numOf (r.getD i default) = some v) : numsOf (r.take (i + 1)) = some (N ++ [v]) := by
  have key : ∀ (a : List Bts) (N : List Int) (w : Bts), numsOf a = some N → numOf w = some v → numsOf (a ++ [w]) = some (N ++ [v]) := fun a => by
    induction a with
    | nil =>
      intro N w h1 h2
      cases h1
      simp only [List.nil_append, numsOf, h2]
    | cons x a ih =>
      intro N w h1 h2
      simp only [numsOf] at h1
      cases hx : numOf x with
      | none => rw [hx] at h1; cases h1
      | some n =>
        cases ha : numsOf a with
        | none => rw [hx, ha] at h1; cases h1
        | some ns =>
          rw [hx, ha] at h1
          cases h1
          simp only [List.cons_append, numsOf, hx, ih ns w ha h2]
  rw [take_snoc hi]
  exact key _ _ _ h hv
theorem nums_none : ∀ {r : List Bts} {i : Nat}, i < r.length → numOf (r.getD i default) = none → numsOf r = none
  | x :: r, 0, _, h => by
    have h' : numOf x = none := h
    simp only [numsOf, h']
  | x :: r, i + 1, hi, h => by
    have ih := nums_none (r := r) (i := i) (by simpa using hi) h
    simp only [numsOf, ih]
    cases numOf x <;> rfl
/-- The levels that the line of a year says. -/
def yearOf (ws : List Bts) (p y : Nat) : Option (List Int) := if ws.length = p + 1 then (match ws with
  | w :: r => if amtOf w = some (y : Int) then numsOf r else none
  | [] => none) else none
/-- A book that is read. -/
abbrev bkM (y p : Int) (L : AV) : AObj := .row 113 0 3 [[I y, I p, L]]
end Go.Tk
namespace Go.Proofs.YtojkchniefhafaaGreatDoor
open Go Go.Av Go.Tk
attribute [local irreducible] Holds sem semL ACalls FnIs strB
variable {K : Ctx} (hP : K.P = Tryz.prog) (hGK : ∀ w w', K.G w → RowKit.Below w.heap.size w w' → K.G w') (hT : ∀ w, K.G w → GB w)
include hP hGK hT
theorem amount_at (w : Bts) (hw : w.length ≤ 100000) (μ : List AObj) : ACalls K F.pile_amount [.str (strB w)] μ fun ae ν => (match amtOf w with | some n => ae = .ret (I n) | none => wrongE ae) ∧ ν = μ := by
  have h := amount_0 hP hGK hT w hw
  refine (h.beside (fun g ae hr => ?_) rfl rfl μ).imp fun ae ν hr => ?_
  · unfold amtE at *
    cases hn : numOf w with
    | none => rw [hn] at hr; exact hr.ren g
    | some n =>
      rw [hn] at hr
      dsimp only at hr ⊢
      split at hr
      · rename_i c; rw [if_pos c]; exact hr.ren g
      · rename_i c; rw [if_neg c]; rw [hr]; rfl
  · refine ⟨?_, hr.2⟩
    have h1 := hr.1
    unfold amtE at h1
    unfold amtOf
    cases hn : numOf w with
    | none => rw [hn] at h1; exact h1
    | some n =>
      rw [hn] at h1
      dsimp only at h1 ⊢
      by_cases c : n < 0
      · rw [if_pos c] at h1 ⊢; exact h1
      · rw [if_neg c] at h1 ⊢; exact h1
theorem number_at (w : Bts) (hw : w.length ≤ 100000) (μ : List AObj) : ACalls K F.pile_number [.str (strB w)] μ fun ae ν => numE w ae ∧ ν = μ :=
  (number_0 hP hGK hT w hw).beside (fun g ae hr => hr.ren g) rfl rfl μ
theorem year_1 (ws : List Bts) (hw : ∀ w ∈ ws, w.length ≤ 100000) (hl : ws.length ≤ 100000) (y p : Nat) (hp : p ≤ 999999999) (L : List (List Int)) (hL : L.length ≤ 100000) : ACalls K F.pile_book_year [.ptr 0 0 3 0 0, slOf strCs ws] [.row 113 0 3 [[I y, I p, .hsl 1 L.length 1 L.length]], .row 23 L.length 1 (rowL intsCs L)] fun ae ν => match yearOf ws p L.length with
    | some row => ae = .ret (.tup []) ∧ ν = [.row 113 0 3 [[I y, I p, .hsl 1 (L ++ [row]).length 1 (L ++ [row]).length]], .row 23 (L ++ [row]).length 1 (rowL intsCs (L ++ [row]))]
    | none => wrongE ae ∧ ν = [.row 113 0 3 [[I y, I p, .hsl 1 L.length 1 L.length]], .row 23 L.length 1 (rowL intsCs L)] := by
  have ham := fun w (h : w ∈ ws) μ => amount_at hP hGK hT w (hw w h) μ
  have hnu := fun w (h : w ∈ ws) μ => number_at hP hGK hT w (hw w h) μ
  obtain ⟨P, w0, S0, G, hG0⟩ := K
  simp only at hP hGK hT
  subst hP
  refine ACalls.dropAny (acalls_of_sem fn_pile_book_year (by simp) fun D => ?_) fun ae ν hr => ?_
  rotate_left
  · have h1 : ∀ M : List (List Int), (rowL intsCs M).all (refL 2) = true := fun M => rowL_all (enc := intsCs) fun _ _ => rfl
    cases hy : yearOf ws p L.length with
    | some row =>
      rw [hy] at hr
      obtain ⟨rfl, rfl⟩ := hr
      exact ⟨⟨_, .inl rfl, rfl⟩, by simp [refM, refO, refA, refL, h1]⟩
    | none =>
      rw [hy] at hr
      obtain ⟨⟨s, rfl⟩, rfl⟩ := hr
      exact ⟨⟨_, .inr rfl, rfl⟩, by simp [refM, refO, refA, refL, h1]⟩
  unfold c_pile_book_year cval enterEnv
  simp only [List.zipIdx_cons, List.zipIdx_nil, List.map_cons, List.map_nil, Nat.zero_add, Nat.reduceAdd]
  by_cases hl2 : ws.length = p + 1
  · cases ws with
    | nil => simp at hl2
    | cons w r =>
    rw [List.length_cons] at hl2 hl
    have hrp : r.length = p := by omega
    have hl2' : (((r.length + 1 : Nat) : Int) = (p : Int) + 1) = True := eq_true (by omega)
    have hl3' : ((r.length : Int) + 1 = (p : Int) + 1) = True := eq_true (by omega)
    have hlc : ((r.length + 1 : Nat) : Int) = (r.length : Int) + 1 := rfl
    have ha := ham w List.mem_cons_self
    have hyo : yearOf (w :: r) p L.length = if amtOf w = some (L.length : Int) then numsOf r else none := by
      unfold yearOf
      rw [if_pos (by simp; omega)]
    rw [hyo]
    repeat' (first | ((first | refine o1 rfl ?_ | refine o0 rfl ?_); intro k hk; simp (disch := omega) only [ev0, sl_cells, simprocAttr]; refine hk _ _ ?_; clear hk k) | refine ono rfl ?_ | ((first | refine osplitG rfl (fun h => ?_) (fun h => ?_) | refine osplitB rfl (fun h => ?_) (fun h => ?_)) <;> (fail_if_success (simp only [eq_self, reduceCtorEq] at h))) | refine onx ?_ | refine onb ?_ | refine sreg ?_ | refine qT rfl ?_ | refine qF rfl ?_ | refine scondT rfl ?_ | refine scondF rfl ?_ | refine ocondP rfl (fun h => ?_) (fun h => ?_) | refine ocondB rfl (fun h => ?_) (fun h => ?_) | refine scondP rfl (fun h => ?_) (fun h => ?_) | refine scond rfl (fun h => ?_) (fun h => ?_) | refine oskip ?_ | refine oskipb ?_ | refine oret ?_ | refine sem_ret ?_ | refine sem_seq ?_ | refine sreg1 ?_)
    cases hA : amtOf w with
    | none =>
      rw [hA] at ha
      rw [if_neg (by simp)]
      obtain ⟨R, hR⟩ : ∃ R : Nat → AV, R = fun i' => ([slOf strCs (w :: r), I ((r.length + 1 : Nat) : Int), .ptr 0 0 3 0 0, .ptr 0 0 3 0 0, .ptr 0 0 3 0 1, I p, I ((p : Int) + 1), B false, B false, slOf strCs (w :: r), .tptr [.str (strB w)] 0, .str (strB w), .dead, .ptr 0 0 3 0 0, .ptr 0 0 3 0 0, .ptr 0 0 3 0 2, .hsl 1 L.length 1 L.length, I L.length] : List AV).getD i' .dead := ⟨_, rfl⟩
      refine any_start hmix ?_
      refine any_die 20 12 [0, 1, 2, 3, 4, 5, 6, 7, 8, 9, 10, 11, 13, 14, 15, 16, 17] R (by kernel_rfl) (by omega) (by decide) ?_ (f := F.pile_amount) (args := [.str (strB w)]) ?_ ?_ ((ha _).imp fun ae ν hr => ?_)
      · simp only [List.forall_mem_cons, List.not_mem_nil, false_implies, implies_true, and_true]
        refine ⟨?_, ?_, ?_, ?_, ?_, ?_, ?_, ?_, ?_, ?_, ?_, ?_, ?_, ?_, ?_, ?_, ?_⟩
        all_goals
          refine .inl ⟨by rw [hR]; rfl, rfl, ?_⟩
          rw [hR]
          simp (disch := omega) only [envAt, opAt, List.getD_cons_succ, List.getD_cons_zero, slOf, strCs, List.length_cons, List.length_nil, pushE, quietK, and_self, if_true, wv, simprocAttr, ev0, sl_cells, Nat.zero_add, Nat.reduceAdd, hl2', decide_true, Bool.not_true, hl3']
      · rw [hR]; rfl
      · rw [hR]; rfl
      · obtain ⟨⟨s, rfl⟩, rfl⟩ := hr
        exact ⟨_, rfl, ⟨⟨s, rfl⟩, rfl⟩, by simp⟩
    | some A =>
      rw [hA] at ha
      refine any_start hmix (any_win 0 20 (by kernel_rfl) ?_)
      simp only [List.take_succ_cons, List.take_zero, List.drop_succ_cons, List.drop_zero, List.take_nil, List.drop_nil]
      repeat' (first | ((first | apply mop | apply mop0); (case hg => rfl); (case hq => rfl); intro k hk; simp (disch := omega) only [ev0, sl_cells, simprocAttr, slOf, hl2', hl3', decide_true, Bool.not_true, List.length_cons, List.length_nil]; refine hk _ _ rfl ?_; clear hk k) | (apply mno; (case hg => rfl)) | (apply mbox; (case hx => (simp only [wv, simprocAttr] <;> rfl)); (case hg => rfl); (case hall => rfl); (case hr => rfl); simp only [nm, Nat.reduceAdd]) | (apply mbldS; (case hb => (simp (disch := omega) only [ev0, sl_cells, simprocAttr] <;> rfl)); (case hg => rfl); (case hr => rfl); simp only [nm, Nat.reduceAdd]) | ((first | (apply msto (q := 0); (case hq => rfl)) | (apply msto (q := 1); (case hq => rfl)) | (apply msto (q := 2); (case hq => rfl)) | (apply msto (q := 3); (case hq => rfl))); (case hx => (simp only [wv, simprocAttr] <;> rfl)); (case haddr => (simp only [wv, simprocAttr] <;> rfl)); (case hg => rfl); (case hl1 => rfl); (case hl2 => rfl); (case hok => rfl); (case hr => rfl); simp only [nm, Nat.reduceAdd]) | (apply mnil; simp only [SlotR.fin, ns]) | (refine msplit rfl (fun h => ?_) (fun h => ?_) <;> simp only [h] <;> (try simp only [nb] at h)))
      refine mcallA (aa := [.str (strB w)]) (x := I A) rfl (fun es => (ha _).imp fun ae ν hr => hr) rfl rfl ?_
      by_cases hAL : A = (L.length : Int)
      · subst hAL
        rw [if_pos rfl]
        repeat' (first | ((first | apply mop | apply mop0); (case hg => rfl); (case hq => rfl); intro k hk; simp (disch := omega) only [ev0, sl_cells, simprocAttr, slOf, eq_self, decide_true, Bool.not_true]; refine hk _ _ rfl ?_; clear hk k) | (apply mno; (case hg => rfl)) | (apply mbox; (case hx => (simp only [wv, simprocAttr] <;> rfl)); (case hg => rfl); (case hall => rfl); (case hr => rfl); simp only [nm, Nat.reduceAdd]) | (apply mbldS; (case hb => (simp (disch := omega) only [ev0, sl_cells, simprocAttr] <;> rfl)); (case hg => rfl); (case hr => rfl); simp only [nm, Nat.reduceAdd]) | ((first | (apply msto (q := 0); (case hq => rfl)) | (apply msto (q := 1); (case hq => rfl)) | (apply msto (q := 2); (case hq => rfl)) | (apply msto (q := 3); (case hq => rfl))); (case hx => (simp only [wv, simprocAttr] <;> rfl)); (case haddr => (simp only [wv, simprocAttr] <;> rfl)); (case hg => rfl); (case hl1 => rfl); (case hl2 => rfl); (case hok => rfl); (case hr => rfl); simp only [nm, Nat.reduceAdd]) | (apply mnil; simp only [SlotR.fin, ns]) | (refine msplit rfl (fun h => ?_) (fun h => ?_) <;> simp only [h] <;> (try simp only [nb] at h)))
        refine mnilC (any_end 20 rfl ?_)
        simp only [List.map_nil, List.append_nil]
        change sem _ _ _ _ _
        have hgr : ∀ i, (w :: r).getD (1 + i) default = r.getD i default := fun i => by rw [Nat.add_comm]; rfl
        repeat' (first | ((first | refine o1 rfl ?_ | refine o0 rfl ?_); intro k hk; simp (disch := omega) only [ev0, sl_cells, simprocAttr, slOf, List.length_cons, List.length_nil, hgr, Option.map_none, Option.map_some, range_all, Nat.add_sub_cancel, eq_self, decide_true]; refine hk _ _ ?_; clear hk k) | refine ono rfl ?_ | ((first | refine osplitG rfl (fun h => ?_) (fun h => ?_) | refine osplitB rfl (fun h => ?_) (fun h => ?_)) <;> (fail_if_success (simp only [eq_self, reduceCtorEq] at h))) | refine onx ?_ | refine onb ?_ | refine sreg ?_ | refine qT rfl ?_ | refine qF rfl ?_ | refine scondT rfl ?_ | refine scondF rfl ?_ | refine ocondP rfl (fun h => ?_) (fun h => ?_) | refine ocondB rfl (fun h => ?_) (fun h => ?_) | refine scondP rfl (fun h => ?_) (fun h => ?_) | refine scond rfl (fun h => ?_) (fun h => ?_) | refine oskip ?_ | refine oskipb ?_ | refine oret ?_ | refine sem_ret ?_ | refine sem_seq ?_ | refine sreg1 ?_)
        have hnur := fun i (hi : i < r.length) μ => hnu (r.getD i default) (List.mem_cons_of_mem _ (by rw [getD_lt hi]; exact List.getElem_mem _)) μ
        have hsn := fun i (hi : i < r.length) N v => nums_snoc (r := r) (i := i) (N := N) (v := v) hi
        have hnn := fun i (hi : i < r.length) => nums_none (r := r) (i := i) hi
        refine sem_block ?_
        (refine sem_ghost 4 3 1 rfl ?_; simp only [List.length_cons, List.length_nil, Nat.reduceAdd, Nat.zero_add, List.cons_append, List.nil_append])
        
        refine sem_loop (α := Nat × List Int) (fun x => ⟨[(0, .ptr 0 0 3 0 0), (4, .hsl 2 x.2.length 1 x.2.length), (30, slOf strCs r), (31, I r.length), (32, I x.1)], [.row 113 0 3 [[I y, I p, .hsl 1 L.length 1 L.length]], .row 23 L.length 1 (rowL intsCs L), .row 3 x.2.length 1 (rowL intCs x.2)]⟩) (fun x => x.1 ≤ r.length ∧ numsOf (r.take x.1) = some x.2 ∧ x.2.length ≤ x.1) (fun x => r.length - x.1) (0, []) ⟨Nat.zero_le _, rfl, Nat.le_refl _⟩ ?_ ?_
        · (refine Le.same ?_; simp only [List.forall_mem_cons, List.forall_mem_nil, getE, selE, Nat.reduceBEq, List.not_mem_nil, false_implies, implies_true, and_true, true_and, and_self])
          simp [slOf]
        · rintro ⟨i, N⟩ ⟨h1, h2, h3⟩
          simp only at h1 h2 h3
          repeat' (first | ((first | refine o1 rfl ?_ | refine o0 rfl ?_); intro k hk; simp (disch := omega) only [ev0, sl_cells, simprocAttr, slOf]; refine hk _ _ ?_; clear hk k) | refine ono rfl ?_ | ((first | refine osplitG rfl (fun h => ?_) (fun h => ?_) | refine osplitB rfl (fun h => ?_) (fun h => ?_)) <;> (fail_if_success (simp only [eq_self, reduceCtorEq] at h))) | refine onx ?_ | refine onb ?_ | refine sreg ?_ | refine qT rfl ?_ | refine qF rfl ?_ | refine scondT rfl ?_ | refine scondF rfl ?_ | refine ocondP rfl (fun h => ?_) (fun h => ?_) | refine ocondB rfl (fun h => ?_) (fun h => ?_) | refine scondP rfl (fun h => ?_) (fun h => ?_) | refine scond rfl (fun h => ?_) (fun h => ?_) | refine oskip ?_ | refine oskipb ?_ | refine oret ?_ | refine sem_ret ?_ | refine sem_seq ?_ | refine sreg1 ?_)
          · have hi : i < r.length := by omega
            have hni := hnur i hi
            have hsi := hsn i hi N
            have hnni := hnn i hi
            have e1 := rowL_take (enc := intCs) (l := N)
            generalize hv : r.getD i default = v at *
            refine sem_block ?_
            repeat' (first | ((first | refine o1 rfl ?_ | refine o0 rfl ?_); intro k hk; simp (disch := omega) only [ev0, sl_cells, simprocAttr, slOf, strCs, hv]; refine hk _ _ ?_; clear hk k) | refine ono rfl ?_ | ((first | refine osplitG rfl (fun h => ?_) (fun h => ?_) | refine osplitB rfl (fun h => ?_) (fun h => ?_)) <;> (fail_if_success (simp only [eq_self, reduceCtorEq] at h))) | refine onx ?_ | refine onb ?_ | refine sreg ?_ | refine qT rfl ?_ | refine qF rfl ?_ | refine scondT rfl ?_ | refine scondF rfl ?_ | refine ocondP rfl (fun h => ?_) (fun h => ?_) | refine ocondB rfl (fun h => ?_) (fun h => ?_) | refine scondP rfl (fun h => ?_) (fun h => ?_) | refine scond rfl (fun h => ?_) (fun h => ?_) | refine oskip ?_ | refine oskipb ?_ | refine oret ?_ | refine sem_ret ?_ | refine sem_seq ?_ | refine sreg1 ?_)
            refine semL_acall rfl (by exact hni _) fun ae μ hr => ?_
            obtain ⟨hr, rfl⟩ := hr
            unfold numE at hr
            cases hno : numOf v with
            | none =>
              rw [hno] at hr
              obtain ⟨s, rfl⟩ := hr
              rw [hnni hno]
              simp only [afterCall, blockQ, thenQ, loopQ, bodyD]
              exact ⟨⟨⟨s, rfl⟩, rfl⟩, by simp⟩
            | some n =>
              rw [hno] at hr
              subst hr
              change semL _ _ _ ⟨(_, I n) :: _, _⟩ _
              repeat' (first | ((first | refine o1 rfl ?_ | refine o0 rfl ?_); intro k hk; simp (disch := omega) only [ev0, sl_cells, simprocAttr, e1]; refine hk _ _ ?_; clear hk k) | refine ono rfl ?_ | ((first | refine osplitG rfl (fun h => ?_) (fun h => ?_) | refine osplitB rfl (fun h => ?_) (fun h => ?_)) <;> (fail_if_success (simp only [eq_self, reduceCtorEq] at h))) | refine onx ?_ | refine onb ?_ | refine sreg ?_ | refine qT rfl ?_ | refine qF rfl ?_ | refine scondT rfl ?_ | refine scondF rfl ?_ | refine ocondP rfl (fun h => ?_) (fun h => ?_) | refine ocondB rfl (fun h => ?_) (fun h => ?_) | refine scondP rfl (fun h => ?_) (fun h => ?_) | refine scond rfl (fun h => ?_) (fun h => ?_) | refine oskip ?_ | refine oskipb ?_ | refine oret ?_ | refine sem_ret ?_ | refine sem_seq ?_ | refine sreg1 ?_)
              refine onil (lnext (i + 1, N ++ [n]) ⟨by simp only; omega, hsi n h2 hno, by simp; omega⟩ (by simp only; omega) ?_)
              simp only
              rw [show [[AV.int .i64 n]] = [intCs n] from rfl, rowL_snoc, List.length_append]
              (refine Le.drop ?_ rfl (by simp) rfl (by simp only [refM, refO, List.all_cons, List.all_nil, Bool.and_true, Bool.true_and, rowL_all (enc := intCs) (fun _ _ => rfl), rowL_all (enc := intsCs) (fun _ _ => rfl), refL, refA]; first | done | rfl) ; simp only [List.forall_mem_cons, List.forall_mem_nil, getE, selE, Nat.reduceBEq, List.not_mem_nil, false_implies, implies_true, and_true, true_and, and_self])
              simp [slOf]
          · have hi : i = r.length := by omega
            subst hi
            rw [List.take_length] at h2
            rw [h2]
            have e2 := rowL_take (enc := intsCs) (l := L)
            (refine sem_exit ?_; change sem _ _ _ _ _)
            refine sem_frzlist (enc := intCs) (l := N) 2 rfl (fun _ => rfl) ?_
            simp only [frzE, frzM, frzO, frzA, frzL, List.map_cons, List.map_nil, List.set_cons_zero, List.set_cons_succ, Nat.reduceEqDiff, if_true, if_false, and_self, Nat.le_refl, reduceIte, frz_sl]
            have gr : ∀ a : List Int, frzL 2 N.length 1 N.length (fun i => intCs (N.getD i default)) (intsCs a) = intsCs a := fun _ => rfl
            try simp only [frz_rowL gr]
            repeat' (first | ((first | refine o1 rfl ?_ | refine o0 rfl ?_); intro k hk; simp (disch := omega) only [ev0, sl_cells, simprocAttr, e2]; refine hk _ _ ?_; clear hk k) | refine ono rfl ?_ | ((first | refine osplitG rfl (fun h => ?_) (fun h => ?_) | refine osplitB rfl (fun h => ?_) (fun h => ?_)) <;> (fail_if_success (simp only [eq_self, reduceCtorEq] at h))) | refine onx ?_ | refine onb ?_ | refine sreg ?_ | refine qT rfl ?_ | refine qF rfl ?_ | refine scondT rfl ?_ | refine scondF rfl ?_ | refine ocondP rfl (fun h => ?_) (fun h => ?_) | refine ocondB rfl (fun h => ?_) (fun h => ?_) | refine scondP rfl (fun h => ?_) (fun h => ?_) | refine scond rfl (fun h => ?_) (fun h => ?_) | refine oskip ?_ | refine oskipb ?_ | refine oret ?_ | refine sem_ret ?_ | refine sem_seq ?_ | refine sreg1 ?_)
            refine onil ⟨_, rfl, ⟨rfl, ?_⟩, by simp⟩
            rw [← rowL_snoc, List.length_append, List.length_singleton]
            rfl
      · rw [if_neg (fun q => hAL (Option.some.inj q))]
        have hAL' : (A = (L.length : Int)) = False := eq_false hAL
        repeat' (first | ((first | apply mop | apply mop0); (case hg => rfl); (case hq => rfl); intro k hk; simp (disch := omega) only [ev0, sl_cells, simprocAttr, slOf, hAL', decide_false, Bool.not_false]; refine hk _ _ rfl ?_; clear hk k) | (apply mno; (case hg => rfl)) | (apply mbox; (case hx => (simp only [wv, simprocAttr] <;> rfl)); (case hg => rfl); (case hall => rfl); (case hr => rfl); simp only [nm, Nat.reduceAdd]) | (apply mbldS; (case hb => (simp (disch := omega) only [ev0, sl_cells, simprocAttr] <;> rfl)); (case hg => rfl); (case hr => rfl); simp only [nm, Nat.reduceAdd]) | ((first | (apply msto (q := 0); (case hq => rfl)) | (apply msto (q := 1); (case hq => rfl)) | (apply msto (q := 2); (case hq => rfl)) | (apply msto (q := 3); (case hq => rfl))); (case hx => (simp only [wv, simprocAttr] <;> rfl)); (case haddr => (simp only [wv, simprocAttr] <;> rfl)); (case hg => rfl); (case hl1 => rfl); (case hl2 => rfl); (case hok => rfl); (case hr => rfl); simp only [nm, Nat.reduceAdd]) | (apply mnil; simp only [SlotR.fin, ns]) | (refine msplit rfl (fun h => ?_) (fun h => ?_) <;> simp only [h] <;> (try simp only [nb] at h)))
        refine mnilC (any_end 20 rfl ?_)
        simp only [List.map_nil, List.append_nil]
        change sem _ _ _ _ _
        repeat' (first | ((first | refine o1 rfl ?_ | refine o0 rfl ?_); intro k hk; simp (disch := omega) only [ev0, sl_cells, simprocAttr]; refine hk _ _ ?_; clear hk k) | refine ono rfl ?_ | ((first | refine osplitG rfl (fun h => ?_) (fun h => ?_) | refine osplitB rfl (fun h => ?_) (fun h => ?_)) <;> (fail_if_success (simp only [eq_self, reduceCtorEq] at h))) | refine onx ?_ | refine onb ?_ | refine sreg ?_ | refine qT rfl ?_ | refine qF rfl ?_ | refine scondT rfl ?_ | refine scondF rfl ?_ | refine ocondP rfl (fun h => ?_) (fun h => ?_) | refine ocondB rfl (fun h => ?_) (fun h => ?_) | refine scondP rfl (fun h => ?_) (fun h => ?_) | refine scond rfl (fun h => ?_) (fun h => ?_) | refine oskip ?_ | refine oskipb ?_ | refine oret ?_ | refine sem_ret ?_ | refine sem_seq ?_ | refine sreg1 ?_)
        refine semL_pan rfl rfl ?_
        exact ⟨⟨⟨_, rfl⟩, rfl⟩, by simp⟩
  · have hl2' : ((ws.length : Int) = (p : Int) + 1) = False := eq_false (by omega)
    have hbad : yearOf ws p L.length = none := by unfold yearOf; rw [if_neg hl2]
    rw [hbad]
    repeat' (first | ((first | refine o1 rfl ?_ | refine o0 rfl ?_); intro k hk; simp (disch := omega) only [ev0, sl_cells, simprocAttr]; refine hk _ _ ?_; clear hk k) | refine ono rfl ?_ | ((first | refine osplitG rfl (fun h => ?_) (fun h => ?_) | refine osplitB rfl (fun h => ?_) (fun h => ?_)) <;> (fail_if_success (simp only [eq_self, reduceCtorEq] at h))) | refine onx ?_ | refine onb ?_ | refine sreg ?_ | refine qT rfl ?_ | refine qF rfl ?_ | refine scondT rfl ?_ | refine scondF rfl ?_ | refine ocondP rfl (fun h => ?_) (fun h => ?_) | refine ocondB rfl (fun h => ?_) (fun h => ?_) | refine scondP rfl (fun h => ?_) (fun h => ?_) | refine scond rfl (fun h => ?_) (fun h => ?_) | refine oskip ?_ | refine oskipb ?_ | refine oret ?_ | refine sem_ret ?_ | refine sem_seq ?_ | refine sreg1 ?_)
    ((refine sem_mgo 18 hmix (by kernel_rfl) ?_; simp only [nt]); (repeat' (first | ((first | apply mop | apply mop0); (case hg => rfl); (case hq => rfl); intro k hk; simp (disch := omega) only [ev0, sl_cells, simprocAttr, slOf, hl2', decide_false, Bool.not_false]; refine hk _ _ rfl ?_; clear hk k) | (apply mno; (case hg => rfl)) | (apply mbox; (case hx => (simp only [wv, simprocAttr] <;> rfl)); (case hg => rfl); (case hall => rfl); (case hr => rfl); simp only [nm, Nat.reduceAdd]) | (apply mbldS; (case hb => (simp (disch := omega) only [ev0, sl_cells, simprocAttr] <;> rfl)); (case hg => rfl); (case hr => rfl); simp only [nm, Nat.reduceAdd]) | ((first | (apply msto (q := 0); (case hq => rfl)) | (apply msto (q := 1); (case hq => rfl)) | (apply msto (q := 2); (case hq => rfl)) | (apply msto (q := 3); (case hq => rfl))); (case hx => (simp only [wv, simprocAttr] <;> rfl)); (case haddr => (simp only [wv, simprocAttr] <;> rfl)); (case hg => rfl); (case hl1 => rfl); (case hl2 => rfl); (case hok => rfl); (case hr => rfl); simp only [nm, Nat.reduceAdd]) | (apply mnil; simp only [SlotR.fin, ns]) | (refine msplit rfl (fun h => ?_) (fun h => ?_) <;> simp only [h] <;> (try simp only [nb] at h)))) <;> (repeat' (first | ((first | refine o1 rfl ?_ | refine o0 rfl ?_); intro k hk; simp (disch := omega) only [ev0, sl_cells, simprocAttr, slOf, hl2', decide_false, Bool.not_false]; refine hk _ _ ?_; clear hk k) | refine ono rfl ?_ | ((first | refine osplitG rfl (fun h => ?_) (fun h => ?_) | refine osplitB rfl (fun h => ?_) (fun h => ?_)) <;> (fail_if_success (simp only [eq_self, reduceCtorEq] at h))) | refine onx ?_ | refine onb ?_ | refine sreg ?_ | refine qT rfl ?_ | refine qF rfl ?_ | refine scondT rfl ?_ | refine scondF rfl ?_ | refine ocondP rfl (fun h => ?_) (fun h => ?_) | refine ocondB rfl (fun h => ?_) (fun h => ?_) | refine scondP rfl (fun h => ?_) (fun h => ?_) | refine scond rfl (fun h => ?_) (fun h => ?_) | refine oskip ?_ | refine oskipb ?_ | refine oret ?_ | refine sem_ret ?_ | refine sem_seq ?_ | refine sreg1 ?_)))
    refine semL_pan rfl rfl ?_
    exact ⟨⟨⟨_, rfl⟩, rfl⟩, by simp⟩
end Go.Proofs.YtojkchniefhafaaGreatDoor
