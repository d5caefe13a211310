/- The reference: all sets of so many coolers. -/
import Derived.Test.YtnempffajbdneaaPC34
import Derived.Test.YtnempffajbdneaaPAv38
set_option linter.unusedVariables false
set_option linter.unusedSimpArgs false
set_option maxRecDepth 8000
set_option maxHeartbeats 4000000
namespace Go.Tk
open Go Go.Av
theorem sets_step {l : List Int} {i k : Nat} (hi : i < l.length) : setsL (l.drop i) (k + 1) = (setsL (l.drop (i + 1)) k).map (l.getD i default :: ·) ++ setsL (l.drop (i + 1)) (k + 1) := by
  rw [drop_cons' hi]; rfl
theorem sets_len_le : ∀ {l : List Int} {k : Nat}, (setsL l k).length ≤ 2 ^ l.length
  | l, 0 => by
    simp only [setsL, List.length_cons, List.length_nil]
    exact Nat.one_le_two_pow
  | [], k + 1 => by simp [setsL]
  | x :: l, k + 1 => by
    simp only [setsL, List.length_append, List.length_map, List.length_cons]
    have h1 := sets_len_le (l := l) (k := k)
    have h2 := sets_len_le (l := l) (k := k + 1)
    rw [Nat.pow_succ]; omega
theorem rowL_app {α : Type} {enc : α → List AV} {l m : List α} : rowL enc l ++ rowL enc m = rowL enc (l ++ m) := by simp [rowL]
theorem sl_rangeI (s : List Int) : (List.range s.length).map (fun i => [AV.int .i64 (s.getD i default)]) = rowL intCs s := by
  rw [rowL_F]; rfl
end Go.Tk
namespace Go.Proofs.Ytnempffajbdneaa
open Go Go.Av Go.Tk
attribute [local irreducible] Holds sem semL ACalls FnIs
variable {G : World → Prop} (hG : ∀ w w', G w → RowKit.Below w.heap.size w w' → G w')
include hG
theorem ref03_Sets : ∀ (k : Nat) (l : List Int), l.length ≤ 10 → k ≤ 100 → Holds Try.prog G F.ref03_Sets [slOf intCs l, I k] (slOf intsCs (setsL l k))
  | 0, l, hl, hk => by
    have h0 : Holds Try.prog G F.ref03_Sets [slOf intCs l, I (0 : Nat)] (.sl 1 fun _ => [.nilsl]) := by
      (refine holds_of_sem hG fn_ref03_Sets (by simp) fun w0 S0 hG0 D0 => ?_; unfold c_ref03_Sets cval enterEnv; simp only [List.zipIdx_cons, List.zipIdx_nil, List.map_cons, List.map_nil, Nat.zero_add, Nat.reduceAdd])
      repeat' (first | ((first | refine o1 rfl ?_ | refine o0 rfl ?_); intro k hk; simp (disch := omega) only [ev0, sl_cells, simprocAttr]; refine hk _ _ ?_; clear hk k) | refine ono rfl ?_ | ((first | refine osplitG rfl (fun h => ?_) (fun h => ?_) | refine osplitB rfl (fun h => ?_) (fun h => ?_)) <;> (fail_if_success (simp only [eq_self, reduceCtorEq] at h))) | refine onx ?_ | refine onb ?_ | refine sreg ?_ | refine qT rfl ?_ | refine qF rfl ?_ | refine scondT rfl ?_ | refine scondF rfl ?_ | refine ocondP rfl (fun h => ?_) (fun h => ?_) | refine ocondB rfl (fun h => ?_) (fun h => ?_) | refine scondP rfl (fun h => ?_) (fun h => ?_) | refine scond rfl (fun h => ?_) (fun h => ?_) | refine oskip ?_ | refine oskipb ?_ | refine oret ?_ | refine sem_ret ?_ | refine sem_seq ?_ | refine sreg1 ?_)
      refine ⟨_, rfl, _, rfl, .hsl _ rfl (fun _ _ => rfl) fun i j cs c t hi hcs hc ht => ?_⟩
      have : i = 0 := by omega
      subst this
      cases hcs
      match j, hc, ht with
      | 0, hc, ht => cases hc; cases ht; exact .same rfl
      | j + 1, hc, ht => simp at hc
    rw [show setsL l 0 = [[]] by simp [setsL]]
    refine h0.convR fun S w v h => ?_
    show VT S w (.sl 1 fun i => intsCs (([[]] : List (List Int)).getD i default)) v
    refine h.sl_weak (fun i _ => rfl) fun i hi j c c' g1 g2 u hu => ?_
    have : i = 0 := by omega
    subst this
    match j, g1, g2 with
    | 0, g1, g2 => cases g1; cases g2; exact hu.nil_sl _
    | j + 1, g1, g2 => simp at g1
  | k + 1, l, hl, hk100 => by
    have IH := fun i => (ref03_Sets k (l.drop i) (by rw [List.length_drop]; omega) (by omega))
    have IH' : ∀ i, Holds Try.prog G F.ref03_Sets [.sl (l.length - i) fun j => intCs (l.getD (i + j) default), I k] (slOf intsCs (setsL (l.drop i) k)) := fun i => (IH i).conv rfl fun q x' x0 h1 h2 S w v hv => by
      match q, h1, h2 with
      | 0, h1, h2 => cases h1; cases h2; exact sl_drop _ _ _ hv
      | 1, h1, h2 => cases h1; cases h2; exact hv
      | q + 2, h1, h2 => simp at h1
    have hk1 : ¬ ((k + 1 : Nat) : Int) = 0 := by omega
    have hk2 : ((k + 1 : Nat) : Int) - 1 = (k : Int) := by omega
    have hp10 : 2 ^ l.length ≤ 2 ^ 10 := Nat.pow_le_pow_right (by omega) hl
    (refine holds_of_sem hG fn_ref03_Sets (by simp) fun w0 S0 hG0 D0 => ?_; unfold c_ref03_Sets cval enterEnv; simp only [List.zipIdx_cons, List.zipIdx_nil, List.map_cons, List.map_nil, Nat.zero_add, Nat.reduceAdd])
    repeat' (first | ((first | refine o1 rfl ?_ | refine o0 rfl ?_); intro k hk; simp (disch := omega) only [ev0, sl_cells, simprocAttr, hk1]; refine hk _ _ ?_; clear hk k) | refine ono rfl ?_ | ((first | refine osplitG rfl (fun h => ?_) (fun h => ?_) | refine osplitB rfl (fun h => ?_) (fun h => ?_)) <;> (fail_if_success (simp only [eq_self, reduceCtorEq] at h))) | refine onx ?_ | refine onb ?_ | refine sreg ?_ | refine qT rfl ?_ | refine qF rfl ?_ | refine scondT rfl ?_ | refine scondF rfl ?_ | refine ocondP rfl (fun h => ?_) (fun h => ?_) | refine ocondB rfl (fun h => ?_) (fun h => ?_) | refine scondP rfl (fun h => ?_) (fun h => ?_) | refine scond rfl (fun h => ?_) (fun h => ?_) | refine oskip ?_ | refine oskipb ?_ | refine oret ?_ | refine sem_ret ?_ | refine sem_seq ?_ | refine sreg1 ?_)
    refine sem_block ?_
    (refine sem_ghost 5 28 1 rfl ?_; simp only [List.length_cons, List.length_nil, Nat.reduceAdd, Nat.zero_add, List.cons_append, List.nil_append])
    
    refine sem_loop (α := Nat × List (List Int)) (fun x => ⟨[(0, slOf intCs l), (1, I (k + 1 : Nat)), (5, .hsl 0 x.2.length 1 x.2.length), (6, I x.1)], [.row 28 x.2.length 1 (rowL intsCs x.2)]⟩) (fun x => x.1 ≤ l.length ∧ x.2 ++ setsL (l.drop x.1) (k + 1) = setsL l (k + 1)) (fun x => l.length - x.1) (0, []) ⟨Nat.zero_le _, rfl⟩ ?_ ?_
    · (refine Le.same ?_; simp only [List.forall_mem_cons, List.forall_mem_nil, getE, selE, Nat.reduceBEq, List.not_mem_nil, false_implies, implies_true, and_true, true_and, and_self])
      simp [slOf]
    · rintro ⟨i, L⟩ ⟨h1, h2⟩
      simp only at h1 h2
      have hLl : L.length ≤ 1024 := by
        have := sets_len_le (l := l) (k := k + 1)
        rw [← h2, List.length_append] at this
        omega
      repeat' (first | ((first | refine o1 rfl ?_ | refine o0 rfl ?_); intro k hk; simp (disch := omega) only [ev0, sl_cells, simprocAttr, slOf]; refine hk _ _ ?_; clear hk k) | refine ono rfl ?_ | ((first | refine osplitG rfl (fun h => ?_) (fun h => ?_) | refine osplitB rfl (fun h => ?_) (fun h => ?_)) <;> (fail_if_success (simp only [eq_self, reduceCtorEq] at h))) | refine onx ?_ | refine onb ?_ | refine sreg ?_ | refine qT rfl ?_ | refine qF rfl ?_ | refine scondT rfl ?_ | refine scondF rfl ?_ | refine ocondP rfl (fun h => ?_) (fun h => ?_) | refine ocondB rfl (fun h => ?_) (fun h => ?_) | refine scondP rfl (fun h => ?_) (fun h => ?_) | refine scond rfl (fun h => ?_) (fun h => ?_) | refine oskip ?_ | refine oskipb ?_ | refine oret ?_ | refine sem_ret ?_ | refine sem_seq ?_ | refine sreg1 ?_)
      · have hi : i < l.length := by omega
        rw [sets_step hi] at h2
        have hIH := IH' (i + 1)
        have hsl := sets_len_le (l := l.drop (i + 1)) (k := k)
        have hp2 : 2 ^ (l.drop (i + 1)).length ≤ 2 ^ 10 := Nat.pow_le_pow_right (by omega) (by rw [List.length_drop]; omega)
        have hsub : ∀ s ∈ setsL (l.drop (i + 1)) k, s.length ≤ 10 := fun s hs => by
          have := (mem_sets.1 hs).1.length_le
          rw [List.length_drop] at this
          omega
        generalize setsL (l.drop (i + 1)) k = T at *
        refine sem_block ?_
        repeat' (first | ((first | refine o1 rfl ?_ | refine o0 rfl ?_); intro k hk; simp (disch := omega) only [ev0, sl_cells, simprocAttr, slOf, intCs, hk2, range_all, Option.map_none, List.length_cons, List.length_nil, Nat.zero_add, Nat.sub_zero, decide_true, eq_self]; refine hk _ _ ?_; clear hk k) | refine ono rfl ?_ | (apply ocall; (case he => (simp only [ev0, sl_cells, simprocAttr] <;> rfl)); (case hc => first | exact hIH); (case ht => rfl); (case hg => rfl)) | ((first | refine osplitG rfl (fun h => ?_) (fun h => ?_) | refine osplitB rfl (fun h => ?_) (fun h => ?_)) <;> (fail_if_success (simp only [eq_self, reduceCtorEq] at h))) | refine onx ?_ | refine onb ?_ | refine sreg ?_ | refine qT rfl ?_ | refine qF rfl ?_ | refine scondT rfl ?_ | refine scondF rfl ?_ | refine ocondP rfl (fun h => ?_) (fun h => ?_) | refine ocondB rfl (fun h => ?_) (fun h => ?_) | refine scondP rfl (fun h => ?_) (fun h => ?_) | refine scond rfl (fun h => ?_) (fun h => ?_) | refine oskip ?_ | refine oskipb ?_ | refine oret ?_ | refine sem_ret ?_ | refine sem_seq ?_ | refine sreg1 ?_)
        refine sem_block ?_
        
        refine sem_loop (α := Nat) (fun j => ⟨[(0, slOf intCs l), (1, I (k + 1 : Nat)), (5, .hsl 0 (L ++ (T.take j).map (l.getD i default :: ·)).length 1 (L ++ (T.take j).map (l.getD i default :: ·)).length), (6, I i), (7, slOf intsCs T), (8, I j)], [.row 28 (L ++ (T.take j).map (l.getD i default :: ·)).length 1 (rowL intsCs (L ++ (T.take j).map (l.getD i default :: ·)))]⟩) (fun j => j ≤ T.length) (fun j => T.length - j) 0 (Nat.zero_le _) ?_ ?_
        · simp only [List.take_zero, List.map_nil, List.append_nil]
          (refine Le.same ?_; simp only [List.forall_mem_cons, List.forall_mem_nil, getE, selE, Nat.reduceBEq, List.not_mem_nil, false_implies, implies_true, and_true, true_and, and_self])
          simp [slOf]
        · intro j hj
          have hMl : (L ++ (T.take j).map (l.getD i default :: ·)).length ≤ 5000 := by
            rw [List.length_append, List.length_map, List.length_take]; omega
          have hMs := fun h : j < T.length => map_take_getD (l.getD i default :: ·) h
          generalize hM : L ++ (T.take j).map (l.getD i default :: ·) = M at *
          repeat' (first | ((first | refine o1 rfl ?_ | refine o0 rfl ?_); intro k hk; simp (disch := omega) only [ev0, sl_cells, simprocAttr, slOf]; refine hk _ _ ?_; clear hk k) | refine ono rfl ?_ | ((first | refine osplitG rfl (fun h => ?_) (fun h => ?_) | refine osplitB rfl (fun h => ?_) (fun h => ?_)) <;> (fail_if_success (simp only [eq_self, reduceCtorEq] at h))) | refine onx ?_ | refine onb ?_ | refine sreg ?_ | refine qT rfl ?_ | refine qF rfl ?_ | refine scondT rfl ?_ | refine scondF rfl ?_ | refine ocondP rfl (fun h => ?_) (fun h => ?_) | refine ocondB rfl (fun h => ?_) (fun h => ?_) | refine scondP rfl (fun h => ?_) (fun h => ?_) | refine scond rfl (fun h => ?_) (fun h => ?_) | refine oskip ?_ | refine oskipb ?_ | refine oret ?_ | refine sem_ret ?_ | refine sem_seq ?_ | refine sreg1 ?_)
          · have hj' : j < T.length := by omega
            replace hMs := hMs hj'
            have hsl2 := hsub (T.getD j default) (by rw [getD_lt hj']; exact List.getElem_mem _)
            generalize hx : l.getD i default = x at *
            generalize hs : T.getD j default = s at *
            have e1 := rowL_take (enc := intsCs) (l := M)
            refine sem_block ?_
            repeat' (first | ((first | refine o1 rfl ?_ | refine o0 rfl ?_); intro k hk; simp (disch := omega) only [ev0, sl_cells, simprocAttr]; refine hk _ _ ?_; clear hk k) | refine ono rfl ?_ | ((first | refine osplitG rfl (fun h => ?_) (fun h => ?_) | refine osplitB rfl (fun h => ?_) (fun h => ?_)) <;> (fail_if_success (simp only [eq_self, reduceCtorEq] at h))) | refine onx ?_ | refine onb ?_ | refine sreg ?_ | refine qT rfl ?_ | refine qF rfl ?_ | refine scondT rfl ?_ | refine scondF rfl ?_ | refine ocondP rfl (fun h => ?_) (fun h => ?_) | refine ocondB rfl (fun h => ?_) (fun h => ?_) | refine scondP rfl (fun h => ?_) (fun h => ?_) | refine scond rfl (fun h => ?_) (fun h => ?_) | refine oskip ?_ | refine oskipb ?_ | refine oret ?_ | refine sem_ret ?_ | refine sem_seq ?_ | refine sreg1 ?_)
            obtain ⟨R, hR⟩ : ∃ R : Nat → AV, R = fun i' => ([.hsl 0 M.length 1 M.length, slOf intCs l, I i, .tptr [I x] 0, I x, .hsl 1 0 1 1, slOf intsCs T, I j, .tptr [slOf intCs s] 0, slOf intCs s, .hsl 1 1 1 (1 + s.length), .hsl 2 0 1 1] : List AV).getD i' .dead := ⟨_, rfl⟩
            refine any_start hmix ?_
            refine any_eff3 (ν1 := [.row 28 M.length 1 (rowL intsCs M), .row 3 0 1 [[I x]]]) (ν2 := [.row 28 M.length 1 (rowL intsCs M), .row 3 1 1 (rowL intCs (x :: s))]) (ν3 := [.row 28 M.length 1 (rowL intsCs M), .row 3 1 1 (rowL intCs (x :: s)), .row 28 0 1 [[.hsl 1 1 1 (1 + s.length)]]]) 12 5 10 11 [0, 1, 2, 3, 4, 6, 7, 8, 9] R (by kernel_rfl) (by omega) (by omega) (by omega) (by omega) (by omega) (by omega) (by kernel_rfl) (by kernel_rfl) (by kernel_rfl) (fun i' a1 a2 a3 a4 => by simp only [List.mem_cons, List.not_mem_nil, or_false]; omega) ?_ ?_ ?_ ?_ ?_
            · simp only [List.forall_mem_cons, List.forall_mem_nil, List.not_mem_nil, false_implies, implies_true, and_true]
              refine ⟨?_, ?_, ?_, ?_, ?_, ?_, ?_, ?_, ?_⟩
              all_goals
                intro β
                refine .inl ⟨rfl, rfl, ?_⟩
                rw [hR]
                simp (disch := omega) only [envAt, opAt, List.getD_cons_succ, List.getD_cons_zero, slOf, intCs, intsCs, hx, hs, pushE, quietK, and_self, if_true, wv, simprocAttr, ev0, sl_cells]
            · rw [hR]
              refine ⟨rfl, ?_⟩
              simp (disch := omega) only [envAt, opAt, List.getD_cons_succ, List.getD_cons_zero, slOf, intCs, intsCs, hx, hs, pushE, quietK, and_self, if_true, wv, simprocAttr, ev0, sl_cells, nm, Nat.reduceAdd]
            · rw [hR]
              refine ⟨rfl, ?_⟩
              simp (disch := omega) only [envAt, opAt, List.getD_cons_succ, List.getD_cons_zero, slOf, intCs, intsCs, hx, hs, pushE, quietK, and_self, if_true, wv, simprocAttr, ev0, sl_cells, nm, Nat.reduceAdd]
              rw [range_all, if_pos rfl]
              simp only [List.length_map, List.length_range]
              rw [if_pos ⟨by omega, by omega⟩, sl_rangeI]
              rfl
            · rw [hR]
              refine ⟨rfl, ?_⟩
              simp (disch := omega) only [envAt, opAt, List.getD_cons_succ, List.getD_cons_zero, slOf, intCs, intsCs, hx, hs, pushE, quietK, and_self, if_true, wv, simprocAttr, ev0, sl_cells, nm, Nat.reduceAdd]
            · refine any_seq 12 14 (by kernel_rfl) ?_
              simp only [nt]
              rw [hR]
              simp only [envAt, opAt, List.getD_cons_succ, List.getD_cons_zero, pushE]
              repeat' (first | ((first | refine o1 rfl ?_ | refine o0 rfl ?_); intro k hk; simp (disch := omega) only [ev0, sl_cells, simprocAttr]; refine hk _ _ ?_; clear hk k) | refine ono rfl ?_ | ((first | refine osplitG rfl (fun h => ?_) (fun h => ?_) | refine osplitB rfl (fun h => ?_) (fun h => ?_)) <;> (fail_if_success (simp only [eq_self, reduceCtorEq] at h))) | refine onx ?_ | refine onb ?_ | refine sreg ?_ | refine qT rfl ?_ | refine qF rfl ?_ | refine scondT rfl ?_ | refine scondF rfl ?_ | refine ocondP rfl (fun h => ?_) (fun h => ?_) | refine ocondB rfl (fun h => ?_) (fun h => ?_) | refine scondP rfl (fun h => ?_) (fun h => ?_) | refine scond rfl (fun h => ?_) (fun h => ?_) | refine oskip ?_ | refine oskipb ?_ | refine oret ?_ | refine sem_ret ?_ | refine sem_seq ?_ | refine sreg1 ?_)
              simp only [e1]
              refine onil ?_
              change AnyC _ _ _ _ _ 14 _
              refine any_end 14 rfl ?_
              change sem _ _ _ _ _
              have hlx : (x :: s).length = 1 + s.length := by rw [List.length_cons]; omega
              refine sem_frzlist (enc := intCs) (l := x :: s) 1 rfl (fun _ => rfl) ?_
              rw [hlx]
              simp only [frzE, frzM, frzO, frzA, frzL, List.map_cons, List.map_nil, List.set_cons_zero, List.set_cons_succ, Nat.reduceEqDiff, if_true, if_false, and_self, Nat.le_refl, reduceIte, frz_sl]
              have gr : ∀ a : List Int, frzL 1 1 1 (1 + s.length) (fun i => intCs ((x :: s).getD i default)) (intsCs a) = intsCs a := fun _ => rfl
              try simp only [List.map_append, frz_rowL gr]
              have hrow : rowL intsCs M ++ [[AV.sl (1 + s.length) fun i => intCs ((x :: s).getD i default)]] = rowL intsCs (M ++ [x :: s]) := by
                rw [← rowL_app, ← hlx]; rfl
              have hMe : L ++ (T.take (j + 1)).map (x :: ·) = M ++ [x :: s] := by rw [← hM, List.append_assoc, hMs]
              have hMx : (M ++ [x :: s]).length = M.length + 1 := by simp
              simp only [frzA, frzL, List.map_cons, List.map_nil, if_true, and_self, Nat.le_refl, reduceIte, hrow]
              repeat' (first | ((first | refine o1 rfl ?_ | refine o0 rfl ?_); intro k hk; simp (disch := omega) only [ev0, sl_cells, simprocAttr]; refine hk _ _ ?_; clear hk k) | refine ono rfl ?_ | ((first | refine osplitG rfl (fun h => ?_) (fun h => ?_) | refine osplitB rfl (fun h => ?_) (fun h => ?_)) <;> (fail_if_success (simp only [eq_self, reduceCtorEq] at h))) | refine onx ?_ | refine onb ?_ | refine sreg ?_ | refine qT rfl ?_ | refine qF rfl ?_ | refine scondT rfl ?_ | refine scondF rfl ?_ | refine ocondP rfl (fun h => ?_) (fun h => ?_) | refine ocondB rfl (fun h => ?_) (fun h => ?_) | refine scondP rfl (fun h => ?_) (fun h => ?_) | refine scond rfl (fun h => ?_) (fun h => ?_) | refine oskip ?_ | refine oskipb ?_ | refine oret ?_ | refine sem_ret ?_ | refine sem_seq ?_ | refine sreg1 ?_)
              refine onil (lnext (j + 1) (by omega) (by omega) ?_)
              rw [hMe, hMx]
              (refine Le.drop ?_ rfl (by simp) rfl (by simp only [refM, refO, List.all_cons, List.all_nil, Bool.and_true, Bool.true_and, rowL_all (enc := intsCs) (fun _ _ => rfl)]; first | done | rfl) ; simp only [List.forall_mem_cons, List.forall_mem_nil, getE, selE, Nat.reduceBEq, List.not_mem_nil, false_implies, implies_true, and_true, true_and, and_self])
              simp
          · have hj' : j = T.length := by omega
            subst hj'
            rw [List.take_length] at hM
            (refine sem_exit ?_; change sem _ _ _ _ _)
            repeat' (first | ((first | refine o1 rfl ?_ | refine o0 rfl ?_); intro k hk; simp (disch := omega) only [ev0, sl_cells, simprocAttr]; refine hk _ _ ?_; clear hk k) | refine ono rfl ?_ | ((first | refine osplitG rfl (fun h => ?_) (fun h => ?_) | refine osplitB rfl (fun h => ?_) (fun h => ?_)) <;> (fail_if_success (simp only [eq_self, reduceCtorEq] at h))) | refine onx ?_ | refine onb ?_ | refine sreg ?_ | refine qT rfl ?_ | refine qF rfl ?_ | refine scondT rfl ?_ | refine scondF rfl ?_ | refine ocondP rfl (fun h => ?_) (fun h => ?_) | refine ocondB rfl (fun h => ?_) (fun h => ?_) | refine scondP rfl (fun h => ?_) (fun h => ?_) | refine scond rfl (fun h => ?_) (fun h => ?_) | refine oskip ?_ | refine oskipb ?_ | refine oret ?_ | refine sem_ret ?_ | refine sem_seq ?_ | refine sreg1 ?_)
            refine onil (lnext (i + 1, M) ⟨by simp only; omega, ?_⟩ (by simp only; omega) ?_)
            · simp only
              rw [← hM, List.append_assoc]; exact h2
            · (refine Le.same ?_; simp only [List.forall_mem_cons, List.forall_mem_nil, getE, selE, Nat.reduceBEq, List.not_mem_nil, false_implies, implies_true, and_true, true_and, and_self])
              simp
      · have hi : i = l.length := by omega
        subst hi
        have hS : setsL l (k + 1) = L := by
          rw [← h2, List.drop_length]; simp [setsL]
        rw [hS]
        (refine sem_exit ?_; change sem _ _ _ _ _)
        refine sem_frzlist (enc := intsCs) 0 rfl (fun _ => rfl) ?_
        simp only [frzE, frzM, frzO, frzA, frzL, List.map_cons, List.map_nil, List.set_cons_zero, List.set_cons_succ, Nat.reduceEqDiff, if_true, if_false, and_self, Nat.le_refl, reduceIte, frz_sl]
        repeat' (first | ((first | refine o1 rfl ?_ | refine o0 rfl ?_); intro k hk; simp (disch := omega) only [ev0, sl_cells, simprocAttr]; refine hk _ _ ?_; clear hk k) | refine ono rfl ?_ | ((first | refine osplitG rfl (fun h => ?_) (fun h => ?_) | refine osplitB rfl (fun h => ?_) (fun h => ?_)) <;> (fail_if_success (simp only [eq_self, reduceCtorEq] at h))) | refine onx ?_ | refine onb ?_ | refine sreg ?_ | refine qT rfl ?_ | refine qF rfl ?_ | refine scondT rfl ?_ | refine scondF rfl ?_ | refine ocondP rfl (fun h => ?_) (fun h => ?_) | refine ocondB rfl (fun h => ?_) (fun h => ?_) | refine scondP rfl (fun h => ?_) (fun h => ?_) | refine scond rfl (fun h => ?_) (fun h => ?_) | refine oskip ?_ | refine oskipb ?_ | refine oret ?_ | refine sem_ret ?_ | refine sem_seq ?_ | refine sreg1 ?_)
        exact ⟨_, rfl, _, rfl, tree_eq rfl rfl⟩
end Go.Proofs.Ytnempffajbdneaa
