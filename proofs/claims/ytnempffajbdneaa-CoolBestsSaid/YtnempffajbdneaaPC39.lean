/- The reference: all sets of so many coolers. -/
import Derived.Test.YtnempffajbdneaaPC34
import Derived.Test.YtnempffajbdneaaPAv38
import Derived.Test.YtnempffajbdneaaPC24
set_option linter.unusedVariables false
set_option linter.unusedSimpArgs false
set_option maxRecDepth 8000
set_option maxHeartbeats 4000000
namespace Go.Tk
open Go Go.Av
theorem sets_step {l : List Int} {i k : Nat} (hi : i < l.length) : setsL (l.drop i) (k + 1) = (setsL (l.drop (i + 1)) k).map (l.getD i default :: ·) ++ setsL (l.drop (i + 1)) (k + 1) := by
  rw [drop_cons' hi]; rfl
theorem sets_len_le : ∀ {l : List Int} {k : Nat}, (setsL l k).length ≤ 2 ^ l.length
  | l, 0 => by
    simp only [setsL, List.length_cons, List.length_nil]
    exact Nat.one_le_two_pow
  | [], k + 1 => by simp [setsL]
  | x :: l, k + 1 => by
    simp only [setsL, List.length_append, List.length_map, List.length_cons]
    have h1 := sets_len_le (l := l) (k := k)
    have h2 := sets_len_le (l := l) (k := k + 1)
    rw [Nat.pow_succ]; omega
theorem rowL_app {α : Type} {enc : α → List AV} {l m : List α} : rowL enc l ++ rowL enc m = rowL enc (l ++ m) := by simp [rowL]
theorem sl_rangeI (s : List Int) : (List.range s.length).map (fun i => [AV.int .i64 (s.getD i default)]) = rowL intCs s := by
  rw [rowL_F]; rfl
end Go.Tk
namespace Go.Proofs.Ytnempffajbdneaa
open Go Go.Av Go.Tk
attribute [local irreducible] Holds sem semL ACalls FnIs
variable {G : World → Prop} (hG : ∀ w w', G w → RowKit.Below w.heap.size w w' → G w')
include hG
theorem ref03_Sets : ∀ (k : Nat) (l : List Int), l.length ≤ 10 → k ≤ 100 → Holds Try.prog G F.ref03_Sets [slOf intCs l, I k] (slOf intsCs (setsL l k))
  | 0, l, hl, hk => by
    have h0 : Holds Try.prog G F.ref03_Sets [slOf intCs l, I (0 : Nat)] (.sl 1 fun _ => [.nilsl]) := by
      (refine holds_of_sem hG fn_ref03_Sets (by simp) fun w0 S0 hG0 D0 => ?_; unfold c_ref03_Sets cval enterEnv; simp only [List.zipIdx_cons, List.zipIdx_nil, List.map_cons, List.map_nil, Nat.zero_add, Nat.reduceAdd])
      repeat' (first | ((first | refine o1 rfl ?_ | refine o0 rfl ?_); intro k hk; simp (disch := omega) only [ev0, sl_cells, simprocAttr]; refine hk _ _ ?_; clear hk k) | refine ono rfl ?_ | ((first | refine osplitG rfl (fun h => ?_) (fun h => ?_) | refine osplitB rfl (fun h => ?_) (fun h => ?_)) <;> (fail_if_success (simp only [eq_self, reduceCtorEq] at h))) | refine onx ?_ | refine onb ?_ | refine sreg ?_ | refine qT rfl ?_ | refine qF rfl ?_ | refine scondT rfl ?_ | refine scondF rfl ?_ | refine ocondP rfl (fun h => ?_) (fun h => ?_) | refine ocondB rfl (fun h => ?_) (fun h => ?_) | refine scondP rfl (fun h => ?_) (fun h => ?_) | refine scond rfl (fun h => ?_) (fun h => ?_) | refine oskip ?_ | refine oskipb ?_ | refine oret ?_ | refine sem_ret ?_ | refine sem_seq ?_ | refine sreg1 ?_)
      refine ⟨_, rfl, _, rfl, .hsl _ rfl (fun _ _ => rfl) fun i j cs c t hi hcs hc ht => ?_⟩
      have : i = 0 := by omega
      subst this
      cases hcs
      match j, hc, ht with
      | 0, hc, ht => cases hc; cases ht; exact .same rfl
      | j + 1, hc, ht => simp at hc
    rw [show setsL l 0 = [[]] by simp [setsL]]
    refine h0.convR fun S w v h => ?_
    show VT S w (.sl 1 fun i => intsCs (([[]] : List (List Int)).getD i default)) v
    refine h.sl_weak (fun i _ => rfl) fun i hi j c c' g1 g2 u hu => ?_
    have : i = 0 := by omega
    subst this
    match j, g1, g2 with
    | 0, g1, g2 => cases g1; cases g2; exact hu.nil_sl _
    | j + 1, g1, g2 => simp at g1
  | k + 1, l, hl, hk100 => by
    have IH := fun i => (ref03_Sets k (l.drop i) (by rw [List.length_drop]; omega) (by omega))
    have IH' : ∀ i, Holds Try.prog G F.ref03_Sets [.sl (l.length - i) fun j => intCs (l.getD (i + j) default), I k] (slOf intsCs (setsL (l.drop i) k)) := fun i => (IH i).conv rfl fun q x' x0 h1 h2 S w v hv => by
      match q, h1, h2 with
      | 0, h1, h2 => cases h1; cases h2; exact sl_drop _ _ _ hv
      | 1, h1, h2 => cases h1; cases h2; exact hv
      | q + 2, h1, h2 => simp at h1
    have hk1 : ¬ ((k + 1 : Nat) : Int) = 0 := by omega
    have hk2 : ((k + 1 : Nat) : Int) - 1 = (k : Int) := by omega
    have hp10 : 2 ^ l.length ≤ 2 ^ 10 := Nat.pow_le_pow_right (by omega) hl
    (refine holds_of_sem hG fn_ref03_Sets (by simp) fun w0 S0 hG0 D0 => ?_; unfold c_ref03_Sets cval enterEnv; simp only [List.zipIdx_cons, List.zipIdx_nil, List.map_cons, List.map_nil, Nat.zero_add, Nat.reduceAdd])
    repeat' (first | ((first | refine o1 rfl ?_ | refine o0 rfl ?_); intro k hk; simp (disch := omega) only [ev0, sl_cells, simprocAttr, hk1]; refine hk _ _ ?_; clear hk k) | refine ono rfl ?_ | ((first | refine osplitG rfl (fun h => ?_) (fun h => ?_) | refine osplitB rfl (fun h => ?_) (fun h => ?_)) <;> (fail_if_success (simp only [eq_self, reduceCtorEq] at h))) | refine onx ?_ | refine onb ?_ | refine sreg ?_ | refine qT rfl ?_ | refine qF rfl ?_ | refine scondT rfl ?_ | refine scondF rfl ?_ | refine ocondP rfl (fun h => ?_) (fun h => ?_) | refine ocondB rfl (fun h => ?_) (fun h => ?_) | refine scondP rfl (fun h => ?_) (fun h => ?_) | refine scond rfl (fun h => ?_) (fun h => ?_) | refine oskip ?_ | refine oskipb ?_ | refine oret ?_ | refine sem_ret ?_ | refine sem_seq ?_ | refine sreg1 ?_)
    refine sem_block ?_
    (refine sem_ghost 5 28 1 rfl ?_; simp only [List.length_cons, List.length_nil, Nat.reduceAdd, Nat.zero_add, List.cons_append, List.nil_append])
    
    refine sem_loop (α := Nat × List (List Int)) (fun x => ⟨[(0, slOf intCs l), (1, I (k + 1 : Nat)), (5, .hsl 0 x.2.length 1 x.2.length), (6, I x.1)], [.row 28 x.2.length 1 (rowL intsCs x.2)]⟩) (fun x => x.1 ≤ l.length ∧ x.2 ++ setsL (l.drop x.1) (k + 1) = setsL l (k + 1)) (fun x => l.length - x.1) (0, []) ⟨Nat.zero_le _, rfl⟩ ?_ ?_
    · (refine Le.same ?_; simp only [List.forall_mem_cons, List.forall_mem_nil, getE, selE, Nat.reduceBEq, List.not_mem_nil, false_implies, implies_true, and_true, true_and, and_self])
      simp [slOf]
    · rintro ⟨i, L⟩ ⟨h1, h2⟩
      simp only at h1 h2
      have hLl : L.length ≤ 1024 := by
        have := sets_len_le (l := l) (k := k + 1)
        rw [← h2, List.length_append] at this
        omega
      repeat' (first | ((first | refine o1 rfl ?_ | refine o0 rfl ?_); intro k hk; simp (disch := omega) only [ev0, sl_cells, simprocAttr, slOf]; refine hk _ _ ?_; clear hk k) | refine ono rfl ?_ | ((first | refine osplitG rfl (fun h => ?_) (fun h => ?_) | refine osplitB rfl (fun h => ?_) (fun h => ?_)) <;> (fail_if_success (simp only [eq_self, reduceCtorEq] at h))) | refine onx ?_ | refine onb ?_ | refine sreg ?_ | refine qT rfl ?_ | refine qF rfl ?_ | refine scondT rfl ?_ | refine scondF rfl ?_ | refine ocondP rfl (fun h => ?_) (fun h => ?_) | refine ocondB rfl (fun h => ?_) (fun h => ?_) | refine scondP rfl (fun h => ?_) (fun h => ?_) | refine scond rfl (fun h => ?_) (fun h => ?_) | refine oskip ?_ | refine oskipb ?_ | refine oret ?_ | refine sem_ret ?_ | refine sem_seq ?_ | refine sreg1 ?_)
      · have hi : i < l.length := by omega
        rw [sets_step hi] at h2
        have hIH := IH' (i + 1)
        have hsl := sets_len_le (l := l.drop (i + 1)) (k := k)
        have hp2 : 2 ^ (l.drop (i + 1)).length ≤ 2 ^ 10 := Nat.pow_le_pow_right (by omega) (by rw [List.length_drop]; omega)
        have hsub : ∀ s ∈ setsL (l.drop (i + 1)) k, s.length ≤ 10 := fun s hs => by
          have := (mem_sets.1 hs).1.length_le
          rw [List.length_drop] at this
          omega
        generalize setsL (l.drop (i + 1)) k = T at *
        refine sem_block ?_
        repeat' (first | ((first | refine o1 rfl ?_ | refine o0 rfl ?_); intro k hk; simp (disch := omega) only [ev0, sl_cells, simprocAttr, slOf, intCs, hk2, range_all, Option.map_none, List.length_cons, List.length_nil, Nat.zero_add, Nat.sub_zero, decide_true, eq_self]; refine hk _ _ ?_; clear hk k) | refine ono rfl ?_ | (apply ocall; (case he => (simp only [ev0, sl_cells, simprocAttr] <;> rfl)); (case hc => first | exact hIH); (case ht => rfl); (case hg => rfl)) | ((first | refine osplitG rfl (fun h => ?_) (fun h => ?_) | refine osplitB rfl (fun h => ?_) (fun h => ?_)) <;> (fail_if_success (simp only [eq_self, reduceCtorEq] at h))) | refine onx ?_ | refine onb ?_ | refine sreg ?_ | refine qT rfl ?_ | refine qF rfl ?_ | refine scondT rfl ?_ | refine scondF rfl ?_ | refine ocondP rfl (fun h => ?_) (fun h => ?_) | refine ocondB rfl (fun h => ?_) (fun h => ?_) | refine scondP rfl (fun h => ?_) (fun h => ?_) | refine scond rfl (fun h => ?_) (fun h => ?_) | refine oskip ?_ | refine oskipb ?_ | refine oret ?_ | refine sem_ret ?_ | refine sem_seq ?_ | refine sreg1 ?_)
        refine sem_block ?_
        
        refine sem_loop (α := Nat) (fun j => ⟨[(0, slOf intCs l), (1, I (k + 1 : Nat)), (5, .hsl 0 (L ++ (T.take j).map (l.getD i default :: ·)).length 1 (L ++ (T.take j).map (l.getD i default :: ·)).length), (6, I i), (7, slOf intsCs T), (8, I j)], [.row 28 (L ++ (T.take j).map (l.getD i default :: ·)).length 1 (rowL intsCs (L ++ (T.take j).map (l.getD i default :: ·)))]⟩) (fun j => j ≤ T.length) (fun j => T.length - j) 0 (Nat.zero_le _) ?_ ?_
        · simp only [List.take_zero, List.map_nil, List.append_nil]
          (refine Le.same ?_; simp only [List.forall_mem_cons, List.forall_mem_nil, getE, selE, Nat.reduceBEq, List.not_mem_nil, false_implies, implies_true, and_true, true_and, and_self])
          simp [slOf]
        · intro j hj
          have hMl : (L ++ (T.take j).map (l.getD i default :: ·)).length ≤ 5000 := by
            rw [List.length_append, List.length_map, List.length_take]; omega
          have hMs := fun h : j < T.length => map_take_getD (l.getD i default :: ·) h
          generalize hM : L ++ (T.take j).map (l.getD i default :: ·) = M at *
          repeat' (first | ((first | refine o1 rfl ?_ | refine o0 rfl ?_); intro k hk; simp (disch := omega) only [ev0, sl_cells, simprocAttr, slOf]; refine hk _ _ ?_; clear hk k) | refine ono rfl ?_ | ((first | refine osplitG rfl (fun h => ?_) (fun h => ?_) | refine osplitB rfl (fun h => ?_) (fun h => ?_)) <;> (fail_if_success (simp only [eq_self, reduceCtorEq] at h))) | refine onx ?_ | refine onb ?_ | refine sreg ?_ | refine qT rfl ?_ | refine qF rfl ?_ | refine scondT rfl ?_ | refine scondF rfl ?_ | refine ocondP rfl (fun h => ?_) (fun h => ?_) | refine ocondB rfl (fun h => ?_) (fun h => ?_) | refine scondP rfl (fun h => ?_) (fun h => ?_) | refine scond rfl (fun h => ?_) (fun h => ?_) | refine oskip ?_ | refine oskipb ?_ | refine oret ?_ | refine sem_ret ?_ | refine sem_seq ?_ | refine sreg1 ?_)
          · have hj' : j < T.length := by omega
            replace hMs := hMs hj'
            have hsl2 := hsub (T.getD j default) (by rw [getD_lt hj']; exact List.getElem_mem _)
            generalize hx : l.getD i default = x at *
            generalize hs : T.getD j default = s at *
            have e1 := rowL_take (enc := intsCs) (l := M)
            refine sem_block ?_
            repeat' (first | ((first | refine o1 rfl ?_ | refine o0 rfl ?_); intro k hk; simp (disch := omega) only [ev0, sl_cells, simprocAttr]; refine hk _ _ ?_; clear hk k) | refine ono rfl ?_ | ((first | refine osplitG rfl (fun h => ?_) (fun h => ?_) | refine osplitB rfl (fun h => ?_) (fun h => ?_)) <;> (fail_if_success (simp only [eq_self, reduceCtorEq] at h))) | refine onx ?_ | refine onb ?_ | refine sreg ?_ | refine qT rfl ?_ | refine qF rfl ?_ | refine scondT rfl ?_ | refine scondF rfl ?_ | refine ocondP rfl (fun h => ?_) (fun h => ?_) | refine ocondB rfl (fun h => ?_) (fun h => ?_) | refine scondP rfl (fun h => ?_) (fun h => ?_) | refine scond rfl (fun h => ?_) (fun h => ?_) | refine oskip ?_ | refine oskipb ?_ | refine oret ?_ | refine sem_ret ?_ | refine sem_seq ?_ | refine sreg1 ?_)
            obtain ⟨R, hR⟩ : ∃ R : Nat → AV, R = fun i' => ([.hsl 0 M.length 1 M.length, slOf intCs l, I i, .tptr [I x] 0, I x, .hsl 1 0 1 1, slOf intsCs T, I j, .tptr [slOf intCs s] 0, slOf intCs s, .hsl 1 1 1 (1 + s.length), .hsl 2 0 1 1] : List AV).getD i' .dead := ⟨_, rfl⟩
            refine any_start hmix ?_
            refine any_eff3 (ν1 := [.row 28 M.length 1 (rowL intsCs M), .row 3 0 1 [[I x]]]) (ν2 := [.row 28 M.length 1 (rowL intsCs M), .row 3 1 1 (rowL intCs (x :: s))]) (ν3 := [.row 28 M.length 1 (rowL intsCs M), .row 3 1 1 (rowL intCs (x :: s)), .row 28 0 1 [[.hsl 1 1 1 (1 + s.length)]]]) 12 5 10 11 [0, 1, 2, 3, 4, 6, 7, 8, 9] R (by kernel_rfl) (by omega) (by omega) (by omega) (by omega) (by omega) (by omega) (by kernel_rfl) (by kernel_rfl) (by kernel_rfl) (fun i' a1 a2 a3 a4 => by simp only [List.mem_cons, List.not_mem_nil, or_false]; omega) ?_ ?_ ?_ ?_ ?_
            · simp only [List.forall_mem_cons, List.forall_mem_nil, List.not_mem_nil, false_implies, implies_true, and_true]
              refine ⟨?_, ?_, ?_, ?_, ?_, ?_, ?_, ?_, ?_⟩
              all_goals
                intro β
                refine .inl ⟨rfl, rfl, ?_⟩
                rw [hR]
                simp (disch := omega) only [envAt, opAt, List.getD_cons_succ, List.getD_cons_zero, slOf, intCs, intsCs, hx, hs, pushE, quietK, and_self, if_true, wv, simprocAttr, ev0, sl_cells]
            · rw [hR]
              refine ⟨rfl, ?_⟩
              simp (disch := omega) only [envAt, opAt, List.getD_cons_succ, List.getD_cons_zero, slOf, intCs, intsCs, hx, hs, pushE, quietK, and_self, if_true, wv, simprocAttr, ev0, sl_cells, nm, Nat.reduceAdd]
            · rw [hR]
              refine ⟨rfl, ?_⟩
              simp (disch := omega) only [envAt, opAt, List.getD_cons_succ, List.getD_cons_zero, slOf, intCs, intsCs, hx, hs, pushE, quietK, and_self, if_true, wv, simprocAttr, ev0, sl_cells, nm, Nat.reduceAdd]
              rw [range_all, if_pos rfl]
              simp only [List.length_map, List.length_range]
              rw [if_pos ⟨by omega, by omega⟩, sl_rangeI]
              rfl
            · rw [hR]
              refine ⟨rfl, ?_⟩
              simp (disch := omega) only [envAt, opAt, List.getD_cons_succ, List.getD_cons_zero, slOf, intCs, intsCs, hx, hs, pushE, quietK, and_self, if_true, wv, simprocAttr, ev0, sl_cells, nm, Nat.reduceAdd]
            · refine any_seq 12 14 (by kernel_rfl) ?_
              simp only [nt]
              rw [hR]
              simp only [envAt, opAt, List.getD_cons_succ, List.getD_cons_zero, pushE]
              repeat' (first | ((first | refine o1 rfl ?_ | refine o0 rfl ?_); intro k hk; simp (disch := omega) only [ev0, sl_cells, simprocAttr]; refine hk _ _ ?_; clear hk k) | refine ono rfl ?_ | ((first | refine osplitG rfl (fun h => ?_) (fun h => ?_) | refine osplitB rfl (fun h => ?_) (fun h => ?_)) <;> (fail_if_success (simp only [eq_self, reduceCtorEq] at h))) | refine onx ?_ | refine onb ?_ | refine sreg ?_ | refine qT rfl ?_ | refine qF rfl ?_ | refine scondT rfl ?_ | refine scondF rfl ?_ | refine ocondP rfl (fun h => ?_) (fun h => ?_) | refine ocondB rfl (fun h => ?_) (fun h => ?_) | refine scondP rfl (fun h => ?_) (fun h => ?_) | refine scond rfl (fun h => ?_) (fun h => ?_) | refine oskip ?_ | refine oskipb ?_ | refine oret ?_ | refine sem_ret ?_ | refine sem_seq ?_ | refine sreg1 ?_)
              simp only [e1]
              refine onil ?_
              change AnyC _ _ _ _ _ 14 _
              refine any_end 14 rfl ?_
              change sem _ _ _ _ _
              have hlx : (x :: s).length = 1 + s.length := by rw [List.length_cons]; omega
              refine sem_frzlist (enc := intCs) (l := x :: s) 1 rfl (fun _ => rfl) ?_
              rw [hlx]
              simp only [frzE, frzM, frzO, frzA, frzL, List.map_cons, List.map_nil, List.set_cons_zero, List.set_cons_succ, Nat.reduceEqDiff, if_true, if_false, and_self, Nat.le_refl, reduceIte, frz_sl]
              have gr : ∀ a : List Int, frzL 1 1 1 (1 + s.length) (fun i => intCs ((x :: s).getD i default)) (intsCs a) = intsCs a := fun _ => rfl
              try simp only [List.map_append, frz_rowL gr]
              have hrow : rowL intsCs M ++ [[AV.sl (1 + s.length) fun i => intCs ((x :: s).getD i default)]] = rowL intsCs (M ++ [x :: s]) := by
                rw [← rowL_app, ← hlx]; rfl
              have hMe : L ++ (T.take (j + 1)).map (x :: ·) = M ++ [x :: s] := by rw [← hM, List.append_assoc, hMs]
              have hMx : (M ++ [x :: s]).length = M.length + 1 := by simp
              simp only [frzA, frzL, List.map_cons, List.map_nil, if_true, and_self, Nat.le_refl, reduceIte, hrow]
              repeat' (first | ((first | refine o1 rfl ?_ | refine o0 rfl ?_); intro k hk; simp (disch := omega) only [ev0, sl_cells, simprocAttr]; refine hk _ _ ?_; clear hk k) | refine ono rfl ?_ | ((first | refine osplitG rfl (fun h => ?_) (fun h => ?_) | refine osplitB rfl (fun h => ?_) (fun h => ?_)) <;> (fail_if_success (simp only [eq_self, reduceCtorEq] at h))) | refine onx ?_ | refine onb ?_ | refine sreg ?_ | refine qT rfl ?_ | refine qF rfl ?_ | refine scondT rfl ?_ | refine scondF rfl ?_ | refine ocondP rfl (fun h => ?_) (fun h => ?_) | refine ocondB rfl (fun h => ?_) (fun h => ?_) | refine scondP rfl (fun h => ?_) (fun h => ?_) | refine scond rfl (fun h => ?_) (fun h => ?_) | refine oskip ?_ | refine oskipb ?_ | refine oret ?_ | refine sem_ret ?_ | refine sem_seq ?_ | refine sreg1 ?_)
              refine onil (lnext (j + 1) (by omega) (by omega) ?_)
              rw [hMe, hMx]
              (refine Le.drop ?_ rfl (by simp) rfl (by simp only [refM, refO, List.all_cons, List.all_nil, Bool.and_true, Bool.true_and, rowL_all (enc := intsCs) (fun _ _ => rfl)]; first | done | rfl) ; simp only [List.forall_mem_cons, List.forall_mem_nil, getE, selE, Nat.reduceBEq, List.not_mem_nil, false_implies, implies_true, and_true, true_and, and_self])
              simp
          · have hj' : j = T.length := by omega
            subst hj'
            rw [List.take_length] at hM
            (refine sem_exit ?_; change sem _ _ _ _ _)
            repeat' (first | ((first | refine o1 rfl ?_ | refine o0 rfl ?_); intro k hk; simp (disch := omega) only [ev0, sl_cells, simprocAttr]; refine hk _ _ ?_; clear hk k) | refine ono rfl ?_ | ((first | refine osplitG rfl (fun h => ?_) (fun h => ?_) | refine osplitB rfl (fun h => ?_) (fun h => ?_)) <;> (fail_if_success (simp only [eq_self, reduceCtorEq] at h))) | refine onx ?_ | refine onb ?_ | refine sreg ?_ | refine qT rfl ?_ | refine qF rfl ?_ | refine scondT rfl ?_ | refine scondF rfl ?_ | refine ocondP rfl (fun h => ?_) (fun h => ?_) | refine ocondB rfl (fun h => ?_) (fun h => ?_) | refine scondP rfl (fun h => ?_) (fun h => ?_) | refine scond rfl (fun h => ?_) (fun h => ?_) | refine oskip ?_ | refine oskipb ?_ | refine oret ?_ | refine sem_ret ?_ | refine sem_seq ?_ | refine sreg1 ?_)
            refine onil (lnext (i + 1, M) ⟨by simp only; omega, ?_⟩ (by simp only; omega) ?_)
            · simp only
              rw [← hM, List.append_assoc]; exact h2
            · (refine Le.same ?_; simp only [List.forall_mem_cons, List.forall_mem_nil, getE, selE, Nat.reduceBEq, List.not_mem_nil, false_implies, implies_true, and_true, true_and, and_self])
              simp
      · have hi : i = l.length := by omega
        subst hi
        have hS : setsL l (k + 1) = L := by
          rw [← h2, List.drop_length]; simp [setsL]
        rw [hS]
        (refine sem_exit ?_; change sem _ _ _ _ _)
        refine sem_frzlist (enc := intsCs) 0 rfl (fun _ => rfl) ?_
        simp only [frzE, frzM, frzO, frzA, frzL, List.map_cons, List.map_nil, List.set_cons_zero, List.set_cons_succ, Nat.reduceEqDiff, if_true, if_false, and_self, Nat.le_refl, reduceIte, frz_sl]
        repeat' (first | ((first | refine o1 rfl ?_ | refine o0 rfl ?_); intro k hk; simp (disch := omega) only [ev0, sl_cells, simprocAttr]; refine hk _ _ ?_; clear hk k) | refine ono rfl ?_ | ((first | refine osplitG rfl (fun h => ?_) (fun h => ?_) | refine osplitB rfl (fun h => ?_) (fun h => ?_)) <;> (fail_if_success (simp only [eq_self, reduceCtorEq] at h))) | refine onx ?_ | refine onb ?_ | refine sreg ?_ | refine qT rfl ?_ | refine qF rfl ?_ | refine scondT rfl ?_ | refine scondF rfl ?_ | refine ocondP rfl (fun h => ?_) (fun h => ?_) | refine ocondB rfl (fun h => ?_) (fun h => ?_) | refine scondP rfl (fun h => ?_) (fun h => ?_) | refine scond rfl (fun h => ?_) (fun h => ?_) | refine oskip ?_ | refine oskipb ?_ | refine oret ?_ | refine sem_ret ?_ | refine sem_seq ?_ | refine sreg1 ?_)
        exact ⟨_, rfl, _, rfl, tree_eq rfl rfl⟩
end Go.Proofs.Ytnempffajbdneaa

/- The reference: breaks. -/
set_option linter.unusedVariables false
set_option linter.unusedSimpArgs false
set_option maxRecDepth 8000
set_option maxHeartbeats 4000000
namespace Go.Tk
open Go Go.Av
/-- The first of the fewest whose failure makes a house uneven. -/
def brL (t : CoolTown) (b : List Int) (f y : Nat) : Option (List Int) := if levM t y f (setB b) = true then none else some (listB ((brkW t b f y).getD 0))
def optL : Option (List Int) → AV
  | none => .nilsl
  | some s => slOf intCs s
/-- What the reference tells of a break. -/
def refBr (t : CoolTown) (b : List Int) (f : Nat) : AV := match brk t f (setB b) t.houses.length with
  | none => .tup [I (-1), .nilsl]
  | some y => .tup [I y, slOf intCs (listB ((brkW t b f y).getD 0))]
section
variable {t : CoolTown} (ht : t.ok) {b : List Int} (hb : coolersOk t.sites.length b)
include ht hb
theorem len10 : b.length ≤ 10 := by
  rw [← hb.list ht.2.1.2]; exact listB_len _
/-- The first set that is found is the one. -/
theorem brL_some {f y k i : Nat} (hy : y < t.houses.length) (hk : k ≤ f) (h1 : ∀ j, j < k → ∀ s ∈ setsL b j, levelB t (withoutL b s) y = true) (hi : i < (setsL b k).length) (h2 : ∀ j, j < i → levelB t (withoutL b ((setsL b k).getD j default)) y = true)
    (h3 : levelB t (withoutL b ((setsL b k).getD i default)) y = false) : brL t b f y = some ((setsL b k).getD i default) := by
  have hm : (setsL b k).getD i default ∈ setsL b k := by rw [getD_lt hi]; exact List.getElem_mem _
  obtain ⟨hs1, hs2⟩ := mem_sets.1 hm
  have hl : levM t y f (setB b) = false := by
    cases hl : levM t y f (setB b) with
    | false => rfl
    | true =>
      have := lev_len ht hb hy hl (r := (setsL b k).getD i default) (by omega)
      rw [h3] at this
      cases this
  obtain ⟨l, l1, l2, l3, l4, l5⟩ := brk_told ht hb hy hl
  unfold brL
  rw [hl, if_neg (by simp), l1, Option.getD_some, (sub_ok ht hb l2).list ht.2.1.2]
  congr 1
  have hlk : l.length = k := by
    rcases l5 _ hs1 (by omega) h3 with h | ⟨h, -⟩
    · have := h1 l.length (by omega) l (mem_sets.2 ⟨l2, rfl⟩)
      rw [l4] at this
      cases this
    · omega
  have hlm : l ∈ setsL b k := mem_sets.2 ⟨l2, hlk⟩
  obtain ⟨j, hj, rfl⟩ := List.getElem_of_mem hlm
  have hji : ¬ j < i := fun q => by
    have := h2 j q
    rw [getD_lt hj, l4] at this
    cases this
  by_cases e : j = i
  · subst e; rw [getD_lt hj]
  · exfalso
    have := List.pairwise_iff_getElem.1 (sets_sorted hb.up (k := k)) i j hi hj (by omega)
    rcases l5 _ hs1 (by omega) h3 with h | ⟨-, h⟩
    · omega
    · rw [getD_lt hi, this] at h
      cases h
theorem brL_none {f y : Nat} (hy : y < t.houses.length) (h1 : ∀ j, j ≤ f → j ≤ b.length → ∀ s ∈ setsL b j, levelB t (withoutL b s) y = true) : brL t b f y = none := by
  unfold brL
  cases hl : levM t y f (setB b) with
  | true => rw [if_pos rfl]
  | false =>
    obtain ⟨r, r1, r2, r3⟩ := lev_not ht hb hy hl
    have := h1 r.length r2 r1.length_le r (mem_sets.2 ⟨r1, rfl⟩)
    rw [r3] at this
    cases this
end
end Go.Tk
namespace Go.Proofs.Ytnempffajbdneaa
open Go Go.Av Go.Tk
attribute [local irreducible] Holds sem semL ACalls FnIs levelB levM brkW
variable {G : World → Prop} (hG : ∀ w w', G w → RowKit.Below w.heap.size w w' → G w')
include hG
theorem ref03_Breaks (t : CoolTown) (ht : t.ok) (b : List Int) (hb : coolersOk t.sites.length b) (f : Nat) (hf : f ≤ 3) (y : Nat) (hy : y < t.houses.length) :
    Holds Try.prog G F.ref03_Breaks [.agg t.cs, slOf intCs b, I f, I y] (.tup [optL (brL t b f y), B (brL t b f y).isSome]) := by
  have hbl := len10 ht hb
  have hSe := fun k (h : k ≤ 100) => ref03_Sets hG k b hbl h
  have hWi := fun s (h : s.length ≤ 10) => ref03_Without hG b s (by omega) (by omega)
  have hLe := fun s => ref03_Level hG t ht (withoutL b s) (by have := without_len b s; omega) (fun i hi => hb.mem i (mem_without.1 hi).1) y hy
  have hsome := fun k i => brL_some ht hb (f := f) (y := y) (k := k) (i := i) hy
  have hnone := brL_none ht hb (f := f) hy
  generalize brL t b f y = r at *
  (refine holds_of_sem hG fn_ref03_Breaks (by simp) fun w0 S0 hG0 D0 => ?_; unfold c_ref03_Breaks cval enterEnv; simp only [List.zipIdx_cons, List.zipIdx_nil, List.map_cons, List.map_nil, Nat.zero_add, Nat.reduceAdd])
  repeat' (first | ((first | refine o1 rfl ?_ | refine o0 rfl ?_); intro k hk; simp (disch := omega) only [ev0, sl_cells, simprocAttr]; refine hk _ _ ?_; clear hk k) | refine ono rfl ?_ | ((first | refine osplitG rfl (fun h => ?_) (fun h => ?_) | refine osplitB rfl (fun h => ?_) (fun h => ?_)) <;> (fail_if_success (simp only [eq_self, reduceCtorEq] at h))) | refine onx ?_ | refine onb ?_ | refine sreg ?_ | refine qT rfl ?_ | refine qF rfl ?_ | refine scondT rfl ?_ | refine scondF rfl ?_ | refine ocondP rfl (fun h => ?_) (fun h => ?_) | refine ocondB rfl (fun h => ?_) (fun h => ?_) | refine scondP rfl (fun h => ?_) (fun h => ?_) | refine scond rfl (fun h => ?_) (fun h => ?_) | refine oskip ?_ | refine oskipb ?_ | refine oret ?_ | refine sem_ret ?_ | refine sem_seq ?_ | refine sreg1 ?_)
  refine sem_block ?_
  
  refine sem_loop (α := Nat) (fun k => ⟨[(1, slOf intCs b), (2, I f), (3, I y), (4, .ptr 0 0 2 0 0), (10, I k)], [.row 25 0 2 [t.cs]]⟩) (fun k => k ≤ f + 1 ∧ k ≤ b.length + 1 ∧ ∀ j, j < k → ∀ s ∈ setsL b j, levelB t (withoutL b s) y = true) (fun k => f + 1 - k) 0 ⟨Nat.zero_le _, Nat.zero_le _, fun j hj => absurd hj (Nat.not_lt_zero _)⟩ ?_ ?_
  · (refine Le.same ?_; simp only [List.forall_mem_cons, List.forall_mem_nil, getE, selE, Nat.reduceBEq, List.not_mem_nil, false_implies, implies_true, and_true, true_and, and_self])
    simp [slOf, CoolTown.cs]
  · rintro k ⟨h1, h2, h3⟩
    by_cases q1 : k ≤ f
    · have q1' : (k : Int) ≤ f := by omega
      by_cases q2 : k ≤ b.length
      · have q2' : (k : Int) ≤ b.length := by omega
        have hSk := hSe k (by omega)
        have hsk := hsome k
        have hsub : ∀ s ∈ setsL b k, s.length ≤ 10 := fun s hs => by
          have := (mem_sets.1 hs).1.length_le
          omega
        have hlen := sets_len_le (l := b) (k := k)
        have hp10 : 2 ^ b.length ≤ 2 ^ 10 := Nat.pow_le_pow_right (by omega) hbl
        have hstep : (∀ s ∈ setsL b k, levelB t (withoutL b s) y = true) → ∀ j, j < k + 1 → ∀ s ∈ setsL b j, levelB t (withoutL b s) y = true := fun q j hj s hs => by
          by_cases e : j = k
          · subst e; exact q s hs
          · exact h3 j (by omega) s hs
        generalize setsL b k = T at *
        repeat' (first | ((first | refine o1 rfl ?_ | refine o0 rfl ?_); intro k hk; simp (disch := omega) only [ev0, sl_cells, simprocAttr, slOf, q1', q2']; refine hk _ _ ?_; clear hk k) | refine ono rfl ?_ | ((first | refine osplitG rfl (fun h => ?_) (fun h => ?_) | refine osplitB rfl (fun h => ?_) (fun h => ?_)) <;> (fail_if_success (simp only [eq_self, reduceCtorEq] at h))) | refine onx ?_ | refine onb ?_ | refine sreg ?_ | refine qT rfl ?_ | refine qF rfl ?_ | refine scondT rfl ?_ | refine scondF rfl ?_ | refine ocondP rfl (fun h => ?_) (fun h => ?_) | refine ocondB rfl (fun h => ?_) (fun h => ?_) | refine scondP rfl (fun h => ?_) (fun h => ?_) | refine scond rfl (fun h => ?_) (fun h => ?_) | refine oskip ?_ | refine oskipb ?_ | refine oret ?_ | refine sem_ret ?_ | refine sem_seq ?_ | refine sreg1 ?_)
        refine sem_block ?_
        repeat' (first | ((first | refine o1 rfl ?_ | refine o0 rfl ?_); intro k hk; simp (disch := omega) only [ev0, sl_cells, simprocAttr, slOf]; refine hk _ _ ?_; clear hk k) | refine ono rfl ?_ | (apply ocall; (case he => (simp only [ev0, sl_cells, simprocAttr] <;> rfl)); (case hc => first | exact hSk); (case ht => rfl); (case hg => rfl)) | ((first | refine osplitG rfl (fun h => ?_) (fun h => ?_) | refine osplitB rfl (fun h => ?_) (fun h => ?_)) <;> (fail_if_success (simp only [eq_self, reduceCtorEq] at h))) | refine onx ?_ | refine onb ?_ | refine sreg ?_ | refine qT rfl ?_ | refine qF rfl ?_ | refine scondT rfl ?_ | refine scondF rfl ?_ | refine ocondP rfl (fun h => ?_) (fun h => ?_) | refine ocondB rfl (fun h => ?_) (fun h => ?_) | refine scondP rfl (fun h => ?_) (fun h => ?_) | refine scond rfl (fun h => ?_) (fun h => ?_) | refine oskip ?_ | refine oskipb ?_ | refine oret ?_ | refine sem_ret ?_ | refine sem_seq ?_ | refine sreg1 ?_)
        refine sem_block ?_
        
        refine sem_loop (α := Nat) (fun i => ⟨[(1, slOf intCs b), (2, I f), (3, I y), (4, .ptr 0 0 2 0 0), (10, I k), (11, slOf intsCs T), (12, I i)], [.row 25 0 2 [t.cs]]⟩) (fun i => i ≤ T.length ∧ ∀ j, j < i → levelB t (withoutL b (T.getD j default)) y = true) (fun i => T.length - i) 0 ⟨Nat.zero_le _, fun j hj => absurd hj (Nat.not_lt_zero _)⟩ ?_ ?_
        · (refine Le.same ?_; simp only [List.forall_mem_cons, List.forall_mem_nil, getE, selE, Nat.reduceBEq, List.not_mem_nil, false_implies, implies_true, and_true, true_and, and_self])
          simp [slOf, CoolTown.cs]
        · rintro i ⟨h4, h5⟩
          repeat' (first | ((first | refine o1 rfl ?_ | refine o0 rfl ?_); intro k hk; simp (disch := omega) only [ev0, sl_cells, simprocAttr, slOf]; refine hk _ _ ?_; clear hk k) | refine ono rfl ?_ | ((first | refine osplitG rfl (fun h => ?_) (fun h => ?_) | refine osplitB rfl (fun h => ?_) (fun h => ?_)) <;> (fail_if_success (simp only [eq_self, reduceCtorEq] at h))) | refine onx ?_ | refine onb ?_ | refine sreg ?_ | refine qT rfl ?_ | refine qF rfl ?_ | refine scondT rfl ?_ | refine scondF rfl ?_ | refine ocondP rfl (fun h => ?_) (fun h => ?_) | refine ocondB rfl (fun h => ?_) (fun h => ?_) | refine scondP rfl (fun h => ?_) (fun h => ?_) | refine scond rfl (fun h => ?_) (fun h => ?_) | refine oskip ?_ | refine oskipb ?_ | refine oret ?_ | refine sem_ret ?_ | refine sem_seq ?_ | refine sreg1 ?_)
          · have hi' : i < T.length := by omega
            have hsi := hsk i q1 h3 hi' h5
            have hsl := hsub (T.getD i default) (by rw [getD_lt hi']; exact List.getElem_mem _)
            have hWs := hWi (T.getD i default) hsl
            have hLs := hLe (T.getD i default)
            have hnx : levelB t (withoutL b (T.getD i default)) y = true → ∀ j, j < i + 1 → levelB t (withoutL b (T.getD j default)) y = true := fun q j hj => by
              by_cases e : j = i
              · subst e; exact q
              · exact h5 j (by omega)
            have hwl := without_len b (T.getD i default)
            generalize levelB t (withoutL b (T.getD i default)) y = v at *
            generalize hs : T.getD i default = s at *
            generalize withoutL b s = W at *
            refine sem_block ?_
            cases v with
            | true =>
              repeat' (first | ((first | refine o1 rfl ?_ | refine o0 rfl ?_); intro k hk; simp (disch := omega) only [ev0, sl_cells, simprocAttr]; refine hk _ _ ?_; clear hk k) | refine ono rfl ?_ | ((first | refine osplitG rfl (fun h => ?_) (fun h => ?_) | refine osplitB rfl (fun h => ?_) (fun h => ?_)) <;> (fail_if_success (simp only [eq_self, reduceCtorEq] at h))) | refine onx ?_ | refine onb ?_ | refine sreg ?_ | refine qT rfl ?_ | refine qF rfl ?_ | refine scondT rfl ?_ | refine scondF rfl ?_ | refine ocondP rfl (fun h => ?_) (fun h => ?_) | refine ocondB rfl (fun h => ?_) (fun h => ?_) | refine scondP rfl (fun h => ?_) (fun h => ?_) | refine scond rfl (fun h => ?_) (fun h => ?_) | refine oskip ?_ | refine oskipb ?_ | refine oret ?_ | refine sem_ret ?_ | refine sem_seq ?_ | refine sreg1 ?_)
              ((refine sem_mgo 8 hmix (by kernel_rfl) ?_; simp only [nt]); (repeat' (first | ((first | apply mop | apply mop0); (case hg => rfl); (case hq => rfl); intro k hk; simp (disch := omega) only [ev0, sl_cells, simprocAttr, slOf, intsCs, intCs, hs]; refine hk _ _ rfl ?_; clear hk k) | (apply mno; (case hg => rfl)) | (apply mcall; (case he => (simp only [ev0, sl_cells, simprocAttr] <;> rfl)); (case hc => first | exact hWs | exact hLs); (case ht => rfl); (case hg => rfl); (case hr => rfl)) | (apply mbox; (case hx => (simp only [wv, simprocAttr] <;> rfl)); (case hg => rfl); (case hall => rfl); (case hr => rfl); simp only [nm, Nat.reduceAdd]) | (apply mbldS; (case hb => (simp (disch := omega) only [ev0, sl_cells, simprocAttr] <;> rfl)); (case hg => rfl); (case hr => rfl); simp only [nm, Nat.reduceAdd]) | ((first | (apply msto (q := 0); (case hq => rfl)) | (apply msto (q := 1); (case hq => rfl)) | (apply msto (q := 2); (case hq => rfl)) | (apply msto (q := 3); (case hq => rfl))); (case hx => (simp only [wv, simprocAttr] <;> rfl)); (case haddr => (simp only [wv, simprocAttr] <;> rfl)); (case hg => rfl); (case hl1 => rfl); (case hl2 => rfl); (case hok => rfl); (case hr => rfl); simp only [nm, Nat.reduceAdd]) | (apply mnil; simp only [SlotR.fin, ns]) | (refine msplit rfl (fun h => ?_) (fun h => ?_) <;> simp only [h] <;> (try simp only [nb] at h)))) <;> (repeat' (first | ((first | refine o1 rfl ?_ | refine o0 rfl ?_); intro k hk; simp (disch := omega) only [ev0, sl_cells, simprocAttr, slOf, intsCs, intCs, hs]; refine hk _ _ ?_; clear hk k) | refine ono rfl ?_ | (apply ocall; (case he => (simp only [ev0, sl_cells, simprocAttr] <;> rfl)); (case hc => first | exact hWs | exact hLs); (case ht => rfl); (case hg => rfl)) | ((first | refine osplitG rfl (fun h => ?_) (fun h => ?_) | refine osplitB rfl (fun h => ?_) (fun h => ?_)) <;> (fail_if_success (simp only [eq_self, reduceCtorEq] at h))) | refine onx ?_ | refine onb ?_ | refine sreg ?_ | refine qT rfl ?_ | refine qF rfl ?_ | refine scondT rfl ?_ | refine scondF rfl ?_ | refine ocondP rfl (fun h => ?_) (fun h => ?_) | refine ocondB rfl (fun h => ?_) (fun h => ?_) | refine scondP rfl (fun h => ?_) (fun h => ?_) | refine scond rfl (fun h => ?_) (fun h => ?_) | refine oskip ?_ | refine oskipb ?_ | refine oret ?_ | refine sem_ret ?_ | refine sem_seq ?_ | refine sreg1 ?_)))
              refine onil (lnext (i + 1) ⟨by omega, hnx rfl⟩ (by omega) ?_)
              (refine Le.drop ?_ rfl (by simp) rfl rfl; simp only [List.forall_mem_cons, List.forall_mem_nil, getE, selE, Nat.reduceBEq, List.not_mem_nil, false_implies, implies_true, and_true, true_and, and_self])
              simp [slOf]
            | false =>
              rw [hsi rfl]
              repeat' (first | ((first | refine o1 rfl ?_ | refine o0 rfl ?_); intro k hk; simp (disch := omega) only [ev0, sl_cells, simprocAttr]; refine hk _ _ ?_; clear hk k) | refine ono rfl ?_ | ((first | refine osplitG rfl (fun h => ?_) (fun h => ?_) | refine osplitB rfl (fun h => ?_) (fun h => ?_)) <;> (fail_if_success (simp only [eq_self, reduceCtorEq] at h))) | refine onx ?_ | refine onb ?_ | refine sreg ?_ | refine qT rfl ?_ | refine qF rfl ?_ | refine scondT rfl ?_ | refine scondF rfl ?_ | refine ocondP rfl (fun h => ?_) (fun h => ?_) | refine ocondB rfl (fun h => ?_) (fun h => ?_) | refine scondP rfl (fun h => ?_) (fun h => ?_) | refine scond rfl (fun h => ?_) (fun h => ?_) | refine oskip ?_ | refine oskipb ?_ | refine oret ?_ | refine sem_ret ?_ | refine sem_seq ?_ | refine sreg1 ?_)
              ((refine sem_mgo 8 hmix (by kernel_rfl) ?_; simp only [nt]); (repeat' (first | ((first | apply mop | apply mop0); (case hg => rfl); (case hq => rfl); intro k hk; simp (disch := omega) only [ev0, sl_cells, simprocAttr, slOf, intsCs, intCs, hs]; refine hk _ _ rfl ?_; clear hk k) | (apply mno; (case hg => rfl)) | (apply mcall; (case he => (simp only [ev0, sl_cells, simprocAttr] <;> rfl)); (case hc => first | exact hWs | exact hLs); (case ht => rfl); (case hg => rfl); (case hr => rfl)) | (apply mbox; (case hx => (simp only [wv, simprocAttr] <;> rfl)); (case hg => rfl); (case hall => rfl); (case hr => rfl); simp only [nm, Nat.reduceAdd]) | (apply mbldS; (case hb => (simp (disch := omega) only [ev0, sl_cells, simprocAttr] <;> rfl)); (case hg => rfl); (case hr => rfl); simp only [nm, Nat.reduceAdd]) | ((first | (apply msto (q := 0); (case hq => rfl)) | (apply msto (q := 1); (case hq => rfl)) | (apply msto (q := 2); (case hq => rfl)) | (apply msto (q := 3); (case hq => rfl))); (case hx => (simp only [wv, simprocAttr] <;> rfl)); (case haddr => (simp only [wv, simprocAttr] <;> rfl)); (case hg => rfl); (case hl1 => rfl); (case hl2 => rfl); (case hok => rfl); (case hr => rfl); simp only [nm, Nat.reduceAdd]) | (apply mnil; simp only [SlotR.fin, ns]) | (refine msplit rfl (fun h => ?_) (fun h => ?_) <;> simp only [h] <;> (try simp only [nb] at h)))) <;> (repeat' (first | ((first | refine o1 rfl ?_ | refine o0 rfl ?_); intro k hk; simp (disch := omega) only [ev0, sl_cells, simprocAttr, slOf, intsCs, intCs, hs]; refine hk _ _ ?_; clear hk k) | refine ono rfl ?_ | (apply ocall; (case he => (simp only [ev0, sl_cells, simprocAttr] <;> rfl)); (case hc => first | exact hWs | exact hLs); (case ht => rfl); (case hg => rfl)) | ((first | refine osplitG rfl (fun h => ?_) (fun h => ?_) | refine osplitB rfl (fun h => ?_) (fun h => ?_)) <;> (fail_if_success (simp only [eq_self, reduceCtorEq] at h))) | refine onx ?_ | refine onb ?_ | refine sreg ?_ | refine qT rfl ?_ | refine qF rfl ?_ | refine scondT rfl ?_ | refine scondF rfl ?_ | refine ocondP rfl (fun h => ?_) (fun h => ?_) | refine ocondB rfl (fun h => ?_) (fun h => ?_) | refine scondP rfl (fun h => ?_) (fun h => ?_) | refine scond rfl (fun h => ?_) (fun h => ?_) | refine oskip ?_ | refine oskipb ?_ | refine oret ?_ | refine sem_ret ?_ | refine sem_seq ?_ | refine sreg1 ?_)))
              unfold optL
              exact ⟨_, rfl, _, rfl, tree_eq rfl rfl⟩
          · have hi' : i = T.length := by omega
            subst hi'
            (refine sem_exit ?_; change sem _ _ _ _ _)
            repeat' (first | ((first | refine o1 rfl ?_ | refine o0 rfl ?_); intro k hk; simp (disch := omega) only [ev0, sl_cells, simprocAttr]; refine hk _ _ ?_; clear hk k) | refine ono rfl ?_ | ((first | refine osplitG rfl (fun h => ?_) (fun h => ?_) | refine osplitB rfl (fun h => ?_) (fun h => ?_)) <;> (fail_if_success (simp only [eq_self, reduceCtorEq] at h))) | refine onx ?_ | refine onb ?_ | refine sreg ?_ | refine qT rfl ?_ | refine qF rfl ?_ | refine scondT rfl ?_ | refine scondF rfl ?_ | refine ocondP rfl (fun h => ?_) (fun h => ?_) | refine ocondB rfl (fun h => ?_) (fun h => ?_) | refine scondP rfl (fun h => ?_) (fun h => ?_) | refine scond rfl (fun h => ?_) (fun h => ?_) | refine oskip ?_ | refine oskipb ?_ | refine oret ?_ | refine sem_ret ?_ | refine sem_seq ?_ | refine sreg1 ?_)
            refine onil (lnext (k + 1) ⟨by omega, by omega, hstep fun s hs => ?_⟩ (by omega) ?_)
            · obtain ⟨j, hj, rfl⟩ := List.getElem_of_mem hs
              rw [← getD_lt hj]
              exact h5 j hj
            · (refine Le.drop ?_ rfl (by simp) rfl rfl; simp only [List.forall_mem_cons, List.forall_mem_nil, getE, selE, Nat.reduceBEq, List.not_mem_nil, false_implies, implies_true, and_true, true_and, and_self])
              simp [slOf]
      · have q2' : ¬ (k : Int) ≤ b.length := by omega
        repeat' (first | ((first | refine o1 rfl ?_ | refine o0 rfl ?_); intro k hk; simp (disch := omega) only [ev0, sl_cells, simprocAttr, slOf, q1', q2']; refine hk _ _ ?_; clear hk k) | refine ono rfl ?_ | ((first | refine osplitG rfl (fun h => ?_) (fun h => ?_) | refine osplitB rfl (fun h => ?_) (fun h => ?_)) <;> (fail_if_success (simp only [eq_self, reduceCtorEq] at h))) | refine onx ?_ | refine onb ?_ | refine sreg ?_ | refine qT rfl ?_ | refine qF rfl ?_ | refine scondT rfl ?_ | refine scondF rfl ?_ | refine ocondP rfl (fun h => ?_) (fun h => ?_) | refine ocondB rfl (fun h => ?_) (fun h => ?_) | refine scondP rfl (fun h => ?_) (fun h => ?_) | refine scond rfl (fun h => ?_) (fun h => ?_) | refine oskip ?_ | refine oskipb ?_ | refine oret ?_ | refine sem_ret ?_ | refine sem_seq ?_ | refine sreg1 ?_)
        (refine sem_exit ?_; change sem _ _ _ _ _)
        rw [hnone fun j h4 h5 => h3 j (by omega)]
        repeat' (first | ((first | refine o1 rfl ?_ | refine o0 rfl ?_); intro k hk; simp (disch := omega) only [ev0, sl_cells, simprocAttr]; refine hk _ _ ?_; clear hk k) | refine ono rfl ?_ | ((first | refine osplitG rfl (fun h => ?_) (fun h => ?_) | refine osplitB rfl (fun h => ?_) (fun h => ?_)) <;> (fail_if_success (simp only [eq_self, reduceCtorEq] at h))) | refine onx ?_ | refine onb ?_ | refine sreg ?_ | refine qT rfl ?_ | refine qF rfl ?_ | refine scondT rfl ?_ | refine scondF rfl ?_ | refine ocondP rfl (fun h => ?_) (fun h => ?_) | refine ocondB rfl (fun h => ?_) (fun h => ?_) | refine scondP rfl (fun h => ?_) (fun h => ?_) | refine scond rfl (fun h => ?_) (fun h => ?_) | refine oskip ?_ | refine oskipb ?_ | refine oret ?_ | refine sem_ret ?_ | refine sem_seq ?_ | refine sreg1 ?_)
        unfold optL
        exact ⟨_, rfl, _, rfl, tree_eq rfl rfl⟩
    · have q1' : ¬ (k : Int) ≤ f := by omega
      repeat' (first | ((first | refine o1 rfl ?_ | refine o0 rfl ?_); intro k hk; simp (disch := omega) only [ev0, sl_cells, simprocAttr, slOf, q1']; refine hk _ _ ?_; clear hk k) | refine ono rfl ?_ | ((first | refine osplitG rfl (fun h => ?_) (fun h => ?_) | refine osplitB rfl (fun h => ?_) (fun h => ?_)) <;> (fail_if_success (simp only [eq_self, reduceCtorEq] at h))) | refine onx ?_ | refine onb ?_ | refine sreg ?_ | refine qT rfl ?_ | refine qF rfl ?_ | refine scondT rfl ?_ | refine scondF rfl ?_ | refine ocondP rfl (fun h => ?_) (fun h => ?_) | refine ocondB rfl (fun h => ?_) (fun h => ?_) | refine scondP rfl (fun h => ?_) (fun h => ?_) | refine scond rfl (fun h => ?_) (fun h => ?_) | refine oskip ?_ | refine oskipb ?_ | refine oret ?_ | refine sem_ret ?_ | refine sem_seq ?_ | refine sreg1 ?_)
      (refine sem_exit ?_; change sem _ _ _ _ _)
      rw [hnone fun j h4 h5 => h3 j (by omega)]
      repeat' (first | ((first | refine o1 rfl ?_ | refine o0 rfl ?_); intro k hk; simp (disch := omega) only [ev0, sl_cells, simprocAttr]; refine hk _ _ ?_; clear hk k) | refine ono rfl ?_ | ((first | refine osplitG rfl (fun h => ?_) (fun h => ?_) | refine osplitB rfl (fun h => ?_) (fun h => ?_)) <;> (fail_if_success (simp only [eq_self, reduceCtorEq] at h))) | refine onx ?_ | refine onb ?_ | refine sreg ?_ | refine qT rfl ?_ | refine qF rfl ?_ | refine scondT rfl ?_ | refine scondF rfl ?_ | refine ocondP rfl (fun h => ?_) (fun h => ?_) | refine ocondB rfl (fun h => ?_) (fun h => ?_) | refine scondP rfl (fun h => ?_) (fun h => ?_) | refine scond rfl (fun h => ?_) (fun h => ?_) | refine oskip ?_ | refine oskipb ?_ | refine oret ?_ | refine sem_ret ?_ | refine sem_seq ?_ | refine sreg1 ?_)
      unfold optL
      exact ⟨_, rfl, _, rfl, tree_eq rfl rfl⟩
theorem ref03_Break (t : CoolTown) (ht : t.ok) (b : List Int) (hb : coolersOk t.sites.length b) (f : Nat) (hf : f ≤ 3) : Holds Try.prog G F.ref03_Break [.agg t.cs, slOf intCs b, I f] (refBr t b f) := by
  have hbl := len10 ht hb
  have hnh := ht.1
  have hBr := fun y hy => ref03_Breaks hG t ht b hb f hf y hy
  have hr1 : ∀ y, y < t.houses.length → (∀ j, j < y → levM t j f (setB b) = true) → levM t y f (setB b) = false → refBr t b f = .tup [I y, slOf intCs (listB ((brkW t b f y).getD 0))] := fun y hy h1 h2 => by
    unfold refBr brk
    rw [show (List.range t.houses.length).find? (fun y => !levM t y f (setB b)) = some y from List.find?_range_eq_some.2 ⟨by rw [h2]; rfl, List.mem_range.2 hy, fun j hj => by rw [h1 j hj]; rfl⟩]
  have hr2 : (∀ j, j < t.houses.length → levM t j f (setB b) = true) → refBr t b f = .tup [I (-1), .nilsl] := fun h => by
    unfold refBr
    rw [brk_iff.2 h]
  generalize refBr t b f = r at *
  (refine holds_of_sem hG fn_ref03_Break (by simp) fun w0 S0 hG0 D0 => ?_; unfold c_ref03_Break cval enterEnv; simp only [List.zipIdx_cons, List.zipIdx_nil, List.map_cons, List.map_nil, Nat.zero_add, Nat.reduceAdd])
  repeat' (first | ((first | refine o1 rfl ?_ | refine o0 rfl ?_); intro k hk; simp (disch := omega) only [ev0, sl_cells, simprocAttr]; refine hk _ _ ?_; clear hk k) | refine ono rfl ?_ | ((first | refine osplitG rfl (fun h => ?_) (fun h => ?_) | refine osplitB rfl (fun h => ?_) (fun h => ?_)) <;> (fail_if_success (simp only [eq_self, reduceCtorEq] at h))) | refine onx ?_ | refine onb ?_ | refine sreg ?_ | refine qT rfl ?_ | refine qF rfl ?_ | refine scondT rfl ?_ | refine scondF rfl ?_ | refine ocondP rfl (fun h => ?_) (fun h => ?_) | refine ocondB rfl (fun h => ?_) (fun h => ?_) | refine scondP rfl (fun h => ?_) (fun h => ?_) | refine scond rfl (fun h => ?_) (fun h => ?_) | refine oskip ?_ | refine oskipb ?_ | refine oret ?_ | refine sem_ret ?_ | refine sem_seq ?_ | refine sreg1 ?_)
  refine sem_block ?_
  
  refine sem_loop (α := Nat) (fun i => ⟨[(1, slOf intCs b), (2, I f), (3, .ptr 0 0 2 0 0), (8, I i)], [.row 25 0 2 [t.cs]]⟩) (fun i => i ≤ t.houses.length ∧ ∀ j, j < i → levM t j f (setB b) = true) (fun i => t.houses.length - i) 0 ⟨Nat.zero_le _, fun j hj => absurd hj (Nat.not_lt_zero _)⟩ ?_ ?_
  · (refine Le.same ?_; simp only [List.forall_mem_cons, List.forall_mem_nil, getE, selE, Nat.reduceBEq, List.not_mem_nil, false_implies, implies_true, and_true, true_and, and_self])
    simp [slOf, CoolTown.cs]
  · rintro i ⟨h1, h2⟩
    repeat' (first | ((first | refine o1 rfl ?_ | refine o0 rfl ?_); intro k hk; simp (disch := omega) only [ev0, sl_cells, simprocAttr, slOf, CoolTown.cs]; refine hk _ _ ?_; clear hk k) | refine ono rfl ?_ | ((first | refine osplitG rfl (fun h => ?_) (fun h => ?_) | refine osplitB rfl (fun h => ?_) (fun h => ?_)) <;> (fail_if_success (simp only [eq_self, reduceCtorEq] at h))) | refine onx ?_ | refine onb ?_ | refine sreg ?_ | refine qT rfl ?_ | refine qF rfl ?_ | refine scondT rfl ?_ | refine scondF rfl ?_ | refine ocondP rfl (fun h => ?_) (fun h => ?_) | refine ocondB rfl (fun h => ?_) (fun h => ?_) | refine scondP rfl (fun h => ?_) (fun h => ?_) | refine scond rfl (fun h => ?_) (fun h => ?_) | refine oskip ?_ | refine oskipb ?_ | refine oret ?_ | refine sem_ret ?_ | refine sem_seq ?_ | refine sreg1 ?_)
    · have hi' : i < t.houses.length := by omega
      have hBi := hBr i hi'
      have hri := hr1 i hi' h2
      have hnx : levM t i f (setB b) = true → ∀ j, j < i + 1 → levM t j f (setB b) = true := fun q j hj => by
        by_cases e : j = i
        · subst e; exact q
        · exact h2 j (by omega)
      unfold brL at hBi
      refine sem_block ?_
      cases hl : levM t i f (setB b) with
      | true =>
        rw [hl, if_pos rfl] at hBi
        simp only [optL, Option.isSome] at hBi
        repeat' (first | ((first | refine o1 rfl ?_ | refine o0 rfl ?_); intro k hk; simp (disch := omega) only [ev0, sl_cells, simprocAttr, slOf, CoolTown.cs]; refine hk _ _ ?_; clear hk k) | refine ono rfl ?_ | (apply ocall; (case he => (simp only [ev0, sl_cells, simprocAttr] <;> rfl)); (case hc => first | exact hBi); (case ht => rfl); (case hg => rfl)) | ((first | refine osplitG rfl (fun h => ?_) (fun h => ?_) | refine osplitB rfl (fun h => ?_) (fun h => ?_)) <;> (fail_if_success (simp only [eq_self, reduceCtorEq] at h))) | refine onx ?_ | refine onb ?_ | refine sreg ?_ | refine qT rfl ?_ | refine qF rfl ?_ | refine scondT rfl ?_ | refine scondF rfl ?_ | refine ocondP rfl (fun h => ?_) (fun h => ?_) | refine ocondB rfl (fun h => ?_) (fun h => ?_) | refine scondP rfl (fun h => ?_) (fun h => ?_) | refine scond rfl (fun h => ?_) (fun h => ?_) | refine oskip ?_ | refine oskipb ?_ | refine oret ?_ | refine sem_ret ?_ | refine sem_seq ?_ | refine sreg1 ?_)
        refine onil (lnext (i + 1) ⟨by omega, hnx hl⟩ (by omega) ?_)
        (refine Le.drop ?_ rfl (by simp) rfl rfl; simp only [List.forall_mem_cons, List.forall_mem_nil, getE, selE, Nat.reduceBEq, List.not_mem_nil, false_implies, implies_true, and_true, true_and, and_self])
        simp [slOf, CoolTown.cs]
      | false =>
        rw [hl, if_neg (by simp)] at hBi
        simp only [optL, Option.isSome] at hBi
        rw [hri hl]
        generalize listB ((brkW t b f i).getD 0) = l at *
        repeat' (first | ((first | refine o1 rfl ?_ | refine o0 rfl ?_); intro k hk; simp (disch := omega) only [ev0, sl_cells, simprocAttr, slOf, CoolTown.cs]; refine hk _ _ ?_; clear hk k) | refine ono rfl ?_ | (apply ocall; (case he => (simp only [ev0, sl_cells, simprocAttr] <;> rfl)); (case hc => first | exact hBi); (case ht => rfl); (case hg => rfl)) | ((first | refine osplitG rfl (fun h => ?_) (fun h => ?_) | refine osplitB rfl (fun h => ?_) (fun h => ?_)) <;> (fail_if_success (simp only [eq_self, reduceCtorEq] at h))) | refine onx ?_ | refine onb ?_ | refine sreg ?_ | refine qT rfl ?_ | refine qF rfl ?_ | refine scondT rfl ?_ | refine scondF rfl ?_ | refine ocondP rfl (fun h => ?_) (fun h => ?_) | refine ocondB rfl (fun h => ?_) (fun h => ?_) | refine scondP rfl (fun h => ?_) (fun h => ?_) | refine scond rfl (fun h => ?_) (fun h => ?_) | refine oskip ?_ | refine oskipb ?_ | refine oret ?_ | refine sem_ret ?_ | refine sem_seq ?_ | refine sreg1 ?_)
        exact ⟨_, rfl, _, rfl, tree_eq rfl rfl⟩
    · have hi' : i = t.houses.length := by omega
      subst hi'
      (refine sem_exit ?_; change sem _ _ _ _ _)
      rw [hr2 h2]
      repeat' (first | ((first | refine o1 rfl ?_ | refine o0 rfl ?_); intro k hk; simp (disch := omega) only [ev0, sl_cells, simprocAttr]; refine hk _ _ ?_; clear hk k) | refine ono rfl ?_ | ((first | refine osplitG rfl (fun h => ?_) (fun h => ?_) | refine osplitB rfl (fun h => ?_) (fun h => ?_)) <;> (fail_if_success (simp only [eq_self, reduceCtorEq] at h))) | refine onx ?_ | refine onb ?_ | refine sreg ?_ | refine qT rfl ?_ | refine qF rfl ?_ | refine scondT rfl ?_ | refine scondF rfl ?_ | refine ocondP rfl (fun h => ?_) (fun h => ?_) | refine ocondB rfl (fun h => ?_) (fun h => ?_) | refine scondP rfl (fun h => ?_) (fun h => ?_) | refine scond rfl (fun h => ?_) (fun h => ?_) | refine oskip ?_ | refine oskipb ?_ | refine oret ?_ | refine sem_ret ?_ | refine sem_seq ?_ | refine sreg1 ?_)
      exact ⟨_, rfl, _, rfl, tree_eq rfl rfl⟩
theorem ref03_Keeps (t : CoolTown) (ht : t.ok) (b : List Int) (hb : coolersOk t.sites.length b) (f : Nat) (hf : f ≤ 3) : Holds Try.prog G F.ref03_Keeps [.agg t.cs, slOf intCs b, I f] (B (keepsB t b f)) := by
  have hB := ref03_Break hG t ht b hb f hf
  unfold refBr at hB
  unfold keepsB
  cases hbk : brk t f (setB b) t.houses.length with
  | none =>
    rw [hbk] at hB
    simp only at hB
    (refine holds_of_sem hG fn_ref03_Keeps (by simp) fun w0 S0 hG0 D0 => ?_; unfold c_ref03_Keeps cval enterEnv; simp only [List.zipIdx_cons, List.zipIdx_nil, List.map_cons, List.map_nil, Nat.zero_add, Nat.reduceAdd])
    repeat' (first | ((first | refine o1 rfl ?_ | refine o0 rfl ?_); intro k hk; simp (disch := omega) only [ev0, sl_cells, simprocAttr]; refine hk _ _ ?_; clear hk k) | refine ono rfl ?_ | (apply ocall; (case he => (simp only [ev0, sl_cells, simprocAttr] <;> rfl)); (case hc => first | exact hB); (case ht => rfl); (case hg => rfl)) | ((first | refine osplitG rfl (fun h => ?_) (fun h => ?_) | refine osplitB rfl (fun h => ?_) (fun h => ?_)) <;> (fail_if_success (simp only [eq_self, reduceCtorEq] at h))) | refine onx ?_ | refine onb ?_ | refine sreg ?_ | refine qT rfl ?_ | refine qF rfl ?_ | refine scondT rfl ?_ | refine scondF rfl ?_ | refine ocondP rfl (fun h => ?_) (fun h => ?_) | refine ocondB rfl (fun h => ?_) (fun h => ?_) | refine scondP rfl (fun h => ?_) (fun h => ?_) | refine scond rfl (fun h => ?_) (fun h => ?_) | refine oskip ?_ | refine oskipb ?_ | refine oret ?_ | refine sem_ret ?_ | refine sem_seq ?_ | refine sreg1 ?_)
    exact ⟨_, rfl, _, rfl, tree_eq rfl rfl⟩
  | some y =>
    rw [hbk] at hB
    simp only at hB
    generalize listB ((brkW t b f y).getD 0) = l at *
    (refine holds_of_sem hG fn_ref03_Keeps (by simp) fun w0 S0 hG0 D0 => ?_; unfold c_ref03_Keeps cval enterEnv; simp only [List.zipIdx_cons, List.zipIdx_nil, List.map_cons, List.map_nil, Nat.zero_add, Nat.reduceAdd])
    repeat' (first | ((first | refine o1 rfl ?_ | refine o0 rfl ?_); intro k hk; simp (disch := omega) only [ev0, sl_cells, simprocAttr]; refine hk _ _ ?_; clear hk k) | refine ono rfl ?_ | (apply ocall; (case he => (simp only [ev0, sl_cells, simprocAttr] <;> rfl)); (case hc => first | exact hB); (case ht => rfl); (case hg => rfl)) | ((first | refine osplitG rfl (fun h => ?_) (fun h => ?_) | refine osplitB rfl (fun h => ?_) (fun h => ?_)) <;> (fail_if_success (simp only [eq_self, reduceCtorEq] at h))) | refine onx ?_ | refine onb ?_ | refine sreg ?_ | refine qT rfl ?_ | refine qF rfl ?_ | refine scondT rfl ?_ | refine scondF rfl ?_ | refine ocondP rfl (fun h => ?_) (fun h => ?_) | refine ocondB rfl (fun h => ?_) (fun h => ?_) | refine scondP rfl (fun h => ?_) (fun h => ?_) | refine scond rfl (fun h => ?_) (fun h => ?_) | refine oskip ?_ | refine oskipb ?_ | refine oret ?_ | refine sem_ret ?_ | refine sem_seq ?_ | refine sreg1 ?_)
    exact ⟨_, rfl, _, rfl, tree_eq rfl rfl⟩
end Go.Proofs.Ytnempffajbdneaa

/- Plain: the reference's best coolers, and its floor. -/
set_option linter.unusedVariables false
set_option linter.unusedSimpArgs false
set_option linter.unusedSectionVars false
set_option maxRecDepth 8000
namespace Go.Tk
open Go Go.Av
def betterR (t : CoolTown) (o : Option (List Int)) (s : List Int) : Bool := match o with
  | none => true
  | some b => decide (costL t s < costL t b)
def stepR (t : CoolTown) (f : Nat) (o : Option (List Int)) (s : List Int) : Option (List Int) := if keepsB t s f = true then (if betterR t o s = true then some s else o) else o
/-- All sets of so few coolers. -/
def fewR (n k : Nat) : List (List Int) := (List.range k).flatMap fun m => setsL (sitesL n) m
def bestR (t : CoolTown) (f k : Nat) : Option (List Int) := (fewR t.sites.length k).foldl (stepR t f) none
theorem fewR_succ (n k : Nat) : fewR n (k + 1) = fewR n k ++ setsL (sitesL n) k := by simp [fewR, List.range_succ]
def ordR (a b : List Int) : Bool := if a.length = b.length then before a b else decide (a.length < b.length)
theorem sites_up (n : Nat) : (sitesL n).Pairwise (· < ·) := by
  unfold sitesL
  exact List.pairwise_map.2 (List.pairwise_lt_range.imp fun h => by omega)
theorem few_mem {n k : Nat} {s : List Int} : s ∈ fewR n k ↔ s.length < k ∧ s.Sublist (sitesL n) := by
  unfold fewR
  rw [List.mem_flatMap]
  constructor
  · rintro ⟨m, h1, h2⟩
    obtain ⟨h3, h4⟩ := mem_sets.1 h2
    exact ⟨by have := List.mem_range.1 h1; omega, h3⟩
  · rintro ⟨h1, h2⟩
    exact ⟨s.length, List.mem_range.2 h1, mem_sets.2 ⟨h2, rfl⟩⟩
theorem few_sorted (n : Nat) : ∀ k, (fewR n k).Pairwise fun a b => ordR a b = true
  | 0 => by simp [fewR]
  | k + 1 => by
    rw [fewR_succ, List.pairwise_append]
    refine ⟨few_sorted n k, ?_, fun a ha b hb => ?_⟩
    · refine List.Pairwise.imp_of_mem ?_ (sets_sorted (k := k) (sites_up n))
      intro a b ha hb h
      unfold ordR
      rw [if_pos (by rw [(mem_sets.1 ha).2, (mem_sets.1 hb).2])]
      exact h
    · have h1 := (few_mem.1 ha).1
      have h2 := (mem_sets.1 hb).2
      unfold ordR
      rw [if_neg (by omega)]
      exact decide_eq_true (by omega)
theorem ordR_asymm {a b : List Int} (h : ordR a b = true) : ordR b a = false := by
  unfold ordR at *
  by_cases e : a.length = b.length
  · rw [if_pos e] at h
    rw [if_pos e.symm]
    cases h2 : before b a with
    | false => rfl
    | true =>
      have := before_trans h h2
      rw [before_irrefl] at this
      cases this
  · rw [if_neg e, decide_eq_true_iff] at h
    rw [if_neg (by omega)]
    exact decide_eq_false (by omega)
theorem beforeC_ord {c d : Int} {a b : List Int} : beforeC (c, a) (d, b) = if c = d then ordR a b else decide (c < d) := rfl
theorem fold_spec {t : CoolTown} {f : Nat} (L : List (List Int)) : L.Pairwise (fun a b => ordR a b = true) → match L.foldl (stepR t f) none with
    | none => ∀ s ∈ L, keepsB t s f = false
    | some b => b ∈ L ∧ keepsB t b f = true ∧ ∀ s ∈ L, keepsB t s f = true → beforeC (costL t s, s) (costL t b, b) = false := by
  have key : ∀ M : List (List Int), M.reverse.Pairwise (fun a b => ordR a b = true) → match M.reverse.foldl (stepR t f) none with
    | none => ∀ s ∈ M.reverse, keepsB t s f = false
    | some b => b ∈ M.reverse ∧ keepsB t b f = true ∧ ∀ s ∈ M.reverse, keepsB t s f = true → beforeC (costL t s, s) (costL t b, b) = false := by
    intro M
    induction M with
    | nil =>
      intro _
      simp
    | cons x M ih =>
      intro h
      rw [List.reverse_cons] at h ⊢
      rw [List.pairwise_append] at h
      obtain ⟨h1, -, h3⟩ := h
      have ih := ih h1
      rw [List.foldl_append]
      generalize M.reverse = L at *
      generalize L.foldl (stepR t f) none = o at *
      have hx : ∀ a ∈ L, ordR a x = true := fun a ha => h3 a ha x (by simp)
      simp only [List.foldl_cons, List.foldl_nil]
      unfold stepR
      cases o with
      | none =>
        simp only [betterR, if_true] at ih ⊢
        by_cases hk : keepsB t x f = true
        · rw [if_pos hk]
          refine ⟨by simp, hk, fun s hs hks => ?_⟩
          rcases List.mem_append.1 hs with hs | hs
          · rw [ih s hs] at hks; cases hks
          · have : s = x := by simpa using hs
            subst this
            exact beforeC_irrefl _
        · rw [if_neg hk]
          intro s hs
          rcases List.mem_append.1 hs with hs | hs
          · exact ih s hs
          · have : s = x := by simpa using hs
            subst this
            simpa using hk
      | some b =>
        simp only [betterR, decide_eq_true_eq] at ih ⊢
        obtain ⟨i1, i2, i3⟩ := ih
        by_cases hk : keepsB t x f = true
        · rw [if_pos hk]
          by_cases hc : costL t x < costL t b
          · rw [if_pos hc]
            have hxb : beforeC (costL t x, x) (costL t b, b) = true := by
              rw [beforeC_ord, if_neg (by omega)]
              exact decide_eq_true hc
            refine ⟨by simp, hk, fun s hs hks => ?_⟩
            rcases List.mem_append.1 hs with hs | hs
            · cases h2 : beforeC (costL t s, s) (costL t x, x) with
              | false => rfl
              | true =>
                have := i3 s hs hks
                rw [beforeC_trans h2 hxb] at this
                cases this
            · have : s = x := by simpa using hs
              subst this
              exact beforeC_irrefl _
          · rw [if_neg hc]
            refine ⟨by simp [i1], i2, fun s hs hks => ?_⟩
            rcases List.mem_append.1 hs with hs | hs
            · exact i3 s hs hks
            · have : s = x := by simpa using hs
              subst this
              rw [beforeC_ord]
              by_cases e : costL t s = costL t b
              · rw [if_pos e]; exact ordR_asymm (hx b i1)
              · rw [if_neg e]; exact decide_eq_false hc
        · rw [if_neg hk]
          refine ⟨by simp [i1], i2, fun s hs hks => ?_⟩
          rcases List.mem_append.1 hs with hs | hs
          · exact i3 s hs hks
          · have : s = x := by simpa using hs
            subst this
            exact absurd hks hk
  intro h
  have := key L.reverse (by rw [List.reverse_reverse]; exact h)
  rwa [List.reverse_reverse] at this
theorem before_total : ∀ {a b : List Int}, a.length = b.length → before a b = false → before b a = false → a = b
  | [], [], _, _, _ => rfl
  | [], _ :: _, h, _, _ => by simp at h
  | _ :: _, [], h, _, _ => by simp at h
  | x :: a, y :: b, h, h1, h2 => by
    simp only [before] at h1 h2
    by_cases e : x = y
    · subst e
      rw [if_pos rfl] at h1 h2
      rw [before_total (by simpa using h) h1 h2]
    · rw [if_neg e, decide_eq_false_iff_not] at h1
      rw [if_neg (fun q => e q.symm), decide_eq_false_iff_not] at h2
      exact absurd (show x = y by omega) e
theorem beforeC_total {c d : Int} {a b : List Int} (h1 : beforeC (c, a) (d, b) = false) (h2 : beforeC (d, b) (c, a) = false) : a = b := by
  rw [beforeC_ord] at h1 h2
  by_cases e : c = d
  · rw [if_pos e] at h1
    rw [if_pos e.symm] at h2
    unfold ordR at h1 h2
    by_cases l : a.length = b.length
    · rw [if_pos l] at h1
      rw [if_pos l.symm] at h2
      exact before_total l h1 h2
    · rw [if_neg l, decide_eq_false_iff_not] at h1
      rw [if_neg (fun q => l q.symm), decide_eq_false_iff_not] at h2
      exact absurd (show a.length = b.length by omega) l
  · rw [if_neg e, decide_eq_false_iff_not] at h1
    rw [if_neg (fun q => e q.symm), decide_eq_false_iff_not] at h2
    exact absurd (show c = d by omega) e
theorem sub_sites {n : Nat} {b : List Int} (hb : coolersOk n b) : b.Sublist (sitesL n) := up_sub hb.up (sites_up n) fun x hx => by
  obtain ⟨h1, h2⟩ := hb.mem x hx
  obtain ⟨k, rfl⟩ := Int.eq_ofNat_of_zero_le h1
  exact List.mem_map.2 ⟨k, List.mem_range.2 (by omega), rfl⟩
theorem sites_ok (n : Nat) : coolersOk n (sitesL n) := coolersOk_of (sites_up n) fun x hx => by
  obtain ⟨k, hk, rfl⟩ := List.mem_map.1 hx
  have := List.mem_range.1 hk
  omega
/-- The reference's best coolers are the program's. -/
theorem best_eq {t : CoolTown} (ht : t.ok) (f : Nat) : bestR t f (t.sites.length + 1) = (bestF t f (2 ^ t.sites.length)).map listB := by
  have h1 := fold_spec (t := t) (f := f) (fewR t.sites.length (t.sites.length + 1)) (few_sorted _ _)
  have h2 := bestF_spec (t := t) (f := f) (2 ^ t.sites.length)
  change match bestR t f (t.sites.length + 1) with | none => _ | some b => _ at h1
  have hin : ∀ s, s < 2 ^ t.sites.length → listB s ∈ fewR t.sites.length (t.sites.length + 1) := fun s hs => by
    have hsub := sub_sites (coolers_listB hs)
    exact few_mem.2 ⟨by have := hsub.length_le; rw [sitesL_len] at this; omega, hsub⟩
  have hsb : ∀ s, s < 2 ^ t.sites.length → setB (listB s) = s := fun s hs => setB_listB ht.2.1.2 hs
  have hkb : ∀ s, s < 2 ^ t.sites.length → (keepsB t (listB s) f = true ↔ brk t f s t.houses.length = none) := fun s hs => by
    unfold keepsB
    rw [hsb s hs, decide_eq_true_iff]
  have hlb : ∀ s ∈ fewR t.sites.length (t.sites.length + 1), setB s < 2 ^ t.sites.length ∧ listB (setB s) = s := fun s hs => by
    have hc := coolersOk_of ((sites_up t.sites.length).sublist (few_mem.1 hs).2) fun x hx => (sites_ok t.sites.length).mem x ((few_mem.1 hs).2.subset hx)
    exact ⟨setB_lt hc.mem, hc.list ht.2.1.2⟩
  cases hb : bestF t f (2 ^ t.sites.length) with
  | none =>
    rw [hb] at h2
    cases hr : bestR t f (t.sites.length + 1) with
    | none => rfl
    | some r =>
      rw [hr] at h1
      obtain ⟨r1, r2, -⟩ := h1
      obtain ⟨q1, q2⟩ := hlb r r1
      rw [← q2, hkb _ q1] at r2
      exact absurd r2 (h2 _ q1)
  | some c =>
    rw [hb] at h2
    obtain ⟨c1, c2, c3⟩ := h2
    have hk : keepsB t (listB c) f = true := (hkb c c1).2 c2
    cases hr : bestR t f (t.sites.length + 1) with
    | none =>
      rw [hr] at h1
      have := h1 _ (hin c c1)
      rw [hk] at this
      cases this
    | some r =>
      rw [hr] at h1
      obtain ⟨r1, r2, r3⟩ := h1
      obtain ⟨q1, q2⟩ := hlb r r1
      have e1 := r3 _ (hin c c1) hk
      have e2 := c3 (setB r) q1 ((hkb _ q1).1 (by rw [q2]; exact r2))
      unfold chS at e2
      rw [q2] at e2
      rw [Option.map_some, beforeC_total e2 e1]
/-- The reference's floor. -/
def floorP (t : CoolTown) (f n : Nat) : Bool := (List.range t.houses.length).all fun y => (setsL (sitesL t.sites.length) n).any fun s => levM t y f (setB s)
theorem enough_iff {t : CoolTown} (ht : t.ok) {f n y : Nat} (hy : y < t.houses.length) (hn : n ≤ t.sites.length) : ((setsL (sitesL t.sites.length) n).any fun s => levM t y f (setB s)) = enough t f n y := by
  have hcl : coldsL t y (allS t) = sortD ((sitesL t.sites.length).map (lowOf t y)) := by
    unfold coldsL
    rw [all_list ht]
  rw [Bool.eq_iff_iff, List.any_eq_true]
  unfold enough
  rw [decide_eq_true_iff, hcl]
  constructor
  · rintro ⟨s, hs, hl⟩
    obtain ⟨hs1, hs2⟩ := mem_sets.1 hs
    have hso := sub_ok ht (sites_ok t.sites.length) hs1
    rw [lev_def ht hso, decide_eq_true_iff] at hl
    have hperm : (sitesL t.sites.length).Perm (s ++ (sitesL t.sites.length).filter fun x => !decide (x ∈ s)) := by
      have h1 := filter_perm_append (fun x => decide (x ∈ s)) (sitesL t.sites.length)
      refine h1.trans (List.Perm.append_right _ ?_)
      have : (sitesL t.sites.length).filter (fun x => decide (x ∈ s)) = s := up_ext ((sites_up _).filter _) hso.up fun x => by
        rw [List.mem_filter, decide_eq_true_iff]
        exact ⟨fun h => h.2, fun h => ⟨hs1.subset h, h⟩⟩
      rw [this]
    have := dom (sortD (s.map (lowOf t y))) (sortD ((sitesL t.sites.length).map (lowOf t y))) (((sitesL t.sites.length).filter fun x => !decide (x ∈ s)).map (lowOf t y)) f (sortD_sorted _) (sortD_sorted _) (by
      refine (sortD_perm _).trans ((hperm.map (lowOf t y)).trans ?_)
      rw [List.map_append]
      exact List.Perm.append_right _ (sortD_perm _).symm)
    rw [(sortD_perm _).length_eq, List.length_map, hs2] at this
    omega
  · intro hl
    let b' := (sitesL t.sites.length).mergeSort fun x z => decide (lowOf t y z ≤ lowOf t y x)
    have hp : b'.Perm (sitesL t.sites.length) := List.mergeSort_perm _ _
    have hs : (b'.map (lowOf t y)).Pairwise fun x z => z ≤ x := by
      have := List.pairwise_mergeSort (le := fun x z : Int => decide (lowOf t y z ≤ lowOf t y x)) (fun a b c h1 h2 => by simp only [decide_eq_true_eq] at *; omega) (fun a b => by simp only [Bool.or_eq_true, decide_eq_true_eq]; omega) (sitesL t.sites.length)
      exact List.pairwise_map.2 (this.imp fun h => by simpa using h)
    have he : b'.map (lowOf t y) = sortD ((sitesL t.sites.length).map (lowOf t y)) := sortD_eq (hp.map _) hs
    have hnd : (sitesL t.sites.length).Nodup := up_nodup (sites_up _)
    have hn' : b'.Nodup := hp.nodup_iff.2 hnd
    let s := (sitesL t.sites.length).filter fun x => decide (x ∈ b'.take n)
    have hsp : s.Perm (b'.take n) := by
      have h2 : b'.filter (fun x => decide (x ∈ b'.take n)) = b'.take n := by
        conv => lhs; rw [← List.take_append_drop n b']
        rw [List.filter_append]
        have hd : (b'.take n ++ b'.drop n).Nodup := by rw [List.take_append_drop]; exact hn'
        rw [List.nodup_append] at hd
        rw [List.take_append_drop]
        rw [List.filter_eq_self.2 fun x hx => by simpa using hx, List.filter_eq_nil_iff.2 fun x hx => ?_, List.append_nil]
        have : x ∉ b'.take n := fun hx' => hd.2.2 x hx' x hx rfl
        simp [this]
      exact (hp.symm.filter _).trans (by rw [h2])
    have hsub : s.Sublist (sitesL t.sites.length) := List.filter_sublist
    have hslen : s.length = n := by
      rw [hsp.length_eq, List.length_take, hp.length_eq, sitesL_len]
      omega
    have hso := sub_ok ht (sites_ok t.sites.length) hsub
    refine ⟨s, mem_sets.2 ⟨hsub, hslen⟩, ?_⟩
    rw [lev_def ht hso, decide_eq_true_iff]
    have e : sortD (s.map (lowOf t y)) = (sortD ((sitesL t.sites.length).map (lowOf t y))).take n := by
      rw [← he, ← List.map_take]
      symm
      refine sortD_eq ((hsp.symm).map _) ?_
      rw [List.map_take]
      exact hs.sublist (List.take_sublist _ _)
    rw [e]
    exact hl
theorem floor_eq {t : CoolTown} (ht : t.ok) {f n : Nat} (hn : n ≤ t.sites.length) : floorP t f n = floorB t f n := by
  unfold floorP floorB
  rw [Bool.eq_iff_iff, List.all_eq_true, List.all_eq_true]
  constructor
  · intro h y hy
    have := h y hy
    rwa [enough_iff ht (List.mem_range.1 hy) hn] at this
  · intro h y hy
    have := h y hy
    rwa [enough_iff ht (List.mem_range.1 hy) hn]
end Go.Tk

/- The reference: the best coolers, and the floor. -/
set_option linter.unusedVariables false
set_option linter.unusedSimpArgs false
set_option maxRecDepth 8000
set_option maxHeartbeats 4000000
namespace Go.Tk
open Go Go.Av
theorem fold_mem {t : CoolTown} {f : Nat} : ∀ {L : List (List Int)} {o : Option (List Int)} {b : List Int}, L.foldl (stepR t f) o = some b → b ∈ L ∨ o = some b
  | [], o, b, h => .inr h
  | x :: L, o, b, h => by
    rcases fold_mem (L := L) h with h | h
    · exact .inl (List.mem_cons_of_mem _ h)
    · unfold stepR at h
      split at h
      · split at h
        · cases h; exact .inl List.mem_cons_self
        · exact .inr h
      · exact .inr h
def bestK (t : CoolTown) (f k i : Nat) : Option (List Int) := (fewR t.sites.length k ++ (setsL (sitesL t.sites.length) k).take i).foldl (stepR t f) none
theorem bestK_zero (t : CoolTown) (f k : Nat) : bestK t f k 0 = bestR t f k := by simp [bestK, bestR]
theorem bestK_full (t : CoolTown) (f k : Nat) : bestK t f k (setsL (sitesL t.sites.length) k).length = bestR t f (k + 1) := by simp [bestK, bestR, fewR_succ]
theorem bestK_step (t : CoolTown) (f k : Nat) {i : Nat} (hi : i < (setsL (sitesL t.sites.length) k).length) : bestK t f k (i + 1) = stepR t f (bestK t f k i) ((setsL (sitesL t.sites.length) k).getD i default) := by
  unfold bestK
  rw [List.take_succ_eq_append_getElem hi, ← List.append_assoc, List.foldl_append, getD_lt hi]
  rfl
theorem bestK_ok {t : CoolTown} (ht : t.ok) {f k i : Nat} {b : List Int} (h : bestK t f k i = some b) : coolersOk t.sites.length b := by
  rcases fold_mem h with h | h
  · rcases List.mem_append.1 h with h | h
    · exact sub_ok ht (sites_ok _) (few_mem.1 h).2
    · exact sub_ok ht (sites_ok _) (mem_sets.1 (List.mem_of_mem_take h)).1
  · cases h
def refFl : Option Nat → AV
  | some m => I m
  | none => I (-1)
theorem any_take {α : Type} [Inhabited α] {p : α → Bool} {T : List α} {i : Nat} (hi : i < T.length) : (T.take (i + 1)).any p = ((T.take i).any p || p (T.getD i default)) := by
  rw [List.take_succ_eq_append_getElem hi, List.any_append, getD_lt hi]
  simp
theorem any_take_le {α : Type} {p : α → Bool} {T : List α} {i : Nat} (h : (T.take i).any p = true) : T.any p = true := by
  rw [List.any_eq_true] at h ⊢
  obtain ⟨x, h1, h2⟩ := h
  exact ⟨x, List.mem_of_mem_take h1, h2⟩
end Go.Tk
namespace Go.Proofs.Ytnempffajbdneaa
open Go Go.Av Go.Tk
attribute [local irreducible] Holds sem semL ACalls FnIs levelB levM brkW keepsB costL
variable {G : World → Prop} (hG : ∀ w w', G w → RowKit.Below w.heap.size w w' → G w')
include hG
theorem ref03_Best (t : CoolTown) (ht : t.ok) (f : Nat) (hf : f ≤ 3) : Holds Try.prog G F.ref03_Best [.agg t.cs, I f] (.tup [optL (bestR t f (t.sites.length + 1)), B (bestR t f (t.sites.length + 1)).isSome]) := by
  have hns := ht.2.1
  have hSi := ref03_Sites hG t (by omega)
  have hsl := sitesL_len t.sites.length
  have hr0 : bestR t f 0 = none := by simp [bestR, fewR]
  have hK := fun b hb => ref03_Keeps hG t ht b hb f hf
  have hC := fun b (hb : coolersOk t.sites.length b) => ref03_Cost hG t ht b (by have := len10 ht hb; omega) hb.mem
  (refine holds_of_sem hG fn_ref03_Best (by simp) fun w0 S0 hG0 D0 => ?_; unfold c_ref03_Best cval enterEnv; simp only [List.zipIdx_cons, List.zipIdx_nil, List.map_cons, List.map_nil, Nat.zero_add, Nat.reduceAdd])
  repeat' (first | ((first | refine o1 rfl ?_ | refine o0 rfl ?_); intro k hk; simp (disch := omega) only [ev0, sl_cells, simprocAttr]; refine hk _ _ ?_; clear hk k) | refine ono rfl ?_ | ((first | refine osplitG rfl (fun h => ?_) (fun h => ?_) | refine osplitB rfl (fun h => ?_) (fun h => ?_)) <;> (fail_if_success (simp only [eq_self, reduceCtorEq] at h))) | refine onx ?_ | refine onb ?_ | refine sreg ?_ | refine qT rfl ?_ | refine qF rfl ?_ | refine scondT rfl ?_ | refine scondF rfl ?_ | refine ocondP rfl (fun h => ?_) (fun h => ?_) | refine ocondB rfl (fun h => ?_) (fun h => ?_) | refine scondP rfl (fun h => ?_) (fun h => ?_) | refine scond rfl (fun h => ?_) (fun h => ?_) | refine oskip ?_ | refine oskipb ?_ | refine oret ?_ | refine sem_ret ?_ | refine sem_seq ?_ | refine sreg1 ?_)
  refine sem_block ?_
  
  refine sem_loop (α := Nat) (fun k => ⟨[(1, I f), (2, .ptr 0 0 2 0 0), (6, optL (bestR t f k)), (7, B (bestR t f k).isSome), (8, I k)], [.row 25 0 2 [t.cs]]⟩) (fun k => k ≤ t.sites.length + 1) (fun k => t.sites.length + 1 - k) 0 (Nat.zero_le _) ?_ ?_
  · rw [hr0]
    (refine Le.same ?_; simp only [List.forall_mem_cons, List.forall_mem_nil, getE, selE, Nat.reduceBEq, List.not_mem_nil, false_implies, implies_true, and_true, true_and, and_self])
    simp [optL, CoolTown.cs]
  · intro k hk
    repeat' (first | ((first | refine o1 rfl ?_ | refine o0 rfl ?_); intro k hk; simp (disch := omega) only [ev0, sl_cells, simprocAttr, slOf, CoolTown.cs]; refine hk _ _ ?_; clear hk k) | refine ono rfl ?_ | ((first | refine osplitG rfl (fun h => ?_) (fun h => ?_) | refine osplitB rfl (fun h => ?_) (fun h => ?_)) <;> (fail_if_success (simp only [eq_self, reduceCtorEq] at h))) | refine onx ?_ | refine onb ?_ | refine sreg ?_ | refine qT rfl ?_ | refine qF rfl ?_ | refine scondT rfl ?_ | refine scondF rfl ?_ | refine ocondP rfl (fun h => ?_) (fun h => ?_) | refine ocondB rfl (fun h => ?_) (fun h => ?_) | refine scondP rfl (fun h => ?_) (fun h => ?_) | refine scond rfl (fun h => ?_) (fun h => ?_) | refine oskip ?_ | refine oskipb ?_ | refine oret ?_ | refine sem_ret ?_ | refine sem_seq ?_ | refine sreg1 ?_)
    · have hk' : k ≤ t.sites.length := by omega
      have hSe := ref03_Sets hG k (sitesL t.sites.length) (by omega) (by omega)
      have hz := bestK_zero t f k
      have hstep := fun i => bestK_step t f k (i := i)
      have hfull := bestK_full t f k
      have hok := fun i b => bestK_ok ht (f := f) (k := k) (i := i) (b := b)
      have hsub : ∀ s ∈ setsL (sitesL t.sites.length) k, coolersOk t.sites.length s := fun s hs => sub_ok ht (sites_ok _) (mem_sets.1 hs).1
      have hlen := sets_len_le (l := sitesL t.sites.length) (k := k)
      have hp10 : 2 ^ (sitesL t.sites.length).length ≤ 2 ^ 10 := Nat.pow_le_pow_right (by omega) (by omega)
      refine sem_block ?_
      repeat' (first | ((first | refine o1 rfl ?_ | refine o0 rfl ?_); intro k hk; simp (disch := omega) only [ev0, sl_cells, simprocAttr, slOf]; refine hk _ _ ?_; clear hk k) | refine ono rfl ?_ | (apply ocall; (case he => (simp only [ev0, sl_cells, simprocAttr] <;> rfl)); (case hc => first | exact hSi | exact hSe); (case ht => rfl); (case hg => rfl)) | ((first | refine osplitG rfl (fun h => ?_) (fun h => ?_) | refine osplitB rfl (fun h => ?_) (fun h => ?_)) <;> (fail_if_success (simp only [eq_self, reduceCtorEq] at h))) | refine onx ?_ | refine onb ?_ | refine sreg ?_ | refine qT rfl ?_ | refine qF rfl ?_ | refine scondT rfl ?_ | refine scondF rfl ?_ | refine ocondP rfl (fun h => ?_) (fun h => ?_) | refine ocondB rfl (fun h => ?_) (fun h => ?_) | refine scondP rfl (fun h => ?_) (fun h => ?_) | refine scond rfl (fun h => ?_) (fun h => ?_) | refine oskip ?_ | refine oskipb ?_ | refine oret ?_ | refine sem_ret ?_ | refine sem_seq ?_ | refine sreg1 ?_)
      generalize setsL (sitesL t.sites.length) k = T at *
      generalize bestK t f k = bk at *
      rw [← hz]
      refine sem_block ?_
      
      refine sem_loop (α := Nat) (fun i => ⟨[(1, I f), (2, .ptr 0 0 2 0 0), (6, optL (bk i)), (7, B (bk i).isSome), (8, I k), (9, slOf intsCs T), (10, I i)], [.row 25 0 2 [t.cs]]⟩) (fun i => i ≤ T.length) (fun i => T.length - i) 0 (Nat.zero_le _) ?_ ?_
      · (refine Le.same ?_; simp only [List.forall_mem_cons, List.forall_mem_nil, getE, selE, Nat.reduceBEq, List.not_mem_nil, false_implies, implies_true, and_true, true_and, and_self])
        simp [slOf, CoolTown.cs]
      · intro i hi
        repeat' (first | ((first | refine o1 rfl ?_ | refine o0 rfl ?_); intro k hk; simp (disch := omega) only [ev0, sl_cells, simprocAttr, slOf]; refine hk _ _ ?_; clear hk k) | refine ono rfl ?_ | ((first | refine osplitG rfl (fun h => ?_) (fun h => ?_) | refine osplitB rfl (fun h => ?_) (fun h => ?_)) <;> (fail_if_success (simp only [eq_self, reduceCtorEq] at h))) | refine onx ?_ | refine onb ?_ | refine sreg ?_ | refine qT rfl ?_ | refine qF rfl ?_ | refine scondT rfl ?_ | refine scondF rfl ?_ | refine ocondP rfl (fun h => ?_) (fun h => ?_) | refine ocondB rfl (fun h => ?_) (fun h => ?_) | refine scondP rfl (fun h => ?_) (fun h => ?_) | refine scond rfl (fun h => ?_) (fun h => ?_) | refine oskip ?_ | refine oskipb ?_ | refine oret ?_ | refine sem_ret ?_ | refine sem_seq ?_ | refine sreg1 ?_)
        · have hi' : i < T.length := by omega
          have hst := hstep i hi'
          have hso := hsub (T.getD i default) (by rw [getD_lt hi']; exact List.getElem_mem _)
          have hb10 := len10 ht hso
          have hKs := hK _ hso
          have hCs := hC _ hso
          have hCo := fun b (h : bk i = some b) => hC b (hok i b h)
          have hlo := fun b (h : bk i = some b) => len10 ht (hok i b h)
          generalize hs : T.getD i default = s at *
          generalize bk i = o at *
          unfold stepR betterR at hst
          refine sem_block ?_
          cases hv : keepsB t s f with
          | false =>
            rw [hv] at hKs
            rw [hv, if_neg (by simp)] at hst
            repeat' (first | ((first | refine o1 rfl ?_ | refine o0 rfl ?_); intro k hk; simp (disch := omega) only [ev0, sl_cells, simprocAttr]; refine hk _ _ ?_; clear hk k) | refine ono rfl ?_ | ((first | refine osplitG rfl (fun h => ?_) (fun h => ?_) | refine osplitB rfl (fun h => ?_) (fun h => ?_)) <;> (fail_if_success (simp only [eq_self, reduceCtorEq] at h))) | refine onx ?_ | refine onb ?_ | refine sreg ?_ | refine qT rfl ?_ | refine qF rfl ?_ | refine scondT rfl ?_ | refine scondF rfl ?_ | refine ocondP rfl (fun h => ?_) (fun h => ?_) | refine ocondB rfl (fun h => ?_) (fun h => ?_) | refine scondP rfl (fun h => ?_) (fun h => ?_) | refine scond rfl (fun h => ?_) (fun h => ?_) | refine oskip ?_ | refine oskipb ?_ | refine oret ?_ | refine sem_ret ?_ | refine sem_seq ?_ | refine sreg1 ?_)
            ((refine sem_mgo 19 hmix (by kernel_rfl) ?_; simp only [nt]); (repeat' (first | ((first | apply mop | apply mop0); (case hg => rfl); (case hq => rfl); intro k hk; simp (disch := omega) only [ev0, sl_cells, simprocAttr, slOf, intsCs, intCs, hs]; refine hk _ _ rfl ?_; clear hk k) | (apply mno; (case hg => rfl)) | (apply mcall; (case he => (simp only [ev0, sl_cells, simprocAttr] <;> rfl)); (case hc => first | exact hKs | exact hCs); (case ht => rfl); (case hg => rfl); (case hr => rfl)) | (apply mbox; (case hx => (simp only [wv, simprocAttr] <;> rfl)); (case hg => rfl); (case hall => rfl); (case hr => rfl); simp only [nm, Nat.reduceAdd]) | (apply mbldS; (case hb => (simp (disch := omega) only [ev0, sl_cells, simprocAttr] <;> rfl)); (case hg => rfl); (case hr => rfl); simp only [nm, Nat.reduceAdd]) | ((first | (apply msto (q := 0); (case hq => rfl)) | (apply msto (q := 1); (case hq => rfl)) | (apply msto (q := 2); (case hq => rfl)) | (apply msto (q := 3); (case hq => rfl))); (case hx => (simp only [wv, simprocAttr] <;> rfl)); (case haddr => (simp only [wv, simprocAttr] <;> rfl)); (case hg => rfl); (case hl1 => rfl); (case hl2 => rfl); (case hok => rfl); (case hr => rfl); simp only [nm, Nat.reduceAdd]) | (apply mnil; simp only [SlotR.fin, ns]) | (refine msplit rfl (fun h => ?_) (fun h => ?_) <;> simp only [h] <;> (try simp only [nb] at h)))) <;> (repeat' (first | ((first | refine o1 rfl ?_ | refine o0 rfl ?_); intro k hk; simp (disch := omega) only [ev0, sl_cells, simprocAttr, slOf, intsCs, intCs, hs]; refine hk _ _ ?_; clear hk k) | refine ono rfl ?_ | (apply ocall; (case he => (simp only [ev0, sl_cells, simprocAttr] <;> rfl)); (case hc => first | exact hKs | exact hCs); (case ht => rfl); (case hg => rfl)) | ((first | refine osplitG rfl (fun h => ?_) (fun h => ?_) | refine osplitB rfl (fun h => ?_) (fun h => ?_)) <;> (fail_if_success (simp only [eq_self, reduceCtorEq] at h))) | refine onx ?_ | refine onb ?_ | refine sreg ?_ | refine qT rfl ?_ | refine qF rfl ?_ | refine scondT rfl ?_ | refine scondF rfl ?_ | refine ocondP rfl (fun h => ?_) (fun h => ?_) | refine ocondB rfl (fun h => ?_) (fun h => ?_) | refine scondP rfl (fun h => ?_) (fun h => ?_) | refine scond rfl (fun h => ?_) (fun h => ?_) | refine oskip ?_ | refine oskipb ?_ | refine oret ?_ | refine sem_ret ?_ | refine sem_seq ?_ | refine sreg1 ?_)))
            refine onil (lnext (i + 1) (by omega) (by omega) ?_)
            rw [hst]
            (refine Le.same ?_; simp only [List.forall_mem_cons, List.forall_mem_nil, getE, selE, Nat.reduceBEq, List.not_mem_nil, false_implies, implies_true, and_true, true_and, and_self])
            simp [slOf, intsCs]
          | true =>
            rw [hv] at hKs
            rw [hv, if_pos rfl] at hst
            cases o with
            | none =>
              simp only [if_pos] at hst
              simp only [optL, Option.isSome]
              repeat' (first | ((first | refine o1 rfl ?_ | refine o0 rfl ?_); intro k hk; simp (disch := omega) only [ev0, sl_cells, simprocAttr]; refine hk _ _ ?_; clear hk k) | refine ono rfl ?_ | ((first | refine osplitG rfl (fun h => ?_) (fun h => ?_) | refine osplitB rfl (fun h => ?_) (fun h => ?_)) <;> (fail_if_success (simp only [eq_self, reduceCtorEq] at h))) | refine onx ?_ | refine onb ?_ | refine sreg ?_ | refine qT rfl ?_ | refine qF rfl ?_ | refine scondT rfl ?_ | refine scondF rfl ?_ | refine ocondP rfl (fun h => ?_) (fun h => ?_) | refine ocondB rfl (fun h => ?_) (fun h => ?_) | refine scondP rfl (fun h => ?_) (fun h => ?_) | refine scond rfl (fun h => ?_) (fun h => ?_) | refine oskip ?_ | refine oskipb ?_ | refine oret ?_ | refine sem_ret ?_ | refine sem_seq ?_ | refine sreg1 ?_)
              ((refine sem_mgo 19 hmix (by kernel_rfl) ?_; simp only [nt]); (repeat' (first | ((first | apply mop | apply mop0); (case hg => rfl); (case hq => rfl); intro k hk; simp (disch := omega) only [ev0, sl_cells, simprocAttr, slOf, intsCs, intCs, hs]; refine hk _ _ rfl ?_; clear hk k) | (apply mno; (case hg => rfl)) | (apply mcall; (case he => (simp only [ev0, sl_cells, simprocAttr] <;> rfl)); (case hc => first | exact hKs | exact hCs); (case ht => rfl); (case hg => rfl); (case hr => rfl)) | (apply mbox; (case hx => (simp only [wv, simprocAttr] <;> rfl)); (case hg => rfl); (case hall => rfl); (case hr => rfl); simp only [nm, Nat.reduceAdd]) | (apply mbldS; (case hb => (simp (disch := omega) only [ev0, sl_cells, simprocAttr] <;> rfl)); (case hg => rfl); (case hr => rfl); simp only [nm, Nat.reduceAdd]) | ((first | (apply msto (q := 0); (case hq => rfl)) | (apply msto (q := 1); (case hq => rfl)) | (apply msto (q := 2); (case hq => rfl)) | (apply msto (q := 3); (case hq => rfl))); (case hx => (simp only [wv, simprocAttr] <;> rfl)); (case haddr => (simp only [wv, simprocAttr] <;> rfl)); (case hg => rfl); (case hl1 => rfl); (case hl2 => rfl); (case hok => rfl); (case hr => rfl); simp only [nm, Nat.reduceAdd]) | (apply mnil; simp only [SlotR.fin, ns]) | (refine msplit rfl (fun h => ?_) (fun h => ?_) <;> simp only [h] <;> (try simp only [nb] at h)))) <;> (repeat' (first | ((first | refine o1 rfl ?_ | refine o0 rfl ?_); intro k hk; simp (disch := omega) only [ev0, sl_cells, simprocAttr, slOf, intsCs, intCs, hs]; refine hk _ _ ?_; clear hk k) | refine ono rfl ?_ | (apply ocall; (case he => (simp only [ev0, sl_cells, simprocAttr] <;> rfl)); (case hc => first | exact hKs | exact hCs); (case ht => rfl); (case hg => rfl)) | ((first | refine osplitG rfl (fun h => ?_) (fun h => ?_) | refine osplitB rfl (fun h => ?_) (fun h => ?_)) <;> (fail_if_success (simp only [eq_self, reduceCtorEq] at h))) | refine onx ?_ | refine onb ?_ | refine sreg ?_ | refine qT rfl ?_ | refine qF rfl ?_ | refine scondT rfl ?_ | refine scondF rfl ?_ | refine ocondP rfl (fun h => ?_) (fun h => ?_) | refine ocondB rfl (fun h => ?_) (fun h => ?_) | refine scondP rfl (fun h => ?_) (fun h => ?_) | refine scond rfl (fun h => ?_) (fun h => ?_) | refine oskip ?_ | refine oskipb ?_ | refine oret ?_ | refine sem_ret ?_ | refine sem_seq ?_ | refine sreg1 ?_)))
              refine onil (lnext (i + 1) (by omega) (by omega) ?_)
              rw [hst]
              (refine Le.same ?_; simp only [List.forall_mem_cons, List.forall_mem_nil, getE, selE, Nat.reduceBEq, List.not_mem_nil, false_implies, implies_true, and_true, true_and, and_self])
              simp [slOf, intsCs, optL, intCs]
            | some b =>
              have hCb := hCo b rfl
              have hlb := hlo b rfl
              simp only [decide_eq_true_eq] at hst
              simp only [optL, Option.isSome]
              by_cases hc : costL t s < costL t b
              · rw [if_pos hc] at hst
                repeat' (first | ((first | refine o1 rfl ?_ | refine o0 rfl ?_); intro k hk; simp (disch := omega) only [ev0, sl_cells, simprocAttr]; refine hk _ _ ?_; clear hk k) | refine ono rfl ?_ | ((first | refine osplitG rfl (fun h => ?_) (fun h => ?_) | refine osplitB rfl (fun h => ?_) (fun h => ?_)) <;> (fail_if_success (simp only [eq_self, reduceCtorEq] at h))) | refine onx ?_ | refine onb ?_ | refine sreg ?_ | refine qT rfl ?_ | refine qF rfl ?_ | refine scondT rfl ?_ | refine scondF rfl ?_ | refine ocondP rfl (fun h => ?_) (fun h => ?_) | refine ocondB rfl (fun h => ?_) (fun h => ?_) | refine scondP rfl (fun h => ?_) (fun h => ?_) | refine scond rfl (fun h => ?_) (fun h => ?_) | refine oskip ?_ | refine oskipb ?_ | refine oret ?_ | refine sem_ret ?_ | refine sem_seq ?_ | refine sreg1 ?_)
                ((refine sem_mgo 19 hmix (by kernel_rfl) ?_; simp only [nt]); (repeat' (first | ((first | apply mop | apply mop0); (case hg => rfl); (case hq => rfl); intro k hk; simp (disch := omega) only [ev0, sl_cells, simprocAttr, slOf, intsCs, intCs, hs, hc, decide_true]; refine hk _ _ rfl ?_; clear hk k) | (apply mno; (case hg => rfl)) | (apply mcall; (case he => (simp only [ev0, sl_cells, simprocAttr] <;> rfl)); (case hc => first | exact hKs | exact hCs | exact hCb); (case ht => rfl); (case hg => rfl); (case hr => rfl)) | (apply mbox; (case hx => (simp only [wv, simprocAttr] <;> rfl)); (case hg => rfl); (case hall => rfl); (case hr => rfl); simp only [nm, Nat.reduceAdd]) | (apply mbldS; (case hb => (simp (disch := omega) only [ev0, sl_cells, simprocAttr] <;> rfl)); (case hg => rfl); (case hr => rfl); simp only [nm, Nat.reduceAdd]) | ((first | (apply msto (q := 0); (case hq => rfl)) | (apply msto (q := 1); (case hq => rfl)) | (apply msto (q := 2); (case hq => rfl)) | (apply msto (q := 3); (case hq => rfl))); (case hx => (simp only [wv, simprocAttr] <;> rfl)); (case haddr => (simp only [wv, simprocAttr] <;> rfl)); (case hg => rfl); (case hl1 => rfl); (case hl2 => rfl); (case hok => rfl); (case hr => rfl); simp only [nm, Nat.reduceAdd]) | (apply mnil; simp only [SlotR.fin, ns]) | (refine msplit rfl (fun h => ?_) (fun h => ?_) <;> simp only [h] <;> (try simp only [nb] at h)))) <;> (repeat' (first | ((first | refine o1 rfl ?_ | refine o0 rfl ?_); intro k hk; simp (disch := omega) only [ev0, sl_cells, simprocAttr, slOf, intsCs, intCs, hs, hc, decide_true]; refine hk _ _ ?_; clear hk k) | refine ono rfl ?_ | (apply ocall; (case he => (simp only [ev0, sl_cells, simprocAttr] <;> rfl)); (case hc => first | exact hKs | exact hCs | exact hCb); (case ht => rfl); (case hg => rfl)) | ((first | refine osplitG rfl (fun h => ?_) (fun h => ?_) | refine osplitB rfl (fun h => ?_) (fun h => ?_)) <;> (fail_if_success (simp only [eq_self, reduceCtorEq] at h))) | refine onx ?_ | refine onb ?_ | refine sreg ?_ | refine qT rfl ?_ | refine qF rfl ?_ | refine scondT rfl ?_ | refine scondF rfl ?_ | refine ocondP rfl (fun h => ?_) (fun h => ?_) | refine ocondB rfl (fun h => ?_) (fun h => ?_) | refine scondP rfl (fun h => ?_) (fun h => ?_) | refine scond rfl (fun h => ?_) (fun h => ?_) | refine oskip ?_ | refine oskipb ?_ | refine oret ?_ | refine sem_ret ?_ | refine sem_seq ?_ | refine sreg1 ?_)))
                refine onil (lnext (i + 1) (by omega) (by omega) ?_)
                rw [hst]
                (refine Le.same ?_; simp only [List.forall_mem_cons, List.forall_mem_nil, getE, selE, Nat.reduceBEq, List.not_mem_nil, false_implies, implies_true, and_true, true_and, and_self])
                simp [slOf, intsCs, optL, intCs]
              · rw [if_neg hc] at hst
                repeat' (first | ((first | refine o1 rfl ?_ | refine o0 rfl ?_); intro k hk; simp (disch := omega) only [ev0, sl_cells, simprocAttr]; refine hk _ _ ?_; clear hk k) | refine ono rfl ?_ | ((first | refine osplitG rfl (fun h => ?_) (fun h => ?_) | refine osplitB rfl (fun h => ?_) (fun h => ?_)) <;> (fail_if_success (simp only [eq_self, reduceCtorEq] at h))) | refine onx ?_ | refine onb ?_ | refine sreg ?_ | refine qT rfl ?_ | refine qF rfl ?_ | refine scondT rfl ?_ | refine scondF rfl ?_ | refine ocondP rfl (fun h => ?_) (fun h => ?_) | refine ocondB rfl (fun h => ?_) (fun h => ?_) | refine scondP rfl (fun h => ?_) (fun h => ?_) | refine scond rfl (fun h => ?_) (fun h => ?_) | refine oskip ?_ | refine oskipb ?_ | refine oret ?_ | refine sem_ret ?_ | refine sem_seq ?_ | refine sreg1 ?_)
                ((refine sem_mgo 19 hmix (by kernel_rfl) ?_; simp only [nt]); (repeat' (first | ((first | apply mop | apply mop0); (case hg => rfl); (case hq => rfl); intro k hk; simp (disch := omega) only [ev0, sl_cells, simprocAttr, slOf, intsCs, intCs, hs, hc, decide_false]; refine hk _ _ rfl ?_; clear hk k) | (apply mno; (case hg => rfl)) | (apply mcall; (case he => (simp only [ev0, sl_cells, simprocAttr] <;> rfl)); (case hc => first | exact hKs | exact hCs | exact hCb); (case ht => rfl); (case hg => rfl); (case hr => rfl)) | (apply mbox; (case hx => (simp only [wv, simprocAttr] <;> rfl)); (case hg => rfl); (case hall => rfl); (case hr => rfl); simp only [nm, Nat.reduceAdd]) | (apply mbldS; (case hb => (simp (disch := omega) only [ev0, sl_cells, simprocAttr] <;> rfl)); (case hg => rfl); (case hr => rfl); simp only [nm, Nat.reduceAdd]) | ((first | (apply msto (q := 0); (case hq => rfl)) | (apply msto (q := 1); (case hq => rfl)) | (apply msto (q := 2); (case hq => rfl)) | (apply msto (q := 3); (case hq => rfl))); (case hx => (simp only [wv, simprocAttr] <;> rfl)); (case haddr => (simp only [wv, simprocAttr] <;> rfl)); (case hg => rfl); (case hl1 => rfl); (case hl2 => rfl); (case hok => rfl); (case hr => rfl); simp only [nm, Nat.reduceAdd]) | (apply mnil; simp only [SlotR.fin, ns]) | (refine msplit rfl (fun h => ?_) (fun h => ?_) <;> simp only [h] <;> (try simp only [nb] at h)))) <;> (repeat' (first | ((first | refine o1 rfl ?_ | refine o0 rfl ?_); intro k hk; simp (disch := omega) only [ev0, sl_cells, simprocAttr, slOf, intsCs, intCs, hs, hc, decide_false]; refine hk _ _ ?_; clear hk k) | refine ono rfl ?_ | (apply ocall; (case he => (simp only [ev0, sl_cells, simprocAttr] <;> rfl)); (case hc => first | exact hKs | exact hCs | exact hCb); (case ht => rfl); (case hg => rfl)) | ((first | refine osplitG rfl (fun h => ?_) (fun h => ?_) | refine osplitB rfl (fun h => ?_) (fun h => ?_)) <;> (fail_if_success (simp only [eq_self, reduceCtorEq] at h))) | refine onx ?_ | refine onb ?_ | refine sreg ?_ | refine qT rfl ?_ | refine qF rfl ?_ | refine scondT rfl ?_ | refine scondF rfl ?_ | refine ocondP rfl (fun h => ?_) (fun h => ?_) | refine ocondB rfl (fun h => ?_) (fun h => ?_) | refine scondP rfl (fun h => ?_) (fun h => ?_) | refine scond rfl (fun h => ?_) (fun h => ?_) | refine oskip ?_ | refine oskipb ?_ | refine oret ?_ | refine sem_ret ?_ | refine sem_seq ?_ | refine sreg1 ?_)))
                refine onil (lnext (i + 1) (by omega) (by omega) ?_)
                rw [hst]
                (refine Le.same ?_; simp only [List.forall_mem_cons, List.forall_mem_nil, getE, selE, Nat.reduceBEq, List.not_mem_nil, false_implies, implies_true, and_true, true_and, and_self])
                simp [slOf, intsCs, optL, intCs]
        · have hi' : i = T.length := by omega
          subst hi'
          rw [hfull]
          (refine sem_exit ?_; change sem _ _ _ _ _)
          repeat' (first | ((first | refine o1 rfl ?_ | refine o0 rfl ?_); intro k hk; simp (disch := omega) only [ev0, sl_cells, simprocAttr]; refine hk _ _ ?_; clear hk k) | refine ono rfl ?_ | ((first | refine osplitG rfl (fun h => ?_) (fun h => ?_) | refine osplitB rfl (fun h => ?_) (fun h => ?_)) <;> (fail_if_success (simp only [eq_self, reduceCtorEq] at h))) | refine onx ?_ | refine onb ?_ | refine sreg ?_ | refine qT rfl ?_ | refine qF rfl ?_ | refine scondT rfl ?_ | refine scondF rfl ?_ | refine ocondP rfl (fun h => ?_) (fun h => ?_) | refine ocondB rfl (fun h => ?_) (fun h => ?_) | refine scondP rfl (fun h => ?_) (fun h => ?_) | refine scond rfl (fun h => ?_) (fun h => ?_) | refine oskip ?_ | refine oskipb ?_ | refine oret ?_ | refine sem_ret ?_ | refine sem_seq ?_ | refine sreg1 ?_)
          refine onil (lnext (k + 1) (by omega) (by omega) ?_)
          (refine Le.same ?_; simp only [List.forall_mem_cons, List.forall_mem_nil, getE, selE, Nat.reduceBEq, List.not_mem_nil, false_implies, implies_true, and_true, true_and, and_self])
          simp [slOf]
    · have hk' : k = t.sites.length + 1 := by omega
      subst hk'
      (refine sem_exit ?_; change sem _ _ _ _ _)
      generalize bestR t f (t.sites.length + 1) = o
      repeat' (first | ((first | refine o1 rfl ?_ | refine o0 rfl ?_); intro k hk; simp (disch := omega) only [ev0, sl_cells, simprocAttr]; refine hk _ _ ?_; clear hk k) | refine ono rfl ?_ | ((first | refine osplitG rfl (fun h => ?_) (fun h => ?_) | refine osplitB rfl (fun h => ?_) (fun h => ?_)) <;> (fail_if_success (simp only [eq_self, reduceCtorEq] at h))) | refine onx ?_ | refine onb ?_ | refine sreg ?_ | refine qT rfl ?_ | refine qF rfl ?_ | refine scondT rfl ?_ | refine scondF rfl ?_ | refine ocondP rfl (fun h => ?_) (fun h => ?_) | refine ocondB rfl (fun h => ?_) (fun h => ?_) | refine scondP rfl (fun h => ?_) (fun h => ?_) | refine scond rfl (fun h => ?_) (fun h => ?_) | refine oskip ?_ | refine oskipb ?_ | refine oret ?_ | refine sem_ret ?_ | refine sem_seq ?_ | refine sreg1 ?_)
      cases o with
      | none =>
        simp only [optL]
        exact ⟨_, rfl, _, rfl, tree_eq rfl rfl⟩
      | some s =>
        simp only [optL]
        exact ⟨_, rfl, _, rfl, tree_eq rfl rfl⟩
theorem ref03_Floor (t : CoolTown) (ht : t.ok) (f : Nat) (hf : f ≤ 3) : Holds Try.prog G F.ref03_Floor [.agg t.cs, I f] (refFl (floorF t f)) := by
  have hns := ht.2.1
  have hnh := ht.1
  have hSi := ref03_Sites hG t (by omega)
  have hsl := sitesL_len t.sites.length
  have hfl1 : ∀ k, k ≤ t.sites.length → (∀ j, j < k → floorP t f j = false) → floorP t f k = true → floorF t f = some k := fun k hk h1 h2 => by
    unfold floorF
    refine List.find?_range_eq_some.2 ⟨by rw [← floor_eq ht hk]; exact h2, List.mem_range.2 (by omega), fun j hj => ?_⟩
    rw [← floor_eq ht (by omega), h1 j hj]; rfl
  have hfl2 : (∀ j, j < t.sites.length + 1 → floorP t f j = false) → floorF t f = none := fun h => by
    unfold floorF
    rw [List.find?_range_eq_none]
    intro j hj
    rw [← floor_eq ht (by omega), h j hj]; rfl
  have hBr := fun b hb y hy => ref03_Breaks hG t ht b hb f hf y hy
  generalize floorF t f = r at *
  (refine holds_of_sem hG fn_ref03_Floor (by simp) fun w0 S0 hG0 D0 => ?_; unfold c_ref03_Floor cval enterEnv; simp only [List.zipIdx_cons, List.zipIdx_nil, List.map_cons, List.map_nil, Nat.zero_add, Nat.reduceAdd])
  repeat' (first | ((first | refine o1 rfl ?_ | refine o0 rfl ?_); intro k hk; simp (disch := omega) only [ev0, sl_cells, simprocAttr]; refine hk _ _ ?_; clear hk k) | refine ono rfl ?_ | ((first | refine osplitG rfl (fun h => ?_) (fun h => ?_) | refine osplitB rfl (fun h => ?_) (fun h => ?_)) <;> (fail_if_success (simp only [eq_self, reduceCtorEq] at h))) | refine onx ?_ | refine onb ?_ | refine sreg ?_ | refine qT rfl ?_ | refine qF rfl ?_ | refine scondT rfl ?_ | refine scondF rfl ?_ | refine ocondP rfl (fun h => ?_) (fun h => ?_) | refine ocondB rfl (fun h => ?_) (fun h => ?_) | refine scondP rfl (fun h => ?_) (fun h => ?_) | refine scond rfl (fun h => ?_) (fun h => ?_) | refine oskip ?_ | refine oskipb ?_ | refine oret ?_ | refine sem_ret ?_ | refine sem_seq ?_ | refine sreg1 ?_)
  refine sem_block ?_
  
  refine sem_loop (α := Nat) (fun k => ⟨[(1, I f), (2, .ptr 0 0 2 0 0), (5, I k)], [.row 25 0 2 [t.cs]]⟩) (fun k => k ≤ t.sites.length + 1 ∧ ∀ j, j < k → floorP t f j = false) (fun k => t.sites.length + 1 - k) 0 ⟨Nat.zero_le _, fun j hj => absurd hj (Nat.not_lt_zero _)⟩ ?_ ?_
  · (refine Le.same ?_; simp only [List.forall_mem_cons, List.forall_mem_nil, getE, selE, Nat.reduceBEq, List.not_mem_nil, false_implies, implies_true, and_true, true_and, and_self])
    simp [CoolTown.cs]
  · rintro k ⟨hk, hkf⟩
    repeat' (first | ((first | refine o1 rfl ?_ | refine o0 rfl ?_); intro k hk; simp (disch := omega) only [ev0, sl_cells, simprocAttr, slOf, CoolTown.cs]; refine hk _ _ ?_; clear hk k) | refine ono rfl ?_ | ((first | refine osplitG rfl (fun h => ?_) (fun h => ?_) | refine osplitB rfl (fun h => ?_) (fun h => ?_)) <;> (fail_if_success (simp only [eq_self, reduceCtorEq] at h))) | refine onx ?_ | refine onb ?_ | refine sreg ?_ | refine qT rfl ?_ | refine qF rfl ?_ | refine scondT rfl ?_ | refine scondF rfl ?_ | refine ocondP rfl (fun h => ?_) (fun h => ?_) | refine ocondB rfl (fun h => ?_) (fun h => ?_) | refine scondP rfl (fun h => ?_) (fun h => ?_) | refine scond rfl (fun h => ?_) (fun h => ?_) | refine oskip ?_ | refine oskipb ?_ | refine oret ?_ | refine sem_ret ?_ | refine sem_seq ?_ | refine sreg1 ?_)
    · have hk' : k ≤ t.sites.length := by omega
      have hSe := ref03_Sets hG k (sitesL t.sites.length) (by omega) (by omega)
      have hf1 := hfl1 k hk' hkf
      have hnx : floorP t f k = false → ∀ j, j < k + 1 → floorP t f j = false := fun q j hj => by
        by_cases e : j = k
        · subst e; exact q
        · exact hkf j (by omega)
      have hsub : ∀ s ∈ setsL (sitesL t.sites.length) k, coolersOk t.sites.length s := fun s hs => sub_ok ht (sites_ok _) (mem_sets.1 hs).1
      have hlen := sets_len_le (l := sitesL t.sites.length) (k := k)
      have hp10 : 2 ^ (sitesL t.sites.length).length ≤ 2 ^ 10 := Nat.pow_le_pow_right (by omega) (by omega)
      unfold floorP at hf1 hnx
      generalize setsL (sitesL t.sites.length) k = T at *
      refine sem_block ?_
      repeat' (first | ((first | refine o1 rfl ?_ | refine o0 rfl ?_); intro k hk; simp (disch := omega) only [ev0, sl_cells, simprocAttr, slOf, CoolTown.cs]; refine hk _ _ ?_; clear hk k) | refine ono rfl ?_ | ((first | refine osplitG rfl (fun h => ?_) (fun h => ?_) | refine osplitB rfl (fun h => ?_) (fun h => ?_)) <;> (fail_if_success (simp only [eq_self, reduceCtorEq] at h))) | refine onx ?_ | refine onb ?_ | refine sreg ?_ | refine qT rfl ?_ | refine qF rfl ?_ | refine scondT rfl ?_ | refine scondF rfl ?_ | refine ocondP rfl (fun h => ?_) (fun h => ?_) | refine ocondB rfl (fun h => ?_) (fun h => ?_) | refine scondP rfl (fun h => ?_) (fun h => ?_) | refine scond rfl (fun h => ?_) (fun h => ?_) | refine oskip ?_ | refine oskipb ?_ | refine oret ?_ | refine sem_ret ?_ | refine sem_seq ?_ | refine sreg1 ?_)
      refine sem_block ?_
      
      refine sem_loop (α := Nat) (fun y => ⟨[(1, I f), (2, .ptr 0 0 2 0 0), (5, I k), (6, B ((List.range y).all fun y => T.any fun s => levM t y f (setB s))), (7, I y)], [.row 25 0 2 [t.cs]]⟩) (fun y => y ≤ t.houses.length) (fun y => t.houses.length - y) 0 (Nat.zero_le _) ?_ ?_
      · (refine Le.same ?_; simp only [List.forall_mem_cons, List.forall_mem_nil, getE, selE, Nat.reduceBEq, List.not_mem_nil, false_implies, implies_true, and_true, true_and, and_self])
        simp [CoolTown.cs]
      · intro y hy
        have hall : ((List.range (y + 1)).all fun y => T.any fun s => levM t y f (setB s)) = (((List.range y).all fun y => T.any fun s => levM t y f (setB s)) && T.any fun s => levM t y f (setB s)) := by
          rw [List.range_succ, List.all_append]; simp
        repeat' (first | ((first | refine o1 rfl ?_ | refine o0 rfl ?_); intro k hk; simp (disch := omega) only [ev0, sl_cells, simprocAttr, slOf, CoolTown.cs]; refine hk _ _ ?_; clear hk k) | refine ono rfl ?_ | ((first | refine osplitG rfl (fun h => ?_) (fun h => ?_) | refine osplitB rfl (fun h => ?_) (fun h => ?_)) <;> (fail_if_success (simp only [eq_self, reduceCtorEq] at h))) | refine onx ?_ | refine onb ?_ | refine sreg ?_ | refine qT rfl ?_ | refine qF rfl ?_ | refine scondT rfl ?_ | refine scondF rfl ?_ | refine ocondP rfl (fun h => ?_) (fun h => ?_) | refine ocondB rfl (fun h => ?_) (fun h => ?_) | refine scondP rfl (fun h => ?_) (fun h => ?_) | refine scond rfl (fun h => ?_) (fun h => ?_) | refine oskip ?_ | refine oskipb ?_ | refine oret ?_ | refine sem_ret ?_ | refine sem_seq ?_ | refine sreg1 ?_)
        · have hy' : y < t.houses.length := by omega
          generalize ((List.range y).all fun y => T.any fun s => levM t y f (setB s)) = a at *
          refine sem_block ?_
          repeat' (first | ((first | refine o1 rfl ?_ | refine o0 rfl ?_); intro k hk; simp (disch := omega) only [ev0, sl_cells, simprocAttr, slOf]; refine hk _ _ ?_; clear hk k) | refine ono rfl ?_ | (apply ocall; (case he => (simp only [ev0, sl_cells, simprocAttr] <;> rfl)); (case hc => first | exact hSi | exact hSe); (case ht => rfl); (case hg => rfl)) | ((first | refine osplitG rfl (fun h => ?_) (fun h => ?_) | refine osplitB rfl (fun h => ?_) (fun h => ?_)) <;> (fail_if_success (simp only [eq_self, reduceCtorEq] at h))) | refine onx ?_ | refine onb ?_ | refine sreg ?_ | refine qT rfl ?_ | refine qF rfl ?_ | refine scondT rfl ?_ | refine scondF rfl ?_ | refine ocondP rfl (fun h => ?_) (fun h => ?_) | refine ocondB rfl (fun h => ?_) (fun h => ?_) | refine scondP rfl (fun h => ?_) (fun h => ?_) | refine scond rfl (fun h => ?_) (fun h => ?_) | refine oskip ?_ | refine oskipb ?_ | refine oret ?_ | refine sem_ret ?_ | refine sem_seq ?_ | refine sreg1 ?_)
          refine sem_block ?_
          
          refine sem_loop (α := Nat) (fun i => ⟨[(1, I f), (2, .ptr 0 0 2 0 0), (5, I k), (6, B a), (7, I y), (8, B ((T.take i).any fun s => levM t y f (setB s))), (9, slOf intsCs T), (10, I i)], [.row 25 0 2 [t.cs]]⟩) (fun i => i ≤ T.length) (fun i => T.length - i) 0 (Nat.zero_le _) ?_ ?_
          · (refine Le.same ?_; simp only [List.forall_mem_cons, List.forall_mem_nil, getE, selE, Nat.reduceBEq, List.not_mem_nil, false_implies, implies_true, and_true, true_and, and_self])
            simp [slOf, CoolTown.cs]
          · intro i hi
            have hat := fun h : i < T.length => any_take (p := fun s => levM t y f (setB s)) h
            have hle := fun h => any_take_le (p := fun s => levM t y f (setB s)) (T := T) (i := i) h
            by_cases q : i < T.length
            · have q' : (i : Int) < T.length := by omega
              have hat' := hat q
              cases hone : (T.take i).any fun s => levM t y f (setB s) with
              | true =>
                have hT := hle hone
                rw [hT] at hall
                repeat' (first | ((first | refine o1 rfl ?_ | refine o0 rfl ?_); intro k hk; simp (disch := omega) only [ev0, sl_cells, simprocAttr, slOf, q']; refine hk _ _ ?_; clear hk k) | refine ono rfl ?_ | ((first | refine osplitG rfl (fun h => ?_) (fun h => ?_) | refine osplitB rfl (fun h => ?_) (fun h => ?_)) <;> (fail_if_success (simp only [eq_self, reduceCtorEq] at h))) | refine onx ?_ | refine onb ?_ | refine sreg ?_ | refine qT rfl ?_ | refine qF rfl ?_ | refine scondT rfl ?_ | refine scondF rfl ?_ | refine ocondP rfl (fun h => ?_) (fun h => ?_) | refine ocondB rfl (fun h => ?_) (fun h => ?_) | refine scondP rfl (fun h => ?_) (fun h => ?_) | refine scond rfl (fun h => ?_) (fun h => ?_) | refine oskip ?_ | refine oskipb ?_ | refine oret ?_ | refine sem_ret ?_ | refine sem_seq ?_ | refine sreg1 ?_)
                (refine sem_exit ?_; change sem _ _ _ _ _)
                cases a with
                | true =>
                  repeat' (first | ((first | refine o1 rfl ?_ | refine o0 rfl ?_); intro k hk; simp (disch := omega) only [ev0, sl_cells, simprocAttr]; refine hk _ _ ?_; clear hk k) | refine ono rfl ?_ | ((first | refine osplitG rfl (fun h => ?_) (fun h => ?_) | refine osplitB rfl (fun h => ?_) (fun h => ?_)) <;> (fail_if_success (simp only [eq_self, reduceCtorEq] at h))) | refine onx ?_ | refine onb ?_ | refine sreg ?_ | refine qT rfl ?_ | refine qF rfl ?_ | refine scondT rfl ?_ | refine scondF rfl ?_ | refine ocondP rfl (fun h => ?_) (fun h => ?_) | refine ocondB rfl (fun h => ?_) (fun h => ?_) | refine scondP rfl (fun h => ?_) (fun h => ?_) | refine scond rfl (fun h => ?_) (fun h => ?_) | refine oskip ?_ | refine oskipb ?_ | refine oret ?_ | refine sem_ret ?_ | refine sem_seq ?_ | refine sreg1 ?_)
                  refine onil (lnext (y + 1) (by omega) (by omega) ?_)
                  rw [hall]
                  (refine Le.same ?_; simp only [List.forall_mem_cons, List.forall_mem_nil, getE, selE, Nat.reduceBEq, List.not_mem_nil, false_implies, implies_true, and_true, true_and, and_self])
                  simp [slOf]
                | false =>
                  repeat' (first | ((first | refine o1 rfl ?_ | refine o0 rfl ?_); intro k hk; simp (disch := omega) only [ev0, sl_cells, simprocAttr]; refine hk _ _ ?_; clear hk k) | refine ono rfl ?_ | ((first | refine osplitG rfl (fun h => ?_) (fun h => ?_) | refine osplitB rfl (fun h => ?_) (fun h => ?_)) <;> (fail_if_success (simp only [eq_self, reduceCtorEq] at h))) | refine onx ?_ | refine onb ?_ | refine sreg ?_ | refine qT rfl ?_ | refine qF rfl ?_ | refine scondT rfl ?_ | refine scondF rfl ?_ | refine ocondP rfl (fun h => ?_) (fun h => ?_) | refine ocondB rfl (fun h => ?_) (fun h => ?_) | refine scondP rfl (fun h => ?_) (fun h => ?_) | refine scond rfl (fun h => ?_) (fun h => ?_) | refine oskip ?_ | refine oskipb ?_ | refine oret ?_ | refine sem_ret ?_ | refine sem_seq ?_ | refine sreg1 ?_)
                  refine onil (lnext (y + 1) (by omega) (by omega) ?_)
                  rw [hall]
                  (refine Le.same ?_; simp only [List.forall_mem_cons, List.forall_mem_nil, getE, selE, Nat.reduceBEq, List.not_mem_nil, false_implies, implies_true, and_true, true_and, and_self])
                  simp [slOf]
              | false =>
                rw [hone, Bool.false_or] at hat'
                have hso := hsub (T.getD i default) (by rw [getD_lt q]; exact List.getElem_mem _)
                have hb10 := len10 ht hso
                have hB := hBr _ hso y hy'
                unfold brL at hB
                generalize hs : T.getD i default = s at *
                repeat' (first | ((first | refine o1 rfl ?_ | refine o0 rfl ?_); intro k hk; simp (disch := omega) only [ev0, sl_cells, simprocAttr, slOf, q']; refine hk _ _ ?_; clear hk k) | refine ono rfl ?_ | ((first | refine osplitG rfl (fun h => ?_) (fun h => ?_) | refine osplitB rfl (fun h => ?_) (fun h => ?_)) <;> (fail_if_success (simp only [eq_self, reduceCtorEq] at h))) | refine onx ?_ | refine onb ?_ | refine sreg ?_ | refine qT rfl ?_ | refine qF rfl ?_ | refine scondT rfl ?_ | refine scondF rfl ?_ | refine ocondP rfl (fun h => ?_) (fun h => ?_) | refine ocondB rfl (fun h => ?_) (fun h => ?_) | refine scondP rfl (fun h => ?_) (fun h => ?_) | refine scond rfl (fun h => ?_) (fun h => ?_) | refine oskip ?_ | refine oskipb ?_ | refine oret ?_ | refine sem_ret ?_ | refine sem_seq ?_ | refine sreg1 ?_)
                refine sem_block ?_
                cases hl : levM t y f (setB s) with
                | true =>
                  rw [hl, if_pos rfl] at hB
                  simp only [optL, Option.isSome] at hB
                  repeat' (first | ((first | refine o1 rfl ?_ | refine o0 rfl ?_); intro k hk; simp (disch := omega) only [ev0, sl_cells, simprocAttr]; refine hk _ _ ?_; clear hk k) | refine ono rfl ?_ | ((first | refine osplitG rfl (fun h => ?_) (fun h => ?_) | refine osplitB rfl (fun h => ?_) (fun h => ?_)) <;> (fail_if_success (simp only [eq_self, reduceCtorEq] at h))) | refine onx ?_ | refine onb ?_ | refine sreg ?_ | refine qT rfl ?_ | refine qF rfl ?_ | refine scondT rfl ?_ | refine scondF rfl ?_ | refine ocondP rfl (fun h => ?_) (fun h => ?_) | refine ocondB rfl (fun h => ?_) (fun h => ?_) | refine scondP rfl (fun h => ?_) (fun h => ?_) | refine scond rfl (fun h => ?_) (fun h => ?_) | refine oskip ?_ | refine oskipb ?_ | refine oret ?_ | refine sem_ret ?_ | refine sem_seq ?_ | refine sreg1 ?_)
                  ((refine sem_mgo 12 hmix (by kernel_rfl) ?_; simp only [nt]); (repeat' (first | ((first | apply mop | apply mop0); (case hg => rfl); (case hq => rfl); intro k hk; simp (disch := omega) only [ev0, sl_cells, simprocAttr, slOf, intsCs, intCs, hs]; refine hk _ _ rfl ?_; clear hk k) | (apply mno; (case hg => rfl)) | (apply mcall; (case he => (simp only [ev0, sl_cells, simprocAttr] <;> rfl)); (case hc => first | exact hB); (case ht => rfl); (case hg => rfl); (case hr => rfl)) | (apply mbox; (case hx => (simp only [wv, simprocAttr] <;> rfl)); (case hg => rfl); (case hall => rfl); (case hr => rfl); simp only [nm, Nat.reduceAdd]) | (apply mbldS; (case hb => (simp (disch := omega) only [ev0, sl_cells, simprocAttr] <;> rfl)); (case hg => rfl); (case hr => rfl); simp only [nm, Nat.reduceAdd]) | ((first | (apply msto (q := 0); (case hq => rfl)) | (apply msto (q := 1); (case hq => rfl)) | (apply msto (q := 2); (case hq => rfl)) | (apply msto (q := 3); (case hq => rfl))); (case hx => (simp only [wv, simprocAttr] <;> rfl)); (case haddr => (simp only [wv, simprocAttr] <;> rfl)); (case hg => rfl); (case hl1 => rfl); (case hl2 => rfl); (case hok => rfl); (case hr => rfl); simp only [nm, Nat.reduceAdd]) | (apply mnil; simp only [SlotR.fin, ns]) | (refine msplit rfl (fun h => ?_) (fun h => ?_) <;> simp only [h] <;> (try simp only [nb] at h)))) <;> (repeat' (first | ((first | refine o1 rfl ?_ | refine o0 rfl ?_); intro k hk; simp (disch := omega) only [ev0, sl_cells, simprocAttr, slOf, intsCs, intCs, hs]; refine hk _ _ ?_; clear hk k) | refine ono rfl ?_ | (apply ocall; (case he => (simp only [ev0, sl_cells, simprocAttr] <;> rfl)); (case hc => first | exact hB); (case ht => rfl); (case hg => rfl)) | ((first | refine osplitG rfl (fun h => ?_) (fun h => ?_) | refine osplitB rfl (fun h => ?_) (fun h => ?_)) <;> (fail_if_success (simp only [eq_self, reduceCtorEq] at h))) | refine onx ?_ | refine onb ?_ | refine sreg ?_ | refine qT rfl ?_ | refine qF rfl ?_ | refine scondT rfl ?_ | refine scondF rfl ?_ | refine ocondP rfl (fun h => ?_) (fun h => ?_) | refine ocondB rfl (fun h => ?_) (fun h => ?_) | refine scondP rfl (fun h => ?_) (fun h => ?_) | refine scond rfl (fun h => ?_) (fun h => ?_) | refine oskip ?_ | refine oskipb ?_ | refine oret ?_ | refine sem_ret ?_ | refine sem_seq ?_ | refine sreg1 ?_)))
                  refine onil (lnext (i + 1) (by omega) (by omega) ?_)
                  rw [hat', hl]
                  (refine Le.same ?_; simp only [List.forall_mem_cons, List.forall_mem_nil, getE, selE, Nat.reduceBEq, List.not_mem_nil, false_implies, implies_true, and_true, true_and, and_self])
                  simp [slOf, intsCs]
                | false =>
                  rw [hl, if_neg (by simp)] at hB
                  simp only [optL, Option.isSome] at hB
                  repeat' (first | ((first | refine o1 rfl ?_ | refine o0 rfl ?_); intro k hk; simp (disch := omega) only [ev0, sl_cells, simprocAttr]; refine hk _ _ ?_; clear hk k) | refine ono rfl ?_ | ((first | refine osplitG rfl (fun h => ?_) (fun h => ?_) | refine osplitB rfl (fun h => ?_) (fun h => ?_)) <;> (fail_if_success (simp only [eq_self, reduceCtorEq] at h))) | refine onx ?_ | refine onb ?_ | refine sreg ?_ | refine qT rfl ?_ | refine qF rfl ?_ | refine scondT rfl ?_ | refine scondF rfl ?_ | refine ocondP rfl (fun h => ?_) (fun h => ?_) | refine ocondB rfl (fun h => ?_) (fun h => ?_) | refine scondP rfl (fun h => ?_) (fun h => ?_) | refine scond rfl (fun h => ?_) (fun h => ?_) | refine oskip ?_ | refine oskipb ?_ | refine oret ?_ | refine sem_ret ?_ | refine sem_seq ?_ | refine sreg1 ?_)
                  ((refine sem_mgo 12 hmix (by kernel_rfl) ?_; simp only [nt]); (repeat' (first | ((first | apply mop | apply mop0); (case hg => rfl); (case hq => rfl); intro k hk; simp (disch := omega) only [ev0, sl_cells, simprocAttr, slOf, intsCs, intCs, hs]; refine hk _ _ rfl ?_; clear hk k) | (apply mno; (case hg => rfl)) | (apply mcall; (case he => (simp only [ev0, sl_cells, simprocAttr] <;> rfl)); (case hc => first | exact hB); (case ht => rfl); (case hg => rfl); (case hr => rfl)) | (apply mbox; (case hx => (simp only [wv, simprocAttr] <;> rfl)); (case hg => rfl); (case hall => rfl); (case hr => rfl); simp only [nm, Nat.reduceAdd]) | (apply mbldS; (case hb => (simp (disch := omega) only [ev0, sl_cells, simprocAttr] <;> rfl)); (case hg => rfl); (case hr => rfl); simp only [nm, Nat.reduceAdd]) | ((first | (apply msto (q := 0); (case hq => rfl)) | (apply msto (q := 1); (case hq => rfl)) | (apply msto (q := 2); (case hq => rfl)) | (apply msto (q := 3); (case hq => rfl))); (case hx => (simp only [wv, simprocAttr] <;> rfl)); (case haddr => (simp only [wv, simprocAttr] <;> rfl)); (case hg => rfl); (case hl1 => rfl); (case hl2 => rfl); (case hok => rfl); (case hr => rfl); simp only [nm, Nat.reduceAdd]) | (apply mnil; simp only [SlotR.fin, ns]) | (refine msplit rfl (fun h => ?_) (fun h => ?_) <;> simp only [h] <;> (try simp only [nb] at h)))) <;> (repeat' (first | ((first | refine o1 rfl ?_ | refine o0 rfl ?_); intro k hk; simp (disch := omega) only [ev0, sl_cells, simprocAttr, slOf, intsCs, intCs, hs]; refine hk _ _ ?_; clear hk k) | refine ono rfl ?_ | (apply ocall; (case he => (simp only [ev0, sl_cells, simprocAttr] <;> rfl)); (case hc => first | exact hB); (case ht => rfl); (case hg => rfl)) | ((first | refine osplitG rfl (fun h => ?_) (fun h => ?_) | refine osplitB rfl (fun h => ?_) (fun h => ?_)) <;> (fail_if_success (simp only [eq_self, reduceCtorEq] at h))) | refine onx ?_ | refine onb ?_ | refine sreg ?_ | refine qT rfl ?_ | refine qF rfl ?_ | refine scondT rfl ?_ | refine scondF rfl ?_ | refine ocondP rfl (fun h => ?_) (fun h => ?_) | refine ocondB rfl (fun h => ?_) (fun h => ?_) | refine scondP rfl (fun h => ?_) (fun h => ?_) | refine scond rfl (fun h => ?_) (fun h => ?_) | refine oskip ?_ | refine oskipb ?_ | refine oret ?_ | refine sem_ret ?_ | refine sem_seq ?_ | refine sreg1 ?_)))
                  refine onil (lnext (i + 1) (by omega) (by omega) ?_)
                  rw [hat', hl]
                  (refine Le.same ?_; simp only [List.forall_mem_cons, List.forall_mem_nil, getE, selE, Nat.reduceBEq, List.not_mem_nil, false_implies, implies_true, and_true, true_and, and_self])
                  simp [slOf, intsCs]
            · have q' : ¬ (i : Int) < T.length := by omega
              have e : i = T.length := by omega
              subst e
              rw [List.take_length]
              repeat' (first | ((first | refine o1 rfl ?_ | refine o0 rfl ?_); intro k hk; simp (disch := omega) only [ev0, sl_cells, simprocAttr, slOf, q']; refine hk _ _ ?_; clear hk k) | refine ono rfl ?_ | ((first | refine osplitG rfl (fun h => ?_) (fun h => ?_) | refine osplitB rfl (fun h => ?_) (fun h => ?_)) <;> (fail_if_success (simp only [eq_self, reduceCtorEq] at h))) | refine onx ?_ | refine onb ?_ | refine sreg ?_ | refine qT rfl ?_ | refine qF rfl ?_ | refine scondT rfl ?_ | refine scondF rfl ?_ | refine ocondP rfl (fun h => ?_) (fun h => ?_) | refine ocondB rfl (fun h => ?_) (fun h => ?_) | refine scondP rfl (fun h => ?_) (fun h => ?_) | refine scond rfl (fun h => ?_) (fun h => ?_) | refine oskip ?_ | refine oskipb ?_ | refine oret ?_ | refine sem_ret ?_ | refine sem_seq ?_ | refine sreg1 ?_)
              (refine sem_exit ?_; change sem _ _ _ _ _)
              generalize (T.any fun s => levM t y f (setB s)) = b at *
              cases a with
              | true =>
                repeat' (first | ((first | refine o1 rfl ?_ | refine o0 rfl ?_); intro k hk; simp (disch := omega) only [ev0, sl_cells, simprocAttr]; refine hk _ _ ?_; clear hk k) | refine ono rfl ?_ | ((first | refine osplitG rfl (fun h => ?_) (fun h => ?_) | refine osplitB rfl (fun h => ?_) (fun h => ?_)) <;> (fail_if_success (simp only [eq_self, reduceCtorEq] at h))) | refine onx ?_ | refine onb ?_ | refine sreg ?_ | refine qT rfl ?_ | refine qF rfl ?_ | refine scondT rfl ?_ | refine scondF rfl ?_ | refine ocondP rfl (fun h => ?_) (fun h => ?_) | refine ocondB rfl (fun h => ?_) (fun h => ?_) | refine scondP rfl (fun h => ?_) (fun h => ?_) | refine scond rfl (fun h => ?_) (fun h => ?_) | refine oskip ?_ | refine oskipb ?_ | refine oret ?_ | refine sem_ret ?_ | refine sem_seq ?_ | refine sreg1 ?_)
                refine onil (lnext (y + 1) (by omega) (by omega) ?_)
                rw [hall]
                (refine Le.same ?_; simp only [List.forall_mem_cons, List.forall_mem_nil, getE, selE, Nat.reduceBEq, List.not_mem_nil, false_implies, implies_true, and_true, true_and, and_self])
                simp [slOf]
              | false =>
                repeat' (first | ((first | refine o1 rfl ?_ | refine o0 rfl ?_); intro k hk; simp (disch := omega) only [ev0, sl_cells, simprocAttr]; refine hk _ _ ?_; clear hk k) | refine ono rfl ?_ | ((first | refine osplitG rfl (fun h => ?_) (fun h => ?_) | refine osplitB rfl (fun h => ?_) (fun h => ?_)) <;> (fail_if_success (simp only [eq_self, reduceCtorEq] at h))) | refine onx ?_ | refine onb ?_ | refine sreg ?_ | refine qT rfl ?_ | refine qF rfl ?_ | refine scondT rfl ?_ | refine scondF rfl ?_ | refine ocondP rfl (fun h => ?_) (fun h => ?_) | refine ocondB rfl (fun h => ?_) (fun h => ?_) | refine scondP rfl (fun h => ?_) (fun h => ?_) | refine scond rfl (fun h => ?_) (fun h => ?_) | refine oskip ?_ | refine oskipb ?_ | refine oret ?_ | refine sem_ret ?_ | refine sem_seq ?_ | refine sreg1 ?_)
                refine onil (lnext (y + 1) (by omega) (by omega) ?_)
                rw [hall]
                (refine Le.same ?_; simp only [List.forall_mem_cons, List.forall_mem_nil, getE, selE, Nat.reduceBEq, List.not_mem_nil, false_implies, implies_true, and_true, true_and, and_self])
                simp [slOf]
        · have hy' : y = t.houses.length := by omega
          subst hy'
          (refine sem_exit ?_; change sem _ _ _ _ _)
          cases ha : (List.range t.houses.length).all fun y => T.any fun s => levM t y f (setB s) with
          | true =>
            rw [hf1 ha]
            repeat' (first | ((first | refine o1 rfl ?_ | refine o0 rfl ?_); intro k hk; simp (disch := omega) only [ev0, sl_cells, simprocAttr]; refine hk _ _ ?_; clear hk k) | refine ono rfl ?_ | ((first | refine osplitG rfl (fun h => ?_) (fun h => ?_) | refine osplitB rfl (fun h => ?_) (fun h => ?_)) <;> (fail_if_success (simp only [eq_self, reduceCtorEq] at h))) | refine onx ?_ | refine onb ?_ | refine sreg ?_ | refine qT rfl ?_ | refine qF rfl ?_ | refine scondT rfl ?_ | refine scondF rfl ?_ | refine ocondP rfl (fun h => ?_) (fun h => ?_) | refine ocondB rfl (fun h => ?_) (fun h => ?_) | refine scondP rfl (fun h => ?_) (fun h => ?_) | refine scond rfl (fun h => ?_) (fun h => ?_) | refine oskip ?_ | refine oskipb ?_ | refine oret ?_ | refine sem_ret ?_ | refine sem_seq ?_ | refine sreg1 ?_)
            unfold refFl
            exact ⟨_, rfl, _, rfl, tree_eq rfl rfl⟩
          | false =>
            repeat' (first | ((first | refine o1 rfl ?_ | refine o0 rfl ?_); intro k hk; simp (disch := omega) only [ev0, sl_cells, simprocAttr]; refine hk _ _ ?_; clear hk k) | refine ono rfl ?_ | ((first | refine osplitG rfl (fun h => ?_) (fun h => ?_) | refine osplitB rfl (fun h => ?_) (fun h => ?_)) <;> (fail_if_success (simp only [eq_self, reduceCtorEq] at h))) | refine onx ?_ | refine onb ?_ | refine sreg ?_ | refine qT rfl ?_ | refine qF rfl ?_ | refine scondT rfl ?_ | refine scondF rfl ?_ | refine ocondP rfl (fun h => ?_) (fun h => ?_) | refine ocondB rfl (fun h => ?_) (fun h => ?_) | refine scondP rfl (fun h => ?_) (fun h => ?_) | refine scond rfl (fun h => ?_) (fun h => ?_) | refine oskip ?_ | refine oskipb ?_ | refine oret ?_ | refine sem_ret ?_ | refine sem_seq ?_ | refine sreg1 ?_)
            refine onil (lnext (k + 1) ⟨by omega, hnx ha⟩ (by omega) ?_)
            (refine Le.same ?_; simp only [List.forall_mem_cons, List.forall_mem_nil, getE, selE, Nat.reduceBEq, List.not_mem_nil, false_implies, implies_true, and_true, true_and, and_self])
            simp [slOf]
    · have hk' : k = t.sites.length + 1 := by omega
      subst hk'
      (refine sem_exit ?_; change sem _ _ _ _ _)
      rw [hfl2 hkf]
      repeat' (first | ((first | refine o1 rfl ?_ | refine o0 rfl ?_); intro k hk; simp (disch := omega) only [ev0, sl_cells, simprocAttr]; refine hk _ _ ?_; clear hk k) | refine ono rfl ?_ | ((first | refine osplitG rfl (fun h => ?_) (fun h => ?_) | refine osplitB rfl (fun h => ?_) (fun h => ?_)) <;> (fail_if_success (simp only [eq_self, reduceCtorEq] at h))) | refine onx ?_ | refine onb ?_ | refine sreg ?_ | refine qT rfl ?_ | refine qF rfl ?_ | refine scondT rfl ?_ | refine scondF rfl ?_ | refine ocondP rfl (fun h => ?_) (fun h => ?_) | refine ocondB rfl (fun h => ?_) (fun h => ?_) | refine scondP rfl (fun h => ?_) (fun h => ?_) | refine scond rfl (fun h => ?_) (fun h => ?_) | refine oskip ?_ | refine oskipb ?_ | refine oret ?_ | refine sem_ret ?_ | refine sem_seq ?_ | refine sreg1 ?_)
      unfold refFl
      exact ⟨_, rfl, _, rfl, tree_eq rfl rfl⟩
end Go.Proofs.Ytnempffajbdneaa
