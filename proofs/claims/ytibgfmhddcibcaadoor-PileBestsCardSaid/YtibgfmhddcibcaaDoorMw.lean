import Derived.Test.YtibgfmhddcibcaaDoorMv
import Derived.Test.YtibgfmhddcibcaaDoorMh
set_option linter.unusedVariables false
set_option linter.unusedSimpArgs false
set_option maxRecDepth 8000
set_option maxHeartbeats 4000000
/- The best plan, as the program tells it. -/
namespace Go.Tk
open Go Go.Av Go.Proofs.YtibgfmhddcibcaaDoor
/-- The spots that the best plan comes through. -/
def stB (s : PileSite) (th : List (List Span)) : Nat → Nat → Int
  | 0 => fun _ => 0
  | y + 1 => jackF (best s th (th.length - y) y (stB s th y)).1 (nextF s th y (stB s th y))
def bitB (s : PileSite) (th : List (List Span)) (y : Nat) : Int := (best s th (th.length - y) y (stB s th y)).1
def planB (s : PileSite) (th : List (List Span)) : List Int := (List.range th.length).map (bitB s th)
/-- The map, search after search. -/
def esB (s : PileSite) (th : List (List Span)) : Nat → ES
  | 0 => seaE s th th.length 0 (fun _ => 0) []
  | y + 1 => seaE s th (th.length - y) y (stB s th y) (esB s th y)
theorem cheap_range (c : Nat → Int × Bool) : ∀ m, 0 ≤ (cheapF c m).1 ∧ ((cheapF c m).1 = 0 ∨ (cheapF c m).1 < m)
  | 0 => ⟨Int.le_refl _, .inl rfl⟩
  | m + 1 => by
    have h := cheap_range c m
    simp only [cheapF]
    split
    · dsimp only; omega
    · omega
theorem best_bits {s : PileSite} (hs : s.ok) {th : List (List Span)} : ∀ r y f, 0 ≤ (best s th r y f).1 ∧ (best s th r y f).1 ≤ 2 ^ s.piles.length - 1
  | 0, _, _ => by
    have : (0 : Int) < 2 ^ s.piles.length := Int.pow_pos (by decide)
    simp only [best]; omega
  | r + 1, y, f => by
    have h0 : (0 : Int) < 2 ^ s.piles.length := Int.pow_pos (by decide)
    simp only [best]
    split
    · have h := cheap_range (fun x => (costTo s x 6 + (best s th r (y + 1) (jackF x (nextF s th y f))).2.1, (best s th r (y + 1) (jackF x (nextF s th y f))).2.2)) (2 ^ s.piles.length)
      rw [Int.natCast_pow] at h
      have e : ((2 : Nat) : Int) = 2 := rfl
      rw [e] at h
      omega
    · dsimp only; omega
theorem stB_bound {s : PileSite} (hs : s.ok) {th : List (List Span)} : ∀ (y q : Nat), -(1000 * (y : Int)) ≤ stB s th y q ∧ stB s th y q ≤ 0
  | 0, q => by simp [stB]
  | y + 1, q => jack_bound (next_bound hs (stB_bound hs y)) q
theorem esB_valid {s : PileSite} {th : List (List Span)} : ∀ y : Nat, y ≤ th.length → validS s th (esB s th y)
  | 0, _ => valid_sea _ _ _ _ (by omega) (fun p hp => by cases hp)
  | y + 1, h => valid_sea _ _ _ _ (by omega) (esB_valid y (by omega))
end Go.Tk
namespace Go.Proofs.YtibgfmhddcibcaaDoor
open Go Go.Av Go.Tk
attribute [local irreducible] Holds sem semL ACalls FnIs
variable {G : World → Prop} (hG : ∀ w w', G w → RowKit.Below w.heap.size w w' → G w')
include hG

theorem pile_Best (s : PileSite) (th : List (List Span)) (hs : shortP s th) : Holds Tryd.prog G F.pile_Best [.agg s.cs, slOf spansCs th]
    (if askedE s th = 0 then (if (best s th th.length 0 (fun _ => 0)).2.2 = true then .tup [slOf intCs (planB s th), I (best s th th.length 0 (fun _ => 0)).2.1, I 0] else .tup [.nilsl, I 0, I 5]) else .tup [.nilsl, I 0, I (askedE s th)]) := by
  obtain ⟨-, a, b, c, d⟩ := id hs
  have hrow := hs.row
  have hgiv := pile_site_given hG s th false true (by omega) (by omega) (by omega) (by omega) (fun _ l hl => by have := hrow l hl; omega)
  rw [given_asked] at hgiv
  by_cases he : askedE s th = 0
  · obtain ⟨ok, tok, t10⟩ := asked_0 he
    rw [if_pos he]
    rw [he] at hgiv
    have hn : 1 ≤ s.piles.length ∧ s.piles.length ≤ 6 := ok.2.1
    (refine holds_of_sem hG fn_pile_Best (by simp) fun w0 S0 hG0 D0 => ?_; unfold c_pile_Best cval enterEnv; simp only [List.zipIdx_cons, List.zipIdx_nil, List.map_cons, List.map_nil, Nat.zero_add, Nat.reduceAdd])
    repeat' (first | ((first | refine o1 rfl ?_ | refine o0 rfl ?_); intro k hk; simp (disch := omega) only [ev0, sl_cells, simprocAttr, slOf, PileSite.cs]; refine hk _ _ ?_; clear hk k) | refine ono rfl ?_ | ((first | refine osplitG rfl (fun h => ?_) (fun h => ?_) | refine osplitB rfl (fun h => ?_) (fun h => ?_)) <;> (fail_if_success (simp only [eq_self, reduceCtorEq] at h))) | refine onx ?_ | refine onb ?_ | refine sreg ?_ | refine qT rfl ?_ | refine qF rfl ?_ | refine scondT rfl ?_ | refine scondF rfl ?_ | refine ocondP rfl (fun h => ?_) (fun h => ?_) | refine ocondB rfl (fun h => ?_) (fun h => ?_) | refine scondP rfl (fun h => ?_) (fun h => ?_) | refine scond rfl (fun h => ?_) (fun h => ?_) | refine oskip ?_ | refine oskipb ?_ | refine oret ?_ | refine sem_ret ?_ | refine sem_seq ?_ | refine sreg1 ?_)
    (refine semL_frzbox 2 rfl rfl ?_; simp only [frz_siteCs, frzE, frzM, frzA, frzL, frzO, frz_sl, frz_span, frz_pile, frz_row, frz_pair, frz_site, List.map_cons, List.map_nil, List.set_cons_zero, List.set_cons_succ, Nat.reduceEqDiff, if_true, if_false, and_self, Nat.reduceLT, Nat.reduceLeDiff, reduceIte, Nat.le_refl])
    repeat' (first | ((first | refine o1 rfl ?_ | refine o0 rfl ?_); intro k hk; simp (disch := omega) only [ev0, sl_cells, simprocAttr, slOf, PileSite.cs]; refine hk _ _ ?_; clear hk k) | refine ono rfl ?_ | (apply ocall; (case he => (simp only [ev0, sl_cells, simprocAttr] <;> rfl)); (case hc => first | exact hgiv); (case ht => rfl); (case hg => rfl)) | ((first | refine osplitG rfl (fun h => ?_) (fun h => ?_) | refine osplitB rfl (fun h => ?_) (fun h => ?_)) <;> (fail_if_success (simp only [eq_self, reduceCtorEq] at h))) | refine onx ?_ | refine onb ?_ | refine sreg ?_ | refine qT rfl ?_ | refine qF rfl ?_ | refine scondT rfl ?_ | refine scondF rfl ?_ | refine ocondP rfl (fun h => ?_) (fun h => ?_) | refine ocondB rfl (fun h => ?_) (fun h => ?_) | refine scondP rfl (fun h => ?_) (fun h => ?_) | refine scond rfl (fun h => ?_) (fun h => ?_) | refine oskip ?_ | refine oskipb ?_ | refine oret ?_ | refine sem_ret ?_ | refine sem_seq ?_ | refine sreg1 ?_)
    (refine semL_frzbox 0 rfl rfl ?_; simp only [frz_siteCs, frzE, frzM, frzA, frzL, frzO, frz_sl, frz_span, frz_pile, frz_row, frz_pair, frz_site, List.map_cons, List.map_nil, List.set_cons_zero, List.set_cons_succ, Nat.reduceEqDiff, if_true, if_false, and_self, Nat.reduceLT, Nat.reduceLeDiff, reduceIte, Nat.le_refl])
    (refine semL_frzbox 1 rfl rfl ?_; simp only [frz_siteCs, frzE, frzM, frzA, frzL, frzO, frz_sl, frz_span, frz_pile, frz_row, frz_pair, frz_site, List.map_cons, List.map_nil, List.set_cons_zero, List.set_cons_succ, Nat.reduceEqDiff, if_true, if_false, and_self, Nat.reduceLT, Nat.reduceLeDiff, reduceIte, Nat.le_refl])
    (refine semL_frzbox 3 rfl rfl ?_; simp only [frz_siteCs, frzE, frzM, frzA, frzL, frzO, frz_sl, frz_span, frz_pile, frz_row, frz_pair, frz_site, List.map_cons, List.map_nil, List.set_cons_zero, List.set_cons_succ, Nat.reduceEqDiff, if_true, if_false, and_self, Nat.reduceLT, Nat.reduceLeDiff, reduceIte, Nat.le_refl])
    have hv0 : validS s th [] := fun p hp => by cases hp
    refine semL_dyn rfl rfl ((best_1 (K := ⟨Tryd.prog, w0, S0, G, hG0⟩) rfl hG s th ok tok t10 th.length 0 (fun _ => 0) [] (by omega) (by simp) hv0).frame (es := [.row 113 0 13 [spotL 0 fun _ => 0]]) rfl (base_ref hv0) (by
      simp only [List.forall_mem_cons, List.not_mem_nil, false_implies, implies_true, and_true]
      rfl) rfl) fun ae μ hr => ?_
    obtain ⟨rfl, rfl⟩ := hr
    change semL _ _ _ ⟨(_, _) :: _, _⟩ _
    unfold baseM
    simp only [List.cons_append, List.nil_append]
    cases hr : (best s th th.length 0 (fun _ => 0)).2.2 with
    | false =>
      repeat' (first | ((first | refine o1 rfl ?_ | refine o0 rfl ?_); intro k hk; simp (disch := omega) only [ev0, sl_cells, simprocAttr, hr]; refine hk _ _ ?_; clear hk k) | refine ono rfl ?_ | ((first | refine osplitG rfl (fun h => ?_) (fun h => ?_) | refine osplitB rfl (fun h => ?_) (fun h => ?_)) <;> (fail_if_success (simp only [eq_self, reduceCtorEq] at h))) | refine onx ?_ | refine onb ?_ | refine sreg ?_ | refine qT rfl ?_ | refine qF rfl ?_ | refine scondT rfl ?_ | refine scondF rfl ?_ | refine ocondP rfl (fun h => ?_) (fun h => ?_) | refine ocondB rfl (fun h => ?_) (fun h => ?_) | refine scondP rfl (fun h => ?_) (fun h => ?_) | refine scond rfl (fun h => ?_) (fun h => ?_) | refine oskip ?_ | refine oskipb ?_ | refine oret ?_ | refine sem_ret ?_ | refine sem_seq ?_ | refine sreg1 ?_)
      simp only [Bool.false_eq_true, if_false]
      exact ⟨_, rfl, _, rfl, tree_eq rfl rfl⟩
    | true =>
      repeat' (first | ((first | refine o1 rfl ?_ | refine o0 rfl ?_); intro k hk; simp (disch := omega) only [ev0, sl_cells, simprocAttr, hr, slOf]; refine hk _ _ ?_; clear hk k) | refine ono rfl ?_ | ((first | refine osplitG rfl (fun h => ?_) (fun h => ?_) | refine osplitB rfl (fun h => ?_) (fun h => ?_)) <;> (fail_if_success (simp only [eq_self, reduceCtorEq] at h))) | refine onx ?_ | refine onb ?_ | refine sreg ?_ | refine qT rfl ?_ | refine qF rfl ?_ | refine scondT rfl ?_ | refine scondF rfl ?_ | refine ocondP rfl (fun h => ?_) (fun h => ?_) | refine ocondB rfl (fun h => ?_) (fun h => ?_) | refine scondP rfl (fun h => ?_) (fun h => ?_) | refine scond rfl (fun h => ?_) (fun h => ?_) | refine oskip ?_ | refine oskipb ?_ | refine oret ?_ | refine sem_ret ?_ | refine sem_seq ?_ | refine sreg1 ?_)
      simp only [if_true]
      refine sem_block ?_
      (refine sem_ghost 13 3 1 rfl ?_; simp only [List.length_cons, List.length_nil, Nat.reduceAdd, Nat.zero_add, List.cons_append, List.nil_append])
      
      refine sem_loop (α := Nat) (fun y => ⟨[(7, .tptr [.tptr (siteCs s th) 0] 0), (10, .ptr 6 0 1 0 0), (11, .ptr 7 0 13 0 0), (12, .ptr 8 0 3 0 0), (13, .hsl 9 y 1 y), (33, I th.length), (34, I y)], [.gone, .gone, .gone, .gone, .map (esB s th y), .row 109 0 1 [[.mp 4]], .row 110 0 1 [[.fn (.func F.pile_Best_1) [] (caOf s th)]], .row 113 0 13 [spotL y (stB s th y)], .row 115 0 3 [[.int .i64 (best s th th.length 0 (fun _ => 0)).1, .int .i64 (best s th th.length 0 (fun _ => 0)).2.1, .bool true]], .row 3 y 1 (rowF intCs y (bitB s th))]⟩)
        (fun y => y ≤ th.length) (fun y => th.length - y) 0 (Nat.zero_le _) ?_ ?_
      · (refine Le.same ?_; simp only [List.forall_mem_cons, List.forall_mem_nil, getE, selE, Nat.reduceBEq, List.not_mem_nil, false_implies, implies_true, and_true, true_and, and_self])
        simp [slOf, siteCs]
      · intro y hyl
        repeat' (first | ((first | refine o1 rfl ?_ | refine o0 rfl ?_); intro k hk; simp (disch := omega) only [ev0, sl_cells, simprocAttr]; refine hk _ _ ?_; clear hk k) | refine ono rfl ?_ | ((first | refine osplitG rfl (fun h => ?_) (fun h => ?_) | refine osplitB rfl (fun h => ?_) (fun h => ?_)) <;> (fail_if_success (simp only [eq_self, reduceCtorEq] at h))) | refine onx ?_ | refine onb ?_ | refine sreg ?_ | refine qT rfl ?_ | refine qF rfl ?_ | refine scondT rfl ?_ | refine scondF rfl ?_ | refine ocondP rfl (fun h => ?_) (fun h => ?_) | refine ocondB rfl (fun h => ?_) (fun h => ?_) | refine scondP rfl (fun h => ?_) (fun h => ?_) | refine scond rfl (fun h => ?_) (fun h => ?_) | refine oskip ?_ | refine oskipb ?_ | refine oret ?_ | refine sem_ret ?_ | refine sem_seq ?_ | refine sreg1 ?_)
        · have hy' : y < th.length := by omega
          have hvy := esB_valid (s := s) (th := th) y hyl
          have hvy1 := esB_valid (s := s) (th := th) (y + 1) (by omega)
          have hbb := best_bits ok (th := th) (th.length - y) y (stB s th y)
          have pow : ∀ i : Nat, i ≤ 6 → (2 : Int) ^ i ≤ 64 := by decide
          have hpw := pow _ hn.2
          have hN := pile_site_next hG s th ok tok y hy' (stB s th y) (fun q => by have := stB_bound ok (th := th) y q; omega)
          have hJ := pile_site_jack hG (.tptr (siteCs s th) 0) rfl y (by omega) (nextF s th y (stB s th y)) (best s th (th.length - y) y (stB s th y)).1 (by omega)
          have hrow2 : rowF intCs y (bitB s th) ++ [[AV.int .i64 (best s th (th.length - y) y (stB s th y)).1]] = rowF intCs (y + 1) (bitB s th) := rowF_succ
          refine sem_block ?_
          repeat' (first | ((first | refine o1 rfl ?_ | refine o0 rfl ?_); intro k hk; simp (disch := omega) only [ev0, sl_cells, simprocAttr, spot_len, spot_take]; refine hk _ _ ?_; clear hk k) | refine ono rfl ?_ | ((first | refine osplitG rfl (fun h => ?_) (fun h => ?_) | refine osplitB rfl (fun h => ?_) (fun h => ?_)) <;> (fail_if_success (simp only [eq_self, reduceCtorEq] at h))) | refine onx ?_ | refine onb ?_ | refine sreg ?_ | refine qT rfl ?_ | refine qF rfl ?_ | refine scondT rfl ?_ | refine scondF rfl ?_ | refine ocondP rfl (fun h => ?_) (fun h => ?_) | refine ocondB rfl (fun h => ?_) (fun h => ?_) | refine scondP rfl (fun h => ?_) (fun h => ?_) | refine scond rfl (fun h => ?_) (fun h => ?_) | refine oskip ?_ | refine oskipb ?_ | refine oret ?_ | refine sem_ret ?_ | refine sem_seq ?_ | refine sreg1 ?_)
          refine semL_dyn rfl rfl ((best_1 (K := ⟨Tryd.prog, w0, S0, G, hG0⟩) rfl hG s th ok tok t10 (th.length - y) y (stB s th y) (esB s th y) (by omega) (stB_bound ok y) hvy).frame (es := [.row 113 0 13 [spotL y (stB s th y)], .row 115 0 3 [[.int .i64 (best s th th.length 0 (fun _ => 0)).1, .int .i64 (best s th th.length 0 (fun _ => 0)).2.1, .bool true]], .row 3 y 1 (rowF intCs y (bitB s th))]) rfl (base_ref hvy) (by
            simp only [List.forall_mem_cons, List.not_mem_nil, false_implies, implies_true, and_true]
            exact ⟨rfl, rfl, all_rowF (fun _ _ => rfl)⟩) rfl) fun ae μ hr => ?_
          obtain ⟨rfl, rfl⟩ := hr
          change semL _ _ _ ⟨(_, _) :: _, _⟩ _
          unfold baseM
          simp only [List.cons_append, List.nil_append]
          repeat' (first | ((first | refine o1 rfl ?_ | refine o0 rfl ?_); intro k hk; simp (disch := omega) only [ev0, sl_cells, simprocAttr, rowF_take]; refine hk _ _ ?_; clear hk k) | refine ono rfl ?_ | ((first | refine osplitG rfl (fun h => ?_) (fun h => ?_) | refine osplitB rfl (fun h => ?_) (fun h => ?_)) <;> (fail_if_success (simp only [eq_self, reduceCtorEq] at h))) | refine onx ?_ | refine onb ?_ | refine sreg ?_ | refine qT rfl ?_ | refine qF rfl ?_ | refine scondT rfl ?_ | refine scondF rfl ?_ | refine ocondP rfl (fun h => ?_) (fun h => ?_) | refine ocondB rfl (fun h => ?_) (fun h => ?_) | refine scondP rfl (fun h => ?_) (fun h => ?_) | refine scond rfl (fun h => ?_) (fun h => ?_) | refine oskip ?_ | refine oskipb ?_ | refine oret ?_ | refine sem_ret ?_ | refine sem_seq ?_ | refine sreg1 ?_)
          rw [hrow2]
          ((refine sem_mgo 6 hmix (by kernel_rfl) ?_; simp only [List.take_succ_cons, List.take_zero, List.drop_succ_cons, List.drop_zero, List.take_nil, List.drop_nil]); (repeat' (first | ((first | apply mop | apply mop0); (case hg => rfl); (case hq => rfl); intro k hk; simp (disch := omega) only [ev0, sl_cells, simprocAttr, spot_take, spot_len, spot_drop]; refine hk _ _ rfl ?_; clear hk k) | (apply mno; (case hg => rfl)) | (apply mcall; (case he => (simp only [ev0, sl_cells, simprocAttr] <;> rfl)); (case hc => first | exact hN | exact hJ); (case ht => rfl); (case hg => rfl); (case hr => rfl)) | (apply mbox; (case hx => (simp only [wv, simprocAttr] <;> rfl)); (case hg => rfl); (case hall => rfl); (case hr => rfl); simp only [cellsOf, List.length_cons, List.length_nil, Nat.reduceAdd, Nat.zero_add, List.nil_append, List.cons_append, List.set_cons_zero, List.set_cons_succ, chunks, List.take_succ_cons, List.take_zero, List.drop_succ_cons, List.drop_zero]) | (apply mbldS; (case hb => (simp (disch := omega) only [ev0, sl_cells, simprocAttr] <;> rfl)); (case hg => rfl); (case hr => rfl); simp only [cellsOf, List.length_cons, List.length_nil, Nat.reduceAdd, Nat.zero_add, List.nil_append, List.cons_append, List.set_cons_zero, List.set_cons_succ, chunks, List.take_succ_cons, List.take_zero, List.drop_succ_cons, List.drop_zero]) | ((first | (apply msto (q := 0); (case hq => rfl)) | (apply msto (q := 1); (case hq => rfl)) | (apply msto (q := 2); (case hq => rfl)) | (apply msto (q := 3); (case hq => rfl))); (case hx => (simp only [wv, simprocAttr] <;> rfl)); (case haddr => (simp only [wv, simprocAttr] <;> rfl)); (case hg => rfl); (case hl1 => rfl); (case hl2 => rfl); (case hok => rfl); (case hr => rfl); simp only [cellsOf, List.length_cons, List.length_nil, Nat.reduceAdd, Nat.zero_add, List.nil_append, List.cons_append, List.set_cons_zero, List.set_cons_succ, chunks, List.take_succ_cons, List.take_zero, List.drop_succ_cons, List.drop_zero]) | (apply mnil; simp only [SlotR.fin, List.map_cons, List.map_nil, List.cons_append, List.nil_append, List.append_nil]) | (refine msplit rfl (fun h => ?_) (fun h => ?_) <;> simp only [h] <;> (try simp only [Bool.not_eq_true', Bool.not_eq_false', decide_eq_true_eq, decide_eq_false_iff_not] at h)))) <;> (repeat' (first | ((first | refine o1 rfl ?_ | refine o0 rfl ?_); intro k hk; simp (disch := omega) only [ev0, sl_cells, simprocAttr, spot_take, spot_len, spot_drop]; refine hk _ _ ?_; clear hk k) | refine ono rfl ?_ | (apply ocall; (case he => (simp only [ev0, sl_cells, simprocAttr] <;> rfl)); (case hc => first | exact hN | exact hJ); (case ht => rfl); (case hg => rfl)) | ((first | refine osplitG rfl (fun h => ?_) (fun h => ?_) | refine osplitB rfl (fun h => ?_) (fun h => ?_)) <;> (fail_if_success (simp only [eq_self, reduceCtorEq] at h))) | refine onx ?_ | refine onb ?_ | refine sreg ?_ | refine qT rfl ?_ | refine qF rfl ?_ | refine scondT rfl ?_ | refine scondF rfl ?_ | refine ocondP rfl (fun h => ?_) (fun h => ?_) | refine ocondB rfl (fun h => ?_) (fun h => ?_) | refine scondP rfl (fun h => ?_) (fun h => ?_) | refine scond rfl (fun h => ?_) (fun h => ?_) | refine oskip ?_ | refine oskipb ?_ | refine oret ?_ | refine sem_ret ?_ | refine sem_seq ?_ | refine sreg1 ?_)))
          refine onil (lnext (y + 1) (by omega) (by omega) ?_)
          (refine Le.drop ?_ rfl (by simp) rfl (by simp only [refM, refO, List.all_cons, List.all_nil, Bool.and_true, Bool.true_and, all_rowF (enc := intCs) (fun _ _ => rfl), valid_ref hvy1]; first | done | rfl) ; simp only [List.forall_mem_cons, List.forall_mem_nil, getE, selE, Nat.reduceBEq, List.not_mem_nil, false_implies, implies_true, and_true, true_and, and_self])
          simp [slOf, siteCs]
        · have hyl' : y = th.length := by omega
          subst hyl'
          (refine sem_exit ?_; change sem _ _ _ _ _)
          repeat' (first | ((first | refine o1 rfl ?_ | refine o0 rfl ?_); intro k hk; simp (disch := omega) only [ev0, sl_cells, simprocAttr]; refine hk _ _ ?_; clear hk k) | refine ono rfl ?_ | ((first | refine osplitG rfl (fun h => ?_) (fun h => ?_) | refine osplitB rfl (fun h => ?_) (fun h => ?_)) <;> (fail_if_success (simp only [eq_self, reduceCtorEq] at h))) | refine onx ?_ | refine onb ?_ | refine sreg ?_ | refine qT rfl ?_ | refine qF rfl ?_ | refine scondT rfl ?_ | refine scondF rfl ?_ | refine ocondP rfl (fun h => ?_) (fun h => ?_) | refine ocondB rfl (fun h => ?_) (fun h => ?_) | refine scondP rfl (fun h => ?_) (fun h => ?_) | refine scond rfl (fun h => ?_) (fun h => ?_) | refine oskip ?_ | refine oskipb ?_ | refine oret ?_ | refine sem_ret ?_ | refine sem_seq ?_ | refine sreg1 ?_)
          ((refine sem_mgo 4 hmix (by kernel_rfl) ?_; simp only [List.take_succ_cons, List.take_zero, List.drop_succ_cons, List.drop_zero, List.take_nil, List.drop_nil]); (repeat' (first | ((first | apply mop | apply mop0); (case hg => rfl); (case hq => rfl); intro k hk; simp (disch := omega) only [ev0, sl_cells, simprocAttr]; refine hk _ _ rfl ?_; clear hk k) | (apply mno; (case hg => rfl)) | (apply mbox; (case hx => (simp only [wv, simprocAttr] <;> rfl)); (case hg => rfl); (case hall => rfl); (case hr => rfl); simp only [cellsOf, List.length_cons, List.length_nil, Nat.reduceAdd, Nat.zero_add, List.nil_append, List.cons_append, List.set_cons_zero, List.set_cons_succ, chunks, List.take_succ_cons, List.take_zero, List.drop_succ_cons, List.drop_zero]) | (apply mbldS; (case hb => (simp (disch := omega) only [ev0, sl_cells, simprocAttr] <;> rfl)); (case hg => rfl); (case hr => rfl); simp only [cellsOf, List.length_cons, List.length_nil, Nat.reduceAdd, Nat.zero_add, List.nil_append, List.cons_append, List.set_cons_zero, List.set_cons_succ, chunks, List.take_succ_cons, List.take_zero, List.drop_succ_cons, List.drop_zero]) | ((first | (apply msto (q := 0); (case hq => rfl)) | (apply msto (q := 1); (case hq => rfl)) | (apply msto (q := 2); (case hq => rfl)) | (apply msto (q := 3); (case hq => rfl))); (case hx => (simp only [wv, simprocAttr] <;> rfl)); (case haddr => (simp only [wv, simprocAttr] <;> rfl)); (case hg => rfl); (case hl1 => rfl); (case hl2 => rfl); (case hok => rfl); (case hr => rfl); simp only [cellsOf, List.length_cons, List.length_nil, Nat.reduceAdd, Nat.zero_add, List.nil_append, List.cons_append, List.set_cons_zero, List.set_cons_succ, chunks, List.take_succ_cons, List.take_zero, List.drop_succ_cons, List.drop_zero]) | (apply mnil; simp only [SlotR.fin, List.map_cons, List.map_nil, List.cons_append, List.nil_append, List.append_nil]) | (refine msplit rfl (fun h => ?_) (fun h => ?_) <;> simp only [h] <;> (try simp only [Bool.not_eq_true', Bool.not_eq_false', decide_eq_true_eq, decide_eq_false_iff_not] at h)))) <;> (repeat' (first | ((first | refine o1 rfl ?_ | refine o0 rfl ?_); intro k hk; simp (disch := omega) only [ev0, sl_cells, simprocAttr]; refine hk _ _ ?_; clear hk k) | refine ono rfl ?_ | ((first | refine osplitG rfl (fun h => ?_) (fun h => ?_) | refine osplitB rfl (fun h => ?_) (fun h => ?_)) <;> (fail_if_success (simp only [eq_self, reduceCtorEq] at h))) | refine onx ?_ | refine onb ?_ | refine sreg ?_ | refine qT rfl ?_ | refine qF rfl ?_ | refine scondT rfl ?_ | refine scondF rfl ?_ | refine ocondP rfl (fun h => ?_) (fun h => ?_) | refine ocondB rfl (fun h => ?_) (fun h => ?_) | refine scondP rfl (fun h => ?_) (fun h => ?_) | refine scond rfl (fun h => ?_) (fun h => ?_) | refine oskip ?_ | refine oskipb ?_ | refine oret ?_ | refine sem_ret ?_ | refine sem_seq ?_ | refine sreg1 ?_)))
          exact ⟨_, rfl, _, rfl, .tup rfl (by
            intro i a b ha hb
            match i, ha, hb with
            | 0, ha, hb => cases ha; cases hb; exact tree_rowF (enc := intCs) rfl (fun _ => rfl) (fun _ => rfl)
            | 1, ha, hb => cases ha; cases hb; exact .same rfl
            | 2, ha, hb => cases ha; cases hb; exact .same rfl)⟩
  · rw [if_neg he]
    (refine holds_of_sem hG fn_pile_Best (by simp) fun w0 S0 hG0 D0 => ?_; unfold c_pile_Best cval enterEnv; simp only [List.zipIdx_cons, List.zipIdx_nil, List.map_cons, List.map_nil, Nat.zero_add, Nat.reduceAdd])
    repeat' (first | ((first | refine o1 rfl ?_ | refine o0 rfl ?_); intro k hk; simp (disch := omega) only [ev0, sl_cells, simprocAttr, slOf, PileSite.cs]; refine hk _ _ ?_; clear hk k) | refine ono rfl ?_ | ((first | refine osplitG rfl (fun h => ?_) (fun h => ?_) | refine osplitB rfl (fun h => ?_) (fun h => ?_)) <;> (fail_if_success (simp only [eq_self, reduceCtorEq] at h))) | refine onx ?_ | refine onb ?_ | refine sreg ?_ | refine qT rfl ?_ | refine qF rfl ?_ | refine scondT rfl ?_ | refine scondF rfl ?_ | refine ocondP rfl (fun h => ?_) (fun h => ?_) | refine ocondB rfl (fun h => ?_) (fun h => ?_) | refine scondP rfl (fun h => ?_) (fun h => ?_) | refine scond rfl (fun h => ?_) (fun h => ?_) | refine oskip ?_ | refine oskipb ?_ | refine oret ?_ | refine sem_ret ?_ | refine sem_seq ?_ | refine sreg1 ?_)
    (refine semL_frzbox 2 rfl rfl ?_; simp only [frz_siteCs, frzE, frzM, frzA, frzL, frzO, frz_sl, frz_span, frz_pile, frz_row, frz_pair, frz_site, List.map_cons, List.map_nil, List.set_cons_zero, List.set_cons_succ, Nat.reduceEqDiff, if_true, if_false, and_self, Nat.reduceLT, Nat.reduceLeDiff, reduceIte, Nat.le_refl])
    repeat' (first | ((first | refine o1 rfl ?_ | refine o0 rfl ?_); intro k hk; simp (disch := omega) only [ev0, sl_cells, simprocAttr, slOf, PileSite.cs]; refine hk _ _ ?_; clear hk k) | refine ono rfl ?_ | (apply ocall; (case he => (simp only [ev0, sl_cells, simprocAttr] <;> rfl)); (case hc => first | exact hgiv); (case ht => rfl); (case hg => rfl)) | ((first | refine osplitG rfl (fun h => ?_) (fun h => ?_) | refine osplitB rfl (fun h => ?_) (fun h => ?_)) <;> (fail_if_success (simp only [eq_self, reduceCtorEq] at h))) | refine onx ?_ | refine onb ?_ | refine sreg ?_ | refine qT rfl ?_ | refine qF rfl ?_ | refine scondT rfl ?_ | refine scondF rfl ?_ | refine ocondP rfl (fun h => ?_) (fun h => ?_) | refine ocondB rfl (fun h => ?_) (fun h => ?_) | refine scondP rfl (fun h => ?_) (fun h => ?_) | refine scond rfl (fun h => ?_) (fun h => ?_) | refine oskip ?_ | refine oskipb ?_ | refine oret ?_ | refine sem_ret ?_ | refine sem_seq ?_ | refine sreg1 ?_)
    all_goals first
      | exact ⟨_, rfl, _, rfl, tree_eq rfl rfl⟩
      | (exfalso; (try simp only [Bool.not_eq_true', Bool.not_eq_false', decide_eq_true_eq, decide_eq_false_iff_not, ne_eq, Decidable.not_not] at *); first | omega | contradiction | (simp only [*, Bool.true_eq_false, Bool.false_eq_true] at *; done))
end Go.Proofs.YtibgfmhddcibcaaDoor

set_option linter.unusedVariables false
set_option linter.unusedSimpArgs false
set_option maxRecDepth 8000
/- The search finds the first cheapest plan without faults. -/
namespace Go.Tk
open Go Go.Av Go.Proofs.YtibgfmhddcibcaaDoor
def okP (s : PileSite) (th : List (List Span)) : Nat → Nat → (Nat → Int) → List Int → Prop
  | 0, _, _, l => l = []
  | _ + 1, _, _, [] => False
  | r + 1, y, f, b :: l => (wrongF s th y f).1 = 1 ∧ okP s th r (y + 1) (jackF b (nextF s th y f)) l
def inP (s : PileSite) (l : List Int) : Prop := ∀ b ∈ l, ∃ x : Nat, b = x ∧ x < 2 ^ s.piles.length
def costL (s : PileSite) : List Int → Int
  | [] => 0
  | b :: l => costTo s b 6 + costL s l
def before : List Int → List Int → Bool
  | a :: l, b :: m => if a = b then before l m else decide (a < b)
  | _, _ => false
def planF (s : PileSite) (th : List (List Span)) : Nat → Nat → (Nat → Int) → List Int
  | 0, _, _ => []
  | r + 1, y, f => (best s th (r + 1) y f).1 :: planF s th r (y + 1) (jackF (best s th (r + 1) y f).1 (nextF s th y f))
theorem cheap_law (c : Nat → Int × Bool) : ∀ m, ((cheapF c m).2.2 = true → ∃ x, x < m ∧ (cheapF c m).1 = (x : Int) ∧ (c x).2 = true ∧ (cheapF c m).2.1 = (c x).1 ∧ ∀ z, z < m → (c z).2 = true → (c x).1 < (c z).1 ∨ ((c x).1 = (c z).1 ∧ x ≤ z)) ∧
    ((cheapF c m).2.2 = false → ∀ z, z < m → (c z).2 = false)
  | 0 => ⟨fun h => (by cases h), fun _ z h => absurd h (Nat.not_lt_zero _)⟩
  | m + 1 => by
    obtain ⟨h1, h2⟩ := cheap_law c m
    simp only [cheapF]
    by_cases hc : (c m).2 = true ∧ ((cheapF c m).2.2 = false ∨ (c m).1 < (cheapF c m).2.1)
    · rw [if_pos hc]
      refine ⟨fun _ => ⟨m, by omega, rfl, hc.1, rfl, fun z hz hzr => ?_⟩, fun h => (by cases h)⟩
      by_cases e : z = m
      · subst e; right; exact ⟨rfl, Nat.le_refl _⟩
      · cases hr : (cheapF c m).2.2 with
        | false => have := h2 hr z (by omega); rw [hzr] at this; cases this
        | true =>
          obtain ⟨x, k1, k2, k3, k4, k5⟩ := h1 hr
          have := k5 z (by omega) hzr
          rcases hc.2 with hc2 | hc2
          · rw [hr] at hc2; cases hc2
          · left; rw [k4] at hc2; omega
    · rw [if_neg hc]
      refine ⟨fun hr => ?_, fun hr z hz => ?_⟩
      · obtain ⟨x, k1, k2, k3, k4, k5⟩ := h1 hr
        refine ⟨x, by omega, k2, k3, k4, fun z hz hzr => ?_⟩
        by_cases e : z = m
        · subst e
          have : ¬ (c z).1 < (cheapF c z).2.1 := fun h => hc ⟨hzr, .inr h⟩
          rw [k4] at this
          by_cases e2 : (c x).1 = (c z).1
          · right; exact ⟨e2, by omega⟩
          · left; omega
        · exact k5 z (by omega) hzr
      · by_cases e : z = m
        · subst e
          cases hz2 : (c z).2 with
          | false => rfl
          | true => exact absurd ⟨hz2, .inl hr⟩ hc
        · exact h2 hr z (by omega)
theorem best_law (s : PileSite) (th : List (List Span)) : ∀ r y f, ((best s th r y f).2.2 = true → okP s th r y f (planF s th r y f) ∧ inP s (planF s th r y f) ∧ (planF s th r y f).length = r ∧ costL s (planF s th r y f) = (best s th r y f).2.1 ∧
      ∀ q, okP s th r y f q → inP s q → (best s th r y f).2.1 < costL s q ∨ ((best s th r y f).2.1 = costL s q ∧ before q (planF s th r y f) = false)) ∧
    ((best s th r y f).2.2 = false → ∀ q, inP s q → ¬ okP s th r y f q)
  | 0, y, f => by
    refine ⟨fun _ => ⟨rfl, (fun b hb => by cases hb), rfl, rfl, fun q hq _ => ?_⟩, fun h => (by cases h)⟩
    have hq : q = [] := hq
    subst hq
    right; exact ⟨rfl, rfl⟩
  | r + 1, y, f => by
    by_cases hw : (wrongF s th y f).1 = 1
    · obtain ⟨c, hc⟩ : ∃ c : Nat → Int × Bool, c = fun x : Nat => (costTo s x 6 + (best s th r (y + 1) (jackF x (nextF s th y f))).2.1, (best s th r (y + 1) (jackF x (nextF s th y f))).2.2) := ⟨_, rfl⟩
      have hb : best s th (r + 1) y f = cheapF c (2 ^ s.piles.length) := by rw [hc]; simp only [best, if_pos hw]
      obtain ⟨h1, h2⟩ := cheap_law c (2 ^ s.piles.length)
      refine ⟨fun hr => ?_, fun hr q hq ho => ?_⟩
      · rw [hb] at hr
        obtain ⟨x, k1, k2, k3, k4, k5⟩ := h1 hr
        have hb1 : (best s th (r + 1) y f).1 = (x : Int) := by rw [hb]; exact k2
        have hcx : (c x).1 = costTo s x 6 + (best s th r (y + 1) (jackF x (nextF s th y f))).2.1 := by rw [hc]
        have hbc : (best s th (r + 1) y f).2.1 = costTo s x 6 + (best s th r (y + 1) (jackF x (nextF s th y f))).2.1 := by rw [hb, k4, hcx]
        have hrx : (best s th r (y + 1) (jackF x (nextF s th y f))).2.2 = true := by rw [hc] at k3; exact k3
        obtain ⟨j1, j2, j3, j4, j5⟩ := (best_law s th r (y + 1) (jackF x (nextF s th y f))).1 hrx
        simp only [planF, hb1]
        refine ⟨⟨hw, j1⟩, ?_, by simp [j3], by simp only [costL, j4]; rw [hbc], fun q hq hqi => ?_⟩
        · intro b hb'
          rcases List.mem_cons.1 hb' with rfl | hb'
          · exact ⟨x, rfl, k1⟩
          · exact j2 b hb'
        · cases q with
          | nil => exact absurd hq (by simp [okP])
          | cons b l =>
            obtain ⟨z, rfl, hz⟩ := hqi b List.mem_cons_self
            have hli : inP s l := fun b hb => hqi b (List.mem_cons_of_mem _ hb)
            obtain ⟨-, hol⟩ := hq
            have hrz : (c z).2 = true := by
              cases hh : (best s th r (y + 1) (jackF z (nextF s th y f))).2.2 with
              | true => rw [hc]; exact hh
              | false => exact absurd hol ((best_law s th r (y + 1) (jackF z (nextF s th y f))).2 hh l hli)
            have hcz : (c z).1 = costTo s z 6 + (best s th r (y + 1) (jackF z (nextF s th y f))).2.1 := by rw [hc]
            have hrz2 : (best s th r (y + 1) (jackF z (nextF s th y f))).2.2 = true := by rw [hc] at hrz; exact hrz
            have hl := ((best_law s th r (y + 1) (jackF z (nextF s th y f))).1 hrz2).2.2.2.2 l hol hli
            have hxz := k5 z hz hrz
            simp only [costL, before]
            rw [hbc]
            by_cases e : z = x
            · subst e
              rw [if_pos rfl]
              rcases hl with hl | ⟨hl, hl2⟩
              · left; omega
              · right; exact ⟨by omega, hl2⟩
            · rw [if_neg (by omega)]
              rcases hl with hl | ⟨hl, hl2⟩
              · left; rcases hxz with h | ⟨h, h'⟩ <;> omega
              · rcases hxz with h | ⟨h, h'⟩
                · left; omega
                · right; exact ⟨by omega, decide_eq_false (by omega)⟩
      · cases q with
        | nil => exact ho
        | cons b l =>
          obtain ⟨z, rfl, hz⟩ := hq b List.mem_cons_self
          rw [hb] at hr
          have := h2 hr z hz
          rw [hc] at this
          exact (best_law s th r (y + 1) (jackF z (nextF s th y f))).2 this l (fun b hb => hq b (List.mem_cons_of_mem _ hb)) ho.2
    · have hb : best s th (r + 1) y f = (0, 0, false) := by simp only [best, if_neg hw]
      refine ⟨fun hr => (by rw [hb] at hr; cases hr), fun _ q _ ho => ?_⟩
      cases q with
      | nil => exact ho
      | cons b l => exact hw ho.1
end Go.Tk

set_option linter.unusedVariables false
set_option linter.unusedSimpArgs false
set_option maxRecDepth 8000
set_option maxHeartbeats 1000000
/- The best plan is a plan. -/
namespace Go.Proofs.YtibgfmhddcibcaaDoor
open Go Go.Av Go.Tk
theorem planB_ok {s : PileSite} (hs : s.ok) (th : List (List Span)) : planOk s th (planB s th) := by
  refine ⟨by simp [planB], fun x hx => ?_⟩
  unfold planB at hx
  obtain ⟨y, -, rfl⟩ := List.mem_map.1 hx
  exact best_bits hs _ _ _
theorem planOk_inP {s : PileSite} {th : List (List Span)} {plan : List Int} (h : planOk s th plan) : inP s plan := fun b hb => by
  have := h.2 b hb
  refine ⟨b.toNat, by omega, ?_⟩
  have h2 : ((b.toNat : Nat) : Int) < ((2 ^ s.piles.length : Nat) : Int) := by
    rw [Int.natCast_pow]
    have e : ((2 : Nat) : Int) = 2 := rfl
    rw [e]
    omega
  exact_mod_cast h2
end Go.Proofs.YtibgfmhddcibcaaDoor

set_option linter.unusedVariables false
set_option linter.unusedSimpArgs false
set_option maxRecDepth 8000
/- Plans without faults, by spots and by levels. -/
namespace Go.Tk
open Go Go.Av Go.Proofs.YtibgfmhddcibcaaDoor
def stP (s : PileSite) (th : List (List Span)) (plan : List Int) : Nat → Nat → Int
  | 0 => fun _ => 0
  | y + 1 => jackF (plan.getD y default) (nextF s th y (stP s th plan y))
section
variable {s : PileSite} {th : List (List Span)} {plan : List Int}
theorem stP_head {k : Nat} (hk : k < s.piles.length) : ∀ y, stP s th plan y (2 * k) = headAt (lowOf s th) (fun y => plan.getD y default) y k ∧ stP s th plan y (2 * k + 1) = headAt (highOf s th) (fun y => plan.getD y default) y k
  | 0 => ⟨rfl, rfl⟩
  | y + 1 => by
    obtain ⟨h1, h2⟩ := stP_head hk y
    have e1 : 2 * k / 2 = k := by omega
    have e2 : (2 * k + 1) / 2 = k := by omega
    simp only [stP, jackF, nextF, headAt, e1, e2]
    rw [if_pos (show 2 * k < 2 * s.piles.length by omega), if_pos (show 2 * k + 1 < 2 * s.piles.length by omega), if_pos (show 2 * k % 2 = 0 by omega), if_neg (show ¬ (2 * k + 1) % 2 = 0 by omega), h1, h2]
    exact ⟨rfl, rfl⟩
theorem lvOf_lev (y : Nat) : lvOf s.piles.length (nextF s th y (stP s th plan y)) = levRow s th (fun y => plan.getD y default) y := by
  unfold lvOf levRow
  refine List.map_congr_left fun k hk => ?_
  have hk := List.mem_range.1 hk
  obtain ⟨h1, h2⟩ := stP_head (th := th) (plan := plan) hk y
  have e1 : 2 * k / 2 = k := by omega
  have e2 : (2 * k + 1) / 2 = k := by omega
  unfold sunkS nextF
  rw [if_pos (show 2 * k < 2 * s.piles.length by omega), if_pos (show 2 * k + 1 < 2 * s.piles.length by omega), if_pos (show 2 * k % 2 = 0 by omega), if_neg (show ¬ (2 * k + 1) % 2 = 0 by omega), h1, h2, e1, e2]
theorem okP_iff : ∀ r y, y + r = plan.length → (okP s th r y (stP s th plan y) (plan.drop y) ↔ ∀ z, y ≤ z → z < plan.length → (wrongF s th z (stP s th plan z)).1 = 1)
  | 0, y, h => by
    rw [List.drop_eq_nil_of_le (by omega)]
    exact ⟨fun _ z h1 h2 => by omega, fun _ => rfl⟩
  | r + 1, y, h => by
    have hy : y < plan.length := by omega
    rw [List.drop_eq_getElem_cons hy]
    have e : jackF plan[y] (nextF s th y (stP s th plan y)) = stP s th plan (y + 1) := by simp only [stP]; rw [getD_lt hy]
    simp only [okP]
    rw [e, okP_iff r (y + 1) (by omega)]
    constructor
    · rintro ⟨h1, h2⟩ z hz1 hz2
      by_cases e : z = y
      · subst e; exact h1
      · exact h2 z (by omega) hz2
    · intro h1
      exact ⟨h1 y (Nat.le_refl _) hy, fun z hz1 hz2 => h1 z (by omega) hz2⟩
theorem fault_okP (hp : plan.length = th.length) : (faultOf s th (levOf s th plan)).rule = 1 ↔ okP s th th.length 0 (fun _ => 0) plan := by
  have h := okP_iff (s := s) (th := th) (plan := plan) th.length 0 (by omega)
  rw [List.drop_zero] at h
  rw [show (fun _ => (0 : Int)) = stP s th plan 0 from rfl, h]
  have hw : ∀ z, z < plan.length → wrongF s th z (stP s th plan z) = wrongOf s (th.getD z default) ((levOf s th plan).getD z default) := fun z hz => by
    unfold wrongF
    rw [lvOf_lev, lev_row hz]
  constructor
  · intro hf z _ hz
    rw [hw z hz]
    rcases hfa : (List.range (levOf s th plan).length).find? (isWrong s th (levOf s th plan)) with _ | v
    · have := List.find?_eq_none.1 hfa z (List.mem_range.2 (by rw [lev_len]; exact hz))
      unfold isWrong at this
      simpa using this
    · unfold faultOf at hf
      rw [hfa] at hf
      have := List.find?_some hfa
      unfold isWrong at this
      simp only [decide_eq_true_eq] at this
      exact absurd hf this
  · intro hall
    rw [faultOf_no (fun j hj => by
      rw [lev_len] at hj
      unfold isWrong
      rw [← hw j hj]
      exact decide_eq_false (fun hh => hh (hall j (Nat.zero_le _) hj)))]
theorem planB_F : planB s th = planF s th th.length 0 (fun _ => 0) := by
  have key : ∀ r y, y + r = th.length → planF s th r y (stB s th y) = (List.range' y r).map (bitB s th) := by
    intro r
    induction r with
    | zero => intro y _; rfl
    | succ r ih =>
      intro y h
      have e : th.length - y = r + 1 := by omega
      have h2 := ih (y + 1) (by omega)
      simp only [stB, e] at h2
      simp only [planF, List.range'_succ, List.map_cons]
      rw [h2]
      simp only [bitB, e]
  have := key th.length 0 (by omega)
  rw [show (fun _ => (0 : Int)) = stB s th 0 from rfl, this]
  unfold planB
  rw [List.range_eq_range']
end
end Go.Tk

set_option linter.unusedVariables false
set_option linter.unusedSimpArgs false
set_option maxRecDepth 8000
set_option maxHeartbeats 2000000
/- The reference's cost, and which plan comes first. -/
namespace Go.Tk
open Go Go.Av Go.Proofs.YtibgfmhddcibcaaDoor
theorem costTo_n {s : PileSite} {b : Int} (hb : 0 ≤ b ∧ b ≤ 2 ^ s.piles.length - 1) : ∀ k, s.piles.length ≤ k → costTo s b k = costTo s b s.piles.length := by
  intro k
  induction k with
  | zero => intro h; rw [show s.piles.length = 0 by omega]
  | succ k ih =>
    intro h
    by_cases e : s.piles.length = k + 1
    · rw [e]
    · have hf : hasBit b k = false := by
        cases hh : hasBit b k with
        | false => rfl
        | true => have := bit_lt hb.1 hb.2 hh; omega
      simp only [costTo, hf, Bool.false_eq_true, if_false]
      exact ih (by omega)
theorem costL_append {s : PileSite} : ∀ (l m : List Int), costL s (l ++ m) = costL s l + costL s m
  | [], m => by simp [costL]
  | b :: l, m => by simp only [List.cons_append, costL, costL_append l m]; omega
theorem costL_take {s : PileSite} {plan : List Int} {t : Nat} (ht : t < plan.length) : costL s (plan.take (t + 1)) = costL s (plan.take t) + costTo s (plan.getD t default) 6 := by
  rw [List.take_add_one, List.getElem?_eq_getElem ht, costL_append, getD_lt ht]
  simp [costL]
theorem costL_bound {s : PileSite} (hs : s.ok) : ∀ l : List Int, 0 ≤ costL s l ∧ costL s l ≤ 6000000 * l.length
  | [] => by simp [costL]
  | b :: l => by
    have h1 := costL_bound hs l
    have h2 := costTo_bound hs (bits := b) 6
    simp only [costL, List.length_cons]
    omega
end Go.Tk
namespace Go.Proofs.YtibgfmhddcibcaaDoor
open Go Go.Av Go.Tk
attribute [local irreducible] Holds sem semL ACalls FnIs hasBit
variable {G : World → Prop} (hG : ∀ w w', G w → RowKit.Below w.heap.size w w' → G w')
include hG
theorem ref02_Cost (s : PileSite) (hs : s.ok) (plan : List Int) (hl : plan.length ≤ 15) (hp : ∀ b ∈ plan, 0 ≤ b ∧ b ≤ 2 ^ s.piles.length - 1) : Holds Tryd.prog G F.ref02_Cost [.agg s.cs, slOf intCs plan] (I (costL s plan)) := by
  have hn : 1 ≤ s.piles.length ∧ s.piles.length ≤ 6 := hs.2.1
  have pow : ∀ i : Nat, i ≤ 6 → (2 : Int) ^ i ≤ 64 := by decide
  have hpw := pow _ hn.2
  (refine holds_of_sem hG fn_ref02_Cost (by simp) fun w0 S0 hG0 D0 => ?_; unfold c_ref02_Cost cval enterEnv; simp only [List.zipIdx_cons, List.zipIdx_nil, List.map_cons, List.map_nil, Nat.zero_add, Nat.reduceAdd])
  repeat' (first | ((first | refine o1 rfl ?_ | refine o0 rfl ?_); intro k hk; simp (disch := omega) only [ev0, sl_cells, simprocAttr]; refine hk _ _ ?_; clear hk k) | refine ono rfl ?_ | ((first | refine osplitG rfl (fun h => ?_) (fun h => ?_) | refine osplitB rfl (fun h => ?_) (fun h => ?_)) <;> (fail_if_success (simp only [eq_self, reduceCtorEq] at h))) | refine onx ?_ | refine onb ?_ | refine sreg ?_ | refine qT rfl ?_ | refine qF rfl ?_ | refine scondT rfl ?_ | refine scondF rfl ?_ | refine ocondP rfl (fun h => ?_) (fun h => ?_) | refine ocondB rfl (fun h => ?_) (fun h => ?_) | refine scondP rfl (fun h => ?_) (fun h => ?_) | refine scond rfl (fun h => ?_) (fun h => ?_) | refine oskip ?_ | refine oskipb ?_ | refine oret ?_ | refine sem_ret ?_ | refine sem_seq ?_ | refine sreg1 ?_)
  refine sem_block ?_
  
  refine sem_loop (α := Nat) (fun t => ⟨[(1, slOf intCs plan), (2, .ptr 0 0 6 0 0), (5, I (costL s (plan.take t))), (6, I t)], [.row 26 0 6 [s.cs]]⟩) (fun t => t ≤ plan.length) (fun t => plan.length - t) 0 (Nat.zero_le _) ?_ ?_
  · (refine Le.same ?_; simp only [List.forall_mem_cons, List.forall_mem_nil, getE, selE, Nat.reduceBEq, List.not_mem_nil, false_implies, implies_true, and_true, true_and, and_self])
    simp [PileSite.cs, costL]
  · intro t htl
    repeat' (first | ((first | refine o1 rfl ?_ | refine o0 rfl ?_); intro k hk; simp (disch := omega) only [ev0, sl_cells, simprocAttr, slOf]; refine hk _ _ ?_; clear hk k) | refine ono rfl ?_ | ((first | refine osplitG rfl (fun h => ?_) (fun h => ?_) | refine osplitB rfl (fun h => ?_) (fun h => ?_)) <;> (fail_if_success (simp only [eq_self, reduceCtorEq] at h))) | refine onx ?_ | refine onb ?_ | refine sreg ?_ | refine qT rfl ?_ | refine qF rfl ?_ | refine scondT rfl ?_ | refine scondF rfl ?_ | refine ocondP rfl (fun h => ?_) (fun h => ?_) | refine ocondB rfl (fun h => ?_) (fun h => ?_) | refine scondP rfl (fun h => ?_) (fun h => ?_) | refine scond rfl (fun h => ?_) (fun h => ?_) | refine oskip ?_ | refine oskipb ?_ | refine oret ?_ | refine sem_ret ?_ | refine sem_seq ?_ | refine sreg1 ?_)
    · have ht' : t < plan.length := by omega
      have hb := hp (plan.getD t default) (by rw [getD_lt ht']; exact List.getElem_mem _)
      have hc1 := costL_bound hs (plan.take t)
      have hc2 : (plan.take t).length ≤ 15 := by rw [List.length_take]; omega
      refine sem_block ?_
      repeat' (first | ((first | refine o1 rfl ?_ | refine o0 rfl ?_); intro k hk; simp (disch := omega) only [ev0, sl_cells, simprocAttr]; refine hk _ _ ?_; clear hk k) | refine ono rfl ?_ | ((first | refine osplitG rfl (fun h => ?_) (fun h => ?_) | refine osplitB rfl (fun h => ?_) (fun h => ?_)) <;> (fail_if_success (simp only [eq_self, reduceCtorEq] at h))) | refine onx ?_ | refine onb ?_ | refine sreg ?_ | refine qT rfl ?_ | refine qF rfl ?_ | refine scondT rfl ?_ | refine scondF rfl ?_ | refine ocondP rfl (fun h => ?_) (fun h => ?_) | refine ocondB rfl (fun h => ?_) (fun h => ?_) | refine scondP rfl (fun h => ?_) (fun h => ?_) | refine scond rfl (fun h => ?_) (fun h => ?_) | refine oskip ?_ | refine oskipb ?_ | refine oret ?_ | refine sem_ret ?_ | refine sem_seq ?_ | refine sreg1 ?_)
      refine sem_block ?_
      
      refine sem_loop (α := Nat) (fun i => ⟨[(1, slOf intCs plan), (2, .ptr 0 0 6 0 0), (5, I (costL s (plan.take t) + costTo s (plan.getD t default) i)), (6, I t), (7, I i)], [.row 26 0 6 [s.cs]]⟩) (fun i => i ≤ s.piles.length) (fun i => s.piles.length - i) 0 (Nat.zero_le _) ?_ ?_
      · (refine Le.same ?_; simp only [List.forall_mem_cons, List.forall_mem_nil, getE, selE, Nat.reduceBEq, List.not_mem_nil, false_implies, implies_true, and_true, true_and, and_self])
        simp [PileSite.cs, costTo]
      · intro i hil
        repeat' (first | ((first | refine o1 rfl ?_ | refine o0 rfl ?_); intro k hk; simp (disch := omega) only [ev0, sl_cells, simprocAttr, slOf, PileSite.cs]; refine hk _ _ ?_; clear hk k) | refine ono rfl ?_ | ((first | refine osplitG rfl (fun h => ?_) (fun h => ?_) | refine osplitB rfl (fun h => ?_) (fun h => ?_)) <;> (fail_if_success (simp only [eq_self, reduceCtorEq] at h))) | refine onx ?_ | refine onb ?_ | refine sreg ?_ | refine qT rfl ?_ | refine qF rfl ?_ | refine scondT rfl ?_ | refine scondF rfl ?_ | refine ocondP rfl (fun h => ?_) (fun h => ?_) | refine ocondB rfl (fun h => ?_) (fun h => ?_) | refine scondP rfl (fun h => ?_) (fun h => ?_) | refine scond rfl (fun h => ?_) (fun h => ?_) | refine oskip ?_ | refine oskipb ?_ | refine oret ?_ | refine sem_ret ?_ | refine sem_seq ?_ | refine sreg1 ?_)
        · have hi' : i < s.piles.length := by omega
          have hc := cost_at hs hi'
          have hcb := costTo_bound hs (bits := plan.getD t default) i
          refine sem_block ?_
          repeat' (first | ((first | refine o1 rfl ?_ | refine o0 rfl ?_); intro k hk; simp (disch := omega) only [ev0, sl_cells, simprocAttr, slOf, intCs, PileSite.cs, Pile.cs]; refine hk _ _ ?_; clear hk k) | refine ono rfl ?_ | (apply ocall; (case he => (simp only [ev0, sl_cells, simprocAttr] <;> rfl)); (case hc => first | exact ref02_Jacked hG (plan.getD t default) (by omega) i (by omega)); (case ht => rfl); (case hg => rfl)) | ((first | refine osplitG rfl (fun h => ?_) (fun h => ?_) | refine osplitB rfl (fun h => ?_) (fun h => ?_)) <;> (fail_if_success (simp only [eq_self, reduceCtorEq] at h))) | refine onx ?_ | refine onb ?_ | refine sreg ?_ | refine qT rfl ?_ | refine qF rfl ?_ | refine scondT rfl ?_ | refine scondF rfl ?_ | refine ocondP rfl (fun h => ?_) (fun h => ?_) | refine ocondB rfl (fun h => ?_) (fun h => ?_) | refine scondP rfl (fun h => ?_) (fun h => ?_) | refine scond rfl (fun h => ?_) (fun h => ?_) | refine oskip ?_ | refine oskipb ?_ | refine oret ?_ | refine sem_ret ?_ | refine sem_seq ?_ | refine sreg1 ?_)
          · refine onil (lnext (i + 1) (by omega) (by omega) ?_)
            (refine Le.same ?_; simp only [List.forall_mem_cons, List.forall_mem_nil, getE, selE, Nat.reduceBEq, List.not_mem_nil, false_implies, implies_true, and_true, true_and, and_self])
            simp only [costTo, h, if_true]
            simp [slOf, Int.add_assoc]
          · refine onil (lnext (i + 1) (by omega) (by omega) ?_)
            (refine Le.same ?_; simp only [List.forall_mem_cons, List.forall_mem_nil, getE, selE, Nat.reduceBEq, List.not_mem_nil, false_implies, implies_true, and_true, true_and, and_self])
            simp only [costTo, h, Bool.false_eq_true, if_false]
            simp [slOf]
        · have hi' : i = s.piles.length := by omega
          subst hi'
          rw [← costTo_n hb 6 (by omega), ← costL_take ht']
          (refine sem_exit ?_; change sem _ _ _ _ _)
          repeat' (first | ((first | refine o1 rfl ?_ | refine o0 rfl ?_); intro k hk; simp (disch := omega) only [ev0, sl_cells, simprocAttr]; refine hk _ _ ?_; clear hk k) | refine ono rfl ?_ | ((first | refine osplitG rfl (fun h => ?_) (fun h => ?_) | refine osplitB rfl (fun h => ?_) (fun h => ?_)) <;> (fail_if_success (simp only [eq_self, reduceCtorEq] at h))) | refine onx ?_ | refine onb ?_ | refine sreg ?_ | refine qT rfl ?_ | refine qF rfl ?_ | refine scondT rfl ?_ | refine scondF rfl ?_ | refine ocondP rfl (fun h => ?_) (fun h => ?_) | refine ocondB rfl (fun h => ?_) (fun h => ?_) | refine scondP rfl (fun h => ?_) (fun h => ?_) | refine scond rfl (fun h => ?_) (fun h => ?_) | refine oskip ?_ | refine oskipb ?_ | refine oret ?_ | refine sem_ret ?_ | refine sem_seq ?_ | refine sreg1 ?_)
          refine onil (lnext (t + 1) (by omega) (by omega) ?_)
          (refine Le.same ?_; simp only [List.forall_mem_cons, List.forall_mem_nil, getE, selE, Nat.reduceBEq, List.not_mem_nil, false_implies, implies_true, and_true, true_and, and_self])
          simp [slOf]
    · have ht' : t = plan.length := by omega
      subst ht'
      rw [List.take_length]
      (refine sem_exit ?_; change sem _ _ _ _ _)
      repeat' (first | ((first | refine o1 rfl ?_ | refine o0 rfl ?_); intro k hk; simp (disch := omega) only [ev0, sl_cells, simprocAttr]; refine hk _ _ ?_; clear hk k) | refine ono rfl ?_ | ((first | refine osplitG rfl (fun h => ?_) (fun h => ?_) | refine osplitB rfl (fun h => ?_) (fun h => ?_)) <;> (fail_if_success (simp only [eq_self, reduceCtorEq] at h))) | refine onx ?_ | refine onb ?_ | refine sreg ?_ | refine qT rfl ?_ | refine qF rfl ?_ | refine scondT rfl ?_ | refine scondF rfl ?_ | refine ocondP rfl (fun h => ?_) (fun h => ?_) | refine ocondB rfl (fun h => ?_) (fun h => ?_) | refine scondP rfl (fun h => ?_) (fun h => ?_) | refine scond rfl (fun h => ?_) (fun h => ?_) | refine oskip ?_ | refine oskipb ?_ | refine oret ?_ | refine sem_ret ?_ | refine sem_seq ?_ | refine sreg1 ?_)
      exact ⟨_, rfl, _, rfl, tree_eq rfl rfl⟩

theorem ref02_Before (a b : List Int) (ha : a.length ≤ 1000) (hb : b.length ≤ 1000) : Holds Tryd.prog G F.ref02_Before [slOf intCs a, slOf intCs b] (B (before a b)) := by
  (refine holds_of_sem hG fn_ref02_Before (by simp) fun w0 S0 hG0 D0 => ?_; unfold c_ref02_Before cval enterEnv; simp only [List.zipIdx_cons, List.zipIdx_nil, List.map_cons, List.map_nil, Nat.zero_add, Nat.reduceAdd])
  repeat' (first | ((first | refine o1 rfl ?_ | refine o0 rfl ?_); intro k hk; simp (disch := omega) only [ev0, sl_cells, simprocAttr]; refine hk _ _ ?_; clear hk k) | refine ono rfl ?_ | ((first | refine osplitG rfl (fun h => ?_) (fun h => ?_) | refine osplitB rfl (fun h => ?_) (fun h => ?_)) <;> (fail_if_success (simp only [eq_self, reduceCtorEq] at h))) | refine onx ?_ | refine onb ?_ | refine sreg ?_ | refine qT rfl ?_ | refine qF rfl ?_ | refine scondT rfl ?_ | refine scondF rfl ?_ | refine ocondP rfl (fun h => ?_) (fun h => ?_) | refine ocondB rfl (fun h => ?_) (fun h => ?_) | refine scondP rfl (fun h => ?_) (fun h => ?_) | refine scond rfl (fun h => ?_) (fun h => ?_) | refine oskip ?_ | refine oskipb ?_ | refine oret ?_ | refine sem_ret ?_ | refine sem_seq ?_ | refine sreg1 ?_)
  refine sem_block ?_
  
  refine sem_loop (α := Nat) (fun t => ⟨[(0, slOf intCs a), (1, slOf intCs b), (5, I t)], []⟩) (fun t => t ≤ a.length ∧ t ≤ b.length ∧ before a b = before (a.drop t) (b.drop t)) (fun t => a.length - t) 0 ⟨Nat.zero_le _, Nat.zero_le _, rfl⟩ ?_ ?_
  · (refine Le.same ?_; simp only [List.forall_mem_cons, List.forall_mem_nil, getE, selE, Nat.reduceBEq, List.not_mem_nil, false_implies, implies_true, and_true, true_and, and_self])
    simp
  · rintro t ⟨h1, h2, h3⟩
    have hnil : (a.length ≤ t ∨ b.length ≤ t) → before (a.drop t) (b.drop t) = false := fun h => by
      rcases h with h | h
      · rw [List.drop_eq_nil_of_le h]; rfl
      · rw [List.drop_eq_nil_of_le h]
        cases a.drop t <;> rfl
    by_cases hin : t < a.length ∧ t < b.length
    · obtain ⟨ha', hb'⟩ := hin
      have hstep : before (a.drop t) (b.drop t) = if a.getD t default = b.getD t default then before (a.drop (t + 1)) (b.drop (t + 1)) else decide (a.getD t default < b.getD t default) := by
        rw [List.drop_eq_getElem_cons ha', List.drop_eq_getElem_cons hb', getD_lt ha', getD_lt hb']; rfl
      have g1 : (t : Int) < a.length := by omega
      have g2 : (t : Int) < b.length := by omega
      repeat' (first | ((first | refine o1 rfl ?_ | refine o0 rfl ?_); intro k hk; simp (disch := omega) only [ev0, sl_cells, simprocAttr, slOf, g1, g2]; refine hk _ _ ?_; clear hk k) | refine ono rfl ?_ | ((first | refine osplitG rfl (fun h => ?_) (fun h => ?_) | refine osplitB rfl (fun h => ?_) (fun h => ?_)) <;> (fail_if_success (simp only [eq_self, reduceCtorEq] at h))) | refine onx ?_ | refine onb ?_ | refine sreg ?_ | refine qT rfl ?_ | refine qF rfl ?_ | refine scondT rfl ?_ | refine scondF rfl ?_ | refine ocondP rfl (fun h => ?_) (fun h => ?_) | refine ocondB rfl (fun h => ?_) (fun h => ?_) | refine scondP rfl (fun h => ?_) (fun h => ?_) | refine scond rfl (fun h => ?_) (fun h => ?_) | refine oskip ?_ | refine oskipb ?_ | refine oret ?_ | refine sem_ret ?_ | refine sem_seq ?_ | refine sreg1 ?_)
      refine sem_block ?_
      by_cases e : a.getD t default = b.getD t default
      · rw [if_pos e] at hstep
        repeat' (first | ((first | refine o1 rfl ?_ | refine o0 rfl ?_); intro k hk; simp (disch := omega) only [ev0, sl_cells, simprocAttr]; refine hk _ _ ?_; clear hk k) | refine ono rfl ?_ | ((first | refine osplitG rfl (fun h => ?_) (fun h => ?_) | refine osplitB rfl (fun h => ?_) (fun h => ?_)) <;> (fail_if_success (simp only [eq_self, reduceCtorEq] at h))) | refine onx ?_ | refine onb ?_ | refine sreg ?_ | refine qT rfl ?_ | refine qF rfl ?_ | refine scondT rfl ?_ | refine scondF rfl ?_ | refine ocondP rfl (fun h => ?_) (fun h => ?_) | refine ocondB rfl (fun h => ?_) (fun h => ?_) | refine scondP rfl (fun h => ?_) (fun h => ?_) | refine scond rfl (fun h => ?_) (fun h => ?_) | refine oskip ?_ | refine oskipb ?_ | refine oret ?_ | refine sem_ret ?_ | refine sem_seq ?_ | refine sreg1 ?_)
        ((refine sem_mgo 8 hmix (by kernel_rfl) ?_; simp only [List.take_succ_cons, List.take_zero, List.drop_succ_cons, List.drop_zero, List.take_nil, List.drop_nil]); (repeat' (first | ((first | apply mop | apply mop0); (case hg => rfl); (case hq => rfl); intro k hk; simp (disch := omega) only [ev0, sl_cells, simprocAttr, slOf, intCs, e, eq_self]; refine hk _ _ rfl ?_; clear hk k) | (apply mno; (case hg => rfl)) | (apply mbox; (case hx => (simp only [wv, simprocAttr] <;> rfl)); (case hg => rfl); (case hall => rfl); (case hr => rfl); simp only [cellsOf, List.length_cons, List.length_nil, Nat.reduceAdd, Nat.zero_add, List.nil_append, List.cons_append, List.set_cons_zero, List.set_cons_succ, chunks, List.take_succ_cons, List.take_zero, List.drop_succ_cons, List.drop_zero]) | (apply mbldS; (case hb => (simp (disch := omega) only [ev0, sl_cells, simprocAttr] <;> rfl)); (case hg => rfl); (case hr => rfl); simp only [cellsOf, List.length_cons, List.length_nil, Nat.reduceAdd, Nat.zero_add, List.nil_append, List.cons_append, List.set_cons_zero, List.set_cons_succ, chunks, List.take_succ_cons, List.take_zero, List.drop_succ_cons, List.drop_zero]) | ((first | (apply msto (q := 0); (case hq => rfl)) | (apply msto (q := 1); (case hq => rfl)) | (apply msto (q := 2); (case hq => rfl)) | (apply msto (q := 3); (case hq => rfl))); (case hx => (simp only [wv, simprocAttr] <;> rfl)); (case haddr => (simp only [wv, simprocAttr] <;> rfl)); (case hg => rfl); (case hl1 => rfl); (case hl2 => rfl); (case hok => rfl); (case hr => rfl); simp only [cellsOf, List.length_cons, List.length_nil, Nat.reduceAdd, Nat.zero_add, List.nil_append, List.cons_append, List.set_cons_zero, List.set_cons_succ, chunks, List.take_succ_cons, List.take_zero, List.drop_succ_cons, List.drop_zero]) | (apply mnil; simp only [SlotR.fin, List.map_cons, List.map_nil, List.cons_append, List.nil_append, List.append_nil]) | (refine msplit rfl (fun h => ?_) (fun h => ?_) <;> simp only [h] <;> (try simp only [Bool.not_eq_true', Bool.not_eq_false', decide_eq_true_eq, decide_eq_false_iff_not] at h)))) <;> (repeat' (first | ((first | refine o1 rfl ?_ | refine o0 rfl ?_); intro k hk; simp (disch := omega) only [ev0, sl_cells, simprocAttr, slOf, intCs, e, eq_self]; refine hk _ _ ?_; clear hk k) | refine ono rfl ?_ | ((first | refine osplitG rfl (fun h => ?_) (fun h => ?_) | refine osplitB rfl (fun h => ?_) (fun h => ?_)) <;> (fail_if_success (simp only [eq_self, reduceCtorEq] at h))) | refine onx ?_ | refine onb ?_ | refine sreg ?_ | refine qT rfl ?_ | refine qF rfl ?_ | refine scondT rfl ?_ | refine scondF rfl ?_ | refine ocondP rfl (fun h => ?_) (fun h => ?_) | refine ocondB rfl (fun h => ?_) (fun h => ?_) | refine scondP rfl (fun h => ?_) (fun h => ?_) | refine scond rfl (fun h => ?_) (fun h => ?_) | refine oskip ?_ | refine oskipb ?_ | refine oret ?_ | refine sem_ret ?_ | refine sem_seq ?_ | refine sreg1 ?_)))
        refine onil (lnext (t + 1) ⟨by omega, by omega, by rw [h3, hstep]⟩ (by omega) ?_)
        (refine Le.same ?_; simp only [List.forall_mem_cons, List.forall_mem_nil, getE, selE, Nat.reduceBEq, List.not_mem_nil, false_implies, implies_true, and_true, true_and, and_self])
        simp [slOf]
      · rw [if_neg e] at hstep
        repeat' (first | ((first | refine o1 rfl ?_ | refine o0 rfl ?_); intro k hk; simp (disch := omega) only [ev0, sl_cells, simprocAttr]; refine hk _ _ ?_; clear hk k) | refine ono rfl ?_ | ((first | refine osplitG rfl (fun h => ?_) (fun h => ?_) | refine osplitB rfl (fun h => ?_) (fun h => ?_)) <;> (fail_if_success (simp only [eq_self, reduceCtorEq] at h))) | refine onx ?_ | refine onb ?_ | refine sreg ?_ | refine qT rfl ?_ | refine qF rfl ?_ | refine scondT rfl ?_ | refine scondF rfl ?_ | refine ocondP rfl (fun h => ?_) (fun h => ?_) | refine ocondB rfl (fun h => ?_) (fun h => ?_) | refine scondP rfl (fun h => ?_) (fun h => ?_) | refine scond rfl (fun h => ?_) (fun h => ?_) | refine oskip ?_ | refine oskipb ?_ | refine oret ?_ | refine sem_ret ?_ | refine sem_seq ?_ | refine sreg1 ?_)
        ((refine sem_mgo 8 hmix (by kernel_rfl) ?_; simp only [List.take_succ_cons, List.take_zero, List.drop_succ_cons, List.drop_zero, List.take_nil, List.drop_nil]); (repeat' (first | ((first | apply mop | apply mop0); (case hg => rfl); (case hq => rfl); intro k hk; simp (disch := omega) only [ev0, sl_cells, simprocAttr, slOf, intCs, e]; refine hk _ _ rfl ?_; clear hk k) | (apply mno; (case hg => rfl)) | (apply mbox; (case hx => (simp only [wv, simprocAttr] <;> rfl)); (case hg => rfl); (case hall => rfl); (case hr => rfl); simp only [cellsOf, List.length_cons, List.length_nil, Nat.reduceAdd, Nat.zero_add, List.nil_append, List.cons_append, List.set_cons_zero, List.set_cons_succ, chunks, List.take_succ_cons, List.take_zero, List.drop_succ_cons, List.drop_zero]) | (apply mbldS; (case hb => (simp (disch := omega) only [ev0, sl_cells, simprocAttr] <;> rfl)); (case hg => rfl); (case hr => rfl); simp only [cellsOf, List.length_cons, List.length_nil, Nat.reduceAdd, Nat.zero_add, List.nil_append, List.cons_append, List.set_cons_zero, List.set_cons_succ, chunks, List.take_succ_cons, List.take_zero, List.drop_succ_cons, List.drop_zero]) | ((first | (apply msto (q := 0); (case hq => rfl)) | (apply msto (q := 1); (case hq => rfl)) | (apply msto (q := 2); (case hq => rfl)) | (apply msto (q := 3); (case hq => rfl))); (case hx => (simp only [wv, simprocAttr] <;> rfl)); (case haddr => (simp only [wv, simprocAttr] <;> rfl)); (case hg => rfl); (case hl1 => rfl); (case hl2 => rfl); (case hok => rfl); (case hr => rfl); simp only [cellsOf, List.length_cons, List.length_nil, Nat.reduceAdd, Nat.zero_add, List.nil_append, List.cons_append, List.set_cons_zero, List.set_cons_succ, chunks, List.take_succ_cons, List.take_zero, List.drop_succ_cons, List.drop_zero]) | (apply mnil; simp only [SlotR.fin, List.map_cons, List.map_nil, List.cons_append, List.nil_append, List.append_nil]) | (refine msplit rfl (fun h => ?_) (fun h => ?_) <;> simp only [h] <;> (try simp only [Bool.not_eq_true', Bool.not_eq_false', decide_eq_true_eq, decide_eq_false_iff_not] at h)))) <;> (repeat' (first | ((first | refine o1 rfl ?_ | refine o0 rfl ?_); intro k hk; simp (disch := omega) only [ev0, sl_cells, simprocAttr, slOf, intCs, e]; refine hk _ _ ?_; clear hk k) | refine ono rfl ?_ | ((first | refine osplitG rfl (fun h => ?_) (fun h => ?_) | refine osplitB rfl (fun h => ?_) (fun h => ?_)) <;> (fail_if_success (simp only [eq_self, reduceCtorEq] at h))) | refine onx ?_ | refine onb ?_ | refine sreg ?_ | refine qT rfl ?_ | refine qF rfl ?_ | refine scondT rfl ?_ | refine scondF rfl ?_ | refine ocondP rfl (fun h => ?_) (fun h => ?_) | refine ocondB rfl (fun h => ?_) (fun h => ?_) | refine scondP rfl (fun h => ?_) (fun h => ?_) | refine scond rfl (fun h => ?_) (fun h => ?_) | refine oskip ?_ | refine oskipb ?_ | refine oret ?_ | refine sem_ret ?_ | refine sem_seq ?_ | refine sreg1 ?_)))
        ((refine sem_mgo 8 hmix (by kernel_rfl) ?_; simp only [List.take_succ_cons, List.take_zero, List.drop_succ_cons, List.drop_zero, List.take_nil, List.drop_nil]); (repeat' (first | ((first | apply mop | apply mop0); (case hg => rfl); (case hq => rfl); intro k hk; simp (disch := omega) only [ev0, sl_cells, simprocAttr, slOf, intCs]; refine hk _ _ rfl ?_; clear hk k) | (apply mno; (case hg => rfl)) | (apply mbox; (case hx => (simp only [wv, simprocAttr] <;> rfl)); (case hg => rfl); (case hall => rfl); (case hr => rfl); simp only [cellsOf, List.length_cons, List.length_nil, Nat.reduceAdd, Nat.zero_add, List.nil_append, List.cons_append, List.set_cons_zero, List.set_cons_succ, chunks, List.take_succ_cons, List.take_zero, List.drop_succ_cons, List.drop_zero]) | (apply mbldS; (case hb => (simp (disch := omega) only [ev0, sl_cells, simprocAttr] <;> rfl)); (case hg => rfl); (case hr => rfl); simp only [cellsOf, List.length_cons, List.length_nil, Nat.reduceAdd, Nat.zero_add, List.nil_append, List.cons_append, List.set_cons_zero, List.set_cons_succ, chunks, List.take_succ_cons, List.take_zero, List.drop_succ_cons, List.drop_zero]) | ((first | (apply msto (q := 0); (case hq => rfl)) | (apply msto (q := 1); (case hq => rfl)) | (apply msto (q := 2); (case hq => rfl)) | (apply msto (q := 3); (case hq => rfl))); (case hx => (simp only [wv, simprocAttr] <;> rfl)); (case haddr => (simp only [wv, simprocAttr] <;> rfl)); (case hg => rfl); (case hl1 => rfl); (case hl2 => rfl); (case hok => rfl); (case hr => rfl); simp only [cellsOf, List.length_cons, List.length_nil, Nat.reduceAdd, Nat.zero_add, List.nil_append, List.cons_append, List.set_cons_zero, List.set_cons_succ, chunks, List.take_succ_cons, List.take_zero, List.drop_succ_cons, List.drop_zero]) | (apply mnil; simp only [SlotR.fin, List.map_cons, List.map_nil, List.cons_append, List.nil_append, List.append_nil]) | (refine msplit rfl (fun h => ?_) (fun h => ?_) <;> simp only [h] <;> (try simp only [Bool.not_eq_true', Bool.not_eq_false', decide_eq_true_eq, decide_eq_false_iff_not] at h)))) <;> (repeat' (first | ((first | refine o1 rfl ?_ | refine o0 rfl ?_); intro k hk; simp (disch := omega) only [ev0, sl_cells, simprocAttr, slOf, intCs]; refine hk _ _ ?_; clear hk k) | refine ono rfl ?_ | ((first | refine osplitG rfl (fun h => ?_) (fun h => ?_) | refine osplitB rfl (fun h => ?_) (fun h => ?_)) <;> (fail_if_success (simp only [eq_self, reduceCtorEq] at h))) | refine onx ?_ | refine onb ?_ | refine sreg ?_ | refine qT rfl ?_ | refine qF rfl ?_ | refine scondT rfl ?_ | refine scondF rfl ?_ | refine ocondP rfl (fun h => ?_) (fun h => ?_) | refine ocondB rfl (fun h => ?_) (fun h => ?_) | refine scondP rfl (fun h => ?_) (fun h => ?_) | refine scond rfl (fun h => ?_) (fun h => ?_) | refine oskip ?_ | refine oskipb ?_ | refine oret ?_ | refine sem_ret ?_ | refine sem_seq ?_ | refine sreg1 ?_)))
        rw [h3, hstep]
        exact ⟨_, rfl, _, rfl, tree_eq rfl rfl⟩
    · rw [h3, hnil (by omega)]
      repeat' (first | ((first | refine o1 rfl ?_ | refine o0 rfl ?_); intro k hk; simp (disch := omega) only [ev0, sl_cells, simprocAttr, slOf]; refine hk _ _ ?_; clear hk k) | refine ono rfl ?_ | ((first | refine osplitG rfl (fun h => ?_) (fun h => ?_) | refine osplitB rfl (fun h => ?_) (fun h => ?_)) <;> (fail_if_success (simp only [eq_self, reduceCtorEq] at h))) | refine onx ?_ | refine onb ?_ | refine sreg ?_ | refine qT rfl ?_ | refine qF rfl ?_ | refine scondT rfl ?_ | refine scondF rfl ?_ | refine ocondP rfl (fun h => ?_) (fun h => ?_) | refine ocondB rfl (fun h => ?_) (fun h => ?_) | refine scondP rfl (fun h => ?_) (fun h => ?_) | refine scond rfl (fun h => ?_) (fun h => ?_) | refine oskip ?_ | refine oskipb ?_ | refine oret ?_ | refine sem_ret ?_ | refine sem_seq ?_ | refine sreg1 ?_)
      all_goals try (exfalso; omega)
      all_goals
        (refine sem_exit ?_; change sem _ _ _ _ _)
        repeat' (first | ((first | refine o1 rfl ?_ | refine o0 rfl ?_); intro k hk; simp (disch := omega) only [ev0, sl_cells, simprocAttr]; refine hk _ _ ?_; clear hk k) | refine ono rfl ?_ | ((first | refine osplitG rfl (fun h => ?_) (fun h => ?_) | refine osplitB rfl (fun h => ?_) (fun h => ?_)) <;> (fail_if_success (simp only [eq_self, reduceCtorEq] at h))) | refine onx ?_ | refine onb ?_ | refine sreg ?_ | refine qT rfl ?_ | refine qF rfl ?_ | refine scondT rfl ?_ | refine scondF rfl ?_ | refine ocondP rfl (fun h => ?_) (fun h => ?_) | refine ocondB rfl (fun h => ?_) (fun h => ?_) | refine scondP rfl (fun h => ?_) (fun h => ?_) | refine scond rfl (fun h => ?_) (fun h => ?_) | refine oskip ?_ | refine oskipb ?_ | refine oret ?_ | refine sem_ret ?_ | refine sem_seq ?_ | refine sreg1 ?_)
        exact ⟨_, rfl, _, rfl, tree_eq rfl rfl⟩
end Go.Proofs.YtibgfmhddcibcaaDoor
