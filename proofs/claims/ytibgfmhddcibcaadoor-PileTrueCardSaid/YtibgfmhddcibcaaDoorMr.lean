import Derived.Test.YtibgfmhddcibcaaDoorMq
import Derived.Test.YtibgfmhddcibcaaDoorMk
set_option linter.unusedVariables false
set_option linter.unusedSimpArgs false
set_option maxRecDepth 8000
set_option maxHeartbeats 2000000
/- The law PileTrue over trees. -/
namespace Go.Tk
open Go Go.Av Go.Proofs.YtibgfmhddcibcaaDoor
theorem cell_truth {s : PileSite} (hs : s.ok) {p : Pile} (hp : p.ok) {x : Span} (hx : x.in 0 50000) {a b c : Int} (ha : 0 ≤ a ∧ a ≤ 100) (hb : 0 ≤ b ∧ b ≤ 100) (hc : 0 ≤ c ∧ c ≤ 100) : truthP s p x (cellT s p x a b c) := by
  have hl := hp.2.2.2.1
  have hr := (rowOf_ok hs p (partI x a) (partI p.load b)).2
  have h1 := part_in (x := x) (by simp only [Span.in] at *; omega) ha
  have h2 := part_in (x := p.load) (by simp only [Span.in] at *; omega) hb
  have h3 := part_in (x := (rowOf s p (partI x a) (partI p.load b)).1.settle) (by simp only [Span.in] at *; omega) hc
  exact ⟨⟨h1, h2⟩, h3⟩
theorem tru_len {s : PileSite} {th : List (List Span)} {wh : List Int} : (truOf s th wh).length = th.length := by simp [truOf]
theorem tru_row {s : PileSite} {th : List (List Span)} {wh : List Int} {t : Nat} (h : t < th.length) : (truOf s th wh).getD t default = truRow s th wh t := getD_range h
theorem tru_rlen {s : PileSite} {th : List (List Span)} {wh : List Int} {t : Nat} : (truRow s th wh t).length = s.piles.length := by simp [truRow]
theorem tru_ok {s : PileSite} (hs : s.ok) {th : List (List Span)} (ht : thawsOk s th) {wh : List Int} (hw : pctOk wh) : truthsOk s th (truOf s th wh) := by
  have hmod : ∀ m, 0 ≤ wh.getD (m % wh.length) default ∧ wh.getD (m % wh.length) default ≤ 100 := fun m => hw.1 _ (Nat.mod_lt _ (by have := hw.2.1; omega))
  refine ⟨tru_len, fun y hy => ?_⟩
  rw [tru_row hy]
  refine ⟨tru_rlen, fun i hi => ?_⟩
  unfold truRow
  rw [getD_range hi]
  exact cell_truth hs (pile_at hs hi) (thaw_at ht hy hi).2 (hmod _) (hmod _) (hmod _)
theorem play_lvI {s : PileSite} (hs : s.ok) {th : List (List Span)} {l : List (List PileTruth)} (hl : truthsOk s th l) (h10 : th.length ≤ 10) {pl : Nat → Int} {y : Nat} (hy : y < th.length) : lvI (playRow s.piles.length (stOf l) pl y) := by
  intro i
  have h1 := headAt_bound (st := stOf l) (pl := pl) (m := th.length) (fun z k hz => truth_st hs (hl.2 z hz) k) y i (by omega)
  have h2 := truth_st hs (hl.2 y hy) i
  by_cases hi : i < s.piles.length
  · unfold playRow
    rw [getD_range hi]
    omega
  · rw [show (playRow s.piles.length (stOf l) pl y).getD i default = default by simp [playRow, List.getD, hi]]
    exact ⟨by decide, by decide⟩
theorem not_wrong {s : PileSite} (hs : s.ok) {x l : List Span} (hx : ∀ i, i < s.piles.length → (x.getD i default).in 0 50000) {z : List PileTruth} (hz : truthRow s x z) {p : List Int}
    (hp : ∀ i, i < s.piles.length → (l.getD i default).low ≤ p.getD i default ∧ p.getD i default ≤ (l.getD i default).high) (h : (wrongOf s x l).1 = 1) : ¬ wrongB s z p := by
  obtain ⟨h1, h2⟩ := wrong_fine h
  rintro (⟨i, hi, hb⟩ | ⟨k, hk, hb⟩)
  · obtain ⟨a, b, c⟩ := h1 i hi
    have hpi := pile_at hs hi
    have hxi := hx i hi
    obtain ⟨⟨t1, t2⟩, -⟩ := hz.2 i hi
    have hpl := hpi.2.2.2.1
    simp only [Span.in, inI] at hxi t1 t2 hpl
    rcases hb with hb | hb | hb
    · have := loses_mono hs hpi (show (z.getD i default).thaw ≤ (x.getD i default).high by omega) hb
      unfold losesAt at a
      rw [this] at a; cases a
    · have := (rowOf_mono hs (s.piles.getD i default) (carr_anti hpi (show (z.getD i default).thaw ≤ (x.getD i default).high by omega)) (show (z.getD i default).load ≤ (s.piles.getD i default).load.high by omega) (by omega)).2.2 hb
      unfold failsAt at b
      rw [this] at b; cases b
    · have := hp i hi
      unfold sinksB at c
      simp only [decide_eq_false_iff_not] at c
      omega
  · have hq := pair_at hs hk
    simp only [PilePair.ok, inI] at hq
    have a1 := hp (s.pairs.getD k default).one.toNat (by omega)
    have a2 := hp (s.pairs.getD k default).other.toNat (by omega)
    have h3 := h2 k hk
    unfold tiltsB pairA pairB at h3
    unfold tiltB at hb
    simp only [decide_eq_true_eq, decide_eq_false_iff_not] at h3 hb
    omega
end Go.Tk
namespace Go.Proofs.YtibgfmhddcibcaaDoor
open Go Go.Av Go.Tk
attribute [local irreducible] Holds sem semL ACalls FnIs
variable {G : World → Prop} (hG : ∀ w w', G w → RowKit.Below w.heap.size w w' → G w') (hT : ∀ w, G w → GT w)
include hG hT
theorem law02_PileTrue (s : PileSite) (th : List (List Span)) (plan wh : List Int) (hwl : wh.length ≤ 9223372036854775807) : Holds Tryd.prog G F.law02_PileTrue [.agg s.cs, slOf spansCs th, slOf intCs plan, slOf intCs wh] (B true) := by
  by_cases hs : shortP s th
  · have hsd := decide_eq_true hs
    by_cases he : plannedE s th plan = 0
    · by_cases hw : pctOk wh
      · have hwd := decide_eq_true hw
        obtain ⟨ok, tok, pok, t10⟩ := planned_0 he
        have hpt := pok.1
        have hn : 1 ≤ s.piles.length ∧ s.piles.length ≤ 6 := ok.2.1
        have hask := asked_of_planned he
        have hL := pile_Levels hG s th plan hs (by omega)
        rw [if_pos he, he] at hL
        have hC := pile_Carries hG s th hs
        rw [if_pos hask, hask] at hC
        have hX := law02_truth hG s ok th tok t10 wh hw
        have hxok := tru_ok ok tok hw
        have hP := pile_Play hG s th plan (truOf s th wh) hs (by omega) (by rw [tru_len]; omega) (fun y hy => by rw [tru_len] at hy; rw [tru_row hy, tru_rlen]; omega)
        rw [play_is0 he hxok, if_pos rfl] at hP
        have hF := pile_Fault hG s th plan hs (by omega)
        rw [if_pos he, he] at hF
        have clen : (carOf s th).length = th.length := by simp [carOf]
        have crow : ∀ t, t < th.length → ((carOf s th).getD t default).length = s.piles.length := fun t h => by rw [show (carOf s th).getD t default = carRow s th t from getD_range h]; simp [carRow]
        have llen : (levOf s th plan).length = th.length := by rw [lev_len, hpt]
        have lrow : ∀ t, t < th.length → ((levOf s th plan).getD t default).length = s.piles.length := fun t h => by rw [lev_row (by omega), lev_rlen]
        have xlen := tru_len (s := s) (th := th) (wh := wh)
        have plen : (playOf s.piles.length plan (truOf s th wh)).length = th.length := by rw [play_len, tru_len]
        have prow : ∀ t, t < th.length → ((playOf s.piles.length plan (truOf s th wh)).getD t default).length = s.piles.length := fun t h => by rw [play_row (by rw [tru_len]; exact h)]; simp [playRow]
        have pb : ∀ t, t < th.length → lvI ((playOf s.piles.length plan (truOf s th wh)).getD t default) := fun t h => by rw [play_row (by rw [tru_len]; exact h)]; exact play_lvI ok hxok t10 h
        have xrow : ∀ t, t < th.length → truthRow s (th.getD t default) ((truOf s th wh).getD t default) := hxok.2
        have cb : ∀ t i, t < th.length → i < s.piles.length → (((carOf s th).getD t default).getD i default).low ≤ carr (s.piles.getD i default) (((truOf s th wh).getD t default).getD i default).thaw ∧ carr (s.piles.getD i default) (((truOf s th wh).getD t default).getD i default).thaw ≤ (((carOf s th).getD t default).getD i default).high := fun t i h hi => by
          rw [show (carOf s th).getD t default = carRow s th t from getD_range h, show (carRow s th t).getD i default = carS s (th.getD t default) i from getD_range hi]
          have h2 := ((xrow t h).2 i hi).1.1
          exact ⟨carr_anti (pile_at ok hi) h2.2, carr_anti (pile_at ok hi) h2.1⟩
        have lb : ∀ t i, t < th.length → i < s.piles.length → (((levOf s th plan).getD t default).getD i default).low ≤ ((playOf s.piles.length plan (truOf s th wh)).getD t default).getD i default ∧ ((playOf s.piles.length plan (truOf s th wh)).getD t default).getD i default ≤ (((levOf s th plan).getD t default).getD i default).high := fun t i h hi => by
          rw [lev_row (by omega), play_row (by rw [tru_len]; exact h)]
          unfold levRow playRow
          rw [getD_range hi, getD_range hi]
          exact play_between ok tok hxok _ h hi
        have wno : (faultOf s th (levOf s th plan)).rule = 1 → ∀ t, t < th.length → ¬ wrongB s ((truOf s th wh).getD t default) ((playOf s.piles.length plan (truOf s th wh)).getD t default) := fun h t ht =>
          not_wrong ok (fun i hi => (thaw_at tok ht hi).2) (xrow t ht) (fun i hi => lb t i ht hi) (fault_fine h (by omega))
        generalize faultOf s th (levOf s th plan) = f at *
        generalize playOf s.piles.length plan (truOf s th wh) = p at *
        generalize levOf s th plan = lv at *
        generalize carOf s th = c at *
        generalize truOf s th wh = x at *
        (refine holds_of_sem hG fn_law02_PileTrue (by simp) fun w0 S0 hG0 D0 => ?_; unfold c_law02_PileTrue cval enterEnv; simp only [List.zipIdx_cons, List.zipIdx_nil, List.map_cons, List.map_nil, Nat.zero_add, Nat.reduceAdd])
        repeat' (first | ((first | refine o1 rfl ?_ | refine o0 rfl ?_); intro k hk; simp (disch := omega) only [ev0, sl_cells, simprocAttr, slOf, hsd, he, hwd, PileSite.cs, PileFault.cs, clen, llen, plen, eq_self]; refine hk _ _ ?_; clear hk k) | refine ono rfl ?_ | (apply ocall; (case he => (simp only [ev0, sl_cells, simprocAttr] <;> rfl)); (case hc => first | exact law02_short hG s th | exact law02_planned' hG s th plan hs | exact law02_percents hG wh hwl | exact hX | exact hL | exact hC | exact hP | exact hF); (case ht => rfl); (case hg => rfl)) | ((first | refine osplitG rfl (fun h => ?_) (fun h => ?_) | refine osplitB rfl (fun h => ?_) (fun h => ?_)) <;> (fail_if_success (simp only [eq_self, reduceCtorEq] at h))) | refine onx ?_ | refine onb ?_ | refine sreg ?_ | refine qT rfl ?_ | refine qF rfl ?_ | refine scondT rfl ?_ | refine scondF rfl ?_ | refine ocondP rfl (fun h => ?_) (fun h => ?_) | refine ocondB rfl (fun h => ?_) (fun h => ?_) | refine scondP rfl (fun h => ?_) (fun h => ?_) | refine scond rfl (fun h => ?_) (fun h => ?_) | refine oskip ?_ | refine oskipb ?_ | refine oret ?_ | refine sem_ret ?_ | refine sem_seq ?_ | refine sreg1 ?_)
        refine sem_block ?_
        
        refine sem_loop (α := Nat) (fun t => ⟨[(1, slOf spansCs th), (4, .ptr 0 0 6 0 0), (9, slOf truthsCs x), (10, slOf spansCs c), (12, slOf spansCs lv), (14, slOf intsCs p), (16, .ptr 1 0 3 0 0), (18, I t)], [.row 26 0 6 [s.cs], .row 40 0 3 [[.int .i64 f.year, .int .i64 f.rule, .int .i64 f.at']]]⟩) (fun t => t ≤ th.length) (fun t => th.length - t) 0 (Nat.zero_le _) ?_ ?_
        · (refine Le.same ?_; simp only [List.forall_mem_cons, List.forall_mem_nil, getE, selE, Nat.reduceBEq, List.not_mem_nil, false_implies, implies_true, and_true, true_and, and_self])
          simp [slOf, PileSite.cs, clen, llen, plen]
        · intro t htl
          repeat' (first | ((first | refine o1 rfl ?_ | refine o0 rfl ?_); intro k hk; simp (disch := omega) only [ev0, sl_cells, simprocAttr, slOf]; refine hk _ _ ?_; clear hk k) | refine ono rfl ?_ | ((first | refine osplitG rfl (fun h => ?_) (fun h => ?_) | refine osplitB rfl (fun h => ?_) (fun h => ?_)) <;> (fail_if_success (simp only [eq_self, reduceCtorEq] at h))) | refine onx ?_ | refine onb ?_ | refine sreg ?_ | refine qT rfl ?_ | refine qF rfl ?_ | refine scondT rfl ?_ | refine scondF rfl ?_ | refine ocondP rfl (fun h => ?_) (fun h => ?_) | refine ocondB rfl (fun h => ?_) (fun h => ?_) | refine scondP rfl (fun h => ?_) (fun h => ?_) | refine scond rfl (fun h => ?_) (fun h => ?_) | refine oskip ?_ | refine oskipb ?_ | refine oret ?_ | refine sem_ret ?_ | refine sem_seq ?_ | refine sreg1 ?_)
          · have ht' : t < th.length := by omega
            have ct := crow t ht'
            have lt := lrow t ht'
            have pt := prow t ht'
            have xt := xrow t ht'
            have xl := xt.1
            refine sem_block ?_
            repeat' (first | ((first | refine o1 rfl ?_ | refine o0 rfl ?_); intro k hk; simp (disch := omega) only [ev0, sl_cells, simprocAttr]; refine hk _ _ ?_; clear hk k) | refine ono rfl ?_ | ((first | refine osplitG rfl (fun h => ?_) (fun h => ?_) | refine osplitB rfl (fun h => ?_) (fun h => ?_)) <;> (fail_if_success (simp only [eq_self, reduceCtorEq] at h))) | refine onx ?_ | refine onb ?_ | refine sreg ?_ | refine qT rfl ?_ | refine qF rfl ?_ | refine scondT rfl ?_ | refine scondF rfl ?_ | refine ocondP rfl (fun h => ?_) (fun h => ?_) | refine ocondB rfl (fun h => ?_) (fun h => ?_) | refine scondP rfl (fun h => ?_) (fun h => ?_) | refine scond rfl (fun h => ?_) (fun h => ?_) | refine oskip ?_ | refine oskipb ?_ | refine oret ?_ | refine sem_ret ?_ | refine sem_seq ?_ | refine sreg1 ?_)
            ((refine sem_mgo 29 hmix (by kernel_rfl) ?_; simp only [List.take_succ_cons, List.take_zero, List.drop_succ_cons, List.drop_zero, List.take_nil, List.drop_nil]); (repeat' (first | ((first | apply mop | apply mop0); (case hg => rfl); (case hq => rfl); intro k hk; simp (disch := omega) only [ev0, sl_cells, simprocAttr, slOf, spansCs, intsCs, PileSite.cs, clen, llen, plen, ct, lt, pt, eq_self]; refine hk _ _ rfl ?_; clear hk k) | (apply mno; (case hg => rfl)) | (apply mbox; (case hx => (simp only [wv, simprocAttr] <;> rfl)); (case hg => rfl); (case hall => rfl); (case hr => rfl); simp only [cellsOf, List.length_cons, List.length_nil, Nat.reduceAdd, Nat.zero_add, List.nil_append, List.cons_append, List.set_cons_zero, List.set_cons_succ, chunks, List.take_succ_cons, List.take_zero, List.drop_succ_cons, List.drop_zero]) | (apply mbldS; (case hb => (simp (disch := omega) only [ev0, sl_cells, simprocAttr] <;> rfl)); (case hg => rfl); (case hr => rfl); simp only [cellsOf, List.length_cons, List.length_nil, Nat.reduceAdd, Nat.zero_add, List.nil_append, List.cons_append, List.set_cons_zero, List.set_cons_succ, chunks, List.take_succ_cons, List.take_zero, List.drop_succ_cons, List.drop_zero]) | ((first | (apply msto (q := 0); (case hq => rfl)) | (apply msto (q := 1); (case hq => rfl)) | (apply msto (q := 2); (case hq => rfl)) | (apply msto (q := 3); (case hq => rfl))); (case hx => (simp only [wv, simprocAttr] <;> rfl)); (case haddr => (simp only [wv, simprocAttr] <;> rfl)); (case hg => rfl); (case hl1 => rfl); (case hl2 => rfl); (case hok => rfl); (case hr => rfl); simp only [cellsOf, List.length_cons, List.length_nil, Nat.reduceAdd, Nat.zero_add, List.nil_append, List.cons_append, List.set_cons_zero, List.set_cons_succ, chunks, List.take_succ_cons, List.take_zero, List.drop_succ_cons, List.drop_zero]) | (apply mnil; simp only [SlotR.fin, List.map_cons, List.map_nil, List.cons_append, List.nil_append, List.append_nil]) | (refine msplit rfl (fun h => ?_) (fun h => ?_) <;> simp only [h] <;> (try simp only [Bool.not_eq_true', Bool.not_eq_false', decide_eq_true_eq, decide_eq_false_iff_not] at h)))) <;> (repeat' (first | ((first | refine o1 rfl ?_ | refine o0 rfl ?_); intro k hk; simp (disch := omega) only [ev0, sl_cells, simprocAttr, slOf, spansCs, intsCs, PileSite.cs, clen, llen, plen, ct, lt, pt, eq_self]; refine hk _ _ ?_; clear hk k) | refine ono rfl ?_ | ((first | refine osplitG rfl (fun h => ?_) (fun h => ?_) | refine osplitB rfl (fun h => ?_) (fun h => ?_)) <;> (fail_if_success (simp only [eq_self, reduceCtorEq] at h))) | refine onx ?_ | refine onb ?_ | refine sreg ?_ | refine qT rfl ?_ | refine qF rfl ?_ | refine scondT rfl ?_ | refine scondF rfl ?_ | refine ocondP rfl (fun h => ?_) (fun h => ?_) | refine ocondB rfl (fun h => ?_) (fun h => ?_) | refine scondP rfl (fun h => ?_) (fun h => ?_) | refine scond rfl (fun h => ?_) (fun h => ?_) | refine oskip ?_ | refine oskipb ?_ | refine oret ?_ | refine sem_ret ?_ | refine sem_seq ?_ | refine sreg1 ?_)))
            refine sem_block ?_
            
            refine sem_loop (α := Nat) (fun i => ⟨[(1, slOf spansCs th), (4, .ptr 0 0 6 0 0), (9, slOf truthsCs x), (10, slOf spansCs c), (12, slOf spansCs lv), (14, slOf intsCs p), (16, .ptr 1 0 3 0 0), (18, I t), (19, I i)], [.row 26 0 6 [s.cs], .row 40 0 3 [[.int .i64 f.year, .int .i64 f.rule, .int .i64 f.at']]]⟩) (fun i => i ≤ s.piles.length) (fun i => s.piles.length - i) 0 (Nat.zero_le _) ?_ ?_
            · (refine Le.same ?_; simp only [List.forall_mem_cons, List.forall_mem_nil, getE, selE, Nat.reduceBEq, List.not_mem_nil, false_implies, implies_true, and_true, true_and, and_self])
              simp [slOf, PileSite.cs]
            · intro i hil
              repeat' (first | ((first | refine o1 rfl ?_ | refine o0 rfl ?_); intro k hk; simp (disch := omega) only [ev0, sl_cells, simprocAttr, slOf, PileSite.cs]; refine hk _ _ ?_; clear hk k) | refine ono rfl ?_ | ((first | refine osplitG rfl (fun h => ?_) (fun h => ?_) | refine osplitB rfl (fun h => ?_) (fun h => ?_)) <;> (fail_if_success (simp only [eq_self, reduceCtorEq] at h))) | refine onx ?_ | refine onb ?_ | refine sreg ?_ | refine qT rfl ?_ | refine qF rfl ?_ | refine scondT rfl ?_ | refine scondF rfl ?_ | refine ocondP rfl (fun h => ?_) (fun h => ?_) | refine ocondB rfl (fun h => ?_) (fun h => ?_) | refine scondP rfl (fun h => ?_) (fun h => ?_) | refine scond rfl (fun h => ?_) (fun h => ?_) | refine oskip ?_ | refine oskipb ?_ | refine oret ?_ | refine sem_ret ?_ | refine sem_seq ?_ | refine sreg1 ?_)
              · have hi' : i < s.piles.length := by omega
                have hp := pile_at ok hi'
                have hx := (thaw_at tok ht' hi').2
                have hti := (xt.2 i hi').1.1
                simp only [Span.in, inI] at hx hti
                have cbi := cb t i ht' hi'
                have lbi := lb t i ht' hi'
                have f1 : ¬ carr (s.piles.getD i default) ((x.getD t default).getD i default).thaw < ((c.getD t default).getD i default).low := by omega
                have f2 : ¬ ((c.getD t default).getD i default).high < carr (s.piles.getD i default) ((x.getD t default).getD i default).thaw := by omega
                have f3 : ¬ (p.getD t default).getD i default < ((lv.getD t default).getD i default).low := by omega
                have f4 : ¬ ((lv.getD t default).getD i default).high < (p.getD t default).getD i default := by omega
                refine sem_block ?_
                repeat' (first | ((first | refine o1 rfl ?_ | refine o0 rfl ?_); intro k hk; simp (disch := omega) only [ev0, sl_cells, simprocAttr]; refine hk _ _ ?_; clear hk k) | refine ono rfl ?_ | ((first | refine osplitG rfl (fun h => ?_) (fun h => ?_) | refine osplitB rfl (fun h => ?_) (fun h => ?_)) <;> (fail_if_success (simp only [eq_self, reduceCtorEq] at h))) | refine onx ?_ | refine onb ?_ | refine sreg ?_ | refine qT rfl ?_ | refine qF rfl ?_ | refine scondT rfl ?_ | refine scondF rfl ?_ | refine ocondP rfl (fun h => ?_) (fun h => ?_) | refine ocondB rfl (fun h => ?_) (fun h => ?_) | refine scondP rfl (fun h => ?_) (fun h => ?_) | refine scond rfl (fun h => ?_) (fun h => ?_) | refine oskip ?_ | refine oskipb ?_ | refine oret ?_ | refine sem_ret ?_ | refine sem_seq ?_ | refine sreg1 ?_)
                ((refine sem_mgo 13 hmix (by kernel_rfl) ?_; simp only [List.take_succ_cons, List.take_zero, List.drop_succ_cons, List.drop_zero, List.take_nil, List.drop_nil]); (repeat' (first | ((first | apply mop | apply mop0); (case hg => rfl); (case hq => rfl); intro k hk; simp (disch := omega) only [ev0, sl_cells, simprocAttr, slOf, truthsCs, PileSite.cs, Pile.cs, PileTruth.cs]; refine hk _ _ rfl ?_; clear hk k) | (apply mno; (case hg => rfl)) | (apply mcall; (case he => (simp only [ev0, sl_cells, simprocAttr] <;> rfl)); (case hc => first | exact ref02_Carries hG _ hp _ (by omega)); (case ht => rfl); (case hg => rfl); (case hr => rfl)) | (apply mbox; (case hx => (simp only [wv, simprocAttr] <;> rfl)); (case hg => rfl); (case hall => rfl); (case hr => rfl); simp only [cellsOf, List.length_cons, List.length_nil, Nat.reduceAdd, Nat.zero_add, List.nil_append, List.cons_append, List.set_cons_zero, List.set_cons_succ, chunks, List.take_succ_cons, List.take_zero, List.drop_succ_cons, List.drop_zero]) | (apply mbldS; (case hb => (simp (disch := omega) only [ev0, sl_cells, simprocAttr] <;> rfl)); (case hg => rfl); (case hr => rfl); simp only [cellsOf, List.length_cons, List.length_nil, Nat.reduceAdd, Nat.zero_add, List.nil_append, List.cons_append, List.set_cons_zero, List.set_cons_succ, chunks, List.take_succ_cons, List.take_zero, List.drop_succ_cons, List.drop_zero]) | ((first | (apply msto (q := 0); (case hq => rfl)) | (apply msto (q := 1); (case hq => rfl)) | (apply msto (q := 2); (case hq => rfl)) | (apply msto (q := 3); (case hq => rfl))); (case hx => (simp only [wv, simprocAttr] <;> rfl)); (case haddr => (simp only [wv, simprocAttr] <;> rfl)); (case hg => rfl); (case hl1 => rfl); (case hl2 => rfl); (case hok => rfl); (case hr => rfl); simp only [cellsOf, List.length_cons, List.length_nil, Nat.reduceAdd, Nat.zero_add, List.nil_append, List.cons_append, List.set_cons_zero, List.set_cons_succ, chunks, List.take_succ_cons, List.take_zero, List.drop_succ_cons, List.drop_zero]) | (apply mnil; simp only [SlotR.fin, List.map_cons, List.map_nil, List.cons_append, List.nil_append, List.append_nil]) | (refine msplit rfl (fun h => ?_) (fun h => ?_) <;> simp only [h] <;> (try simp only [Bool.not_eq_true', Bool.not_eq_false', decide_eq_true_eq, decide_eq_false_iff_not] at h)))) <;> (repeat' (first | ((first | refine o1 rfl ?_ | refine o0 rfl ?_); intro k hk; simp (disch := omega) only [ev0, sl_cells, simprocAttr, slOf, truthsCs, PileSite.cs, Pile.cs, PileTruth.cs]; refine hk _ _ ?_; clear hk k) | refine ono rfl ?_ | (apply ocall; (case he => (simp only [ev0, sl_cells, simprocAttr] <;> rfl)); (case hc => first | exact ref02_Carries hG _ hp _ (by omega)); (case ht => rfl); (case hg => rfl)) | ((first | refine osplitG rfl (fun h => ?_) (fun h => ?_) | refine osplitB rfl (fun h => ?_) (fun h => ?_)) <;> (fail_if_success (simp only [eq_self, reduceCtorEq] at h))) | refine onx ?_ | refine onb ?_ | refine sreg ?_ | refine qT rfl ?_ | refine qF rfl ?_ | refine scondT rfl ?_ | refine scondF rfl ?_ | refine ocondP rfl (fun h => ?_) (fun h => ?_) | refine ocondB rfl (fun h => ?_) (fun h => ?_) | refine scondP rfl (fun h => ?_) (fun h => ?_) | refine scond rfl (fun h => ?_) (fun h => ?_) | refine oskip ?_ | refine oskipb ?_ | refine oret ?_ | refine sem_ret ?_ | refine sem_seq ?_ | refine sreg1 ?_)))
                ((refine sem_mgo 56 hmix (by kernel_rfl) ?_; simp only [List.take_succ_cons, List.take_zero, List.drop_succ_cons, List.drop_zero, List.take_nil, List.drop_nil]); (repeat' (first | ((first | apply mop | apply mop0); (case hg => rfl); (case hq => rfl); intro k hk; simp (disch := omega) only [ev0, sl_cells, simprocAttr, slOf, spansCs, intsCs, intCs, Span.cs, clen, llen, plen, xlen, ct, lt, pt, xl, f1, f2, f3, f4]; refine hk _ _ rfl ?_; clear hk k) | (apply mno; (case hg => rfl)) | (apply mbox; (case hx => (simp only [wv, simprocAttr] <;> rfl)); (case hg => rfl); (case hall => rfl); (case hr => rfl); simp only [cellsOf, List.length_cons, List.length_nil, Nat.reduceAdd, Nat.zero_add, List.nil_append, List.cons_append, List.set_cons_zero, List.set_cons_succ, chunks, List.take_succ_cons, List.take_zero, List.drop_succ_cons, List.drop_zero]) | (apply mbldS; (case hb => (simp (disch := omega) only [ev0, sl_cells, simprocAttr] <;> rfl)); (case hg => rfl); (case hr => rfl); simp only [cellsOf, List.length_cons, List.length_nil, Nat.reduceAdd, Nat.zero_add, List.nil_append, List.cons_append, List.set_cons_zero, List.set_cons_succ, chunks, List.take_succ_cons, List.take_zero, List.drop_succ_cons, List.drop_zero]) | ((first | (apply msto (q := 0); (case hq => rfl)) | (apply msto (q := 1); (case hq => rfl)) | (apply msto (q := 2); (case hq => rfl)) | (apply msto (q := 3); (case hq => rfl))); (case hx => (simp only [wv, simprocAttr] <;> rfl)); (case haddr => (simp only [wv, simprocAttr] <;> rfl)); (case hg => rfl); (case hl1 => rfl); (case hl2 => rfl); (case hok => rfl); (case hr => rfl); simp only [cellsOf, List.length_cons, List.length_nil, Nat.reduceAdd, Nat.zero_add, List.nil_append, List.cons_append, List.set_cons_zero, List.set_cons_succ, chunks, List.take_succ_cons, List.take_zero, List.drop_succ_cons, List.drop_zero]) | (apply mnil; simp only [SlotR.fin, List.map_cons, List.map_nil, List.cons_append, List.nil_append, List.append_nil]) | (refine msplit rfl (fun h => ?_) (fun h => ?_) <;> simp only [h] <;> (try simp only [Bool.not_eq_true', Bool.not_eq_false', decide_eq_true_eq, decide_eq_false_iff_not] at h)))) <;> (repeat' (first | ((first | refine o1 rfl ?_ | refine o0 rfl ?_); intro k hk; simp (disch := omega) only [ev0, sl_cells, simprocAttr, slOf, spansCs, intsCs, intCs, Span.cs, clen, llen, plen, xlen, ct, lt, pt, xl, f1, f2, f3, f4]; refine hk _ _ ?_; clear hk k) | refine ono rfl ?_ | ((first | refine osplitG rfl (fun h => ?_) (fun h => ?_) | refine osplitB rfl (fun h => ?_) (fun h => ?_)) <;> (fail_if_success (simp only [eq_self, reduceCtorEq] at h))) | refine onx ?_ | refine onb ?_ | refine sreg ?_ | refine qT rfl ?_ | refine qF rfl ?_ | refine scondT rfl ?_ | refine scondF rfl ?_ | refine ocondP rfl (fun h => ?_) (fun h => ?_) | refine ocondB rfl (fun h => ?_) (fun h => ?_) | refine scondP rfl (fun h => ?_) (fun h => ?_) | refine scond rfl (fun h => ?_) (fun h => ?_) | refine oskip ?_ | refine oskipb ?_ | refine oret ?_ | refine sem_ret ?_ | refine sem_seq ?_ | refine sreg1 ?_)))
                refine onil (lnext (i + 1) (by omega) (by omega) ?_)
                (refine Le.drop ?_ rfl (by simp) rfl rfl; simp only [List.forall_mem_cons, List.forall_mem_nil, getE, selE, Nat.reduceBEq, List.not_mem_nil, false_implies, implies_true, and_true, true_and, and_self])
                simp [slOf, PileSite.cs]
              · have hi' : i = s.piles.length := by omega
                subst hi'
                (refine sem_exit ?_; change sem _ _ _ _ _)
                repeat' (first | ((first | refine o1 rfl ?_ | refine o0 rfl ?_); intro k hk; simp (disch := omega) only [ev0, sl_cells, simprocAttr]; refine hk _ _ ?_; clear hk k) | refine ono rfl ?_ | ((first | refine osplitG rfl (fun h => ?_) (fun h => ?_) | refine osplitB rfl (fun h => ?_) (fun h => ?_)) <;> (fail_if_success (simp only [eq_self, reduceCtorEq] at h))) | refine onx ?_ | refine onb ?_ | refine sreg ?_ | refine qT rfl ?_ | refine qF rfl ?_ | refine scondT rfl ?_ | refine scondF rfl ?_ | refine ocondP rfl (fun h => ?_) (fun h => ?_) | refine ocondB rfl (fun h => ?_) (fun h => ?_) | refine scondP rfl (fun h => ?_) (fun h => ?_) | refine scond rfl (fun h => ?_) (fun h => ?_) | refine oskip ?_ | refine oskipb ?_ | refine oret ?_ | refine sem_ret ?_ | refine sem_seq ?_ | refine sreg1 ?_)
                have hW := law02_wrong hG s ok (th.getD t default) (fun i hi => (thaw_at tok ht' hi).2) (x.getD t default) xt (p.getD t default) pt (pb t ht')
                by_cases hr : f.rule = 1
                · have hno := wno hr t ht'
                  rw [decide_eq_false hno] at hW
                  have hr' : (f.rule = 1) = True := eq_true hr
                  ((refine sem_mgo 13 hmix (by kernel_rfl) ?_; simp only [List.take_succ_cons, List.take_zero, List.drop_succ_cons, List.drop_zero, List.take_nil, List.drop_nil]); (repeat' (first | ((first | apply mop | apply mop0); (case hg => rfl); (case hq => rfl); intro k hk; simp (disch := omega) only [ev0, sl_cells, simprocAttr, slOf, truthsCs, intsCs, PileSite.cs, plen, xlen, hr']; refine hk _ _ rfl ?_; clear hk k) | (apply mno; (case hg => rfl)) | (apply mcall; (case he => (simp only [ev0, sl_cells, simprocAttr] <;> rfl)); (case hc => first | exact hW); (case ht => rfl); (case hg => rfl); (case hr => rfl)) | (apply mbox; (case hx => (simp only [wv, simprocAttr] <;> rfl)); (case hg => rfl); (case hall => rfl); (case hr => rfl); simp only [cellsOf, List.length_cons, List.length_nil, Nat.reduceAdd, Nat.zero_add, List.nil_append, List.cons_append, List.set_cons_zero, List.set_cons_succ, chunks, List.take_succ_cons, List.take_zero, List.drop_succ_cons, List.drop_zero]) | (apply mbldS; (case hb => (simp (disch := omega) only [ev0, sl_cells, simprocAttr] <;> rfl)); (case hg => rfl); (case hr => rfl); simp only [cellsOf, List.length_cons, List.length_nil, Nat.reduceAdd, Nat.zero_add, List.nil_append, List.cons_append, List.set_cons_zero, List.set_cons_succ, chunks, List.take_succ_cons, List.take_zero, List.drop_succ_cons, List.drop_zero]) | ((first | (apply msto (q := 0); (case hq => rfl)) | (apply msto (q := 1); (case hq => rfl)) | (apply msto (q := 2); (case hq => rfl)) | (apply msto (q := 3); (case hq => rfl))); (case hx => (simp only [wv, simprocAttr] <;> rfl)); (case haddr => (simp only [wv, simprocAttr] <;> rfl)); (case hg => rfl); (case hl1 => rfl); (case hl2 => rfl); (case hok => rfl); (case hr => rfl); simp only [cellsOf, List.length_cons, List.length_nil, Nat.reduceAdd, Nat.zero_add, List.nil_append, List.cons_append, List.set_cons_zero, List.set_cons_succ, chunks, List.take_succ_cons, List.take_zero, List.drop_succ_cons, List.drop_zero]) | (apply mnil; simp only [SlotR.fin, List.map_cons, List.map_nil, List.cons_append, List.nil_append, List.append_nil]) | (refine msplit rfl (fun h => ?_) (fun h => ?_) <;> simp only [h] <;> (try simp only [Bool.not_eq_true', Bool.not_eq_false', decide_eq_true_eq, decide_eq_false_iff_not] at h)))) <;> (repeat' (first | ((first | refine o1 rfl ?_ | refine o0 rfl ?_); intro k hk; simp (disch := omega) only [ev0, sl_cells, simprocAttr, slOf, truthsCs, intsCs, PileSite.cs, plen, xlen, hr']; refine hk _ _ ?_; clear hk k) | refine ono rfl ?_ | (apply ocall; (case he => (simp only [ev0, sl_cells, simprocAttr] <;> rfl)); (case hc => first | exact hW); (case ht => rfl); (case hg => rfl)) | ((first | refine osplitG rfl (fun h => ?_) (fun h => ?_) | refine osplitB rfl (fun h => ?_) (fun h => ?_)) <;> (fail_if_success (simp only [eq_self, reduceCtorEq] at h))) | refine onx ?_ | refine onb ?_ | refine sreg ?_ | refine qT rfl ?_ | refine qF rfl ?_ | refine scondT rfl ?_ | refine scondF rfl ?_ | refine ocondP rfl (fun h => ?_) (fun h => ?_) | refine ocondB rfl (fun h => ?_) (fun h => ?_) | refine scondP rfl (fun h => ?_) (fun h => ?_) | refine scond rfl (fun h => ?_) (fun h => ?_) | refine oskip ?_ | refine oskipb ?_ | refine oret ?_ | refine sem_ret ?_ | refine sem_seq ?_ | refine sreg1 ?_)))
                  refine onil (lnext (t + 1) (by omega) (by omega) ?_)
                  (refine Le.drop ?_ rfl (by simp) rfl rfl; simp only [List.forall_mem_cons, List.forall_mem_nil, getE, selE, Nat.reduceBEq, List.not_mem_nil, false_implies, implies_true, and_true, true_and, and_self])
                  simp [slOf, PileSite.cs]
                · ((refine sem_mgo 13 hmix (by kernel_rfl) ?_; simp only [List.take_succ_cons, List.take_zero, List.drop_succ_cons, List.drop_zero, List.take_nil, List.drop_nil]); (repeat' (first | ((first | apply mop | apply mop0); (case hg => rfl); (case hq => rfl); intro k hk; simp (disch := omega) only [ev0, sl_cells, simprocAttr, slOf, PileSite.cs, hr]; refine hk _ _ rfl ?_; clear hk k) | (apply mno; (case hg => rfl)) | (apply mbox; (case hx => (simp only [wv, simprocAttr] <;> rfl)); (case hg => rfl); (case hall => rfl); (case hr => rfl); simp only [cellsOf, List.length_cons, List.length_nil, Nat.reduceAdd, Nat.zero_add, List.nil_append, List.cons_append, List.set_cons_zero, List.set_cons_succ, chunks, List.take_succ_cons, List.take_zero, List.drop_succ_cons, List.drop_zero]) | (apply mbldS; (case hb => (simp (disch := omega) only [ev0, sl_cells, simprocAttr] <;> rfl)); (case hg => rfl); (case hr => rfl); simp only [cellsOf, List.length_cons, List.length_nil, Nat.reduceAdd, Nat.zero_add, List.nil_append, List.cons_append, List.set_cons_zero, List.set_cons_succ, chunks, List.take_succ_cons, List.take_zero, List.drop_succ_cons, List.drop_zero]) | ((first | (apply msto (q := 0); (case hq => rfl)) | (apply msto (q := 1); (case hq => rfl)) | (apply msto (q := 2); (case hq => rfl)) | (apply msto (q := 3); (case hq => rfl))); (case hx => (simp only [wv, simprocAttr] <;> rfl)); (case haddr => (simp only [wv, simprocAttr] <;> rfl)); (case hg => rfl); (case hl1 => rfl); (case hl2 => rfl); (case hok => rfl); (case hr => rfl); simp only [cellsOf, List.length_cons, List.length_nil, Nat.reduceAdd, Nat.zero_add, List.nil_append, List.cons_append, List.set_cons_zero, List.set_cons_succ, chunks, List.take_succ_cons, List.take_zero, List.drop_succ_cons, List.drop_zero]) | (apply mnil; simp only [SlotR.fin, List.map_cons, List.map_nil, List.cons_append, List.nil_append, List.append_nil]) | (refine msplit rfl (fun h => ?_) (fun h => ?_) <;> simp only [h] <;> (try simp only [Bool.not_eq_true', Bool.not_eq_false', decide_eq_true_eq, decide_eq_false_iff_not] at h)))) <;> (repeat' (first | ((first | refine o1 rfl ?_ | refine o0 rfl ?_); intro k hk; simp (disch := omega) only [ev0, sl_cells, simprocAttr, slOf, PileSite.cs, hr]; refine hk _ _ ?_; clear hk k) | refine ono rfl ?_ | ((first | refine osplitG rfl (fun h => ?_) (fun h => ?_) | refine osplitB rfl (fun h => ?_) (fun h => ?_)) <;> (fail_if_success (simp only [eq_self, reduceCtorEq] at h))) | refine onx ?_ | refine onb ?_ | refine sreg ?_ | refine qT rfl ?_ | refine qF rfl ?_ | refine scondT rfl ?_ | refine scondF rfl ?_ | refine ocondP rfl (fun h => ?_) (fun h => ?_) | refine ocondB rfl (fun h => ?_) (fun h => ?_) | refine scondP rfl (fun h => ?_) (fun h => ?_) | refine scond rfl (fun h => ?_) (fun h => ?_) | refine oskip ?_ | refine oskipb ?_ | refine oret ?_ | refine sem_ret ?_ | refine sem_seq ?_ | refine sreg1 ?_)))
                  refine onil (lnext (t + 1) (by omega) (by omega) ?_)
                  (refine Le.drop ?_ rfl (by simp) rfl rfl; simp only [List.forall_mem_cons, List.forall_mem_nil, getE, selE, Nat.reduceBEq, List.not_mem_nil, false_implies, implies_true, and_true, true_and, and_self])
                  simp [slOf, PileSite.cs]
          · (refine sem_exit ?_; change sem _ _ _ _ _)
            repeat' (first | ((first | refine o1 rfl ?_ | refine o0 rfl ?_); intro k hk; simp (disch := omega) only [ev0, sl_cells, simprocAttr]; refine hk _ _ ?_; clear hk k) | refine ono rfl ?_ | (apply ocall; (case he => (simp only [ev0, sl_cells, simprocAttr] <;> rfl)); (case hc => first | exact law02_known hG hT); (case ht => rfl); (case hg => rfl)) | ((first | refine osplitG rfl (fun h => ?_) (fun h => ?_) | refine osplitB rfl (fun h => ?_) (fun h => ?_)) <;> (fail_if_success (simp only [eq_self, reduceCtorEq] at h))) | refine onx ?_ | refine onb ?_ | refine sreg ?_ | refine qT rfl ?_ | refine qF rfl ?_ | refine scondT rfl ?_ | refine scondF rfl ?_ | refine ocondP rfl (fun h => ?_) (fun h => ?_) | refine ocondB rfl (fun h => ?_) (fun h => ?_) | refine scondP rfl (fun h => ?_) (fun h => ?_) | refine scond rfl (fun h => ?_) (fun h => ?_) | refine oskip ?_ | refine oskipb ?_ | refine oret ?_ | refine sem_ret ?_ | refine sem_seq ?_ | refine sreg1 ?_)
            exact ⟨_, rfl, _, rfl, tree_eq rfl rfl⟩
      · have hwd := decide_eq_false hw
        (refine holds_of_sem hG fn_law02_PileTrue (by simp) fun w0 S0 hG0 D0 => ?_; unfold c_law02_PileTrue cval enterEnv; simp only [List.zipIdx_cons, List.zipIdx_nil, List.map_cons, List.map_nil, Nat.zero_add, Nat.reduceAdd])
        repeat' (first | ((first | refine o1 rfl ?_ | refine o0 rfl ?_); intro k hk; simp (disch := omega) only [ev0, sl_cells, simprocAttr, slOf, hsd, he, hwd, PileSite.cs]; refine hk _ _ ?_; clear hk k) | refine ono rfl ?_ | (apply ocall; (case he => (simp only [ev0, sl_cells, simprocAttr] <;> rfl)); (case hc => first | exact law02_known hG hT | exact law02_short hG s th | exact law02_planned' hG s th plan hs | exact law02_percents hG wh hwl); (case ht => rfl); (case hg => rfl)) | ((first | refine osplitG rfl (fun h => ?_) (fun h => ?_) | refine osplitB rfl (fun h => ?_) (fun h => ?_)) <;> (fail_if_success (simp only [eq_self, reduceCtorEq] at h))) | refine onx ?_ | refine onb ?_ | refine sreg ?_ | refine qT rfl ?_ | refine qF rfl ?_ | refine scondT rfl ?_ | refine scondF rfl ?_ | refine ocondP rfl (fun h => ?_) (fun h => ?_) | refine ocondB rfl (fun h => ?_) (fun h => ?_) | refine scondP rfl (fun h => ?_) (fun h => ?_) | refine scond rfl (fun h => ?_) (fun h => ?_) | refine oskip ?_ | refine oskipb ?_ | refine oret ?_ | refine sem_ret ?_ | refine sem_seq ?_ | refine sreg1 ?_)
        all_goals first
          | exact ⟨_, rfl, _, rfl, tree_eq rfl rfl⟩
          | (exfalso; (try simp only [Bool.not_eq_true', Bool.not_eq_false', decide_eq_true_eq, decide_eq_false_iff_not, ne_eq, Decidable.not_not] at *); first | omega | contradiction | (simp only [*, Bool.true_eq_false, Bool.false_eq_true] at *; done))
    · (refine holds_of_sem hG fn_law02_PileTrue (by simp) fun w0 S0 hG0 D0 => ?_; unfold c_law02_PileTrue cval enterEnv; simp only [List.zipIdx_cons, List.zipIdx_nil, List.map_cons, List.map_nil, Nat.zero_add, Nat.reduceAdd])
      repeat' (first | ((first | refine o1 rfl ?_ | refine o0 rfl ?_); intro k hk; simp (disch := omega) only [ev0, sl_cells, simprocAttr, slOf, hsd, he, PileSite.cs]; refine hk _ _ ?_; clear hk k) | refine ono rfl ?_ | (apply ocall; (case he => (simp only [ev0, sl_cells, simprocAttr] <;> rfl)); (case hc => first | exact law02_known hG hT | exact law02_short hG s th | exact law02_planned' hG s th plan hs | exact law02_percents hG wh hwl); (case ht => rfl); (case hg => rfl)) | ((first | refine osplitG rfl (fun h => ?_) (fun h => ?_) | refine osplitB rfl (fun h => ?_) (fun h => ?_)) <;> (fail_if_success (simp only [eq_self, reduceCtorEq] at h))) | refine onx ?_ | refine onb ?_ | refine sreg ?_ | refine qT rfl ?_ | refine qF rfl ?_ | refine scondT rfl ?_ | refine scondF rfl ?_ | refine ocondP rfl (fun h => ?_) (fun h => ?_) | refine ocondB rfl (fun h => ?_) (fun h => ?_) | refine scondP rfl (fun h => ?_) (fun h => ?_) | refine scond rfl (fun h => ?_) (fun h => ?_) | refine oskip ?_ | refine oskipb ?_ | refine oret ?_ | refine sem_ret ?_ | refine sem_seq ?_ | refine sreg1 ?_)
      all_goals first
        | exact ⟨_, rfl, _, rfl, tree_eq rfl rfl⟩
        | (exfalso; (try simp only [Bool.not_eq_true', Bool.not_eq_false', decide_eq_true_eq, decide_eq_false_iff_not, ne_eq, Decidable.not_not] at *); first | omega | contradiction | (simp only [*, Bool.true_eq_false, Bool.false_eq_true] at *; done))
  · have hsd := decide_eq_false hs
    (refine holds_of_sem hG fn_law02_PileTrue (by simp) fun w0 S0 hG0 D0 => ?_; unfold c_law02_PileTrue cval enterEnv; simp only [List.zipIdx_cons, List.zipIdx_nil, List.map_cons, List.map_nil, Nat.zero_add, Nat.reduceAdd])
    repeat' (first | ((first | refine o1 rfl ?_ | refine o0 rfl ?_); intro k hk; simp (disch := omega) only [ev0, sl_cells, simprocAttr, slOf, hsd, PileSite.cs]; refine hk _ _ ?_; clear hk k) | refine ono rfl ?_ | (apply ocall; (case he => (simp only [ev0, sl_cells, simprocAttr] <;> rfl)); (case hc => first | exact law02_known hG hT | exact law02_short hG s th); (case ht => rfl); (case hg => rfl)) | ((first | refine osplitG rfl (fun h => ?_) (fun h => ?_) | refine osplitB rfl (fun h => ?_) (fun h => ?_)) <;> (fail_if_success (simp only [eq_self, reduceCtorEq] at h))) | refine onx ?_ | refine onb ?_ | refine sreg ?_ | refine qT rfl ?_ | refine qF rfl ?_ | refine scondT rfl ?_ | refine scondF rfl ?_ | refine ocondP rfl (fun h => ?_) (fun h => ?_) | refine ocondB rfl (fun h => ?_) (fun h => ?_) | refine scondP rfl (fun h => ?_) (fun h => ?_) | refine scond rfl (fun h => ?_) (fun h => ?_) | refine oskip ?_ | refine oskipb ?_ | refine oret ?_ | refine sem_ret ?_ | refine sem_seq ?_ | refine sreg1 ?_)
    all_goals first
      | exact ⟨_, rfl, _, rfl, tree_eq rfl rfl⟩
      | (exfalso; (try simp only [Bool.not_eq_true', Bool.not_eq_false', decide_eq_true_eq, decide_eq_false_iff_not, ne_eq, Decidable.not_not] at *); first | omega | contradiction | (simp only [*, Bool.true_eq_false, Bool.false_eq_true] at *; done))
end Go.Proofs.YtibgfmhddcibcaaDoor
