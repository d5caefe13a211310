import Derived.Test.YtibgfmhddcibcaaDoorMg
import Derived.Test.YtibgfmhddcibcaaDoorMe
import Derived.Test.YtibgfmhddcibcaaDoorMf
set_option linter.unusedVariables false
set_option linter.unusedSimpArgs false
set_option maxRecDepth 8000
/- The reference's levels. -/
namespace Go.Tk
open Go Go.Av
theorem rowOf_ok {s : PileSite} (hs : s.ok) (p : Pile) (t load : Int) : (rowOf s p t load).1.ok := by
  have hrl : 1 ≤ s.rows.length ∧ s.rows.length ≤ 6 := hs.2.2.2.1
  have hm : ∀ r ∈ s.rows, r.ok := fun r hr => by
    obtain ⟨i, hi⟩ := List.getElem?_of_mem hr
    exact (hs.1 i r hi).1
  have hlast : (lastRow s).ok := by
    unfold lastRow
    rw [getD_lt (by omega)]
    exact hm _ (List.getElem_mem _)
  unfold rowOf
  split
  · split
    · rename_i r hr
      exact hm r (List.mem_of_find?_eq_some hr)
    · exact hlast
  · exact hlast
theorem endT_settle {s : PileSite} (hs : s.ok) (p : Pile) (x : Span) (most : Bool) : 0 ≤ (endT s p x most).settle ∧ (endT s p x most).settle ≤ 1000 := by
  unfold endT
  cases most
  · have := (rowOf_ok hs p x.low p.load.low).2
    simp only [Span.in, Bool.false_eq_true, if_false] at this ⊢
    omega
  · have := (rowOf_ok hs p x.high p.load.high).2
    simp only [Span.in, if_true] at this ⊢
    omega
theorem ends_len {s : PileSite} {th : List (List Span)} {most : Bool} : (endsOf s th most).length = th.length := by simp [endsOf]
theorem ends_row {s : PileSite} {th : List (List Span)} {most : Bool} {y : Nat} (hy : y < th.length) : (endsOf s th most).getD y default = endRow s th most y := getD_range hy
theorem play_len {n : Nat} {plan : List Int} {l : List (List PileTruth)} : (playOf n plan l).length = l.length := by simp [playOf]
theorem play_row {n : Nat} {plan : List Int} {l : List (List PileTruth)} {y : Nat} (hy : y < l.length) : (playOf n plan l).getD y default = playRow n (stOf l) (fun y => plan.getD y default) y := getD_range hy
def spanRow (A B : List (List Int)) (t : Nat) : List Span := (List.range (A.getD t default).length).map fun i => ⟨(A.getD t default).getD i default, (B.getD t default).getD i default⟩
def zipSpans (A B : List (List Int)) : List (List Span) := (List.range A.length).map (spanRow A B)
def refLevels (s : PileSite) (th : List (List Span)) (plan : List Int) : List (List Span) := zipSpans (playOf s.piles.length plan (endsOf s th true)) (playOf s.piles.length plan (endsOf s th false))
end Go.Tk
namespace Go.Proofs.YtibgfmhddcibcaaDoor
open Go Go.Av Go.Tk
attribute [local irreducible] Holds sem semL ACalls FnIs playOf endsOf
variable {G : World → Prop} (hG : ∀ w w', G w → RowKit.Below w.heap.size w w' → G w')
include hG

theorem ref02_Levels (s : PileSite) (hs : s.ok) (th : List (List Span)) (ht : thawsOk s th) (hth : th.length ≤ 1000) (plan : List Int) (hp : planOk s th plan) : Holds Tryd.prog G F.ref02_Levels [.agg s.cs, slOf spansCs th, slOf intCs plan] (slOf spansCs (refLevels s th plan)) := by
  have hn6 : 1 ≤ s.piles.length ∧ s.piles.length ≤ 6 := hs.2.1
  have pow : ∀ i : Nat, i ≤ 6 → (2 : Int) ^ i ≤ 64 := by decide
  have hpw := pow _ hn6.2
  have hpl : ∀ y, y < plan.length → 0 ≤ plan.getD y default ∧ plan.getD y default ≤ 1000000 := fun y hy => by
    have := hp.2 (plan.getD y default) (by rw [getD_lt hy]; exact List.getElem_mem _)
    omega
  have play : ∀ most, Holds Tryd.prog G F.ref02_Play [.agg s.cs, slOf intCs plan, slOf truthsCs (endsOf s th most)] (slOf intsCs (playOf s.piles.length plan (endsOf s th most))) := fun most =>
    ref02_Play hG s hn6 plan _ (by rw [ends_len]; omega) (by rw [ends_len, hp.1]; exact Nat.le_refl _) hpl (fun y hy => by rw [ends_len] at hy; rw [ends_row hy]; simp [endRow]) (fun y k hy => by
      rw [ends_len] at hy
      unfold stOf
      rw [ends_row hy]
      by_cases hk : k < s.piles.length
      · unfold endRow
        rw [getD_range hk]
        exact endT_settle hs _ _ _
      · rw [show (endRow s th most y).getD k default = default by simp [endRow, List.getD, hk]]
        exact ⟨Int.le_refl _, by decide⟩)
  have hA : (playOf s.piles.length plan (endsOf s th true)).length = th.length := by rw [play_len, ends_len]
  have hB : (playOf s.piles.length plan (endsOf s th false)).length = th.length := by rw [play_len, ends_len]
  have hAr : ∀ t, t < th.length → ((playOf s.piles.length plan (endsOf s th true)).getD t default).length = s.piles.length := fun t h => by rw [play_row (by rw [ends_len]; exact h)]; simp [playRow]
  have hBr : ∀ t, t < th.length → ((playOf s.piles.length plan (endsOf s th false)).getD t default).length = s.piles.length := fun t h => by rw [play_row (by rw [ends_len]; exact h)]; simp [playRow]
  (refine holds_of_sem hG fn_ref02_Levels (by simp) fun w0 S0 hG0 D0 => ?_; unfold c_ref02_Levels cval enterEnv; simp only [List.zipIdx_cons, List.zipIdx_nil, List.map_cons, List.map_nil, Nat.zero_add, Nat.reduceAdd])
  repeat' (first | ((first | refine o1 rfl ?_ | refine o0 rfl ?_); intro k hk; simp (disch := omega) only [ev0, sl_cells, simprocAttr]; refine hk _ _ ?_; clear hk k) | refine ono rfl ?_ | ((first | refine osplitG rfl (fun h => ?_) (fun h => ?_) | refine osplitB rfl (fun h => ?_) (fun h => ?_)) <;> (fail_if_success (simp only [eq_self, reduceCtorEq] at h))) | refine onx ?_ | refine onb ?_ | refine sreg ?_ | refine qT rfl ?_ | refine qF rfl ?_ | refine scondT rfl ?_ | refine scondF rfl ?_ | refine ocondP rfl (fun h => ?_) (fun h => ?_) | refine ocondB rfl (fun h => ?_) (fun h => ?_) | refine scondP rfl (fun h => ?_) (fun h => ?_) | refine scond rfl (fun h => ?_) (fun h => ?_) | refine oskip ?_ | refine oskipb ?_ | refine oret ?_ | refine sem_ret ?_ | refine sem_seq ?_ | refine sreg1 ?_)
  (refine sem_mgo 11 hmix (by kernel_rfl) ?_; simp only [List.take_succ_cons, List.take_zero, List.drop_succ_cons, List.drop_zero, List.take_nil, List.drop_nil])
  repeat' (first | ((first | apply mop | apply mop0); (case hg => rfl); (case hq => rfl); intro k hk; simp (disch := omega) only [ev0, sl_cells, simprocAttr, PileSite.cs]; refine hk _ _ rfl ?_; clear hk k) | (apply mno; (case hg => rfl)) | (apply mcall; (case he => (simp only [ev0, sl_cells, simprocAttr] <;> rfl)); (case hc => first | exact ref02_Ends hG s hs th ht hth _ | exact play _); (case ht => rfl); (case hg => rfl); (case hr => rfl)) | (apply mbox; (case hx => (simp only [wv, simprocAttr] <;> rfl)); (case hg => rfl); (case hall => rfl); (case hr => rfl); simp only [cellsOf, List.length_cons, List.length_nil, Nat.reduceAdd, Nat.zero_add, List.nil_append, List.cons_append, List.set_cons_zero, List.set_cons_succ, chunks, List.take_succ_cons, List.take_zero, List.drop_succ_cons, List.drop_zero]) | (apply mbldS; (case hb => (simp (disch := omega) only [ev0, sl_cells, simprocAttr] <;> rfl)); (case hg => rfl); (case hr => rfl); simp only [cellsOf, List.length_cons, List.length_nil, Nat.reduceAdd, Nat.zero_add, List.nil_append, List.cons_append, List.set_cons_zero, List.set_cons_succ, chunks, List.take_succ_cons, List.take_zero, List.drop_succ_cons, List.drop_zero]) | ((first | (apply msto (q := 0); (case hq => rfl)) | (apply msto (q := 1); (case hq => rfl)) | (apply msto (q := 2); (case hq => rfl)) | (apply msto (q := 3); (case hq => rfl))); (case hx => (simp only [wv, simprocAttr] <;> rfl)); (case haddr => (simp only [wv, simprocAttr] <;> rfl)); (case hg => rfl); (case hl1 => rfl); (case hl2 => rfl); (case hok => rfl); (case hr => rfl); simp only [cellsOf, List.length_cons, List.length_nil, Nat.reduceAdd, Nat.zero_add, List.nil_append, List.cons_append, List.set_cons_zero, List.set_cons_succ, chunks, List.take_succ_cons, List.take_zero, List.drop_succ_cons, List.drop_zero]) | (apply mnil; simp only [SlotR.fin, List.map_cons, List.map_nil, List.cons_append, List.nil_append, List.append_nil]) | (refine msplit rfl (fun h => ?_) (fun h => ?_) <;> simp only [h] <;> (try simp only [Bool.not_eq_true', Bool.not_eq_false', decide_eq_true_eq, decide_eq_false_iff_not] at h)))
  repeat' (first | ((first | refine o1 rfl ?_ | refine o0 rfl ?_); intro k hk; simp (disch := omega) only [ev0, sl_cells, simprocAttr]; refine hk _ _ ?_; clear hk k) | refine ono rfl ?_ | (apply ocall; (case he => (simp only [ev0, sl_cells, simprocAttr] <;> rfl)); (case hc => first | exact ref02_Ends hG s hs th ht hth _ | exact play _); (case ht => rfl); (case hg => rfl)) | ((first | refine osplitG rfl (fun h => ?_) (fun h => ?_) | refine osplitB rfl (fun h => ?_) (fun h => ?_)) <;> (fail_if_success (simp only [eq_self, reduceCtorEq] at h))) | refine onx ?_ | refine onb ?_ | refine sreg ?_ | refine qT rfl ?_ | refine qF rfl ?_ | refine scondT rfl ?_ | refine scondF rfl ?_ | refine ocondP rfl (fun h => ?_) (fun h => ?_) | refine ocondB rfl (fun h => ?_) (fun h => ?_) | refine scondP rfl (fun h => ?_) (fun h => ?_) | refine scond rfl (fun h => ?_) (fun h => ?_) | refine oskip ?_ | refine oskipb ?_ | refine oret ?_ | refine sem_ret ?_ | refine sem_seq ?_ | refine sreg1 ?_)
  unfold refLevels
  generalize playOf s.piles.length plan (endsOf s th true) = A at *
  generalize playOf s.piles.length plan (endsOf s th false) = B at *
  refine sem_block ?_
  (refine sem_ghost 9 63 1 rfl ?_; simp only [List.length_cons, List.length_nil, Nat.reduceAdd, Nat.zero_add, List.cons_append, List.nil_append])
  refine sem_loop (α := Nat) (fun t => ⟨[(7, slOf intsCs A), (8, slOf intsCs B), (9, .hsl 1 t 1 t), (10, I t)], [.row 26 0 6 [s.cs], .row 63 t 1 (rowF spansCs t (spanRow A B))]⟩)
    (fun t => t ≤ A.length) (fun t => A.length - t) 0 (Nat.zero_le _) ?_ ?_
  · (refine Le.same ?_; simp only [List.forall_mem_cons, List.forall_mem_nil, getE, selE, Nat.reduceBEq, List.not_mem_nil, false_implies, implies_true, and_true, true_and, and_self])
    simp [PileSite.cs]
  · intro t htl
    skip
    repeat' (first | ((first | refine o1 rfl ?_ | refine o0 rfl ?_); intro k hk; simp (disch := omega) only [ev0, sl_cells, simprocAttr, slOf]; refine hk _ _ ?_; clear hk k) | refine ono rfl ?_ | ((first | refine osplitG rfl (fun h => ?_) (fun h => ?_) | refine osplitB rfl (fun h => ?_) (fun h => ?_)) <;> (fail_if_success (simp only [eq_self, reduceCtorEq] at h))) | refine onx ?_ | refine onb ?_ | refine sreg ?_ | refine qT rfl ?_ | refine qF rfl ?_ | refine scondT rfl ?_ | refine scondF rfl ?_ | refine ocondP rfl (fun h => ?_) (fun h => ?_) | refine ocondB rfl (fun h => ?_) (fun h => ?_) | refine scondP rfl (fun h => ?_) (fun h => ?_) | refine scond rfl (fun h => ?_) (fun h => ?_) | refine oskip ?_ | refine oskipb ?_ | refine oret ?_ | refine sem_ret ?_ | refine sem_seq ?_ | refine sreg1 ?_)
    · have htl' : t < A.length := by omega
      have hAt := hAr t (by omega)
      have hBt := hBr t (by omega)
      refine sem_block ?_
      repeat' (first | ((first | refine o1 rfl ?_ | refine o0 rfl ?_); intro k hk; simp (disch := omega) only [ev0, sl_cells, simprocAttr]; refine hk _ _ ?_; clear hk k) | refine ono rfl ?_ | ((first | refine osplitG rfl (fun h => ?_) (fun h => ?_) | refine osplitB rfl (fun h => ?_) (fun h => ?_)) <;> (fail_if_success (simp only [eq_self, reduceCtorEq] at h))) | refine onx ?_ | refine onb ?_ | refine sreg ?_ | refine qT rfl ?_ | refine qF rfl ?_ | refine scondT rfl ?_ | refine scondF rfl ?_ | refine ocondP rfl (fun h => ?_) (fun h => ?_) | refine ocondB rfl (fun h => ?_) (fun h => ?_) | refine scondP rfl (fun h => ?_) (fun h => ?_) | refine scond rfl (fun h => ?_) (fun h => ?_) | refine oskip ?_ | refine oskipb ?_ | refine oret ?_ | refine sem_ret ?_ | refine sem_seq ?_ | refine sreg1 ?_)
      refine sem_block ?_
      (refine sem_ghost 11 53 2 rfl ?_; simp only [List.length_cons, List.length_nil, Nat.reduceAdd, Nat.zero_add, List.cons_append, List.nil_append])
      refine sem_loop (α := Nat) (fun i => ⟨[(7, slOf intsCs A), (8, slOf intsCs B), (9, .hsl 1 t 1 t), (10, I t), (11, .hsl 2 i 2 i), (12, I i)], [.row 26 0 6 [s.cs], .row 63 t 1 (rowF spansCs t (spanRow A B)), .row 53 i 2 (rowF Span.cs i (fun i => ⟨(A.getD t default).getD i default, (B.getD t default).getD i default⟩))]⟩)
        (fun i => i ≤ (A.getD t default).length) (fun i => (A.getD t default).length - i) 0 (Nat.zero_le _) ?_ ?_
      · (refine Le.same ?_; simp only [List.forall_mem_cons, List.forall_mem_nil, getE, selE, Nat.reduceBEq, List.not_mem_nil, false_implies, implies_true, and_true, true_and, and_self])
        simp
      · intro i hil
        have hrow : rowF Span.cs i (fun i => ⟨(A.getD t default).getD i default, (B.getD t default).getD i default⟩) ++ [[AV.int .i64 ((A.getD t default).getD i default), AV.int .i64 ((B.getD t default).getD i default)]] = rowF Span.cs (i + 1) (fun i => ⟨(A.getD t default).getD i default, (B.getD t default).getD i default⟩) := rowF_succ
        skip
        repeat' (first | ((first | refine o1 rfl ?_ | refine o0 rfl ?_); intro k hk; simp (disch := omega) only [ev0, sl_cells, simprocAttr, slOf, intsCs]; refine hk _ _ ?_; clear hk k) | refine ono rfl ?_ | ((first | refine osplitG rfl (fun h => ?_) (fun h => ?_) | refine osplitB rfl (fun h => ?_) (fun h => ?_)) <;> (fail_if_success (simp only [eq_self, reduceCtorEq] at h))) | refine onx ?_ | refine onb ?_ | refine sreg ?_ | refine qT rfl ?_ | refine qF rfl ?_ | refine scondT rfl ?_ | refine scondF rfl ?_ | refine ocondP rfl (fun h => ?_) (fun h => ?_) | refine ocondB rfl (fun h => ?_) (fun h => ?_) | refine scondP rfl (fun h => ?_) (fun h => ?_) | refine scond rfl (fun h => ?_) (fun h => ?_) | refine oskip ?_ | refine oskipb ?_ | refine oret ?_ | refine sem_ret ?_ | refine sem_seq ?_ | refine sreg1 ?_)
        · have hil' : i < (A.getD t default).length := by omega
          refine sem_block ?_
          (refine sem_mgo 17 hmix (by kernel_rfl) ?_; simp only [List.take_succ_cons, List.take_zero, List.drop_succ_cons, List.drop_zero, List.take_nil, List.drop_nil])
          repeat' (first | ((first | apply mop | apply mop0); (case hg => rfl); (case hq => rfl); intro k hk; simp (disch := omega) only [ev0, sl_cells, simprocAttr, slOf, intsCs, intCs]; refine hk _ _ rfl ?_; clear hk k) | (apply mno; (case hg => rfl)) | (apply mbox; (case hx => (simp only [wv, simprocAttr] <;> rfl)); (case hg => rfl); (case hall => rfl); (case hr => rfl); simp only [cellsOf, List.length_cons, List.length_nil, Nat.reduceAdd, Nat.zero_add, List.nil_append, List.cons_append, List.set_cons_zero, List.set_cons_succ, chunks, List.take_succ_cons, List.take_zero, List.drop_succ_cons, List.drop_zero]) | (apply mbldS; (case hb => (simp (disch := omega) only [ev0, sl_cells, simprocAttr] <;> rfl)); (case hg => rfl); (case hr => rfl); simp only [cellsOf, List.length_cons, List.length_nil, Nat.reduceAdd, Nat.zero_add, List.nil_append, List.cons_append, List.set_cons_zero, List.set_cons_succ, chunks, List.take_succ_cons, List.take_zero, List.drop_succ_cons, List.drop_zero]) | ((first | (apply msto (q := 0); (case hq => rfl)) | (apply msto (q := 1); (case hq => rfl)) | (apply msto (q := 2); (case hq => rfl)) | (apply msto (q := 3); (case hq => rfl))); (case hx => (simp only [wv, simprocAttr] <;> rfl)); (case haddr => (simp only [wv, simprocAttr] <;> rfl)); (case hg => rfl); (case hl1 => rfl); (case hl2 => rfl); (case hok => rfl); (case hr => rfl); simp only [cellsOf, List.length_cons, List.length_nil, Nat.reduceAdd, Nat.zero_add, List.nil_append, List.cons_append, List.set_cons_zero, List.set_cons_succ, chunks, List.take_succ_cons, List.take_zero, List.drop_succ_cons, List.drop_zero]) | (apply mnil; simp only [SlotR.fin, List.map_cons, List.map_nil, List.cons_append, List.nil_append, List.append_nil]) | (refine msplit rfl (fun h => ?_) (fun h => ?_) <;> simp only [h] <;> (try simp only [Bool.not_eq_true', Bool.not_eq_false', decide_eq_true_eq, decide_eq_false_iff_not] at h)))
          repeat' (first | ((first | refine o1 rfl ?_ | refine o0 rfl ?_); intro k hk; simp (disch := omega) only [ev0, sl_cells, simprocAttr, rowF_take]; refine hk _ _ ?_; clear hk k) | refine ono rfl ?_ | ((first | refine osplitG rfl (fun h => ?_) (fun h => ?_) | refine osplitB rfl (fun h => ?_) (fun h => ?_)) <;> (fail_if_success (simp only [eq_self, reduceCtorEq] at h))) | refine onx ?_ | refine onb ?_ | refine sreg ?_ | refine qT rfl ?_ | refine qF rfl ?_ | refine scondT rfl ?_ | refine scondF rfl ?_ | refine ocondP rfl (fun h => ?_) (fun h => ?_) | refine ocondB rfl (fun h => ?_) (fun h => ?_) | refine scondP rfl (fun h => ?_) (fun h => ?_) | refine scond rfl (fun h => ?_) (fun h => ?_) | refine oskip ?_ | refine oskipb ?_ | refine oret ?_ | refine sem_ret ?_ | refine sem_seq ?_ | refine sreg1 ?_)
          rw [hrow]
          refine onil (lnext (i + 1) (by omega) (by omega) ?_)
          (refine Le.drop ?_ rfl (by simp) rfl (by simp only [refM, refO, List.all_cons, List.all_nil, Bool.and_true, Bool.true_and, all_rowF (enc := spansCs) (fun _ _ => rfl), all_rowF (enc := Span.cs) (fun _ _ => rfl)]; first | done | rfl) ; simp only [List.forall_mem_cons, List.forall_mem_nil, getE, selE, Nat.reduceBEq, List.not_mem_nil, false_implies, implies_true, and_true, true_and, and_self])
          simp [slOf]
        · have hil' : i = (A.getD t default).length := by omega
          subst hil'
          refine sem_exit ?_
          change sem _ _ _ _ _
          refine sem_frzrow 2 rfl (fun _ => rfl) ?_
          simp only [frzE, frzM, frzO, frzA, frzL, List.map_cons, List.map_nil, List.set_cons_zero, List.set_cons_succ, Nat.reduceEqDiff, if_true, if_false, and_self, Nat.le_refl, reduceIte, frz_rowF (enc := spansCs) (fun _ => rfl), frz_sl, frz_site, slF_sl]
          have hrow2 : rowF spansCs t (spanRow A B) ++ [[slOf Span.cs (spanRow A B t)]] = rowF spansCs (t + 1) (spanRow A B) := rowF_succ
          simp only [spanRow, slOf] at hrow2
          repeat' (first | ((first | refine o1 rfl ?_ | refine o0 rfl ?_); intro k hk; simp (disch := omega) only [ev0, sl_cells, simprocAttr, slOf, rowF_take]; refine hk _ _ ?_; clear hk k) | refine ono rfl ?_ | ((first | refine osplitG rfl (fun h => ?_) (fun h => ?_) | refine osplitB rfl (fun h => ?_) (fun h => ?_)) <;> (fail_if_success (simp only [eq_self, reduceCtorEq] at h))) | refine onx ?_ | refine onb ?_ | refine sreg ?_ | refine qT rfl ?_ | refine qF rfl ?_ | refine scondT rfl ?_ | refine scondF rfl ?_ | refine ocondP rfl (fun h => ?_) (fun h => ?_) | refine ocondB rfl (fun h => ?_) (fun h => ?_) | refine scondP rfl (fun h => ?_) (fun h => ?_) | refine scond rfl (fun h => ?_) (fun h => ?_) | refine oskip ?_ | refine oskipb ?_ | refine oret ?_ | refine sem_ret ?_ | refine sem_seq ?_ | refine sreg1 ?_)
          rw [hrow2]
          refine onil (lnext (t + 1) (by omega) (by omega) ?_)
          (refine Le.drop ?_ rfl (by simp) rfl (by simp only [refM, refO, List.all_cons, List.all_nil, Bool.and_true, Bool.true_and, all_rowF (enc := spansCs) (fun _ _ => rfl)]; first | done | rfl) ; simp only [List.forall_mem_cons, List.forall_mem_nil, getE, selE, Nat.reduceBEq, List.not_mem_nil, false_implies, implies_true, and_true, true_and, and_self])
          simp [PileSite.cs, slOf]
    · have htl' : t = A.length := by omega
      subst htl'
      refine sem_exit ?_
      change sem _ _ _ _ _
      repeat' (first | ((first | refine o1 rfl ?_ | refine o0 rfl ?_); intro k hk; simp (disch := omega) only [ev0, sl_cells, simprocAttr]; refine hk _ _ ?_; clear hk k) | refine ono rfl ?_ | ((first | refine osplitG rfl (fun h => ?_) (fun h => ?_) | refine osplitB rfl (fun h => ?_) (fun h => ?_)) <;> (fail_if_success (simp only [eq_self, reduceCtorEq] at h))) | refine onx ?_ | refine onb ?_ | refine sreg ?_ | refine qT rfl ?_ | refine qF rfl ?_ | refine scondT rfl ?_ | refine scondF rfl ?_ | refine ocondP rfl (fun h => ?_) (fun h => ?_) | refine ocondB rfl (fun h => ?_) (fun h => ?_) | refine scondP rfl (fun h => ?_) (fun h => ?_) | refine scond rfl (fun h => ?_) (fun h => ?_) | refine oskip ?_ | refine oskipb ?_ | refine oret ?_ | refine sem_ret ?_ | refine sem_seq ?_ | refine sreg1 ?_)
      exact ⟨_, rfl, _, rfl, tree_rowF (enc := spansCs) rfl (fun _ => rfl) (fun _ => rfl)⟩
end Go.Proofs.YtibgfmhddcibcaaDoor

set_option linter.unusedVariables false
set_option linter.unusedSimpArgs false
set_option maxRecDepth 8000
set_option maxHeartbeats 1000000
/- Levels are the same as themselves; sites of the reference. -/
namespace Go.Proofs.YtibgfmhddcibcaaDoor
open Go Go.Av Go.Tk
attribute [local irreducible] Holds sem semL ACalls FnIs
variable {G : World → Prop} (hG : ∀ w w', G w → RowKit.Below w.heap.size w w' → G w')
include hG

theorem ref02_SameSpans (a : List (List Span)) (ha : a.length ≤ 1000) (har : ∀ t, t < a.length → (a.getD t default).length ≤ 1000) : Holds Tryd.prog G F.ref02_SameSpans [slOf spansCs a, slOf spansCs a] (B true) := by
  (refine holds_of_sem hG fn_ref02_SameSpans (by simp) fun w0 S0 hG0 D0 => ?_; unfold c_ref02_SameSpans cval enterEnv; simp only [List.zipIdx_cons, List.zipIdx_nil, List.map_cons, List.map_nil, Nat.zero_add, Nat.reduceAdd])
  repeat' (first | ((first | refine o1 rfl ?_ | refine o0 rfl ?_); intro k hk; simp (disch := omega) only [ev0, sl_cells, simprocAttr, slOf, eq_self]; refine hk _ _ ?_; clear hk k) | refine ono rfl ?_ | ((first | refine osplitG rfl (fun h => ?_) (fun h => ?_) | refine osplitB rfl (fun h => ?_) (fun h => ?_)) <;> (fail_if_success (simp only [eq_self, reduceCtorEq] at h))) | refine onx ?_ | refine onb ?_ | refine sreg ?_ | refine qT rfl ?_ | refine qF rfl ?_ | refine scondT rfl ?_ | refine scondF rfl ?_ | refine ocondP rfl (fun h => ?_) (fun h => ?_) | refine ocondB rfl (fun h => ?_) (fun h => ?_) | refine scondP rfl (fun h => ?_) (fun h => ?_) | refine scond rfl (fun h => ?_) (fun h => ?_) | refine oskip ?_ | refine oskipb ?_ | refine oret ?_ | refine sem_ret ?_ | refine sem_seq ?_ | refine sreg1 ?_)
  refine sem_block ?_
  refine sem_loop (α := Nat) (fun t => ⟨[(0, slOf spansCs a), (1, slOf spansCs a), (5, I t)], []⟩) (fun t => t ≤ a.length) (fun t => a.length - t) 0 (Nat.zero_le _) ?_ ?_
  · (refine Le.same ?_; simp only [List.forall_mem_cons, List.forall_mem_nil, getE, selE, Nat.reduceBEq, List.not_mem_nil, false_implies, implies_true, and_true, true_and, and_self])
    simp [slOf]
  · intro t htl
    skip
    repeat' (first | ((first | refine o1 rfl ?_ | refine o0 rfl ?_); intro k hk; simp (disch := omega) only [ev0, sl_cells, simprocAttr, slOf]; refine hk _ _ ?_; clear hk k) | refine ono rfl ?_ | ((first | refine osplitG rfl (fun h => ?_) (fun h => ?_) | refine osplitB rfl (fun h => ?_) (fun h => ?_)) <;> (fail_if_success (simp only [eq_self, reduceCtorEq] at h))) | refine onx ?_ | refine onb ?_ | refine sreg ?_ | refine qT rfl ?_ | refine qF rfl ?_ | refine scondT rfl ?_ | refine scondF rfl ?_ | refine ocondP rfl (fun h => ?_) (fun h => ?_) | refine ocondB rfl (fun h => ?_) (fun h => ?_) | refine scondP rfl (fun h => ?_) (fun h => ?_) | refine scond rfl (fun h => ?_) (fun h => ?_) | refine oskip ?_ | refine oskipb ?_ | refine oret ?_ | refine sem_ret ?_ | refine sem_seq ?_ | refine sreg1 ?_)
    · have htl' : t < a.length := by omega
      have hat := har t htl'
      refine sem_block ?_
      repeat' (first | ((first | refine o1 rfl ?_ | refine o0 rfl ?_); intro k hk; simp (disch := omega) only [ev0, sl_cells, simprocAttr]; refine hk _ _ ?_; clear hk k) | refine ono rfl ?_ | ((first | refine osplitG rfl (fun h => ?_) (fun h => ?_) | refine osplitB rfl (fun h => ?_) (fun h => ?_)) <;> (fail_if_success (simp only [eq_self, reduceCtorEq] at h))) | refine onx ?_ | refine onb ?_ | refine sreg ?_ | refine qT rfl ?_ | refine qF rfl ?_ | refine scondT rfl ?_ | refine scondF rfl ?_ | refine ocondP rfl (fun h => ?_) (fun h => ?_) | refine ocondB rfl (fun h => ?_) (fun h => ?_) | refine scondP rfl (fun h => ?_) (fun h => ?_) | refine scond rfl (fun h => ?_) (fun h => ?_) | refine oskip ?_ | refine oskipb ?_ | refine oret ?_ | refine sem_ret ?_ | refine sem_seq ?_ | refine sreg1 ?_)
      (refine sem_mgo 10 hmix (by kernel_rfl) ?_; simp only [List.take_succ_cons, List.take_zero, List.drop_succ_cons, List.drop_zero, List.take_nil, List.drop_nil])
      repeat' (first | ((first | apply mop | apply mop0); (case hg => rfl); (case hq => rfl); intro k hk; simp (disch := omega) only [ev0, sl_cells, simprocAttr, slOf, spansCs]; refine hk _ _ rfl ?_; clear hk k) | (apply mno; (case hg => rfl)) | (apply mbox; (case hx => (simp only [wv, simprocAttr] <;> rfl)); (case hg => rfl); (case hall => rfl); (case hr => rfl); simp only [cellsOf, List.length_cons, List.length_nil, Nat.reduceAdd, Nat.zero_add, List.nil_append, List.cons_append, List.set_cons_zero, List.set_cons_succ, chunks, List.take_succ_cons, List.take_zero, List.drop_succ_cons, List.drop_zero]) | (apply mbldS; (case hb => (simp (disch := omega) only [ev0, sl_cells, simprocAttr] <;> rfl)); (case hg => rfl); (case hr => rfl); simp only [cellsOf, List.length_cons, List.length_nil, Nat.reduceAdd, Nat.zero_add, List.nil_append, List.cons_append, List.set_cons_zero, List.set_cons_succ, chunks, List.take_succ_cons, List.take_zero, List.drop_succ_cons, List.drop_zero]) | ((first | (apply msto (q := 0); (case hq => rfl)) | (apply msto (q := 1); (case hq => rfl)) | (apply msto (q := 2); (case hq => rfl)) | (apply msto (q := 3); (case hq => rfl))); (case hx => (simp only [wv, simprocAttr] <;> rfl)); (case haddr => (simp only [wv, simprocAttr] <;> rfl)); (case hg => rfl); (case hl1 => rfl); (case hl2 => rfl); (case hok => rfl); (case hr => rfl); simp only [cellsOf, List.length_cons, List.length_nil, Nat.reduceAdd, Nat.zero_add, List.nil_append, List.cons_append, List.set_cons_zero, List.set_cons_succ, chunks, List.take_succ_cons, List.take_zero, List.drop_succ_cons, List.drop_zero]) | (apply mnil; simp only [SlotR.fin, List.map_cons, List.map_nil, List.cons_append, List.nil_append, List.append_nil]) | (refine msplit rfl (fun h => ?_) (fun h => ?_) <;> simp only [h] <;> (try simp only [Bool.not_eq_true', Bool.not_eq_false', decide_eq_true_eq, decide_eq_false_iff_not] at h)))
      repeat' (first | ((first | refine o1 rfl ?_ | refine o0 rfl ?_); intro k hk; simp (disch := omega) only [ev0, sl_cells, simprocAttr, slOf, eq_self]; refine hk _ _ ?_; clear hk k) | refine ono rfl ?_ | ((first | refine osplitG rfl (fun h => ?_) (fun h => ?_) | refine osplitB rfl (fun h => ?_) (fun h => ?_)) <;> (fail_if_success (simp only [eq_self, reduceCtorEq] at h))) | refine onx ?_ | refine onb ?_ | refine sreg ?_ | refine qT rfl ?_ | refine qF rfl ?_ | refine scondT rfl ?_ | refine scondF rfl ?_ | refine ocondP rfl (fun h => ?_) (fun h => ?_) | refine ocondB rfl (fun h => ?_) (fun h => ?_) | refine scondP rfl (fun h => ?_) (fun h => ?_) | refine scond rfl (fun h => ?_) (fun h => ?_) | refine oskip ?_ | refine oskipb ?_ | refine oret ?_ | refine sem_ret ?_ | refine sem_seq ?_ | refine sreg1 ?_)
      refine sem_block ?_
      refine sem_loop (α := Nat) (fun i => ⟨[(0, slOf spansCs a), (1, slOf spansCs a), (5, I t), (6, I i)], []⟩) (fun i => i ≤ (a.getD t default).length) (fun i => (a.getD t default).length - i) 0 (Nat.zero_le _) ?_ ?_
      · (refine Le.same ?_; simp only [List.forall_mem_cons, List.forall_mem_nil, getE, selE, Nat.reduceBEq, List.not_mem_nil, false_implies, implies_true, and_true, true_and, and_self])
        simp [slOf]
      · intro i hil
        skip
        repeat' (first | ((first | refine o1 rfl ?_ | refine o0 rfl ?_); intro k hk; simp (disch := omega) only [ev0, sl_cells, simprocAttr, slOf, spansCs]; refine hk _ _ ?_; clear hk k) | refine ono rfl ?_ | ((first | refine osplitG rfl (fun h => ?_) (fun h => ?_) | refine osplitB rfl (fun h => ?_) (fun h => ?_)) <;> (fail_if_success (simp only [eq_self, reduceCtorEq] at h))) | refine onx ?_ | refine onb ?_ | refine sreg ?_ | refine qT rfl ?_ | refine qF rfl ?_ | refine scondT rfl ?_ | refine scondF rfl ?_ | refine ocondP rfl (fun h => ?_) (fun h => ?_) | refine ocondB rfl (fun h => ?_) (fun h => ?_) | refine scondP rfl (fun h => ?_) (fun h => ?_) | refine scond rfl (fun h => ?_) (fun h => ?_) | refine oskip ?_ | refine oskipb ?_ | refine oret ?_ | refine sem_ret ?_ | refine sem_seq ?_ | refine sreg1 ?_)
        · have hil' : i < (a.getD t default).length := by omega
          refine sem_block ?_
          repeat' (first | ((first | refine o1 rfl ?_ | refine o0 rfl ?_); intro k hk; simp (disch := omega) only [ev0, sl_cells, simprocAttr]; refine hk _ _ ?_; clear hk k) | refine ono rfl ?_ | ((first | refine osplitG rfl (fun h => ?_) (fun h => ?_) | refine osplitB rfl (fun h => ?_) (fun h => ?_)) <;> (fail_if_success (simp only [eq_self, reduceCtorEq] at h))) | refine onx ?_ | refine onb ?_ | refine sreg ?_ | refine qT rfl ?_ | refine qF rfl ?_ | refine scondT rfl ?_ | refine scondF rfl ?_ | refine ocondP rfl (fun h => ?_) (fun h => ?_) | refine ocondB rfl (fun h => ?_) (fun h => ?_) | refine scondP rfl (fun h => ?_) (fun h => ?_) | refine scond rfl (fun h => ?_) (fun h => ?_) | refine oskip ?_ | refine oskipb ?_ | refine oret ?_ | refine sem_ret ?_ | refine sem_seq ?_ | refine sreg1 ?_)
          (refine sem_mgo 14 hmix (by kernel_rfl) ?_; simp only [List.take_succ_cons, List.take_zero, List.drop_succ_cons, List.drop_zero, List.take_nil, List.drop_nil])
          repeat' (first | ((first | apply mop | apply mop0); (case hg => rfl); (case hq => rfl); intro k hk; simp (disch := omega) only [ev0, sl_cells, simprocAttr, slOf, spansCs, Span.cs, eq_self]; refine hk _ _ rfl ?_; clear hk k) | (apply mno; (case hg => rfl)) | (apply mbox; (case hx => (simp only [wv, simprocAttr] <;> rfl)); (case hg => rfl); (case hall => rfl); (case hr => rfl); simp only [cellsOf, List.length_cons, List.length_nil, Nat.reduceAdd, Nat.zero_add, List.nil_append, List.cons_append, List.set_cons_zero, List.set_cons_succ, chunks, List.take_succ_cons, List.take_zero, List.drop_succ_cons, List.drop_zero]) | (apply mbldS; (case hb => (simp (disch := omega) only [ev0, sl_cells, simprocAttr] <;> rfl)); (case hg => rfl); (case hr => rfl); simp only [cellsOf, List.length_cons, List.length_nil, Nat.reduceAdd, Nat.zero_add, List.nil_append, List.cons_append, List.set_cons_zero, List.set_cons_succ, chunks, List.take_succ_cons, List.take_zero, List.drop_succ_cons, List.drop_zero]) | ((first | (apply msto (q := 0); (case hq => rfl)) | (apply msto (q := 1); (case hq => rfl)) | (apply msto (q := 2); (case hq => rfl)) | (apply msto (q := 3); (case hq => rfl))); (case hx => (simp only [wv, simprocAttr] <;> rfl)); (case haddr => (simp only [wv, simprocAttr] <;> rfl)); (case hg => rfl); (case hl1 => rfl); (case hl2 => rfl); (case hok => rfl); (case hr => rfl); simp only [cellsOf, List.length_cons, List.length_nil, Nat.reduceAdd, Nat.zero_add, List.nil_append, List.cons_append, List.set_cons_zero, List.set_cons_succ, chunks, List.take_succ_cons, List.take_zero, List.drop_succ_cons, List.drop_zero]) | (apply mnil; simp only [SlotR.fin, List.map_cons, List.map_nil, List.cons_append, List.nil_append, List.append_nil]) | (refine msplit rfl (fun h => ?_) (fun h => ?_) <;> simp only [h] <;> (try simp only [Bool.not_eq_true', Bool.not_eq_false', decide_eq_true_eq, decide_eq_false_iff_not] at h)))
          repeat' (first | ((first | refine o1 rfl ?_ | refine o0 rfl ?_); intro k hk; simp (disch := omega) only [ev0, sl_cells, simprocAttr, eq_self]; refine hk _ _ ?_; clear hk k) | refine ono rfl ?_ | ((first | refine osplitG rfl (fun h => ?_) (fun h => ?_) | refine osplitB rfl (fun h => ?_) (fun h => ?_)) <;> (fail_if_success (simp only [eq_self, reduceCtorEq] at h))) | refine onx ?_ | refine onb ?_ | refine sreg ?_ | refine qT rfl ?_ | refine qF rfl ?_ | refine scondT rfl ?_ | refine scondF rfl ?_ | refine ocondP rfl (fun h => ?_) (fun h => ?_) | refine ocondB rfl (fun h => ?_) (fun h => ?_) | refine scondP rfl (fun h => ?_) (fun h => ?_) | refine scond rfl (fun h => ?_) (fun h => ?_) | refine oskip ?_ | refine oskipb ?_ | refine oret ?_ | refine sem_ret ?_ | refine sem_seq ?_ | refine sreg1 ?_)
          refine onil (lnext (i + 1) (by omega) (by omega) ?_)
          (refine Le.same ?_; simp only [List.forall_mem_cons, List.forall_mem_nil, getE, selE, Nat.reduceBEq, List.not_mem_nil, false_implies, implies_true, and_true, true_and, and_self])
          simp
        · have hil' : i = (a.getD t default).length := by omega
          refine sem_exit ?_
          change sem _ _ _ _ _
          repeat' (first | ((first | refine o1 rfl ?_ | refine o0 rfl ?_); intro k hk; simp (disch := omega) only [ev0, sl_cells, simprocAttr]; refine hk _ _ ?_; clear hk k) | refine ono rfl ?_ | ((first | refine osplitG rfl (fun h => ?_) (fun h => ?_) | refine osplitB rfl (fun h => ?_) (fun h => ?_)) <;> (fail_if_success (simp only [eq_self, reduceCtorEq] at h))) | refine onx ?_ | refine onb ?_ | refine sreg ?_ | refine qT rfl ?_ | refine qF rfl ?_ | refine scondT rfl ?_ | refine scondF rfl ?_ | refine ocondP rfl (fun h => ?_) (fun h => ?_) | refine ocondB rfl (fun h => ?_) (fun h => ?_) | refine scondP rfl (fun h => ?_) (fun h => ?_) | refine scond rfl (fun h => ?_) (fun h => ?_) | refine oskip ?_ | refine oskipb ?_ | refine oret ?_ | refine sem_ret ?_ | refine sem_seq ?_ | refine sreg1 ?_)
          refine onil (lnext (t + 1) (by omega) (by omega) ?_)
          (refine Le.same ?_; simp only [List.forall_mem_cons, List.forall_mem_nil, getE, selE, Nat.reduceBEq, List.not_mem_nil, false_implies, implies_true, and_true, true_and, and_self])
          simp
    · refine sem_exit ?_
      change sem _ _ _ _ _
      repeat' (first | ((first | refine o1 rfl ?_ | refine o0 rfl ?_); intro k hk; simp (disch := omega) only [ev0, sl_cells, simprocAttr]; refine hk _ _ ?_; clear hk k) | refine ono rfl ?_ | ((first | refine osplitG rfl (fun h => ?_) (fun h => ?_) | refine osplitB rfl (fun h => ?_) (fun h => ?_)) <;> (fail_if_success (simp only [eq_self, reduceCtorEq] at h))) | refine onx ?_ | refine onb ?_ | refine sreg ?_ | refine qT rfl ?_ | refine qF rfl ?_ | refine scondT rfl ?_ | refine scondF rfl ?_ | refine ocondP rfl (fun h => ?_) (fun h => ?_) | refine ocondB rfl (fun h => ?_) (fun h => ?_) | refine scondP rfl (fun h => ?_) (fun h => ?_) | refine scond rfl (fun h => ?_) (fun h => ?_) | refine oskip ?_ | refine oskipb ?_ | refine oret ?_ | refine sem_ret ?_ | refine sem_seq ?_ | refine sreg1 ?_)
      exact ⟨_, rfl, _, rfl, tree_eq rfl rfl⟩

theorem ref02_Site (s : PileSite) (h1 : s.piles.length ≤ 1000) (h2 : s.pairs.length ≤ 1000) (h3 : s.rows.length ≤ 1000) : Holds Tryd.prog G F.ref02_Site [.agg s.cs] (B (decide s.ok)) := by
  have noP : ∀ i, i < s.piles.length → ¬ (s.piles.getD i default).ok → ¬ s.ok := fun i hi h hs => h (by rw [getD_lt hi]; exact hs.2.2.2.2.2.2.2.1 _ (List.getElem_mem _))
  have noQ : ∀ i, i < s.pairs.length → ¬ (s.pairs.getD i default).ok s.piles.length → ¬ s.ok := fun i hi h hs => h (by rw [getD_lt hi]; exact hs.2.2.2.2.2.2.2.2 _ (List.getElem_mem _))
  have noR : ∀ i, i < s.rows.length → ¬ ((s.rows.getD i default).ok ∧ (0 < i → (s.rows.getD (i - 1) default).up (s.rows.getD i default))) → ¬ s.ok := fun i hi h hs => h (by
    have hri : s.rows[i]? = some (s.rows.getD i default) := by rw [getD_lt hi]; exact List.getElem?_eq_getElem hi
    exact ⟨(hs.1 i _ hri).1, fun h0 => (hs.1 i _ hri).2 _ h0 (by rw [getD_lt (show i - 1 < s.rows.length by omega)]; exact List.getElem?_eq_getElem _)⟩)
  (refine holds_of_sem hG fn_ref02_Site (by simp) fun w0 S0 hG0 D0 => ?_; unfold c_ref02_Site cval enterEnv; simp only [List.zipIdx_cons, List.zipIdx_nil, List.map_cons, List.map_nil, Nat.zero_add, Nat.reduceAdd])
  repeat' (first | ((first | refine o1 rfl ?_ | refine o0 rfl ?_); intro k hk; simp (disch := omega) only [ev0, sl_cells, simprocAttr]; refine hk _ _ ?_; clear hk k) | refine ono rfl ?_ | ((first | refine osplitG rfl (fun h => ?_) (fun h => ?_) | refine osplitB rfl (fun h => ?_) (fun h => ?_)) <;> (fail_if_success (simp only [eq_self, reduceCtorEq] at h))) | refine onx ?_ | refine onb ?_ | refine sreg ?_ | refine qT rfl ?_ | refine qF rfl ?_ | refine scondT rfl ?_ | refine scondF rfl ?_ | refine ocondP rfl (fun h => ?_) (fun h => ?_) | refine ocondB rfl (fun h => ?_) (fun h => ?_) | refine scondP rfl (fun h => ?_) (fun h => ?_) | refine scond rfl (fun h => ?_) (fun h => ?_) | refine oskip ?_ | refine oskipb ?_ | refine oret ?_ | refine sem_ret ?_ | refine sem_seq ?_ | refine sreg1 ?_)
  refine sem_block ?_
  refine sem_loop (α := Nat) (fun i => ⟨[(1, .ptr 0 0 6 0 0), (3, I i)], [.row 26 0 6 [s.cs]]⟩) (fun i => i ≤ s.piles.length ∧ ∀ j, j < i → (s.piles.getD j default).ok) (fun i => s.piles.length - i) 0 ⟨Nat.zero_le _, fun j hj => absurd hj (Nat.not_lt_zero _)⟩ ?_ ?_
  · (refine Le.same ?_; simp only [List.forall_mem_cons, List.forall_mem_nil, getE, selE, Nat.reduceBEq, List.not_mem_nil, false_implies, implies_true, and_true, true_and, and_self])
    simp [PileSite.cs]
  · rintro i ⟨hi, hallP⟩
    skip
    repeat' (first | ((first | refine o1 rfl ?_ | refine o0 rfl ?_); intro k hk; simp (disch := omega) only [ev0, sl_cells, simprocAttr, PileSite.cs, slOf]; refine hk _ _ ?_; clear hk k) | refine ono rfl ?_ | ((first | refine osplitG rfl (fun h => ?_) (fun h => ?_) | refine osplitB rfl (fun h => ?_) (fun h => ?_)) <;> (fail_if_success (simp only [eq_self, reduceCtorEq] at h))) | refine onx ?_ | refine onb ?_ | refine sreg ?_ | refine qT rfl ?_ | refine qF rfl ?_ | refine scondT rfl ?_ | refine scondF rfl ?_ | refine ocondP rfl (fun h => ?_) (fun h => ?_) | refine ocondB rfl (fun h => ?_) (fun h => ?_) | refine scondP rfl (fun h => ?_) (fun h => ?_) | refine scond rfl (fun h => ?_) (fun h => ?_) | refine oskip ?_ | refine oskipb ?_ | refine oret ?_ | refine sem_ret ?_ | refine sem_seq ?_ | refine sreg1 ?_)
    · have hi' : i < s.piles.length := by omega
      refine sem_block ?_
      repeat' (first | ((first | refine o1 rfl ?_ | refine o0 rfl ?_); intro k hk; simp (disch := omega) only [ev0, sl_cells, simprocAttr, PileSite.cs, slOf, Pile.cs]; refine hk _ _ ?_; clear hk k) | refine ono rfl ?_ | (apply ocall; (case he => (simp only [ev0, sl_cells, simprocAttr] <;> rfl)); (case hc => first | exact ref02_Pile hG (s.piles.getD i default)); (case ht => rfl); (case hg => rfl)) | ((first | refine osplitG rfl (fun h => ?_) (fun h => ?_) | refine osplitB rfl (fun h => ?_) (fun h => ?_)) <;> (fail_if_success (simp only [eq_self, reduceCtorEq] at h))) | refine onx ?_ | refine onb ?_ | refine sreg ?_ | refine qT rfl ?_ | refine qF rfl ?_ | refine scondT rfl ?_ | refine scondF rfl ?_ | refine ocondP rfl (fun h => ?_) (fun h => ?_) | refine ocondB rfl (fun h => ?_) (fun h => ?_) | refine scondP rfl (fun h => ?_) (fun h => ?_) | refine scond rfl (fun h => ?_) (fun h => ?_) | refine oskip ?_ | refine oskipb ?_ | refine oret ?_ | refine sem_ret ?_ | refine sem_seq ?_ | refine sreg1 ?_)
      · exact ⟨_, rfl, _, rfl, tree_eq rfl (by
          simp only [getE, selE, Nat.reduceBEq]
          refine congrArg AV.bool (decide_eq_false (noP i hi' fun hh => ?_)).symm
          simp only [decide_eq_true hh, Bool.not_true, Bool.false_eq_true] at h)⟩
      · refine onil (lnext (i + 1) ⟨by omega, fun j hj => ?_⟩ (by omega) ?_)
        · by_cases e : j = i
          · subst e; simp only [Bool.not_eq_false', decide_eq_true_eq] at h; exact h
          · exact hallP j (by omega)
        · (refine Le.same ?_; simp only [List.forall_mem_cons, List.forall_mem_nil, getE, selE, Nat.reduceBEq, List.not_mem_nil, false_implies, implies_true, and_true, true_and, and_self])
          simp
    · refine sem_exit ?_
      change sem _ _ _ _ _
      repeat' (first | ((first | refine o1 rfl ?_ | refine o0 rfl ?_); intro k hk; simp (disch := omega) only [ev0, sl_cells, simprocAttr]; refine hk _ _ ?_; clear hk k) | refine ono rfl ?_ | ((first | refine osplitG rfl (fun h => ?_) (fun h => ?_) | refine osplitB rfl (fun h => ?_) (fun h => ?_)) <;> (fail_if_success (simp only [eq_self, reduceCtorEq] at h))) | refine onx ?_ | refine onb ?_ | refine sreg ?_ | refine qT rfl ?_ | refine qF rfl ?_ | refine scondT rfl ?_ | refine scondF rfl ?_ | refine ocondP rfl (fun h => ?_) (fun h => ?_) | refine ocondB rfl (fun h => ?_) (fun h => ?_) | refine scondP rfl (fun h => ?_) (fun h => ?_) | refine scond rfl (fun h => ?_) (fun h => ?_) | refine oskip ?_ | refine oskipb ?_ | refine oret ?_ | refine sem_ret ?_ | refine sem_seq ?_ | refine sreg1 ?_)
      refine sem_block ?_
      refine sem_loop (α := Nat) (fun i => ⟨[(1, .ptr 0 0 6 0 0), (4, I i)], [.row 26 0 6 [s.cs]]⟩) (fun i => i ≤ s.pairs.length ∧ ∀ j, j < i → (s.pairs.getD j default).ok s.piles.length) (fun i => s.pairs.length - i) 0 ⟨Nat.zero_le _, fun j hj => absurd hj (Nat.not_lt_zero _)⟩ ?_ ?_
      · (refine Le.same ?_; simp only [List.forall_mem_cons, List.forall_mem_nil, getE, selE, Nat.reduceBEq, List.not_mem_nil, false_implies, implies_true, and_true, true_and, and_self])
        simp [PileSite.cs]
      · rintro q ⟨hq, hallQ⟩
        skip
        repeat' (first | ((first | refine o1 rfl ?_ | refine o0 rfl ?_); intro k hk; simp (disch := omega) only [ev0, sl_cells, simprocAttr, PileSite.cs, slOf]; refine hk _ _ ?_; clear hk k) | refine ono rfl ?_ | ((first | refine osplitG rfl (fun h => ?_) (fun h => ?_) | refine osplitB rfl (fun h => ?_) (fun h => ?_)) <;> (fail_if_success (simp only [eq_self, reduceCtorEq] at h))) | refine onx ?_ | refine onb ?_ | refine sreg ?_ | refine qT rfl ?_ | refine qF rfl ?_ | refine scondT rfl ?_ | refine scondF rfl ?_ | refine ocondP rfl (fun h => ?_) (fun h => ?_) | refine ocondB rfl (fun h => ?_) (fun h => ?_) | refine scondP rfl (fun h => ?_) (fun h => ?_) | refine scond rfl (fun h => ?_) (fun h => ?_) | refine oskip ?_ | refine oskipb ?_ | refine oret ?_ | refine sem_ret ?_ | refine sem_seq ?_ | refine sreg1 ?_)
        · have hq' : q < s.pairs.length := by omega
          refine sem_block ?_
          repeat' (first | ((first | refine o1 rfl ?_ | refine o0 rfl ?_); intro k hk; simp (disch := omega) only [ev0, sl_cells, simprocAttr, PileSite.cs, slOf, PilePair.cs]; refine hk _ _ ?_; clear hk k) | refine ono rfl ?_ | (apply ocall; (case he => (simp only [ev0, sl_cells, simprocAttr] <;> rfl)); (case hc => first | exact ref02_in hG _ _ _); (case ht => rfl); (case hg => rfl)) | ((first | refine osplitG rfl (fun h => ?_) (fun h => ?_) | refine osplitB rfl (fun h => ?_) (fun h => ?_)) <;> (fail_if_success (simp only [eq_self, reduceCtorEq] at h))) | refine onx ?_ | refine onb ?_ | refine sreg ?_ | refine qT rfl ?_ | refine qF rfl ?_ | refine scondT rfl ?_ | refine scondF rfl ?_ | refine ocondP rfl (fun h => ?_) (fun h => ?_) | refine ocondB rfl (fun h => ?_) (fun h => ?_) | refine scondP rfl (fun h => ?_) (fun h => ?_) | refine scond rfl (fun h => ?_) (fun h => ?_) | refine oskip ?_ | refine oskipb ?_ | refine oret ?_ | refine sem_ret ?_ | refine sem_seq ?_ | refine sreg1 ?_)
          all_goals first
            | exact ⟨_, rfl, _, rfl, tree_eq rfl (by
                simp only [getE, selE, Nat.reduceBEq]
                refine congrArg AV.bool (decide_eq_false (noQ q hq' fun hh => ?_)).symm
                simp only [PilePair.ok, inI, Bool.not_eq_true', Bool.not_eq_false', decide_eq_true_eq, decide_eq_false_iff_not] at *
                omega)⟩
            | (refine onil (lnext (q + 1) ⟨by omega, fun j hj => ?_⟩ (by omega) ?_)
               · by_cases e : j = q
                 · subst e
                   simp only [PilePair.ok, inI, Bool.not_eq_true', Bool.not_eq_false', decide_eq_true_eq, decide_eq_false_iff_not] at *
                   omega
                 · exact hallQ j (by omega)
               · (refine Le.drop ?_ rfl (by simp) rfl rfl; simp only [List.forall_mem_cons, List.forall_mem_nil, getE, selE, Nat.reduceBEq, List.not_mem_nil, false_implies, implies_true, and_true, true_and, and_self])
                 simp [PileSite.cs, slOf])
            | trace_state
        · refine sem_exit ?_
          change sem _ _ _ _ _
          repeat' (first | ((first | refine o1 rfl ?_ | refine o0 rfl ?_); intro k hk; simp (disch := omega) only [ev0, sl_cells, simprocAttr]; refine hk _ _ ?_; clear hk k) | refine ono rfl ?_ | ((first | refine osplitG rfl (fun h => ?_) (fun h => ?_) | refine osplitB rfl (fun h => ?_) (fun h => ?_)) <;> (fail_if_success (simp only [eq_self, reduceCtorEq] at h))) | refine onx ?_ | refine onb ?_ | refine sreg ?_ | refine qT rfl ?_ | refine qF rfl ?_ | refine scondT rfl ?_ | refine scondF rfl ?_ | refine ocondP rfl (fun h => ?_) (fun h => ?_) | refine ocondB rfl (fun h => ?_) (fun h => ?_) | refine scondP rfl (fun h => ?_) (fun h => ?_) | refine scond rfl (fun h => ?_) (fun h => ?_) | refine oskip ?_ | refine oskipb ?_ | refine oret ?_ | refine sem_ret ?_ | refine sem_seq ?_ | refine sreg1 ?_)
          refine sem_block ?_
          refine sem_loop (α := Nat) (fun i => ⟨[(1, .ptr 0 0 6 0 0), (6, I i)], [.row 26 0 6 [s.cs]]⟩) (fun i => i ≤ s.rows.length ∧ ∀ j, j < i → ∀ r, s.rows[j]? = some r → r.ok ∧ ∀ o, 0 < j → s.rows[j - 1]? = some o → o.up r) (fun i => s.rows.length - i) 0 ⟨Nat.zero_le _, fun j hj => absurd hj (Nat.not_lt_zero _)⟩ ?_ ?_
          · (refine Le.same ?_; simp only [List.forall_mem_cons, List.forall_mem_nil, getE, selE, Nat.reduceBEq, List.not_mem_nil, false_implies, implies_true, and_true, true_and, and_self])
            simp [PileSite.cs]
          · rintro r ⟨hr, hallR⟩
            skip
            repeat' (first | ((first | refine o1 rfl ?_ | refine o0 rfl ?_); intro k hk; simp (disch := omega) only [ev0, sl_cells, simprocAttr, PileSite.cs, slOf]; refine hk _ _ ?_; clear hk k) | refine ono rfl ?_ | ((first | refine osplitG rfl (fun h => ?_) (fun h => ?_) | refine osplitB rfl (fun h => ?_) (fun h => ?_)) <;> (fail_if_success (simp only [eq_self, reduceCtorEq] at h))) | refine onx ?_ | refine onb ?_ | refine sreg ?_ | refine qT rfl ?_ | refine qF rfl ?_ | refine scondT rfl ?_ | refine scondF rfl ?_ | refine ocondP rfl (fun h => ?_) (fun h => ?_) | refine ocondB rfl (fun h => ?_) (fun h => ?_) | refine scondP rfl (fun h => ?_) (fun h => ?_) | refine scond rfl (fun h => ?_) (fun h => ?_) | refine oskip ?_ | refine oskipb ?_ | refine oret ?_ | refine sem_ret ?_ | refine sem_seq ?_ | refine sreg1 ?_)
            · have hr' : r < s.rows.length := by omega
              have hi1 : ((r : Int) - 1).toNat = r - 1 := by omega
              have hstep : ((s.rows.getD r default).ok ∧ (0 < r → (s.rows.getD (r - 1) default).up (s.rows.getD r default))) → ∀ j, j < r + 1 → ∀ q, s.rows[j]? = some q → q.ok ∧ ∀ o, 0 < j → s.rows[j - 1]? = some o → o.up q := by
                intro h j hj q hq
                by_cases hji : j = r
                · subst hji
                  have e : s.rows.getD j default = q := by simp [List.getD, hq]
                  rw [e] at h
                  refine ⟨h.1, fun o h0 ho => ?_⟩
                  have e : s.rows.getD (j - 1) default = o := by simp [List.getD, ho]
                  rw [← e]; exact h.2 h0
                · exact hallR j (by omega) q hq
              refine sem_block ?_
              repeat' (first | ((first | refine o1 rfl ?_ | refine o0 rfl ?_); intro k hk; simp (disch := omega) only [ev0, sl_cells, simprocAttr, PileSite.cs, slOf, PileRow.cs]; refine hk _ _ ?_; clear hk k) | refine ono rfl ?_ | (apply ocall; (case he => (simp only [ev0, sl_cells, simprocAttr] <;> rfl)); (case hc => first | exact ref02_in hG _ _ _); (case ht => rfl); (case hg => rfl)) | ((first | refine osplitG rfl (fun h => ?_) (fun h => ?_) | refine osplitB rfl (fun h => ?_) (fun h => ?_)) <;> (fail_if_success (simp only [eq_self, reduceCtorEq] at h))) | refine onx ?_ | refine onb ?_ | refine sreg ?_ | refine qT rfl ?_ | refine qF rfl ?_ | refine scondT rfl ?_ | refine scondF rfl ?_ | refine ocondP rfl (fun h => ?_) (fun h => ?_) | refine ocondB rfl (fun h => ?_) (fun h => ?_) | refine scondP rfl (fun h => ?_) (fun h => ?_) | refine scond rfl (fun h => ?_) (fun h => ?_) | refine oskip ?_ | refine oskipb ?_ | refine oret ?_ | refine sem_ret ?_ | refine sem_seq ?_ | refine sreg1 ?_)
              all_goals first
                | exact ⟨_, rfl, _, rfl, tree_eq rfl (by
                    simp only [getE, selE, Nat.reduceBEq]
                    refine congrArg AV.bool (decide_eq_false (noR r hr' fun hh => ?_)).symm
                    simp only [PileRow.ok, PileRow.up, Span.in, inI, Bool.not_eq_true', Bool.not_eq_false', decide_eq_true_eq, decide_eq_false_iff_not] at *
                    omega)⟩
                | skip
              (refine sem_mgo 39 hmix (by kernel_rfl) ?_; simp only [List.take_succ_cons, List.take_zero, List.drop_succ_cons, List.drop_zero, List.take_nil, List.drop_nil])
              repeat' (first | ((first | apply mop | apply mop0); (case hg => rfl); (case hq => rfl); intro k hk; simp (disch := omega) only [ev0, sl_cells, simprocAttr, PileSite.cs, slOf, PileRow.cs, hi1]; refine hk _ _ rfl ?_; clear hk k) | (apply mno; (case hg => rfl)) | (apply mbox; (case hx => (simp only [wv, simprocAttr] <;> rfl)); (case hg => rfl); (case hall => rfl); (case hr => rfl); simp only [cellsOf, List.length_cons, List.length_nil, Nat.reduceAdd, Nat.zero_add, List.nil_append, List.cons_append, List.set_cons_zero, List.set_cons_succ, chunks, List.take_succ_cons, List.take_zero, List.drop_succ_cons, List.drop_zero]) | (apply mbldS; (case hb => (simp (disch := omega) only [ev0, sl_cells, simprocAttr] <;> rfl)); (case hg => rfl); (case hr => rfl); simp only [cellsOf, List.length_cons, List.length_nil, Nat.reduceAdd, Nat.zero_add, List.nil_append, List.cons_append, List.set_cons_zero, List.set_cons_succ, chunks, List.take_succ_cons, List.take_zero, List.drop_succ_cons, List.drop_zero]) | ((first | (apply msto (q := 0); (case hq => rfl)) | (apply msto (q := 1); (case hq => rfl)) | (apply msto (q := 2); (case hq => rfl)) | (apply msto (q := 3); (case hq => rfl))); (case hx => (simp only [wv, simprocAttr] <;> rfl)); (case haddr => (simp only [wv, simprocAttr] <;> rfl)); (case hg => rfl); (case hl1 => rfl); (case hl2 => rfl); (case hok => rfl); (case hr => rfl); simp only [cellsOf, List.length_cons, List.length_nil, Nat.reduceAdd, Nat.zero_add, List.nil_append, List.cons_append, List.set_cons_zero, List.set_cons_succ, chunks, List.take_succ_cons, List.take_zero, List.drop_succ_cons, List.drop_zero]) | (apply mnil; simp only [SlotR.fin, List.map_cons, List.map_nil, List.cons_append, List.nil_append, List.append_nil]) | (refine msplit rfl (fun h => ?_) (fun h => ?_) <;> simp only [h] <;> (try simp only [Bool.not_eq_true', Bool.not_eq_false', decide_eq_true_eq, decide_eq_false_iff_not] at h)))
              all_goals repeat' (first | ((first | refine o1 rfl ?_ | refine o0 rfl ?_); intro k hk; simp (disch := omega) only [ev0, sl_cells, simprocAttr]; refine hk _ _ ?_; clear hk k) | refine ono rfl ?_ | ((first | refine osplitG rfl (fun h => ?_) (fun h => ?_) | refine osplitB rfl (fun h => ?_) (fun h => ?_)) <;> (fail_if_success (simp only [eq_self, reduceCtorEq] at h))) | refine onx ?_ | refine onb ?_ | refine sreg ?_ | refine qT rfl ?_ | refine qF rfl ?_ | refine scondT rfl ?_ | refine scondF rfl ?_ | refine ocondP rfl (fun h => ?_) (fun h => ?_) | refine ocondB rfl (fun h => ?_) (fun h => ?_) | refine scondP rfl (fun h => ?_) (fun h => ?_) | refine scond rfl (fun h => ?_) (fun h => ?_) | refine oskip ?_ | refine oskipb ?_ | refine oret ?_ | refine sem_ret ?_ | refine sem_seq ?_ | refine sreg1 ?_)
              all_goals first
                | exact ⟨_, rfl, _, rfl, tree_eq rfl (by
                    simp only [getE, selE, Nat.reduceBEq]
                    refine congrArg AV.bool (decide_eq_false (noR r hr' fun hh => ?_)).symm
                    simp only [PileRow.ok, PileRow.up, Span.in, inI, Bool.not_eq_true', Bool.not_eq_false', decide_eq_true_eq, decide_eq_false_iff_not] at *
                    omega)⟩
                | (refine onil (lnext (r + 1) ⟨by omega, hstep (by
                    simp only [PileRow.ok, PileRow.up, Span.in, inI, Bool.not_eq_true', Bool.not_eq_false', decide_eq_true_eq, decide_eq_false_iff_not] at *
                    omega)⟩ (by omega) ?_); (refine Le.drop ?_ rfl (by simp) rfl rfl; simp only [List.forall_mem_cons, List.forall_mem_nil, getE, selE, Nat.reduceBEq, List.not_mem_nil, false_implies, implies_true, and_true, true_and, and_self]); simp [PileSite.cs, slOf])
                | trace_state
            · refine sem_exit ?_
              change sem _ _ _ _ _
              have hP : ∀ p ∈ s.piles, p.ok := fun p hp => by
                obtain ⟨j, hj⟩ := List.getElem?_of_mem hp
                have hlt := (List.getElem?_eq_some_iff.1 hj).1
                have := hallP j (by omega)
                rw [getD_lt hlt, (List.getElem?_eq_some_iff.1 hj).2] at this
                exact this
              have hQ : ∀ p ∈ s.pairs, p.ok s.piles.length := fun p hp => by
                obtain ⟨j, hj⟩ := List.getElem?_of_mem hp
                have hlt := (List.getElem?_eq_some_iff.1 hj).1
                have := hallQ j (by omega)
                rw [getD_lt hlt, (List.getElem?_eq_some_iff.1 hj).2] at this
                exact this
              have hR : rowsOk s.rows := fun j q hj => hallR j (by have := (List.getElem?_eq_some_iff.1 hj).1; omega) q hj
              have hok : s.ok ↔ (1 ≤ (s.piles.length : Int) ∧ (s.piles.length : Int) ≤ 6) ∧ (s.pairs.length : Int) ≤ 10 ∧ (1 ≤ (s.rows.length : Int) ∧ (s.rows.length : Int) ≤ 6) ∧ (0 ≤ s.may ∧ s.may ≤ 1000) ∧ (0 ≤ s.sink ∧ s.sink ≤ 100000) ∧ (0 ≤ s.tilt ∧ s.tilt ≤ 100000) := by
                unfold PileSite.ok
                simp only [inI]
                constructor
                · rintro ⟨-, a, b, c, d, e, f, -, -⟩
                  exact ⟨by omega, by omega, by omega, d, e, f⟩
                · rintro ⟨a, b, c, d, e, f⟩
                  exact ⟨hR, by omega, by omega, by omega, d, e, f, hP, hQ⟩
              clear hallR hallQ hallP noP noQ noR
              repeat' (first | ((first | refine o1 rfl ?_ | refine o0 rfl ?_); intro k hk; simp (disch := omega) only [ev0, sl_cells, simprocAttr, PileSite.cs, slOf]; refine hk _ _ ?_; clear hk k) | refine ono rfl ?_ | (apply ocall; (case he => (simp only [ev0, sl_cells, simprocAttr] <;> rfl)); (case hc => first | exact ref02_in hG _ _ _); (case ht => rfl); (case hg => rfl)) | ((first | refine osplitG rfl (fun h => ?_) (fun h => ?_) | refine osplitB rfl (fun h => ?_) (fun h => ?_)) <;> (fail_if_success (simp only [eq_self, reduceCtorEq] at h))) | refine onx ?_ | refine onb ?_ | refine sreg ?_ | refine qT rfl ?_ | refine qF rfl ?_ | refine scondT rfl ?_ | refine scondF rfl ?_ | refine ocondP rfl (fun h => ?_) (fun h => ?_) | refine ocondB rfl (fun h => ?_) (fun h => ?_) | refine scondP rfl (fun h => ?_) (fun h => ?_) | refine scond rfl (fun h => ?_) (fun h => ?_) | refine oskip ?_ | refine oskipb ?_ | refine oret ?_ | refine sem_ret ?_ | refine sem_seq ?_ | refine sreg1 ?_)
              all_goals exact ⟨_, rfl, _, rfl, tree_eq rfl (by
                simp only [getE, selE, Nat.reduceBEq]
                refine congrArg AV.bool ?_
                rw [Bool.eq_iff_iff, show (decide s.ok = true) = s.ok from decide_eq_true_eq, hok]
                clear hok
                try simp only [Bool.not_eq_true', Bool.not_eq_false', decide_eq_true_eq] at *
                try simp only [*, true_and, and_true, false_and, and_false, and_self, iff_self, Bool.false_eq_true, Bool.true_eq_false, iff_true, true_iff, not_false_eq_true])⟩
end Go.Proofs.YtibgfmhddcibcaaDoor

set_option linter.unusedVariables false
set_option linter.unusedSimpArgs false
set_option maxRecDepth 8000
set_option maxHeartbeats 1000000
/- The program's levels. -/
namespace Go.Tk
open Go Go.Av
set_option linter.unusedVariables false in
theorem rowF_setS (n : Nat) (f : Nat → Span) (i : Nat) (a b : Int) : (rowF Span.cs n f).set i [AV.int .i64 a, AV.int .i64 b] = rowF Span.cs n (fun k => if k = i then ⟨a, b⟩ else f k) := rowF_set (⟨a, b⟩ : Span)
section
variable {α : Type} [Inhabited α] {enc : α → List AV} {n : Nat} {f : Nat → α}
theorem semL_frzrow {K : Ctx} {F : Fcx} {Q : AExit → St → Prop} {l : List SOper} {env : List (Nat × AV)} {μ : List AObj} (id : Nat) {e g sz : Nat} (ho : μ[id]? = some (.row e g sz (rowF enc n f))) (ht : ∀ a, treeL (enc a) = true)
    (h : semL K F l ⟨frzE id g sz n (slF enc n f) env, frzM id g sz n (slF enc n f) μ⟩ Q) : semL K F l ⟨env, μ⟩ Q := by
  have hk : ∀ (i : Nat) cs, (rowF enc n f)[i]? = some cs → i < n ∧ cs = enc (f i) := fun i cs hi => by
    have hlt : i < n := by have := (List.getElem?_eq_some_iff.1 hi).1; rw [rowF_len] at this; exact this
    rw [rowF_get hlt] at hi; cases hi; exact ⟨hlt, rfl⟩
  refine semL_frz (σ := ⟨env, μ⟩) id n (slF enc n f) ho rowF_len (fun i cs hi => ?_) (fun i cs hi => ?_) h
  · obtain ⟨hlt, rfl⟩ := hk i cs hi
    unfold slF; rw [getD_range hlt]
  · obtain ⟨hlt, rfl⟩ := hk i cs hi
    exact ht _
end
def headS (s : PileSite) (th : List (List Span)) (pl : Nat → Int) (y k : Nat) : Span := ⟨headAt (lowOf s th) pl y k, headAt (highOf s th) pl y k⟩
def sunkS (s : PileSite) (th : List (List Span)) (pl : Nat → Int) (y k : Nat) : Span := ⟨headAt (lowOf s th) pl y k - lowOf s th y k, headAt (highOf s th) pl y k - highOf s th y k⟩
def levRow (s : PileSite) (th : List (List Span)) (pl : Nat → Int) (y : Nat) : List Span := (List.range s.piles.length).map (sunkS s th pl y)
def levOf (s : PileSite) (th : List (List Span)) (plan : List Int) : List (List Span) := (List.range plan.length).map (levRow s th fun y => plan.getD y default)
def part2 : Nat → Span → Int → Int → Span
  | 0, h, _, _ => h
  | 1, h, a, _ => ⟨h.low - a, h.high⟩
  | _, h, a, b => ⟨h.low - a, h.high - b⟩
theorem lowOf_bound {s : PileSite} (hs : s.ok) (th : List (List Span)) (y k : Nat) : 0 ≤ lowOf s th y k ∧ lowOf s th y k ≤ 1000 := by
  have h := (rowOf_ok hs (s.piles.getD k default) ((th.getD y default).getD k default).high (s.piles.getD k default).load.high).2
  unfold lowOf; simp only [Span.in] at h; omega
theorem highOf_bound {s : PileSite} (hs : s.ok) (th : List (List Span)) (y k : Nat) : 0 ≤ highOf s th y k ∧ highOf s th y k ≤ 1000 := by
  have h := (rowOf_ok hs (s.piles.getD k default) ((th.getD y default).getD k default).low (s.piles.getD k default).load.low).2
  unfold highOf; simp only [Span.in] at h; omega
theorem headAt_congr {st st' : Nat → Nat → Int} {pl : Nat → Int} {k : Nat} : ∀ y, (∀ z, z < y → st z k = st' z k) → headAt st pl y k = headAt st' pl y k
  | 0, _ => rfl
  | y + 1, h => by
    simp only [headAt, headAt_congr y (fun z hz => h z (by omega)), h y (by omega)]
theorem lev_ref {s : PileSite} {th : List (List Span)} {plan : List Int} (hp : plan.length = th.length) : levOf s th plan = refLevels s th plan := by
  have hst : ∀ most y k, y < th.length → k < s.piles.length → stOf (endsOf s th most) y k = (endT s (s.piles.getD k default) ((th.getD y default).getD k default) most).settle := fun most y k hy hk => by
    unfold stOf
    rw [ends_row hy]
    unfold endRow
    rw [getD_range hk]
  unfold levOf refLevels zipSpans
  rw [play_len, ends_len, hp]
  refine List.map_congr_left fun y hy => ?_
  have hy := List.mem_range.1 hy
  unfold levRow spanRow
  rw [play_row (by rw [ends_len]; exact hy), play_row (by rw [ends_len]; exact hy)]
  have hl : ∀ most, (playRow s.piles.length (stOf (endsOf s th most)) (fun y => plan.getD y default) y).length = s.piles.length := fun most => by simp [playRow]
  rw [hl]
  refine List.map_congr_left fun k hk => ?_
  have hk := List.mem_range.1 hk
  unfold playRow sunkS
  have e1 : headAt (stOf (endsOf s th true)) (fun y => plan.getD y default) y k = headAt (lowOf s th) (fun y => plan.getD y default) y k := headAt_congr y (fun z hz => by rw [hst true z k (by omega) hk]; rfl)
  have e2 : headAt (stOf (endsOf s th false)) (fun y => plan.getD y default) y k = headAt (highOf s th) (fun y => plan.getD y default) y k := headAt_congr y (fun z hz => by rw [hst false z k (by omega) hk]; rfl)
  rw [getD_range hk, getD_range hk, hst true y k hy hk, hst false y k hy hk, e1, e2]
  rfl
theorem two_pow_mono {n k : Nat} (h : n ≤ k) : (2 : Int) ^ n ≤ 2 ^ k := by
  have := Nat.pow_le_pow_right (show 0 < 2 by decide) h
  exact_mod_cast this
theorem bit_lt {bits : Int} {n k : Nat} (h0 : 0 ≤ bits) (h : bits ≤ 2 ^ n - 1) (hk : hasBit bits k = true) : k < n := by
  have hk' : bits / 2 ^ k % 2 = 1 := of_decide_eq_true hk
  refine Nat.lt_of_not_le fun hnk => ?_
  have h1 : (2 : Int) ^ n ≤ 2 ^ k := two_pow_mono hnk
  rw [Int.ediv_eq_zero_of_lt h0 (by omega)] at hk'
  simp at hk'
end Go.Tk
namespace Go.Proofs.YtibgfmhddcibcaaDoor
open Go Go.Av Go.Tk
attribute [local irreducible] Holds sem semL ACalls FnIs
variable {G : World → Prop} (hG : ∀ w w', G w → RowKit.Below w.heap.size w w' → G w')
include hG

omit hG in
/-- A clone of a row that is owned: a new one. -/
theorem clone_own {K : Ctx} (hP : K.P = Tryd.prog) {μ : List AObj} {id g n : Nat} {f : Nat → Span} (h0 : 0 < n) (hn : n ≤ 1000) (hμ : μ[id]? = some (.row 53 g 2 (rowF Span.cs n f))) :
    ACalls K F.slices_Clone_apiSpan [.hsl id g 2 n] μ fun ae μ' => ae = .ret (.hsl μ.length 1 2 n) ∧ μ' = μ ++ [.row 53 1 2 (rowF Span.cs n f)] := by
  have hlt := (List.getElem?_eq_some_iff.1 hμ).1
  have h1 : (μ ++ [AObj.row 53 0 2 []])[id]? = some (.row 53 g 2 (rowF Span.cs n f)) := by rw [List.getElem?_append_left hlt]; exact hμ
  have h2 : (μ ++ [AObj.row 53 0 2 []])[μ.length]? = some (.row 53 0 2 []) := by simp
  have h3 : (μ ++ [AObj.row 53 0 2 []]).set μ.length (.row 53 1 2 (rowF Span.cs n f)) = μ ++ [.row 53 1 2 (rowF Span.cs n f)] := by rw [List.set_append]; simp
  have h4 : ((rowF Span.cs n f)).length = n := rowF_len
  have hne : ¬ n = 0 := by omega
  refine acalls_of_sem (by rw [hP]; exact fn_slices_Clone_apiSpan) (by simp) fun D => ?_
  unfold c_slices_Clone_apiSpan cval enterEnv
  simp only [List.zipIdx_cons, List.zipIdx_nil, List.map_cons, List.map_nil, Nat.zero_add, Nat.reduceAdd]
  repeat' (first | ((first | refine o1 rfl ?_ | refine o0 rfl ?_); intro k hk; simp (disch := omega) only [ev0, sl_cells, simprocAttr, hμ, h1, h2, h3, h4, rowF_take, hne]; refine hk _ _ ?_; clear hk k) | refine ono rfl ?_ | ((first | refine osplitG rfl (fun h => ?_) (fun h => ?_) | refine osplitB rfl (fun h => ?_) (fun h => ?_)) <;> (fail_if_success (simp only [eq_self, reduceCtorEq] at h))) | refine onx ?_ | refine onb ?_ | refine sreg ?_ | refine qT rfl ?_ | refine qF rfl ?_ | refine scondT rfl ?_ | refine scondF rfl ?_ | refine ocondP rfl (fun h => ?_) (fun h => ?_) | refine ocondB rfl (fun h => ?_) (fun h => ?_) | refine scondP rfl (fun h => ?_) (fun h => ?_) | refine scond rfl (fun h => ?_) (fun h => ?_) | refine oskip ?_ | refine oskipb ?_ | refine oret ?_ | refine sem_ret ?_ | refine sem_seq ?_ | refine sreg1 ?_)
  exact ⟨_, rfl, rfl, rfl⟩

theorem pile_site_levels (s : PileSite) (hs : s.ok) (th : List (List Span)) (ht : thawsOk s th) (hth : th.length ≤ 1000) (plan : List Int) (hp : planOk s th plan) : Holds Tryd.prog G F.pile_site_levels [.tptr (siteCs s th) 0, slOf intCs plan] (slOf spansCs (levOf s th plan)) := by
  have hn6 : 1 ≤ s.piles.length ∧ s.piles.length ≤ 6 := hs.2.1
  have hhl := headAt_bound (st := lowOf s th) (pl := fun y => plan.getD y default) (m := th.length) fun y k _ => lowOf_bound hs th y k
  have hhh := headAt_bound (st := highOf s th) (pl := fun y => plan.getD y default) (m := th.length) fun y k _ => highOf_bound hs th y k
  have hpl := hp.1
  have pow : ∀ i : Nat, i ≤ 6 → (2 : Int) ^ i ≤ 64 := by decide
  have hpw := pow _ hn6.2
  have hbits : ∀ y, y < plan.length → 0 ≤ plan.getD y default ∧ plan.getD y default ≤ 2 ^ s.piles.length - 1 := fun y hy => hp.2 _ (by rw [getD_lt hy]; exact List.getElem_mem _)
  (refine holds_of_sem hG fn_pile_site_levels (by simp) fun w0 S0 hG0 D0 => ?_; unfold c_pile_site_levels cval enterEnv; simp only [List.zipIdx_cons, List.zipIdx_nil, List.map_cons, List.map_nil, Nat.zero_add, Nat.reduceAdd])
  repeat' (first | ((first | refine o1 rfl ?_ | refine o0 rfl ?_); intro k hk; simp (disch := omega) only [ev0, sl_cells, simprocAttr, siteCs, slOf]; refine hk _ _ ?_; clear hk k) | refine ono rfl ?_ | ((first | refine osplitG rfl (fun h => ?_) (fun h => ?_) | refine osplitB rfl (fun h => ?_) (fun h => ?_)) <;> (fail_if_success (simp only [eq_self, reduceCtorEq] at h))) | refine onx ?_ | refine onb ?_ | refine sreg ?_ | refine qT rfl ?_ | refine qF rfl ?_ | refine scondT rfl ?_ | refine scondF rfl ?_ | refine ocondP rfl (fun h => ?_) (fun h => ?_) | refine ocondB rfl (fun h => ?_) (fun h => ?_) | refine scondP rfl (fun h => ?_) (fun h => ?_) | refine scond rfl (fun h => ?_) (fun h => ?_) | refine oskip ?_ | refine oskipb ?_ | refine oret ?_ | refine sem_ret ?_ | refine sem_seq ?_ | refine sreg1 ?_)
  refine sem_block ?_
  (refine sem_ghost 5 63 1 rfl ?_; simp only [List.length_cons, List.length_nil, Nat.reduceAdd, Nat.zero_add, List.cons_append, List.nil_append])
  rw [show List.replicate s.piles.length [AV.int IntKind.i64 0, AV.int IntKind.i64 0] = rowF Span.cs s.piles.length (headS s th (fun y => plan.getD y default) 0) from replicate_rowF Span.cs s.piles.length ⟨0, 0⟩]
  
  refine sem_loop (α := Nat) (fun y => ⟨[(0, .tptr (siteCs s th) 0), (5, .hsl 2 y 1 y), (6, .ptr 1 0 1 0 0), (21, slOf intCs plan), (22, I plan.length), (23, I y)], [.row 53 0 2 (rowF Span.cs s.piles.length (headS s th (fun y => plan.getD y default) y)), .row 63 0 1 [[.hsl 0 0 2 s.piles.length]], .row 63 y 1 (rowF spansCs y (levRow s th fun y => plan.getD y default))]⟩)
    (fun y => y ≤ plan.length) (fun y => plan.length - y) 0 (Nat.zero_le _) ?_ ?_
  · (refine Le.same ?_; simp only [List.forall_mem_cons, List.forall_mem_nil, getE, selE, Nat.reduceBEq, List.not_mem_nil, false_implies, implies_true, and_true, true_and, and_self])
    simp [siteCs, slOf]
  · intro y hyl
    skip
    repeat' (first | ((first | refine o1 rfl ?_ | refine o0 rfl ?_); intro k hk; simp (disch := omega) only [ev0, sl_cells, simprocAttr, slOf]; refine hk _ _ ?_; clear hk k) | refine ono rfl ?_ | ((first | refine osplitG rfl (fun h => ?_) (fun h => ?_) | refine osplitB rfl (fun h => ?_) (fun h => ?_)) <;> (fail_if_success (simp only [eq_self, reduceCtorEq] at h))) | refine onx ?_ | refine onb ?_ | refine sreg ?_ | refine qT rfl ?_ | refine qF rfl ?_ | refine scondT rfl ?_ | refine scondF rfl ?_ | refine ocondP rfl (fun h => ?_) (fun h => ?_) | refine ocondB rfl (fun h => ?_) (fun h => ?_) | refine scondP rfl (fun h => ?_) (fun h => ?_) | refine scond rfl (fun h => ?_) (fun h => ?_) | refine oskip ?_ | refine oskipb ?_ | refine oret ?_ | refine sem_ret ?_ | refine sem_seq ?_ | refine sreg1 ?_)
    · have hyl' : y < plan.length := by omega
      refine sem_block ?_
      repeat' (first | ((first | refine o1 rfl ?_ | refine o0 rfl ?_); intro k hk; simp (disch := omega) only [ev0, sl_cells, simprocAttr, slOf, intCs]; refine hk _ _ ?_; clear hk k) | refine ono rfl ?_ | ((first | refine osplitG rfl (fun h => ?_) (fun h => ?_) | refine osplitB rfl (fun h => ?_) (fun h => ?_)) <;> (fail_if_success (simp only [eq_self, reduceCtorEq] at h))) | refine onx ?_ | refine onb ?_ | refine sreg ?_ | refine qT rfl ?_ | refine qF rfl ?_ | refine scondT rfl ?_ | refine scondF rfl ?_ | refine ocondP rfl (fun h => ?_) (fun h => ?_) | refine ocondB rfl (fun h => ?_) (fun h => ?_) | refine scondP rfl (fun h => ?_) (fun h => ?_) | refine scond rfl (fun h => ?_) (fun h => ?_) | refine oskip ?_ | refine oskipb ?_ | refine oret ?_ | refine sem_ret ?_ | refine sem_seq ?_ | refine sreg1 ?_)
      refine sem_block ?_
      
      refine sem_loop (α := Nat) (fun i => ⟨[(0, .tptr (siteCs s th) 0), (5, .hsl 2 y 1 y), (6, .ptr 1 0 1 0 0), (7, I y), (8, I (plan.getD y default)), (21, slOf intCs plan), (22, I plan.length), (23, I y), (29, I s.piles.length), (30, I i)], [.row 53 0 2 (rowF Span.cs s.piles.length (fun k => if k < i then sunkS s th (fun y => plan.getD y default) y k else headS s th (fun y => plan.getD y default) y k)), .row 63 0 1 [[.hsl 0 0 2 s.piles.length]], .row 63 y 1 (rowF spansCs y (levRow s th fun y => plan.getD y default))]⟩)
        (fun i => i ≤ s.piles.length) (fun i => s.piles.length - i) 0 (Nat.zero_le _) ?_ ?_
      · (refine Le.same ?_; simp only [List.forall_mem_cons, List.forall_mem_nil, getE, selE, Nat.reduceBEq, List.not_mem_nil, false_implies, implies_true, and_true, true_and, and_self])
        simp
      · intro i hil
        skip
        repeat' (first | ((first | refine o1 rfl ?_ | refine o0 rfl ?_); intro k hk; simp (disch := omega) only [ev0, sl_cells, simprocAttr]; refine hk _ _ ?_; clear hk k) | refine ono rfl ?_ | ((first | refine osplitG rfl (fun h => ?_) (fun h => ?_) | refine osplitB rfl (fun h => ?_) (fun h => ?_)) <;> (fail_if_success (simp only [eq_self, reduceCtorEq] at h))) | refine onx ?_ | refine onb ?_ | refine sreg ?_ | refine qT rfl ?_ | refine qF rfl ?_ | refine scondT rfl ?_ | refine scondF rfl ?_ | refine ocondP rfl (fun h => ?_) (fun h => ?_) | refine ocondB rfl (fun h => ?_) (fun h => ?_) | refine scondP rfl (fun h => ?_) (fun h => ?_) | refine scond rfl (fun h => ?_) (fun h => ?_) | refine oskip ?_ | refine oskipb ?_ | refine oret ?_ | refine sem_ret ?_ | refine sem_seq ?_ | refine sreg1 ?_)
        · have hil' : i < s.piles.length := by omega
          refine sem_block ?_
          repeat' (first | ((first | refine o1 rfl ?_ | refine o0 rfl ?_); intro k hk; simp (disch := omega) only [ev0, sl_cells, simprocAttr]; refine hk _ _ ?_; clear hk k) | refine ono rfl ?_ | ((first | refine osplitG rfl (fun h => ?_) (fun h => ?_) | refine osplitB rfl (fun h => ?_) (fun h => ?_)) <;> (fail_if_success (simp only [eq_self, reduceCtorEq] at h))) | refine onx ?_ | refine onb ?_ | refine sreg ?_ | refine qT rfl ?_ | refine qF rfl ?_ | refine scondT rfl ?_ | refine scondF rfl ?_ | refine ocondP rfl (fun h => ?_) (fun h => ?_) | refine ocondB rfl (fun h => ?_) (fun h => ?_) | refine scondP rfl (fun h => ?_) (fun h => ?_) | refine scond rfl (fun h => ?_) (fun h => ?_) | refine oskip ?_ | refine oskipb ?_ | refine oret ?_ | refine sem_ret ?_ | refine sem_seq ?_ | refine sreg1 ?_)
          refine sem_block ?_
          
          refine sem_loop (α := Nat) (fun j => ⟨[(0, .tptr (siteCs s th) 0), (5, .hsl 2 y 1 y), (6, .ptr 1 0 1 0 0), (7, I y), (8, I (plan.getD y default)), (9, I i), (21, slOf intCs plan), (22, I plan.length), (23, I y), (29, I s.piles.length), (30, I i), (37, .agg [.fn (.func F.pile_site_low) [.tptr (siteCs s th) 0] [], .fn (.func F.pile_site_high) [.tptr (siteCs s th) 0] []]), (38, I j)], [.row 53 0 2 (rowF Span.cs s.piles.length (fun k => if k = i then part2 j (headS s th (fun y => plan.getD y default) y i) (lowOf s th y i) (highOf s th y i) else if k < i then sunkS s th (fun y => plan.getD y default) y k else headS s th (fun y => plan.getD y default) y k)), .row 63 0 1 [[.hsl 0 0 2 s.piles.length]], .row 63 y 1 (rowF spansCs y (levRow s th fun y => plan.getD y default))]⟩)
            (fun j => j ≤ 2) (fun j => 2 - j) 0 (Nat.zero_le _) ?_ ?_
          · rw [rowF_ext (f := fun k => if k = i then part2 0 (headS s th (fun y => plan.getD y default) y i) (lowOf s th y i) (highOf s th y i) else if k < i then sunkS s th (fun y => plan.getD y default) y k else headS s th (fun y => plan.getD y default) y k) (g := fun k => if k < i then sunkS s th (fun y => plan.getD y default) y k else headS s th (fun y => plan.getD y default) y k) (fun k hk => by
              by_cases e : k = i
              · subst e; simp [part2]
              · simp [e])]
            (refine Le.same ?_; simp only [List.forall_mem_cons, List.forall_mem_nil, getE, selE, Nat.reduceBEq, List.not_mem_nil, false_implies, implies_true, and_true, true_and, and_self])
            simp
          · intro j hj
            skip
            repeat' (first | ((first | refine o1 rfl ?_ | refine o0 rfl ?_); intro k hk; simp (disch := omega) only [ev0, sl_cells, simprocAttr]; refine hk _ _ ?_; clear hk k) | refine ono rfl ?_ | ((first | refine osplitG rfl (fun h => ?_) (fun h => ?_) | refine osplitB rfl (fun h => ?_) (fun h => ?_)) <;> (fail_if_success (simp only [eq_self, reduceCtorEq] at h))) | refine onx ?_ | refine onb ?_ | refine sreg ?_ | refine qT rfl ?_ | refine qF rfl ?_ | refine scondT rfl ?_ | refine scondF rfl ?_ | refine ocondP rfl (fun h => ?_) (fun h => ?_) | refine ocondB rfl (fun h => ?_) (fun h => ?_) | refine scondP rfl (fun h => ?_) (fun h => ?_) | refine scond rfl (fun h => ?_) (fun h => ?_) | refine oskip ?_ | refine oskipb ?_ | refine oret ?_ | refine sem_ret ?_ | refine sem_seq ?_ | refine sreg1 ?_)
            · have hj' : j < 2 := by omega
              have hn0 : ((0 : Nat) : Int) = 0 := rfl
              have hn1 : ((1 : Nat) : Int) = 1 := rfl
              have hlb := lowOf_bound hs th y i
              have hhb := highOf_bound hs th y i
              have hl1 := hhl y i (by omega)
              have hh1 := hhh y i (by omega)
              refine sem_block ?_
              rcases (show j = 0 ∨ j = 1 by omega) with rfl | rfl
              · repeat' (first | ((first | refine o1 rfl ?_ | refine o0 rfl ?_); intro k hk; simp (disch := omega) only [ev0, sl_cells, simprocAttr, hn0]; refine hk _ _ ?_; clear hk k) | refine ono rfl ?_ | ((first | refine osplitG rfl (fun h => ?_) (fun h => ?_) | refine osplitB rfl (fun h => ?_) (fun h => ?_)) <;> (fail_if_success (simp only [eq_self, reduceCtorEq] at h))) | refine onx ?_ | refine onb ?_ | refine sreg ?_ | refine qT rfl ?_ | refine qF rfl ?_ | refine scondT rfl ?_ | refine scondF rfl ?_ | refine ocondP rfl (fun h => ?_) (fun h => ?_) | refine ocondB rfl (fun h => ?_) (fun h => ?_) | refine scondP rfl (fun h => ?_) (fun h => ?_) | refine scond rfl (fun h => ?_) (fun h => ?_) | refine oskip ?_ | refine oskipb ?_ | refine oret ?_ | refine sem_ret ?_ | refine sem_seq ?_ | refine sreg1 ?_)
                (apply odyn; (case hx => (simp only [ev0, sl_cells, simprocAttr] <;> rfl)); (case he => (simp only [ev0, sl_cells, simprocAttr] <;> rfl)); (case hc => exact pile_site_low hG s th hs ht y i (by omega) hil'); (case ht => first | rfl | assumption); (case hg => rfl))
                repeat' (first | ((first | refine o1 rfl ?_ | refine o0 rfl ?_); intro k hk; simp (disch := omega) only [ev0, sl_cells, simprocAttr, hn0, rowF_get, rowF_setS, part2, headS, Span.cs]; refine hk _ _ ?_; clear hk k) | refine ono rfl ?_ | ((first | refine osplitG rfl (fun h => ?_) (fun h => ?_) | refine osplitB rfl (fun h => ?_) (fun h => ?_)) <;> (fail_if_success (simp only [eq_self, reduceCtorEq] at h))) | refine onx ?_ | refine onb ?_ | refine sreg ?_ | refine qT rfl ?_ | refine qF rfl ?_ | refine scondT rfl ?_ | refine scondF rfl ?_ | refine ocondP rfl (fun h => ?_) (fun h => ?_) | refine ocondB rfl (fun h => ?_) (fun h => ?_) | refine scondP rfl (fun h => ?_) (fun h => ?_) | refine scond rfl (fun h => ?_) (fun h => ?_) | refine oskip ?_ | refine oskipb ?_ | refine oret ?_ | refine sem_ret ?_ | refine sem_seq ?_ | refine sreg1 ?_)
                rw [rowF_ext (g := fun k => if k = i then part2 1 (headS s th (fun y => plan.getD y default) y i) (lowOf s th y i) (highOf s th y i) else if k < i then sunkS s th (fun y => plan.getD y default) y k else headS s th (fun y => plan.getD y default) y k) (fun k hk => by
                  by_cases e : k = i
                  · subst e; simp [part2, headS]
                  · simp [e, headS])]
                refine onil (lnext 1 (by omega) (by omega) ?_)
                (refine Le.same ?_; simp only [List.forall_mem_cons, List.forall_mem_nil, getE, selE, Nat.reduceBEq, List.not_mem_nil, false_implies, implies_true, and_true, true_and, and_self])
                simp
              · repeat' (first | ((first | refine o1 rfl ?_ | refine o0 rfl ?_); intro k hk; simp (disch := omega) only [ev0, sl_cells, simprocAttr, hn1]; refine hk _ _ ?_; clear hk k) | refine ono rfl ?_ | ((first | refine osplitG rfl (fun h => ?_) (fun h => ?_) | refine osplitB rfl (fun h => ?_) (fun h => ?_)) <;> (fail_if_success (simp only [eq_self, reduceCtorEq] at h))) | refine onx ?_ | refine onb ?_ | refine sreg ?_ | refine qT rfl ?_ | refine qF rfl ?_ | refine scondT rfl ?_ | refine scondF rfl ?_ | refine ocondP rfl (fun h => ?_) (fun h => ?_) | refine ocondB rfl (fun h => ?_) (fun h => ?_) | refine scondP rfl (fun h => ?_) (fun h => ?_) | refine scond rfl (fun h => ?_) (fun h => ?_) | refine oskip ?_ | refine oskipb ?_ | refine oret ?_ | refine sem_ret ?_ | refine sem_seq ?_ | refine sreg1 ?_)
                (apply odyn; (case hx => (simp only [ev0, sl_cells, simprocAttr] <;> rfl)); (case he => (simp only [ev0, sl_cells, simprocAttr] <;> rfl)); (case hc => exact pile_site_high hG s th hs ht y i (by omega) hil'); (case ht => first | rfl | assumption); (case hg => rfl))
                repeat' (first | ((first | refine o1 rfl ?_ | refine o0 rfl ?_); intro k hk; simp (disch := omega) only [ev0, sl_cells, simprocAttr, hn1, rowF_get, rowF_setS, part2, headS, Span.cs, Int.reduceEq]; refine hk _ _ ?_; clear hk k) | refine ono rfl ?_ | ((first | refine osplitG rfl (fun h => ?_) (fun h => ?_) | refine osplitB rfl (fun h => ?_) (fun h => ?_)) <;> (fail_if_success (simp only [eq_self, reduceCtorEq] at h))) | refine onx ?_ | refine onb ?_ | refine sreg ?_ | refine qT rfl ?_ | refine qF rfl ?_ | refine scondT rfl ?_ | refine scondF rfl ?_ | refine ocondP rfl (fun h => ?_) (fun h => ?_) | refine ocondB rfl (fun h => ?_) (fun h => ?_) | refine scondP rfl (fun h => ?_) (fun h => ?_) | refine scond rfl (fun h => ?_) (fun h => ?_) | refine oskip ?_ | refine oskipb ?_ | refine oret ?_ | refine sem_ret ?_ | refine sem_seq ?_ | refine sreg1 ?_)
                rw [rowF_ext (g := fun k => if k = i then part2 2 (headS s th (fun y => plan.getD y default) y i) (lowOf s th y i) (highOf s th y i) else if k < i then sunkS s th (fun y => plan.getD y default) y k else headS s th (fun y => plan.getD y default) y k) (fun k hk => by
                  by_cases e : k = i
                  · subst e; simp [part2, headS]
                  · simp [e, headS])]
                refine onil (lnext 2 (by omega) (by omega) ?_)
                (refine Le.same ?_; simp only [List.forall_mem_cons, List.forall_mem_nil, getE, selE, Nat.reduceBEq, List.not_mem_nil, false_implies, implies_true, and_true, true_and, and_self])
                simp
            · have hj2 : j = 2 := by omega
              subst hj2
              (refine sem_exit ?_; change sem _ _ _ _ _)
              rw [rowF_ext (g := fun k => if k < i + 1 then sunkS s th (fun y => plan.getD y default) y k else headS s th (fun y => plan.getD y default) y k) (fun k hk => by
                by_cases e : k = i
                · subst e; simp [part2, headS, sunkS]
                · have e2 : (k < i) = (k < i + 1) := propext (by omega)
                  simp only [e, if_false, e2])]
              repeat' (first | ((first | refine o1 rfl ?_ | refine o0 rfl ?_); intro k hk; simp (disch := omega) only [ev0, sl_cells, simprocAttr]; refine hk _ _ ?_; clear hk k) | refine ono rfl ?_ | ((first | refine osplitG rfl (fun h => ?_) (fun h => ?_) | refine osplitB rfl (fun h => ?_) (fun h => ?_)) <;> (fail_if_success (simp only [eq_self, reduceCtorEq] at h))) | refine onx ?_ | refine onb ?_ | refine sreg ?_ | refine qT rfl ?_ | refine qF rfl ?_ | refine scondT rfl ?_ | refine scondF rfl ?_ | refine ocondP rfl (fun h => ?_) (fun h => ?_) | refine ocondB rfl (fun h => ?_) (fun h => ?_) | refine scondP rfl (fun h => ?_) (fun h => ?_) | refine scond rfl (fun h => ?_) (fun h => ?_) | refine oskip ?_ | refine oskipb ?_ | refine oret ?_ | refine sem_ret ?_ | refine sem_seq ?_ | refine sreg1 ?_)
              refine onil (lnext (i + 1) (by omega) (by omega) ?_)
              (refine Le.same ?_; simp only [List.forall_mem_cons, List.forall_mem_nil, getE, selE, Nat.reduceBEq, List.not_mem_nil, false_implies, implies_true, and_true, true_and, and_self])
              simp
        · have hil' : i = s.piles.length := by omega
          subst hil'
          have hb := hbits y hyl'
          (refine sem_exit ?_; change sem _ _ _ _ _)
          rw [rowF_ext (g := sunkS s th (fun y => plan.getD y default) y) (fun k hk => by simp only [hk, if_true])]
          repeat' (first | ((first | refine o1 rfl ?_ | refine o0 rfl ?_); intro k hk; simp (disch := omega) only [ev0, sl_cells, simprocAttr]; refine hk _ _ ?_; clear hk k) | refine ono rfl ?_ | ((first | refine osplitG rfl (fun h => ?_) (fun h => ?_) | refine osplitB rfl (fun h => ?_) (fun h => ?_)) <;> (fail_if_success (simp only [eq_self, reduceCtorEq] at h))) | refine onx ?_ | refine onb ?_ | refine sreg ?_ | refine qT rfl ?_ | refine qF rfl ?_ | refine scondT rfl ?_ | refine scondF rfl ?_ | refine ocondP rfl (fun h => ?_) (fun h => ?_) | refine ocondB rfl (fun h => ?_) (fun h => ?_) | refine scondP rfl (fun h => ?_) (fun h => ?_) | refine scond rfl (fun h => ?_) (fun h => ?_) | refine oskip ?_ | refine oskipb ?_ | refine oret ?_ | refine sem_ret ?_ | refine sem_seq ?_ | refine sreg1 ?_)
          refine semL_acall rfl (clone_own rfl (by omega) (by omega) rfl) fun ae μ hr => ?_
          obtain ⟨rfl, rfl⟩ := hr
          change semL _ _ _ ⟨(70, _) :: _, _⟩ _
          simp only [List.length_cons, List.length_nil, Nat.reduceAdd, List.cons_append, List.nil_append]
          refine semL_frzrow 3 rfl (fun _ => rfl) ?_
          simp only [frzE, frzM, frzA, frzL, frzO, frz_sl, frz_span, frz_site, frz_siteCs, List.map_cons, List.map_nil, List.set_cons_zero, List.set_cons_succ, Nat.reduceEqDiff, if_true, if_false, and_self, Nat.reduceLT, Nat.reduceLeDiff, reduceIte, Nat.le_refl, frz_rowF (enc := spansCs) (fun _ => rfl), frz_rowF (enc := Span.cs) (fun _ => rfl), slF_sl]
          have hrow : rowF spansCs y (levRow s th fun y => plan.getD y default) ++ [[slOf Span.cs (List.map (sunkS s th (fun y => plan.getD y default) y) (List.range s.piles.length))]] = rowF spansCs (y + 1) (levRow s th fun y => plan.getD y default) := rowF_succ
          repeat' (first | ((first | refine o1 rfl ?_ | refine o0 rfl ?_); intro k hk; simp (disch := omega) only [ev0, sl_cells, simprocAttr, rowF_take]; refine hk _ _ ?_; clear hk k) | refine ono rfl ?_ | (apply ocall; (case he => (simp only [ev0, sl_cells, simprocAttr] <;> rfl)); (case hc => first | exact pile_jacked hG _); (case ht => rfl); (case hg => rfl)) | ((first | refine osplitG rfl (fun h => ?_) (fun h => ?_) | refine osplitB rfl (fun h => ?_) (fun h => ?_)) <;> (fail_if_success (simp only [eq_self, reduceCtorEq] at h))) | refine onx ?_ | refine onb ?_ | refine sreg ?_ | refine qT rfl ?_ | refine qF rfl ?_ | refine scondT rfl ?_ | refine scondF rfl ?_ | refine ocondP rfl (fun h => ?_) (fun h => ?_) | refine ocondB rfl (fun h => ?_) (fun h => ?_) | refine scondP rfl (fun h => ?_) (fun h => ?_) | refine scond rfl (fun h => ?_) (fun h => ?_) | refine oskip ?_ | refine oskipb ?_ | refine oret ?_ | refine sem_ret ?_ | refine sem_seq ?_ | refine sreg1 ?_)
          rw [hrow]
          refine sem_block ?_
          obtain ⟨J, hJ⟩ : ∃ J : Nat → List AObj → Prop, J = fun k μ => ∃ e, getE e 6 = .ptr 1 0 1 0 0 ∧ μ = [.row 53 0 2 (rowF Span.cs s.piles.length (fun j => if j < k ∧ hasBit (plan.getD y default) j = true then ⟨0, 0⟩ else sunkS s th (fun y => plan.getD y default) y j)), .row 63 0 1 [[.hsl 0 0 2 s.piles.length]], .row 63 (y + 1) 1 (rowF spansCs (y + 1) (levRow s th fun y => plan.getD y default)), .gone, .row 63 0 1 [[slOf Span.cs (List.map (sunkS s th (fun y => plan.getD y default) y) (List.range s.piles.length))]],
            .loop ⟨[75], .reg [⟨some 13, none, .mv (.t 75)⟩], c_pile_site_levels_l3, 82⟩ .ready e] := ⟨_, rfl⟩
          refine sem_rng rfl rfl (R := fun ae μ' => (∃ x, ae = .ret x) ∧ J 6 μ') (fun hp82 => jacked_1 rfl _ (by omega) 5 J ?_ ?_ ?_ ?_) ?_
          · intro k μ h
            rw [hJ] at h
            obtain ⟨e, -, rfl⟩ := h
            exact ⟨_, _, _, rfl⟩
          · intro k μ hk h hbit
            have hkn := bit_lt hb.1 hb.2 hbit
            rw [hJ] at h
            obtain ⟨e, he, rfl⟩ := h
            refine ycalls_of_sem rfl rfl hp82 fun l => ?_
            simp only [bindPs]
            repeat' (first | ((first | refine o1 rfl ?_ | refine o0 rfl ?_); intro k hk; simp (disch := omega) only [ev0, sl_cells, simprocAttr]; refine hk _ _ ?_; clear hk k) | refine ono rfl ?_ | ((first | refine osplitG rfl (fun h => ?_) (fun h => ?_) | refine osplitB rfl (fun h => ?_) (fun h => ?_)) <;> (fail_if_success (simp only [eq_self, reduceCtorEq] at h))) | refine onx ?_ | refine onb ?_ | refine sreg ?_ | refine qT rfl ?_ | refine qF rfl ?_ | refine scondT rfl ?_ | refine scondF rfl ?_ | refine ocondP rfl (fun h => ?_) (fun h => ?_) | refine ocondB rfl (fun h => ?_) (fun h => ?_) | refine scondP rfl (fun h => ?_) (fun h => ?_) | refine scond rfl (fun h => ?_) (fun h => ?_) | refine oskip ?_ | refine oskipb ?_ | refine oret ?_ | refine sem_ret ?_ | refine sem_seq ?_ | refine sreg1 ?_)
            refine onil ⟨_, _, rfl, ?_⟩
            simp only [List.set_cons_succ, List.set_cons_zero]
            change sem _ _ _ _ _
            unfold c_pile_site_levels_l3 cval
            refine sem_block ?_
            have hdrop : ∀ x : Span, List.drop 2 x.cs = [] := fun _ => rfl
            repeat' (first | ((first | refine o1 rfl ?_ | refine o0 rfl ?_); intro k hk; simp (disch := omega) only [ev0, sl_cells, simprocAttr, he, rowF_get, rowF_setS, hdrop]; refine hk _ _ ?_; clear hk k) | refine ono rfl ?_ | ((first | refine osplitG rfl (fun h => ?_) (fun h => ?_) | refine osplitB rfl (fun h => ?_) (fun h => ?_)) <;> (fail_if_success (simp only [eq_self, reduceCtorEq] at h))) | refine onx ?_ | refine onb ?_ | refine sreg ?_ | refine qT rfl ?_ | refine qF rfl ?_ | refine scondT rfl ?_ | refine scondF rfl ?_ | refine ocondP rfl (fun h => ?_) (fun h => ?_) | refine ocondB rfl (fun h => ?_) (fun h => ?_) | refine scondP rfl (fun h => ?_) (fun h => ?_) | refine scond rfl (fun h => ?_) (fun h => ?_) | refine oskip ?_ | refine oskipb ?_ | refine oret ?_ | refine sem_ret ?_ | refine sem_seq ?_ | refine sreg1 ?_)
            refine onil ⟨_, _, rfl, rfl, ?_⟩
            rw [hJ]
            refine ⟨e, he, ?_⟩
            simp only [List.set_cons_succ, List.set_cons_zero]
            rw [rowF_ext (g := fun j => if j < k + 1 ∧ hasBit (plan.getD y default) j = true then ⟨0, 0⟩ else sunkS s th (fun y => plan.getD y default) y j) (fun j hj => by
              by_cases e : j = k
              · subst e; simp only [hbit, if_true, Nat.lt_succ_self, and_self]
              · have e2 : (j < k) = (j < k + 1) := propext (by omega)
                simp only [e, if_false, e2])]
            rfl
          · intro k μ hk h hbit
            rw [hJ] at h ⊢
            obtain ⟨e, he, rfl⟩ := h
            refine ⟨e, he, ?_⟩
            rw [rowF_ext (g := fun j => if j < k + 1 ∧ hasBit (plan.getD y default) j = true then ⟨0, 0⟩ else sunkS s th (fun y => plan.getD y default) y j) (fun j hj => by
              by_cases e : j = k
              · subst e; simp only [hbit, Bool.false_eq_true, and_false, if_false]
              · have e2 : (j < k) = (j < k + 1) := propext (by omega)
                simp only [e2])]
          · rw [hJ]
            simp only [Nat.not_lt_zero, false_and, if_false]
            exact ⟨_, And.symm ⟨rfl, rfl⟩⟩
          · rintro ae μ' ⟨⟨x, rfl⟩, h⟩
            rw [hJ] at h
            obtain ⟨e, -, rfl⟩ := h
            refine ⟨_, _, _, rfl, ?_⟩
            simp only [List.length_cons, List.length_nil, Nat.reduceAdd, List.set_cons_succ, List.set_cons_zero]
            change sem _ _ _ _ _
            rw [rowF_ext (g := headS s th (fun y => plan.getD y default) (y + 1)) (fun j hj => by
              have h6 : j < 6 := by omega
              simp only [h6, true_and]
              unfold headS sunkS
              simp only [headAt]
              split <;> rfl)]
            repeat' (first | ((first | refine o1 rfl ?_ | refine o0 rfl ?_); intro k hk; simp (disch := omega) only [ev0, sl_cells, simprocAttr]; refine hk _ _ ?_; clear hk k) | refine ono rfl ?_ | ((first | refine osplitG rfl (fun h => ?_) (fun h => ?_) | refine osplitB rfl (fun h => ?_) (fun h => ?_)) <;> (fail_if_success (simp only [eq_self, reduceCtorEq] at h))) | refine onx ?_ | refine onb ?_ | refine sreg ?_ | refine qT rfl ?_ | refine qF rfl ?_ | refine scondT rfl ?_ | refine scondF rfl ?_ | refine ocondP rfl (fun h => ?_) (fun h => ?_) | refine ocondB rfl (fun h => ?_) (fun h => ?_) | refine scondP rfl (fun h => ?_) (fun h => ?_) | refine scond rfl (fun h => ?_) (fun h => ?_) | refine oskip ?_ | refine oskipb ?_ | refine oret ?_ | refine sem_ret ?_ | refine sem_seq ?_ | refine sreg1 ?_)
            refine onil (lnext (y + 1) (by omega) (by omega) ?_)
            (refine Le.drop ?_ rfl (by simp) rfl (by simp only [refM, refO, List.all_cons, List.all_nil, Bool.and_true, Bool.true_and, all_rowF (enc := spansCs) (fun _ _ => rfl), all_rowF (enc := Span.cs) (fun _ _ => rfl)]; first | done | rfl) ; simp only [List.forall_mem_cons, List.forall_mem_nil, getE, selE, Nat.reduceBEq, List.not_mem_nil, false_implies, implies_true, and_true, true_and, and_self])
            simp [slOf]
    · have hyl' : y = plan.length := by omega
      subst hyl'
      (refine sem_exit ?_; change sem _ _ _ _ _)
      repeat' (first | ((first | refine o1 rfl ?_ | refine o0 rfl ?_); intro k hk; simp (disch := omega) only [ev0, sl_cells, simprocAttr]; refine hk _ _ ?_; clear hk k) | refine ono rfl ?_ | ((first | refine osplitG rfl (fun h => ?_) (fun h => ?_) | refine osplitB rfl (fun h => ?_) (fun h => ?_)) <;> (fail_if_success (simp only [eq_self, reduceCtorEq] at h))) | refine onx ?_ | refine onb ?_ | refine sreg ?_ | refine qT rfl ?_ | refine qF rfl ?_ | refine scondT rfl ?_ | refine scondF rfl ?_ | refine ocondP rfl (fun h => ?_) (fun h => ?_) | refine ocondB rfl (fun h => ?_) (fun h => ?_) | refine scondP rfl (fun h => ?_) (fun h => ?_) | refine scond rfl (fun h => ?_) (fun h => ?_) | refine oskip ?_ | refine oskipb ?_ | refine oret ?_ | refine sem_ret ?_ | refine sem_seq ?_ | refine sreg1 ?_)
      exact ⟨_, rfl, _, rfl, tree_rowF (enc := spansCs) rfl (fun _ => rfl) (fun _ => rfl)⟩
end Go.Proofs.YtibgfmhddcibcaaDoor

set_option linter.unusedVariables false
set_option linter.unusedSimpArgs false
set_option maxRecDepth 8000
/- What the laws of piles ask of their inputs; the program's Levels. -/
namespace Go.Tk
open Go Go.Av
theorem tree_pair {μ : List AObj} {x y t u : AV} (h1 : Tree μ x t) (h2 : Tree μ y u) : Tree μ (.tup [x, y]) (.tup [t, u]) := by
  refine .tup rfl fun i a b ha hb => ?_
  match i, ha, hb with
  | 0, ha, hb => cases ha; cases hb; exact h1
  | 1, ha, hb => cases ha; cases hb; exact h2
def shortP (s : PileSite) (th : List (List Span)) : Prop := (∀ t, t < th.length → t < 20 → (th.getD t default).length ≤ 10) ∧ s.piles.length ≤ 10 ∧ s.pairs.length ≤ 15 ∧ s.rows.length ≤ 10 ∧ th.length ≤ 15
noncomputable instance (s th) : Decidable (shortP s th) := Classical.propDecidable _
noncomputable def askedE (s : PileSite) (th : List (List Span)) : Int := if 10 < th.length then 3 else if s.ok ∧ thawsOk s th then 0 else 2
noncomputable def plannedE (s : PileSite) (th : List (List Span)) (plan : List Int) : Int := if 10 < th.length ∨ 10 < plan.length then 3 else if s.ok ∧ thawsOk s th ∧ planOk s th plan then 0 else 2
theorem shortP.row {s : PileSite} {th : List (List Span)} (h : shortP s th) : ∀ l ∈ th, l.length ≤ 10 := fun l hl => by
  obtain ⟨i, hi⟩ := List.getElem?_of_mem hl
  have hlt := (List.getElem?_eq_some_iff.1 hi).1
  have := h.1 i hlt (by have := h.2.2.2.2; omega)
  rw [getD_lt hlt, (List.getElem?_eq_some_iff.1 hi).2] at this
  exact this
theorem planned_0 {s : PileSite} {th : List (List Span)} {plan : List Int} (h : plannedE s th plan = 0) : s.ok ∧ thawsOk s th ∧ planOk s th plan ∧ th.length ≤ 10 := by
  unfold plannedE at h
  split at h
  · cases h
  · split at h
    · rename_i h1 h2; exact ⟨h2.1, h2.2.1, h2.2.2, by omega⟩
    · cases h
theorem planned_no {s : PileSite} {th : List (List Span)} {plan : List Int} (h : plannedE s th plan ≠ 0) : (plannedE s th plan = 3 ∧ (10 < th.length ∨ 10 < plan.length)) ∨ (plannedE s th plan = 2 ∧ th.length ≤ 10 ∧ plan.length ≤ 10 ∧ ¬ (s.ok ∧ thawsOk s th ∧ planOk s th plan)) := by
  unfold plannedE at *
  split
  · left; exact ⟨rfl, by assumption⟩
  · split
    · rename_i h1 h2; rw [if_neg h1, if_pos h2] at h; exact absurd rfl h
    · right; exact ⟨rfl, by omega, by omega, by assumption⟩
end Go.Tk
namespace Go.Proofs.YtibgfmhddcibcaaDoor
open Go Go.Av Go.Tk
attribute [local irreducible] Holds sem semL ACalls FnIs
variable {G : World → Prop} (hG : ∀ w w', G w → RowKit.Below w.heap.size w w' → G w')
include hG

theorem law02_short (s : PileSite) (th : List (List Span)) : Holds Tryd.prog G F.law02_short [.agg s.cs, slOf spansCs th] (B (decide (shortP s th))) := by
  (refine holds_of_sem hG fn_law02_short (by simp) fun w0 S0 hG0 D0 => ?_; unfold c_law02_short cval enterEnv; simp only [List.zipIdx_cons, List.zipIdx_nil, List.map_cons, List.map_nil, Nat.zero_add, Nat.reduceAdd])
  repeat' (first | ((first | refine o1 rfl ?_ | refine o0 rfl ?_); intro k hk; simp (disch := omega) only [ev0, sl_cells, simprocAttr]; refine hk _ _ ?_; clear hk k) | refine ono rfl ?_ | ((first | refine osplitG rfl (fun h => ?_) (fun h => ?_) | refine osplitB rfl (fun h => ?_) (fun h => ?_)) <;> (fail_if_success (simp only [eq_self, reduceCtorEq] at h))) | refine onx ?_ | refine onb ?_ | refine sreg ?_ | refine qT rfl ?_ | refine qF rfl ?_ | refine scondT rfl ?_ | refine scondF rfl ?_ | refine ocondP rfl (fun h => ?_) (fun h => ?_) | refine ocondB rfl (fun h => ?_) (fun h => ?_) | refine scondP rfl (fun h => ?_) (fun h => ?_) | refine scond rfl (fun h => ?_) (fun h => ?_) | refine oskip ?_ | refine oskipb ?_ | refine oret ?_ | refine sem_ret ?_ | refine sem_seq ?_ | refine sreg1 ?_)
  refine sem_block ?_
  
  refine sem_loop (α := Nat) (fun t => ⟨[(1, slOf spansCs th), (2, .ptr 0 0 6 0 0), (5, I t)], [.row 26 0 6 [s.cs]]⟩) (fun t => t ≤ 20 ∧ t ≤ th.length ∧ ∀ j, j < t → (th.getD j default).length ≤ 10) (fun t => 20 - t) 0 ⟨by omega, Nat.zero_le _, fun j hj => absurd hj (Nat.not_lt_zero _)⟩ ?_ ?_
  · (refine Le.same ?_; simp only [List.forall_mem_cons, List.forall_mem_nil, getE, selE, Nat.reduceBEq, List.not_mem_nil, false_implies, implies_true, and_true, true_and, and_self])
    simp [PileSite.cs, slOf]
  · rintro t ⟨ht, htl, hall⟩
    skip
    repeat' (first | ((first | refine o1 rfl ?_ | refine o0 rfl ?_); intro k hk; simp (disch := omega) only [ev0, sl_cells, simprocAttr, slOf]; refine hk _ _ ?_; clear hk k) | refine ono rfl ?_ | ((first | refine osplitG rfl (fun h => ?_) (fun h => ?_) | refine osplitB rfl (fun h => ?_) (fun h => ?_)) <;> (fail_if_success (simp only [eq_self, reduceCtorEq] at h))) | refine onx ?_ | refine onb ?_ | refine sreg ?_ | refine qT rfl ?_ | refine qF rfl ?_ | refine scondT rfl ?_ | refine scondF rfl ?_ | refine ocondP rfl (fun h => ?_) (fun h => ?_) | refine ocondB rfl (fun h => ?_) (fun h => ?_) | refine scondP rfl (fun h => ?_) (fun h => ?_) | refine scond rfl (fun h => ?_) (fun h => ?_) | refine oskip ?_ | refine oskipb ?_ | refine oret ?_ | refine sem_ret ?_ | refine sem_seq ?_ | refine sreg1 ?_)
    all_goals try (
      refine sem_block ?_
      repeat' (first | ((first | refine o1 rfl ?_ | refine o0 rfl ?_); intro k hk; simp (disch := omega) only [ev0, sl_cells, simprocAttr, slOf, spansCs]; refine hk _ _ ?_; clear hk k) | refine ono rfl ?_ | ((first | refine osplitG rfl (fun h => ?_) (fun h => ?_) | refine osplitB rfl (fun h => ?_) (fun h => ?_)) <;> (fail_if_success (simp only [eq_self, reduceCtorEq] at h))) | refine onx ?_ | refine onb ?_ | refine sreg ?_ | refine qT rfl ?_ | refine qF rfl ?_ | refine scondT rfl ?_ | refine scondF rfl ?_ | refine ocondP rfl (fun h => ?_) (fun h => ?_) | refine ocondB rfl (fun h => ?_) (fun h => ?_) | refine scondP rfl (fun h => ?_) (fun h => ?_) | refine scond rfl (fun h => ?_) (fun h => ?_) | refine oskip ?_ | refine oskipb ?_ | refine oret ?_ | refine sem_ret ?_ | refine sem_seq ?_ | refine sreg1 ?_))
    all_goals first
      | (refine onil (lnext (t + 1) ⟨by omega, by omega, fun j hj => ?_⟩ (by omega) ?_)
         · by_cases e : j = t
           · subst e; omega
           · exact hall j (by omega)
         · (refine Le.same ?_; simp only [List.forall_mem_cons, List.forall_mem_nil, getE, selE, Nat.reduceBEq, List.not_mem_nil, false_implies, implies_true, and_true, true_and, and_self])
           simp [slOf])
      | exact ⟨_, rfl, _, rfl, tree_eq rfl (by
          simp only [getE, selE, Nat.reduceBEq]
          exact congrArg AV.bool (decide_eq_false (fun hh => by have := hh.1 t (by omega) (by omega); omega)).symm)⟩
      | skip
    all_goals
      (refine sem_exit ?_; change sem _ _ _ _ _)
      repeat' (first | ((first | refine o1 rfl ?_ | refine o0 rfl ?_); intro k hk; simp (disch := omega) only [ev0, sl_cells, simprocAttr, PileSite.cs, slOf]; refine hk _ _ ?_; clear hk k) | refine ono rfl ?_ | ((first | refine osplitG rfl (fun h => ?_) (fun h => ?_) | refine osplitB rfl (fun h => ?_) (fun h => ?_)) <;> (fail_if_success (simp only [eq_self, reduceCtorEq] at h))) | refine onx ?_ | refine onb ?_ | refine sreg ?_ | refine qT rfl ?_ | refine qF rfl ?_ | refine scondT rfl ?_ | refine scondF rfl ?_ | refine ocondP rfl (fun h => ?_) (fun h => ?_) | refine ocondB rfl (fun h => ?_) (fun h => ?_) | refine scondP rfl (fun h => ?_) (fun h => ?_) | refine scond rfl (fun h => ?_) (fun h => ?_) | refine oskip ?_ | refine oskipb ?_ | refine oret ?_ | refine sem_ret ?_ | refine sem_seq ?_ | refine sreg1 ?_)
    all_goals exact ⟨_, rfl, _, rfl, tree_eq rfl (by
      simp only [getE, selE, Nat.reduceBEq]
      refine congrArg AV.bool ?_
      first
        | (refine (decide_eq_false (fun hh => ?_)).symm; obtain ⟨-, a, b, c, d⟩ := hh; omega)
        | (refine decide_eq_decide.2 ⟨fun hh => ⟨fun j h1 h2 => hall j (by omega), by omega, by omega, by omega, by omega⟩, fun hh => ?_⟩; obtain ⟨-, a, b, c, d⟩ := hh; omega)
        | trace_state)⟩

theorem law02_asked (s : PileSite) (th : List (List Span)) (hs : shortP s th) : Holds Tryd.prog G F.law02_asked [.agg s.cs, slOf spansCs th] (I (askedE s th)) := by
  obtain ⟨-, a, b, c, d⟩ := id hs
  have hr := hs.row
  (refine holds_of_sem hG fn_law02_asked (by simp) fun w0 S0 hG0 D0 => ?_; unfold c_law02_asked cval enterEnv; simp only [List.zipIdx_cons, List.zipIdx_nil, List.map_cons, List.map_nil, Nat.zero_add, Nat.reduceAdd])
  repeat' (first | ((first | refine o1 rfl ?_ | refine o0 rfl ?_); intro k hk; simp (disch := omega) only [ev0, sl_cells, simprocAttr, slOf]; refine hk _ _ ?_; clear hk k) | refine ono rfl ?_ | (apply ocall; (case he => (simp only [ev0, sl_cells, simprocAttr] <;> rfl)); (case hc => first | exact ref02_Site hG s (by omega) (by omega) (by omega) | exact ref02_Thaws hG s th (by omega) (by omega) (fun l hl => by have := hr l hl; omega)); (case ht => rfl); (case hg => rfl)) | ((first | refine osplitG rfl (fun h => ?_) (fun h => ?_) | refine osplitB rfl (fun h => ?_) (fun h => ?_)) <;> (fail_if_success (simp only [eq_self, reduceCtorEq] at h))) | refine onx ?_ | refine onb ?_ | refine sreg ?_ | refine qT rfl ?_ | refine qF rfl ?_ | refine scondT rfl ?_ | refine scondF rfl ?_ | refine ocondP rfl (fun h => ?_) (fun h => ?_) | refine ocondB rfl (fun h => ?_) (fun h => ?_) | refine scondP rfl (fun h => ?_) (fun h => ?_) | refine scond rfl (fun h => ?_) (fun h => ?_) | refine oskip ?_ | refine oskipb ?_ | refine oret ?_ | refine sem_ret ?_ | refine sem_seq ?_ | refine sreg1 ?_)
  all_goals exact ⟨_, rfl, _, rfl, tree_eq rfl (by
    simp only [getE, selE, Nat.reduceBEq]
    refine congrArg (AV.int .i64) ?_
    unfold askedE
    try simp only [Bool.not_eq_true', Bool.not_eq_false', decide_eq_true_eq, decide_eq_false_iff_not] at *
    first
      | (rw [if_pos (by omega)]; done)
      | (rw [if_neg (by omega), if_pos ⟨by assumption, by assumption⟩]; done)
      | (rw [if_neg (by omega), if_neg (by rintro ⟨a, b⟩; simp_all)]; done)
      | trace_state)⟩

theorem law02_planned' (s : PileSite) (th : List (List Span)) (plan : List Int) (hs : shortP s th) : Holds Tryd.prog G F.law02_planned [.agg s.cs, slOf spansCs th, slOf intCs plan] (I (plannedE s th plan)) := by
  obtain ⟨-, a, b, c, d⟩ := id hs
  have hpn : s.ok → s.piles.length ≤ 6 := fun h => h.2.1.2
  have hA : th.length ≤ 10 → ((askedE s th = 0 ∧ s.ok ∧ thawsOk s th) ∨ (askedE s th = 2 ∧ ¬ (s.ok ∧ thawsOk s th))) := fun h => by
    unfold askedE
    rw [if_neg (by omega)]
    split
    · left; exact ⟨rfl, by assumption⟩
    · right; exact ⟨rfl, by assumption⟩
  have hpq : planOk s th plan ↔ ((∀ x ∈ plan, 0 ≤ x ∧ x ≤ 2 ^ s.piles.length - 1) ∧ (plan.length : Int) = th.length) := ⟨fun h => ⟨h.2, by have := h.1; omega⟩, fun h => ⟨by have := h.2; omega, h.1⟩⟩
  (refine holds_of_sem hG fn_law02_planned (by simp) fun w0 S0 hG0 D0 => ?_; unfold c_law02_planned cval enterEnv; simp only [List.zipIdx_cons, List.zipIdx_nil, List.map_cons, List.map_nil, Nat.zero_add, Nat.reduceAdd])
  repeat' (first | ((first | refine o1 rfl ?_ | refine o0 rfl ?_); intro k hk; simp (disch := omega) only [ev0, sl_cells, simprocAttr, slOf]; refine hk _ _ ?_; clear hk k) | refine ono rfl ?_ | (apply ocall; (case he => (simp only [ev0, sl_cells, simprocAttr] <;> rfl)); (case hc => first | exact law02_asked hG s th hs | exact ref02_Plan hG s plan _ (by omega) (by omega)); (case ht => rfl); (case hg => rfl)) | ((first | refine osplitG rfl (fun h => ?_) (fun h => ?_) | refine osplitB rfl (fun h => ?_) (fun h => ?_)) <;> (fail_if_success (simp only [eq_self, reduceCtorEq] at h))) | refine onx ?_ | refine onb ?_ | refine sreg ?_ | refine qT rfl ?_ | refine qF rfl ?_ | refine scondT rfl ?_ | refine scondF rfl ?_ | refine ocondP rfl (fun h => ?_) (fun h => ?_) | refine ocondB rfl (fun h => ?_) (fun h => ?_) | refine scondP rfl (fun h => ?_) (fun h => ?_) | refine scond rfl (fun h => ?_) (fun h => ?_) | refine oskip ?_ | refine oskipb ?_ | refine oret ?_ | refine sem_ret ?_ | refine sem_seq ?_ | refine sreg1 ?_)
  all_goals exact ⟨_, rfl, _, rfl, tree_eq rfl (by
    simp only [getE, selE, Nat.reduceBEq]
    refine congrArg (AV.int .i64) ?_
    unfold plannedE
    first
      | (rw [if_pos (by omega)]; done)
      | (rw [if_neg (by omega)]
         try simp only [Bool.not_eq_true', Bool.not_eq_false', decide_eq_true_eq, decide_eq_false_iff_not, ← hpq] at *
         rcases hA (by omega) with ⟨a0, a1, a2⟩ | ⟨a0, a1⟩
         · by_cases hq : planOk s th plan
           · rw [if_pos ⟨a1, a2, hq⟩]; first | done | contradiction | omega
           · rw [if_neg (fun hh => hq hh.2.2)]; first | done | contradiction | omega
         · rw [if_neg (fun hh => a1 ⟨hh.1, hh.2.1⟩)]; first | done | contradiction | omega)
      | trace_state)⟩

theorem law02_planned (s : PileSite) (th : List (List Span)) (plan : List Int) (hs : shortP s th) (hpl : plan.length ≤ 15) : Holds Tryd.prog G F.law02_planned [.agg s.cs, slOf spansCs th, slOf intCs plan] (I (plannedE s th plan)) := law02_planned' hG s th plan hs

theorem pile_Levels (s : PileSite) (th : List (List Span)) (plan : List Int) (hs : shortP s th) (hpl : plan.length ≤ 15) :
    Holds Tryd.prog G F.pile_Levels [.agg s.cs, slOf spansCs th, slOf intCs plan] (.tup [if plannedE s th plan = 0 then slOf spansCs (levOf s th plan) else .nilsl, I (plannedE s th plan)]) := by
  obtain ⟨-, a, b, c, d⟩ := id hs
  have hrow := hs.row
  have hpn : s.ok → s.piles.length ≤ 6 := fun h => h.2.1.2
  by_cases hlong : 10 < th.length ∨ 10 < plan.length
  · have hP : plannedE s th plan = 3 := by unfold plannedE; rw [if_pos hlong]
    have hg : givenE s th (decide ((10 : Int) < plan.length)) true = 3 := by
      unfold givenE; rw [if_pos (hlong.elim .inl fun h => .inr (decide_eq_true (by omega)))]
    rw [hP]
    (refine holds_of_sem hG fn_pile_Levels (by simp) fun w0 S0 hG0 D0 => ?_; unfold c_pile_Levels cval enterEnv; simp only [List.zipIdx_cons, List.zipIdx_nil, List.map_cons, List.map_nil, Nat.zero_add, Nat.reduceAdd])
    repeat' (first | ((first | refine o1 rfl ?_ | refine o0 rfl ?_); intro k hk; simp (disch := omega) only [ev0, sl_cells, simprocAttr, slOf, PileSite.cs]; refine hk _ _ ?_; clear hk k) | refine ono rfl ?_ | ((first | refine osplitG rfl (fun h => ?_) (fun h => ?_) | refine osplitB rfl (fun h => ?_) (fun h => ?_)) <;> (fail_if_success (simp only [eq_self, reduceCtorEq] at h))) | refine onx ?_ | refine onb ?_ | refine sreg ?_ | refine qT rfl ?_ | refine qF rfl ?_ | refine scondT rfl ?_ | refine scondF rfl ?_ | refine ocondP rfl (fun h => ?_) (fun h => ?_) | refine ocondB rfl (fun h => ?_) (fun h => ?_) | refine scondP rfl (fun h => ?_) (fun h => ?_) | refine scond rfl (fun h => ?_) (fun h => ?_) | refine oskip ?_ | refine oskipb ?_ | refine oret ?_ | refine sem_ret ?_ | refine sem_seq ?_ | refine sreg1 ?_)
    (refine semL_frzbox 1 rfl rfl ?_; simp only [frz_siteCs, frzE, frzM, frzA, frzL, frzO, frz_sl, frz_span, frz_pile, frz_row, frz_pair, frz_site, List.map_cons, List.map_nil, List.set_cons_zero, List.set_cons_succ, Nat.reduceEqDiff, if_true, if_false, and_self, Nat.reduceLT, Nat.reduceLeDiff, reduceIte, Nat.le_refl])
    repeat' (first | ((first | refine o1 rfl ?_ | refine o0 rfl ?_); intro k hk; simp (disch := omega) only [ev0, sl_cells, simprocAttr, slOf, hg, Int.reduceEq]; refine hk _ _ ?_; clear hk k) | refine ono rfl ?_ | (apply ocall; (case he => (simp only [ev0, sl_cells, simprocAttr] <;> rfl)); (case hc => first | exact pile_site_given hG s th _ true (by omega) (by omega) (by omega) (by omega) (fun _ l hl => by have := hrow l hl; omega)); (case ht => rfl); (case hg => rfl)) | ((first | refine osplitG rfl (fun h => ?_) (fun h => ?_) | refine osplitB rfl (fun h => ?_) (fun h => ?_)) <;> (fail_if_success (simp only [eq_self, reduceCtorEq] at h))) | refine onx ?_ | refine onb ?_ | refine sreg ?_ | refine qT rfl ?_ | refine qF rfl ?_ | refine scondT rfl ?_ | refine scondF rfl ?_ | refine ocondP rfl (fun h => ?_) (fun h => ?_) | refine ocondB rfl (fun h => ?_) (fun h => ?_) | refine scondP rfl (fun h => ?_) (fun h => ?_) | refine scond rfl (fun h => ?_) (fun h => ?_) | refine oskip ?_ | refine oskipb ?_ | refine oret ?_ | refine sem_ret ?_ | refine sem_seq ?_ | refine sreg1 ?_)
    skip
    exact ⟨_, rfl, _, rfl, tree_eq rfl rfl⟩
  · have hnl : ¬ (10 < th.length ∨ decide ((10 : Int) < plan.length) = true) := by simp only [decide_eq_true_eq]; omega
    by_cases hok : s.ok ∧ thawsOk s th
    · have hg : givenE s th (decide ((10 : Int) < plan.length)) true = 0 := by
        unfold givenE; rw [if_neg hnl, if_pos ⟨hok.1, rfl, hok.2⟩]
      by_cases hq : planOk s th plan
      · have hP : plannedE s th plan = 0 := by unfold plannedE; rw [if_neg hlong, if_pos ⟨hok.1, hok.2, hq⟩]
        rw [hP]
        have hd := decide_eq_true hq
        (refine holds_of_sem hG fn_pile_Levels (by simp) fun w0 S0 hG0 D0 => ?_; unfold c_pile_Levels cval enterEnv; simp only [List.zipIdx_cons, List.zipIdx_nil, List.map_cons, List.map_nil, Nat.zero_add, Nat.reduceAdd])
        repeat' (first | ((first | refine o1 rfl ?_ | refine o0 rfl ?_); intro k hk; simp (disch := omega) only [ev0, sl_cells, simprocAttr, slOf, PileSite.cs]; refine hk _ _ ?_; clear hk k) | refine ono rfl ?_ | ((first | refine osplitG rfl (fun h => ?_) (fun h => ?_) | refine osplitB rfl (fun h => ?_) (fun h => ?_)) <;> (fail_if_success (simp only [eq_self, reduceCtorEq] at h))) | refine onx ?_ | refine onb ?_ | refine sreg ?_ | refine qT rfl ?_ | refine qF rfl ?_ | refine scondT rfl ?_ | refine scondF rfl ?_ | refine ocondP rfl (fun h => ?_) (fun h => ?_) | refine ocondB rfl (fun h => ?_) (fun h => ?_) | refine scondP rfl (fun h => ?_) (fun h => ?_) | refine scond rfl (fun h => ?_) (fun h => ?_) | refine oskip ?_ | refine oskipb ?_ | refine oret ?_ | refine sem_ret ?_ | refine sem_seq ?_ | refine sreg1 ?_)
        (refine semL_frzbox 1 rfl rfl ?_; simp only [frz_siteCs, frzE, frzM, frzA, frzL, frzO, frz_sl, frz_span, frz_pile, frz_row, frz_pair, frz_site, List.map_cons, List.map_nil, List.set_cons_zero, List.set_cons_succ, Nat.reduceEqDiff, if_true, if_false, and_self, Nat.reduceLT, Nat.reduceLeDiff, reduceIte, Nat.le_refl])
        repeat' (first | ((first | refine o1 rfl ?_ | refine o0 rfl ?_); intro k hk; simp (disch := omega) only [ev0, sl_cells, simprocAttr, slOf, hg, hd, Int.reduceEq]; refine hk _ _ ?_; clear hk k) | refine ono rfl ?_ | (apply ocall; (case he => (simp only [ev0, sl_cells, simprocAttr] <;> rfl)); (case hc => first | exact pile_site_given hG s th _ true (by omega) (by omega) (by omega) (by omega) (fun _ l hl => by have := hrow l hl; omega) | exact pile_site_planned hG s th plan (hpn hok.1) (by omega) (by omega) | exact pile_site_levels hG s hok.1 th hok.2 (by omega) plan hq); (case ht => rfl); (case hg => rfl)) | ((first | refine osplitG rfl (fun h => ?_) (fun h => ?_) | refine osplitB rfl (fun h => ?_) (fun h => ?_)) <;> (fail_if_success (simp only [eq_self, reduceCtorEq] at h))) | refine onx ?_ | refine onb ?_ | refine sreg ?_ | refine qT rfl ?_ | refine qF rfl ?_ | refine scondT rfl ?_ | refine scondF rfl ?_ | refine ocondP rfl (fun h => ?_) (fun h => ?_) | refine ocondB rfl (fun h => ?_) (fun h => ?_) | refine scondP rfl (fun h => ?_) (fun h => ?_) | refine scond rfl (fun h => ?_) (fun h => ?_) | refine oskip ?_ | refine oskipb ?_ | refine oret ?_ | refine sem_ret ?_ | refine sem_seq ?_ | refine sreg1 ?_)
        skip
        exact ⟨_, rfl, _, rfl, tree_eq rfl rfl⟩
      · have hP : plannedE s th plan = 2 := by unfold plannedE; rw [if_neg hlong, if_neg (fun hh => hq hh.2.2)]
        rw [hP]
        have hd := decide_eq_false hq
        (refine holds_of_sem hG fn_pile_Levels (by simp) fun w0 S0 hG0 D0 => ?_; unfold c_pile_Levels cval enterEnv; simp only [List.zipIdx_cons, List.zipIdx_nil, List.map_cons, List.map_nil, Nat.zero_add, Nat.reduceAdd])
        repeat' (first | ((first | refine o1 rfl ?_ | refine o0 rfl ?_); intro k hk; simp (disch := omega) only [ev0, sl_cells, simprocAttr, slOf, PileSite.cs]; refine hk _ _ ?_; clear hk k) | refine ono rfl ?_ | ((first | refine osplitG rfl (fun h => ?_) (fun h => ?_) | refine osplitB rfl (fun h => ?_) (fun h => ?_)) <;> (fail_if_success (simp only [eq_self, reduceCtorEq] at h))) | refine onx ?_ | refine onb ?_ | refine sreg ?_ | refine qT rfl ?_ | refine qF rfl ?_ | refine scondT rfl ?_ | refine scondF rfl ?_ | refine ocondP rfl (fun h => ?_) (fun h => ?_) | refine ocondB rfl (fun h => ?_) (fun h => ?_) | refine scondP rfl (fun h => ?_) (fun h => ?_) | refine scond rfl (fun h => ?_) (fun h => ?_) | refine oskip ?_ | refine oskipb ?_ | refine oret ?_ | refine sem_ret ?_ | refine sem_seq ?_ | refine sreg1 ?_)
        (refine semL_frzbox 1 rfl rfl ?_; simp only [frz_siteCs, frzE, frzM, frzA, frzL, frzO, frz_sl, frz_span, frz_pile, frz_row, frz_pair, frz_site, List.map_cons, List.map_nil, List.set_cons_zero, List.set_cons_succ, Nat.reduceEqDiff, if_true, if_false, and_self, Nat.reduceLT, Nat.reduceLeDiff, reduceIte, Nat.le_refl])
        repeat' (first | ((first | refine o1 rfl ?_ | refine o0 rfl ?_); intro k hk; simp (disch := omega) only [ev0, sl_cells, simprocAttr, slOf, hg, hd, Int.reduceEq]; refine hk _ _ ?_; clear hk k) | refine ono rfl ?_ | (apply ocall; (case he => (simp only [ev0, sl_cells, simprocAttr] <;> rfl)); (case hc => first | exact pile_site_given hG s th _ true (by omega) (by omega) (by omega) (by omega) (fun _ l hl => by have := hrow l hl; omega) | exact pile_site_planned hG s th plan (hpn hok.1) (by omega) (by omega)); (case ht => rfl); (case hg => rfl)) | ((first | refine osplitG rfl (fun h => ?_) (fun h => ?_) | refine osplitB rfl (fun h => ?_) (fun h => ?_)) <;> (fail_if_success (simp only [eq_self, reduceCtorEq] at h))) | refine onx ?_ | refine onb ?_ | refine sreg ?_ | refine qT rfl ?_ | refine qF rfl ?_ | refine scondT rfl ?_ | refine scondF rfl ?_ | refine ocondP rfl (fun h => ?_) (fun h => ?_) | refine ocondB rfl (fun h => ?_) (fun h => ?_) | refine scondP rfl (fun h => ?_) (fun h => ?_) | refine scond rfl (fun h => ?_) (fun h => ?_) | refine oskip ?_ | refine oskipb ?_ | refine oret ?_ | refine sem_ret ?_ | refine sem_seq ?_ | refine sreg1 ?_)
        exact ⟨_, rfl, _, rfl, tree_eq rfl rfl⟩
    · have hg : givenE s th (decide ((10 : Int) < plan.length)) true = 2 := by
        unfold givenE; rw [if_neg hnl, if_neg (fun hh => hok ⟨hh.1, hh.2.2⟩)]
      have hP : plannedE s th plan = 2 := by unfold plannedE; rw [if_neg hlong, if_neg (fun hh => hok ⟨hh.1, hh.2.1⟩)]
      rw [hP]
      (refine holds_of_sem hG fn_pile_Levels (by simp) fun w0 S0 hG0 D0 => ?_; unfold c_pile_Levels cval enterEnv; simp only [List.zipIdx_cons, List.zipIdx_nil, List.map_cons, List.map_nil, Nat.zero_add, Nat.reduceAdd])
      repeat' (first | ((first | refine o1 rfl ?_ | refine o0 rfl ?_); intro k hk; simp (disch := omega) only [ev0, sl_cells, simprocAttr, slOf, PileSite.cs]; refine hk _ _ ?_; clear hk k) | refine ono rfl ?_ | ((first | refine osplitG rfl (fun h => ?_) (fun h => ?_) | refine osplitB rfl (fun h => ?_) (fun h => ?_)) <;> (fail_if_success (simp only [eq_self, reduceCtorEq] at h))) | refine onx ?_ | refine onb ?_ | refine sreg ?_ | refine qT rfl ?_ | refine qF rfl ?_ | refine scondT rfl ?_ | refine scondF rfl ?_ | refine ocondP rfl (fun h => ?_) (fun h => ?_) | refine ocondB rfl (fun h => ?_) (fun h => ?_) | refine scondP rfl (fun h => ?_) (fun h => ?_) | refine scond rfl (fun h => ?_) (fun h => ?_) | refine oskip ?_ | refine oskipb ?_ | refine oret ?_ | refine sem_ret ?_ | refine sem_seq ?_ | refine sreg1 ?_)
      (refine semL_frzbox 1 rfl rfl ?_; simp only [frz_siteCs, frzE, frzM, frzA, frzL, frzO, frz_sl, frz_span, frz_pile, frz_row, frz_pair, frz_site, List.map_cons, List.map_nil, List.set_cons_zero, List.set_cons_succ, Nat.reduceEqDiff, if_true, if_false, and_self, Nat.reduceLT, Nat.reduceLeDiff, reduceIte, Nat.le_refl])
      repeat' (first | ((first | refine o1 rfl ?_ | refine o0 rfl ?_); intro k hk; simp (disch := omega) only [ev0, sl_cells, simprocAttr, slOf, hg, Int.reduceEq]; refine hk _ _ ?_; clear hk k) | refine ono rfl ?_ | (apply ocall; (case he => (simp only [ev0, sl_cells, simprocAttr] <;> rfl)); (case hc => first | exact pile_site_given hG s th _ true (by omega) (by omega) (by omega) (by omega) (fun _ l hl => by have := hrow l hl; omega)); (case ht => rfl); (case hg => rfl)) | ((first | refine osplitG rfl (fun h => ?_) (fun h => ?_) | refine osplitB rfl (fun h => ?_) (fun h => ?_)) <;> (fail_if_success (simp only [eq_self, reduceCtorEq] at h))) | refine onx ?_ | refine onb ?_ | refine sreg ?_ | refine qT rfl ?_ | refine qF rfl ?_ | refine scondT rfl ?_ | refine scondF rfl ?_ | refine ocondP rfl (fun h => ?_) (fun h => ?_) | refine ocondB rfl (fun h => ?_) (fun h => ?_) | refine scondP rfl (fun h => ?_) (fun h => ?_) | refine scond rfl (fun h => ?_) (fun h => ?_) | refine oskip ?_ | refine oskipb ?_ | refine oret ?_ | refine sem_ret ?_ | refine sem_seq ?_ | refine sreg1 ?_)
      exact ⟨_, rfl, _, rfl, tree_eq rfl rfl⟩
end Go.Proofs.YtibgfmhddcibcaaDoor

set_option linter.unusedVariables false
set_option linter.unusedSimpArgs false
set_option maxRecDepth 8000
/- The law PileLevels, over trees. -/
namespace Go.Tk
open Go Go.Av
theorem lev_len {s : PileSite} {th : List (List Span)} {plan : List Int} : (levOf s th plan).length = plan.length := by simp [levOf]
theorem lev_row {s : PileSite} {th : List (List Span)} {plan : List Int} {t : Nat} (h : t < plan.length) : (levOf s th plan).getD t default = levRow s th (fun y => plan.getD y default) t := getD_range h
theorem lev_rlen {s : PileSite} {th : List (List Span)} {pl : Nat → Int} {t : Nat} : (levRow s th pl t).length = s.piles.length := by simp [levRow]
end Go.Tk
namespace Go.Proofs.YtibgfmhddcibcaaDoor
open Go Go.Av Go.Tk
attribute [local irreducible] Holds sem semL ACalls FnIs
variable {G : World → Prop} (hG : ∀ w w', G w → RowKit.Below w.heap.size w w' → G w') (hT : ∀ w, G w → GT w)
include hG hT

theorem law02_PileLevels (s : PileSite) (th : List (List Span)) (plan : List Int) : Holds Tryd.prog G F.law02_PileLevels [.agg s.cs, slOf spansCs th, slOf intCs plan] (B true) := by
  by_cases hs : shortP s th
  · have hsd := decide_eq_true hs
    by_cases hl : plan.length ≤ 15
    · by_cases he : plannedE s th plan = 0
      · obtain ⟨ok, tok, pok, t10⟩ := planned_0 he
        have hn : s.piles.length ≤ 6 := ok.2.1.2
        have hlev : (if plannedE s th plan = 0 then slOf spansCs (levOf s th plan) else AV.nilsl) = slOf spansCs (levOf s th plan) := if_pos he
        have hr := ref02_Levels hG s ok th tok (by omega) plan pok
        rw [← lev_ref pok.1] at hr
        have hsame := ref02_SameSpans hG (levOf s th plan) (by rw [lev_len]; omega) (fun t h => by rw [lev_len] at h; rw [lev_row h, lev_rlen]; omega)
        (refine holds_of_sem hG fn_law02_PileLevels (by simp) fun w0 S0 hG0 D0 => ?_; unfold c_law02_PileLevels cval enterEnv; simp only [List.zipIdx_cons, List.zipIdx_nil, List.map_cons, List.map_nil, Nat.zero_add, Nat.reduceAdd])
        repeat' (first | ((first | refine o1 rfl ?_ | refine o0 rfl ?_); intro k hk; simp (disch := omega) only [ev0, sl_cells, simprocAttr, slOf, hsd, he, hlev, Int.reduceEq, PileSite.cs]; refine hk _ _ ?_; clear hk k) | refine ono rfl ?_ | (apply ocall; (case he => (simp only [ev0, sl_cells, simprocAttr] <;> rfl)); (case hc => first | exact law02_known hG hT | exact law02_short hG s th | exact law02_planned hG s th plan hs hl | exact pile_Levels hG s th plan hs hl | exact hr | exact hsame); (case ht => rfl); (case hg => rfl)) | ((first | refine osplitG rfl (fun h => ?_) (fun h => ?_) | refine osplitB rfl (fun h => ?_) (fun h => ?_)) <;> (fail_if_success (simp only [eq_self, reduceCtorEq] at h))) | refine onx ?_ | refine onb ?_ | refine sreg ?_ | refine qT rfl ?_ | refine qF rfl ?_ | refine scondT rfl ?_ | refine scondF rfl ?_ | refine ocondP rfl (fun h => ?_) (fun h => ?_) | refine ocondB rfl (fun h => ?_) (fun h => ?_) | refine scondP rfl (fun h => ?_) (fun h => ?_) | refine scond rfl (fun h => ?_) (fun h => ?_) | refine oskip ?_ | refine oskipb ?_ | refine oret ?_ | refine sem_ret ?_ | refine sem_seq ?_ | refine sreg1 ?_)
        all_goals first
          | exact ⟨_, rfl, _, rfl, tree_eq rfl rfl⟩
          | (exfalso; (try simp only [Bool.not_eq_true', Bool.not_eq_false', decide_eq_true_eq, decide_eq_false_iff_not, ne_eq, Decidable.not_not] at *); first | omega | contradiction | (simp only [*, Bool.true_eq_false, Bool.false_eq_true] at *; done))
      · have hlev : (if plannedE s th plan = 0 then slOf spansCs (levOf s th plan) else AV.nilsl) = AV.nilsl := if_neg he
        (refine holds_of_sem hG fn_law02_PileLevels (by simp) fun w0 S0 hG0 D0 => ?_; unfold c_law02_PileLevels cval enterEnv; simp only [List.zipIdx_cons, List.zipIdx_nil, List.map_cons, List.map_nil, Nat.zero_add, Nat.reduceAdd])
        repeat' (first | ((first | refine o1 rfl ?_ | refine o0 rfl ?_); intro k hk; simp (disch := omega) only [ev0, sl_cells, simprocAttr, slOf, hsd, he, hlev, eq_self, PileSite.cs]; refine hk _ _ ?_; clear hk k) | refine ono rfl ?_ | (apply ocall; (case he => (simp only [ev0, sl_cells, simprocAttr] <;> rfl)); (case hc => first | exact law02_known hG hT | exact law02_short hG s th | exact law02_planned hG s th plan hs hl | exact pile_Levels hG s th plan hs hl); (case ht => rfl); (case hg => rfl)) | ((first | refine osplitG rfl (fun h => ?_) (fun h => ?_) | refine osplitB rfl (fun h => ?_) (fun h => ?_)) <;> (fail_if_success (simp only [eq_self, reduceCtorEq] at h))) | refine onx ?_ | refine onb ?_ | refine sreg ?_ | refine qT rfl ?_ | refine qF rfl ?_ | refine scondT rfl ?_ | refine scondF rfl ?_ | refine ocondP rfl (fun h => ?_) (fun h => ?_) | refine ocondB rfl (fun h => ?_) (fun h => ?_) | refine scondP rfl (fun h => ?_) (fun h => ?_) | refine scond rfl (fun h => ?_) (fun h => ?_) | refine oskip ?_ | refine oskipb ?_ | refine oret ?_ | refine sem_ret ?_ | refine sem_seq ?_ | refine sreg1 ?_)
        all_goals first
          | exact ⟨_, rfl, _, rfl, tree_eq rfl rfl⟩
          | (exfalso; (try simp only [Bool.not_eq_true', Bool.not_eq_false', decide_eq_true_eq, decide_eq_false_iff_not, ne_eq, Decidable.not_not] at *); first | omega | contradiction | (simp only [*, Bool.true_eq_false, Bool.false_eq_true] at *; done))
    · (refine holds_of_sem hG fn_law02_PileLevels (by simp) fun w0 S0 hG0 D0 => ?_; unfold c_law02_PileLevels cval enterEnv; simp only [List.zipIdx_cons, List.zipIdx_nil, List.map_cons, List.map_nil, Nat.zero_add, Nat.reduceAdd])
      repeat' (first | ((first | refine o1 rfl ?_ | refine o0 rfl ?_); intro k hk; simp (disch := omega) only [ev0, sl_cells, simprocAttr, slOf, hsd, PileSite.cs]; refine hk _ _ ?_; clear hk k) | refine ono rfl ?_ | (apply ocall; (case he => (simp only [ev0, sl_cells, simprocAttr] <;> rfl)); (case hc => first | exact law02_known hG hT | exact law02_short hG s th); (case ht => rfl); (case hg => rfl)) | ((first | refine osplitG rfl (fun h => ?_) (fun h => ?_) | refine osplitB rfl (fun h => ?_) (fun h => ?_)) <;> (fail_if_success (simp only [eq_self, reduceCtorEq] at h))) | refine onx ?_ | refine onb ?_ | refine sreg ?_ | refine qT rfl ?_ | refine qF rfl ?_ | refine scondT rfl ?_ | refine scondF rfl ?_ | refine ocondP rfl (fun h => ?_) (fun h => ?_) | refine ocondB rfl (fun h => ?_) (fun h => ?_) | refine scondP rfl (fun h => ?_) (fun h => ?_) | refine scond rfl (fun h => ?_) (fun h => ?_) | refine oskip ?_ | refine oskipb ?_ | refine oret ?_ | refine sem_ret ?_ | refine sem_seq ?_ | refine sreg1 ?_)
      all_goals first
        | exact ⟨_, rfl, _, rfl, tree_eq rfl rfl⟩
        | (exfalso; (try simp only [Bool.not_eq_true', Bool.not_eq_false', decide_eq_true_eq, decide_eq_false_iff_not, ne_eq, Decidable.not_not] at *); first | omega | contradiction | (simp only [*, Bool.true_eq_false, Bool.false_eq_true] at *; done))
  · have hsd := decide_eq_false hs
    (refine holds_of_sem hG fn_law02_PileLevels (by simp) fun w0 S0 hG0 D0 => ?_; unfold c_law02_PileLevels cval enterEnv; simp only [List.zipIdx_cons, List.zipIdx_nil, List.map_cons, List.map_nil, Nat.zero_add, Nat.reduceAdd])
    repeat' (first | ((first | refine o1 rfl ?_ | refine o0 rfl ?_); intro k hk; simp (disch := omega) only [ev0, sl_cells, simprocAttr, slOf, hsd, PileSite.cs]; refine hk _ _ ?_; clear hk k) | refine ono rfl ?_ | (apply ocall; (case he => (simp only [ev0, sl_cells, simprocAttr] <;> rfl)); (case hc => first | exact law02_known hG hT | exact law02_short hG s th); (case ht => rfl); (case hg => rfl)) | ((first | refine osplitG rfl (fun h => ?_) (fun h => ?_) | refine osplitB rfl (fun h => ?_) (fun h => ?_)) <;> (fail_if_success (simp only [eq_self, reduceCtorEq] at h))) | refine onx ?_ | refine onb ?_ | refine sreg ?_ | refine qT rfl ?_ | refine qF rfl ?_ | refine scondT rfl ?_ | refine scondF rfl ?_ | refine ocondP rfl (fun h => ?_) (fun h => ?_) | refine ocondB rfl (fun h => ?_) (fun h => ?_) | refine scondP rfl (fun h => ?_) (fun h => ?_) | refine scond rfl (fun h => ?_) (fun h => ?_) | refine oskip ?_ | refine oskipb ?_ | refine oret ?_ | refine sem_ret ?_ | refine sem_seq ?_ | refine sreg1 ?_)
    all_goals first
      | exact ⟨_, rfl, _, rfl, tree_eq rfl rfl⟩
      | (exfalso; (try simp only [Bool.not_eq_true', Bool.not_eq_false', decide_eq_true_eq, decide_eq_false_iff_not, ne_eq, Decidable.not_not] at *); first | omega | contradiction | (simp only [*, Bool.true_eq_false, Bool.false_eq_true] at *; done))
end Go.Proofs.YtibgfmhddcibcaaDoor

set_option linter.unusedVariables false
set_option linter.unusedSimpArgs false
set_option maxRecDepth 8000
set_option maxHeartbeats 1000000
/- What an error of none says. -/
namespace Go.Tk
open Go Go.Av
theorem given_asked {s : PileSite} {th : List (List Span)} : givenE s th false true = askedE s th := by
  unfold givenE askedE
  simp
theorem asked_0 {s : PileSite} {th : List (List Span)} (h : askedE s th = 0) : s.ok ∧ thawsOk s th ∧ th.length ≤ 10 := by
  unfold askedE at h
  split at h
  · cases h
  · split at h
    · rename_i h1 h2; exact ⟨h2.1, h2.2, by omega⟩
    · cases h
end Go.Tk

set_option linter.unusedVariables false
set_option linter.unusedSimpArgs false
set_option maxRecDepth 8000
set_option maxHeartbeats 1000000
/- A list is the same as itself. -/
namespace Go.Proofs.YtibgfmhddcibcaaDoor
open Go Go.Av Go.Tk
attribute [local irreducible] Holds sem semL ACalls FnIs
variable {G : World → Prop} (hG : ∀ w w', G w → RowKit.Below w.heap.size w w' → G w')
include hG
theorem ref02_Same (a : List Int) (ha : a.length ≤ 1000) : Holds Tryd.prog G F.ref02_Same [slOf intCs a, slOf intCs a] (B true) := by
  (refine holds_of_sem hG fn_ref02_Same (by simp) fun w0 S0 hG0 D0 => ?_; unfold c_ref02_Same cval enterEnv; simp only [List.zipIdx_cons, List.zipIdx_nil, List.map_cons, List.map_nil, Nat.zero_add, Nat.reduceAdd])
  repeat' (first | ((first | refine o1 rfl ?_ | refine o0 rfl ?_); intro k hk; simp (disch := omega) only [ev0, sl_cells, simprocAttr, slOf, eq_self]; refine hk _ _ ?_; clear hk k) | refine ono rfl ?_ | ((first | refine osplitG rfl (fun h => ?_) (fun h => ?_) | refine osplitB rfl (fun h => ?_) (fun h => ?_)) <;> (fail_if_success (simp only [eq_self, reduceCtorEq] at h))) | refine onx ?_ | refine onb ?_ | refine sreg ?_ | refine qT rfl ?_ | refine qF rfl ?_ | refine scondT rfl ?_ | refine scondF rfl ?_ | refine ocondP rfl (fun h => ?_) (fun h => ?_) | refine ocondB rfl (fun h => ?_) (fun h => ?_) | refine scondP rfl (fun h => ?_) (fun h => ?_) | refine scond rfl (fun h => ?_) (fun h => ?_) | refine oskip ?_ | refine oskipb ?_ | refine oret ?_ | refine sem_ret ?_ | refine sem_seq ?_ | refine sreg1 ?_)
  refine sem_block ?_
  
  refine sem_loop (α := Nat) (fun t => ⟨[(0, slOf intCs a), (1, slOf intCs a), (5, I t)], []⟩) (fun t => t ≤ a.length) (fun t => a.length - t) 0 (Nat.zero_le _) ?_ ?_
  · (refine Le.same ?_; simp only [List.forall_mem_cons, List.forall_mem_nil, getE, selE, Nat.reduceBEq, List.not_mem_nil, false_implies, implies_true, and_true, true_and, and_self])
    simp [slOf]
  · intro t htl
    skip
    repeat' (first | ((first | refine o1 rfl ?_ | refine o0 rfl ?_); intro k hk; simp (disch := omega) only [ev0, sl_cells, simprocAttr, slOf]; refine hk _ _ ?_; clear hk k) | refine ono rfl ?_ | ((first | refine osplitG rfl (fun h => ?_) (fun h => ?_) | refine osplitB rfl (fun h => ?_) (fun h => ?_)) <;> (fail_if_success (simp only [eq_self, reduceCtorEq] at h))) | refine onx ?_ | refine onb ?_ | refine sreg ?_ | refine qT rfl ?_ | refine qF rfl ?_ | refine scondT rfl ?_ | refine scondF rfl ?_ | refine ocondP rfl (fun h => ?_) (fun h => ?_) | refine ocondB rfl (fun h => ?_) (fun h => ?_) | refine scondP rfl (fun h => ?_) (fun h => ?_) | refine scond rfl (fun h => ?_) (fun h => ?_) | refine oskip ?_ | refine oskipb ?_ | refine oret ?_ | refine sem_ret ?_ | refine sem_seq ?_ | refine sreg1 ?_)
    · have htl' : t < a.length := by omega
      refine sem_block ?_
      repeat' (first | ((first | refine o1 rfl ?_ | refine o0 rfl ?_); intro k hk; simp (disch := omega) only [ev0, sl_cells, simprocAttr]; refine hk _ _ ?_; clear hk k) | refine ono rfl ?_ | ((first | refine osplitG rfl (fun h => ?_) (fun h => ?_) | refine osplitB rfl (fun h => ?_) (fun h => ?_)) <;> (fail_if_success (simp only [eq_self, reduceCtorEq] at h))) | refine onx ?_ | refine onb ?_ | refine sreg ?_ | refine qT rfl ?_ | refine qF rfl ?_ | refine scondT rfl ?_ | refine scondF rfl ?_ | refine ocondP rfl (fun h => ?_) (fun h => ?_) | refine ocondB rfl (fun h => ?_) (fun h => ?_) | refine scondP rfl (fun h => ?_) (fun h => ?_) | refine scond rfl (fun h => ?_) (fun h => ?_) | refine oskip ?_ | refine oskipb ?_ | refine oret ?_ | refine sem_ret ?_ | refine sem_seq ?_ | refine sreg1 ?_)
      ((refine sem_mgo 8 hmix (by kernel_rfl) ?_; simp only [List.take_succ_cons, List.take_zero, List.drop_succ_cons, List.drop_zero, List.take_nil, List.drop_nil]); (repeat' (first | ((first | apply mop | apply mop0); (case hg => rfl); (case hq => rfl); intro k hk; simp (disch := omega) only [ev0, sl_cells, simprocAttr, slOf, intCs, eq_self]; refine hk _ _ rfl ?_; clear hk k) | (apply mno; (case hg => rfl)) | (apply mbox; (case hx => (simp only [wv, simprocAttr] <;> rfl)); (case hg => rfl); (case hall => rfl); (case hr => rfl); simp only [cellsOf, List.length_cons, List.length_nil, Nat.reduceAdd, Nat.zero_add, List.nil_append, List.cons_append, List.set_cons_zero, List.set_cons_succ, chunks, List.take_succ_cons, List.take_zero, List.drop_succ_cons, List.drop_zero]) | (apply mbldS; (case hb => (simp (disch := omega) only [ev0, sl_cells, simprocAttr] <;> rfl)); (case hg => rfl); (case hr => rfl); simp only [cellsOf, List.length_cons, List.length_nil, Nat.reduceAdd, Nat.zero_add, List.nil_append, List.cons_append, List.set_cons_zero, List.set_cons_succ, chunks, List.take_succ_cons, List.take_zero, List.drop_succ_cons, List.drop_zero]) | ((first | (apply msto (q := 0); (case hq => rfl)) | (apply msto (q := 1); (case hq => rfl)) | (apply msto (q := 2); (case hq => rfl)) | (apply msto (q := 3); (case hq => rfl))); (case hx => (simp only [wv, simprocAttr] <;> rfl)); (case haddr => (simp only [wv, simprocAttr] <;> rfl)); (case hg => rfl); (case hl1 => rfl); (case hl2 => rfl); (case hok => rfl); (case hr => rfl); simp only [cellsOf, List.length_cons, List.length_nil, Nat.reduceAdd, Nat.zero_add, List.nil_append, List.cons_append, List.set_cons_zero, List.set_cons_succ, chunks, List.take_succ_cons, List.take_zero, List.drop_succ_cons, List.drop_zero]) | (apply mnil; simp only [SlotR.fin, List.map_cons, List.map_nil, List.cons_append, List.nil_append, List.append_nil]) | (refine msplit rfl (fun h => ?_) (fun h => ?_) <;> simp only [h] <;> (try simp only [Bool.not_eq_true', Bool.not_eq_false', decide_eq_true_eq, decide_eq_false_iff_not] at h)))) <;> (repeat' (first | ((first | refine o1 rfl ?_ | refine o0 rfl ?_); intro k hk; simp (disch := omega) only [ev0, sl_cells, simprocAttr, slOf, intCs, eq_self]; refine hk _ _ ?_; clear hk k) | refine ono rfl ?_ | ((first | refine osplitG rfl (fun h => ?_) (fun h => ?_) | refine osplitB rfl (fun h => ?_) (fun h => ?_)) <;> (fail_if_success (simp only [eq_self, reduceCtorEq] at h))) | refine onx ?_ | refine onb ?_ | refine sreg ?_ | refine qT rfl ?_ | refine qF rfl ?_ | refine scondT rfl ?_ | refine scondF rfl ?_ | refine ocondP rfl (fun h => ?_) (fun h => ?_) | refine ocondB rfl (fun h => ?_) (fun h => ?_) | refine scondP rfl (fun h => ?_) (fun h => ?_) | refine scond rfl (fun h => ?_) (fun h => ?_) | refine oskip ?_ | refine oskipb ?_ | refine oret ?_ | refine sem_ret ?_ | refine sem_seq ?_ | refine sreg1 ?_)))
      refine onil (lnext (t + 1) (by omega) (by omega) ?_)
      (refine Le.same ?_; simp only [List.forall_mem_cons, List.forall_mem_nil, getE, selE, Nat.reduceBEq, List.not_mem_nil, false_implies, implies_true, and_true, true_and, and_self])
      simp [slOf]
    · (refine sem_exit ?_; change sem _ _ _ _ _)
      repeat' (first | ((first | refine o1 rfl ?_ | refine o0 rfl ?_); intro k hk; simp (disch := omega) only [ev0, sl_cells, simprocAttr]; refine hk _ _ ?_; clear hk k) | refine ono rfl ?_ | ((first | refine osplitG rfl (fun h => ?_) (fun h => ?_) | refine osplitB rfl (fun h => ?_) (fun h => ?_)) <;> (fail_if_success (simp only [eq_self, reduceCtorEq] at h))) | refine onx ?_ | refine onb ?_ | refine sreg ?_ | refine qT rfl ?_ | refine qF rfl ?_ | refine scondT rfl ?_ | refine scondF rfl ?_ | refine ocondP rfl (fun h => ?_) (fun h => ?_) | refine ocondB rfl (fun h => ?_) (fun h => ?_) | refine scondP rfl (fun h => ?_) (fun h => ?_) | refine scond rfl (fun h => ?_) (fun h => ?_) | refine oskip ?_ | refine oskipb ?_ | refine oret ?_ | refine sem_ret ?_ | refine sem_seq ?_ | refine sreg1 ?_)
      exact ⟨_, rfl, _, rfl, tree_eq rfl rfl⟩

end Go.Proofs.YtibgfmhddcibcaaDoor
