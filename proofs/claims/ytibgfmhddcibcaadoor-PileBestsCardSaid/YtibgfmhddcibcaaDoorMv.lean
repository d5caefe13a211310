import Derived.Test.YtibgfmhddcibcaaDoorMi
import Derived.Test.YtibgfmhddcibcaaDoorMj
set_option linter.unusedVariables false
set_option linter.unusedSimpArgs false
set_option maxRecDepth 8000
set_option maxHeartbeats 2000000
/- Spots: the year and the levels of six piles in thirteen cells; the year's end, jackings, what they cost. -/
namespace Go.Tk
open Go Go.Av
def spotL (y : Int) (f : Nat → Int) : List AV := .int .i64 y :: (List.range 12).map fun q => .int .i64 (f q)
section
variable {y : Int} {f g : Nat → Int} {o : Nat}
theorem spot_len : (spotL y f).length = 13 := rfl
theorem spot_get0 : (spotL y f)[0]? = some (.int .i64 y) := rfl
theorem spot_get (h : 1 ≤ o ∧ o < 13) : (spotL y f)[o]? = some (.int .i64 (f (o - 1))) := by
  obtain ⟨q, rfl⟩ : ∃ q, o = q + 1 := ⟨o - 1, by omega⟩
  unfold spotL
  rw [List.getElem?_cons_succ, List.getElem?_map, List.getElem?_range (by omega)]
  rfl
theorem spot_take : List.take 13 (spotL y f) = spotL y f := rfl
theorem spot_drop : List.drop 13 (spotL y f) = [] := rfl
theorem spot_ext (h : ∀ q, q < 12 → f q = g q) : spotL y f = spotL y g := by
  unfold spotL
  congr 1
  exact List.map_congr_left fun q hq => by rw [h q (List.mem_range.1 hq)]
theorem spot_list {l : List AV} (hl : l.length = 13) (h0 : l[0]? = some (.int .i64 y)) (h : ∀ o, 1 ≤ o → o < 13 → l[o]? = some (.int .i64 (g (o - 1)))) : l = spotL y g := by
  apply List.ext_getElem?
  intro o
  by_cases h1 : o < 13
  · by_cases h2 : o = 0
    · subst h2; rw [h0, spot_get0]
    · rw [h o (by omega) h1, spot_get ⟨by omega, h1⟩]
  · rw [List.getElem?_eq_none (by omega), List.getElem?_eq_none (by rw [spot_len]; omega)]
theorem spot_set {v : Int} (h : 1 ≤ o ∧ o < 13) : (spotL y f).take o ++ [AV.int .i64 v] ++ (spotL y f).drop (o + 1) = spotL y (fun q => if q = o - 1 then v else f q) := by
  have hl : ((spotL y f).take o).length = o := by rw [List.length_take, spot_len]; omega
  refine spot_list (by simp [spot_len]; omega) ?_ fun p h1 h2 => ?_
  · rw [List.append_assoc, List.getElem?_append_left (by omega), List.getElem?_take_of_lt (by omega)]; rfl
  · rw [List.append_assoc]
    by_cases e : p < o
    · rw [List.getElem?_append_left (by omega), List.getElem?_take_of_lt e, spot_get ⟨h1, h2⟩, if_neg (by omega)]
    · rw [List.getElem?_append_right (by omega), hl]
      by_cases e2 : p = o
      · subst e2; simp
      · rw [List.getElem?_append_right (by simp; omega), List.getElem?_drop]
        simp only [List.length_cons, List.length_nil]
        rw [show o + 1 + (p - o - (0 + 1)) = p by omega, spot_get ⟨h1, h2⟩, if_neg (by omega)]
theorem spot_set2 {v w : Int} (h : 1 ≤ o ∧ o < 12) : (spotL y f).take o ++ [AV.int .i64 v, AV.int .i64 w] ++ (spotL y f).drop (o + 2) = spotL y (fun q => if q = o - 1 then v else if q = o then w else f q) := by
  have hl : ((spotL y f).take o).length = o := by rw [List.length_take, spot_len]; omega
  refine spot_list (by simp [spot_len]; omega) ?_ fun p h1 h2 => ?_
  · rw [List.append_assoc, List.getElem?_append_left (by omega), List.getElem?_take_of_lt (by omega)]; rfl
  · rw [List.append_assoc]
    by_cases e : p < o
    · rw [List.getElem?_append_left (by omega), List.getElem?_take_of_lt e, spot_get ⟨h1, h2⟩, if_neg (by omega), if_neg (by omega)]
    · rw [List.getElem?_append_right (by omega), hl]
      by_cases e2 : p = o
      · subst e2; simp
      · by_cases e3 : p = o + 1
        · subst e3
          rw [List.getElem?_append_left (by simp), show o + 1 - o = 1 by omega, if_neg (by omega), if_pos (by omega)]; rfl
        · rw [List.getElem?_append_right (by simp; omega), List.getElem?_drop]
          simp only [List.length_cons, List.length_nil]
          rw [show o + 2 + (p - o - (0 + 1 + 1)) = p by omega, spot_get ⟨h1, h2⟩, if_neg (by omega), if_neg (by omega)]
theorem spot_set0 {v : Int} : AV.int .i64 v :: List.drop 1 (spotL y f) = spotL v f := rfl
theorem spot_flat : treeL (spotL y f) = true := rfl
end
def nextF (s : PileSite) (th : List (List Span)) (y : Nat) (f : Nat → Int) (q : Nat) : Int := if q < 2 * s.piles.length then f q - (if q % 2 = 0 then lowOf s th y (q / 2) else highOf s th y (q / 2)) else f q
def jackF (bits : Int) (f : Nat → Int) (q : Nat) : Int := if hasBit bits (q / 2) = true then 0 else f q
def costTo (s : PileSite) (bits : Int) : Nat → Int
  | 0 => 0
  | k + 1 => if hasBit bits k = true then costTo s bits k + (s.piles.getD k default).cost else costTo s bits k
theorem cost_at {s : PileSite} (hs : s.ok) {k : Nat} (hk : k < s.piles.length) : 0 ≤ (s.piles.getD k default).cost ∧ (s.piles.getD k default).cost ≤ 1000000 := by
  rw [getD_lt hk]
  exact (hs.2.2.2.2.2.2.2.1 _ (List.getElem_mem _)).2.2.2.2.2
theorem costTo_bound {s : PileSite} (hs : s.ok) {bits : Int} : ∀ k : Nat, 0 ≤ costTo s bits k ∧ costTo s bits k ≤ 1000000 * k
  | 0 => by simp [costTo]
  | k + 1 => by
    have h := costTo_bound hs (bits := bits) k
    simp only [costTo]
    split
    · by_cases hk : k < s.piles.length
      · have := cost_at hs hk; omega
      · rw [show s.piles.getD k default = default by simp [List.getD, hk]]
        have e : (default : Pile).cost = 0 := rfl
        omega
    · omega
end Go.Tk
namespace Go.Proofs.YtibgfmhddcibcaaDoor
open Go Go.Av Go.Tk
attribute [local irreducible] Holds sem semL ACalls FnIs
variable {G : World → Prop} (hG : ∀ w w', G w → RowKit.Below w.heap.size w w' → G w')
include hG

theorem pile_site_next (s : PileSite) (th : List (List Span)) (hs : s.ok) (ht : thawsOk s th) (y : Nat) (hy : y < th.length) (f : Nat → Int) (hf : ∀ q, -1000000 ≤ f q ∧ f q ≤ 1000000) :
    Holds Tryd.prog G F.pile_site_next [.tptr (siteCs s th) 0, .agg (spotL y f)] (.agg (spotL y (nextF s th y f))) := by
  have hn : 1 ≤ s.piles.length ∧ s.piles.length ≤ 6 := hs.2.1
  (refine holds_of_sem hG fn_pile_site_next (by simp) fun w0 S0 hG0 D0 => ?_; unfold c_pile_site_next cval enterEnv; simp only [List.zipIdx_cons, List.zipIdx_nil, List.map_cons, List.map_nil, Nat.zero_add, Nat.reduceAdd])
  repeat' (first | ((first | refine o1 rfl ?_ | refine o0 rfl ?_); intro k hk; simp (disch := omega) only [ev0, sl_cells, simprocAttr, siteCs, slOf]; refine hk _ _ ?_; clear hk k) | refine ono rfl ?_ | ((first | refine osplitG rfl (fun h => ?_) (fun h => ?_) | refine osplitB rfl (fun h => ?_) (fun h => ?_)) <;> (fail_if_success (simp only [eq_self, reduceCtorEq] at h))) | refine onx ?_ | refine onb ?_ | refine sreg ?_ | refine qT rfl ?_ | refine qF rfl ?_ | refine scondT rfl ?_ | refine scondF rfl ?_ | refine ocondP rfl (fun h => ?_) (fun h => ?_) | refine ocondB rfl (fun h => ?_) (fun h => ?_) | refine scondP rfl (fun h => ?_) (fun h => ?_) | refine scond rfl (fun h => ?_) (fun h => ?_) | refine oskip ?_ | refine oskipb ?_ | refine oret ?_ | refine sem_ret ?_ | refine sem_seq ?_ | refine sreg1 ?_)
  refine sem_block ?_
  
  refine sem_loop (α := Nat) (fun i => ⟨[(0, .tptr (siteCs s th) 0), (3, .ptr 0 0 13 0 0), (4, .ptr 1 0 13 0 0), (11, I s.piles.length), (12, I i)], [.row 113 0 13 [spotL y (fun q => if q < 2 * i then nextF s th y f q else f q)], .row 113 0 13 [spotL 0 (fun _ => 0)]]⟩) (fun i => i ≤ s.piles.length) (fun i => s.piles.length - i) 0 (Nat.zero_le _) ?_ ?_
  · simp only [Nat.mul_zero, Nat.not_lt_zero, if_false]
    (refine Le.same ?_; simp only [List.forall_mem_cons, List.forall_mem_nil, getE, selE, Nat.reduceBEq, List.not_mem_nil, false_implies, implies_true, and_true, true_and, and_self])
    simp [siteCs, slOf, spot_len]
  · intro i hil
    repeat' (first | ((first | refine o1 rfl ?_ | refine o0 rfl ?_); intro k hk; simp (disch := omega) only [ev0, sl_cells, simprocAttr]; refine hk _ _ ?_; clear hk k) | refine ono rfl ?_ | ((first | refine osplitG rfl (fun h => ?_) (fun h => ?_) | refine osplitB rfl (fun h => ?_) (fun h => ?_)) <;> (fail_if_success (simp only [eq_self, reduceCtorEq] at h))) | refine onx ?_ | refine onb ?_ | refine sreg ?_ | refine qT rfl ?_ | refine qF rfl ?_ | refine scondT rfl ?_ | refine scondF rfl ?_ | refine ocondP rfl (fun h => ?_) (fun h => ?_) | refine ocondB rfl (fun h => ?_) (fun h => ?_) | refine scondP rfl (fun h => ?_) (fun h => ?_) | refine scond rfl (fun h => ?_) (fun h => ?_) | refine oskip ?_ | refine oskipb ?_ | refine oret ?_ | refine sem_ret ?_ | refine sem_seq ?_ | refine sreg1 ?_)
    · have hi' : i < s.piles.length := by omega
      have hl := lowOf_bound hs th y i
      have hh := highOf_bound hs th y i
      have f1 := hf (2 * i)
      have f2 := hf (2 * i + 1)
      have e1 : 1 + i * 2 - 1 = 2 * i := by omega
      have e2 : 1 + i * 2 + 1 - 1 = 2 * i + 1 := by omega
      have e3 : ¬ 2 * i + 1 < 2 * i := by omega
      have e4 : ¬ 2 * i + 1 = 2 * i := by omega
      refine sem_block ?_
      repeat' (first | ((first | refine o1 rfl ?_ | refine o0 rfl ?_); intro k hk; simp (disch := omega) only [ev0, sl_cells, simprocAttr]; refine hk _ _ ?_; clear hk k) | refine ono rfl ?_ | ((first | refine osplitG rfl (fun h => ?_) (fun h => ?_) | refine osplitB rfl (fun h => ?_) (fun h => ?_)) <;> (fail_if_success (simp only [eq_self, reduceCtorEq] at h))) | refine onx ?_ | refine onb ?_ | refine sreg ?_ | refine qT rfl ?_ | refine qF rfl ?_ | refine scondT rfl ?_ | refine scondF rfl ?_ | refine ocondP rfl (fun h => ?_) (fun h => ?_) | refine ocondB rfl (fun h => ?_) (fun h => ?_) | refine scondP rfl (fun h => ?_) (fun h => ?_) | refine scond rfl (fun h => ?_) (fun h => ?_) | refine oskip ?_ | refine oskipb ?_ | refine oret ?_ | refine sem_ret ?_ | refine sem_seq ?_ | refine sreg1 ?_)
      ((refine sem_mgo 12 hmix (by kernel_rfl) ?_; simp only [List.take_succ_cons, List.take_zero, List.drop_succ_cons, List.drop_zero, List.take_nil, List.drop_nil]); (repeat' (first | ((first | apply mop | apply mop0); (case hg => rfl); (case hq => rfl); intro k hk; simp (disch := omega) only [ev0, sl_cells, simprocAttr, spot_get0, spot_get, spot_set, spot_len, e1, e2, e3, e4]; refine hk _ _ rfl ?_; clear hk k) | (apply mno; (case hg => rfl)) | (apply mcall; (case he => (simp only [ev0, sl_cells, simprocAttr] <;> rfl)); (case hc => first | exact pile_site_low hG s th hs ht y i hy hi'); (case ht => rfl); (case hg => rfl); (case hr => rfl)) | (apply mbox; (case hx => (simp only [wv, simprocAttr] <;> rfl)); (case hg => rfl); (case hall => rfl); (case hr => rfl); simp only [cellsOf, List.length_cons, List.length_nil, Nat.reduceAdd, Nat.zero_add, List.nil_append, List.cons_append, List.set_cons_zero, List.set_cons_succ, chunks, List.take_succ_cons, List.take_zero, List.drop_succ_cons, List.drop_zero]) | (apply mbldS; (case hb => (simp (disch := omega) only [ev0, sl_cells, simprocAttr] <;> rfl)); (case hg => rfl); (case hr => rfl); simp only [cellsOf, List.length_cons, List.length_nil, Nat.reduceAdd, Nat.zero_add, List.nil_append, List.cons_append, List.set_cons_zero, List.set_cons_succ, chunks, List.take_succ_cons, List.take_zero, List.drop_succ_cons, List.drop_zero]) | ((first | (apply msto (q := 0); (case hq => rfl)) | (apply msto (q := 1); (case hq => rfl)) | (apply msto (q := 2); (case hq => rfl)) | (apply msto (q := 3); (case hq => rfl))); (case hx => (simp only [wv, simprocAttr] <;> rfl)); (case haddr => (simp only [wv, simprocAttr] <;> rfl)); (case hg => rfl); (case hl1 => rfl); (case hl2 => rfl); (case hok => rfl); (case hr => rfl); simp only [cellsOf, List.length_cons, List.length_nil, Nat.reduceAdd, Nat.zero_add, List.nil_append, List.cons_append, List.set_cons_zero, List.set_cons_succ, chunks, List.take_succ_cons, List.take_zero, List.drop_succ_cons, List.drop_zero]) | (apply mnil; simp only [SlotR.fin, List.map_cons, List.map_nil, List.cons_append, List.nil_append, List.append_nil]) | (refine msplit rfl (fun h => ?_) (fun h => ?_) <;> simp only [h] <;> (try simp only [Bool.not_eq_true', Bool.not_eq_false', decide_eq_true_eq, decide_eq_false_iff_not] at h)))) <;> (repeat' (first | ((first | refine o1 rfl ?_ | refine o0 rfl ?_); intro k hk; simp (disch := omega) only [ev0, sl_cells, simprocAttr, spot_get0, spot_get, spot_set, spot_len, e1, e2, e3, e4]; refine hk _ _ ?_; clear hk k) | refine ono rfl ?_ | (apply ocall; (case he => (simp only [ev0, sl_cells, simprocAttr] <;> rfl)); (case hc => first | exact pile_site_low hG s th hs ht y i hy hi'); (case ht => rfl); (case hg => rfl)) | ((first | refine osplitG rfl (fun h => ?_) (fun h => ?_) | refine osplitB rfl (fun h => ?_) (fun h => ?_)) <;> (fail_if_success (simp only [eq_self, reduceCtorEq] at h))) | refine onx ?_ | refine onb ?_ | refine sreg ?_ | refine qT rfl ?_ | refine qF rfl ?_ | refine scondT rfl ?_ | refine scondF rfl ?_ | refine ocondP rfl (fun h => ?_) (fun h => ?_) | refine ocondB rfl (fun h => ?_) (fun h => ?_) | refine scondP rfl (fun h => ?_) (fun h => ?_) | refine scond rfl (fun h => ?_) (fun h => ?_) | refine oskip ?_ | refine oskipb ?_ | refine oret ?_ | refine sem_ret ?_ | refine sem_seq ?_ | refine sreg1 ?_)))
      ((refine sem_mgo 12 hmix (by kernel_rfl) ?_; simp only [List.take_succ_cons, List.take_zero, List.drop_succ_cons, List.drop_zero, List.take_nil, List.drop_nil]); (repeat' (first | ((first | apply mop | apply mop0); (case hg => rfl); (case hq => rfl); intro k hk; simp (disch := omega) only [ev0, sl_cells, simprocAttr, spot_get0, spot_get, spot_set, spot_len, e1, e2, e3, e4]; refine hk _ _ rfl ?_; clear hk k) | (apply mno; (case hg => rfl)) | (apply mcall; (case he => (simp only [ev0, sl_cells, simprocAttr] <;> rfl)); (case hc => first | exact pile_site_high hG s th hs ht y i hy hi'); (case ht => rfl); (case hg => rfl); (case hr => rfl)) | (apply mbox; (case hx => (simp only [wv, simprocAttr] <;> rfl)); (case hg => rfl); (case hall => rfl); (case hr => rfl); simp only [cellsOf, List.length_cons, List.length_nil, Nat.reduceAdd, Nat.zero_add, List.nil_append, List.cons_append, List.set_cons_zero, List.set_cons_succ, chunks, List.take_succ_cons, List.take_zero, List.drop_succ_cons, List.drop_zero]) | (apply mbldS; (case hb => (simp (disch := omega) only [ev0, sl_cells, simprocAttr] <;> rfl)); (case hg => rfl); (case hr => rfl); simp only [cellsOf, List.length_cons, List.length_nil, Nat.reduceAdd, Nat.zero_add, List.nil_append, List.cons_append, List.set_cons_zero, List.set_cons_succ, chunks, List.take_succ_cons, List.take_zero, List.drop_succ_cons, List.drop_zero]) | ((first | (apply msto (q := 0); (case hq => rfl)) | (apply msto (q := 1); (case hq => rfl)) | (apply msto (q := 2); (case hq => rfl)) | (apply msto (q := 3); (case hq => rfl))); (case hx => (simp only [wv, simprocAttr] <;> rfl)); (case haddr => (simp only [wv, simprocAttr] <;> rfl)); (case hg => rfl); (case hl1 => rfl); (case hl2 => rfl); (case hok => rfl); (case hr => rfl); simp only [cellsOf, List.length_cons, List.length_nil, Nat.reduceAdd, Nat.zero_add, List.nil_append, List.cons_append, List.set_cons_zero, List.set_cons_succ, chunks, List.take_succ_cons, List.take_zero, List.drop_succ_cons, List.drop_zero]) | (apply mnil; simp only [SlotR.fin, List.map_cons, List.map_nil, List.cons_append, List.nil_append, List.append_nil]) | (refine msplit rfl (fun h => ?_) (fun h => ?_) <;> simp only [h] <;> (try simp only [Bool.not_eq_true', Bool.not_eq_false', decide_eq_true_eq, decide_eq_false_iff_not] at h)))) <;> (repeat' (first | ((first | refine o1 rfl ?_ | refine o0 rfl ?_); intro k hk; simp (disch := omega) only [ev0, sl_cells, simprocAttr, spot_get0, spot_get, spot_set, spot_len, e1, e2, e3, e4]; refine hk _ _ ?_; clear hk k) | refine ono rfl ?_ | (apply ocall; (case he => (simp only [ev0, sl_cells, simprocAttr] <;> rfl)); (case hc => first | exact pile_site_high hG s th hs ht y i hy hi'); (case ht => rfl); (case hg => rfl)) | ((first | refine osplitG rfl (fun h => ?_) (fun h => ?_) | refine osplitB rfl (fun h => ?_) (fun h => ?_)) <;> (fail_if_success (simp only [eq_self, reduceCtorEq] at h))) | refine onx ?_ | refine onb ?_ | refine sreg ?_ | refine qT rfl ?_ | refine qF rfl ?_ | refine scondT rfl ?_ | refine scondF rfl ?_ | refine ocondP rfl (fun h => ?_) (fun h => ?_) | refine ocondB rfl (fun h => ?_) (fun h => ?_) | refine scondP rfl (fun h => ?_) (fun h => ?_) | refine scond rfl (fun h => ?_) (fun h => ?_) | refine oskip ?_ | refine oskipb ?_ | refine oret ?_ | refine sem_ret ?_ | refine sem_seq ?_ | refine sreg1 ?_)))
      rw [spot_ext (g := fun q => if q < 2 * (i + 1) then nextF s th y f q else f q) (fun q hq => by
        have n1 : nextF s th y f (2 * i) = f (2 * i) - lowOf s th y i := by
          unfold nextF
          rw [if_pos (by omega), if_pos (by omega), show 2 * i / 2 = i by omega]
        have n2 : nextF s th y f (2 * i + 1) = f (2 * i + 1) - highOf s th y i := by
          unfold nextF
          rw [if_pos (by omega), if_neg (by omega), show (2 * i + 1) / 2 = i by omega]
        by_cases q1 : q = 2 * i + 1
        · subst q1; rw [if_pos rfl, if_pos (by omega), n2]
        · by_cases q2 : q = 2 * i
          · subst q2; rw [if_neg q1, if_pos rfl, if_pos (by omega), n1]
          · rw [if_neg q1, if_neg q2]
            have e : (q < 2 * i) = (q < 2 * (i + 1)) := propext (by omega)
            simp only [e])]
      refine onil (lnext (i + 1) (by omega) (by omega) ?_)
      (refine Le.drop ?_ rfl (by simp) rfl rfl; simp only [List.forall_mem_cons, List.forall_mem_nil, getE, selE, Nat.reduceBEq, List.not_mem_nil, false_implies, implies_true, and_true, true_and, and_self])
      simp [slOf, siteCs]
    · have hi' : i = s.piles.length := by omega
      subst hi'
      rw [spot_ext (f := fun q => if q < 2 * s.piles.length then nextF s th y f q else f q) (g := nextF s th y f) (fun q hq => by
        split
        · rfl
        · rename_i h; unfold nextF; rw [if_neg h])]
      (refine sem_exit ?_; change sem _ _ _ _ _)
      repeat' (first | ((first | refine o1 rfl ?_ | refine o0 rfl ?_); intro k hk; simp (disch := omega) only [ev0, sl_cells, simprocAttr, spot_take, spot_drop, spot_len]; refine hk _ _ ?_; clear hk k) | refine ono rfl ?_ | ((first | refine osplitG rfl (fun h => ?_) (fun h => ?_) | refine osplitB rfl (fun h => ?_) (fun h => ?_)) <;> (fail_if_success (simp only [eq_self, reduceCtorEq] at h))) | refine onx ?_ | refine onb ?_ | refine sreg ?_ | refine qT rfl ?_ | refine qF rfl ?_ | refine scondT rfl ?_ | refine scondF rfl ?_ | refine ocondP rfl (fun h => ?_) (fun h => ?_) | refine ocondB rfl (fun h => ?_) (fun h => ?_) | refine scondP rfl (fun h => ?_) (fun h => ?_) | refine scond rfl (fun h => ?_) (fun h => ?_) | refine oskip ?_ | refine oskipb ?_ | refine oret ?_ | refine sem_ret ?_ | refine sem_seq ?_ | refine sreg1 ?_)
      exact ⟨_, rfl, _, rfl, tree_eq rfl (by simp only [getE, selE, Nat.reduceBEq, List.take_succ_cons, List.take_zero, List.drop_zero, spot_take])⟩
end Go.Proofs.YtibgfmhddcibcaaDoor

set_option linter.unusedVariables false
set_option linter.unusedSimpArgs false
set_option maxRecDepth 8000
set_option maxHeartbeats 2000000
/- Jackings, what they cost; the first of some things with the least cost. -/
namespace Go.Tk
open Go Go.Av
/-- The first of so many with the least cost: which, its cost, whether any has one. -/
def cheapF (c : Nat → Int × Bool) : Nat → Int × Int × Bool
  | 0 => (0, 0, false)
  | x + 1 => if (c x).2 = true ∧ ((cheapF c x).2.2 = false ∨ (c x).1 < (cheapF c x).2.1) then (x, (c x).1, true) else cheapF c x
end Go.Tk
namespace Go.Proofs.YtibgfmhddcibcaaDoor
open Go Go.Av Go.Tk
attribute [local irreducible] Holds sem semL ACalls FnIs
variable {G : World → Prop} (hG : ∀ w w', G w → RowKit.Below w.heap.size w w' → G w')

theorem pile_cheapest {K : Ctx} (hP : K.P = Tryd.prog) {f : Nat} {ca : List AV} (m : Nat) (hm : m ≤ 1000) (c : Nat → Int × Bool) (M : Nat → List AObj)
    (call : ∀ x : Nat, x < m → ACalls K f ([] ++ [I x] ++ ca) (M x) fun ae μ' => ae = .ret (.tup [I (c x).1, B (c x).2]) ∧ μ' = M (x + 1)) :
    ACalls K F.pile_cheapest_int [I m, .fn (.func f) [] ca] (M 0) fun ae μ' => ae = .ret (.tup [I (cheapF c m).1, I (cheapF c m).2.1, B (cheapF c m).2.2]) ∧ μ' = M m := by
  refine acalls_of_sem (by rw [hP]; exact fn_pile_cheapest_int) (by simp) fun D => ?_
  unfold c_pile_cheapest_int cval enterEnv
  simp only [List.zipIdx_cons, List.zipIdx_nil, List.map_cons, List.map_nil, Nat.zero_add, Nat.reduceAdd]
  repeat' (first | ((first | refine o1 rfl ?_ | refine o0 rfl ?_); intro k hk; simp (disch := omega) only [ev0, sl_cells, simprocAttr]; refine hk _ _ ?_; clear hk k) | refine ono rfl ?_ | ((first | refine osplitG rfl (fun h => ?_) (fun h => ?_) | refine osplitB rfl (fun h => ?_) (fun h => ?_)) <;> (fail_if_success (simp only [eq_self, reduceCtorEq] at h))) | refine onx ?_ | refine onb ?_ | refine sreg ?_ | refine qT rfl ?_ | refine qF rfl ?_ | refine scondT rfl ?_ | refine scondF rfl ?_ | refine ocondP rfl (fun h => ?_) (fun h => ?_) | refine ocondB rfl (fun h => ?_) (fun h => ?_) | refine scondP rfl (fun h => ?_) (fun h => ?_) | refine scond rfl (fun h => ?_) (fun h => ?_) | refine oskip ?_ | refine oskipb ?_ | refine oret ?_ | refine sem_ret ?_ | refine sem_seq ?_ | refine sreg1 ?_)
  refine sem_block ?_
  
  refine sem_loop (α := Nat) (fun x => ⟨[(1, .fn (.func f) [] ca), (7, I (cheapF c x).1), (8, I (cheapF c x).2.1), (9, B (cheapF c x).2.2), (13, I m), (14, I x)], M x⟩) (fun x => x ≤ m) (fun x => m - x) 0 (Nat.zero_le _) ?_ ?_
  · (refine Le.same ?_; simp only [List.forall_mem_cons, List.forall_mem_nil, getE, selE, Nat.reduceBEq, List.not_mem_nil, false_implies, implies_true, and_true, true_and, and_self])
    simp [cheapF]
  · intro x hx
    repeat' (first | ((first | refine o1 rfl ?_ | refine o0 rfl ?_); intro k hk; simp (disch := omega) only [ev0, sl_cells, simprocAttr]; refine hk _ _ ?_; clear hk k) | refine ono rfl ?_ | ((first | refine osplitG rfl (fun h => ?_) (fun h => ?_) | refine osplitB rfl (fun h => ?_) (fun h => ?_)) <;> (fail_if_success (simp only [eq_self, reduceCtorEq] at h))) | refine onx ?_ | refine onb ?_ | refine sreg ?_ | refine qT rfl ?_ | refine qF rfl ?_ | refine scondT rfl ?_ | refine scondF rfl ?_ | refine ocondP rfl (fun h => ?_) (fun h => ?_) | refine ocondB rfl (fun h => ?_) (fun h => ?_) | refine scondP rfl (fun h => ?_) (fun h => ?_) | refine scond rfl (fun h => ?_) (fun h => ?_) | refine oskip ?_ | refine oskipb ?_ | refine oret ?_ | refine sem_ret ?_ | refine sem_seq ?_ | refine sreg1 ?_)
    · have hx' : x < m := by omega
      refine sem_block ?_
      repeat' (first | ((first | refine o1 rfl ?_ | refine o0 rfl ?_); intro k hk; simp (disch := omega) only [ev0, sl_cells, simprocAttr]; refine hk _ _ ?_; clear hk k) | refine ono rfl ?_ | ((first | refine osplitG rfl (fun h => ?_) (fun h => ?_) | refine osplitB rfl (fun h => ?_) (fun h => ?_)) <;> (fail_if_success (simp only [eq_self, reduceCtorEq] at h))) | refine onx ?_ | refine onb ?_ | refine sreg ?_ | refine qT rfl ?_ | refine qF rfl ?_ | refine scondT rfl ?_ | refine scondF rfl ?_ | refine ocondP rfl (fun h => ?_) (fun h => ?_) | refine ocondB rfl (fun h => ?_) (fun h => ?_) | refine scondP rfl (fun h => ?_) (fun h => ?_) | refine scond rfl (fun h => ?_) (fun h => ?_) | refine oskip ?_ | refine oskipb ?_ | refine oret ?_ | refine sem_ret ?_ | refine sem_seq ?_ | refine sreg1 ?_)
      refine semL_dyn rfl rfl (call x hx') fun ae μ hr => ?_
      obtain ⟨rfl, rfl⟩ := hr
      change semL _ _ _ ⟨(_, _) :: _, _⟩ _
      repeat' (first | ((first | refine o1 rfl ?_ | refine o0 rfl ?_); intro k hk; simp (disch := omega) only [ev0, sl_cells, simprocAttr]; refine hk _ _ ?_; clear hk k) | refine ono rfl ?_ | ((first | refine osplitG rfl (fun h => ?_) (fun h => ?_) | refine osplitB rfl (fun h => ?_) (fun h => ?_)) <;> (fail_if_success (simp only [eq_self, reduceCtorEq] at h))) | refine onx ?_ | refine onb ?_ | refine sreg ?_ | refine qT rfl ?_ | refine qF rfl ?_ | refine scondT rfl ?_ | refine scondF rfl ?_ | refine ocondP rfl (fun h => ?_) (fun h => ?_) | refine ocondB rfl (fun h => ?_) (fun h => ?_) | refine scondP rfl (fun h => ?_) (fun h => ?_) | refine scond rfl (fun h => ?_) (fun h => ?_) | refine oskip ?_ | refine oskipb ?_ | refine oret ?_ | refine sem_ret ?_ | refine sem_seq ?_ | refine sreg1 ?_)
      all_goals
        refine onil (lnext (x + 1) (by omega) (by omega) ?_)
        (refine Le.same ?_; simp only [List.forall_mem_cons, List.forall_mem_nil, getE, selE, Nat.reduceBEq, List.not_mem_nil, false_implies, implies_true, and_true, true_and, and_self])
        by_cases hc : (c x).2 = true ∧ ((cheapF c x).2.2 = false ∨ (c x).1 < (cheapF c x).2.1)
        · have e : cheapF c (x + 1) = (↑x, (c x).1, true) := if_pos hc
          first
            | (simp [e]; done)
            | (exfalso; simp_all; done)
            | (exfalso; simp_all; omega)
        · have e : cheapF c (x + 1) = cheapF c x := if_neg hc
          first
            | (simp [e]; done)
            | (exfalso; simp_all; done)
            | (exfalso; simp_all; omega)
    · have hx' : x = m := by omega
      subst hx'
      (refine sem_exit ?_; change sem _ _ _ _ _)
      repeat' (first | ((first | refine o1 rfl ?_ | refine o0 rfl ?_); intro k hk; simp (disch := omega) only [ev0, sl_cells, simprocAttr]; refine hk _ _ ?_; clear hk k) | refine ono rfl ?_ | ((first | refine osplitG rfl (fun h => ?_) (fun h => ?_) | refine osplitB rfl (fun h => ?_) (fun h => ?_)) <;> (fail_if_success (simp only [eq_self, reduceCtorEq] at h))) | refine onx ?_ | refine onb ?_ | refine sreg ?_ | refine qT rfl ?_ | refine qF rfl ?_ | refine scondT rfl ?_ | refine scondF rfl ?_ | refine ocondP rfl (fun h => ?_) (fun h => ?_) | refine ocondB rfl (fun h => ?_) (fun h => ?_) | refine scondP rfl (fun h => ?_) (fun h => ?_) | refine scond rfl (fun h => ?_) (fun h => ?_) | refine oskip ?_ | refine oskipb ?_ | refine oret ?_ | refine sem_ret ?_ | refine sem_seq ?_ | refine sreg1 ?_)
      exact ⟨_, rfl, rfl, rfl⟩

include hG
theorem pile_site_jack (a : AV) (ha : treeA a = true) (y : Nat) (hy : y ≤ 1000) (f : Nat → Int) (bits : Int) (hb : 0 ≤ bits ∧ bits < 64) : Holds Tryd.prog G F.pile_site_jack [a, .agg (spotL y f), I bits] (.agg (spotL (y + 1 : Nat) (jackF bits f))) := by
  (refine holds_of_sem hG fn_pile_site_jack (by simp) fun w0 S0 hG0 D0 => ?_; unfold c_pile_site_jack cval enterEnv; simp only [List.zipIdx_cons, List.zipIdx_nil, List.map_cons, List.map_nil, Nat.zero_add, Nat.reduceAdd])
  repeat' (first | ((first | refine o1 rfl ?_ | refine o0 rfl ?_); intro k hk; simp (disch := omega) only [ev0, sl_cells, simprocAttr, spot_len]; refine hk _ _ ?_; clear hk k) | refine ono rfl ?_ | (apply ocall; (case he => (simp only [ev0, sl_cells, simprocAttr] <;> rfl)); (case hc => first | exact pile_jacked hG _); (case ht => rfl); (case hg => rfl)) | ((first | refine osplitG rfl (fun h => ?_) (fun h => ?_) | refine osplitB rfl (fun h => ?_) (fun h => ?_)) <;> (fail_if_success (simp only [eq_self, reduceCtorEq] at h))) | refine onx ?_ | refine onb ?_ | refine sreg ?_ | refine qT rfl ?_ | refine qF rfl ?_ | refine scondT rfl ?_ | refine scondF rfl ?_ | refine ocondP rfl (fun h => ?_) (fun h => ?_) | refine ocondB rfl (fun h => ?_) (fun h => ?_) | refine scondP rfl (fun h => ?_) (fun h => ?_) | refine scond rfl (fun h => ?_) (fun h => ?_) | refine oskip ?_ | refine oskipb ?_ | refine oret ?_ | refine sem_ret ?_ | refine sem_seq ?_ | refine sreg1 ?_)
  refine sem_block ?_
  obtain ⟨J, hJ⟩ : ∃ J : Nat → List AObj → Prop, J = fun k μ => ∃ e, getE e 4 = .ptr 0 0 13 0 0 ∧ μ = [.row 113 0 13 [spotL y (fun q => if q / 2 < k ∧ hasBit bits (q / 2) = true then 0 else f q)], .row 113 0 13 [spotL 0 (fun _ => 0)],
    .loop ⟨[10], .reg [⟨some 7, none, .mv (.t 10)⟩], c_pile_site_jack_l0, 20⟩ .ready e] := ⟨_, rfl⟩
  refine sem_rng rfl rfl (R := fun ae μ' => (∃ x, ae = .ret x) ∧ J 6 μ') (fun hp20 => jacked_1 rfl _ hb 2 J ?_ ?_ ?_ ?_) ?_
  · intro k μ h
    rw [hJ] at h
    obtain ⟨e, -, rfl⟩ := h
    exact ⟨_, _, _, rfl⟩
  · intro k μ hk h hbit
    rw [hJ] at h
    obtain ⟨e, he, rfl⟩ := h
    have e1 : 1 + k * 2 - 1 = 2 * k := by omega
    have e2 : 1 + k * 2 = 2 * k + 1 := by omega
    refine ycalls_of_sem rfl rfl hp20 fun _ => ?_
    simp only [bindPs]
    repeat' (first | ((first | refine o1 rfl ?_ | refine o0 rfl ?_); intro k hk; simp (disch := omega) only [ev0, sl_cells, simprocAttr]; refine hk _ _ ?_; clear hk k) | refine ono rfl ?_ | ((first | refine osplitG rfl (fun h => ?_) (fun h => ?_) | refine osplitB rfl (fun h => ?_) (fun h => ?_)) <;> (fail_if_success (simp only [eq_self, reduceCtorEq] at h))) | refine onx ?_ | refine onb ?_ | refine sreg ?_ | refine qT rfl ?_ | refine qF rfl ?_ | refine scondT rfl ?_ | refine scondF rfl ?_ | refine ocondP rfl (fun h => ?_) (fun h => ?_) | refine ocondB rfl (fun h => ?_) (fun h => ?_) | refine scondP rfl (fun h => ?_) (fun h => ?_) | refine scond rfl (fun h => ?_) (fun h => ?_) | refine oskip ?_ | refine oskipb ?_ | refine oret ?_ | refine sem_ret ?_ | refine sem_seq ?_ | refine sreg1 ?_)
    refine onil ⟨_, _, rfl, ?_⟩
    simp only [List.set_cons_succ, List.set_cons_zero]
    change sem _ _ _ _ _
    unfold c_pile_site_jack_l0 cval
    refine sem_block ?_
    repeat' (first | ((first | refine o1 rfl ?_ | refine o0 rfl ?_); intro k hk; simp (disch := omega) only [ev0, sl_cells, simprocAttr, he, spot_len, spot_set2, e1]; refine hk _ _ ?_; clear hk k) | refine ono rfl ?_ | ((first | refine osplitG rfl (fun h => ?_) (fun h => ?_) | refine osplitB rfl (fun h => ?_) (fun h => ?_)) <;> (fail_if_success (simp only [eq_self, reduceCtorEq] at h))) | refine onx ?_ | refine onb ?_ | refine sreg ?_ | refine qT rfl ?_ | refine qF rfl ?_ | refine scondT rfl ?_ | refine scondF rfl ?_ | refine ocondP rfl (fun h => ?_) (fun h => ?_) | refine ocondB rfl (fun h => ?_) (fun h => ?_) | refine scondP rfl (fun h => ?_) (fun h => ?_) | refine scond rfl (fun h => ?_) (fun h => ?_) | refine oskip ?_ | refine oskipb ?_ | refine oret ?_ | refine sem_ret ?_ | refine sem_seq ?_ | refine sreg1 ?_)
    refine onil ⟨_, _, rfl, rfl, ?_⟩
    rw [hJ]
    refine ⟨e, he, ?_⟩
    simp only [List.set_cons_succ, List.set_cons_zero]
    rw [spot_ext (g := fun q => if q / 2 < k + 1 ∧ hasBit bits (q / 2) = true then 0 else f q) (fun q hq => by
      by_cases q1 : q = 2 * k
      · subst q1
        have d : 2 * k / 2 = k := by omega
        simp only [d, if_true, hbit, Nat.lt_succ_self, and_self]
      · by_cases q2 : q = 2 * k + 1
        · subst q2
          have d : (2 * k + 1) / 2 = k := by omega
          simp only [d, e2, if_true, hbit, Nat.lt_succ_self, and_self, ite_self]
        · have e3 : ¬ q = 1 + k * 2 := by omega
          have e4 : (q / 2 < k) = (q / 2 < k + 1) := propext (by omega)
          simp only [q1, e3, if_false, e4])]
    rfl
  · intro k μ hk h hbit
    rw [hJ] at h ⊢
    obtain ⟨e, he, rfl⟩ := h
    refine ⟨e, he, ?_⟩
    rw [spot_ext (g := fun q => if q / 2 < k + 1 ∧ hasBit bits (q / 2) = true then 0 else f q) (fun q hq => by
      by_cases e : q / 2 = k
      · rw [e]; simp only [hbit, Bool.false_eq_true, and_false, if_false]
      · have e2 : (q / 2 < k) = (q / 2 < k + 1) := propext (by omega)
        simp only [e2])]
  · rw [hJ]
    simp only [Nat.not_lt_zero, false_and, if_false]
    exact ⟨_, And.symm ⟨rfl, rfl⟩⟩
  · rintro ae μ' ⟨⟨x, rfl⟩, h⟩
    rw [hJ] at h
    obtain ⟨e, -, rfl⟩ := h
    refine ⟨_, _, _, rfl, ?_⟩
    simp only [List.length_cons, List.length_nil, Nat.reduceAdd, List.set_cons_succ, List.set_cons_zero]
    change sem _ _ _ _ _
    rw [spot_ext (f := fun q => if q / 2 < 6 ∧ hasBit bits (q / 2) = true then 0 else f q) (g := jackF bits f) (fun q hq => by
      have h6 : q / 2 < 6 := by omega
      simp only [h6, true_and]
      rfl)]
    repeat' (first | ((first | refine o1 rfl ?_ | refine o0 rfl ?_); intro k hk; simp (disch := omega) only [ev0, sl_cells, simprocAttr, spot_len, spot_get0, spot_set0, spot_take, spot_drop]; refine hk _ _ ?_; clear hk k) | refine ono rfl ?_ | ((first | refine osplitG rfl (fun h => ?_) (fun h => ?_) | refine osplitB rfl (fun h => ?_) (fun h => ?_)) <;> (fail_if_success (simp only [eq_self, reduceCtorEq] at h))) | refine onx ?_ | refine onb ?_ | refine sreg ?_ | refine qT rfl ?_ | refine qF rfl ?_ | refine scondT rfl ?_ | refine scondF rfl ?_ | refine ocondP rfl (fun h => ?_) (fun h => ?_) | refine ocondB rfl (fun h => ?_) (fun h => ?_) | refine scondP rfl (fun h => ?_) (fun h => ?_) | refine scond rfl (fun h => ?_) (fun h => ?_) | refine oskip ?_ | refine oskipb ?_ | refine oret ?_ | refine sem_ret ?_ | refine sem_seq ?_ | refine sreg1 ?_)
    exact ⟨_, rfl, _, rfl, tree_eq rfl (by simp only [List.drop_zero, spot_take]; rfl)⟩

theorem pile_site_cost (s : PileSite) (th : List (List Span)) (hs : s.ok) (bits : Int) (hb : 0 ≤ bits ∧ bits ≤ 2 ^ s.piles.length - 1) : Holds Tryd.prog G F.pile_site_cost [.tptr (siteCs s th) 0, I bits] (I (costTo s bits 6)) := by
  have hn : 1 ≤ s.piles.length ∧ s.piles.length ≤ 6 := hs.2.1
  have pow : ∀ i : Nat, i ≤ 6 → (2 : Int) ^ i ≤ 64 := by decide
  have hpw := pow _ hn.2
  (refine holds_of_sem hG fn_pile_site_cost (by simp) fun w0 S0 hG0 D0 => ?_; unfold c_pile_site_cost cval enterEnv; simp only [List.zipIdx_cons, List.zipIdx_nil, List.map_cons, List.map_nil, Nat.zero_add, Nat.reduceAdd])
  repeat' (first | ((first | refine o1 rfl ?_ | refine o0 rfl ?_); intro k hk; simp (disch := omega) only [ev0, sl_cells, simprocAttr]; refine hk _ _ ?_; clear hk k) | refine ono rfl ?_ | (apply ocall; (case he => (simp only [ev0, sl_cells, simprocAttr] <;> rfl)); (case hc => first | exact pile_jacked hG _); (case ht => rfl); (case hg => rfl)) | ((first | refine osplitG rfl (fun h => ?_) (fun h => ?_) | refine osplitB rfl (fun h => ?_) (fun h => ?_)) <;> (fail_if_success (simp only [eq_self, reduceCtorEq] at h))) | refine onx ?_ | refine onb ?_ | refine sreg ?_ | refine qT rfl ?_ | refine qF rfl ?_ | refine scondT rfl ?_ | refine scondF rfl ?_ | refine ocondP rfl (fun h => ?_) (fun h => ?_) | refine ocondB rfl (fun h => ?_) (fun h => ?_) | refine scondP rfl (fun h => ?_) (fun h => ?_) | refine scond rfl (fun h => ?_) (fun h => ?_) | refine oskip ?_ | refine oskipb ?_ | refine oret ?_ | refine sem_ret ?_ | refine sem_seq ?_ | refine sreg1 ?_)
  refine sem_block ?_
  obtain ⟨J, hJ⟩ : ∃ J : Nat → List AObj → Prop, J = fun k μ => ∃ e, getE e 2 = .ptr 0 0 1 0 0 ∧ getE e 5 = .ptr 1 0 1 0 0 ∧ μ = [.row 101 0 1 [[.tptr (siteCs s th) 0]], .row 3 0 1 [[.int .i64 (costTo s bits k)]],
    .loop ⟨[9], .reg [⟨some 6, none, .mv (.t 9)⟩], c_pile_site_cost_l0, 22⟩ .ready e] := ⟨_, rfl⟩
  refine sem_rng rfl rfl (R := fun ae μ' => (∃ x, ae = .ret x) ∧ J 6 μ') (fun hp22 => jacked_1 rfl _ (by omega) 2 J ?_ ?_ ?_ ?_) ?_
  · intro k μ h
    rw [hJ] at h
    obtain ⟨e, -, -, rfl⟩ := h
    exact ⟨_, _, _, rfl⟩
  · intro k μ hk h hbit
    have hkn := bit_lt hb.1 hb.2 hbit
    have hc := cost_at hs hkn
    have hcb := costTo_bound hs (bits := bits) k
    rw [hJ] at h
    obtain ⟨e, he2, he5, rfl⟩ := h
    refine ycalls_of_sem rfl rfl hp22 fun _ => ?_
    simp only [bindPs]
    repeat' (first | ((first | refine o1 rfl ?_ | refine o0 rfl ?_); intro k hk; simp (disch := omega) only [ev0, sl_cells, simprocAttr]; refine hk _ _ ?_; clear hk k) | refine ono rfl ?_ | ((first | refine osplitG rfl (fun h => ?_) (fun h => ?_) | refine osplitB rfl (fun h => ?_) (fun h => ?_)) <;> (fail_if_success (simp only [eq_self, reduceCtorEq] at h))) | refine onx ?_ | refine onb ?_ | refine sreg ?_ | refine qT rfl ?_ | refine qF rfl ?_ | refine scondT rfl ?_ | refine scondF rfl ?_ | refine ocondP rfl (fun h => ?_) (fun h => ?_) | refine ocondB rfl (fun h => ?_) (fun h => ?_) | refine scondP rfl (fun h => ?_) (fun h => ?_) | refine scond rfl (fun h => ?_) (fun h => ?_) | refine oskip ?_ | refine oskipb ?_ | refine oret ?_ | refine sem_ret ?_ | refine sem_seq ?_ | refine sreg1 ?_)
    refine onil ⟨_, _, rfl, ?_⟩
    simp only [List.set_cons_succ, List.set_cons_zero]
    change sem _ _ _ _ _
    unfold c_pile_site_cost_l0 cval
    refine sem_block ?_
    ((refine sem_mgo 10 hmix (by kernel_rfl) ?_; simp only [List.take_succ_cons, List.take_zero, List.drop_succ_cons, List.drop_zero, List.take_nil, List.drop_nil]); (repeat' (first | ((first | apply mop | apply mop0); (case hg => rfl); (case hq => rfl); intro k hk; simp (disch := omega) only [ev0, sl_cells, simprocAttr, he2, he5, siteCs, slOf, Pile.cs]; refine hk _ _ rfl ?_; clear hk k) | (apply mno; (case hg => rfl)) | (apply mbox; (case hx => (simp only [wv, simprocAttr] <;> rfl)); (case hg => rfl); (case hall => rfl); (case hr => rfl); simp only [cellsOf, List.length_cons, List.length_nil, Nat.reduceAdd, Nat.zero_add, List.nil_append, List.cons_append, List.set_cons_zero, List.set_cons_succ, chunks, List.take_succ_cons, List.take_zero, List.drop_succ_cons, List.drop_zero]) | (apply mbldS; (case hb => (simp (disch := omega) only [ev0, sl_cells, simprocAttr] <;> rfl)); (case hg => rfl); (case hr => rfl); simp only [cellsOf, List.length_cons, List.length_nil, Nat.reduceAdd, Nat.zero_add, List.nil_append, List.cons_append, List.set_cons_zero, List.set_cons_succ, chunks, List.take_succ_cons, List.take_zero, List.drop_succ_cons, List.drop_zero]) | ((first | (apply msto (q := 0); (case hq => rfl)) | (apply msto (q := 1); (case hq => rfl)) | (apply msto (q := 2); (case hq => rfl)) | (apply msto (q := 3); (case hq => rfl))); (case hx => (simp only [wv, simprocAttr] <;> rfl)); (case haddr => (simp only [wv, simprocAttr] <;> rfl)); (case hg => rfl); (case hl1 => rfl); (case hl2 => rfl); (case hok => rfl); (case hr => rfl); simp only [cellsOf, List.length_cons, List.length_nil, Nat.reduceAdd, Nat.zero_add, List.nil_append, List.cons_append, List.set_cons_zero, List.set_cons_succ, chunks, List.take_succ_cons, List.take_zero, List.drop_succ_cons, List.drop_zero]) | (apply mnil; simp only [SlotR.fin, List.map_cons, List.map_nil, List.cons_append, List.nil_append, List.append_nil]) | (refine msplit rfl (fun h => ?_) (fun h => ?_) <;> simp only [h] <;> (try simp only [Bool.not_eq_true', Bool.not_eq_false', decide_eq_true_eq, decide_eq_false_iff_not] at h)))) <;> (repeat' (first | ((first | refine o1 rfl ?_ | refine o0 rfl ?_); intro k hk; simp (disch := omega) only [ev0, sl_cells, simprocAttr, he2, he5, siteCs, slOf, Pile.cs]; refine hk _ _ ?_; clear hk k) | refine ono rfl ?_ | ((first | refine osplitG rfl (fun h => ?_) (fun h => ?_) | refine osplitB rfl (fun h => ?_) (fun h => ?_)) <;> (fail_if_success (simp only [eq_self, reduceCtorEq] at h))) | refine onx ?_ | refine onb ?_ | refine sreg ?_ | refine qT rfl ?_ | refine qF rfl ?_ | refine scondT rfl ?_ | refine scondF rfl ?_ | refine ocondP rfl (fun h => ?_) (fun h => ?_) | refine ocondB rfl (fun h => ?_) (fun h => ?_) | refine scondP rfl (fun h => ?_) (fun h => ?_) | refine scond rfl (fun h => ?_) (fun h => ?_) | refine oskip ?_ | refine oskipb ?_ | refine oret ?_ | refine sem_ret ?_ | refine sem_seq ?_ | refine sreg1 ?_)))
    refine onil ⟨_, _, rfl, rfl, ?_⟩
    rw [hJ]
    refine ⟨e, he2, he5, ?_⟩
    simp only [List.set_cons_succ, List.set_cons_zero, costTo, hbit, if_true]
    rfl
  · intro k μ hk h hbit
    rw [hJ] at h ⊢
    obtain ⟨e, he2, he5, rfl⟩ := h
    exact ⟨e, he2, he5, by simp only [costTo, hbit, Bool.false_eq_true, if_false]⟩
  · rw [hJ]
    exact ⟨_, rfl, rfl, rfl⟩
  · rintro ae μ' ⟨⟨x, rfl⟩, h⟩
    rw [hJ] at h
    obtain ⟨e, -, -, rfl⟩ := h
    refine ⟨_, _, _, rfl, ?_⟩
    simp only [List.length_cons, List.length_nil, Nat.reduceAdd, List.set_cons_succ, List.set_cons_zero]
    change sem _ _ _ _ _
    repeat' (first | ((first | refine o1 rfl ?_ | refine o0 rfl ?_); intro k hk; simp (disch := omega) only [ev0, sl_cells, simprocAttr]; refine hk _ _ ?_; clear hk k) | refine ono rfl ?_ | ((first | refine osplitG rfl (fun h => ?_) (fun h => ?_) | refine osplitB rfl (fun h => ?_) (fun h => ?_)) <;> (fail_if_success (simp only [eq_self, reduceCtorEq] at h))) | refine onx ?_ | refine onb ?_ | refine sreg ?_ | refine qT rfl ?_ | refine qF rfl ?_ | refine scondT rfl ?_ | refine scondF rfl ?_ | refine ocondP rfl (fun h => ?_) (fun h => ?_) | refine ocondB rfl (fun h => ?_) (fun h => ?_) | refine scondP rfl (fun h => ?_) (fun h => ?_) | refine scond rfl (fun h => ?_) (fun h => ?_) | refine oskip ?_ | refine oskipb ?_ | refine oret ?_ | refine sem_ret ?_ | refine sem_seq ?_ | refine sreg1 ?_)
    exact ⟨_, rfl, _, rfl, tree_eq rfl rfl⟩
end Go.Proofs.YtibgfmhddcibcaaDoor

set_option linter.unusedVariables false
set_option linter.unusedSimpArgs false
set_option maxRecDepth 8000
set_option maxHeartbeats 2000000
/- The search for the best plan: what it comes to, and the map that it keeps. -/
namespace Go.Tk
open Go Go.Av Go.Proofs.YtibgfmhddcibcaaDoor
def LK13 : List (Nat × LK) := [(0, .i), (1, .i), (2, .i), (3, .i), (4, .i), (5, .i), (6, .i), (7, .i), (8, .i), (9, .i), (10, .i), (11, .i), (12, .i)]
abbrev keyS (y : Int) (f : Nat → Int) : AV := .agg (spotL y f)
abbrev chC (c : Int × Int × Bool) : AV := .agg [.int .i64 c.1, .int .i64 c.2.1, .bool c.2.2]
def lvOf (n : Nat) (f : Nat → Int) : List Span := (List.range n).map fun k => ⟨f (2 * k), f (2 * k + 1)⟩
def wrongF (s : PileSite) (th : List (List Span)) (y : Nat) (f : Nat → Int) : Int × Int := wrongOf s (th.getD y default) (lvOf s.piles.length (nextF s th y f))
def best (s : PileSite) (th : List (List Span)) : Nat → Nat → (Nat → Int) → Int × Int × Bool
  | 0, _, _ => (0, 0, true)
  | r + 1, y, f => if (wrongF s th y f).1 = 1 then cheapF (fun x => (costTo s x 6 + (best s th r (y + 1) (jackF x (nextF s th y f))).2.1, (best s th r (y + 1) (jackF x (nextF s th y f))).2.2)) (2 ^ s.piles.length) else (0, 0, false)
abbrev ES := List (AV × AV)
def findS (es : ES) (y : Int) (f : Nat → Int) : Option (Nat × AV) := (findA LK13 (keyS y f) es 0).getD none
def putS (es : ES) (y : Int) (f : Nat → Int) (v : AV) : ES := match findS es y f with | some (i, _) => es.set i (keyS y f, v) | none => es ++ [(keyS y f, v)]
def foldES (g : Nat → ES → ES) : Nat → ES → ES
  | 0, es => es
  | x + 1, es => g x (foldES g x es)
def seaE (s : PileSite) (th : List (List Span)) : Nat → Nat → (Nat → Int) → ES → ES
  | 0, _, _, es => es
  | r + 1, y, f, es => match findS es y f with
    | some _ => es
    | none => putS (if (wrongF s th y f).1 = 1 then foldES (fun x e => seaE s th r (y + 1) (jackF x (nextF s th y f)) e) (2 ^ s.piles.length) es else es) y f (chC (best s th (r + 1) y f))
def validS (s : PileSite) (th : List (List Span)) (es : ES) : Prop := ∀ p ∈ es, ∃ (r y : Nat) (f : Nat → Int), y + r = th.length ∧ p = (keyS y f, chC (best s th r y f))
theorem all12 {p : Nat → Prop} : (∀ q, q < 12 → p q) ↔ p 0 ∧ p 1 ∧ p 2 ∧ p 3 ∧ p 4 ∧ p 5 ∧ p 6 ∧ p 7 ∧ p 8 ∧ p 9 ∧ p 10 ∧ p 11 := by
  constructor
  · intro h
    exact ⟨h 0 (by omega), h 1 (by omega), h 2 (by omega), h 3 (by omega), h 4 (by omega), h 5 (by omega), h 6 (by omega), h 7 (by omega), h 8 (by omega), h 9 (by omega), h 10 (by omega), h 11 (by omega)⟩
  · rintro ⟨h0, h1, h2, h3, h4, h5, h6, h7, h8, h9, h10, h11⟩ q hq
    match q, hq with
    | 0, _ => exact h0
    | 1, _ => exact h1
    | 2, _ => exact h2
    | 3, _ => exact h3
    | 4, _ => exact h4
    | 5, _ => exact h5
    | 6, _ => exact h6
    | 7, _ => exact h7
    | 8, _ => exact h8
    | 9, _ => exact h9
    | 10, _ => exact h10
    | 11, _ => exact h11
theorem eqA_spot (y y' : Int) (f g : Nat → Int) : ∃ b, eqA LK13 (cellsOf (keyS y f)) (cellsOf (keyS y' g)) = some b ∧ (b = true ↔ y = y' ∧ ∀ q, q < 12 → f q = g q) := by
  refine ⟨decide (y = y') && (decide (f 0 = g 0) && (decide (f 1 = g 1) && (decide (f 2 = g 2) && (decide (f 3 = g 3) && (decide (f 4 = g 4) && (decide (f 5 = g 5) && (decide (f 6 = g 6) && (decide (f 7 = g 7) && (decide (f 8 = g 8) && (decide (f 9 = g 9) && (decide (f 10 = g 10) && (decide (f 11 = g 11) && true)))))))))))), rfl, ?_⟩
  simp only [Bool.and_eq_true, decide_eq_true_eq, and_true, all12]
section
variable {s : PileSite} {th : List (List Span)}
theorem nextF_ext {y : Nat} {f g : Nat → Int} (h : ∀ q, q < 12 → f q = g q) : ∀ q, q < 12 → nextF s th y f q = nextF s th y g q := fun q hq => by unfold nextF; rw [h q hq]
theorem jackF_ext {b : Int} {f g : Nat → Int} (h : ∀ q, q < 12 → f q = g q) : ∀ q, q < 12 → jackF b f q = jackF b g q := fun q hq => by unfold jackF; rw [h q hq]
theorem lvOf_ext {n : Nat} (hn : n ≤ 6) {f g : Nat → Int} (h : ∀ q, q < 12 → f q = g q) : lvOf n f = lvOf n g := List.map_congr_left fun k hk => by
  have hk := List.mem_range.1 hk
  rw [h (2 * k) (by omega), h (2 * k + 1) (by omega)]
theorem wrongF_ext (hn : s.piles.length ≤ 6) {y : Nat} {f g : Nat → Int} (h : ∀ q, q < 12 → f q = g q) : wrongF s th y f = wrongF s th y g := by
  unfold wrongF; rw [lvOf_ext hn (nextF_ext h)]
theorem best_ext (hn : s.piles.length ≤ 6) : ∀ r y (f g : Nat → Int), (∀ q, q < 12 → f q = g q) → best s th r y f = best s th r y g
  | 0, _, _, _, _ => rfl
  | r + 1, y, f, g, h => by
    have e : (fun x : Nat => (costTo s x 6 + (best s th r (y + 1) (jackF x (nextF s th y f))).2.1, (best s th r (y + 1) (jackF x (nextF s th y f))).2.2)) = fun x : Nat => (costTo s x 6 + (best s th r (y + 1) (jackF x (nextF s th y g))).2.1, (best s th r (y + 1) (jackF x (nextF s th y g))).2.2) :=
      funext fun x => by rw [best_ext hn r (y + 1) _ _ (jackF_ext (nextF_ext h))]
    simp only [best]
    rw [wrongF_ext hn h, e]
theorem find_spot (hn : s.piles.length ≤ 6) {r y : Nat} {f : Nat → Int} (hT : y + r = th.length) : ∀ (es : ES) (i : Nat), validS s th es → findA LK13 (keyS y f) es i = some none ∨ ∃ j, findA LK13 (keyS y f) es i = some (some (j, chC (best s th r y f)))
  | [], i, _ => .inl rfl
  | p :: es, i, hv => by
    obtain ⟨r', y', g, h1, rfl⟩ := hv p List.mem_cons_self
    obtain ⟨b, b1, b2⟩ := eqA_spot y y' f g
    simp only [findA, b1]
    cases b with
    | false => exact find_spot hn hT es (i + 1) (fun q hq => hv q (List.mem_cons_of_mem _ hq))
    | true =>
      obtain ⟨c1, c2⟩ := b2.1 rfl
      right
      refine ⟨i, ?_⟩
      have e1 : y' = y := by omega
      subst e1
      have e2 : r' = r := by omega
      subst e2
      rw [best_ext hn r' y' f g c2]
theorem valid_keys {es : ES} (hv : validS s th es) : es.all (fun p => keyOK true LK13 p.1) = true := List.all_eq_true.2 fun p hp => by
  obtain ⟨r, y, f, -, rfl⟩ := hv p hp
  rfl
theorem valid_ref {es : ES} (hv : validS s th es) (k : Nat) : es.all (fun p => refA k p.2) = true := List.all_eq_true.2 fun p hp => by
  obtain ⟨r, y, f, -, rfl⟩ := hv p hp
  rfl
theorem valid_put {es : ES} (hv : validS s th es) {r y : Nat} {f : Nat → Int} (hT : y + r = th.length) : validS s th (putS es y f (chC (best s th r y f))) := by
  unfold putS
  split
  · intro p hp
    rcases List.mem_or_eq_of_mem_set hp with hp | rfl
    · exact hv p hp
    · exact ⟨r, y, f, hT, rfl⟩
  · intro p hp
    rcases List.mem_append.1 hp with hp | hp
    · exact hv p hp
    · obtain rfl := List.mem_singleton.1 hp
      exact ⟨r, y, f, hT, rfl⟩
theorem valid_fold {g : Nat → ES → ES} (hg : ∀ x es, validS s th es → validS s th (g x es)) : ∀ m es, validS s th es → validS s th (foldES g m es)
  | 0, _, h => h
  | m + 1, es, h => hg m _ (valid_fold hg m es h)
theorem valid_sea : ∀ r y f es, y + r = th.length → validS s th es → validS s th (seaE s th r y f es)
  | 0, _, _, _, _, h => h
  | r + 1, y, f, es, hT, h => by
    simp only [seaE]
    split
    · exact h
    · refine valid_put ?_ hT
      split
      · exact valid_fold (fun x e he => valid_sea r (y + 1) _ e (by omega) he) _ _ h
      · exact h
end
end Go.Tk

set_option linter.unusedVariables false
set_option linter.unusedSimpArgs false
set_option maxRecDepth 8000
set_option maxHeartbeats 4000000
/- The search, as the program makes it: a closure that calls itself, and a map. -/
namespace Go.Tk
open Go Go.Av Go.Proofs.YtibgfmhddcibcaaDoor
def caOf (s : PileSite) (th : List (List Span)) : List AV := [.tptr [slOf spansCs th] 0, .ptr 5 0 1 0 0, .tptr [.tptr (siteCs s th) 0] 0, .tptr s.cs 0, .ptr 6 0 1 0 0]
def baseM (s : PileSite) (th : List (List Span)) (es : ES) : List AObj := [.gone, .gone, .gone, .gone, .map es, .row 109 0 1 [[.mp 4]], .row 110 0 1 [[.fn (.func F.pile_Best_1) [] (caOf s th)]]]
theorem base_len {s : PileSite} {th : List (List Span)} {es : ES} : (baseM s th es).length = 7 := rfl
theorem base_ref {s : PileSite} {th : List (List Span)} {es : ES} (hv : validS s th es) : refM 7 (baseM s th es) = true := by
  have h : (es.all fun p => refA 7 p.2) = true := valid_ref hv 7
  simp only [baseM, refM, refO, h, Bool.true_and, Bool.and_true]
  rfl
theorem look_miss {env : List (Nat × AV)} {μ : List AObj} {m k : SX} {zero : AV} {es : ES} {id : Nat} {y : Int} {f : Nat → Int} (hm : evX env m = .mp id) (hk : evX env k = keyS y f) (hμ : μ[id]? = some (.map es)) (hall : es.all (fun p => keyOK true LK13 p.1) = true) (hf : findA LK13 (keyS y f) es 0 = some none) :
    sopA (.look true LK13 zero true m k) env μ = some (.tup [zero, .bool false], μ) := by
  have hk1 : keyOK true LK13 (keyS y f) = true := rfl
  simp only [sopA, hm, hk, lookA, hμ, hall, hk1, and_self, if_true, hf, okA, withMu, Option.map_some]
theorem look_hit {env : List (Nat × AV)} {μ : List AObj} {m k : SX} {zero v : AV} {es : ES} {id j : Nat} {y : Int} {f : Nat → Int} (hm : evX env m = .mp id) (hk : evX env k = keyS y f) (hμ : μ[id]? = some (.map es)) (hall : es.all (fun p => keyOK true LK13 p.1) = true) (hf : findA LK13 (keyS y f) es 0 = some (some (j, v))) :
    sopA (.look true LK13 zero true m k) env μ = some (.tup [v, .bool true], μ) := by
  have hk1 : keyOK true LK13 (keyS y f) = true := rfl
  simp only [sopA, hm, hk, lookA, hμ, hall, hk1, and_self, if_true, hf, okA, withMu, Option.map_some]
theorem put_spot {s : PileSite} {th : List (List Span)} (hn : s.piles.length ≤ 6) {env : List (Nat × AV)} {μ : List AObj} {m k x : SX} {v : AV} {es : ES} {id r y : Nat} {f : Nat → Int} (hm : evX env m = .mp id) (hk : evX env k = keyS y f) (hx : evX env x = v) (hμ : μ[id]? = some (.map es)) (hv : validS s th es) (hT : y + r = th.length) :
    sopA (.putM true LK13 m k x) env μ = some (.dead, μ.set id (.map (putS es y f v))) := by
  have hk1 : keyOK true LK13 (keyS y f) = true := rfl
  have hall := valid_keys hv
  unfold putS findS
  rcases find_spot hn hT es 0 hv with hf | ⟨j, hf⟩
  · (simp only [sopA, hm, hk, hx, putMA, hμ, hall, hk1, and_self, if_true]; rw [hf]; rfl)
  · (simp only [sopA, hm, hk, hx, putMA, hμ, hall, hk1, and_self, if_true]; rw [hf]; rfl)
theorem oSt {K : Ctx} {F : Fcx} {Q : AExit → St → Prop} {env : List (Nat × AV)} {μ μ' : List AObj} {op : SOp} {x : AV} {l : List SOper} (hs : sopA op env μ = some (x, μ')) (h : semL K F l ⟨env, μ'⟩ Q) : semL K F (⟨none, none, op⟩ :: l) ⟨env, μ⟩ Q := semL_op rfl hs h
end Go.Tk
namespace Go.Proofs.YtibgfmhddcibcaaDoor
open Go Go.Av Go.Tk
attribute [local irreducible] Holds sem semL ACalls FnIs

theorem best_1_1 {K : Ctx} (hP : K.P = Tryd.prog) (hGK : ∀ w w', K.G w → RowKit.Below w.heap.size w w' → K.G w') (s : PileSite) (th : List (List Span)) (hs : s.ok) (y x : Nat) (hy : y < 1000) (hx : (x : Int) ≤ 2 ^ s.piles.length - 1) (g : Nat → Int) (es es' : ES) (hv : validS s th es) (hv' : validS s th es')
    (c : Int × Int × Bool) (hc : 0 ≤ c.2.1 ∧ c.2.1 ≤ 1000000000)
    (hS : ACalls K F.pile_Best_1 (keyS (y + 1 : Nat) (jackF x g) :: caOf s th) (baseM s th es) fun ae μ' => ae = .ret (chC c) ∧ μ' = baseM s th es') :
    ACalls K F.pile_Best_1_1 [I x, .ptr 6 0 1 0 0, .tptr [.tptr (siteCs s th) 0] 0, .tptr (spotL y g) 0] (baseM s th es) fun ae μ' => ae = .ret (.tup [I (costTo s x 6 + c.2.1), B c.2.2]) ∧ μ' = baseM s th es' := by
  have hn : 1 ≤ s.piles.length ∧ s.piles.length ≤ 6 := hs.2.1
  have pow : ∀ i : Nat, i ≤ 6 → (2 : Int) ^ i ≤ 64 := by decide
  have hpw := pow _ hn.2
  have hcb := costTo_bound hs (bits := (x : Int)) 6
  obtain ⟨P, w0, S0, G, hG0⟩ := K
  simp only at hP hGK
  subst hP
  have hJ := pile_site_jack hGK (.tptr (siteCs s th) 0) rfl y (by omega) g x (by omega)
  have hC := pile_site_cost hGK s th hs x (by omega)
  refine ACalls.drop (acalls_of_sem fn_pile_Best_1_1 (by simp) fun D => ?_) rfl (base_ref hv')
  unfold c_pile_Best_1_1 cval enterEnv
  simp only [List.zipIdx_cons, List.zipIdx_nil, List.map_cons, List.map_nil, Nat.zero_add, Nat.reduceAdd]
  unfold baseM
  repeat' (first | ((first | refine o1 rfl ?_ | refine o0 rfl ?_); intro k hk; simp (disch := omega) only [ev0, sl_cells, simprocAttr]; refine hk _ _ ?_; clear hk k) | refine ono rfl ?_ | ((first | refine osplitG rfl (fun h => ?_) (fun h => ?_) | refine osplitB rfl (fun h => ?_) (fun h => ?_)) <;> (fail_if_success (simp only [eq_self, reduceCtorEq] at h))) | refine onx ?_ | refine onb ?_ | refine sreg ?_ | refine qT rfl ?_ | refine qF rfl ?_ | refine scondT rfl ?_ | refine scondF rfl ?_ | refine ocondP rfl (fun h => ?_) (fun h => ?_) | refine ocondB rfl (fun h => ?_) (fun h => ?_) | refine scondP rfl (fun h => ?_) (fun h => ?_) | refine scond rfl (fun h => ?_) (fun h => ?_) | refine oskip ?_ | refine oskipb ?_ | refine oret ?_ | refine sem_ret ?_ | refine sem_seq ?_ | refine sreg1 ?_)
  refine sem_ego 7 5 hmix (by kernel_rfl) (by kernel_rfl) ?_
  simp only [List.take_succ_cons, List.take_zero, List.drop_succ_cons, List.drop_zero, List.take_nil, List.drop_nil]
  repeat' (first | ((first | apply mop | apply mop0); (case hg => rfl); (case hq => rfl); intro k hk; simp (disch := omega) only [ev0, sl_cells, simprocAttr, spot_len, spot_take]; refine hk _ _ rfl ?_; clear hk k) | (apply mno; (case hg => rfl)) | (apply mcall; (case he => (simp only [ev0, sl_cells, simprocAttr] <;> rfl)); (case hc => first | exact hJ); (case ht => rfl); (case hg => rfl); (case hr => rfl)) | (apply mbox; (case hx => (simp only [wv, simprocAttr] <;> rfl)); (case hg => rfl); (case hall => rfl); (case hr => rfl); simp only [cellsOf, List.length_cons, List.length_nil, Nat.reduceAdd, Nat.zero_add, List.nil_append, List.cons_append, List.set_cons_zero, List.set_cons_succ, chunks, List.take_succ_cons, List.take_zero, List.drop_succ_cons, List.drop_zero]) | (apply mbldS; (case hb => (simp (disch := omega) only [ev0, sl_cells, simprocAttr] <;> rfl)); (case hg => rfl); (case hr => rfl); simp only [cellsOf, List.length_cons, List.length_nil, Nat.reduceAdd, Nat.zero_add, List.nil_append, List.cons_append, List.set_cons_zero, List.set_cons_succ, chunks, List.take_succ_cons, List.take_zero, List.drop_succ_cons, List.drop_zero]) | ((first | (apply msto (q := 0); (case hq => rfl)) | (apply msto (q := 1); (case hq => rfl)) | (apply msto (q := 2); (case hq => rfl)) | (apply msto (q := 3); (case hq => rfl))); (case hx => (simp only [wv, simprocAttr] <;> rfl)); (case haddr => (simp only [wv, simprocAttr] <;> rfl)); (case hg => rfl); (case hl1 => rfl); (case hl2 => rfl); (case hok => rfl); (case hr => rfl); simp only [cellsOf, List.length_cons, List.length_nil, Nat.reduceAdd, Nat.zero_add, List.nil_append, List.cons_append, List.set_cons_zero, List.set_cons_succ, chunks, List.take_succ_cons, List.take_zero, List.drop_succ_cons, List.drop_zero]) | (apply mnil; simp only [SlotR.fin, List.map_cons, List.map_nil, List.cons_append, List.nil_append, List.append_nil]) | (refine msplit rfl (fun h => ?_) (fun h => ?_) <;> simp only [h] <;> (try simp only [Bool.not_eq_true', Bool.not_eq_false', decide_eq_true_eq, decide_eq_false_iff_not] at h)))
  refine mnilC ?_
  refine ⟨F.pile_Best_1, keyS (y + 1 : Nat) (jackF x g) :: caOf s th, chC c, baseM s th es', rfl, rfl, rfl, base_ref hv', rfl, hS, ?_⟩
  simp only [opAt, List.getD_cons_succ, List.getD_cons_zero, pushE, List.take_succ_cons, List.take_zero, List.drop_succ_cons, List.drop_zero, List.take_nil, List.drop_nil]
  repeat' (first | ((first | apply mop | apply mop0); (case hg => rfl); (case hq => rfl); intro k hk; simp (disch := omega) only [ev0, sl_cells, simprocAttr]; refine hk _ _ rfl ?_; clear hk k) | (apply mno; (case hg => rfl)) | (apply mcall; (case he => (simp only [ev0, sl_cells, simprocAttr] <;> rfl)); (case hc => first | exact hJ); (case ht => rfl); (case hg => rfl); (case hr => rfl)) | (apply mbox; (case hx => (simp only [wv, simprocAttr] <;> rfl)); (case hg => rfl); (case hall => rfl); (case hr => rfl); simp only [cellsOf, List.length_cons, List.length_nil, Nat.reduceAdd, Nat.zero_add, List.nil_append, List.cons_append, List.set_cons_zero, List.set_cons_succ, chunks, List.take_succ_cons, List.take_zero, List.drop_succ_cons, List.drop_zero]) | (apply mbldS; (case hb => (simp (disch := omega) only [ev0, sl_cells, simprocAttr] <;> rfl)); (case hg => rfl); (case hr => rfl); simp only [cellsOf, List.length_cons, List.length_nil, Nat.reduceAdd, Nat.zero_add, List.nil_append, List.cons_append, List.set_cons_zero, List.set_cons_succ, chunks, List.take_succ_cons, List.take_zero, List.drop_succ_cons, List.drop_zero]) | ((first | (apply msto (q := 0); (case hq => rfl)) | (apply msto (q := 1); (case hq => rfl)) | (apply msto (q := 2); (case hq => rfl)) | (apply msto (q := 3); (case hq => rfl))); (case hx => (simp only [wv, simprocAttr] <;> rfl)); (case haddr => (simp only [wv, simprocAttr] <;> rfl)); (case hg => rfl); (case hl1 => rfl); (case hl2 => rfl); (case hok => rfl); (case hr => rfl); simp only [cellsOf, List.length_cons, List.length_nil, Nat.reduceAdd, Nat.zero_add, List.nil_append, List.cons_append, List.set_cons_zero, List.set_cons_succ, chunks, List.take_succ_cons, List.take_zero, List.drop_succ_cons, List.drop_zero]) | (apply mnil; simp only [SlotR.fin, List.map_cons, List.map_nil, List.cons_append, List.nil_append, List.append_nil]) | (refine msplit rfl (fun h => ?_) (fun h => ?_) <;> simp only [h] <;> (try simp only [Bool.not_eq_true', Bool.not_eq_false', decide_eq_true_eq, decide_eq_false_iff_not] at h)))
  refine mnilC ⟨rfl, ?_⟩
  simp only [SlotR.fin, List.map_cons, List.map_nil, List.cons_append, List.nil_append, List.append_nil]
  unfold baseM
  repeat' (first | ((first | refine o1 rfl ?_ | refine o0 rfl ?_); intro k hk; simp (disch := omega) only [ev0, sl_cells, simprocAttr]; refine hk _ _ ?_; clear hk k) | refine ono rfl ?_ | ((first | refine osplitG rfl (fun h => ?_) (fun h => ?_) | refine osplitB rfl (fun h => ?_) (fun h => ?_)) <;> (fail_if_success (simp only [eq_self, reduceCtorEq] at h))) | refine onx ?_ | refine onb ?_ | refine sreg ?_ | refine qT rfl ?_ | refine qF rfl ?_ | refine scondT rfl ?_ | refine scondF rfl ?_ | refine ocondP rfl (fun h => ?_) (fun h => ?_) | refine ocondB rfl (fun h => ?_) (fun h => ?_) | refine scondP rfl (fun h => ?_) (fun h => ?_) | refine scond rfl (fun h => ?_) (fun h => ?_) | refine oskip ?_ | refine oskipb ?_ | refine oret ?_ | refine sem_ret ?_ | refine sem_seq ?_ | refine sreg1 ?_)
  ((refine sem_mgo 9 hmix (by kernel_rfl) ?_; simp only [List.take_succ_cons, List.take_zero, List.drop_succ_cons, List.drop_zero, List.take_nil, List.drop_nil]); (repeat' (first | ((first | apply mop | apply mop0); (case hg => rfl); (case hq => rfl); intro k hk; simp (disch := omega) only [ev0, sl_cells, simprocAttr]; refine hk _ _ rfl ?_; clear hk k) | (apply mno; (case hg => rfl)) | (apply mcall; (case he => (simp only [ev0, sl_cells, simprocAttr] <;> rfl)); (case hc => first | exact hC); (case ht => rfl); (case hg => rfl); (case hr => rfl)) | (apply mbox; (case hx => (simp only [wv, simprocAttr] <;> rfl)); (case hg => rfl); (case hall => rfl); (case hr => rfl); simp only [cellsOf, List.length_cons, List.length_nil, Nat.reduceAdd, Nat.zero_add, List.nil_append, List.cons_append, List.set_cons_zero, List.set_cons_succ, chunks, List.take_succ_cons, List.take_zero, List.drop_succ_cons, List.drop_zero]) | (apply mbldS; (case hb => (simp (disch := omega) only [ev0, sl_cells, simprocAttr] <;> rfl)); (case hg => rfl); (case hr => rfl); simp only [cellsOf, List.length_cons, List.length_nil, Nat.reduceAdd, Nat.zero_add, List.nil_append, List.cons_append, List.set_cons_zero, List.set_cons_succ, chunks, List.take_succ_cons, List.take_zero, List.drop_succ_cons, List.drop_zero]) | ((first | (apply msto (q := 0); (case hq => rfl)) | (apply msto (q := 1); (case hq => rfl)) | (apply msto (q := 2); (case hq => rfl)) | (apply msto (q := 3); (case hq => rfl))); (case hx => (simp only [wv, simprocAttr] <;> rfl)); (case haddr => (simp only [wv, simprocAttr] <;> rfl)); (case hg => rfl); (case hl1 => rfl); (case hl2 => rfl); (case hok => rfl); (case hr => rfl); simp only [cellsOf, List.length_cons, List.length_nil, Nat.reduceAdd, Nat.zero_add, List.nil_append, List.cons_append, List.set_cons_zero, List.set_cons_succ, chunks, List.take_succ_cons, List.take_zero, List.drop_succ_cons, List.drop_zero]) | (apply mnil; simp only [SlotR.fin, List.map_cons, List.map_nil, List.cons_append, List.nil_append, List.append_nil]) | (refine msplit rfl (fun h => ?_) (fun h => ?_) <;> simp only [h] <;> (try simp only [Bool.not_eq_true', Bool.not_eq_false', decide_eq_true_eq, decide_eq_false_iff_not] at h)))) <;> (repeat' (first | ((first | refine o1 rfl ?_ | refine o0 rfl ?_); intro k hk; simp (disch := omega) only [ev0, sl_cells, simprocAttr]; refine hk _ _ ?_; clear hk k) | refine ono rfl ?_ | (apply ocall; (case he => (simp only [ev0, sl_cells, simprocAttr] <;> rfl)); (case hc => first | exact hC); (case ht => rfl); (case hg => rfl)) | ((first | refine osplitG rfl (fun h => ?_) (fun h => ?_) | refine osplitB rfl (fun h => ?_) (fun h => ?_)) <;> (fail_if_success (simp only [eq_self, reduceCtorEq] at h))) | refine onx ?_ | refine onb ?_ | refine sreg ?_ | refine qT rfl ?_ | refine qF rfl ?_ | refine scondT rfl ?_ | refine scondF rfl ?_ | refine ocondP rfl (fun h => ?_) (fun h => ?_) | refine ocondB rfl (fun h => ?_) (fun h => ?_) | refine scondP rfl (fun h => ?_) (fun h => ?_) | refine scond rfl (fun h => ?_) (fun h => ?_) | refine oskip ?_ | refine oskipb ?_ | refine oret ?_ | refine sem_ret ?_ | refine sem_seq ?_ | refine sreg1 ?_)))
  exact ⟨_, rfl, rfl, rfl, by simp⟩
end Go.Proofs.YtibgfmhddcibcaaDoor

set_option linter.unusedVariables false
set_option linter.unusedSimpArgs false
set_option maxRecDepth 8000
set_option maxHeartbeats 4000000
/- The search over all spots, by the years that are left. -/
namespace Go.Tk
open Go Go.Av Go.Proofs.YtibgfmhddcibcaaDoor
theorem best_cost {s : PileSite} (hs : s.ok) {th : List (List Span)} : ∀ r y f, 0 ≤ (best s th r y f).2.1 ∧ (best s th r y f).2.1 ≤ 6000000 * r
  | 0, _, _ => by simp [best]
  | r + 1, y, f => by
    have hc : ∀ (c : Nat → Int × Bool) (b : Int), (∀ x, 0 ≤ (c x).1 ∧ (c x).1 ≤ b) → 0 ≤ b → ∀ m, 0 ≤ (cheapF c m).2.1 ∧ (cheapF c m).2.1 ≤ b := by
      intro c b h hb m
      induction m with
      | zero => exact ⟨Int.le_refl _, hb⟩
      | succ m ih =>
        simp only [cheapF]
        split
        · exact h m
        · exact ih
    simp only [best]
    split
    · refine hc _ _ (fun x => ?_) (by omega) _
      have h1 := best_cost (th := th) hs r (y + 1) (jackF x (nextF s th y f))
      have h2 := costTo_bound hs (bits := (x : Int)) 6
      dsimp only
      omega
    · exact ⟨Int.le_refl _, by dsimp only; omega⟩
theorem next_bound {s : PileSite} (hs : s.ok) {th : List (List Span)} {y : Nat} {f : Nat → Int} (h : ∀ q, -(1000 * (y : Int)) ≤ f q ∧ f q ≤ 0) : ∀ q, -(1000 * ((y + 1 : Nat) : Int)) ≤ nextF s th y f q ∧ nextF s th y f q ≤ 0 := by
  intro q
  have h1 := h q
  have h2 := lowOf_bound hs th y (q / 2)
  have h3 := highOf_bound hs th y (q / 2)
  unfold nextF
  split
  · split <;> omega
  · omega
theorem jack_bound {b : Int} {y : Nat} {f : Nat → Int} (h : ∀ q, -(1000 * (y : Int)) ≤ f q ∧ f q ≤ 0) : ∀ q, -(1000 * (y : Int)) ≤ jackF b f q ∧ jackF b f q ≤ 0 := by
  intro q
  have h1 := h q
  unfold jackF
  split <;> omega
theorem lvOf_len {n : Nat} {f : Nat → Int} : (lvOf n f).length = n := by simp [lvOf]
theorem lvOf_lvl {n y : Nat} (hy : y ≤ 100) {f : Nat → Int} (h : ∀ q, -(1000 * (y : Int)) ≤ f q ∧ f q ≤ 0) : lvl (lvOf n f) := by
  intro i
  by_cases hi : i < n
  · rw [show (lvOf n f).getD i default = ⟨f (2 * i), f (2 * i + 1)⟩ from getD_range hi]
    have h1 := h (2 * i)
    have h2 := h (2 * i + 1)
    dsimp only
    omega
  · rw [show (lvOf n f).getD i default = default by simp [lvOf, List.getD, hi]]
    exact ⟨⟨by decide, by decide⟩, by decide, by decide⟩
theorem frz_spot {y : Int} {f : Nat → Int} {id g sz n : Nat} {F : Nat → List AV} : frzL id g sz n F (spotL y f) = spotL y f := rfl
theorem frz_es {s : PileSite} {th : List (List Span)} {es : ES} (hv : validS s th es) {id g sz n : Nat} {F : Nat → List AV} : es.map (fun p => (p.1, frzA id g sz n F p.2)) = es := by
  have : ∀ p ∈ es, (p.1, frzA id g sz n F p.2) = p := fun p hp => by
    obtain ⟨r, y, f, -, rfl⟩ := hv p hp
    rfl
  rw [List.map_congr_left this, List.map_id']
theorem frz_ca {s : PileSite} {th : List (List Span)} {g sz n : Nat} {F : Nat → List AV} : frzL 10 g sz n F (caOf s th) = caOf s th := rfl
theorem sea_some {s : PileSite} {th : List (List Span)} {r y : Nat} {f : Nat → Int} {es : ES} {p : Nat × AV} (h : findA LK13 (keyS y f) es 0 = some (some p)) : seaE s th (r + 1) y f es = es := by
  have e : findS es y f = some p := by unfold findS; rw [h]; rfl
  simp only [seaE, e]
theorem sea_none {s : PileSite} {th : List (List Span)} {r y : Nat} {f : Nat → Int} {es : ES} (h : findA LK13 (keyS y f) es 0 = some none) : seaE s th (r + 1) y f es = putS (if (wrongF s th y f).1 = 1 then foldES (fun x e => seaE s th r (y + 1) (jackF x (nextF s th y f)) e) (2 ^ s.piles.length) es else es) y f (chC (best s th (r + 1) y f)) := by
  have e : findS es y f = none := by unfold findS; rw [h]; rfl
  simp only [seaE, e]
end Go.Tk
namespace Go.Proofs.YtibgfmhddcibcaaDoor
open Go Go.Av Go.Tk
attribute [local irreducible] Holds sem semL ACalls FnIs

theorem best_1 {K : Ctx} (hP : K.P = Tryd.prog) (hGK : ∀ w w', K.G w → RowKit.Below w.heap.size w w' → K.G w') (s : PileSite) (th : List (List Span)) (hs : s.ok) (ht : thawsOk s th) (hth : th.length ≤ 10) :
    ∀ (r y : Nat) (f : Nat → Int) (es : ES), y + r = th.length → (∀ q, -(1000 * (y : Int)) ≤ f q ∧ f q ≤ 0) → validS s th es →
      ACalls K F.pile_Best_1 (keyS y f :: caOf s th) (baseM s th es) fun ae μ' => ae = .ret (chC (best s th r y f)) ∧ μ' = baseM s th (seaE s th r y f es)
  | 0, y, f, es, hT, hf, hv => by
    obtain ⟨P, w0, S0, G, hG0⟩ := K
    simp only at hP hGK
    subst hP
    have hyT : (y : Int) = th.length := by omega
    refine ACalls.drop (acalls_of_sem fn_pile_Best_1 (by simp [caOf]) fun D => ?_) rfl (base_ref hv)
    unfold c_pile_Best_1 cval enterEnv caOf
    simp only [List.zipIdx_cons, List.zipIdx_nil, List.map_cons, List.map_nil, Nat.zero_add, Nat.reduceAdd]
    unfold baseM
    repeat' (first | ((first | refine o1 rfl ?_ | refine o0 rfl ?_); intro k hk; simp (disch := omega) only [ev0, sl_cells, simprocAttr, slOf, spot_get0, spot_len, hyT, eq_self]; refine hk _ _ ?_; clear hk k) | refine ono rfl ?_ | ((first | refine osplitG rfl (fun h => ?_) (fun h => ?_) | refine osplitB rfl (fun h => ?_) (fun h => ?_)) <;> (fail_if_success (simp only [eq_self, reduceCtorEq] at h))) | refine onx ?_ | refine onb ?_ | refine sreg ?_ | refine qT rfl ?_ | refine qF rfl ?_ | refine scondT rfl ?_ | refine scondF rfl ?_ | refine ocondP rfl (fun h => ?_) (fun h => ?_) | refine ocondB rfl (fun h => ?_) (fun h => ?_) | refine scondP rfl (fun h => ?_) (fun h => ?_) | refine scond rfl (fun h => ?_) (fun h => ?_) | refine oskip ?_ | refine oskipb ?_ | refine oret ?_ | refine sem_ret ?_ | refine sem_seq ?_ | refine sreg1 ?_)
    exact ⟨_, rfl, rfl, rfl, by simp⟩
  | r + 1, y, f, es, hT, hf, hv => by
    have IH := best_1 hP hGK s th hs ht hth r
    have hn : 1 ≤ s.piles.length ∧ s.piles.length ≤ 6 := hs.2.1
    have hyT : ¬ (y : Int) = th.length := by omega
    rcases find_spot hn.2 hT es 0 hv with hfd | ⟨j, hfd⟩
    · rw [sea_none hfd]
      have hv2 := valid_sea (r + 1) y f es hT hv
      rw [sea_none hfd] at hv2
      obtain ⟨P, w0, S0, G, hG0⟩ := K
      simp only at hP hGK
      subst hP
      have hN := pile_site_next hGK s th hs ht y (by omega) f (fun q => by have := hf q; omega)
      refine ACalls.drop (acalls_of_sem fn_pile_Best_1 (by simp [caOf]) fun D => ?_) rfl (base_ref hv2)
      unfold c_pile_Best_1 cval enterEnv caOf
      simp only [List.zipIdx_cons, List.zipIdx_nil, List.map_cons, List.map_nil, Nat.zero_add, Nat.reduceAdd]
      unfold baseM
      repeat' (first | ((first | refine o1 rfl ?_ | refine o0 rfl ?_); intro k hk; simp (disch := omega) only [ev0, sl_cells, simprocAttr, slOf, spot_get0, spot_len, spot_take, hyT]; refine hk _ _ ?_; clear hk k) | refine ono rfl ?_ | ((first | refine osplitG rfl (fun h => ?_) (fun h => ?_) | refine osplitB rfl (fun h => ?_) (fun h => ?_)) <;> (fail_if_success (simp only [eq_self, reduceCtorEq] at h))) | refine onx ?_ | refine onb ?_ | refine sreg ?_ | refine qT rfl ?_ | refine qF rfl ?_ | refine scondT rfl ?_ | refine scondF rfl ?_ | refine ocondP rfl (fun h => ?_) (fun h => ?_) | refine ocondB rfl (fun h => ?_) (fun h => ?_) | refine scondP rfl (fun h => ?_) (fun h => ?_) | refine scond rfl (fun h => ?_) (fun h => ?_) | refine oskip ?_ | refine oskipb ?_ | refine oret ?_ | refine sem_ret ?_ | refine sem_seq ?_ | refine sreg1 ?_)
      refine oS (look_miss rfl rfl rfl (valid_keys hv) hfd) ?_
      repeat' (first | ((first | refine o1 rfl ?_ | refine o0 rfl ?_); intro k hk; simp (disch := omega) only [ev0, sl_cells, simprocAttr, spot_get0, spot_len, spot_take]; refine hk _ _ ?_; clear hk k) | refine ono rfl ?_ | (apply ocall; (case he => (simp only [ev0, sl_cells, simprocAttr] <;> rfl)); (case hc => first | exact hN); (case ht => rfl); (case hg => rfl)) | ((first | refine osplitG rfl (fun h => ?_) (fun h => ?_) | refine osplitB rfl (fun h => ?_) (fun h => ?_)) <;> (fail_if_success (simp only [eq_self, reduceCtorEq] at h))) | refine onx ?_ | refine onb ?_ | refine sreg ?_ | refine qT rfl ?_ | refine qF rfl ?_ | refine scondT rfl ?_ | refine scondF rfl ?_ | refine ocondP rfl (fun h => ?_) (fun h => ?_) | refine ocondB rfl (fun h => ?_) (fun h => ?_) | refine scondP rfl (fun h => ?_) (fun h => ?_) | refine scond rfl (fun h => ?_) (fun h => ?_) | refine oskip ?_ | refine oskipb ?_ | refine oret ?_ | refine sem_ret ?_ | refine sem_seq ?_ | refine sreg1 ?_)
      have hnb := next_bound (th := th) hs hf
      have hFl := pile_site_fault hGK s th hs ht y (by omega) (lvOf s.piles.length (nextF s th y f)) lvOf_len (lvOf_lvl (y := y + 1) (by omega) hnb)
      have hF : Holds Tryd.prog G F.pile_site_fault [.tptr (siteCs s th) 0, I y, .sl s.piles.length (fun i => List.take 2 (List.drop (1 + i * 2) (spotL y (nextF s th y f))))] (.agg (faultAt s (th.getD y default) (lvOf s.piles.length (nextF s th y f)) y).cs) := by
        refine Holds.conv hFl rfl fun i x x' a b S w v h => ?_
        match i, a, b with
        | 0, a, b => cases a; cases b; exact h
        | 1, a, b => cases a; cases b; exact h
        | 2, a, b =>
          cases a; cases b
          unfold slOf
          rw [lvOf_len]
          refine h.sl_congr fun i hi => ?_
          rw [show (lvOf s.piles.length (nextF s th y f)).getD i default = ⟨nextF s th y f (2 * i), nextF s th y f (2 * i + 1)⟩ from getD_range hi]
          have e : ∀ k : Fin 6, List.take 2 (List.drop (1 + k.val * 2) (spotL y (nextF s th y f))) = [.int .i64 (nextF s th y f (2 * k.val)), .int .i64 (nextF s th y f (2 * k.val + 1))] := fun k => by
            match k with
            | 0 => rfl
            | 1 => rfl
            | 2 => rfl
            | 3 => rfl
            | 4 => rfl
            | 5 => rfl
          exact e ⟨i, by omega⟩
      refine sem_frzbox 10 rfl spot_flat ?_
      simp only [frzE, frzM, frzA, frzL, frzO, frz_sl, frz_span, frz_site, frz_siteCs, List.map_cons, List.map_nil, List.set_cons_zero, List.set_cons_succ, Nat.reduceEqDiff, if_true, if_false, and_self, Nat.reduceLT, Nat.reduceLeDiff, reduceIte, Nat.le_refl, frz_spot, frz_es hv, frz_ca, simprocAttr]
      by_cases hw : (wrongF s th y f).1 = 1
      · have hr : ((faultAt s (th.getD y default) (lvOf s.piles.length (nextF s th y f)) y).rule = 1) = True := by unfold faultAt; rw [faultW_rule]; exact eq_true hw
        have hsh : IntKind.i64.wrap (1 * 2 ^ (min s.piles.length IntKind.i64.bits)) = ((2 ^ s.piles.length : Nat) : Int) := by rw [shl_pow _ hn.2, Int.natCast_pow]; rfl
        have hm64 : 2 ^ s.piles.length ≤ 64 := Nat.le_trans (Nat.pow_le_pow_right (by decide) hn.2) (by decide)
        rw [if_pos hw] at hv2 ⊢
        have hb : best s th (r + 1) y f = cheapF (fun x => (costTo s x 6 + (best s th r (y + 1) (jackF x (nextF s th y f))).2.1, (best s th r (y + 1) (jackF x (nextF s th y f))).2.2)) (2 ^ s.piles.length) := by simp only [best, if_pos hw]
        have hvx : ∀ x, validS s th (foldES (fun x e => seaE s th r (y + 1) (jackF x (nextF s th y f)) e) x es) := fun x => valid_fold (fun x e he => valid_sea r (y + 1) _ e (by omega) he) x es hv
        ((refine sem_mgo 8 hmix (by kernel_rfl) ?_; simp only [List.take_succ_cons, List.take_zero, List.drop_succ_cons, List.drop_zero, List.take_nil, List.drop_nil]); (repeat' (first | ((first | apply mop | apply mop0); (case hg => rfl); (case hq => rfl); intro k hk; simp (disch := omega) only [ev0, sl_cells, simprocAttr, spot_get0, spot_len, spot_take, PileFault.cs, hr, siteCs, PileSite.cs, slOf, Option.map_none, Nat.sub_zero, hsh]; refine hk _ _ rfl ?_; clear hk k) | (apply mno; (case hg => rfl)) | (apply mcall; (case he => (simp only [ev0, sl_cells, simprocAttr] <;> rfl)); (case hc => first | exact hF); (case ht => rfl); (case hg => rfl); (case hr => rfl)) | (apply mbox; (case hx => (simp only [wv, simprocAttr] <;> rfl)); (case hg => rfl); (case hall => rfl); (case hr => rfl); simp only [cellsOf, List.length_cons, List.length_nil, Nat.reduceAdd, Nat.zero_add, List.nil_append, List.cons_append, List.set_cons_zero, List.set_cons_succ, chunks, List.take_succ_cons, List.take_zero, List.drop_succ_cons, List.drop_zero]) | (apply mbldS; (case hb => (simp (disch := omega) only [ev0, sl_cells, simprocAttr] <;> rfl)); (case hg => rfl); (case hr => rfl); simp only [cellsOf, List.length_cons, List.length_nil, Nat.reduceAdd, Nat.zero_add, List.nil_append, List.cons_append, List.set_cons_zero, List.set_cons_succ, chunks, List.take_succ_cons, List.take_zero, List.drop_succ_cons, List.drop_zero]) | ((first | (apply msto (q := 0); (case hq => rfl)) | (apply msto (q := 1); (case hq => rfl)) | (apply msto (q := 2); (case hq => rfl)) | (apply msto (q := 3); (case hq => rfl))); (case hx => (simp only [wv, simprocAttr] <;> rfl)); (case haddr => (simp only [wv, simprocAttr] <;> rfl)); (case hg => rfl); (case hl1 => rfl); (case hl2 => rfl); (case hok => rfl); (case hr => rfl); simp only [cellsOf, List.length_cons, List.length_nil, Nat.reduceAdd, Nat.zero_add, List.nil_append, List.cons_append, List.set_cons_zero, List.set_cons_succ, chunks, List.take_succ_cons, List.take_zero, List.drop_succ_cons, List.drop_zero]) | (apply mnil; simp only [SlotR.fin, List.map_cons, List.map_nil, List.cons_append, List.nil_append, List.append_nil]) | (refine msplit rfl (fun h => ?_) (fun h => ?_) <;> simp only [h] <;> (try simp only [Bool.not_eq_true', Bool.not_eq_false', decide_eq_true_eq, decide_eq_false_iff_not] at h)))) <;> (repeat' (first | ((first | refine o1 rfl ?_ | refine o0 rfl ?_); intro k hk; simp (disch := omega) only [ev0, sl_cells, simprocAttr, spot_get0, spot_len, spot_take, PileFault.cs, hr, siteCs, PileSite.cs, slOf, Option.map_none, Nat.sub_zero, hsh]; refine hk _ _ ?_; clear hk k) | refine ono rfl ?_ | (apply ocall; (case he => (simp only [ev0, sl_cells, simprocAttr] <;> rfl)); (case hc => first | exact hF); (case ht => rfl); (case hg => rfl)) | ((first | refine osplitG rfl (fun h => ?_) (fun h => ?_) | refine osplitB rfl (fun h => ?_) (fun h => ?_)) <;> (fail_if_success (simp only [eq_self, reduceCtorEq] at h))) | refine onx ?_ | refine onb ?_ | refine sreg ?_ | refine qT rfl ?_ | refine qF rfl ?_ | refine scondT rfl ?_ | refine scondF rfl ?_ | refine ocondP rfl (fun h => ?_) (fun h => ?_) | refine ocondB rfl (fun h => ?_) (fun h => ?_) | refine scondP rfl (fun h => ?_) (fun h => ?_) | refine scond rfl (fun h => ?_) (fun h => ?_) | refine oskip ?_ | refine oskipb ?_ | refine oret ?_ | refine sem_ret ?_ | refine sem_seq ?_ | refine sreg1 ?_)))
        refine semL_acall rfl (pile_cheapest rfl (2 ^ s.piles.length) (by omega) (fun x => (costTo s x 6 + (best s th r (y + 1) (jackF x (nextF s th y f))).2.1, (best s th r (y + 1) (jackF x (nextF s th y f))).2.2))
          (fun x => baseM s th (foldES (fun x e => seaE s th r (y + 1) (jackF x (nextF s th y f)) e) x es) ++ [.row 113 0 13 [spotL y f], .row 115 0 3 [[.int .i64 0, .int .i64 0, .bool false]], .row 115 0 3 [[.int .i64 0, .int .i64 0, .bool false]], .gone, .row 115 0 3 [[.int .i64 0, .int .i64 0, .bool false]]]) (fun x hx => ?_)) fun ae μ hr => ?_
        · have hxi : (x : Int) ≤ 2 ^ s.piles.length - 1 := by
            have h1 : (x : Int) < ((2 ^ s.piles.length : Nat) : Int) := by exact_mod_cast hx
            rw [Int.natCast_pow] at h1
            exact Int.le_sub_one_of_lt h1
          have hbc := best_cost (th := th) hs r (y + 1) (jackF x (nextF s th y f))
          exact (best_1_1 (K := ⟨Tryd.prog, w0, S0, G, hG0⟩) rfl hGK s th hs y x (by omega) hxi (nextF s th y f) _ _ (hvx x) (hvx (x + 1)) (best s th r (y + 1) (jackF x (nextF s th y f))) ⟨hbc.1, by omega⟩ (IH (y + 1) (jackF x (nextF s th y f)) _ (by omega) (jack_bound hnb) (hvx x))).frame rfl (base_ref (hvx x)) (by
              simp only [List.forall_mem_cons, List.not_mem_nil, false_implies, implies_true, and_true]
              exact ⟨rfl, rfl, rfl, rfl, rfl⟩) rfl
        · obtain ⟨rfl, rfl⟩ := hr
          change semL _ _ _ ⟨(_, _) :: _, _⟩ _
          unfold baseM
          simp only [List.cons_append, List.nil_append]
          repeat' (first | ((first | refine o1 rfl ?_ | refine o0 rfl ?_); intro k hk; simp (disch := omega) only [ev0, sl_cells, simprocAttr, spot_take, spot_len]; refine hk _ _ ?_; clear hk k) | refine ono rfl ?_ | ((first | refine osplitG rfl (fun h => ?_) (fun h => ?_) | refine osplitB rfl (fun h => ?_) (fun h => ?_)) <;> (fail_if_success (simp only [eq_self, reduceCtorEq] at h))) | refine onx ?_ | refine onb ?_ | refine sreg ?_ | refine qT rfl ?_ | refine qF rfl ?_ | refine scondT rfl ?_ | refine scondF rfl ?_ | refine ocondP rfl (fun h => ?_) (fun h => ?_) | refine ocondB rfl (fun h => ?_) (fun h => ?_) | refine scondP rfl (fun h => ?_) (fun h => ?_) | refine scond rfl (fun h => ?_) (fun h => ?_) | refine oskip ?_ | refine oskipb ?_ | refine oret ?_ | refine sem_ret ?_ | refine sem_seq ?_ | refine sreg1 ?_)
          refine oSt (put_spot hn.2 rfl rfl rfl rfl (hvx _) hT) ?_
          simp only [List.set_cons_succ, List.set_cons_zero]
          repeat' (first | ((first | refine o1 rfl ?_ | refine o0 rfl ?_); intro k hk; simp (disch := omega) only [ev0, sl_cells, simprocAttr]; refine hk _ _ ?_; clear hk k) | refine ono rfl ?_ | ((first | refine osplitG rfl (fun h => ?_) (fun h => ?_) | refine osplitB rfl (fun h => ?_) (fun h => ?_)) <;> (fail_if_success (simp only [eq_self, reduceCtorEq] at h))) | refine onx ?_ | refine onb ?_ | refine sreg ?_ | refine qT rfl ?_ | refine qF rfl ?_ | refine scondT rfl ?_ | refine scondF rfl ?_ | refine ocondP rfl (fun h => ?_) (fun h => ?_) | refine ocondB rfl (fun h => ?_) (fun h => ?_) | refine scondP rfl (fun h => ?_) (fun h => ?_) | refine scond rfl (fun h => ?_) (fun h => ?_) | refine oskip ?_ | refine oskipb ?_ | refine oret ?_ | refine sem_ret ?_ | refine sem_seq ?_ | refine sreg1 ?_)
          rw [hb]
          exact ⟨_, rfl, rfl, rfl, by simp⟩
      · have hr : ((faultAt s (th.getD y default) (lvOf s.piles.length (nextF s th y f)) y).rule = 1) = False := by unfold faultAt; rw [faultW_rule]; exact eq_false hw
        have hb : best s th (r + 1) y f = (0, 0, false) := by simp only [best, if_neg hw]
        rw [if_neg hw] at hv2 ⊢
        ((refine sem_mgo 8 hmix (by kernel_rfl) ?_; simp only [List.take_succ_cons, List.take_zero, List.drop_succ_cons, List.drop_zero, List.take_nil, List.drop_nil]); (repeat' (first | ((first | apply mop | apply mop0); (case hg => rfl); (case hq => rfl); intro k hk; simp (disch := omega) only [ev0, sl_cells, simprocAttr, spot_get0, spot_len, spot_take, PileFault.cs, hr, siteCs, PileSite.cs, slOf, Option.map_none, Nat.sub_zero]; refine hk _ _ rfl ?_; clear hk k) | (apply mno; (case hg => rfl)) | (apply mcall; (case he => (simp only [ev0, sl_cells, simprocAttr] <;> rfl)); (case hc => first | exact hF); (case ht => rfl); (case hg => rfl); (case hr => rfl)) | (apply mbox; (case hx => (simp only [wv, simprocAttr] <;> rfl)); (case hg => rfl); (case hall => rfl); (case hr => rfl); simp only [cellsOf, List.length_cons, List.length_nil, Nat.reduceAdd, Nat.zero_add, List.nil_append, List.cons_append, List.set_cons_zero, List.set_cons_succ, chunks, List.take_succ_cons, List.take_zero, List.drop_succ_cons, List.drop_zero]) | (apply mbldS; (case hb => (simp (disch := omega) only [ev0, sl_cells, simprocAttr] <;> rfl)); (case hg => rfl); (case hr => rfl); simp only [cellsOf, List.length_cons, List.length_nil, Nat.reduceAdd, Nat.zero_add, List.nil_append, List.cons_append, List.set_cons_zero, List.set_cons_succ, chunks, List.take_succ_cons, List.take_zero, List.drop_succ_cons, List.drop_zero]) | ((first | (apply msto (q := 0); (case hq => rfl)) | (apply msto (q := 1); (case hq => rfl)) | (apply msto (q := 2); (case hq => rfl)) | (apply msto (q := 3); (case hq => rfl))); (case hx => (simp only [wv, simprocAttr] <;> rfl)); (case haddr => (simp only [wv, simprocAttr] <;> rfl)); (case hg => rfl); (case hl1 => rfl); (case hl2 => rfl); (case hok => rfl); (case hr => rfl); simp only [cellsOf, List.length_cons, List.length_nil, Nat.reduceAdd, Nat.zero_add, List.nil_append, List.cons_append, List.set_cons_zero, List.set_cons_succ, chunks, List.take_succ_cons, List.take_zero, List.drop_succ_cons, List.drop_zero]) | (apply mnil; simp only [SlotR.fin, List.map_cons, List.map_nil, List.cons_append, List.nil_append, List.append_nil]) | (refine msplit rfl (fun h => ?_) (fun h => ?_) <;> simp only [h] <;> (try simp only [Bool.not_eq_true', Bool.not_eq_false', decide_eq_true_eq, decide_eq_false_iff_not] at h)))) <;> (repeat' (first | ((first | refine o1 rfl ?_ | refine o0 rfl ?_); intro k hk; simp (disch := omega) only [ev0, sl_cells, simprocAttr, spot_get0, spot_len, spot_take, PileFault.cs, hr, siteCs, PileSite.cs, slOf, Option.map_none, Nat.sub_zero]; refine hk _ _ ?_; clear hk k) | refine ono rfl ?_ | (apply ocall; (case he => (simp only [ev0, sl_cells, simprocAttr] <;> rfl)); (case hc => first | exact hF); (case ht => rfl); (case hg => rfl)) | ((first | refine osplitG rfl (fun h => ?_) (fun h => ?_) | refine osplitB rfl (fun h => ?_) (fun h => ?_)) <;> (fail_if_success (simp only [eq_self, reduceCtorEq] at h))) | refine onx ?_ | refine onb ?_ | refine sreg ?_ | refine qT rfl ?_ | refine qF rfl ?_ | refine scondT rfl ?_ | refine scondF rfl ?_ | refine ocondP rfl (fun h => ?_) (fun h => ?_) | refine ocondB rfl (fun h => ?_) (fun h => ?_) | refine scondP rfl (fun h => ?_) (fun h => ?_) | refine scond rfl (fun h => ?_) (fun h => ?_) | refine oskip ?_ | refine oskipb ?_ | refine oret ?_ | refine sem_ret ?_ | refine sem_seq ?_ | refine sreg1 ?_)))
        refine oSt (put_spot hn.2 rfl rfl rfl rfl hv hT) ?_
        simp only [List.set_cons_succ, List.set_cons_zero]
        repeat' (first | ((first | refine o1 rfl ?_ | refine o0 rfl ?_); intro k hk; simp (disch := omega) only [ev0, sl_cells, simprocAttr]; refine hk _ _ ?_; clear hk k) | refine ono rfl ?_ | ((first | refine osplitG rfl (fun h => ?_) (fun h => ?_) | refine osplitB rfl (fun h => ?_) (fun h => ?_)) <;> (fail_if_success (simp only [eq_self, reduceCtorEq] at h))) | refine onx ?_ | refine onb ?_ | refine sreg ?_ | refine qT rfl ?_ | refine qF rfl ?_ | refine scondT rfl ?_ | refine scondF rfl ?_ | refine ocondP rfl (fun h => ?_) (fun h => ?_) | refine ocondB rfl (fun h => ?_) (fun h => ?_) | refine scondP rfl (fun h => ?_) (fun h => ?_) | refine scond rfl (fun h => ?_) (fun h => ?_) | refine oskip ?_ | refine oskipb ?_ | refine oret ?_ | refine sem_ret ?_ | refine sem_seq ?_ | refine sreg1 ?_)
        rw [hb]
        exact ⟨_, rfl, rfl, rfl, by simp⟩
    · rw [sea_some hfd]
      obtain ⟨P, w0, S0, G, hG0⟩ := K
      simp only at hP hGK
      subst hP
      refine ACalls.drop (acalls_of_sem fn_pile_Best_1 (by simp [caOf]) fun D => ?_) rfl (base_ref hv)
      unfold c_pile_Best_1 cval enterEnv caOf
      simp only [List.zipIdx_cons, List.zipIdx_nil, List.map_cons, List.map_nil, Nat.zero_add, Nat.reduceAdd]
      unfold baseM
      repeat' (first | ((first | refine o1 rfl ?_ | refine o0 rfl ?_); intro k hk; simp (disch := omega) only [ev0, sl_cells, simprocAttr, slOf, spot_get0, spot_len, spot_take, hyT]; refine hk _ _ ?_; clear hk k) | refine ono rfl ?_ | ((first | refine osplitG rfl (fun h => ?_) (fun h => ?_) | refine osplitB rfl (fun h => ?_) (fun h => ?_)) <;> (fail_if_success (simp only [eq_self, reduceCtorEq] at h))) | refine onx ?_ | refine onb ?_ | refine sreg ?_ | refine qT rfl ?_ | refine qF rfl ?_ | refine scondT rfl ?_ | refine scondF rfl ?_ | refine ocondP rfl (fun h => ?_) (fun h => ?_) | refine ocondB rfl (fun h => ?_) (fun h => ?_) | refine scondP rfl (fun h => ?_) (fun h => ?_) | refine scond rfl (fun h => ?_) (fun h => ?_) | refine oskip ?_ | refine oskipb ?_ | refine oret ?_ | refine sem_ret ?_ | refine sem_seq ?_ | refine sreg1 ?_)
      refine oS (look_hit rfl rfl rfl (valid_keys hv) hfd) ?_
      repeat' (first | ((first | refine o1 rfl ?_ | refine o0 rfl ?_); intro k hk; simp (disch := omega) only [ev0, sl_cells, simprocAttr]; refine hk _ _ ?_; clear hk k) | refine ono rfl ?_ | ((first | refine osplitG rfl (fun h => ?_) (fun h => ?_) | refine osplitB rfl (fun h => ?_) (fun h => ?_)) <;> (fail_if_success (simp only [eq_self, reduceCtorEq] at h))) | refine onx ?_ | refine onb ?_ | refine sreg ?_ | refine qT rfl ?_ | refine qF rfl ?_ | refine scondT rfl ?_ | refine scondF rfl ?_ | refine ocondP rfl (fun h => ?_) (fun h => ?_) | refine ocondB rfl (fun h => ?_) (fun h => ?_) | refine scondP rfl (fun h => ?_) (fun h => ?_) | refine scond rfl (fun h => ?_) (fun h => ?_) | refine oskip ?_ | refine oskipb ?_ | refine oret ?_ | refine sem_ret ?_ | refine sem_seq ?_ | refine sreg1 ?_)
      exact ⟨_, rfl, rfl, rfl, by simp⟩
end Go.Proofs.YtibgfmhddcibcaaDoor
