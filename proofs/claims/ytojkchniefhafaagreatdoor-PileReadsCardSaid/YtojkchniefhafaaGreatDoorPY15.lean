/- The reference: a text is read. -/
import Derived.Test.YtojkchniefhafaaGreatDoorPY14
import Derived.Test.YtojkchniefhafaaGreatDoorPY12
set_option linter.unusedVariables false
set_option linter.unusedSimpArgs false
set_option linter.unusedSectionVars false
set_option maxRecDepth 8000
set_option maxHeartbeats 4000000
namespace Go.Tk
open Go Go.Av
theorem mem_getD {α : Type} [Inhabited α] {l : List α} {i : Nat} (h : i < l.length) : l.getD i default ∈ l := by
  rw [getD_lt h]; exact List.getElem_mem _
theorem split_snoc {c : UInt8} : ∀ a : Bts, splitL c (a ++ [c]) = splitL c a ++ [[]]
  | [] => by simp [splitL]
  | b :: a => by
    have ih := split_snoc (c := c) a
    have hne := split_ne c a
    rw [List.cons_append]
    unfold splitL
    by_cases hb : b = c
    · rw [if_pos hb, if_pos hb, ih]; rfl
    · rw [if_neg hb, if_neg hb, ih]
      cases hs : splitL c a with
      | nil => exact absurd hs hne
      | cons w r => rfl
/-- The lines of a book, as the reference splits them. -/
theorem valid_ls {T : Bts} {l : List (List Int)} {p : Nat} (h : validT T l p) : splitL 10 T = linesL l p ++ [[]] := by
  obtain ⟨b, hb, hs⟩ := valid_lines h
  rw [hb, split_snoc, hs]
theorem ls_getD {T : Bts} {l : List (List Int)} {p : Nat} (h : validT T l p) {i : Nat} (hi : i < l.length + 2) : (splitL 10 T).getD i default = (linesL l p).getD i default := by
  have hl := lines_len l p
  rw [valid_ls h, getD_lt (by simp; omega), getD_lt (by omega), List.getElem_append_left (by omega)]
/-- What the reference gives of a text. -/
def refE (T : Bts) (ae : AEnd) : Prop := (∃ l p, validT T l p ∧ ae = .ret (.tup [slOf intsCs l, B true])) ∨ ((∀ l p, ¬ validT T l p) ∧ ∃ x, (x = .nilsl ∨ ∃ R : List (List Int), x = slOf intsCs R) ∧ ae = .ret (.tup [x, B false]))
/-- Lines that have been read, as the reference reads them. -/
structure rdF (T : Bts) (p : Nat) (y : Nat) (R : List (List Int)) : Prop where
  len : R.length = y
  row : ∀ j, j < y → (R.getD j default).length = p ∧ ∀ n ∈ R.getD j default, n.natAbs ≤ 999999999
  short : ∀ j, j < y → (R.getD j default).length ≤ 25000
  val : ∀ l q, validT T l q → q = p ∧ l.length + 3 = (splitL 10 T).length ∧ R = l.take y
theorem few_ref {T : Bts} (h : (splitL 10 T).length < 3) : ∀ l p, ¬ validT T l p := fun l p hv => by
  rw [valid_ls hv] at h
  simp [lines_len] at h
  omega
theorem head_ref {T : Bts} {l : List (List Int)} {p : Nat} (hv : validT T l p) : splitL 32 ((splitL 10 T).getD 0 default) = [headW, Lib.itoa (l.length : Int), Lib.itoa (p : Int)] ∧ l.length + 3 = (splitL 10 T).length := by
  refine ⟨?_, by rw [valid_ls hv]; simp [lines_len]⟩
  rw [ls_getD hv (by omega), lines_head, words_split (by decide)]
  rfl
theorem three_ref {T : Bts} (h : (splitL 32 ((splitL 10 T).getD 0 default)).length ≠ 3) : ∀ l p, ¬ validT T l p := fun l p hv => by
  rw [(head_ref hv).1] at h
  exact h rfl
theorem p_ref {T : Bts} {l : List (List Int)} {p : Nat} (hv : validT T l p) : numR ((splitL 32 ((splitL 10 T).getD 0 default)).getD 2 default) = ((p : Int), true) := by
  rw [(head_ref hv).1]
  exact numR_iff.2 (numOf_iff.2 ⟨rfl, by have := hv.hp; omega⟩)
theorem start_ref {T : Bts} {p : Nat} (h : (numR ((splitL 32 ((splitL 10 T).getD 0 default)).getD 2 default)).1 = (p : Int)) : rdF T p 0 [] := by
  refine ⟨rfl, fun j hj => absurd hj (Nat.not_lt_zero _), fun j hj => absurd hj (Nat.not_lt_zero _), fun l q hv => ⟨?_, (head_ref hv).2, rfl⟩⟩
  have := p_ref hv
  rw [this] at h
  simp only at h
  omega
section
variable {T : Bts} {p y : Nat} {R : List (List Int)} (hr : rdF T p y R) (hy : y + 3 < (splitL 10 T).length)
include hr hy
theorem line_ref {l : List (List Int)} {q : Nat} (hv : validT T l q) : splitL 32 ((splitL 10 T).getD (y + 1) default) = yearW :: Lib.itoa (y : Int) :: (l.getD y default).map Lib.itoa ∧ (l.getD y default).length = p ∧ y < l.length ∧ ∀ n ∈ l.getD y default, n.natAbs ≤ 999999999 := by
  obtain ⟨rfl, h2, h3⟩ := hr.val l q hv
  have hy' : y < l.length := by omega
  obtain ⟨r1, r2⟩ := hv.row y hy'
  refine ⟨?_, r1, hy', r2⟩
  rw [ls_getD hv (by omega), lines_year l q hy']
  unfold yearV
  rw [words_split (by decide)]
  rfl
theorem len_ref (h : (splitL 32 ((splitL 10 T).getD (y + 1) default)).length ≠ p + 2) : ∀ l q, ¬ validT T l q := fun l q hv => by
  obtain ⟨h1, h2, h3⟩ := line_ref hr hy hv
  rw [h1, List.length_cons, List.length_cons, List.length_map, h2] at h
  exact h rfl
/-- The words of a line that have been read. -/
structure rwF (T : Bts) (y : Nat) (j : Nat) (W : List Int) : Prop where
  len : W.length = j
  bd : ∀ n ∈ W, n.natAbs ≤ 999999999
  val : ∀ l q, validT T l q → W = (l.getD y default).take j
omit hr hy in
theorem word_start : rwF T y 0 [] := ⟨rfl, fun n hn => by simp at hn, fun l q hv => rfl⟩
variable {j : Nat} {W : List Int} (hw : rwF T y j W)
include hw
theorem word_val (hj : j < p) {l : List (List Int)} {q : Nat} (hv : validT T l q) : numR ((splitL 32 ((splitL 10 T).getD (y + 1) default)).getD (j + 2) default) = ((l.getD y default).getD j default, true) := by
  obtain ⟨h1, h2, h3, h4⟩ := line_ref hr hy hv
  rw [h1]
  have hjl : j < (l.getD y default).length := by omega
  have : (yearW :: Lib.itoa (y : Int) :: (l.getD y default).map Lib.itoa).getD (j + 2) default = Lib.itoa ((l.getD y default).getD j default) := by
    rw [List.getD_cons_succ, List.getD_cons_succ, getD_lt (by simpa using hjl), List.getElem_map, getD_lt hjl]
  rw [this]
  exact numR_iff.2 (numOf_iff.2 ⟨rfl, h4 _ (by rw [getD_lt hjl]; exact List.getElem_mem _)⟩)
theorem word_bad (hj : j < p) {n : Int} (h : numR ((splitL 32 ((splitL 10 T).getD (y + 1) default)).getD (j + 2) default) = (n, false)) : ∀ l q, ¬ validT T l q := fun l q hv => by
  rw [word_val hr hy hw hj hv] at h
  cases h
theorem word_good (hj : j < p) {n : Int} (h : numR ((splitL 32 ((splitL 10 T).getD (y + 1) default)).getD (j + 2) default) = (n, true)) : rwF T y (j + 1) (W ++ [n]) := by
  refine ⟨by simp [hw.len], fun m hm => ?_, fun l q hv => ?_⟩
  · rcases List.mem_append.1 hm with hm | hm
    · exact hw.bd m hm
    · have : m = n := by simpa using hm
      subst this
      exact (numOf_iff.1 (numR_iff.1 h)).2
  · have h1 := word_val hr hy hw hj hv
    rw [h] at h1
    have h2 := (line_ref hr hy hv).2.1
    cases h1
    rw [take_snoc (by omega), ← hw.val l q hv]
omit hw in
theorem row_done (hw : rwF T y p W) (hp : p ≤ 25000) : rdF T p (y + 1) (R ++ [W]) := by
  have hl := hr.len
  have e1 : ∀ j, j < y → (R ++ [W]).getD j default = R.getD j default := fun j hj => by rw [getD_lt (by simp; omega), getD_lt (by omega), List.getElem_append_left (by omega)]
  have e2 : (R ++ [W]).getD y default = W := by
    rw [getD_lt (by simp; omega), List.getElem_append_right (by omega)]
    simp
  refine ⟨by simp [hl], fun j hj => ?_, fun j hj => ?_, fun l q hv => ?_⟩
  · by_cases e : j = y
    · subst e; rw [e2]; exact ⟨hw.len, hw.bd⟩
    · rw [e1 j (by omega)]; exact hr.row j (by omega)
  · by_cases e : j = y
    · subst e; rw [e2, hw.len]; exact hp
    · rw [e1 j (by omega)]; exact hr.short j (by omega)
  · obtain ⟨h1, h2, h3⟩ := hr.val l q hv
    refine ⟨h1, h2, ?_⟩
    have h4 := (line_ref hr hy hv).2.1
    rw [take_snoc (by omega), ← h3]
    congr 2
    rw [hw.val l q hv, ← h4, List.take_length]
end
theorem end_ref {T : Bts} {p y : Nat} {R : List (List Int)} (hr : rdF T p y R) (hy : y + 3 = (splitL 10 T).length) (hp : p ≤ 999999999) (hT : T.length ≤ 100000) : (bookB R p = T → validT T R p) ∧ (¬ bookB R p = T → ∀ l q, ¬ validT T l q) := by
  have hl := hr.len
  have hll := splitL_len 10 T
  refine ⟨fun h => ⟨h.symm, fun j hj => hr.row j (by omega), hp, by omega⟩, fun h l q hv => h ?_⟩
  obtain ⟨rfl, h2, h3⟩ := hr.val l q hv
  rw [show y = l.length by omega, List.take_length] at h3
  rw [h3]
  exact hv.eq.symm
end Go.Tk
namespace Go.Proofs.YtojkchniefhafaaGreatDoor
open Go Go.Av Go.Tk
attribute [local irreducible] Holds sem semL ACalls FnIs strB numR
variable {K : Ctx} (hP : K.P = Tryz.prog) (hGK : ∀ w w', K.G w → RowKit.Below w.heap.size w w' → K.G w')
include hP hGK
theorem ref02_Read (T : Bts) (hT : T.length ≤ 25000) : ACalls K F.ref02_Read [.str (strB T)] [] fun ae ν => refE T ae ∧ ν = [] := by
  have hspl := fun s c h => ref02_split hGK s c h
  have hnum := fun w h => ref02_number hGK w h
  have hprt := fun l p hp hl hr => ref02_Print hGK l p hp hl hr
  obtain ⟨P, w0, S0, G, hG0⟩ := K
  simp only at hP hGK
  subst hP
  have hs10 : Holds Tryz.prog G F.ref02_split [.str (strB T), .int .u8 10] (slOf strCs (splitL 10 T)) := hspl T 10 (by omega)
  have hfew := few_ref (T := T)
  have hthree := three_ref (T := T)
  have hp := fun l p h => p_ref (T := T) (l := l) (p := p) h
  have hstart := fun p => start_ref (T := T) (p := p)
  have hlen := fun p y R hr hy => len_ref (T := T) (p := p) (y := y) (R := R) hr hy
  have hws := fun y => word_start (T := T) (y := y)
  have hbad := fun p y R hr hy j W hw hj n h => word_bad (T := T) (p := p) (y := y) (R := R) hr hy (j := j) (W := W) hw hj (n := n) h
  have hgood := fun p y R hr hy j W hw hj n h => word_good (T := T) (p := p) (y := y) (R := R) hr hy (j := j) (W := W) hw hj (n := n) h
  have hdone := fun p y R hr hy W hw hp => row_done (T := T) (p := p) (y := y) (R := R) hr hy (W := W) hw hp
  have hend := fun p y R hr hy hp => end_ref (T := T) (p := p) (y := y) (R := R) hr hy hp (by omega)
  have hll := splitL_len 10 T
  have hwl := split_word 10 T
  have hnp : ∀ w n, numR w = (n, true) → n.natAbs ≤ 999999999 := fun w n h => (numOf_iff.1 (numR_iff.1 h)).2
  generalize hls : splitL 10 T = ls at *
  refine ACalls.dropAny (acalls_of_sem fn_ref02_Read (by simp) fun D => ?_) fun ae ν hr => ?_
  rotate_left
  · obtain ⟨h, rfl⟩ := hr
    rcases h with ⟨l, p, -, rfl⟩ | ⟨-, x, rfl | ⟨R, rfl⟩, rfl⟩
    · exact ⟨⟨_, .inl rfl, rfl⟩, rfl⟩
    · exact ⟨⟨_, .inl rfl, rfl⟩, rfl⟩
    · exact ⟨⟨_, .inl rfl, rfl⟩, rfl⟩
  unfold c_ref02_Read cval enterEnv
  simp only [List.zipIdx_cons, List.zipIdx_nil, List.map_cons, List.map_nil, Nat.zero_add, Nat.reduceAdd]
  by_cases h3 : ls.length < 3
  · have h3' : ((ls.length : Int) < 3) = True := eq_true (by omega)
    repeat' (first | ((first | refine o1 rfl ?_ | refine o0 rfl ?_); intro k hk; simp (disch := omega) only [ev0, sl_cells, simprocAttr, slOf, h3', decide_true]; refine hk _ _ ?_; clear hk k) | refine ono rfl ?_ | (apply ocall; (case he => (simp only [ev0, sl_cells, simprocAttr] <;> rfl)); (case hc => first | exact hs10); (case ht => rfl); (case hg => rfl)) | ((first | refine osplitG rfl (fun h => ?_) (fun h => ?_) | refine osplitB rfl (fun h => ?_) (fun h => ?_)) <;> (fail_if_success (simp only [eq_self, reduceCtorEq] at h))) | refine onx ?_ | refine onb ?_ | refine sreg ?_ | refine qT rfl ?_ | refine qF rfl ?_ | refine scondT rfl ?_ | refine scondF rfl ?_ | refine ocondP rfl (fun h => ?_) (fun h => ?_) | refine ocondB rfl (fun h => ?_) (fun h => ?_) | refine scondP rfl (fun h => ?_) (fun h => ?_) | refine scond rfl (fun h => ?_) (fun h => ?_) | refine oskip ?_ | refine oskipb ?_ | refine oret ?_ | refine sem_ret ?_ | refine sem_seq ?_ | refine sreg1 ?_)
    exact ⟨_, rfl, ⟨.inr ⟨hfew h3, .nilsl, .inl rfl, rfl⟩, rfl⟩, by simp⟩
  · have h3' : ((ls.length : Int) < 3) = False := eq_false (by omega)
    have hw0 := hwl (ls.getD 0 default) (by rw [getD_lt (by omega)]; exact List.getElem_mem _)
    have hs0 : Holds Tryz.prog G F.ref02_split [.str (strB (ls.getD 0 default)), .int .u8 32] (slOf strCs (splitL 32 (ls.getD 0 default))) := hspl _ 32 (by omega)
    have hl0 := splitL_len 32 (ls.getD 0 default)
    have hww := split_word 32 (ls.getD 0 default)
    by_cases hh : (splitL 32 (ls.getD 0 default)).length ≠ 3
    · have hh' : (((splitL 32 (ls.getD 0 default)).length : Int) = 3) = False := eq_false (by omega)
      repeat' (first | ((first | refine o1 rfl ?_ | refine o0 rfl ?_); intro k hk; simp (disch := omega) only [ev0, sl_cells, simprocAttr, slOf, strCs, h3', decide_false, hh', Bool.not_false]; refine hk _ _ ?_; clear hk k) | refine ono rfl ?_ | (apply ocall; (case he => (simp only [ev0, sl_cells, simprocAttr] <;> rfl)); (case hc => first | exact hs10 | exact hs0); (case ht => rfl); (case hg => rfl)) | ((first | refine osplitG rfl (fun h => ?_) (fun h => ?_) | refine osplitB rfl (fun h => ?_) (fun h => ?_)) <;> (fail_if_success (simp only [eq_self, reduceCtorEq] at h))) | refine onx ?_ | refine onb ?_ | refine sreg ?_ | refine qT rfl ?_ | refine qF rfl ?_ | refine scondT rfl ?_ | refine scondF rfl ?_ | refine ocondP rfl (fun h => ?_) (fun h => ?_) | refine ocondB rfl (fun h => ?_) (fun h => ?_) | refine scondP rfl (fun h => ?_) (fun h => ?_) | refine scond rfl (fun h => ?_) (fun h => ?_) | refine oskip ?_ | refine oskipb ?_ | refine oret ?_ | refine sem_ret ?_ | refine sem_seq ?_ | refine sreg1 ?_)
      exact ⟨_, rfl, ⟨.inr ⟨hthree hh, .nilsl, .inl rfl, rfl⟩, rfl⟩, by simp⟩
    · have hh1 : (splitL 32 (ls.getD 0 default)).length = 3 := by omega
      have hn0 := hnum ((splitL 32 (ls.getD 0 default)).getD 2 default) (by have := hww _ (mem_getD (i := 2) (by omega)); omega)
      have hh' : ((3 : Int) = 3) = True := eq_self _
      generalize hw0e : splitL 32 (ls.getD 0 default) = ws0 at *
      cases hnv : numR (ws0.getD 2 default) with
      | mk n b =>
      rw [hnv] at hn0 hp
      simp only at hn0
      cases b with
      | false =>
        have hno : ∀ l p, ¬ validT T l p := fun l p hv => by
          have := hp l p hv
          cases this
        repeat' (first | ((first | refine o1 rfl ?_ | refine o0 rfl ?_); intro k hk; simp (disch := omega) only [ev0, sl_cells, simprocAttr, slOf, strCs, h3', hh1, hh', decide_false, decide_true, Bool.not_false, Bool.not_true]; refine hk _ _ ?_; clear hk k) | refine ono rfl ?_ | (apply ocall; (case he => (simp only [ev0, sl_cells, simprocAttr] <;> rfl)); (case hc => first | exact hs10 | exact hs0 | exact hn0); (case ht => rfl); (case hg => rfl)) | ((first | refine osplitG rfl (fun h => ?_) (fun h => ?_) | refine osplitB rfl (fun h => ?_) (fun h => ?_)) <;> (fail_if_success (simp only [eq_self, reduceCtorEq] at h))) | refine onx ?_ | refine onb ?_ | refine sreg ?_ | refine qT rfl ?_ | refine qF rfl ?_ | refine scondT rfl ?_ | refine scondF rfl ?_ | refine ocondP rfl (fun h => ?_) (fun h => ?_) | refine ocondB rfl (fun h => ?_) (fun h => ?_) | refine scondP rfl (fun h => ?_) (fun h => ?_) | refine scond rfl (fun h => ?_) (fun h => ?_) | refine oskip ?_ | refine oskipb ?_ | refine oret ?_ | refine sem_ret ?_ | refine sem_seq ?_ | refine sreg1 ?_)
        exact ⟨_, rfl, ⟨.inr ⟨hno, .nilsl, .inl rfl, rfl⟩, rfl⟩, by simp⟩
      | true =>
        have hnb := hnp _ _ hnv
        by_cases hneg : n < 0
        · have hno : ∀ l p, ¬ validT T l p := fun l p hv => by
            have := hp l p hv
            cases this
            omega
          have hneg' : (n < 0) = True := eq_true hneg
          repeat' (first | ((first | refine o1 rfl ?_ | refine o0 rfl ?_); intro k hk; simp (disch := omega) only [ev0, sl_cells, simprocAttr, slOf, strCs, h3', hh1, hh', hneg', decide_false, decide_true, Bool.not_false, Bool.not_true]; refine hk _ _ ?_; clear hk k) | refine ono rfl ?_ | (apply ocall; (case he => (simp only [ev0, sl_cells, simprocAttr] <;> rfl)); (case hc => first | exact hs10 | exact hs0 | exact hn0); (case ht => rfl); (case hg => rfl)) | ((first | refine osplitG rfl (fun h => ?_) (fun h => ?_) | refine osplitB rfl (fun h => ?_) (fun h => ?_)) <;> (fail_if_success (simp only [eq_self, reduceCtorEq] at h))) | refine onx ?_ | refine onb ?_ | refine sreg ?_ | refine qT rfl ?_ | refine qF rfl ?_ | refine scondT rfl ?_ | refine scondF rfl ?_ | refine ocondP rfl (fun h => ?_) (fun h => ?_) | refine ocondB rfl (fun h => ?_) (fun h => ?_) | refine scondP rfl (fun h => ?_) (fun h => ?_) | refine scond rfl (fun h => ?_) (fun h => ?_) | refine oskip ?_ | refine oskipb ?_ | refine oret ?_ | refine sem_ret ?_ | refine sem_seq ?_ | refine sreg1 ?_)
          exact ⟨_, rfl, ⟨.inr ⟨hno, .nilsl, .inl rfl, rfl⟩, rfl⟩, by simp⟩
        · obtain ⟨p, rfl⟩ := Int.eq_ofNat_of_zero_le (show 0 ≤ n by omega)
          have hneg' : ((p : Int) < 0) = False := eq_false (by omega)
          have hst := hstart p (by rw [hnv])
          repeat' (first | ((first | refine o1 rfl ?_ | refine o0 rfl ?_); intro k hk; simp (disch := omega) only [ev0, sl_cells, simprocAttr, slOf, strCs, h3', hh1, hh', hneg', decide_false, decide_true, Bool.not_false, Bool.not_true]; refine hk _ _ ?_; clear hk k) | refine ono rfl ?_ | (apply ocall; (case he => (simp only [ev0, sl_cells, simprocAttr] <;> rfl)); (case hc => first | exact hs10 | exact hs0 | exact hn0); (case ht => rfl); (case hg => rfl)) | ((first | refine osplitG rfl (fun h => ?_) (fun h => ?_) | refine osplitB rfl (fun h => ?_) (fun h => ?_)) <;> (fail_if_success (simp only [eq_self, reduceCtorEq] at h))) | refine onx ?_ | refine onb ?_ | refine sreg ?_ | refine qT rfl ?_ | refine qF rfl ?_ | refine scondT rfl ?_ | refine scondF rfl ?_ | refine ocondP rfl (fun h => ?_) (fun h => ?_) | refine ocondB rfl (fun h => ?_) (fun h => ?_) | refine scondP rfl (fun h => ?_) (fun h => ?_) | refine scond rfl (fun h => ?_) (fun h => ?_) | refine oskip ?_ | refine oskipb ?_ | refine oret ?_ | refine sem_ret ?_ | refine sem_seq ?_ | refine sreg1 ?_)
          refine sem_block ?_
          (refine sem_ghost 8 23 1 rfl ?_; simp only [List.length_cons, List.length_nil, Nat.reduceAdd, Nat.zero_add, List.cons_append, List.nil_append])
          
          refine sem_loop (α := Nat × List (List Int)) (fun x => ⟨[(0, .str (strB T)), (4, slOf strCs ls), (6, I p), (8, .hsl 0 x.2.length 1 x.2.length), (9, I x.1)], [.row 23 x.2.length 1 (rowL intsCs x.2)]⟩) (fun x => x.1 + 3 ≤ ls.length ∧ rdF T p x.1 x.2) (fun x => ls.length - x.1) (0, []) ⟨by simp only; omega, hst⟩ ?_ ?_
          · (refine Le.same ?_; simp only [List.forall_mem_cons, List.forall_mem_nil, getE, selE, Nat.reduceBEq, List.not_mem_nil, false_implies, implies_true, and_true, true_and, and_self])
            simp [slOf, strCs, rowL]
          · rintro ⟨y, R⟩ ⟨h1, h2⟩
            simp only at h1 h2
            have hRl := h2.len
            repeat' (first | ((first | refine o1 rfl ?_ | refine o0 rfl ?_); intro k hk; simp (disch := omega) only [ev0, sl_cells, simprocAttr, slOf, strCs]; refine hk _ _ ?_; clear hk k) | refine ono rfl ?_ | ((first | refine osplitG rfl (fun h => ?_) (fun h => ?_) | refine osplitB rfl (fun h => ?_) (fun h => ?_)) <;> (fail_if_success (simp only [eq_self, reduceCtorEq] at h))) | refine onx ?_ | refine onb ?_ | refine sreg ?_ | refine qT rfl ?_ | refine qF rfl ?_ | refine scondT rfl ?_ | refine scondF rfl ?_ | refine ocondP rfl (fun h => ?_) (fun h => ?_) | refine ocondB rfl (fun h => ?_) (fun h => ?_) | refine scondP rfl (fun h => ?_) (fun h => ?_) | refine scond rfl (fun h => ?_) (fun h => ?_) | refine oskip ?_ | refine oskipb ?_ | refine oret ?_ | refine sem_ret ?_ | refine sem_seq ?_ | refine sreg1 ?_)
            · have hy : y + 3 < ls.length := by omega
              have hwy := hwl _ (mem_getD (i := y + 1) (by omega))
              have hsy : Holds Tryz.prog G F.ref02_split [.str (strB (ls.getD (y + 1) default)), .int .u8 32] (slOf strCs (splitL 32 (ls.getD (y + 1) default))) := hspl _ 32 (by omega)
              have hly := splitL_len 32 (ls.getD (y + 1) default)
              have hwwy := split_word 32 (ls.getD (y + 1) default)
              have hleny := hlen p y R h2 hy
              have hbady := hbad p y R h2 hy
              have hgoody := hgood p y R h2 hy
              have hdoney := hdone p y R h2 hy
              have hws0 := hws y
              generalize hwsy : splitL 32 (ls.getD (y + 1) default) = ws at *
              refine sem_block ?_
              by_cases hlw : ws.length ≠ p + 2
              · have hlw' : ((ws.length : Int) = (p : Int) + 2) = False := eq_false (by omega)
                repeat' (first | ((first | refine o1 rfl ?_ | refine o0 rfl ?_); intro k hk; simp (disch := omega) only [ev0, sl_cells, simprocAttr, slOf, strCs, hlw', decide_false, Bool.not_false]; refine hk _ _ ?_; clear hk k) | refine ono rfl ?_ | (apply ocall; (case he => (simp only [ev0, sl_cells, simprocAttr] <;> rfl)); (case hc => first | exact hsy); (case ht => rfl); (case hg => rfl)) | ((first | refine osplitG rfl (fun h => ?_) (fun h => ?_) | refine osplitB rfl (fun h => ?_) (fun h => ?_)) <;> (fail_if_success (simp only [eq_self, reduceCtorEq] at h))) | refine onx ?_ | refine onb ?_ | refine sreg ?_ | refine qT rfl ?_ | refine qF rfl ?_ | refine scondT rfl ?_ | refine scondF rfl ?_ | refine ocondP rfl (fun h => ?_) (fun h => ?_) | refine ocondB rfl (fun h => ?_) (fun h => ?_) | refine scondP rfl (fun h => ?_) (fun h => ?_) | refine scond rfl (fun h => ?_) (fun h => ?_) | refine oskip ?_ | refine oskipb ?_ | refine oret ?_ | refine sem_ret ?_ | refine sem_seq ?_ | refine sreg1 ?_)
                exact ⟨_, rfl, ⟨.inr ⟨hleny hlw, .nilsl, .inl rfl, rfl⟩, rfl⟩, by simp⟩
              · have hlw2 : ws.length = p + 2 := by omega
                have hlw' : (((p + 2 : Nat) : Int) = (p : Int) + 2) = True := eq_true (by omega)
                repeat' (first | ((first | refine o1 rfl ?_ | refine o0 rfl ?_); intro k hk; simp (disch := omega) only [ev0, sl_cells, simprocAttr, slOf, strCs, hlw2, hlw', decide_true, Bool.not_true]; refine hk _ _ ?_; clear hk k) | refine ono rfl ?_ | (apply ocall; (case he => (simp only [ev0, sl_cells, simprocAttr] <;> rfl)); (case hc => first | exact hsy); (case ht => rfl); (case hg => rfl)) | ((first | refine osplitG rfl (fun h => ?_) (fun h => ?_) | refine osplitB rfl (fun h => ?_) (fun h => ?_)) <;> (fail_if_success (simp only [eq_self, reduceCtorEq] at h))) | refine onx ?_ | refine onb ?_ | refine sreg ?_ | refine qT rfl ?_ | refine qF rfl ?_ | refine scondT rfl ?_ | refine scondF rfl ?_ | refine ocondP rfl (fun h => ?_) (fun h => ?_) | refine ocondB rfl (fun h => ?_) (fun h => ?_) | refine scondP rfl (fun h => ?_) (fun h => ?_) | refine scond rfl (fun h => ?_) (fun h => ?_) | refine oskip ?_ | refine oskipb ?_ | refine oret ?_ | refine sem_ret ?_ | refine sem_seq ?_ | refine sreg1 ?_)
                refine sem_block ?_
                (refine sem_ghost 11 3 1 rfl ?_; simp only [List.length_cons, List.length_nil, Nat.reduceAdd, Nat.zero_add, List.cons_append, List.nil_append])
                
                refine sem_loop (α := Nat × List Int) (fun x => ⟨[(0, .str (strB T)), (4, slOf strCs ls), (6, I p), (8, .hsl 0 R.length 1 R.length), (9, I y), (10, .sl (p + 2) fun i => strCs (ws.getD i default)), (11, .hsl 1 x.2.length 1 x.2.length), (12, I (x.1 + 2 : Nat))], [.row 23 R.length 1 (rowL intsCs R), .row 3 x.2.length 1 (rowL intCs x.2)]⟩) (fun x => x.1 ≤ p ∧ rwF T y x.1 x.2) (fun x => p - x.1) (0, []) ⟨Nat.zero_le _, hws0⟩ ?_ ?_
                · (refine Le.same ?_; simp only [List.forall_mem_cons, List.forall_mem_nil, getE, selE, Nat.reduceBEq, List.not_mem_nil, false_implies, implies_true, and_true, true_and, and_self])
                  simp [slOf, strCs, rowL]
                · rintro ⟨j, W⟩ ⟨g1, g2⟩
                  simp only at g1 g2
                  have hWl := g2.len
                  repeat' (first | ((first | refine o1 rfl ?_ | refine o0 rfl ?_); intro k hk; simp (disch := omega) only [ev0, sl_cells, simprocAttr, slOf, strCs]; refine hk _ _ ?_; clear hk k) | refine ono rfl ?_ | ((first | refine osplitG rfl (fun h => ?_) (fun h => ?_) | refine osplitB rfl (fun h => ?_) (fun h => ?_)) <;> (fail_if_success (simp only [eq_self, reduceCtorEq] at h))) | refine onx ?_ | refine onb ?_ | refine sreg ?_ | refine qT rfl ?_ | refine qF rfl ?_ | refine scondT rfl ?_ | refine scondF rfl ?_ | refine ocondP rfl (fun h => ?_) (fun h => ?_) | refine ocondB rfl (fun h => ?_) (fun h => ?_) | refine scondP rfl (fun h => ?_) (fun h => ?_) | refine scond rfl (fun h => ?_) (fun h => ?_) | refine oskip ?_ | refine oskipb ?_ | refine oret ?_ | refine sem_ret ?_ | refine sem_seq ?_ | refine sreg1 ?_)
                  · have hj : j < p := by omega
                    have hnj := hnum (ws.getD (j + 2) default) (by have := hwwy _ (mem_getD (i := j + 2) (by omega)); omega)
                    have hbj := hbady j W g2 hj
                    have hgj := hgoody j W g2 hj
                    have e1 := rowL_take (enc := intCs) (l := W)
                    cases hnv2 : numR (ws.getD (j + 2) default) with
                    | mk n2 b2 =>
                    rw [hnv2] at hnj
                    simp only at hnj
                    refine sem_block ?_
                    cases b2 with
                    | false =>
                      repeat' (first | ((first | refine o1 rfl ?_ | refine o0 rfl ?_); intro k hk; simp (disch := omega) only [ev0, sl_cells, simprocAttr, slOf, strCs, Bool.not_false]; refine hk _ _ ?_; clear hk k) | refine ono rfl ?_ | (apply ocall; (case he => (simp only [ev0, sl_cells, simprocAttr] <;> rfl)); (case hc => first | exact hnj); (case ht => rfl); (case hg => rfl)) | ((first | refine osplitG rfl (fun h => ?_) (fun h => ?_) | refine osplitB rfl (fun h => ?_) (fun h => ?_)) <;> (fail_if_success (simp only [eq_self, reduceCtorEq] at h))) | refine onx ?_ | refine onb ?_ | refine sreg ?_ | refine qT rfl ?_ | refine qF rfl ?_ | refine scondT rfl ?_ | refine scondF rfl ?_ | refine ocondP rfl (fun h => ?_) (fun h => ?_) | refine ocondB rfl (fun h => ?_) (fun h => ?_) | refine scondP rfl (fun h => ?_) (fun h => ?_) | refine scond rfl (fun h => ?_) (fun h => ?_) | refine oskip ?_ | refine oskipb ?_ | refine oret ?_ | refine sem_ret ?_ | refine sem_seq ?_ | refine sreg1 ?_)
                      simp only [blockQ, thenQ, loopQ]
                      exact ⟨_, rfl, ⟨.inr ⟨hbj n2 hnv2, .nilsl, .inl rfl, rfl⟩, rfl⟩, by simp⟩
                    | true =>
                      repeat' (first | ((first | refine o1 rfl ?_ | refine o0 rfl ?_); intro k hk; simp (disch := omega) only [ev0, sl_cells, simprocAttr, slOf, strCs, Bool.not_true, e1]; refine hk _ _ ?_; clear hk k) | refine ono rfl ?_ | (apply ocall; (case he => (simp only [ev0, sl_cells, simprocAttr] <;> rfl)); (case hc => first | exact hnj); (case ht => rfl); (case hg => rfl)) | ((first | refine osplitG rfl (fun h => ?_) (fun h => ?_) | refine osplitB rfl (fun h => ?_) (fun h => ?_)) <;> (fail_if_success (simp only [eq_self, reduceCtorEq] at h))) | refine onx ?_ | refine onb ?_ | refine sreg ?_ | refine qT rfl ?_ | refine qF rfl ?_ | refine scondT rfl ?_ | refine scondF rfl ?_ | refine ocondP rfl (fun h => ?_) (fun h => ?_) | refine ocondB rfl (fun h => ?_) (fun h => ?_) | refine scondP rfl (fun h => ?_) (fun h => ?_) | refine scond rfl (fun h => ?_) (fun h => ?_) | refine oskip ?_ | refine oskipb ?_ | refine oret ?_ | refine sem_ret ?_ | refine sem_seq ?_ | refine sreg1 ?_)
                      refine onil (lnext (j + 1, W ++ [n2]) ⟨by simp only; omega, hgj n2 hnv2⟩ (by simp only; omega) ?_)
                      simp only
                      rw [show [[AV.int .i64 n2]] = [intCs n2] from rfl, rowL_snoc, List.length_append]
                      (refine Le.drop ?_ rfl (by simp) rfl (by simp only [refM, refO, List.all_cons, List.all_nil, Bool.and_true, Bool.true_and, rowL_all (enc := intCs) (fun _ _ => rfl), rowL_all (enc := intsCs) (fun _ _ => rfl)]; first | done | rfl) ; simp only [List.forall_mem_cons, List.forall_mem_nil, getE, selE, Nat.reduceBEq, List.not_mem_nil, false_implies, implies_true, and_true, true_and, and_self])
                      simp [slOf, strCs]
                      try omega
                  · have hj : j = p := by omega
                    subst hj
                    have e2 := rowL_take (enc := intsCs) (l := R)
                    (refine sem_exit ?_; change sem _ _ _ _ _)
                    refine sem_frzlist (enc := intCs) (l := W) 1 rfl (fun _ => rfl) ?_
                    simp only [frzE, frzM, frzO, frzA, frzL, List.map_cons, List.map_nil, List.set_cons_zero, List.set_cons_succ, Nat.reduceEqDiff, if_true, if_false, and_self, Nat.le_refl, reduceIte, frz_sl]
                    have gr : ∀ a : List Int, frzL 1 W.length 1 W.length (fun i => intCs (W.getD i default)) (intsCs a) = intsCs a := fun _ => rfl
                    try simp only [frz_rowL gr]
                    repeat' (first | ((first | refine o1 rfl ?_ | refine o0 rfl ?_); intro k hk; simp (disch := omega) only [ev0, sl_cells, simprocAttr, e2]; refine hk _ _ ?_; clear hk k) | refine ono rfl ?_ | ((first | refine osplitG rfl (fun h => ?_) (fun h => ?_) | refine osplitB rfl (fun h => ?_) (fun h => ?_)) <;> (fail_if_success (simp only [eq_self, reduceCtorEq] at h))) | refine onx ?_ | refine onb ?_ | refine sreg ?_ | refine qT rfl ?_ | refine qF rfl ?_ | refine scondT rfl ?_ | refine scondF rfl ?_ | refine ocondP rfl (fun h => ?_) (fun h => ?_) | refine ocondB rfl (fun h => ?_) (fun h => ?_) | refine scondP rfl (fun h => ?_) (fun h => ?_) | refine scond rfl (fun h => ?_) (fun h => ?_) | refine oskip ?_ | refine oskipb ?_ | refine oret ?_ | refine sem_ret ?_ | refine sem_seq ?_ | refine sreg1 ?_)
                    refine onil (lnext (y + 1, R ++ [W]) ⟨by simp only; omega, hdoney W g2 (by omega)⟩ (by simp only; omega) ?_)
                    simp only
                    rw [show [[AV.sl W.length fun i => intCs (W.getD i default)]] = [intsCs W] from rfl, rowL_snoc, List.length_append]
                    (refine Le.drop ?_ rfl (by simp) rfl (by simp only [refM, refO, List.all_cons, List.all_nil, Bool.and_true, Bool.true_and, rowL_all (enc := intsCs) (fun _ _ => rfl)]; first | done | rfl) ; simp only [List.forall_mem_cons, List.forall_mem_nil, getE, selE, Nat.reduceBEq, List.not_mem_nil, false_implies, implies_true, and_true, true_and, and_self])
                    simp [slOf, strCs]
            · have hy : y + 3 = ls.length := by omega
              have hE := hend p y R h2 hy (by omega)
              have hpr := hprt R p (by omega) (by omega) fun j hj => ⟨by have := h2.short j (by omega); omega, (h2.row j (by omega)).2⟩
              (refine sem_exit ?_; change sem _ _ _ _ _)
              refine sem_frzlist (enc := intsCs) (l := R) 0 rfl (fun _ => rfl) ?_
              simp only [frzE, frzM, frzO, frzA, frzL, List.map_cons, List.map_nil, List.set_cons_zero, List.set_cons_succ, Nat.reduceEqDiff, if_true, if_false, and_self, Nat.le_refl, reduceIte, frz_sl]
              by_cases hq : bookB R p = T
              · have hq' : (bookB R p == T) = true := by rw [hq]; exact beq_self_eq_true _
                repeat' (first | ((first | refine o1 rfl ?_ | refine o0 rfl ?_); intro k hk; simp (disch := omega) only [ev0, sl_cells, simprocAttr, slOf, strB_toList, hq']; refine hk _ _ ?_; clear hk k) | refine ono rfl ?_ | (apply ocall; (case he => (simp only [ev0, sl_cells, simprocAttr] <;> rfl)); (case hc => first | exact hpr); (case ht => rfl); (case hg => rfl)) | ((first | refine osplitG rfl (fun h => ?_) (fun h => ?_) | refine osplitB rfl (fun h => ?_) (fun h => ?_)) <;> (fail_if_success (simp only [eq_self, reduceCtorEq] at h))) | refine onx ?_ | refine onb ?_ | refine sreg ?_ | refine qT rfl ?_ | refine qF rfl ?_ | refine scondT rfl ?_ | refine scondF rfl ?_ | refine ocondP rfl (fun h => ?_) (fun h => ?_) | refine ocondB rfl (fun h => ?_) (fun h => ?_) | refine scondP rfl (fun h => ?_) (fun h => ?_) | refine scond rfl (fun h => ?_) (fun h => ?_) | refine oskip ?_ | refine oskipb ?_ | refine oret ?_ | refine sem_ret ?_ | refine sem_seq ?_ | refine sreg1 ?_)
                exact ⟨_, rfl, ⟨.inl ⟨R, p, hE.1 hq, rfl⟩, rfl⟩, by simp⟩
              · have hq' : (bookB R p == T) = false := beq_eq_false_iff_ne.2 hq
                repeat' (first | ((first | refine o1 rfl ?_ | refine o0 rfl ?_); intro k hk; simp (disch := omega) only [ev0, sl_cells, simprocAttr, slOf, strB_toList, hq']; refine hk _ _ ?_; clear hk k) | refine ono rfl ?_ | (apply ocall; (case he => (simp only [ev0, sl_cells, simprocAttr] <;> rfl)); (case hc => first | exact hpr); (case ht => rfl); (case hg => rfl)) | ((first | refine osplitG rfl (fun h => ?_) (fun h => ?_) | refine osplitB rfl (fun h => ?_) (fun h => ?_)) <;> (fail_if_success (simp only [eq_self, reduceCtorEq] at h))) | refine onx ?_ | refine onb ?_ | refine sreg ?_ | refine qT rfl ?_ | refine qF rfl ?_ | refine scondT rfl ?_ | refine scondF rfl ?_ | refine ocondP rfl (fun h => ?_) (fun h => ?_) | refine ocondB rfl (fun h => ?_) (fun h => ?_) | refine scondP rfl (fun h => ?_) (fun h => ?_) | refine scond rfl (fun h => ?_) (fun h => ?_) | refine oskip ?_ | refine oskipb ?_ | refine oret ?_ | refine sem_ret ?_ | refine sem_seq ?_ | refine sreg1 ?_)
                exact ⟨_, rfl, ⟨.inr ⟨hE.2 hq, _, .inr ⟨R, rfl⟩, rfl⟩, rfl⟩, by simp⟩
end Go.Proofs.YtojkchniefhafaaGreatDoor
