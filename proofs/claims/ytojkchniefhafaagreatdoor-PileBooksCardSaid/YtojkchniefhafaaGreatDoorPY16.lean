/- The laws PileBooks and PileReads. -/
import Derived.Test.YtojkchniefhafaaGreatDoorPY15
import Derived.Test.YtojkchniefhafaaGreatDoorPKo
set_option linter.unusedVariables false
set_option linter.unusedSimpArgs false
set_option linter.unusedSectionVars false
set_option maxRecDepth 8000
set_option maxHeartbeats 4000000
namespace Go.Tk
open Go Go.Av
theorem book_row {l : List (List Int)} (h : bookOk l) {y : Nat} (hy : y < l.length) : (l.getD y default).length = (l.getD 0 default).length ∧ ∀ n ∈ l.getD y default, n.natAbs ≤ 999999999 := by
  obtain ⟨h1, h2⟩ := h.2.2 _ (mem_getD hy)
  exact ⟨h1, fun n hn => by have := h2 n hn; unfold levOk at this; omega⟩
theorem book_valid {l : List (List Int)} (h : bookOk l) : validT (bookB l (l.getD 0 default).length) l (l.getD 0 default).length :=
  ⟨rfl, fun y hy => book_row h hy, by have := h.2.1; omega, by have := h.1; omega⟩
theorem book_len {l : List (List Int)} (h : bookOk l) : (bookB l (l.getD 0 default).length).length ≤ 20000 := by
  obtain ⟨⟨a1, a2⟩, ⟨b1, b2⟩, -⟩ := id h
  have key : ∀ y, y ≤ l.length → (bookP l (l.getD 0 default).length y).length ≤ 100 + 300 * y := fun y => by
    induction y with
    | zero =>
      intro _
      have : bookP l (l.getD 0 default).length 0 = wordsL headW [(l.length : Int), ((l.getD 0 default).length : Int)] ++ [10] := by simp [bookP]
      rw [this]
      have := words_len headW (ns := [(l.length : Int), ((l.getD 0 default).length : Int)]) (fun n hn => by
        rcases List.mem_cons.1 hn with rfl | hn
        · omega
        · have : n = ((l.getD 0 default).length : Int) := by simpa using hn
          omega)
      simp only [List.length_append, List.length_cons, List.length_nil, headW] at this ⊢
      omega
    | succ y ih =>
      intro hy
      have h1 := ih (by omega)
      obtain ⟨r1, r2⟩ := book_row h (y := y) (by omega)
      rw [bookP_succ]
      have := words_len yearW (ns := (y : Int) :: l.getD y default) (fun n hn => by
        rcases List.mem_cons.1 hn with rfl | hn
        · omega
        · have := r2 n hn
          omega)
      unfold yearV
      simp only [List.length_append, List.length_cons, List.length_nil, yearW] at this ⊢
      omega
  have h1 := key l.length (Nat.le_refl _)
  have h2 := end_len (sumAll_lt l l.length)
  rw [bookP_end]
  simp only [List.length_append, List.length_cons, List.length_nil, sumB] at h2 ⊢
  omega
theorem readR_ok {l : List (List Int)} (h : bookOk l) {x : AV} (hr : readR (bookB l (l.getD 0 default).length) x) : x = .tup [slOf intsCs l, I 0] := by
  unfold readR at hr
  rw [if_neg (by have := book_len h; omega)] at hr
  rcases hr with ⟨l', p', hv, rfl⟩ | ⟨hn, -⟩
  · have := valid_uniq (book_valid h) hv
    subst this
    rw [if_pos h]
  · exact absurd (book_valid h) (hn _ _)
end Go.Tk
namespace Go.Proofs.YtojkchniefhafaaGreatDoor
open Go Go.Av Go.Tk
attribute [local irreducible] Holds sem semL ACalls FnIs strB
variable {G : World → Prop} (hG : ∀ w w', G w → RowKit.Below w.heap.size w w' → G w') (hT : ∀ w, G w → GB w)
include hG hT
theorem law02_PileBooks (l : List (List Int)) : Holds Tryz.prog G F.law02_PileBooks [slOf intsCs l] (B true) := by
  have hk := law02_known hG hT
  have hbd : l.length ≤ 14 ∧ (∀ row ∈ l, row.length ≤ 10) → l.length ≤ 100000 ∧ ∀ row ∈ l, row.length ≤ 100000 := fun h => ⟨by omega, fun row hr => by have := h.2 row hr; omega⟩
  (refine holds_of_sem hG fn_law02_PileBooks (by simp) fun w0 S0 hG0 D0 => ?_; unfold c_law02_PileBooks cval enterEnv; simp only [List.zipIdx_cons, List.zipIdx_nil, List.map_cons, List.map_nil, Nat.zero_add, Nat.reduceAdd])
  repeat' (first | ((first | refine o1 rfl ?_ | refine o0 rfl ?_); intro k hk; simp (disch := omega) only [ev0, sl_cells, simprocAttr, slOf]; refine hk _ _ ?_; clear hk k) | refine ono rfl ?_ | ((first | refine osplitG rfl (fun h => ?_) (fun h => ?_) | refine osplitB rfl (fun h => ?_) (fun h => ?_)) <;> (fail_if_success (simp only [eq_self, reduceCtorEq] at h))) | refine onx ?_ | refine onb ?_ | refine sreg ?_ | refine qT rfl ?_ | refine qF rfl ?_ | refine scondT rfl ?_ | refine scondF rfl ?_ | refine ocondP rfl (fun h => ?_) (fun h => ?_) | refine ocondB rfl (fun h => ?_) (fun h => ?_) | refine scondP rfl (fun h => ?_) (fun h => ?_) | refine scond rfl (fun h => ?_) (fun h => ?_) | refine oskip ?_ | refine oskipb ?_ | refine oret ?_ | refine sem_ret ?_ | refine sem_seq ?_ | refine sreg1 ?_)
  refine sem_block ?_
  
  refine sem_loop (α := Nat) (fun i => ⟨[(0, slOf intsCs l), (3, I i)], []⟩) (fun i => i ≤ l.length ∧ i ≤ 14 ∧ ∀ j, j < i → (l.getD j default).length ≤ 10) (fun i => l.length - i) 0 ⟨Nat.zero_le _, by omega, fun j hj => absurd hj (Nat.not_lt_zero _)⟩ ?_ ?_
  · (refine Le.same ?_; simp only [List.forall_mem_cons, List.forall_mem_nil, getE, selE, Nat.reduceBEq, List.not_mem_nil, false_implies, implies_true, and_true, true_and, and_self])
    simp [slOf]
  · rintro i ⟨h1, h2, h3⟩
    repeat' (first | ((first | refine o1 rfl ?_ | refine o0 rfl ?_); intro k hk; simp (disch := omega) only [ev0, sl_cells, simprocAttr, slOf]; refine hk _ _ ?_; clear hk k) | refine ono rfl ?_ | ((first | refine osplitG rfl (fun h => ?_) (fun h => ?_) | refine osplitB rfl (fun h => ?_) (fun h => ?_)) <;> (fail_if_success (simp only [eq_self, reduceCtorEq] at h))) | refine onx ?_ | refine onb ?_ | refine sreg ?_ | refine qT rfl ?_ | refine qF rfl ?_ | refine scondT rfl ?_ | refine scondF rfl ?_ | refine ocondP rfl (fun h => ?_) (fun h => ?_) | refine ocondB rfl (fun h => ?_) (fun h => ?_) | refine scondP rfl (fun h => ?_) (fun h => ?_) | refine scond rfl (fun h => ?_) (fun h => ?_) | refine oskip ?_ | refine oskipb ?_ | refine oret ?_ | refine sem_ret ?_ | refine sem_seq ?_ | refine sreg1 ?_)
    · have hi : i < l.length := by omega
      refine sem_block ?_
      by_cases hc : 10 < (l.getD i default).length
      · have hc' : (10 < ((l.getD i default).length : Int)) = True := eq_true (by omega)
        repeat' (first | ((first | refine o1 rfl ?_ | refine o0 rfl ?_); intro k hk; simp (disch := omega) only [ev0, sl_cells, simprocAttr, slOf, intsCs, hc', decide_true]; refine hk _ _ ?_; clear hk k) | refine ono rfl ?_ | (apply ocall; (case he => (simp only [ev0, sl_cells, simprocAttr] <;> rfl)); (case hc => first | exact hk); (case ht => rfl); (case hg => rfl)) | ((first | refine osplitG rfl (fun h => ?_) (fun h => ?_) | refine osplitB rfl (fun h => ?_) (fun h => ?_)) <;> (fail_if_success (simp only [eq_self, reduceCtorEq] at h))) | refine onx ?_ | refine onb ?_ | refine sreg ?_ | refine qT rfl ?_ | refine qF rfl ?_ | refine scondT rfl ?_ | refine scondF rfl ?_ | refine ocondP rfl (fun h => ?_) (fun h => ?_) | refine ocondB rfl (fun h => ?_) (fun h => ?_) | refine scondP rfl (fun h => ?_) (fun h => ?_) | refine scond rfl (fun h => ?_) (fun h => ?_) | refine oskip ?_ | refine oskipb ?_ | refine oret ?_ | refine sem_ret ?_ | refine sem_seq ?_ | refine sreg1 ?_)
        simp only [blockQ, thenQ, loopQ]
        exact ⟨_, rfl, _, rfl, tree_eq rfl rfl⟩
      · have hc' : (10 < ((l.getD i default).length : Int)) = False := eq_false (by omega)
        by_cases h13 : 13 < i
        · have h13' : (13 < (i : Int)) = True := eq_true (by omega)
          repeat' (first | ((first | refine o1 rfl ?_ | refine o0 rfl ?_); intro k hk; simp (disch := omega) only [ev0, sl_cells, simprocAttr, slOf, intsCs, hc', h13', decide_true, decide_false]; refine hk _ _ ?_; clear hk k) | refine ono rfl ?_ | (apply ocall; (case he => (simp only [ev0, sl_cells, simprocAttr] <;> rfl)); (case hc => first | exact hk); (case ht => rfl); (case hg => rfl)) | ((first | refine osplitG rfl (fun h => ?_) (fun h => ?_) | refine osplitB rfl (fun h => ?_) (fun h => ?_)) <;> (fail_if_success (simp only [eq_self, reduceCtorEq] at h))) | refine onx ?_ | refine onb ?_ | refine sreg ?_ | refine qT rfl ?_ | refine qF rfl ?_ | refine scondT rfl ?_ | refine scondF rfl ?_ | refine ocondP rfl (fun h => ?_) (fun h => ?_) | refine ocondB rfl (fun h => ?_) (fun h => ?_) | refine scondP rfl (fun h => ?_) (fun h => ?_) | refine scond rfl (fun h => ?_) (fun h => ?_) | refine oskip ?_ | refine oskipb ?_ | refine oret ?_ | refine sem_ret ?_ | refine sem_seq ?_ | refine sreg1 ?_)
          simp only [blockQ, thenQ, loopQ]
          exact ⟨_, rfl, _, rfl, tree_eq rfl rfl⟩
        · have h13' : (13 < (i : Int)) = False := eq_false (by omega)
          repeat' (first | ((first | refine o1 rfl ?_ | refine o0 rfl ?_); intro k hk; simp (disch := omega) only [ev0, sl_cells, simprocAttr, slOf, intsCs, hc', h13', decide_true, decide_false]; refine hk _ _ ?_; clear hk k) | refine ono rfl ?_ | (apply ocall; (case he => (simp only [ev0, sl_cells, simprocAttr] <;> rfl)); (case hc => first | exact hk); (case ht => rfl); (case hg => rfl)) | ((first | refine osplitG rfl (fun h => ?_) (fun h => ?_) | refine osplitB rfl (fun h => ?_) (fun h => ?_)) <;> (fail_if_success (simp only [eq_self, reduceCtorEq] at h))) | refine onx ?_ | refine onb ?_ | refine sreg ?_ | refine qT rfl ?_ | refine qF rfl ?_ | refine scondT rfl ?_ | refine scondF rfl ?_ | refine ocondP rfl (fun h => ?_) (fun h => ?_) | refine ocondB rfl (fun h => ?_) (fun h => ?_) | refine scondP rfl (fun h => ?_) (fun h => ?_) | refine scond rfl (fun h => ?_) (fun h => ?_) | refine oskip ?_ | refine oskipb ?_ | refine oret ?_ | refine sem_ret ?_ | refine sem_seq ?_ | refine sreg1 ?_)
          refine onil (lnext (i + 1) ⟨by omega, by omega, fun j hj => ?_⟩ (by omega) ?_)
          · by_cases e : j = i
            · subst e; omega
            · exact h3 j (by omega)
          · (refine Le.same ?_; simp only [List.forall_mem_cons, List.forall_mem_nil, getE, selE, Nat.reduceBEq, List.not_mem_nil, false_implies, implies_true, and_true, true_and, and_self])
            simp [slOf]
    · have hi : i = l.length := by omega
      subst hi
      have hrow : ∀ row ∈ l, row.length ≤ 10 := fun row hr => by
        obtain ⟨j, g, rfl⟩ := List.mem_iff_getElem.1 hr
        rw [← getD_lt g]; exact h3 j g
      have hb := ref02_Book hG l (by omega) fun row hr => by have := hrow row hr; omega
      by_cases hbk : bookOk l
      · rw [decide_eq_true hbk] at hb
        have hpr := pile_Print_ok hG hT l hbk
        have hrp := ref02_Print hG l (l.getD 0 default).length (by have := hbk.2.1; omega) (by omega) fun y hy => ⟨by have := h3 y hy; omega, (book_row hbk hy).2⟩
        have hrd := fun h => Read_0 (K := ⟨Tryz.prog, w0, S0, G, hG0⟩) rfl hG hT (bookB l (l.getD 0 default).length) h
        have hbl := book_len hbk
        have hsame := ref02_SameRows hG l (by omega) fun y hy => by have := h3 y hy; omega
        have h0 : (0 : Nat) < l.length := by have := hbk.1; omega
        (refine sem_exit ?_; change sem _ _ _ _ _)
        repeat' (first | ((first | refine o1 rfl ?_ | refine o0 rfl ?_); intro k hk; simp (disch := omega) only [ev0, sl_cells, simprocAttr, slOf, Bool.not_true]; refine hk _ _ ?_; clear hk k) | refine ono rfl ?_ | (apply ocall; (case he => (simp only [ev0, sl_cells, simprocAttr] <;> rfl)); (case hc => first | exact hpr | exact hb); (case ht => rfl); (case hg => rfl)) | ((first | refine osplitG rfl (fun h => ?_) (fun h => ?_) | refine osplitB rfl (fun h => ?_) (fun h => ?_)) <;> (fail_if_success (simp only [eq_self, reduceCtorEq] at h))) | refine onx ?_ | refine onb ?_ | refine sreg ?_ | refine qT rfl ?_ | refine qF rfl ?_ | refine scondT rfl ?_ | refine scondF rfl ?_ | refine ocondP rfl (fun h => ?_) (fun h => ?_) | refine ocondB rfl (fun h => ?_) (fun h => ?_) | refine scondP rfl (fun h => ?_) (fun h => ?_) | refine scond rfl (fun h => ?_) (fun h => ?_) | refine oskip ?_ | refine oskipb ?_ | refine oret ?_ | refine sem_ret ?_ | refine sem_seq ?_ | refine sreg1 ?_)
        refine semL_acall rfl (by exact hrd (by omega)) fun ae μ hr => ?_
        obtain ⟨x, ⟨hx, rfl⟩, rfl⟩ := hr
        have := readR_ok hbk hx
        subst this
        change semL _ _ _ ⟨(_, .tup [slOf intsCs l, I 0]) :: _, _⟩ _
        repeat' (first | ((first | refine o1 rfl ?_ | refine o0 rfl ?_); intro k hk; simp (disch := omega) only [ev0, sl_cells, simprocAttr, slOf, strB_toList, beq_self_eq_true]; refine hk _ _ ?_; clear hk k) | refine ono rfl ?_ | (apply ocall; (case he => (simp only [ev0, sl_cells, simprocAttr] <;> rfl)); (case hc => first | exact hrp | exact hsame | exact hk); (case ht => rfl); (case hg => rfl)) | ((first | refine osplitG rfl (fun h => ?_) (fun h => ?_) | refine osplitB rfl (fun h => ?_) (fun h => ?_)) <;> (fail_if_success (simp only [eq_self, reduceCtorEq] at h))) | refine onx ?_ | refine onb ?_ | refine sreg ?_ | refine qT rfl ?_ | refine qF rfl ?_ | refine scondT rfl ?_ | refine scondF rfl ?_ | refine ocondP rfl (fun h => ?_) (fun h => ?_) | refine ocondB rfl (fun h => ?_) (fun h => ?_) | refine scondP rfl (fun h => ?_) (fun h => ?_) | refine scond rfl (fun h => ?_) (fun h => ?_) | refine oskip ?_ | refine oskipb ?_ | refine oret ?_ | refine sem_ret ?_ | refine sem_seq ?_ | refine sreg1 ?_)
        exact ⟨_, rfl, _, rfl, tree_eq rfl rfl⟩
      · rw [decide_eq_false hbk] at hb
        have hpr := pile_Print_bad hG hT l (by omega) (fun row hr => by have := hrow row hr; omega) hbk
        have hes : ((⟨#[]⟩ : ByteArray).toList == (⟨⟨[]⟩⟩ : ByteArray).toList) = true := beq_self_eq_true _
        (refine sem_exit ?_; change sem _ _ _ _ _)
        repeat' (first | ((first | refine o1 rfl ?_ | refine o0 rfl ?_); intro k hk; simp (disch := omega) only [ev0, sl_cells, simprocAttr, slOf, Bool.not_false, hes]; refine hk _ _ ?_; clear hk k) | refine ono rfl ?_ | (apply ocall; (case he => (simp only [ev0, sl_cells, simprocAttr] <;> rfl)); (case hc => first | exact hpr | exact hb | exact hk); (case ht => rfl); (case hg => rfl)) | ((first | refine osplitG rfl (fun h => ?_) (fun h => ?_) | refine osplitB rfl (fun h => ?_) (fun h => ?_)) <;> (fail_if_success (simp only [eq_self, reduceCtorEq] at h))) | refine onx ?_ | refine onb ?_ | refine sreg ?_ | refine qT rfl ?_ | refine qF rfl ?_ | refine scondT rfl ?_ | refine scondF rfl ?_ | refine ocondP rfl (fun h => ?_) (fun h => ?_) | refine ocondB rfl (fun h => ?_) (fun h => ?_) | refine scondP rfl (fun h => ?_) (fun h => ?_) | refine scond rfl (fun h => ?_) (fun h => ?_) | refine oskip ?_ | refine oskipb ?_ | refine oret ?_ | refine sem_ret ?_ | refine sem_seq ?_ | refine sreg1 ?_)
        exact ⟨_, rfl, _, rfl, tree_eq rfl rfl⟩
end Go.Proofs.YtojkchniefhafaaGreatDoor
