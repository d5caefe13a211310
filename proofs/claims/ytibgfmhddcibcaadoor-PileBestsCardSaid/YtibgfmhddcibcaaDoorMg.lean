/- slices.IndexFunc, slices.ContainsFunc, whatever their elements. -/
import Derived.Test.YtibgfmhddcibcaaDoorMe
import Derived.Test.YtibgfmhddcibcaaDoorMc
set_option linter.unusedVariables false
set_option linter.unusedSimpArgs false
namespace Go.Proofs.YtibgfmhddcibcaaDoor
open Go Go.Av Go.Tk
variable {G : World → Prop} (hG : ∀ w w', G w → RowKit.Below w.heap.size w w' → G w')
include hG
theorem ref02_in (x lo hi : Int) : Holds Tryd.prog G F.ref02_in [I x, I lo, I hi] (B (decide (lo ≤ x ∧ x ≤ hi))) := by
  (refine holds_of_sem hG fn_ref02_in (by simp) fun w0 S0 hG0 D0 => ?_; unfold c_ref02_in cval enterEnv; simp only [List.zipIdx_cons, List.zipIdx_nil, List.map_cons, List.map_nil, Nat.zero_add, Nat.reduceAdd])
  refine sreg ?_
  repeat (first | ((first | refine o1 rfl ?_ | refine o0 rfl ?_); intro k hk; simp (disch := omega) only [ev0, sl_cells, simprocAttr]; refine hk _ _ ?_; clear hk k) | refine ono rfl ?_)
  refine onx (sreg ?_)
  repeat (first | ((first | refine o1 rfl ?_ | refine o0 rfl ?_); intro k hk; simp (disch := omega) only [ev0, sl_cells, simprocAttr]; refine hk _ _ ?_; clear hk k) | refine ono rfl ?_)
  refine osplitP (t := 10) (by (simp only [wv, simprocAttr] <;> rfl)) (fun h => ?_) (fun h => ?_)
  · repeat (first | ((first | refine o1 rfl ?_ | refine o0 rfl ?_); intro k hk; simp (disch := omega) only [ev0, sl_cells, simprocAttr]; refine hk _ _ ?_; clear hk k) | refine ono rfl ?_)
    refine onx (sem_ret ?_)
    exact ⟨_, rfl, _, rfl, tree_eq rfl (by simp [getE, selE, h])⟩
  · repeat (first | ((first | refine o1 rfl ?_ | refine o0 rfl ?_); intro k hk; simp (disch := omega) only [ev0, sl_cells, simprocAttr]; refine hk _ _ ?_; clear hk k) | refine ono rfl ?_)
    refine onx (sem_ret ?_)
    exact ⟨_, rfl, _, rfl, tree_eq rfl (by simp [getE, selE, h])⟩

theorem ref02_Plan (s : PileSite) (plan : List Int) (years : Int) (hp : s.piles.length ≤ 20) (hl : plan.length ≤ 1000) : Holds Tryd.prog G F.ref02_Plan [.agg s.cs, slOf intCs plan, I years]
    (B (decide ((∀ x ∈ plan, 0 ≤ x ∧ x ≤ 2 ^ s.piles.length - 1) ∧ (plan.length : Int) = years))) := by
  (refine holds_of_sem hG fn_ref02_Plan (by simp) fun w0 S0 hG0 D0 => ?_; unfold c_ref02_Plan cval enterEnv; simp only [List.zipIdx_cons, List.zipIdx_nil, List.map_cons, List.map_nil, Nat.zero_add, Nat.reduceAdd])
  refine sreg ?_
  repeat (first | ((first | refine o1 rfl ?_ | refine o0 rfl ?_); intro k hk; simp (disch := omega) only [ev0, sl_cells, simprocAttr, PileSite.cs]; refine hk _ _ ?_; clear hk k) | refine ono rfl ?_)
  refine onx (sreg ?_)
  repeat (first | ((first | refine o1 rfl ?_ | refine o0 rfl ?_); intro k hk; simp (disch := omega) only [ev0, sl_cells, simprocAttr]; refine hk _ _ ?_; clear hk k) | refine ono rfl ?_)
  refine onx (sem_seq (sreg ?_))
  repeat (first | ((first | refine o1 rfl ?_ | refine o0 rfl ?_); intro k hk; simp (disch := omega) only [ev0, sl_cells, simprocAttr]; refine hk _ _ ?_; clear hk k) | refine ono rfl ?_)
  refine onx (sem_block ?_)
  have hb : ∀ i : Nat, i ≤ 20 → 1 ≤ (2 : Int) ^ i ∧ (2 : Int) ^ i ≤ 1048576 := by decide
  refine sem_loop (α := Nat) (fun i => ⟨[(1, slOf intCs plan), (2, I years), (3, .ptr 0 0 6 0 0), (6, B false), (7, I (2 ^ i)), (8, I i)], [.row 26 0 6 [s.cs]]⟩) (fun i => i ≤ s.piles.length) (fun i => s.piles.length - i) 0 (Nat.zero_le _) ?_ ?_
  · (refine Le.same ?_; simp only [List.forall_mem_cons, List.forall_mem_nil, getE, selE, Nat.reduceBEq, List.not_mem_nil, false_implies, implies_true, and_true, true_and, and_self])
    simp
  · intro i hi
    have := hb i (by omega)
    skip
    refine sem_seq (sem_seq (sreg1 ?_))
    repeat (first | ((first | refine o1 rfl ?_ | refine o0 rfl ?_); intro k hk; simp (disch := omega) only [ev0, sl_cells, simprocAttr, PileSite.cs, slOf]; refine hk _ _ ?_; clear hk k) | refine ono rfl ?_)
    refine onx (scondP (by (simp only [wv, simprocAttr] <;> rfl)) (fun h => ?_) (fun h => ?_))
    · have h1 := hb (i + 1) (by omega)
      rw [Int.pow_succ] at h1
      refine sem_skip (nx (sem_seq (sem_block (sreg1 ?_))))
      repeat (first | ((first | refine o1 rfl ?_ | refine o0 rfl ?_); intro k hk; simp (disch := omega) only [ev0, sl_cells, simprocAttr]; refine hk _ _ ?_; clear hk k) | refine ono rfl ?_)
      refine onb (sreg1 ?_)
      repeat (first | ((first | refine o1 rfl ?_ | refine o0 rfl ?_); intro k hk; simp (disch := omega) only [ev0, sl_cells, simprocAttr]; refine hk _ _ ?_; clear hk k) | refine ono rfl ?_)
      refine onil (lnext (i + 1) (by omega) (by omega) ?_)
      (refine Le.same ?_; simp only [List.forall_mem_cons, List.forall_mem_nil, getE, selE, Nat.reduceBEq, List.not_mem_nil, false_implies, implies_true, and_true, true_and, and_self])
      exact ⟨by simp [Int.pow_succ, Int.mul_comm], by simp⟩
    · have hi' : i = s.piles.length := by omega
      subst hi'
      refine sem_exit ?_
      change sem _ _ _ _ _
      refine sem_seq (sem_seq (sreg1 ?_))
      repeat (first | ((first | refine o1 rfl ?_ | refine o0 rfl ?_); intro k hk; simp (disch := omega) only [ev0, sl_cells, simprocAttr]; refine hk _ _ ?_; clear hk k) | refine ono rfl ?_)
      refine onx (sem_block ?_)
      refine sem_loop (α := Nat) (fun i => ⟨[(1, slOf intCs plan), (2, I years), (3, .ptr 0 0 6 0 0), (6, B false), (7, I (2 ^ s.piles.length)), (9, I i)], [.row 26 0 6 [s.cs]]⟩) (fun i => i ≤ plan.length ∧ ∀ x ∈ plan.take i, 0 ≤ x ∧ x ≤ 2 ^ s.piles.length - 1) (fun i => plan.length - i) 0 ⟨Nat.zero_le _, by simp⟩ ?_ ?_
      · (refine Le.same ?_; simp only [List.forall_mem_cons, List.forall_mem_nil, getE, selE, Nat.reduceBEq, List.not_mem_nil, false_implies, implies_true, and_true, true_and, and_self])
        rfl
      · rintro i ⟨hi, hall⟩
        skip
        refine sem_seq (sem_seq (sreg1 ?_))
        repeat (first | ((first | refine o1 rfl ?_ | refine o0 rfl ?_); intro k hk; simp (disch := omega) only [ev0, sl_cells, simprocAttr, slOf]; refine hk _ _ ?_; clear hk k) | refine ono rfl ?_)
        refine onx (scondP (by (simp only [wv, simprocAttr] <;> rfl)) (fun h => ?_) (fun h => ?_))
        · have hg : plan.getD i default = plan[i] := getD_lt (by omega)
          refine sem_skip (nx (sem_seq (sem_block (sem_seq (sreg1 ?_)))))
          repeat (first | ((first | refine o1 rfl ?_ | refine o0 rfl ?_); intro k hk; simp (disch := omega) only [ev0, sl_cells, simprocAttr, slOf, intCs]; refine hk _ _ ?_; clear hk k) | refine ono rfl ?_)
          (apply ocall; (case he => (simp only [ev0, sl_cells, simprocAttr] <;> rfl)); (case hc => exact ref02_in hG _ _ _); (case ht => rfl); (case hg => rfl))
          repeat (first | ((first | refine o1 rfl ?_ | refine o0 rfl ?_); intro k hk; simp (disch := omega) only [ev0, sl_cells, simprocAttr]; refine hk _ _ ?_; clear hk k) | refine ono rfl ?_)
          refine onx (scond (by (simp only [wv, simprocAttr] <;> rfl)) (fun hc => ?_) (fun hc => ?_))
          · have hc' : ¬ (0 ≤ plan[i] ∧ plan[i] ≤ 2 ^ s.piles.length - 1) := by rw [hg] at hc; simp at hc; omega
            refine sem_seq (sreg1 ?_)
            repeat (first | ((first | refine o1 rfl ?_ | refine o0 rfl ?_); intro k hk; simp (disch := omega) only [ev0, sl_cells, simprocAttr]; refine hk _ _ ?_; clear hk k) | refine ono rfl ?_)
            refine onx (sem_ret ?_)
            have hne : ¬ ∀ x ∈ plan, 0 ≤ x ∧ x ≤ 2 ^ s.piles.length - 1 := fun hh => hc' (hh _ (List.getElem_mem _))
            exact ⟨_, rfl, _, rfl, tree_eq rfl (by simp [getE, selE, hne])⟩
          · have hc' : 0 ≤ plan[i] ∧ plan[i] ≤ 2 ^ s.piles.length - 1 := by rw [hg] at hc; simpa using hc
            refine sem_skip ?_
            refine (show sem _ _ _ _ _ from sreg1 ?_)
            repeat (first | ((first | refine o1 rfl ?_ | refine o0 rfl ?_); intro k hk; simp (disch := omega) only [ev0, sl_cells, simprocAttr]; refine hk _ _ ?_; clear hk k) | refine ono rfl ?_)
            refine onil (lnext (i + 1) ⟨by omega, fun x hx => ?_⟩ (by omega) ?_)
            · rw [List.take_succ_eq_append_getElem (by omega)] at hx
              rcases List.mem_append.1 hx with hx | hx
              · exact hall x hx
              · simp at hx; subst hx; exact hc'
            · (refine Le.same ?_; simp only [List.forall_mem_cons, List.forall_mem_nil, getE, selE, Nat.reduceBEq, List.not_mem_nil, false_implies, implies_true, and_true, true_and, and_self])
              simp
        · have hi' : i = plan.length := by omega
          subst hi'
          rw [List.take_length] at hall
          refine sem_exit ?_
          change sem _ _ _ _ _
          refine sreg ?_
          repeat (first | ((first | refine o1 rfl ?_ | refine o0 rfl ?_); intro k hk; simp (disch := omega) only [ev0, sl_cells, simprocAttr, slOf]; refine hk _ _ ?_; clear hk k) | refine ono rfl ?_)
          refine onx (sem_ret ?_)
          exact ⟨_, rfl, _, rfl, tree_eq rfl (by simp [getE, selE]; exact fun _ => hall)⟩
end Go.Proofs.YtibgfmhddcibcaaDoor

set_option linter.unusedVariables false
set_option linter.unusedSimpArgs false
namespace Go.Proofs.YtibgfmhddcibcaaDoor
open Go Go.Av Go.Tk
attribute [local irreducible] Holds sem semL ACalls FnIs
variable {G : World → Prop} (hG : ∀ w w', G w → RowKit.Below w.heap.size w w' → G w')
include hG
theorem pile_in (x lo hi : Int) : Holds Tryd.prog G F.pile_in [I x, I lo, I hi] (B (decide (lo ≤ x ∧ x ≤ hi))) := by
  (refine holds_of_sem hG fn_pile_in (by simp) fun w0 S0 hG0 D0 => ?_; unfold c_pile_in cval enterEnv; simp only [List.zipIdx_cons, List.zipIdx_nil, List.map_cons, List.map_nil, Nat.zero_add, Nat.reduceAdd])
  repeat' (first | ((first | refine o1 rfl ?_ | refine o0 rfl ?_); intro k hk; simp (disch := omega) only [ev0, sl_cells, simprocAttr]; refine hk _ _ ?_; clear hk k) | refine ono rfl ?_ | ((first | refine osplitG rfl (fun h => ?_) (fun h => ?_) | refine osplitB rfl (fun h => ?_) (fun h => ?_)) <;> (fail_if_success (simp only [eq_self, reduceCtorEq] at h))) | refine onx ?_ | refine onb ?_ | refine sreg ?_ | refine qT rfl ?_ | refine qF rfl ?_ | refine scondT rfl ?_ | refine scondF rfl ?_ | refine ocondP rfl (fun h => ?_) (fun h => ?_) | refine ocondB rfl (fun h => ?_) (fun h => ?_) | refine scondP rfl (fun h => ?_) (fun h => ?_) | refine scond rfl (fun h => ?_) (fun h => ?_) | refine oskip ?_ | refine oskipb ?_ | refine oret ?_ | refine sem_ret ?_ | refine sem_seq ?_ | refine sreg1 ?_)
  all_goals exact ⟨_, rfl, _, rfl, tree_eq rfl (by simp [getE, selE, *])⟩

theorem pile_span (s : Span) (lo hi : Int) : Holds Tryd.prog G F.pile_span [.agg s.cs, I lo, I hi] (B (decide (lo ≤ s.low ∧ s.low ≤ s.high ∧ s.high ≤ hi))) := by
  (refine holds_of_sem hG fn_pile_span (by simp) fun w0 S0 hG0 D0 => ?_; unfold c_pile_span cval enterEnv; simp only [List.zipIdx_cons, List.zipIdx_nil, List.map_cons, List.map_nil, Nat.zero_add, Nat.reduceAdd])
  repeat' (first | ((first | refine o1 rfl ?_ | refine o0 rfl ?_); intro k hk; simp (disch := omega) only [ev0, sl_cells, simprocAttr, Span.cs]; refine hk _ _ ?_; clear hk k) | refine ono rfl ?_ | ((first | refine osplitG rfl (fun h => ?_) (fun h => ?_) | refine osplitB rfl (fun h => ?_) (fun h => ?_)) <;> (fail_if_success (simp only [eq_self, reduceCtorEq] at h))) | refine onx ?_ | refine onb ?_ | refine sreg ?_ | refine qT rfl ?_ | refine qF rfl ?_ | refine scondT rfl ?_ | refine scondF rfl ?_ | refine ocondP rfl (fun h => ?_) (fun h => ?_) | refine ocondB rfl (fun h => ?_) (fun h => ?_) | refine scondP rfl (fun h => ?_) (fun h => ?_) | refine scond rfl (fun h => ?_) (fun h => ?_) | refine oskip ?_ | refine oskipb ?_ | refine oret ?_ | refine sem_ret ?_ | refine sem_seq ?_ | refine sreg1 ?_)
  all_goals exact ⟨_, rfl, _, rfl, tree_eq rfl (by simp [getE, selE, *])⟩

end Go.Proofs.YtibgfmhddcibcaaDoor

/- slices.IndexFunc, slices.ContainsFunc, whatever their elements. -/
set_option linter.unusedVariables false
set_option linter.unusedSimpArgs false
namespace Go.Proofs.YtibgfmhddcibcaaDoor
open Go Go.Av Go.Tk

def idxI : Option Nat → Int
  | some i => i
  | none => -1

def IFl (sz : Nat) (agg : Bool) : SCode := .seq (.reg [⟨some 9, none, .bin .lss (.t 8) (.t 7)⟩]) (.seq (.cond (.t 9) .skip (.exit 0)) (.seq (.block 1 (.seq (.reg [⟨some 10, none, .mv (.t 8)⟩, ⟨some 5, none, .mv (.t 10)⟩]) (.seq (.reg [⟨some 11, none, .mv (.t 1)⟩, ⟨some 12, none, .mv (.t 0)⟩, ⟨some 13, none, .mv (.t 5)⟩, ⟨some 14, none, .ixS sz (.t 12) (.t 13)⟩, ⟨some 15, none, .load agg sz (.t 14)⟩, ⟨some 16, none, .dyn (.t 11) [.t 15]⟩]) (.cond (.t 16) (.seq (.reg [⟨some 17, none, .mv (.t 5)⟩, ⟨some 4, none, .mv (.t 17)⟩]) .ret) .skip)))) (.reg [⟨some 18, none, .bin .add (.t 8) (.c (.int .i64 1))⟩, ⟨some 8, none, .mv (.t 18)⟩])))
def IFc (sz : Nat) (agg : Bool) : SCode := .seq (.reg [⟨some 4, none, .mv (.c (.int .i64 0))⟩]) (.seq (.seq (.reg [⟨some 6, none, .mv (.t 0)⟩, ⟨some 7, none, .len (.t 6)⟩, ⟨some 8, none, .mv (.c (.int .i64 0))⟩]) (.block 0 (.loop (IFl sz agg)))) (.seq (.reg [⟨some 4, none, .mv (.c (.int .i64 (-1)))⟩]) .ret))

/-- The element as it is loaded. -/
def elemOf (agg : Bool) (cs : List AV) : AV := match agg with | true => .agg cs | false => cs.getD 0 .dead

theorem oS {K : Ctx} {F : Fcx} {Q : AExit → St → Prop} {env : List (Nat × AV)} {μ μ' : List AObj} {d : Nat} {op : SOp} {x : AV} {l : List SOper} (hs : sopA op env μ = some (x, μ')) (h : semL K F l ⟨(d, x) :: env, μ'⟩ Q) : semL K F (⟨some d, none, op⟩ :: l) ⟨env, μ⟩ Q :=
  semL_op (σ := ⟨env, μ⟩) rfl hs h

theorem ix_elem {α : Type} [Inhabited α] {enc : α → List AV} {l : List α} {i sz : Nat} (hi : i < l.length) (hsz : ∀ a, (enc a).length = sz) (μ : List AObj) : ixS sz (.sl l.length fun i => enc (l.getD i default)) (I i) μ = some (.tptr (enc l[i]) 0) := by
  simp only [ixS]
  rw [if_pos ⟨by omega, by omega⟩, Int.toNat_natCast, if_pos (hsz _), getD_lt hi]

theorem load_elem {cs : List AV} {sz : Nat} {agg : Bool} (hsz : cs.length = sz) (h1 : agg = false → sz = 1) (μ : List AObj) : loadA agg sz (.tptr cs 0) μ = some (elemOf agg cs) := by
  cases agg with
  | true =>
    simp only [loadA, place, if_true, Nat.zero_add, List.drop_zero, elemOf]
    rw [if_pos (by omega), List.take_of_length_le (by omega)]
  | false =>
    have := h1 rfl
    subst this
    match cs, hsz with
    | [x], _ => rfl

attribute [local irreducible] Holds sem semL ACalls FnIs
variable {G : World → Prop} (hG : ∀ w w', G w → RowKit.Below w.heap.size w w' → G w')
include hG

theorem indexFunc {P : Program} {α : Type} [Inhabited α] {f m sz : Nat} {agg : Bool} (hf : FnIs P f m (IFc sz agg) [.tmp 4]) (hm : 2 ≤ m) (enc : α → List AV) (hsz : ∀ a, (enc a).length = sz) (h1 : agg = false → sz = 1) (htr : ∀ a, treeL (enc a) = true) (l : List α) (hlen : l.length ≤ 4611686018427387904)
    {g : Nat} {fi ca : List AV} (ht : treeL fi = true) (ht2 : treeL ca = true) (p : α → Bool) (hp : ∀ a ∈ l, Holds P G g (fi ++ [elemOf agg (enc a)] ++ ca) (.bool (p a))) :
    Holds P G f [slOf enc l, .fn (.func g) fi ca] (I (idxI (l.findIdx? p))) := by
  refine holds_of_sem hG hf (by simpa using hm) fun w0 S0 hG0 D0 => ?_
  unfold IFc enterEnv
  simp only [List.zipIdx_cons, List.zipIdx_nil, List.map_cons, List.map_nil, Nat.zero_add, Nat.reduceAdd]
  refine sreg ?_
  repeat (first | ((first | refine o1 rfl ?_ | refine o0 rfl ?_); intro k hk; simp (disch := omega) only [ev0, sl_cells, simprocAttr]; refine hk _ _ ?_; clear hk k) | refine ono rfl ?_)
  refine onx (sem_seq (sreg ?_))
  repeat (first | ((first | refine o1 rfl ?_ | refine o0 rfl ?_); intro k hk; simp (disch := omega) only [ev0, sl_cells, simprocAttr, slOf]; refine hk _ _ ?_; clear hk k) | refine ono rfl ?_)
  refine onx (sem_block ?_)
  refine sem_loop (α := Nat) (fun i => ⟨[(0, slOf enc l), (1, .fn (.func g) fi ca), (7, I l.length), (8, I i)], []⟩) (fun i => i ≤ l.length ∧ ∀ j, j < i → ∀ a, l[j]? = some a → p a = false) (fun i => l.length - i) 0 ⟨Nat.zero_le _, fun j hj => absurd hj (Nat.not_lt_zero _)⟩ ?_ ?_
  · (refine Le.same ?_; simp only [List.forall_mem_cons, List.forall_mem_nil, getE, selE, Nat.reduceBEq, List.not_mem_nil, false_implies, implies_true, and_true, true_and, and_self])
    simp [slOf]
  · rintro i ⟨hi, hall⟩
    unfold IFl
    refine sem_seq (sreg1 ?_)
    repeat (first | ((first | refine o1 rfl ?_ | refine o0 rfl ?_); intro k hk; simp (disch := omega) only [ev0, sl_cells, simprocAttr]; refine hk _ _ ?_; clear hk k) | refine ono rfl ?_)
    refine onx (sem_seq (scondP (by (simp only [wv, simprocAttr] <;> rfl)) (fun h => ?_) (fun h => ?_)))
    · have hg : l.getD i default = l[i] := getD_lt (by omega)
      have htl : treeL (fi ++ [elemOf agg (enc (l.getD i default))] ++ ca) = true := treeL_append (treeL_append ht (by
        simp only [treeL, Bool.and_true, elemOf]
        cases agg with
        | true => exact htr _
        | false =>
          have := hsz (l.getD i default)
          rw [h1 rfl] at this
          match h2 : enc (l.getD i default), this with
          | [x], _ =>
            have := htr (l.getD i default)
            rw [h2] at this
            simpa [treeL] using this)) ht2
      refine sem_skip (nx (sem_seq (sem_block (sem_seq (sreg1 ?_)))))
      repeat (first | ((first | refine o1 rfl ?_ | refine o0 rfl ?_); intro k hk; simp (disch := omega) only [ev0, sl_cells, simprocAttr]; refine hk _ _ ?_; clear hk k) | refine ono rfl ?_)
      refine onx (sem_seq (sreg1 ?_))
      repeat (first | ((first | refine o1 rfl ?_ | refine o0 rfl ?_); intro k hk; simp (disch := omega) only [ev0, sl_cells, simprocAttr, slOf]; refine hk _ _ ?_; clear hk k) | refine ono rfl ?_)
      refine oS (by simp only [sopA, evX, getE, selE, Nat.reduceBEq, ix_elem (show i < l.length by omega) hsz, withMu, Option.map_some]; rfl) ?_
      refine oS (by simp only [sopA, evX, getE, selE, Nat.reduceBEq, load_elem (hsz l[i]) h1, withMu, Option.map_some]; rfl) ?_
      rw [hg] at htl
      (apply odyn; (case hx => (simp only [ev0, sl_cells, simprocAttr] <;> rfl)); (case he => (simp only [ev0, sl_cells, simprocAttr] <;> rfl)); (case hc => exact hp l[i] (List.getElem_mem _)); (case ht => first | rfl | assumption); (case hg => rfl))
      refine onx (scond (by (simp only [wv, simprocAttr] <;> rfl)) (fun hc => ?_) (fun hc => ?_))
      · refine sreg ?_
        repeat (first | ((first | refine o1 rfl ?_ | refine o0 rfl ?_); intro k hk; simp (disch := omega) only [ev0, sl_cells, simprocAttr]; refine hk _ _ ?_; clear hk k) | refine ono rfl ?_)
        refine onx (sem_ret ?_)
        have : l.findIdx? p = some i := by
          rw [List.findIdx?_eq_some_iff_getElem]
          exact ⟨by omega, hc, fun j hj => by have := hall j hj _ (List.getElem?_eq_getElem (by omega)); simp [this]⟩
        exact ⟨_, rfl, _, rfl, tree_eq rfl (by simp [getE, selE, this, idxI])⟩
      · refine sem_skip ?_
        refine (show sem _ _ _ _ _ from sreg1 ?_)
        repeat (first | ((first | refine o1 rfl ?_ | refine o0 rfl ?_); intro k hk; simp (disch := omega) only [ev0, sl_cells, simprocAttr]; refine hk _ _ ?_; clear hk k) | refine ono rfl ?_)
        refine onil (lnext (i + 1) ⟨by omega, fun j hj a ha => ?_⟩ (by omega) ?_)
        · by_cases hji : j = i
          · subst hji
            rw [List.getElem?_eq_getElem (by omega)] at ha
            cases ha; exact hc
          · exact hall j (by omega) a ha
        · (refine Le.same ?_; simp only [List.forall_mem_cons, List.forall_mem_nil, getE, selE, Nat.reduceBEq, List.not_mem_nil, false_implies, implies_true, and_true, true_and, and_self])
          simp
    · have hi' : i = l.length := by omega
      subst hi'
      refine sem_exit ?_
      change sem _ _ _ _ _
      refine sreg ?_
      repeat (first | ((first | refine o1 rfl ?_ | refine o0 rfl ?_); intro k hk; simp (disch := omega) only [ev0, sl_cells, simprocAttr]; refine hk _ _ ?_; clear hk k) | refine ono rfl ?_)
      refine onx (sem_ret ?_)
      have : l.findIdx? p = none := by
        rw [List.findIdx?_eq_none_iff]
        intro a ha
        obtain ⟨j, hj⟩ := List.getElem?_of_mem ha
        exact hall j (List.getElem?_eq_some_iff.1 hj).1 a hj
      exact ⟨_, rfl, _, rfl, tree_eq rfl (by simp [getE, selE, this, idxI])⟩

def CFc (f : Nat) : SCode := .seq (.reg [⟨some 4, none, .mv (.c (.bool false))⟩]) (.seq (.reg [⟨some 5, none, .mv (.t 0)⟩, ⟨some 6, none, .mv (.t 1)⟩, ⟨some 7, none, .call f [.t 5, .t 6]⟩, ⟨some 8, none, .bin .geq (.t 7) (.c (.int .i64 0))⟩, ⟨some 4, none, .mv (.t 8)⟩]) .ret)

omit hG in
theorem idxI_any {α : Type} (l : List α) (p : α → Bool) : decide (0 ≤ idxI (l.findIdx? p)) = l.any p := by
  cases h : l.findIdx? p with
  | none =>
    rw [List.findIdx?_eq_none_iff] at h
    have : l.any p = false := by simpa [List.any_eq_false] using h
    simp [idxI, this]
  | some i =>
    have h' := List.findIdx?_isSome (xs := l) (p := p)
    rw [h] at h'
    simp [idxI, ← h']

theorem containsFunc {P : Program} {α : Type} [Inhabited α] {f f' m m' sz : Nat} {agg : Bool} (hc : FnIs P f' m' (CFc f) [.tmp 4]) (hm' : 2 ≤ m') (hf : FnIs P f m (IFc sz agg) [.tmp 4]) (hm : 2 ≤ m) (enc : α → List AV) (hsz : ∀ a, (enc a).length = sz) (h1 : agg = false → sz = 1) (htr : ∀ a, treeL (enc a) = true) (l : List α) (hlen : l.length ≤ 4611686018427387904)
    {g : Nat} {fi ca : List AV} (ht : treeL fi = true) (ht2 : treeL ca = true) (p : α → Bool) (hp : ∀ a ∈ l, Holds P G g (fi ++ [elemOf agg (enc a)] ++ ca) (.bool (p a))) :
    Holds P G f' [slOf enc l, .fn (.func g) fi ca] (B (l.any p)) := by
  refine holds_of_sem hG hc (by simpa using hm') fun w0 S0 hG0 D0 => ?_
  unfold CFc enterEnv
  simp only [List.zipIdx_cons, List.zipIdx_nil, List.map_cons, List.map_nil, Nat.zero_add, Nat.reduceAdd]
  refine sreg ?_
  repeat (first | ((first | refine o1 rfl ?_ | refine o0 rfl ?_); intro k hk; simp (disch := omega) only [ev0, sl_cells, simprocAttr]; refine hk _ _ ?_; clear hk k) | refine ono rfl ?_)
  refine onx (sreg ?_)
  repeat (first | ((first | refine o1 rfl ?_ | refine o0 rfl ?_); intro k hk; simp (disch := omega) only [ev0, sl_cells, simprocAttr]; refine hk _ _ ?_; clear hk k) | refine ono rfl ?_)
  have htl : treeL [slOf enc l, .fn (.func g) fi ca] = true := by simp [treeL, treeA, slOf, ht, ht2]
  refine ocall («as» := [slOf enc l, .fn (.func g) fi ca]) (by simp only [evX, getE, selE, Nat.reduceBEq, List.map_cons, List.map_nil]) (indexFunc hG hf hm enc hsz h1 htr l hlen ht ht2 p hp) htl rfl ?_
  repeat (first | ((first | refine o1 rfl ?_ | refine o0 rfl ?_); intro k hk; simp (disch := omega) only [ev0, sl_cells, simprocAttr]; refine hk _ _ ?_; clear hk k) | refine ono rfl ?_)
  refine onx (sem_ret ?_)
  exact ⟨_, rfl, _, rfl, tree_eq rfl (by simp only [getE, selE, Nat.reduceBEq]; rw [← idxI_any])⟩

end Go.Proofs.YtibgfmhddcibcaaDoor

set_option linter.unusedVariables false
set_option linter.unusedSimpArgs false
set_option maxRecDepth 8000
namespace Go.Tk
open Go Go.Av
abbrev Span.in (s : Span) (lo hi : Int) : Prop := lo ≤ s.low ∧ s.low ≤ s.high ∧ s.high ≤ hi
abbrev inI (x lo hi : Int) : Prop := lo ≤ x ∧ x ≤ hi
abbrev Pile.ok (p : Pile) : Prop := inI p.depth 1 50000 ∧ inI p.point 0 100000 ∧ inI p.skin 0 10000 ∧ p.load.in 1 100000 ∧ inI p.design 0 100000 ∧ inI p.cost 0 1000000
abbrev PilePair.ok (n : Int) (p : PilePair) : Prop := inI p.one 0 (n - 1) ∧ inI p.other 0 (n - 1) ∧ p.one ≠ p.other
abbrev PileRow.ok (r : PileRow) : Prop := inI r.use 0 5000 ∧ r.settle.in 0 1000
abbrev PileRow.up (o r : PileRow) : Prop := o.use < r.use ∧ o.settle.low ≤ r.settle.low ∧ o.settle.high ≤ r.settle.high
def rowsOk (l : List PileRow) : Prop := ∀ i r, l[i]? = some r → r.ok ∧ ∀ o, 0 < i → l[i - 1]? = some o → o.up r
def PileSite.ok (s : PileSite) : Prop := rowsOk s.rows ∧ (1 ≤ s.piles.length ∧ s.piles.length ≤ 6) ∧ s.pairs.length ≤ 10 ∧ (1 ≤ s.rows.length ∧ s.rows.length ≤ 6) ∧ inI s.may 0 1000 ∧ inI s.sink 0 100000 ∧ inI s.tilt 0 100000 ∧
  (∀ p ∈ s.piles, p.ok) ∧ ∀ p ∈ s.pairs, p.ok s.piles.length
theorem mnmx_max (a b : Int) : mnmx true a b = max a b := by unfold mnmx; simp only [if_true]; omega
theorem mnmx_min (a b : Int) : mnmx false a b = min a b := by unfold mnmx; simp only [Bool.false_eq_true, if_false]; omega
noncomputable instance (s : PileSite) : Decidable s.ok := Classical.propDecidable _
end Go.Tk
namespace Go.Proofs.YtibgfmhddcibcaaDoor
open Go Go.Av Go.Tk
attribute [local irreducible] Holds sem semL ACalls FnIs
variable {G : World → Prop} (hG : ∀ w w', G w → RowKit.Below w.heap.size w w' → G w')
include hG

theorem pile_pile (p : Pile) : Holds Tryd.prog G F.pile_pile [.agg p.cs] (B (decide p.ok)) := by
  (refine holds_of_sem hG fn_pile_pile (by simp) fun w0 S0 hG0 D0 => ?_; unfold c_pile_pile cval enterEnv; simp only [List.zipIdx_cons, List.zipIdx_nil, List.map_cons, List.map_nil, Nat.zero_add, Nat.reduceAdd])
  repeat' (first | ((first | refine o1 rfl ?_ | refine o0 rfl ?_); intro k hk; simp (disch := omega) only [ev0, sl_cells, simprocAttr, Pile.cs]; refine hk _ _ ?_; clear hk k) | refine ono rfl ?_ | (apply ocall; (case he => (simp only [ev0, sl_cells, simprocAttr] <;> rfl)); (case hc => first | exact pile_in hG _ _ _ | exact pile_span hG p.load _ _); (case ht => rfl); (case hg => rfl)) | ((first | refine osplitG rfl (fun h => ?_) (fun h => ?_) | refine osplitB rfl (fun h => ?_) (fun h => ?_)) <;> (fail_if_success (simp only [eq_self, reduceCtorEq] at h))) | refine onx ?_ | refine onb ?_ | refine sreg ?_ | refine qT rfl ?_ | refine qF rfl ?_ | refine scondT rfl ?_ | refine scondF rfl ?_ | refine ocondP rfl (fun h => ?_) (fun h => ?_) | refine ocondB rfl (fun h => ?_) (fun h => ?_) | refine scondP rfl (fun h => ?_) (fun h => ?_) | refine scond rfl (fun h => ?_) (fun h => ?_) | refine oskip ?_ | refine oskipb ?_ | refine oret ?_ | refine sem_ret ?_ | refine sem_seq ?_ | refine sreg1 ?_)
  all_goals exact ⟨_, rfl, _, rfl, tree_eq rfl (by (try simp only [Bool.not_eq_true', Bool.not_eq_false', decide_eq_true_eq, decide_eq_false_iff_not] at *); simp only [getE, selE, Nat.reduceBEq]; apply congrArg AV.bool; rw [Bool.eq_iff_iff]; simp only [decide_eq_true_eq, Bool.not_eq_true', decide_eq_false_iff_not, Bool.false_eq_true, true_iff, false_iff, iff_true, iff_false, not_true_eq_false, not_false_eq_true, Pile.ok, inI, Span.in]; omega)⟩

theorem pile_valid_1 (p : Pile) : Holds Tryd.prog G F.pile_valid_1 [.agg p.cs] (B (!decide p.ok)) := by
  (refine holds_of_sem hG fn_pile_valid_1 (by simp) fun w0 S0 hG0 D0 => ?_; unfold c_pile_valid_1 cval enterEnv; simp only [List.zipIdx_cons, List.zipIdx_nil, List.map_cons, List.map_nil, Nat.zero_add, Nat.reduceAdd])
  repeat' (first | ((first | refine o1 rfl ?_ | refine o0 rfl ?_); intro k hk; simp (disch := omega) only [ev0, sl_cells, simprocAttr, Pile.cs]; refine hk _ _ ?_; clear hk k) | refine ono rfl ?_ | (apply ocall; (case he => (simp only [ev0, sl_cells, simprocAttr] <;> rfl)); (case hc => first | exact pile_pile hG p); (case ht => rfl); (case hg => rfl)) | ((first | refine osplitG rfl (fun h => ?_) (fun h => ?_) | refine osplitB rfl (fun h => ?_) (fun h => ?_)) <;> (fail_if_success (simp only [eq_self, reduceCtorEq] at h))) | refine onx ?_ | refine onb ?_ | refine sreg ?_ | refine qT rfl ?_ | refine qF rfl ?_ | refine scondT rfl ?_ | refine scondF rfl ?_ | refine ocondP rfl (fun h => ?_) (fun h => ?_) | refine ocondB rfl (fun h => ?_) (fun h => ?_) | refine scondP rfl (fun h => ?_) (fun h => ?_) | refine scond rfl (fun h => ?_) (fun h => ?_) | refine oskip ?_ | refine oskipb ?_ | refine oret ?_ | refine sem_ret ?_ | refine sem_seq ?_ | refine sreg1 ?_)
  all_goals exact ⟨_, rfl, _, rfl, tree_eq rfl (by simp [getE, selE, *])⟩

theorem pile_valid_2 (n : Nat) (hn : n ≤ 4611686018427387904) (p : PilePair) : Holds Tryd.prog G F.pile_valid_2 [.agg p.cs, .tptr [I n] 0] (B (!decide (p.ok n))) := by
  (refine holds_of_sem hG fn_pile_valid_2 (by simp) fun w0 S0 hG0 D0 => ?_; unfold c_pile_valid_2 cval enterEnv; simp only [List.zipIdx_cons, List.zipIdx_nil, List.map_cons, List.map_nil, Nat.zero_add, Nat.reduceAdd])
  repeat' (first | ((first | refine o1 rfl ?_ | refine o0 rfl ?_); intro k hk; simp (disch := omega) only [ev0, sl_cells, simprocAttr, PilePair.cs]; refine hk _ _ ?_; clear hk k) | refine ono rfl ?_ | (apply ocall; (case he => (simp only [ev0, sl_cells, simprocAttr] <;> rfl)); (case hc => first | exact pile_in hG _ _ _); (case ht => rfl); (case hg => rfl)) | ((first | refine osplitG rfl (fun h => ?_) (fun h => ?_) | refine osplitB rfl (fun h => ?_) (fun h => ?_)) <;> (fail_if_success (simp only [eq_self, reduceCtorEq] at h))) | refine onx ?_ | refine onb ?_ | refine sreg ?_ | refine qT rfl ?_ | refine qF rfl ?_ | refine scondT rfl ?_ | refine scondF rfl ?_ | refine ocondP rfl (fun h => ?_) (fun h => ?_) | refine ocondB rfl (fun h => ?_) (fun h => ?_) | refine scondP rfl (fun h => ?_) (fun h => ?_) | refine scond rfl (fun h => ?_) (fun h => ?_) | refine oskip ?_ | refine oskipb ?_ | refine oret ?_ | refine sem_ret ?_ | refine sem_seq ?_ | refine sreg1 ?_)
  all_goals exact ⟨_, rfl, _, rfl, tree_eq rfl (by (try simp only [Bool.not_eq_true', Bool.not_eq_false', decide_eq_true_eq, decide_eq_false_iff_not] at *); simp only [getE, selE, Nat.reduceBEq]; apply congrArg AV.bool; rw [Bool.eq_iff_iff]; simp only [decide_eq_true_eq, Bool.not_eq_true', decide_eq_false_iff_not, Bool.false_eq_true, true_iff, false_iff, iff_true, iff_false, not_true_eq_false, not_false_eq_true, PilePair.ok, inI]; omega)⟩

theorem pile_site_given_1_1 (x : Span) : Holds Tryd.prog G F.pile_site_given_1_1 [.agg x.cs] (B (!decide (x.in 0 50000))) := by
  (refine holds_of_sem hG fn_pile_site_given_1_1 (by simp) fun w0 S0 hG0 D0 => ?_; unfold c_pile_site_given_1_1 cval enterEnv; simp only [List.zipIdx_cons, List.zipIdx_nil, List.map_cons, List.map_nil, Nat.zero_add, Nat.reduceAdd])
  repeat' (first | ((first | refine o1 rfl ?_ | refine o0 rfl ?_); intro k hk; simp (disch := omega) only [ev0, sl_cells, simprocAttr, Span.cs]; refine hk _ _ ?_; clear hk k) | refine ono rfl ?_ | (apply ocall; (case he => (simp only [ev0, sl_cells, simprocAttr] <;> rfl)); (case hc => first | exact pile_span hG x _ _); (case ht => rfl); (case hg => rfl)) | ((first | refine osplitG rfl (fun h => ?_) (fun h => ?_) | refine osplitB rfl (fun h => ?_) (fun h => ?_)) <;> (fail_if_success (simp only [eq_self, reduceCtorEq] at h))) | refine onx ?_ | refine onb ?_ | refine sreg ?_ | refine qT rfl ?_ | refine qF rfl ?_ | refine scondT rfl ?_ | refine scondF rfl ?_ | refine ocondP rfl (fun h => ?_) (fun h => ?_) | refine ocondB rfl (fun h => ?_) (fun h => ?_) | refine scondP rfl (fun h => ?_) (fun h => ?_) | refine scond rfl (fun h => ?_) (fun h => ?_) | refine oskip ?_ | refine oskipb ?_ | refine oret ?_ | refine sem_ret ?_ | refine sem_seq ?_ | refine sreg1 ?_)
  all_goals exact ⟨_, rfl, _, rfl, tree_eq rfl (by simp [getE, selE, *])⟩

theorem pile_carries (p : Pile) (hp : p.ok) (t : Int) (ht : 0 ≤ t ∧ t ≤ 50000) : Holds Tryd.prog G F.pile_carries [.agg p.cs, I t] (I (p.point + p.skin * max 0 (p.depth - t) / 1000)) := by
  obtain ⟨⟨a1, a2⟩, ⟨b1, b2⟩, ⟨c1, c2⟩, -⟩ := hp
  have m1 : 0 ≤ max 0 (p.depth - t) := by omega
  have m2 : max 0 (p.depth - t) ≤ 50000 := by omega
  have m3 : 0 ≤ p.skin * max 0 (p.depth - t) := Int.mul_nonneg c1 m1
  have m4 : p.skin * max 0 (p.depth - t) ≤ 10000 * 50000 := Int.mul_le_mul c2 m2 m1 (by omega)
  have m5 : (p.skin * max 0 (p.depth - t)).tdiv 1000 = p.skin * max 0 (p.depth - t) / 1000 := Int.tdiv_eq_ediv_of_nonneg m3
  (refine holds_of_sem hG fn_pile_carries (by simp) fun w0 S0 hG0 D0 => ?_; unfold c_pile_carries cval enterEnv; simp only [List.zipIdx_cons, List.zipIdx_nil, List.map_cons, List.map_nil, Nat.zero_add, Nat.reduceAdd])
  repeat' (first | ((first | refine o1 rfl ?_ | refine o0 rfl ?_); intro k hk; simp (disch := omega) only [ev0, sl_cells, simprocAttr, Pile.cs, mnmx_max, m5]; refine hk _ _ ?_; clear hk k) | refine ono rfl ?_ | ((first | refine osplitG rfl (fun h => ?_) (fun h => ?_) | refine osplitB rfl (fun h => ?_) (fun h => ?_)) <;> (fail_if_success (simp only [eq_self, reduceCtorEq] at h))) | refine onx ?_ | refine onb ?_ | refine sreg ?_ | refine qT rfl ?_ | refine qF rfl ?_ | refine scondT rfl ?_ | refine scondF rfl ?_ | refine ocondP rfl (fun h => ?_) (fun h => ?_) | refine ocondB rfl (fun h => ?_) (fun h => ?_) | refine scondP rfl (fun h => ?_) (fun h => ?_) | refine scond rfl (fun h => ?_) (fun h => ?_) | refine oskip ?_ | refine oskipb ?_ | refine oret ?_ | refine sem_ret ?_ | refine sem_seq ?_ | refine sreg1 ?_)
  all_goals exact ⟨_, rfl, _, rfl, tree_eq rfl (by simp [getE, selE, *])⟩
end Go.Proofs.YtibgfmhddcibcaaDoor

set_option linter.unusedVariables false
set_option linter.unusedSimpArgs false
set_option maxRecDepth 8000
namespace Go.Proofs.YtibgfmhddcibcaaDoor
open Go Go.Av Go.Tk
attribute [local irreducible] Holds sem semL ACalls FnIs
variable {G : World → Prop} (hG : ∀ w w', G w → RowKit.Below w.heap.size w w' → G w')
include hG

theorem pile_valid (s : PileSite) (h1 : s.piles.length ≤ 1000) (h2 : s.pairs.length ≤ 1000) (h3 : s.rows.length ≤ 1000) : Holds Tryd.prog G F.pile_valid [.agg s.cs] (B (decide s.ok)) := by
  (refine holds_of_sem hG fn_pile_valid (by simp) fun w0 S0 hG0 D0 => ?_; unfold c_pile_valid cval enterEnv; simp only [List.zipIdx_cons, List.zipIdx_nil, List.map_cons, List.map_nil, Nat.zero_add, Nat.reduceAdd])
  refine sreg ?_
  repeat (first | ((first | refine o1 rfl ?_ | refine o0 rfl ?_); intro k hk; simp (disch := omega) only [ev0, sl_cells, simprocAttr, PileSite.cs]; refine hk _ _ ?_; clear hk k) | refine ono rfl ?_)
  refine onx (sreg ?_)
  repeat (first | ((first | refine o1 rfl ?_ | refine o0 rfl ?_); intro k hk; simp (disch := omega) only [ev0, sl_cells, simprocAttr, slOf]; refine hk _ _ ?_; clear hk k) | refine ono rfl ?_)
  refine onx (sem_seq (sreg ?_))
  repeat (first | ((first | refine o1 rfl ?_ | refine o0 rfl ?_); intro k hk; simp (disch := omega) only [ev0, sl_cells, simprocAttr, slOf]; refine hk _ _ ?_; clear hk k) | refine ono rfl ?_)
  refine onx (sem_block ?_)
  refine sem_loop (α := Nat) (fun i => ⟨[(1, .ptr 0 0 6 0 0), (3, .ptr 1 0 1 0 0), (11, slOf PileRow.cs s.rows), (12, I s.rows.length), (13, I i)], [.row 26 0 6 [s.cs], .row 3 0 1 [[I s.piles.length]]]⟩)
    (fun i => i ≤ s.rows.length ∧ ∀ j, j < i → ∀ r, s.rows[j]? = some r → r.ok ∧ ∀ o, 0 < j → s.rows[j - 1]? = some o → o.up r) (fun i => s.rows.length - i) 0 ⟨Nat.zero_le _, fun j hj => absurd hj (Nat.not_lt_zero _)⟩ ?_ ?_
  · (refine Le.same ?_; simp only [List.forall_mem_cons, List.forall_mem_nil, getE, selE, Nat.reduceBEq, List.not_mem_nil, false_implies, implies_true, and_true, true_and, and_self])
    simp [slOf]
  · rintro i ⟨hi, hall⟩
    skip
    refine sem_seq (sreg1 ?_)
    repeat (first | ((first | refine o1 rfl ?_ | refine o0 rfl ?_); intro k hk; simp (disch := omega) only [ev0, sl_cells, simprocAttr]; refine hk _ _ ?_; clear hk k) | refine ono rfl ?_)
    refine onx (sem_seq (scondP (by (simp only [wv, simprocAttr] <;> rfl)) (fun h => ?_) (fun h => ?_)))
    · have hg : s.rows.getD i default = s.rows[i] := getD_lt (by omega)
      have hri : s.rows[i]? = some s.rows[i] := List.getElem?_eq_getElem (by omega)
      have hi1 : ((i : Int) - 1).toNat = i - 1 := by omega
      have hno : ¬ (s.rows[i].ok ∧ (0 < i → (s.rows.getD (i - 1) default).up s.rows[i])) → ¬ s.ok := fun h1 h2 => h1 ⟨(h2.1 i _ hri).1, fun h0 => (h2.1 i _ hri).2 _ h0 (by rw [List.getElem?_eq_getElem (by omega)]; simp [List.getD, List.getElem?_eq_getElem (show i - 1 < s.rows.length by omega)])⟩
      have hstep : (s.rows[i].ok ∧ (0 < i → (s.rows.getD (i - 1) default).up s.rows[i])) → ∀ j, j < i + 1 → ∀ r, s.rows[j]? = some r → r.ok ∧ ∀ o, 0 < j → s.rows[j - 1]? = some o → o.up r := by
        intro h j hj r hr
        by_cases hji : j = i
        · subst hji
          rw [hri] at hr; cases hr
          refine ⟨h.1, fun o h0 ho => ?_⟩
          have e : s.rows.getD (j - 1) default = o := by simp [List.getD, ho]
          rw [← e]; exact h.2 h0
        · exact hall j (by omega) r hr
      refine sem_skip (nx (sem_seq (sem_block (sem_seq (sreg1 ?_)))))
      repeat (first | ((first | refine o1 rfl ?_ | refine o0 rfl ?_); intro k hk; simp (disch := omega) only [ev0, sl_cells, simprocAttr, slOf, PileRow.cs]; refine hk _ _ ?_; clear hk k) | refine ono rfl ?_)
      rw [hg]
      refine onx (sem_seq (sem_seq (sreg1 ?_)))
      repeat' (first | ((first | refine o1 rfl ?_ | refine o0 rfl ?_); intro k hk; simp (disch := omega) only [ev0, sl_cells, simprocAttr, PileRow.cs, slOf, hi1]; refine hk _ _ ?_; clear hk k) | refine ono rfl ?_ | (apply ocall; (case he => (simp only [ev0, sl_cells, simprocAttr] <;> rfl)); (case hc => first | exact pile_in hG _ _ _ | exact pile_span hG s.rows[i].settle _ _); (case ht => rfl); (case hg => rfl)) | ((first | refine osplitG rfl (fun h => ?_) (fun h => ?_) | refine osplitB rfl (fun h => ?_) (fun h => ?_)) <;> (fail_if_success (simp only [eq_self, reduceCtorEq] at h))) | refine onx ?_ | refine onb ?_ | refine sreg ?_ | refine qT rfl ?_ | refine qF rfl ?_ | refine scondT rfl ?_ | refine scondF rfl ?_ | refine ocondP rfl (fun h => ?_) (fun h => ?_) | refine ocondB rfl (fun h => ?_) (fun h => ?_) | refine scondP rfl (fun h => ?_) (fun h => ?_) | refine scond rfl (fun h => ?_) (fun h => ?_) | refine oskip ?_ | refine oskipb ?_ | refine oret ?_ | refine sem_ret ?_ | refine sem_seq ?_ | refine sreg1 ?_)
      all_goals first
        | exact ⟨_, rfl, _, rfl, tree_eq rfl (by
            simp only [getE, selE, Nat.reduceBEq]
            refine congrArg AV.bool (decide_eq_false (hno ?_)).symm
            simp only [Bool.not_eq_true', Bool.not_eq_false', decide_eq_true_eq, decide_eq_false_iff_not, PileRow.ok, PileRow.up, inI, Span.in] at *
            omega)⟩
        | (refine onil (lnext (i + 1) ⟨by omega, hstep (by
            simp only [Bool.not_eq_true', Bool.not_eq_false', decide_eq_true_eq, decide_eq_false_iff_not, PileRow.ok, PileRow.up, inI, Span.in] at *
            omega)⟩ (by omega) ?_); (refine Le.drop ?_ rfl (by simp) rfl rfl; simp only [List.forall_mem_cons, List.forall_mem_nil, getE, selE, Nat.reduceBEq, List.not_mem_nil, false_implies, implies_true, and_true, true_and, and_self]); simp [slOf])
        | trace_state
    · have hi' : i = s.rows.length := by omega
      subst hi'
      refine sem_exit ?_
      change sem _ _ _ _ _
      (refine sem_frzbox 1 rfl rfl ?_; simp only [frz_siteCs, frzE, frzM, frzA, frzL, frzO, frz_sl, frz_span, frz_pile, frz_row, frz_pair, frz_site, List.map_cons, List.map_nil, List.set_cons_zero, List.set_cons_succ, Nat.reduceEqDiff, if_true, if_false, and_self, Nat.reduceLT, Nat.reduceLeDiff, reduceIte, Nat.le_refl])
      have hok : s.ok ↔ (1 ≤ (s.piles.length : Int) ∧ (s.piles.length : Int) ≤ 6) ∧ (s.pairs.length : Int) ≤ 10 ∧ (1 ≤ (s.rows.length : Int) ∧ (s.rows.length : Int) ≤ 6) ∧ (0 ≤ s.may ∧ s.may ≤ 1000) ∧ (0 ≤ s.sink ∧ s.sink ≤ 100000) ∧ (0 ≤ s.tilt ∧ s.tilt ≤ 100000) ∧
          (s.piles.any fun p => !decide p.ok) = false ∧ (s.pairs.any fun p => !decide (p.ok s.piles.length)) = false := by
        have e1 : (s.piles.any fun p => !decide p.ok) = false ↔ ∀ p ∈ s.piles, p.ok := by simp only [List.any_eq_false, Bool.not_eq_true', decide_eq_false_iff_not, Classical.not_not]
        have e2 : (s.pairs.any fun p => !decide (p.ok s.piles.length)) = false ↔ ∀ p ∈ s.pairs, p.ok s.piles.length := by simp only [List.any_eq_false, Bool.not_eq_true', decide_eq_false_iff_not, Classical.not_not]
        rw [e1, e2]
        have e3 : rowsOk s.rows := fun i r hr => hall i (List.getElem?_eq_some_iff.1 hr).1 r hr
        unfold PileSite.ok
        simp only [inI]
        constructor
        · rintro ⟨-, a, b, c, d, e, f, g, h⟩
          exact ⟨by omega, by omega, by omega, d, e, f, g, h⟩
        · rintro ⟨a, b, c, d, e, f, g, h⟩
          exact ⟨e3, by omega, by omega, by omega, d, e, f, g, h⟩
      repeat' (first | ((first | refine o1 rfl ?_ | refine o0 rfl ?_); intro k hk; simp (disch := omega) only [ev0, sl_cells, simprocAttr, PileSite.cs, slOf]; refine hk _ _ ?_; clear hk k) | refine ono rfl ?_ | (apply ocall; (case he => (simp only [ev0, sl_cells, simprocAttr] <;> rfl)); (case hc => first | exact pile_in hG _ _ _ | exact containsFunc hG fn_slices_ContainsFunc_apiPile (by decide) fn_slices_IndexFunc_apiPile (by decide) Pile.cs (fun _ => rfl) (by simp) (fun _ => rfl) s.piles (by omega) (fi := []) (ca := []) rfl rfl (fun p => !decide p.ok) (fun p _ => pile_valid_1 hG p) | exact containsFunc hG fn_slices_ContainsFunc_apiPilePair (by decide) fn_slices_IndexFunc_apiPilePair (by decide) PilePair.cs (fun _ => rfl) (by simp) (fun _ => rfl) s.pairs (by omega) (fi := []) (ca := [.tptr [I s.piles.length] 0]) rfl rfl (fun p => !decide (p.ok s.piles.length)) (fun p _ => pile_valid_2 hG _ (by omega) p)); (case ht => rfl); (case hg => rfl)) | ((first | refine osplitG rfl (fun h => ?_) (fun h => ?_) | refine osplitB rfl (fun h => ?_) (fun h => ?_)) <;> (fail_if_success (simp only [eq_self, reduceCtorEq] at h))) | refine onx ?_ | refine onb ?_ | refine sreg ?_ | refine qT rfl ?_ | refine qF rfl ?_ | refine scondT rfl ?_ | refine scondF rfl ?_ | refine ocondP rfl (fun h => ?_) (fun h => ?_) | refine ocondB rfl (fun h => ?_) (fun h => ?_) | refine scondP rfl (fun h => ?_) (fun h => ?_) | refine scond rfl (fun h => ?_) (fun h => ?_) | refine oskip ?_ | refine oskipb ?_ | refine oret ?_ | refine sem_ret ?_ | refine sem_seq ?_ | refine sreg1 ?_)
      all_goals exact ⟨_, rfl, _, rfl, tree_eq rfl (by
        simp only [getE, selE, Nat.reduceBEq]
        refine congrArg AV.bool ?_
        rw [Bool.eq_iff_iff, decide_eq_true_iff, hok]
        clear hok hall
        try simp only [Bool.not_eq_true', Bool.not_eq_false', decide_eq_true_eq] at *
        try simp only [*, true_and, and_true, false_and, and_false, and_self, iff_self, Bool.false_eq_true, Bool.true_eq_false, iff_true, true_iff, not_false_eq_true])⟩
end Go.Proofs.YtibgfmhddcibcaaDoor

set_option linter.unusedVariables false
set_option linter.unusedSimpArgs false
set_option maxRecDepth 8000
namespace Go.Tk
open Go Go.Av
def thawsOk (s : PileSite) (th : List (List Span)) : Prop := ∀ l ∈ th, l.length = s.piles.length ∧ ∀ x ∈ l, x.in 0 50000
noncomputable instance (s th) : Decidable (thawsOk s th) := Classical.propDecidable _
noncomputable def givenE (s : PileSite) (th : List (List Span)) (long fine : Bool) : Int := if 10 < th.length ∨ long = true then 3 else if s.ok ∧ fine = true ∧ thawsOk s th then 0 else 2
def planOk (s : PileSite) (th : List (List Span)) (plan : List Int) : Prop := plan.length = th.length ∧ ∀ x ∈ plan, 0 ≤ x ∧ x ≤ 2 ^ s.piles.length - 1
instance (s th plan) : Decidable (planOk s th plan) := by unfold planOk; infer_instance
theorem any_not {α : Type} (l : List α) (p : α → Prop) [DecidablePred p] [Decidable (∀ x ∈ l, p x)] : (l.any fun x => !decide (p x)) = !decide (∀ x ∈ l, p x) := by
  rw [Bool.eq_iff_iff]
  simp only [List.any_eq_true, Bool.not_eq_true', decide_eq_false_iff_not, Classical.not_forall, not_imp, exists_prop]
theorem shl_pow : ∀ n : Nat, n ≤ 6 → IntKind.i64.wrap (1 * 2 ^ (min n IntKind.i64.bits)) = 2 ^ n := by decide
end Go.Tk
namespace Go.Proofs.YtibgfmhddcibcaaDoor
open Go Go.Av Go.Tk
attribute [local irreducible] Holds sem semL ACalls FnIs
variable {G : World → Prop} (hG : ∀ w w', G w → RowKit.Below w.heap.size w w' → G w')
include hG

theorem pile_site_given_1 (s : PileSite) (th : List (List Span)) (l : List Span) (h1 : s.piles.length ≤ 1000) (hl : l.length ≤ 1000) :
    Holds Tryd.prog G F.pile_site_given_1 [slOf Span.cs l, .tptr [.tptr (siteCs s th) 0] 0] (B (!decide (l.length = s.piles.length ∧ ∀ x ∈ l, x.in 0 50000))) := by
  (refine holds_of_sem hG fn_pile_site_given_1 (by simp) fun w0 S0 hG0 D0 => ?_; unfold c_pile_site_given_1 cval enterEnv; simp only [List.zipIdx_cons, List.zipIdx_nil, List.map_cons, List.map_nil, Nat.zero_add, Nat.reduceAdd])
  repeat' (first | ((first | refine o1 rfl ?_ | refine o0 rfl ?_); intro k hk; simp (disch := omega) only [ev0, sl_cells, simprocAttr, siteCs, slOf]; refine hk _ _ ?_; clear hk k) | refine ono rfl ?_ | (apply ocall; (case he => (simp only [ev0, sl_cells, simprocAttr] <;> rfl)); (case hc => first | exact containsFunc hG fn_slices_ContainsFunc_apiSpan_92 (by decide) fn_slices_IndexFunc_apiSpan_116 (by decide) Span.cs (fun _ => rfl) (by simp) (fun _ => rfl) l (by omega) (fi := []) (ca := []) rfl rfl (fun x => !decide (x.in 0 50000)) (fun x _ => pile_site_given_1_1 hG x)); (case ht => rfl); (case hg => rfl)) | ((first | refine osplitG rfl (fun h => ?_) (fun h => ?_) | refine osplitB rfl (fun h => ?_) (fun h => ?_)) <;> (fail_if_success (simp only [eq_self, reduceCtorEq] at h))) | refine onx ?_ | refine onb ?_ | refine sreg ?_ | refine qT rfl ?_ | refine qF rfl ?_ | refine scondT rfl ?_ | refine scondF rfl ?_ | refine ocondP rfl (fun h => ?_) (fun h => ?_) | refine ocondB rfl (fun h => ?_) (fun h => ?_) | refine scondP rfl (fun h => ?_) (fun h => ?_) | refine scond rfl (fun h => ?_) (fun h => ?_) | refine oskip ?_ | refine oskipb ?_ | refine oret ?_ | refine sem_ret ?_ | refine sem_seq ?_ | refine sreg1 ?_)
  · refine ⟨_, rfl, _, rfl, tree_eq rfl ?_⟩
    simp only [getE, selE, Nat.reduceBEq]
    refine congrArg AV.bool ?_
    have : ¬ (l.length = s.piles.length ∧ ∀ x ∈ l, x.in 0 50000) := fun hh => by have := hh.1; simp at h; omega
    rw [decide_eq_false this]; rfl
  · refine ⟨_, rfl, _, rfl, tree_eq rfl ?_⟩
    simp only [getE, selE, Nat.reduceBEq]
    refine congrArg AV.bool ?_
    have : l.length = s.piles.length := by simp at h; omega
    rw [any_not]
    simp only [this, true_and]

theorem pile_site_given (s : PileSite) (th : List (List Span)) (long fine : Bool) (h1 : s.piles.length ≤ 1000) (h2 : s.pairs.length ≤ 1000) (h3 : s.rows.length ≤ 1000) (ht : th.length ≤ 1000) (hth : th.length ≤ 10 → ∀ l ∈ th, l.length ≤ 1000) :
    Holds Tryd.prog G F.pile_site_given [.tptr (siteCs s th) 0, B long, B fine] (I (givenE s th long fine)) := by
  (refine holds_of_sem hG fn_pile_site_given (by simp) fun w0 S0 hG0 D0 => ?_; unfold c_pile_site_given cval enterEnv; simp only [List.zipIdx_cons, List.zipIdx_nil, List.map_cons, List.map_nil, Nat.zero_add, Nat.reduceAdd])
  refine sreg ?_
  repeat (first | ((first | refine o1 rfl ?_ | refine o0 rfl ?_); intro k hk; simp (disch := omega) only [ev0, sl_cells, simprocAttr]; refine hk _ _ ?_; clear hk k) | refine ono rfl ?_)
  refine onx ?_
  (refine sem_frzbox 0 rfl rfl ?_; simp only [frz_siteCs, frzE, frzM, frzA, frzL, frzO, frz_sl, frz_span, frz_pile, frz_row, frz_pair, frz_site, List.map_cons, List.map_nil, List.set_cons_zero, List.set_cons_succ, Nat.reduceEqDiff, if_true, if_false, and_self, Nat.reduceLT, Nat.reduceLeDiff, reduceIte, Nat.le_refl])
  have ht' : (th.any fun l => !decide (l.length = s.piles.length ∧ ∀ x ∈ l, x.in 0 50000)) = !decide (thawsOk s th) := by
    rw [any_not]
    exact congrArg (fun b => !b) (decide_eq_decide.2 Iff.rfl)
  by_cases hlen : th.length ≤ 10
  · repeat' (first | ((first | refine o1 rfl ?_ | refine o0 rfl ?_); intro k hk; simp (disch := omega) only [ev0, sl_cells, simprocAttr, siteCs, slOf]; refine hk _ _ ?_; clear hk k) | refine ono rfl ?_ | (apply ocall; (case he => (simp only [ev0, sl_cells, simprocAttr] <;> rfl)); (case hc => first | exact pile_valid hG s h1 h2 h3 | exact containsFunc hG fn_slices_ContainsFunc_apiSpan (by decide) fn_slices_IndexFunc_apiSpan (by decide) spansCs (fun _ => rfl) (fun _ => rfl) (fun _ => rfl) th (by omega) (fi := []) (ca := [.tptr [.tptr (siteCs s th) 0] 0]) rfl rfl (fun l => !decide (l.length = s.piles.length ∧ ∀ x ∈ l, x.in 0 50000)) (fun l hl => pile_site_given_1 hG s th l h1 (hth hlen l hl))); (case ht => rfl); (case hg => rfl)) | ((first | refine osplitG rfl (fun h => ?_) (fun h => ?_) | refine osplitB rfl (fun h => ?_) (fun h => ?_)) <;> (fail_if_success (simp only [eq_self, reduceCtorEq] at h))) | refine onx ?_ | refine onb ?_ | refine sreg ?_ | refine qT rfl ?_ | refine qF rfl ?_ | refine scondT rfl ?_ | refine scondF rfl ?_ | refine ocondP rfl (fun h => ?_) (fun h => ?_) | refine ocondB rfl (fun h => ?_) (fun h => ?_) | refine scondP rfl (fun h => ?_) (fun h => ?_) | refine scond rfl (fun h => ?_) (fun h => ?_) | refine oskip ?_ | refine oskipb ?_ | refine oret ?_ | refine sem_ret ?_ | refine sem_seq ?_ | refine sreg1 ?_)
    all_goals
      refine ⟨_, rfl, _, rfl, tree_eq rfl ?_⟩
      simp only [getE, selE, Nat.reduceBEq]
      refine congrArg (AV.int .i64) ?_
      simp only [Bool.not_eq_true', Bool.not_eq_false', decide_eq_true_eq, decide_eq_false_iff_not, ht'] at *
      unfold givenE
      first
        | (rw [if_pos (by first | (left; omega) | (right; assumption))]; done)
        | (rw [if_neg (by rintro (hh | hh) <;> simp_all <;> omega), if_pos ⟨by assumption, by assumption, by assumption⟩]; done)
        | (rw [if_neg (by rintro (hh | hh) <;> simp_all <;> omega), if_neg (by rintro ⟨a, b, c⟩; simp_all)]; done)
        | trace_state
  · repeat' (first | ((first | refine o1 rfl ?_ | refine o0 rfl ?_); intro k hk; simp (disch := omega) only [ev0, sl_cells, simprocAttr, siteCs, slOf]; refine hk _ _ ?_; clear hk k) | refine ono rfl ?_ | ((first | refine osplitG rfl (fun h => ?_) (fun h => ?_) | refine osplitB rfl (fun h => ?_) (fun h => ?_)) <;> (fail_if_success (simp only [eq_self, reduceCtorEq] at h))) | refine onx ?_ | refine onb ?_ | refine sreg ?_ | refine qT rfl ?_ | refine qF rfl ?_ | refine scondT rfl ?_ | refine scondF rfl ?_ | refine ocondP rfl (fun h => ?_) (fun h => ?_) | refine ocondB rfl (fun h => ?_) (fun h => ?_) | refine scondP rfl (fun h => ?_) (fun h => ?_) | refine scond rfl (fun h => ?_) (fun h => ?_) | refine oskip ?_ | refine oskipb ?_ | refine oret ?_ | refine sem_ret ?_ | refine sem_seq ?_ | refine sreg1 ?_)
    all_goals first
      | (exfalso; simp at h; omega)
      | (refine ⟨_, rfl, _, rfl, tree_eq rfl ?_⟩
         simp only [getE, selE, Nat.reduceBEq]
         refine congrArg (AV.int .i64) ?_
         unfold givenE
         rw [if_pos (by left; omega)])
      | (exfalso; omega)
end Go.Proofs.YtibgfmhddcibcaaDoor

set_option linter.unusedVariables false
set_option linter.unusedSimpArgs false
set_option maxRecDepth 8000
namespace Go.Tk
open Go Go.Av
def carr (p : Pile) (t : Int) : Int := p.point + p.skin * max 0 (p.depth - t) / 1000
def needs (p : Pile) (t load : Int) : Int := (1000 * load + carr p t - 1) / carr p t
def lastRow (s : PileSite) : PileRow := s.rows.getD (s.rows.length - 1) default
def rowOf (s : PileSite) (p : Pile) (t load : Int) : PileRow × Bool :=
  if 0 < carr p t then match s.rows.find? (fun r => decide (needs p t load ≤ r.use)) with
    | some r => (r, false)
    | none => (lastRow s, true)
  else (lastRow s, true)
theorem find_first {α : Type} {l : List α} {p : α → Bool} {i : Nat} (hi : i < l.length) (hp : p l[i] = true) (hall : ∀ j, j < i → ∀ r, l[j]? = some r → ¬ p r = true) : l.find? p = some l[i] := by
  rw [List.find?_eq_some_iff_getElem]
  exact ⟨hp, i, hi, rfl, fun j hj => by have := hall j hj _ (List.getElem?_eq_getElem (by omega)); simpa using this⟩
theorem find_none {α : Type} {l : List α} {p : α → Bool} (hall : ∀ j, j < l.length → ∀ r, l[j]? = some r → ¬ p r = true) : l.find? p = none := by
  rw [List.find?_eq_none]
  intro a ha
  obtain ⟨j, hj⟩ := List.getElem?_of_mem ha
  exact hall j (List.getElem?_eq_some_iff.1 hj).1 a hj
end Go.Tk
namespace Go.Proofs.YtibgfmhddcibcaaDoor
open Go Go.Av Go.Tk
attribute [local irreducible] Holds sem semL ACalls FnIs
variable {G : World → Prop} (hG : ∀ w w', G w → RowKit.Below w.heap.size w w' → G w')
include hG

theorem pile_site_planned_1 (s : PileSite) (th : List (List Span)) (b : Int) (hn : s.piles.length ≤ 6) : Holds Tryd.prog G F.pile_site_planned_1 [I b, .tptr [.tptr (siteCs s th) 0] 0] (B (!decide (0 ≤ b ∧ b ≤ 2 ^ s.piles.length - 1))) := by
  have hsh := shl_pow s.piles.length hn
  have hb : ∀ i : Nat, i ≤ 6 → 1 ≤ (2 : Int) ^ i ∧ (2 : Int) ^ i ≤ 64 := by decide
  have hb' := hb _ hn
  (refine holds_of_sem hG fn_pile_site_planned_1 (by simp) fun w0 S0 hG0 D0 => ?_; unfold c_pile_site_planned_1 cval enterEnv; simp only [List.zipIdx_cons, List.zipIdx_nil, List.map_cons, List.map_nil, Nat.zero_add, Nat.reduceAdd])
  repeat' (first | ((first | refine o1 rfl ?_ | refine o0 rfl ?_); intro k hk; simp (disch := omega) only [ev0, sl_cells, simprocAttr, siteCs, slOf, hsh]; refine hk _ _ ?_; clear hk k) | refine ono rfl ?_ | (apply ocall; (case he => (simp only [ev0, sl_cells, simprocAttr] <;> rfl)); (case hc => first | exact pile_in hG _ _ _); (case ht => rfl); (case hg => rfl)) | ((first | refine osplitG rfl (fun h => ?_) (fun h => ?_) | refine osplitB rfl (fun h => ?_) (fun h => ?_)) <;> (fail_if_success (simp only [eq_self, reduceCtorEq] at h))) | refine onx ?_ | refine onb ?_ | refine sreg ?_ | refine qT rfl ?_ | refine qF rfl ?_ | refine scondT rfl ?_ | refine scondF rfl ?_ | refine ocondP rfl (fun h => ?_) (fun h => ?_) | refine ocondB rfl (fun h => ?_) (fun h => ?_) | refine scondP rfl (fun h => ?_) (fun h => ?_) | refine scond rfl (fun h => ?_) (fun h => ?_) | refine oskip ?_ | refine oskipb ?_ | refine oret ?_ | refine sem_ret ?_ | refine sem_seq ?_ | refine sreg1 ?_)
  all_goals exact ⟨_, rfl, _, rfl, tree_eq rfl (by simp [getE, selE, *])⟩

theorem pile_site_planned (s : PileSite) (th : List (List Span)) (plan : List Int) (hn : s.piles.length ≤ 6) (ht : th.length ≤ 1000) (hp : plan.length ≤ 1000) : Holds Tryd.prog G F.pile_site_planned [.tptr (siteCs s th) 0, slOf intCs plan] (B (decide (planOk s th plan))) := by
  (refine holds_of_sem hG fn_pile_site_planned (by simp) fun w0 S0 hG0 D0 => ?_; unfold c_pile_site_planned cval enterEnv; simp only [List.zipIdx_cons, List.zipIdx_nil, List.map_cons, List.map_nil, Nat.zero_add, Nat.reduceAdd])
  refine sreg ?_
  repeat (first | ((first | refine o1 rfl ?_ | refine o0 rfl ?_); intro k hk; simp (disch := omega) only [ev0, sl_cells, simprocAttr]; refine hk _ _ ?_; clear hk k) | refine ono rfl ?_)
  refine onx ?_
  (refine sem_frzbox 0 rfl rfl ?_; simp only [frz_siteCs, frzE, frzM, frzA, frzL, frzO, frz_sl, frz_span, frz_pile, frz_row, frz_pair, frz_site, List.map_cons, List.map_nil, List.set_cons_zero, List.set_cons_succ, Nat.reduceEqDiff, if_true, if_false, and_self, Nat.reduceLT, Nat.reduceLeDiff, reduceIte, Nat.le_refl])
  repeat' (first | ((first | refine o1 rfl ?_ | refine o0 rfl ?_); intro k hk; simp (disch := omega) only [ev0, sl_cells, simprocAttr, siteCs, slOf]; refine hk _ _ ?_; clear hk k) | refine ono rfl ?_ | (apply ocall; (case he => (simp only [ev0, sl_cells, simprocAttr] <;> rfl)); (case hc => first | exact containsFunc hG fn_slices_ContainsFunc_int (by decide) fn_slices_IndexFunc_int (by decide) intCs (fun _ => rfl) (fun _ => rfl) (fun _ => rfl) plan (by omega) (fi := []) (ca := [.tptr [.tptr (siteCs s th) 0] 0]) rfl rfl (fun b => !decide (0 ≤ b ∧ b ≤ 2 ^ s.piles.length - 1)) (fun b _ => pile_site_planned_1 hG s th b hn)); (case ht => rfl); (case hg => rfl)) | ((first | refine osplitG rfl (fun h => ?_) (fun h => ?_) | refine osplitB rfl (fun h => ?_) (fun h => ?_)) <;> (fail_if_success (simp only [eq_self, reduceCtorEq] at h))) | refine onx ?_ | refine onb ?_ | refine sreg ?_ | refine qT rfl ?_ | refine qF rfl ?_ | refine scondT rfl ?_ | refine scondF rfl ?_ | refine ocondP rfl (fun h => ?_) (fun h => ?_) | refine ocondB rfl (fun h => ?_) (fun h => ?_) | refine scondP rfl (fun h => ?_) (fun h => ?_) | refine scond rfl (fun h => ?_) (fun h => ?_) | refine oskip ?_ | refine oskipb ?_ | refine oret ?_ | refine sem_ret ?_ | refine sem_seq ?_ | refine sreg1 ?_)
  · refine ⟨_, rfl, _, rfl, tree_eq rfl ?_⟩
    simp only [getE, selE, Nat.reduceBEq]
    refine congrArg AV.bool ?_
    have : plan.length = th.length := by omega
    rw [any_not, Bool.not_not]
    exact decide_eq_decide.2 (by unfold planOk; simp only [this, true_and])
  · refine ⟨_, rfl, _, rfl, tree_eq rfl ?_⟩
    simp only [getE, selE, Nat.reduceBEq]
    exact congrArg AV.bool (decide_eq_false (fun hh => h (by have := hh.1; omega))).symm

theorem pile_carries' (p : Pile) (hp : p.ok) (t : Int) (ht : 0 ≤ t ∧ t ≤ 50000) : Holds Tryd.prog G F.pile_carries [.agg p.cs, I t] (I (carr p t)) := pile_carries hG p hp t ht


omit hG in
theorem carr_bound {p : Pile} (hp : p.ok) {t : Int} (ht : 0 ≤ t ∧ t ≤ 50000) : 0 ≤ carr p t ∧ carr p t ≤ 600000 := by
  obtain ⟨⟨a1, a2⟩, ⟨b1, b2⟩, ⟨c1, c2⟩, -⟩ := hp
  have m1 : 0 ≤ max 0 (p.depth - t) := by omega
  have m2 : max 0 (p.depth - t) ≤ 50000 := by omega
  have m3 : 0 ≤ p.skin * max 0 (p.depth - t) := Int.mul_nonneg c1 m1
  have m4 : p.skin * max 0 (p.depth - t) ≤ 10000 * 50000 := Int.mul_le_mul c2 m2 m1 (by omega)
  unfold carr
  omega

theorem pile_site_row (s : PileSite) (th : List (List Span)) (hs : s.ok) (p : Pile) (hp : p.ok) (t load : Int) (ht : 0 ≤ t ∧ t ≤ 50000) (hl : 0 ≤ load ∧ load ≤ 100000) :
    Holds Tryd.prog G F.pile_site_row [.tptr (siteCs s th) 0, .agg p.cs, I t, I load] (.tup [.agg (rowOf s p t load).1.cs, B (rowOf s p t load).2]) := by
  obtain ⟨hc1, hc2⟩ := carr_bound hp ht
  have hrl : 1 ≤ s.rows.length ∧ s.rows.length ≤ 6 := hs.2.2.2.1
  have hi1 : ((s.rows.length : Int) - 1).toNat = s.rows.length - 1 := by omega
  (refine holds_of_sem hG fn_pile_site_row (by simp) fun w0 S0 hG0 D0 => ?_; unfold c_pile_site_row cval enterEnv; simp only [List.zipIdx_cons, List.zipIdx_nil, List.map_cons, List.map_nil, Nat.zero_add, Nat.reduceAdd])
  by_cases hc0 : 0 < carr p t
  · have hne : ¬ carr p t = 0 := by omega
    have hq : (1000 * load + carr p t - 1).tdiv (carr p t) = needs p t load := Int.tdiv_eq_ediv_of_nonneg (by omega)
    have hn1 : 0 ≤ needs p t load := Int.ediv_nonneg (by omega) (by omega)
    have hn2 : needs p t load ≤ 1000 * load + carr p t - 1 := Int.ediv_le_self _ (by omega)
    repeat' (first | ((first | refine o1 rfl ?_ | refine o0 rfl ?_); intro k hk; simp (disch := omega) only [ev0, sl_cells, simprocAttr, Pile.cs, hc0, hne, hq, siteCs, slOf]; refine hk _ _ ?_; clear hk k) | refine ono rfl ?_ | (apply ocall; (case he => (simp only [ev0, sl_cells, simprocAttr] <;> rfl)); (case hc => first | exact pile_carries' hG p hp t ht); (case ht => rfl); (case hg => rfl)) | ((first | refine osplitG rfl (fun h => ?_) (fun h => ?_) | refine osplitB rfl (fun h => ?_) (fun h => ?_)) <;> (fail_if_success (simp only [eq_self, reduceCtorEq] at h))) | refine onx ?_ | refine onb ?_ | refine sreg ?_ | refine qT rfl ?_ | refine qF rfl ?_ | refine scondT rfl ?_ | refine scondF rfl ?_ | refine ocondP rfl (fun h => ?_) (fun h => ?_) | refine ocondB rfl (fun h => ?_) (fun h => ?_) | refine scondP rfl (fun h => ?_) (fun h => ?_) | refine scond rfl (fun h => ?_) (fun h => ?_) | refine oskip ?_ | refine oskipb ?_ | refine oret ?_ | refine sem_ret ?_ | refine sem_seq ?_ | refine sreg1 ?_)
    refine sem_block ?_
    refine sem_loop (α := Nat) (fun i => ⟨[(0, .tptr (siteCs s th) 0), (8, .ptr 1 0 3 0 0), (11, I (needs p t load)), (30, slOf PileRow.cs s.rows), (31, I s.rows.length), (32, I i)], [.row 55 0 7 [p.cs], .row 137 0 3 [[.int .i64 0, .int .i64 0, .int .i64 0]]]⟩)
      (fun i => i ≤ s.rows.length ∧ ∀ j, j < i → ∀ r, s.rows[j]? = some r → ¬ needs p t load ≤ r.use) (fun i => s.rows.length - i) 0 ⟨Nat.zero_le _, fun j hj => absurd hj (Nat.not_lt_zero _)⟩ ?_ ?_
    · (refine Le.same ?_; simp only [List.forall_mem_cons, List.forall_mem_nil, getE, selE, Nat.reduceBEq, List.not_mem_nil, false_implies, implies_true, and_true, true_and, and_self])
      simp [slOf, siteCs]
    · rintro i ⟨hi, hall⟩
      skip
      repeat' (first | ((first | refine o1 rfl ?_ | refine o0 rfl ?_); intro k hk; simp (disch := omega) only [ev0, sl_cells, simprocAttr, slOf, PileRow.cs]; refine hk _ _ ?_; clear hk k) | refine ono rfl ?_ | ((first | refine osplitG rfl (fun h => ?_) (fun h => ?_) | refine osplitB rfl (fun h => ?_) (fun h => ?_)) <;> (fail_if_success (simp only [eq_self, reduceCtorEq] at h))) | refine onx ?_ | refine onb ?_ | refine sreg ?_ | refine qT rfl ?_ | refine qF rfl ?_ | refine scondT rfl ?_ | refine scondF rfl ?_ | refine ocondP rfl (fun h => ?_) (fun h => ?_) | refine ocondB rfl (fun h => ?_) (fun h => ?_) | refine scondP rfl (fun h => ?_) (fun h => ?_) | refine scond rfl (fun h => ?_) (fun h => ?_) | refine oskip ?_ | refine oskipb ?_ | refine oret ?_ | refine sem_ret ?_ | refine sem_seq ?_ | refine sreg1 ?_)
      · have hg : s.rows.getD i default = s.rows[i] := getD_lt (by omega)
        refine sem_block ?_
        repeat' (first | ((first | refine o1 rfl ?_ | refine o0 rfl ?_); intro k hk; simp (disch := omega) only [ev0, sl_cells, simprocAttr, slOf, PileRow.cs, hg]; refine hk _ _ ?_; clear hk k) | refine ono rfl ?_ | ((first | refine osplitG rfl (fun h => ?_) (fun h => ?_) | refine osplitB rfl (fun h => ?_) (fun h => ?_)) <;> (fail_if_success (simp only [eq_self, reduceCtorEq] at h))) | refine onx ?_ | refine onb ?_ | refine sreg ?_ | refine qT rfl ?_ | refine qF rfl ?_ | refine scondT rfl ?_ | refine scondF rfl ?_ | refine ocondP rfl (fun h => ?_) (fun h => ?_) | refine ocondB rfl (fun h => ?_) (fun h => ?_) | refine scondP rfl (fun h => ?_) (fun h => ?_) | refine scond rfl (fun h => ?_) (fun h => ?_) | refine oskip ?_ | refine oskipb ?_ | refine oret ?_ | refine sem_ret ?_ | refine sem_seq ?_ | refine sreg1 ?_)
        · rename_i h
          have hf : s.rows.find? (fun r => decide (needs p t load ≤ r.use)) = some s.rows[i] := find_first (by omega) (by simpa using h) (fun j hj r hr => by simpa using hall j hj r hr)
          have hr : rowOf s p t load = (s.rows[i], false) := by simp only [rowOf, if_pos hc0, hf]
          exact ⟨_, rfl, _, rfl, tree_eq rfl (by rw [hr]; rfl)⟩
        · rename_i h
          refine onil (lnext (i + 1) ⟨by omega, fun j hj r hr => ?_⟩ (by omega) ?_)
          · by_cases hji : j = i
            · subst hji
              rw [List.getElem?_eq_getElem (by omega)] at hr; cases hr; exact h
            · exact hall j (by omega) r hr
          · (refine Le.drop ?_ rfl (by simp) rfl rfl; simp only [List.forall_mem_cons, List.forall_mem_nil, getE, selE, Nat.reduceBEq, List.not_mem_nil, false_implies, implies_true, and_true, true_and, and_self])
            simp [slOf, Pile.cs]
      · have hi' : i = s.rows.length := by omega
        subst hi'
        have hf : s.rows.find? (fun r => decide (needs p t load ≤ r.use)) = none := find_none (fun j hj r hr => by simpa using hall j hj r hr)
        have hr : rowOf s p t load = (lastRow s, true) := by simp only [rowOf, if_pos hc0, hf]
        refine sem_exit ?_
        change sem _ _ _ _ _
        refine sem_seq ?_
        (refine sem_dgo 12 hmix (by kernel_rfl) ?_; simp only [List.take_succ_cons, List.take_zero, List.drop_succ_cons, List.drop_zero, List.take_nil, List.drop_nil])
        repeat (first | (apply dop; (case hg => (simp only [wv, simprocAttr]; done)); (case hq => rfl); intro k hk; simp (disch := omega) only [stepThen, ev0, sl_cells, simprocAttr, siteCs, slOf, PileRow.cs]; refine hk _ _ ?_; clear hk k) | (apply dop0; (case hg => (simp only [wv, simprocAttr]; done)); (case hq => rfl); intro k hk; simp (disch := omega) only [stepThen, ev0, sl_cells, simprocAttr, siteCs, slOf, PileRow.cs]; refine hk _ _ ?_; clear hk k) | (apply dno; (case hg => (simp only [wv, simprocAttr]; done))) | (apply dbox; (case hg => (simp only [wv, simprocAttr]; done)); (case hall => rfl); simp only [cellsOf, List.length_cons, List.length_nil, Nat.reduceAdd, Nat.zero_add]) | apply dnil0 | (apply dnil1; simp only [List.cons_append, List.nil_append]))
        repeat' (first | ((first | refine o1 rfl ?_ | refine o0 rfl ?_); intro k hk; simp (disch := omega) only [ev0, sl_cells, simprocAttr, siteCs, slOf, hi1, PileRow.cs]; refine hk _ _ ?_; clear hk k) | refine ono rfl ?_ | ((first | refine osplitG rfl (fun h => ?_) (fun h => ?_) | refine osplitB rfl (fun h => ?_) (fun h => ?_)) <;> (fail_if_success (simp only [eq_self, reduceCtorEq] at h))) | refine onx ?_ | refine onb ?_ | refine sreg ?_ | refine qT rfl ?_ | refine qF rfl ?_ | refine scondT rfl ?_ | refine scondF rfl ?_ | refine ocondP rfl (fun h => ?_) (fun h => ?_) | refine ocondB rfl (fun h => ?_) (fun h => ?_) | refine scondP rfl (fun h => ?_) (fun h => ?_) | refine scond rfl (fun h => ?_) (fun h => ?_) | refine oskip ?_ | refine oskipb ?_ | refine oret ?_ | refine sem_ret ?_ | refine sem_seq ?_ | refine sreg1 ?_)
        exact ⟨_, rfl, _, rfl, tree_eq rfl (by rw [hr]; rfl)⟩
  · have hr : rowOf s p t load = (lastRow s, true) := by simp only [rowOf, if_neg hc0]
    repeat' (first | ((first | refine o1 rfl ?_ | refine o0 rfl ?_); intro k hk; simp (disch := omega) only [ev0, sl_cells, simprocAttr, Pile.cs, hc0, siteCs, slOf]; refine hk _ _ ?_; clear hk k) | refine ono rfl ?_ | (apply ocall; (case he => (simp only [ev0, sl_cells, simprocAttr] <;> rfl)); (case hc => first | exact pile_carries' hG p hp t ht); (case ht => rfl); (case hg => rfl)) | ((first | refine osplitG rfl (fun h => ?_) (fun h => ?_) | refine osplitB rfl (fun h => ?_) (fun h => ?_)) <;> (fail_if_success (simp only [eq_self, reduceCtorEq] at h))) | refine onx ?_ | refine onb ?_ | refine sreg ?_ | refine qT rfl ?_ | refine qF rfl ?_ | refine scondT rfl ?_ | refine scondF rfl ?_ | refine ocondP rfl (fun h => ?_) (fun h => ?_) | refine ocondB rfl (fun h => ?_) (fun h => ?_) | refine scondP rfl (fun h => ?_) (fun h => ?_) | refine scond rfl (fun h => ?_) (fun h => ?_) | refine oskip ?_ | refine oskipb ?_ | refine oret ?_ | refine sem_ret ?_ | refine sem_seq ?_ | refine sreg1 ?_)
    (refine sem_dgo 12 hmix (by kernel_rfl) ?_; simp only [List.take_succ_cons, List.take_zero, List.drop_succ_cons, List.drop_zero, List.take_nil, List.drop_nil])
    repeat (first | (apply dop; (case hg => (simp only [wv, simprocAttr]; done)); (case hq => rfl); intro k hk; simp (disch := omega) only [stepThen, ev0, sl_cells, simprocAttr, siteCs, slOf, PileRow.cs]; refine hk _ _ ?_; clear hk k) | (apply dop0; (case hg => (simp only [wv, simprocAttr]; done)); (case hq => rfl); intro k hk; simp (disch := omega) only [stepThen, ev0, sl_cells, simprocAttr, siteCs, slOf, PileRow.cs]; refine hk _ _ ?_; clear hk k) | (apply dno; (case hg => (simp only [wv, simprocAttr]; done))) | (apply dbox; (case hg => (simp only [wv, simprocAttr]; done)); (case hall => rfl); simp only [cellsOf, List.length_cons, List.length_nil, Nat.reduceAdd, Nat.zero_add]) | apply dnil0 | (apply dnil1; simp only [List.cons_append, List.nil_append]))
    repeat' (first | ((first | refine o1 rfl ?_ | refine o0 rfl ?_); intro k hk; simp (disch := omega) only [ev0, sl_cells, simprocAttr, siteCs, slOf, hi1, PileRow.cs]; refine hk _ _ ?_; clear hk k) | refine ono rfl ?_ | ((first | refine osplitG rfl (fun h => ?_) (fun h => ?_) | refine osplitB rfl (fun h => ?_) (fun h => ?_)) <;> (fail_if_success (simp only [eq_self, reduceCtorEq] at h))) | refine onx ?_ | refine onb ?_ | refine sreg ?_ | refine qT rfl ?_ | refine qF rfl ?_ | refine scondT rfl ?_ | refine scondF rfl ?_ | refine ocondP rfl (fun h => ?_) (fun h => ?_) | refine ocondB rfl (fun h => ?_) (fun h => ?_) | refine scondP rfl (fun h => ?_) (fun h => ?_) | refine scond rfl (fun h => ?_) (fun h => ?_) | refine oskip ?_ | refine oskipb ?_ | refine oret ?_ | refine sem_ret ?_ | refine sem_seq ?_ | refine sreg1 ?_)
    exact ⟨_, rfl, _, rfl, tree_eq rfl (by rw [hr]; rfl)⟩
end Go.Proofs.YtibgfmhddcibcaaDoor

set_option linter.unusedVariables false
set_option linter.unusedSimpArgs false
set_option maxRecDepth 8000
namespace Go.Tk
open Go Go.Av
def lowOf (s : PileSite) (th : List (List Span)) (y i : Nat) : Int := (rowOf s (s.piles.getD i default) ((th.getD y default).getD i default).high (s.piles.getD i default).load.high).1.settle.high
def highOf (s : PileSite) (th : List (List Span)) (y i : Nat) : Int := (rowOf s (s.piles.getD i default) ((th.getD y default).getD i default).low (s.piles.getD i default).load.low).1.settle.low
end Go.Tk
namespace Go.Proofs.YtibgfmhddcibcaaDoor
open Go Go.Av Go.Tk
attribute [local irreducible] Holds sem semL ACalls FnIs
variable {G : World → Prop} (hG : ∀ w w', G w → RowKit.Below w.heap.size w w' → G w')
include hG

omit hG in
theorem thaw_at {s : PileSite} {th : List (List Span)} (ht : thawsOk s th) {y i : Nat} (hy : y < th.length) (hi : i < s.piles.length) : (th.getD y default).length = s.piles.length ∧ ((th.getD y default).getD i default).in 0 50000 := by
  have e : th.getD y default = th[y] := getD_lt hy
  have h := ht th[y] (List.getElem_mem _)
  have e2 : th[y].getD i default = th[y][i]'(by omega) := getD_lt (by omega)
  rw [e, e2]
  exact ⟨h.1, h.2 _ (List.getElem_mem _)⟩

omit hG in
theorem pile_at {s : PileSite} (hs : s.ok) {i : Nat} (hi : i < s.piles.length) : (s.piles.getD i default).ok := by
  rw [getD_lt hi]; exact hs.2.2.2.2.2.2.2.1 _ (List.getElem_mem _)

theorem pile_site_low (s : PileSite) (th : List (List Span)) (hs : s.ok) (ht : thawsOk s th) (y i : Nat) (hy : y < th.length) (hi : i < s.piles.length) :
    Holds Tryd.prog G F.pile_site_low [.tptr (siteCs s th) 0, I y, I i] (I (lowOf s th y i)) := by
  obtain ⟨hlen, hx⟩ := thaw_at ht hy hi
  have hp := pile_at hs hi
  (refine holds_of_sem hG fn_pile_site_low (by simp) fun w0 S0 hG0 D0 => ?_; unfold c_pile_site_low cval enterEnv; simp only [List.zipIdx_cons, List.zipIdx_nil, List.map_cons, List.map_nil, Nat.zero_add, Nat.reduceAdd])
  repeat' (first | ((first | refine o1 rfl ?_ | refine o0 rfl ?_); intro k hk; simp (disch := omega) only [ev0, sl_cells, simprocAttr, siteCs, slOf, Pile.cs]; refine hk _ _ ?_; clear hk k) | refine ono rfl ?_ | ((first | refine osplitG rfl (fun h => ?_) (fun h => ?_) | refine osplitB rfl (fun h => ?_) (fun h => ?_)) <;> (fail_if_success (simp only [eq_self, reduceCtorEq] at h))) | refine onx ?_ | refine onb ?_ | refine sreg ?_ | refine qT rfl ?_ | refine qF rfl ?_ | refine scondT rfl ?_ | refine scondF rfl ?_ | refine ocondP rfl (fun h => ?_) (fun h => ?_) | refine ocondB rfl (fun h => ?_) (fun h => ?_) | refine scondP rfl (fun h => ?_) (fun h => ?_) | refine scond rfl (fun h => ?_) (fun h => ?_) | refine oskip ?_ | refine oskipb ?_ | refine oret ?_ | refine sem_ret ?_ | refine sem_seq ?_ | refine sreg1 ?_)
  (refine sem_mgo 22 hmix (by kernel_rfl) ?_; simp only [List.take_succ_cons, List.take_zero, List.drop_succ_cons, List.drop_zero, List.take_nil, List.drop_nil])
  repeat' (first | ((first | apply mop | apply mop0); (case hg => rfl); (case hq => rfl); intro k hk; simp (disch := omega) only [ev0, sl_cells, simprocAttr, siteCs, slOf, Pile.cs, Span.cs, spansCs]; refine hk _ _ rfl ?_; clear hk k) | (apply mno; (case hg => rfl)) | (apply mcall; (case he => (simp only [ev0, sl_cells, simprocAttr] <;> rfl)); (case hc => first | exact pile_site_row hG s th hs _ hp _ _ (by omega) (by omega)); (case ht => rfl); (case hg => rfl); (case hr => rfl)) | (apply mbox; (case hx => (simp only [wv, simprocAttr] <;> rfl)); (case hg => rfl); (case hall => rfl); (case hr => rfl); simp only [cellsOf, List.length_cons, List.length_nil, Nat.reduceAdd, Nat.zero_add, List.nil_append, List.cons_append, List.set_cons_zero, List.set_cons_succ, chunks, List.take_succ_cons, List.take_zero, List.drop_succ_cons, List.drop_zero]) | (apply mbldS; (case hb => (simp (disch := omega) only [ev0, sl_cells, simprocAttr] <;> rfl)); (case hg => rfl); (case hr => rfl); simp only [cellsOf, List.length_cons, List.length_nil, Nat.reduceAdd, Nat.zero_add, List.nil_append, List.cons_append, List.set_cons_zero, List.set_cons_succ, chunks, List.take_succ_cons, List.take_zero, List.drop_succ_cons, List.drop_zero]) | ((first | (apply msto (q := 0); (case hq => rfl)) | (apply msto (q := 1); (case hq => rfl)) | (apply msto (q := 2); (case hq => rfl)) | (apply msto (q := 3); (case hq => rfl))); (case hx => (simp only [wv, simprocAttr] <;> rfl)); (case haddr => (simp only [wv, simprocAttr] <;> rfl)); (case hg => rfl); (case hl1 => rfl); (case hl2 => rfl); (case hok => rfl); (case hr => rfl); simp only [cellsOf, List.length_cons, List.length_nil, Nat.reduceAdd, Nat.zero_add, List.nil_append, List.cons_append, List.set_cons_zero, List.set_cons_succ, chunks, List.take_succ_cons, List.take_zero, List.drop_succ_cons, List.drop_zero]) | (apply mnil; simp only [SlotR.fin, List.map_cons, List.map_nil, List.cons_append, List.nil_append, List.append_nil]) | (refine msplit rfl (fun h => ?_) (fun h => ?_) <;> simp only [h] <;> (try simp only [Bool.not_eq_true', Bool.not_eq_false', decide_eq_true_eq, decide_eq_false_iff_not] at h)))
  repeat' (first | ((first | refine o1 rfl ?_ | refine o0 rfl ?_); intro k hk; simp (disch := omega) only [ev0, sl_cells, simprocAttr, siteCs, slOf, Pile.cs]; refine hk _ _ ?_; clear hk k) | refine ono rfl ?_ | ((first | refine osplitG rfl (fun h => ?_) (fun h => ?_) | refine osplitB rfl (fun h => ?_) (fun h => ?_)) <;> (fail_if_success (simp only [eq_self, reduceCtorEq] at h))) | refine onx ?_ | refine onb ?_ | refine sreg ?_ | refine qT rfl ?_ | refine qF rfl ?_ | refine scondT rfl ?_ | refine scondF rfl ?_ | refine ocondP rfl (fun h => ?_) (fun h => ?_) | refine ocondB rfl (fun h => ?_) (fun h => ?_) | refine scondP rfl (fun h => ?_) (fun h => ?_) | refine scond rfl (fun h => ?_) (fun h => ?_) | refine oskip ?_ | refine oskipb ?_ | refine oret ?_ | refine sem_ret ?_ | refine sem_seq ?_ | refine sreg1 ?_)
  exact ⟨_, rfl, _, rfl, tree_eq rfl rfl⟩
theorem pile_site_high (s : PileSite) (th : List (List Span)) (hs : s.ok) (ht : thawsOk s th) (y i : Nat) (hy : y < th.length) (hi : i < s.piles.length) :
    Holds Tryd.prog G F.pile_site_high [.tptr (siteCs s th) 0, I y, I i] (I (highOf s th y i)) := by
  obtain ⟨hlen, hx⟩ := thaw_at ht hy hi
  have hp := pile_at hs hi
  (refine holds_of_sem hG fn_pile_site_high (by simp) fun w0 S0 hG0 D0 => ?_; unfold c_pile_site_high cval enterEnv; simp only [List.zipIdx_cons, List.zipIdx_nil, List.map_cons, List.map_nil, Nat.zero_add, Nat.reduceAdd])
  repeat' (first | ((first | refine o1 rfl ?_ | refine o0 rfl ?_); intro k hk; simp (disch := omega) only [ev0, sl_cells, simprocAttr, siteCs, slOf, Pile.cs]; refine hk _ _ ?_; clear hk k) | refine ono rfl ?_ | ((first | refine osplitG rfl (fun h => ?_) (fun h => ?_) | refine osplitB rfl (fun h => ?_) (fun h => ?_)) <;> (fail_if_success (simp only [eq_self, reduceCtorEq] at h))) | refine onx ?_ | refine onb ?_ | refine sreg ?_ | refine qT rfl ?_ | refine qF rfl ?_ | refine scondT rfl ?_ | refine scondF rfl ?_ | refine ocondP rfl (fun h => ?_) (fun h => ?_) | refine ocondB rfl (fun h => ?_) (fun h => ?_) | refine scondP rfl (fun h => ?_) (fun h => ?_) | refine scond rfl (fun h => ?_) (fun h => ?_) | refine oskip ?_ | refine oskipb ?_ | refine oret ?_ | refine sem_ret ?_ | refine sem_seq ?_ | refine sreg1 ?_)
  (refine sem_mgo 22 hmix (by kernel_rfl) ?_; simp only [List.take_succ_cons, List.take_zero, List.drop_succ_cons, List.drop_zero, List.take_nil, List.drop_nil])
  repeat' (first | ((first | apply mop | apply mop0); (case hg => rfl); (case hq => rfl); intro k hk; simp (disch := omega) only [ev0, sl_cells, simprocAttr, siteCs, slOf, Pile.cs, Span.cs, spansCs]; refine hk _ _ rfl ?_; clear hk k) | (apply mno; (case hg => rfl)) | (apply mcall; (case he => (simp only [ev0, sl_cells, simprocAttr] <;> rfl)); (case hc => first | exact pile_site_row hG s th hs _ hp _ _ (by omega) (by omega)); (case ht => rfl); (case hg => rfl); (case hr => rfl)) | (apply mbox; (case hx => (simp only [wv, simprocAttr] <;> rfl)); (case hg => rfl); (case hall => rfl); (case hr => rfl); simp only [cellsOf, List.length_cons, List.length_nil, Nat.reduceAdd, Nat.zero_add, List.nil_append, List.cons_append, List.set_cons_zero, List.set_cons_succ, chunks, List.take_succ_cons, List.take_zero, List.drop_succ_cons, List.drop_zero]) | (apply mbldS; (case hb => (simp (disch := omega) only [ev0, sl_cells, simprocAttr] <;> rfl)); (case hg => rfl); (case hr => rfl); simp only [cellsOf, List.length_cons, List.length_nil, Nat.reduceAdd, Nat.zero_add, List.nil_append, List.cons_append, List.set_cons_zero, List.set_cons_succ, chunks, List.take_succ_cons, List.take_zero, List.drop_succ_cons, List.drop_zero]) | ((first | (apply msto (q := 0); (case hq => rfl)) | (apply msto (q := 1); (case hq => rfl)) | (apply msto (q := 2); (case hq => rfl)) | (apply msto (q := 3); (case hq => rfl))); (case hx => (simp only [wv, simprocAttr] <;> rfl)); (case haddr => (simp only [wv, simprocAttr] <;> rfl)); (case hg => rfl); (case hl1 => rfl); (case hl2 => rfl); (case hok => rfl); (case hr => rfl); simp only [cellsOf, List.length_cons, List.length_nil, Nat.reduceAdd, Nat.zero_add, List.nil_append, List.cons_append, List.set_cons_zero, List.set_cons_succ, chunks, List.take_succ_cons, List.take_zero, List.drop_succ_cons, List.drop_zero]) | (apply mnil; simp only [SlotR.fin, List.map_cons, List.map_nil, List.cons_append, List.nil_append, List.append_nil]) | (refine msplit rfl (fun h => ?_) (fun h => ?_) <;> simp only [h] <;> (try simp only [Bool.not_eq_true', Bool.not_eq_false', decide_eq_true_eq, decide_eq_false_iff_not] at h)))
  repeat' (first | ((first | refine o1 rfl ?_ | refine o0 rfl ?_); intro k hk; simp (disch := omega) only [ev0, sl_cells, simprocAttr, siteCs, slOf, Pile.cs]; refine hk _ _ ?_; clear hk k) | refine ono rfl ?_ | ((first | refine osplitG rfl (fun h => ?_) (fun h => ?_) | refine osplitB rfl (fun h => ?_) (fun h => ?_)) <;> (fail_if_success (simp only [eq_self, reduceCtorEq] at h))) | refine onx ?_ | refine onb ?_ | refine sreg ?_ | refine qT rfl ?_ | refine qF rfl ?_ | refine scondT rfl ?_ | refine scondF rfl ?_ | refine ocondP rfl (fun h => ?_) (fun h => ?_) | refine ocondB rfl (fun h => ?_) (fun h => ?_) | refine scondP rfl (fun h => ?_) (fun h => ?_) | refine scond rfl (fun h => ?_) (fun h => ?_) | refine oskip ?_ | refine oskipb ?_ | refine oret ?_ | refine sem_ret ?_ | refine sem_seq ?_ | refine sreg1 ?_)
  exact ⟨_, rfl, _, rfl, tree_eq rfl rfl⟩

theorem pile_site_fails (s : PileSite) (th : List (List Span)) (hs : s.ok) (ht : thawsOk s th) (y i : Nat) (hy : y < th.length) (hi : i < s.piles.length) :
    Holds Tryd.prog G F.pile_site_fails [.tptr (siteCs s th) 0, I y, I i] (B (rowOf s (s.piles.getD i default) ((th.getD y default).getD i default).high (s.piles.getD i default).load.high).2) := by
  obtain ⟨hlen, hx⟩ := thaw_at ht hy hi
  have hp := pile_at hs hi
  (refine holds_of_sem hG fn_pile_site_fails (by simp) fun w0 S0 hG0 D0 => ?_; unfold c_pile_site_fails cval enterEnv; simp only [List.zipIdx_cons, List.zipIdx_nil, List.map_cons, List.map_nil, Nat.zero_add, Nat.reduceAdd])
  repeat' (first | ((first | refine o1 rfl ?_ | refine o0 rfl ?_); intro k hk; simp (disch := omega) only [ev0, sl_cells, simprocAttr, siteCs, slOf, Pile.cs]; refine hk _ _ ?_; clear hk k) | refine ono rfl ?_ | ((first | refine osplitG rfl (fun h => ?_) (fun h => ?_) | refine osplitB rfl (fun h => ?_) (fun h => ?_)) <;> (fail_if_success (simp only [eq_self, reduceCtorEq] at h))) | refine onx ?_ | refine onb ?_ | refine sreg ?_ | refine qT rfl ?_ | refine qF rfl ?_ | refine scondT rfl ?_ | refine scondF rfl ?_ | refine ocondP rfl (fun h => ?_) (fun h => ?_) | refine ocondB rfl (fun h => ?_) (fun h => ?_) | refine scondP rfl (fun h => ?_) (fun h => ?_) | refine scond rfl (fun h => ?_) (fun h => ?_) | refine oskip ?_ | refine oskipb ?_ | refine oret ?_ | refine sem_ret ?_ | refine sem_seq ?_ | refine sreg1 ?_)
  (refine sem_mgo 22 hmix (by kernel_rfl) ?_; simp only [List.take_succ_cons, List.take_zero, List.drop_succ_cons, List.drop_zero, List.take_nil, List.drop_nil])
  repeat' (first | ((first | apply mop | apply mop0); (case hg => rfl); (case hq => rfl); intro k hk; simp (disch := omega) only [ev0, sl_cells, simprocAttr, siteCs, slOf, Pile.cs, Span.cs, spansCs]; refine hk _ _ rfl ?_; clear hk k) | (apply mno; (case hg => rfl)) | (apply mcall; (case he => (simp only [ev0, sl_cells, simprocAttr] <;> rfl)); (case hc => first | exact pile_site_row hG s th hs _ hp _ _ (by omega) (by omega)); (case ht => rfl); (case hg => rfl); (case hr => rfl)) | (apply mbox; (case hx => (simp only [wv, simprocAttr] <;> rfl)); (case hg => rfl); (case hall => rfl); (case hr => rfl); simp only [cellsOf, List.length_cons, List.length_nil, Nat.reduceAdd, Nat.zero_add, List.nil_append, List.cons_append, List.set_cons_zero, List.set_cons_succ, chunks, List.take_succ_cons, List.take_zero, List.drop_succ_cons, List.drop_zero]) | (apply mbldS; (case hb => (simp (disch := omega) only [ev0, sl_cells, simprocAttr] <;> rfl)); (case hg => rfl); (case hr => rfl); simp only [cellsOf, List.length_cons, List.length_nil, Nat.reduceAdd, Nat.zero_add, List.nil_append, List.cons_append, List.set_cons_zero, List.set_cons_succ, chunks, List.take_succ_cons, List.take_zero, List.drop_succ_cons, List.drop_zero]) | ((first | (apply msto (q := 0); (case hq => rfl)) | (apply msto (q := 1); (case hq => rfl)) | (apply msto (q := 2); (case hq => rfl)) | (apply msto (q := 3); (case hq => rfl))); (case hx => (simp only [wv, simprocAttr] <;> rfl)); (case haddr => (simp only [wv, simprocAttr] <;> rfl)); (case hg => rfl); (case hl1 => rfl); (case hl2 => rfl); (case hok => rfl); (case hr => rfl); simp only [cellsOf, List.length_cons, List.length_nil, Nat.reduceAdd, Nat.zero_add, List.nil_append, List.cons_append, List.set_cons_zero, List.set_cons_succ, chunks, List.take_succ_cons, List.take_zero, List.drop_succ_cons, List.drop_zero]) | (apply mnil; simp only [SlotR.fin, List.map_cons, List.map_nil, List.cons_append, List.nil_append, List.append_nil]) | (refine msplit rfl (fun h => ?_) (fun h => ?_) <;> simp only [h] <;> (try simp only [Bool.not_eq_true', Bool.not_eq_false', decide_eq_true_eq, decide_eq_false_iff_not] at h)))
  repeat' (first | ((first | refine o1 rfl ?_ | refine o0 rfl ?_); intro k hk; simp (disch := omega) only [ev0, sl_cells, simprocAttr, siteCs, slOf, Pile.cs]; refine hk _ _ ?_; clear hk k) | refine ono rfl ?_ | ((first | refine osplitG rfl (fun h => ?_) (fun h => ?_) | refine osplitB rfl (fun h => ?_) (fun h => ?_)) <;> (fail_if_success (simp only [eq_self, reduceCtorEq] at h))) | refine onx ?_ | refine onb ?_ | refine sreg ?_ | refine qT rfl ?_ | refine qF rfl ?_ | refine scondT rfl ?_ | refine scondF rfl ?_ | refine ocondP rfl (fun h => ?_) (fun h => ?_) | refine ocondB rfl (fun h => ?_) (fun h => ?_) | refine scondP rfl (fun h => ?_) (fun h => ?_) | refine scond rfl (fun h => ?_) (fun h => ?_) | refine oskip ?_ | refine oskipb ?_ | refine oret ?_ | refine sem_ret ?_ | refine sem_seq ?_ | refine sreg1 ?_)
  exact ⟨_, rfl, _, rfl, tree_eq rfl rfl⟩
end Go.Proofs.YtibgfmhddcibcaaDoor

set_option linter.unusedVariables false
set_option linter.unusedSimpArgs false
set_option maxRecDepth 8000
namespace Go.Proofs.YtibgfmhddcibcaaDoor
open Go Go.Av Go.Tk
attribute [local irreducible] Holds sem semL ACalls FnIs
variable {G : World → Prop} (hG : ∀ w w', G w → RowKit.Below w.heap.size w w' → G w')
include hG

theorem ref02_Pile (p : Pile) : Holds Tryd.prog G F.ref02_Pile [.agg p.cs] (B (decide p.ok)) := by
  (refine holds_of_sem hG fn_ref02_Pile (by simp) fun w0 S0 hG0 D0 => ?_; unfold c_ref02_Pile cval enterEnv; simp only [List.zipIdx_cons, List.zipIdx_nil, List.map_cons, List.map_nil, Nat.zero_add, Nat.reduceAdd])
  repeat' (first | ((first | refine o1 rfl ?_ | refine o0 rfl ?_); intro k hk; simp (disch := omega) only [ev0, sl_cells, simprocAttr, Pile.cs]; refine hk _ _ ?_; clear hk k) | refine ono rfl ?_ | (apply ocall; (case he => (simp only [ev0, sl_cells, simprocAttr] <;> rfl)); (case hc => first | exact ref02_in hG _ _ _); (case ht => rfl); (case hg => rfl)) | ((first | refine osplitG rfl (fun h => ?_) (fun h => ?_) | refine osplitB rfl (fun h => ?_) (fun h => ?_)) <;> (fail_if_success (simp only [eq_self, reduceCtorEq] at h))) | refine onx ?_ | refine onb ?_ | refine sreg ?_ | refine qT rfl ?_ | refine qF rfl ?_ | refine scondT rfl ?_ | refine scondF rfl ?_ | refine ocondP rfl (fun h => ?_) (fun h => ?_) | refine ocondB rfl (fun h => ?_) (fun h => ?_) | refine scondP rfl (fun h => ?_) (fun h => ?_) | refine scond rfl (fun h => ?_) (fun h => ?_) | refine oskip ?_ | refine oskipb ?_ | refine oret ?_ | refine sem_ret ?_ | refine sem_seq ?_ | refine sreg1 ?_)
  all_goals exact ⟨_, rfl, _, rfl, tree_eq rfl (by (try simp only [Bool.not_eq_true', Bool.not_eq_false', decide_eq_true_eq, decide_eq_false_iff_not] at *); simp only [getE, selE, Nat.reduceBEq]; apply congrArg AV.bool; rw [Bool.eq_iff_iff]; simp only [decide_eq_true_eq, Bool.not_eq_true', decide_eq_false_iff_not, Bool.false_eq_true, true_iff, false_iff, iff_true, iff_false, not_true_eq_false, not_false_eq_true, Pile.ok, inI, Span.in]; omega)⟩

theorem ref02_Thaw (x : Span) : Holds Tryd.prog G F.ref02_Thaw [.agg x.cs] (B (decide (x.in 0 50000))) := by
  (refine holds_of_sem hG fn_ref02_Thaw (by simp) fun w0 S0 hG0 D0 => ?_; unfold c_ref02_Thaw cval enterEnv; simp only [List.zipIdx_cons, List.zipIdx_nil, List.map_cons, List.map_nil, Nat.zero_add, Nat.reduceAdd])
  repeat' (first | ((first | refine o1 rfl ?_ | refine o0 rfl ?_); intro k hk; simp (disch := omega) only [ev0, sl_cells, simprocAttr, Span.cs]; refine hk _ _ ?_; clear hk k) | refine ono rfl ?_ | ((first | refine osplitG rfl (fun h => ?_) (fun h => ?_) | refine osplitB rfl (fun h => ?_) (fun h => ?_)) <;> (fail_if_success (simp only [eq_self, reduceCtorEq] at h))) | refine onx ?_ | refine onb ?_ | refine sreg ?_ | refine qT rfl ?_ | refine qF rfl ?_ | refine scondT rfl ?_ | refine scondF rfl ?_ | refine ocondP rfl (fun h => ?_) (fun h => ?_) | refine ocondB rfl (fun h => ?_) (fun h => ?_) | refine scondP rfl (fun h => ?_) (fun h => ?_) | refine scond rfl (fun h => ?_) (fun h => ?_) | refine oskip ?_ | refine oskipb ?_ | refine oret ?_ | refine sem_ret ?_ | refine sem_seq ?_ | refine sreg1 ?_)
  all_goals exact ⟨_, rfl, _, rfl, tree_eq rfl (by (try simp only [Bool.not_eq_true', Bool.not_eq_false', decide_eq_true_eq, decide_eq_false_iff_not] at *); simp only [getE, selE, Nat.reduceBEq]; apply congrArg AV.bool; rw [Bool.eq_iff_iff]; simp only [decide_eq_true_eq, Bool.not_eq_true', decide_eq_false_iff_not, Bool.false_eq_true, true_iff, false_iff, iff_true, iff_false, not_true_eq_false, not_false_eq_true, Span.in]; omega)⟩

theorem ref02_Carries (p : Pile) (hp : p.ok) (t : Int) (ht : 0 ≤ t ∧ t ≤ 50000) : Holds Tryd.prog G F.ref02_Carries [.agg p.cs, I t] (I (carr p t)) := by
  obtain ⟨⟨a1, a2⟩, ⟨b1, b2⟩, ⟨c1, c2⟩, -⟩ := hp
  have m1 : 0 ≤ max 0 (p.depth - t) := by omega
  have m2 : max 0 (p.depth - t) ≤ 50000 := by omega
  have m3 : 0 ≤ p.skin * max 0 (p.depth - t) := Int.mul_nonneg c1 m1
  have m4 : p.skin * max 0 (p.depth - t) ≤ 10000 * 50000 := Int.mul_le_mul c2 m2 m1 (by omega)
  have m5 : (p.skin * max 0 (p.depth - t)).tdiv 1000 = p.skin * max 0 (p.depth - t) / 1000 := Int.tdiv_eq_ediv_of_nonneg m3
  unfold carr
  (refine holds_of_sem hG fn_ref02_Carries (by simp) fun w0 S0 hG0 D0 => ?_; unfold c_ref02_Carries cval enterEnv; simp only [List.zipIdx_cons, List.zipIdx_nil, List.map_cons, List.map_nil, Nat.zero_add, Nat.reduceAdd])
  repeat' (first | ((first | refine o1 rfl ?_ | refine o0 rfl ?_); intro k hk; simp (disch := omega) only [ev0, sl_cells, simprocAttr, Pile.cs, mnmx_max, m5]; refine hk _ _ ?_; clear hk k) | refine ono rfl ?_ | ((first | refine osplitG rfl (fun h => ?_) (fun h => ?_) | refine osplitB rfl (fun h => ?_) (fun h => ?_)) <;> (fail_if_success (simp only [eq_self, reduceCtorEq] at h))) | refine onx ?_ | refine onb ?_ | refine sreg ?_ | refine qT rfl ?_ | refine qF rfl ?_ | refine scondT rfl ?_ | refine scondF rfl ?_ | refine ocondP rfl (fun h => ?_) (fun h => ?_) | refine ocondB rfl (fun h => ?_) (fun h => ?_) | refine scondP rfl (fun h => ?_) (fun h => ?_) | refine scond rfl (fun h => ?_) (fun h => ?_) | refine oskip ?_ | refine oskipb ?_ | refine oret ?_ | refine sem_ret ?_ | refine sem_seq ?_ | refine sreg1 ?_)
  all_goals exact ⟨_, rfl, _, rfl, tree_eq rfl (by simp [getE, selE, *])⟩
end Go.Proofs.YtibgfmhddcibcaaDoor

set_option linter.unusedVariables false
set_option linter.unusedSimpArgs false
set_option maxRecDepth 8000
namespace Go.Tk
open Go Go.Av
/-- Has a set this pile? -/
def hasBit (set : Int) (i : Nat) : Bool := decide (set / 2 ^ i % 2 = 1)
end Go.Tk
namespace Go.Proofs.YtibgfmhddcibcaaDoor
open Go Go.Av Go.Tk
attribute [local irreducible] Holds sem semL ACalls FnIs
variable {G : World → Prop} (hG : ∀ w w', G w → RowKit.Below w.heap.size w w' → G w')
include hG

theorem ref02_Jacked (set : Int) (hs : 0 ≤ set ∧ set ≤ 1000000) (n : Nat) (hn : n ≤ 1000) : Holds Tryd.prog G F.ref02_Jacked [I set, I n] (B (hasBit set n)) := by
  have hb : ∀ i : Nat, 0 ≤ set / 2 ^ i ∧ set / 2 ^ i ≤ set := fun i => ⟨Int.ediv_nonneg hs.1 (Int.le_of_lt (Int.pow_pos (by decide))), Int.ediv_le_self _ hs.1⟩
  have hstep : ∀ i : Nat, (set / 2 ^ i).tdiv 2 = set / 2 ^ (i + 1) := fun i => by
    rw [Int.tdiv_eq_ediv_of_nonneg (hb i).1, Int.pow_succ, Int.ediv_ediv_of_nonneg (Int.le_of_lt (Int.pow_pos (by decide)))]
  (refine holds_of_sem hG fn_ref02_Jacked (by simp) fun w0 S0 hG0 D0 => ?_; unfold c_ref02_Jacked cval enterEnv; simp only [List.zipIdx_cons, List.zipIdx_nil, List.map_cons, List.map_nil, Nat.zero_add, Nat.reduceAdd])
  repeat' (first | ((first | refine o1 rfl ?_ | refine o0 rfl ?_); intro k hk; simp (disch := omega) only [ev0, sl_cells, simprocAttr]; refine hk _ _ ?_; clear hk k) | refine ono rfl ?_ | ((first | refine osplitG rfl (fun h => ?_) (fun h => ?_) | refine osplitB rfl (fun h => ?_) (fun h => ?_)) <;> (fail_if_success (simp only [eq_self, reduceCtorEq] at h))) | refine onx ?_ | refine onb ?_ | refine sreg ?_ | refine qT rfl ?_ | refine qF rfl ?_ | refine scondT rfl ?_ | refine scondF rfl ?_ | refine ocondP rfl (fun h => ?_) (fun h => ?_) | refine ocondB rfl (fun h => ?_) (fun h => ?_) | refine scondP rfl (fun h => ?_) (fun h => ?_) | refine scond rfl (fun h => ?_) (fun h => ?_) | refine oskip ?_ | refine oskipb ?_ | refine oret ?_ | refine sem_ret ?_ | refine sem_seq ?_ | refine sreg1 ?_)
  refine sem_block ?_
  refine sem_loop (α := Nat) (fun i => ⟨[(0, I (set / 2 ^ i)), (1, I n), (5, I i)], []⟩) (fun i => i ≤ n) (fun i => n - i) 0 (Nat.zero_le _) ?_ ?_
  · (refine Le.same ?_; simp only [List.forall_mem_cons, List.forall_mem_nil, getE, selE, Nat.reduceBEq, List.not_mem_nil, false_implies, implies_true, and_true, true_and, and_self])
    simp
  · intro i hi
    have hi1 := hb i
    have hi2 := hb (i + 1)
    have hi3 := hstep i
    skip
    repeat' (first | ((first | refine o1 rfl ?_ | refine o0 rfl ?_); intro k hk; simp (disch := omega) only [ev0, sl_cells, simprocAttr, hi3]; refine hk _ _ ?_; clear hk k) | refine ono rfl ?_ | ((first | refine osplitG rfl (fun h => ?_) (fun h => ?_) | refine osplitB rfl (fun h => ?_) (fun h => ?_)) <;> (fail_if_success (simp only [eq_self, reduceCtorEq] at h))) | refine onx ?_ | refine onb ?_ | refine sreg ?_ | refine qT rfl ?_ | refine qF rfl ?_ | refine scondT rfl ?_ | refine scondF rfl ?_ | refine ocondP rfl (fun h => ?_) (fun h => ?_) | refine ocondB rfl (fun h => ?_) (fun h => ?_) | refine scondP rfl (fun h => ?_) (fun h => ?_) | refine scond rfl (fun h => ?_) (fun h => ?_) | refine oskip ?_ | refine oskipb ?_ | refine oret ?_ | refine sem_ret ?_ | refine sem_seq ?_ | refine sreg1 ?_)
    · refine sem_block ?_
      repeat' (first | ((first | refine o1 rfl ?_ | refine o0 rfl ?_); intro k hk; simp (disch := omega) only [ev0, sl_cells, simprocAttr, hi3]; refine hk _ _ ?_; clear hk k) | refine ono rfl ?_ | ((first | refine osplitG rfl (fun h => ?_) (fun h => ?_) | refine osplitB rfl (fun h => ?_) (fun h => ?_)) <;> (fail_if_success (simp only [eq_self, reduceCtorEq] at h))) | refine onx ?_ | refine onb ?_ | refine sreg ?_ | refine qT rfl ?_ | refine qF rfl ?_ | refine scondT rfl ?_ | refine scondF rfl ?_ | refine ocondP rfl (fun h => ?_) (fun h => ?_) | refine ocondB rfl (fun h => ?_) (fun h => ?_) | refine scondP rfl (fun h => ?_) (fun h => ?_) | refine scond rfl (fun h => ?_) (fun h => ?_) | refine oskip ?_ | refine oskipb ?_ | refine oret ?_ | refine sem_ret ?_ | refine sem_seq ?_ | refine sreg1 ?_)
      refine onil (lnext (i + 1) (by omega) (by omega) ?_)
      (refine Le.same ?_; simp only [List.forall_mem_cons, List.forall_mem_nil, getE, selE, Nat.reduceBEq, List.not_mem_nil, false_implies, implies_true, and_true, true_and, and_self])
      simp
    · have hi' : i = n := by omega
      subst hi'
      refine sem_exit ?_
      change sem _ _ _ _ _
      have hm : (set / 2 ^ i).tmod 2 = set / 2 ^ i % 2 := Int.tmod_eq_emod_of_nonneg hi1.1
      repeat' (first | ((first | refine o1 rfl ?_ | refine o0 rfl ?_); intro k hk; simp (disch := omega) only [ev0, sl_cells, simprocAttr, hm]; refine hk _ _ ?_; clear hk k) | refine ono rfl ?_ | ((first | refine osplitG rfl (fun h => ?_) (fun h => ?_) | refine osplitB rfl (fun h => ?_) (fun h => ?_)) <;> (fail_if_success (simp only [eq_self, reduceCtorEq] at h))) | refine onx ?_ | refine onb ?_ | refine sreg ?_ | refine qT rfl ?_ | refine qF rfl ?_ | refine scondT rfl ?_ | refine scondF rfl ?_ | refine ocondP rfl (fun h => ?_) (fun h => ?_) | refine ocondB rfl (fun h => ?_) (fun h => ?_) | refine scondP rfl (fun h => ?_) (fun h => ?_) | refine scond rfl (fun h => ?_) (fun h => ?_) | refine oskip ?_ | refine oskipb ?_ | refine oret ?_ | refine sem_ret ?_ | refine sem_seq ?_ | refine sreg1 ?_)
      exact ⟨_, rfl, _, rfl, tree_eq rfl rfl⟩
end Go.Proofs.YtibgfmhddcibcaaDoor

set_option linter.unusedVariables false
set_option linter.unusedSimpArgs false
set_option maxRecDepth 8000
namespace Go.Proofs.YtibgfmhddcibcaaDoor
open Go Go.Av Go.Tk
attribute [local irreducible] Holds sem semL ACalls FnIs
variable {G : World → Prop} (hG : ∀ w w', G w → RowKit.Below w.heap.size w w' → G w')
include hG

theorem ref02_Row (s : PileSite) (hs : s.ok) (p : Pile) (hp : p.ok) (t load : Int) (ht : 0 ≤ t ∧ t ≤ 50000) (hl : 0 ≤ load ∧ load ≤ 100000) :
    Holds Tryd.prog G F.ref02_Row [.agg s.cs, .agg p.cs, I t, I load] (.agg (rowOf s p t load).1.cs) := by
  obtain ⟨hc1, hc2⟩ := carr_bound hp ht
  have hrl : 1 ≤ s.rows.length ∧ s.rows.length ≤ 6 := hs.2.2.2.1
  have hi1 : ((s.rows.length : Int) - 1).toNat = s.rows.length - 1 := by omega
  have hne : 0 < carr p t → ¬ carr p t = 0 := fun h => by omega
  have hq : 0 < carr p t → (1000 * load + carr p t - 1).tdiv (carr p t) = needs p t load := fun h => Int.tdiv_eq_ediv_of_nonneg (by omega)
  have hn1 : 0 < carr p t → 0 ≤ needs p t load := fun h => Int.ediv_nonneg (by omega) (by omega)
  have hn2 : 0 < carr p t → needs p t load ≤ 1000 * load + carr p t - 1 := fun h => Int.ediv_le_self _ (by omega)
  (refine holds_of_sem hG fn_ref02_Row (by simp) fun w0 S0 hG0 D0 => ?_; unfold c_ref02_Row cval enterEnv; simp only [List.zipIdx_cons, List.zipIdx_nil, List.map_cons, List.map_nil, Nat.zero_add, Nat.reduceAdd])
  repeat' (first | ((first | refine o1 rfl ?_ | refine o0 rfl ?_); intro k hk; simp (disch := omega) only [ev0, sl_cells, simprocAttr, Pile.cs, PileSite.cs, slOf]; refine hk _ _ ?_; clear hk k) | refine ono rfl ?_ | (apply ocall; (case he => (simp only [ev0, sl_cells, simprocAttr] <;> rfl)); (case hc => first | exact ref02_Carries hG p hp t ht); (case ht => rfl); (case hg => rfl)) | ((first | refine osplitG rfl (fun h => ?_) (fun h => ?_) | refine osplitB rfl (fun h => ?_) (fun h => ?_)) <;> (fail_if_success (simp only [eq_self, reduceCtorEq] at h))) | refine onx ?_ | refine onb ?_ | refine sreg ?_ | refine qT rfl ?_ | refine qF rfl ?_ | refine scondT rfl ?_ | refine scondF rfl ?_ | refine ocondP rfl (fun h => ?_) (fun h => ?_) | refine ocondB rfl (fun h => ?_) (fun h => ?_) | refine scondP rfl (fun h => ?_) (fun h => ?_) | refine scond rfl (fun h => ?_) (fun h => ?_) | refine oskip ?_ | refine oskipb ?_ | refine oret ?_ | refine sem_ret ?_ | refine sem_seq ?_ | refine sreg1 ?_)
  refine sem_block ?_
  refine sem_loop (α := Nat) (fun i => ⟨[(3, I load), (4, .ptr 0 0 6 0 0), (8, .ptr 2 0 3 0 0), (9, I (carr p t)), (10, I i)], [.row 26 0 6 [s.cs], .row 55 0 7 [p.cs], .row 137 0 3 [[.int .i64 0, .int .i64 0, .int .i64 0]]]⟩)
    (fun i => i ≤ s.rows.length ∧ ∀ j, j < i → ∀ r, s.rows[j]? = some r → ¬ (0 < carr p t ∧ needs p t load ≤ r.use)) (fun i => s.rows.length - i) 0 ⟨Nat.zero_le _, fun j hj => absurd hj (Nat.not_lt_zero _)⟩ ?_ ?_
  · (refine Le.same ?_; simp only [List.forall_mem_cons, List.forall_mem_nil, getE, selE, Nat.reduceBEq, List.not_mem_nil, false_implies, implies_true, and_true, true_and, and_self])
    simp [PileSite.cs, Pile.cs, slOf]
  · rintro i ⟨hi, hall⟩
    skip
    repeat' (first | ((first | refine o1 rfl ?_ | refine o0 rfl ?_); intro k hk; simp (disch := omega) only [ev0, sl_cells, simprocAttr, PileSite.cs, slOf]; refine hk _ _ ?_; clear hk k) | refine ono rfl ?_ | ((first | refine osplitG rfl (fun h => ?_) (fun h => ?_) | refine osplitB rfl (fun h => ?_) (fun h => ?_)) <;> (fail_if_success (simp only [eq_self, reduceCtorEq] at h))) | refine onx ?_ | refine onb ?_ | refine sreg ?_ | refine qT rfl ?_ | refine qF rfl ?_ | refine scondT rfl ?_ | refine scondF rfl ?_ | refine ocondP rfl (fun h => ?_) (fun h => ?_) | refine ocondB rfl (fun h => ?_) (fun h => ?_) | refine scondP rfl (fun h => ?_) (fun h => ?_) | refine scond rfl (fun h => ?_) (fun h => ?_) | refine oskip ?_ | refine oskipb ?_ | refine oret ?_ | refine sem_ret ?_ | refine sem_seq ?_ | refine sreg1 ?_)
    · have hg : s.rows.getD i default = s.rows[i] := getD_lt (by omega)
      refine sem_block ?_
      refine sem_seq ?_
      by_cases hc0 : 0 < carr p t
      · have hne' := hne hc0
        have hq' := hq hc0
        have hn1' := hn1 hc0
        have hn2' := hn2 hc0
        (refine sem_mgo 16 hmix (by kernel_rfl) ?_; simp only [List.take_succ_cons, List.take_zero, List.drop_succ_cons, List.drop_zero, List.take_nil, List.drop_nil])
        repeat' (first | ((first | apply mop | apply mop0); (case hg => rfl); (case hq => rfl); intro k hk; simp (disch := omega) only [ev0, sl_cells, simprocAttr, PileSite.cs, slOf, PileRow.cs, hc0, hne', hq']; refine hk _ _ rfl ?_; clear hk k) | (apply mno; (case hg => rfl)) | (apply mbox; (case hx => (simp only [wv, simprocAttr] <;> rfl)); (case hg => rfl); (case hall => rfl); (case hr => rfl); simp only [cellsOf, List.length_cons, List.length_nil, Nat.reduceAdd, Nat.zero_add, List.nil_append, List.cons_append, List.set_cons_zero, List.set_cons_succ, chunks, List.take_succ_cons, List.take_zero, List.drop_succ_cons, List.drop_zero]) | (apply mbldS; (case hb => (simp (disch := omega) only [ev0, sl_cells, simprocAttr] <;> rfl)); (case hg => rfl); (case hr => rfl); simp only [cellsOf, List.length_cons, List.length_nil, Nat.reduceAdd, Nat.zero_add, List.nil_append, List.cons_append, List.set_cons_zero, List.set_cons_succ, chunks, List.take_succ_cons, List.take_zero, List.drop_succ_cons, List.drop_zero]) | ((first | (apply msto (q := 0); (case hq => rfl)) | (apply msto (q := 1); (case hq => rfl)) | (apply msto (q := 2); (case hq => rfl)) | (apply msto (q := 3); (case hq => rfl))); (case hx => (simp only [wv, simprocAttr] <;> rfl)); (case haddr => (simp only [wv, simprocAttr] <;> rfl)); (case hg => rfl); (case hl1 => rfl); (case hl2 => rfl); (case hok => rfl); (case hr => rfl); simp only [cellsOf, List.length_cons, List.length_nil, Nat.reduceAdd, Nat.zero_add, List.nil_append, List.cons_append, List.set_cons_zero, List.set_cons_succ, chunks, List.take_succ_cons, List.take_zero, List.drop_succ_cons, List.drop_zero]) | (apply mnil; simp only [SlotR.fin, List.map_cons, List.map_nil, List.cons_append, List.nil_append, List.append_nil]) | (refine msplit rfl (fun h => ?_) (fun h => ?_) <;> simp only [h] <;> (try simp only [Bool.not_eq_true', Bool.not_eq_false', decide_eq_true_eq, decide_eq_false_iff_not] at h)))
        repeat' (first | ((first | refine o1 rfl ?_ | refine o0 rfl ?_); intro k hk; simp (disch := omega) only [ev0, sl_cells, simprocAttr, PileSite.cs, slOf, PileRow.cs, hg]; refine hk _ _ ?_; clear hk k) | refine ono rfl ?_ | ((first | refine osplitG rfl (fun h => ?_) (fun h => ?_) | refine osplitB rfl (fun h => ?_) (fun h => ?_)) <;> (fail_if_success (simp only [eq_self, reduceCtorEq] at h))) | refine onx ?_ | refine onb ?_ | refine sreg ?_ | refine qT rfl ?_ | refine qF rfl ?_ | refine scondT rfl ?_ | refine scondF rfl ?_ | refine ocondP rfl (fun h => ?_) (fun h => ?_) | refine ocondB rfl (fun h => ?_) (fun h => ?_) | refine scondP rfl (fun h => ?_) (fun h => ?_) | refine scond rfl (fun h => ?_) (fun h => ?_) | refine oskip ?_ | refine oskipb ?_ | refine oret ?_ | refine sem_ret ?_ | refine sem_seq ?_ | refine sreg1 ?_)
        · rename_i h
          have hf : s.rows.find? (fun r => decide (needs p t load ≤ r.use)) = some s.rows[i] := find_first (by omega) (by simpa using h) (fun j hj r hr => by have := hall j hj r hr; simpa [hc0] using this)
          have hr : rowOf s p t load = (s.rows[i], false) := by simp only [rowOf, if_pos hc0, hf]
          exact ⟨_, rfl, _, rfl, tree_eq rfl (by rw [hr]; rfl)⟩
        · rename_i h
          refine onil (lnext (i + 1) ⟨by omega, fun j hj r hr => ?_⟩ (by omega) ?_)
          · by_cases hji : j = i
            · subst hji
              rw [List.getElem?_eq_getElem (by omega)] at hr; cases hr; exact fun hh => h hh.2
            · exact hall j (by omega) r hr
          · (refine Le.drop ?_ rfl (by simp) rfl rfl; simp only [List.forall_mem_cons, List.forall_mem_nil, getE, selE, Nat.reduceBEq, List.not_mem_nil, false_implies, implies_true, and_true, true_and, and_self])
            simp [PileSite.cs, slOf]
      · (refine sem_mgo 16 hmix (by kernel_rfl) ?_; simp only [List.take_succ_cons, List.take_zero, List.drop_succ_cons, List.drop_zero, List.take_nil, List.drop_nil])
        repeat' (first | ((first | apply mop | apply mop0); (case hg => rfl); (case hq => rfl); intro k hk; simp (disch := omega) only [ev0, sl_cells, simprocAttr, PileSite.cs, slOf, PileRow.cs, hc0]; refine hk _ _ rfl ?_; clear hk k) | (apply mno; (case hg => rfl)) | (apply mbox; (case hx => (simp only [wv, simprocAttr] <;> rfl)); (case hg => rfl); (case hall => rfl); (case hr => rfl); simp only [cellsOf, List.length_cons, List.length_nil, Nat.reduceAdd, Nat.zero_add, List.nil_append, List.cons_append, List.set_cons_zero, List.set_cons_succ, chunks, List.take_succ_cons, List.take_zero, List.drop_succ_cons, List.drop_zero]) | (apply mbldS; (case hb => (simp (disch := omega) only [ev0, sl_cells, simprocAttr] <;> rfl)); (case hg => rfl); (case hr => rfl); simp only [cellsOf, List.length_cons, List.length_nil, Nat.reduceAdd, Nat.zero_add, List.nil_append, List.cons_append, List.set_cons_zero, List.set_cons_succ, chunks, List.take_succ_cons, List.take_zero, List.drop_succ_cons, List.drop_zero]) | ((first | (apply msto (q := 0); (case hq => rfl)) | (apply msto (q := 1); (case hq => rfl)) | (apply msto (q := 2); (case hq => rfl)) | (apply msto (q := 3); (case hq => rfl))); (case hx => (simp only [wv, simprocAttr] <;> rfl)); (case haddr => (simp only [wv, simprocAttr] <;> rfl)); (case hg => rfl); (case hl1 => rfl); (case hl2 => rfl); (case hok => rfl); (case hr => rfl); simp only [cellsOf, List.length_cons, List.length_nil, Nat.reduceAdd, Nat.zero_add, List.nil_append, List.cons_append, List.set_cons_zero, List.set_cons_succ, chunks, List.take_succ_cons, List.take_zero, List.drop_succ_cons, List.drop_zero]) | (apply mnil; simp only [SlotR.fin, List.map_cons, List.map_nil, List.cons_append, List.nil_append, List.append_nil]) | (refine msplit rfl (fun h => ?_) (fun h => ?_) <;> simp only [h] <;> (try simp only [Bool.not_eq_true', Bool.not_eq_false', decide_eq_true_eq, decide_eq_false_iff_not] at h)))
        repeat' (first | ((first | refine o1 rfl ?_ | refine o0 rfl ?_); intro k hk; simp (disch := omega) only [ev0, sl_cells, simprocAttr, PileSite.cs, slOf, PileRow.cs, hc0]; refine hk _ _ ?_; clear hk k) | refine ono rfl ?_ | ((first | refine osplitG rfl (fun h => ?_) (fun h => ?_) | refine osplitB rfl (fun h => ?_) (fun h => ?_)) <;> (fail_if_success (simp only [eq_self, reduceCtorEq] at h))) | refine onx ?_ | refine onb ?_ | refine sreg ?_ | refine qT rfl ?_ | refine qF rfl ?_ | refine scondT rfl ?_ | refine scondF rfl ?_ | refine ocondP rfl (fun h => ?_) (fun h => ?_) | refine ocondB rfl (fun h => ?_) (fun h => ?_) | refine scondP rfl (fun h => ?_) (fun h => ?_) | refine scond rfl (fun h => ?_) (fun h => ?_) | refine oskip ?_ | refine oskipb ?_ | refine oret ?_ | refine sem_ret ?_ | refine sem_seq ?_ | refine sreg1 ?_)
        refine onil (lnext (i + 1) ⟨by omega, fun j hj r hr hh => hc0 hh.1⟩ (by omega) ?_)
        (refine Le.drop ?_ rfl (by simp) rfl rfl; simp only [List.forall_mem_cons, List.forall_mem_nil, getE, selE, Nat.reduceBEq, List.not_mem_nil, false_implies, implies_true, and_true, true_and, and_self])
        simp [PileSite.cs, slOf]
    · have hi' : i = s.rows.length := by omega
      subst hi'
      have hr : rowOf s p t load = (lastRow s, true) := by
        unfold rowOf
        split
        · rename_i hc0
          rw [find_none (fun j hj r hr => by have := hall j hj r hr; simpa [hc0] using this)]
        · rfl
      refine sem_exit ?_
      change sem _ _ _ _ _
      repeat' (first | ((first | refine o1 rfl ?_ | refine o0 rfl ?_); intro k hk; simp (disch := omega) only [ev0, sl_cells, simprocAttr, PileSite.cs, slOf, hi1, PileRow.cs]; refine hk _ _ ?_; clear hk k) | refine ono rfl ?_ | ((first | refine osplitG rfl (fun h => ?_) (fun h => ?_) | refine osplitB rfl (fun h => ?_) (fun h => ?_)) <;> (fail_if_success (simp only [eq_self, reduceCtorEq] at h))) | refine onx ?_ | refine onb ?_ | refine sreg ?_ | refine qT rfl ?_ | refine qF rfl ?_ | refine scondT rfl ?_ | refine scondF rfl ?_ | refine ocondP rfl (fun h => ?_) (fun h => ?_) | refine ocondB rfl (fun h => ?_) (fun h => ?_) | refine scondP rfl (fun h => ?_) (fun h => ?_) | refine scond rfl (fun h => ?_) (fun h => ?_) | refine oskip ?_ | refine oskipb ?_ | refine oret ?_ | refine sem_ret ?_ | refine sem_seq ?_ | refine sreg1 ?_)
      exact ⟨_, rfl, _, rfl, tree_eq rfl (by rw [hr]; rfl)⟩
end Go.Proofs.YtibgfmhddcibcaaDoor

set_option linter.unusedVariables false
set_option linter.unusedSimpArgs false
set_option maxRecDepth 8000
namespace Go.Proofs.YtibgfmhddcibcaaDoor
open Go Go.Av Go.Tk
attribute [local irreducible] Holds sem semL ACalls FnIs
variable {G : World → Prop} (hG : ∀ w w', G w → RowKit.Below w.heap.size w w' → G w')
include hG

theorem ref02_Thaws (s : PileSite) (th : List (List Span)) (h1 : s.piles.length ≤ 1000) (ht : th.length ≤ 1000) (hth : ∀ l ∈ th, l.length ≤ 1000) : Holds Tryd.prog G F.ref02_Thaws [.agg s.cs, slOf spansCs th] (B (decide (thawsOk s th))) := by
  (refine holds_of_sem hG fn_ref02_Thaws (by simp) fun w0 S0 hG0 D0 => ?_; unfold c_ref02_Thaws cval enterEnv; simp only [List.zipIdx_cons, List.zipIdx_nil, List.map_cons, List.map_nil, Nat.zero_add, Nat.reduceAdd])
  repeat' (first | ((first | refine o1 rfl ?_ | refine o0 rfl ?_); intro k hk; simp (disch := omega) only [ev0, sl_cells, simprocAttr, PileSite.cs, slOf]; refine hk _ _ ?_; clear hk k) | refine ono rfl ?_ | ((first | refine osplitG rfl (fun h => ?_) (fun h => ?_) | refine osplitB rfl (fun h => ?_) (fun h => ?_)) <;> (fail_if_success (simp only [eq_self, reduceCtorEq] at h))) | refine onx ?_ | refine onb ?_ | refine sreg ?_ | refine qT rfl ?_ | refine qF rfl ?_ | refine scondT rfl ?_ | refine scondF rfl ?_ | refine ocondP rfl (fun h => ?_) (fun h => ?_) | refine ocondB rfl (fun h => ?_) (fun h => ?_) | refine scondP rfl (fun h => ?_) (fun h => ?_) | refine scond rfl (fun h => ?_) (fun h => ?_) | refine oskip ?_ | refine oskipb ?_ | refine oret ?_ | refine sem_ret ?_ | refine sem_seq ?_ | refine sreg1 ?_)
  have hno : ∀ i, i < th.length → ¬ ((th.getD i default).length = s.piles.length ∧ ∀ x ∈ th.getD i default, x.in 0 50000) → ¬ thawsOk s th := fun i hi hn h => hn (by rw [getD_lt hi]; exact h _ (List.getElem_mem _))
  refine sem_block ?_
  refine sem_loop (α := Nat) (fun i => ⟨[(1, slOf spansCs th), (2, .ptr 0 0 6 0 0), (5, I i)], [.row 26 0 6 [s.cs]]⟩)
    (fun i => i ≤ th.length ∧ ∀ j, j < i → (th.getD j default).length = s.piles.length ∧ ∀ x ∈ th.getD j default, x.in 0 50000) (fun i => th.length - i) 0 ⟨Nat.zero_le _, fun j hj => absurd hj (Nat.not_lt_zero _)⟩ ?_ ?_
  · (refine Le.same ?_; simp only [List.forall_mem_cons, List.forall_mem_nil, getE, selE, Nat.reduceBEq, List.not_mem_nil, false_implies, implies_true, and_true, true_and, and_self])
    simp [PileSite.cs, slOf]
  · rintro i ⟨hi, hall⟩
    skip
    repeat' (first | ((first | refine o1 rfl ?_ | refine o0 rfl ?_); intro k hk; simp (disch := omega) only [ev0, sl_cells, simprocAttr, slOf]; refine hk _ _ ?_; clear hk k) | refine ono rfl ?_ | ((first | refine osplitG rfl (fun h => ?_) (fun h => ?_) | refine osplitB rfl (fun h => ?_) (fun h => ?_)) <;> (fail_if_success (simp only [eq_self, reduceCtorEq] at h))) | refine onx ?_ | refine onb ?_ | refine sreg ?_ | refine qT rfl ?_ | refine qF rfl ?_ | refine scondT rfl ?_ | refine scondF rfl ?_ | refine ocondP rfl (fun h => ?_) (fun h => ?_) | refine ocondB rfl (fun h => ?_) (fun h => ?_) | refine scondP rfl (fun h => ?_) (fun h => ?_) | refine scond rfl (fun h => ?_) (fun h => ?_) | refine oskip ?_ | refine oskipb ?_ | refine oret ?_ | refine sem_ret ?_ | refine sem_seq ?_ | refine sreg1 ?_)
    · have hi' : i < th.length := by omega
      have hll : (th.getD i default).length ≤ 1000 := by rw [getD_lt hi']; exact hth _ (List.getElem_mem _)
      refine sem_block (sem_seq (sem_seq ?_))
      (refine sem_mgo 8 hmix (by kernel_rfl) ?_; simp only [List.take_succ_cons, List.take_zero, List.drop_succ_cons, List.drop_zero, List.take_nil, List.drop_nil])
      repeat' (first | ((first | apply mop | apply mop0); (case hg => rfl); (case hq => rfl); intro k hk; simp (disch := omega) only [ev0, sl_cells, simprocAttr, PileSite.cs, slOf, spansCs, Span.cs]; refine hk _ _ rfl ?_; clear hk k) | (apply mno; (case hg => rfl)) | (apply mbox; (case hx => (simp only [wv, simprocAttr] <;> rfl)); (case hg => rfl); (case hall => rfl); (case hr => rfl); simp only [cellsOf, List.length_cons, List.length_nil, Nat.reduceAdd, Nat.zero_add, List.nil_append, List.cons_append, List.set_cons_zero, List.set_cons_succ, chunks, List.take_succ_cons, List.take_zero, List.drop_succ_cons, List.drop_zero]) | (apply mbldS; (case hb => (simp (disch := omega) only [ev0, sl_cells, simprocAttr] <;> rfl)); (case hg => rfl); (case hr => rfl); simp only [cellsOf, List.length_cons, List.length_nil, Nat.reduceAdd, Nat.zero_add, List.nil_append, List.cons_append, List.set_cons_zero, List.set_cons_succ, chunks, List.take_succ_cons, List.take_zero, List.drop_succ_cons, List.drop_zero]) | ((first | (apply msto (q := 0); (case hq => rfl)) | (apply msto (q := 1); (case hq => rfl)) | (apply msto (q := 2); (case hq => rfl)) | (apply msto (q := 3); (case hq => rfl))); (case hx => (simp only [wv, simprocAttr] <;> rfl)); (case haddr => (simp only [wv, simprocAttr] <;> rfl)); (case hg => rfl); (case hl1 => rfl); (case hl2 => rfl); (case hok => rfl); (case hr => rfl); simp only [cellsOf, List.length_cons, List.length_nil, Nat.reduceAdd, Nat.zero_add, List.nil_append, List.cons_append, List.set_cons_zero, List.set_cons_succ, chunks, List.take_succ_cons, List.take_zero, List.drop_succ_cons, List.drop_zero]) | (apply mnil; simp only [SlotR.fin, List.map_cons, List.map_nil, List.cons_append, List.nil_append, List.append_nil]) | (refine msplit rfl (fun h => ?_) (fun h => ?_) <;> simp only [h] <;> (try simp only [Bool.not_eq_true', Bool.not_eq_false', decide_eq_true_eq, decide_eq_false_iff_not] at h)))
      repeat' (first | ((first | refine o1 rfl ?_ | refine o0 rfl ?_); intro k hk; simp (disch := omega) only [ev0, sl_cells, simprocAttr, PileSite.cs, slOf]; refine hk _ _ ?_; clear hk k) | refine ono rfl ?_ | ((first | refine osplitG rfl (fun h => ?_) (fun h => ?_) | refine osplitB rfl (fun h => ?_) (fun h => ?_)) <;> (fail_if_success (simp only [eq_self, reduceCtorEq] at h))) | refine onx ?_ | refine onb ?_ | refine sreg ?_ | refine qT rfl ?_ | refine qF rfl ?_ | refine scondT rfl ?_ | refine scondF rfl ?_ | refine ocondP rfl (fun h => ?_) (fun h => ?_) | refine ocondB rfl (fun h => ?_) (fun h => ?_) | refine scondP rfl (fun h => ?_) (fun h => ?_) | refine scond rfl (fun h => ?_) (fun h => ?_) | refine oskip ?_ | refine oskipb ?_ | refine oret ?_ | refine sem_ret ?_ | refine sem_seq ?_ | refine sreg1 ?_)
      · rename_i h
        exact ⟨_, rfl, _, rfl, tree_eq rfl (by
          simp only [getE, selE, Nat.reduceBEq]
          refine congrArg AV.bool (decide_eq_false (hno i hi' fun hh => ?_)).symm
          have := hh.1; (try simp only [Bool.not_eq_true', Bool.not_eq_false', decide_eq_true_eq, decide_eq_false_iff_not] at h); omega)⟩
      · rename_i h
        have hlen : (th.getD i default).length = s.piles.length := by (try simp only [Bool.not_eq_true', Bool.not_eq_false', decide_eq_true_eq, decide_eq_false_iff_not] at h); omega
        refine sem_block ?_
        refine sem_loop (α := Nat) (fun k => ⟨[(1, slOf spansCs th), (2, .ptr 0 0 6 0 0), (5, I i), (6, I k)], [.row 26 0 6 [s.cs]]⟩)
          (fun k => k ≤ (th.getD i default).length ∧ ∀ j, j < k → ((th.getD i default).getD j default).in 0 50000) (fun k => (th.getD i default).length - k) 0 ⟨Nat.zero_le _, fun j hj => absurd hj (Nat.not_lt_zero _)⟩ ?_ ?_
        · (refine Le.same ?_; simp only [List.forall_mem_cons, List.forall_mem_nil, getE, selE, Nat.reduceBEq, List.not_mem_nil, false_implies, implies_true, and_true, true_and, and_self])
          simp [PileSite.cs, slOf]
        · rintro k ⟨hk, hk2⟩
          skip
          repeat' (first | ((first | refine o1 rfl ?_ | refine o0 rfl ?_); intro k hk; simp (disch := omega) only [ev0, sl_cells, simprocAttr, slOf, spansCs, Span.cs]; refine hk _ _ ?_; clear hk k) | refine ono rfl ?_ | ((first | refine osplitG rfl (fun h => ?_) (fun h => ?_) | refine osplitB rfl (fun h => ?_) (fun h => ?_)) <;> (fail_if_success (simp only [eq_self, reduceCtorEq] at h))) | refine onx ?_ | refine onb ?_ | refine sreg ?_ | refine qT rfl ?_ | refine qF rfl ?_ | refine scondT rfl ?_ | refine scondF rfl ?_ | refine ocondP rfl (fun h => ?_) (fun h => ?_) | refine ocondB rfl (fun h => ?_) (fun h => ?_) | refine scondP rfl (fun h => ?_) (fun h => ?_) | refine scond rfl (fun h => ?_) (fun h => ?_) | refine oskip ?_ | refine oskipb ?_ | refine oret ?_ | refine sem_ret ?_ | refine sem_seq ?_ | refine sreg1 ?_)
          · have hk' : k < (th.getD i default).length := by omega
            refine sem_block ?_
            repeat' (first | ((first | refine o1 rfl ?_ | refine o0 rfl ?_); intro k hk; simp (disch := omega) only [ev0, sl_cells, simprocAttr, slOf, spansCs, Span.cs]; refine hk _ _ ?_; clear hk k) | refine ono rfl ?_ | (apply ocall; (case he => (simp only [ev0, sl_cells, simprocAttr] <;> rfl)); (case hc => first | exact ref02_Thaw hG ((th.getD i default).getD k default)); (case ht => rfl); (case hg => rfl)) | ((first | refine osplitG rfl (fun h => ?_) (fun h => ?_) | refine osplitB rfl (fun h => ?_) (fun h => ?_)) <;> (fail_if_success (simp only [eq_self, reduceCtorEq] at h))) | refine onx ?_ | refine onb ?_ | refine sreg ?_ | refine qT rfl ?_ | refine qF rfl ?_ | refine scondT rfl ?_ | refine scondF rfl ?_ | refine ocondP rfl (fun h => ?_) (fun h => ?_) | refine ocondB rfl (fun h => ?_) (fun h => ?_) | refine scondP rfl (fun h => ?_) (fun h => ?_) | refine scond rfl (fun h => ?_) (fun h => ?_) | refine oskip ?_ | refine oskipb ?_ | refine oret ?_ | refine sem_ret ?_ | refine sem_seq ?_ | refine sreg1 ?_)
            · exact ⟨_, rfl, _, rfl, tree_eq rfl (by
                simp only [getE, selE, Nat.reduceBEq]
                refine congrArg AV.bool (decide_eq_false (hno i hi' fun hh => ?_)).symm
                have := hh.2 ((th.getD i default).getD k default) (by rw [getD_lt hk']; exact List.getElem_mem _)
                (try simp only [Bool.not_eq_true', Bool.not_eq_false', decide_eq_true_eq, decide_eq_false_iff_not] at h); simp only [Span.in] at *; omega)⟩
            · refine onil (lnext (k + 1) ⟨by omega, fun j hj => ?_⟩ (by omega) ?_)
              · by_cases hjk : j = k
                · subst hjk; (try simp only [Bool.not_eq_true', Bool.not_eq_false', decide_eq_true_eq, decide_eq_false_iff_not] at h); simp only [Span.in] at *; omega
                · exact hk2 j (by omega)
              · (refine Le.same ?_; simp only [List.forall_mem_cons, List.forall_mem_nil, getE, selE, Nat.reduceBEq, List.not_mem_nil, false_implies, implies_true, and_true, true_and, and_self])
                simp
          · refine sem_exit ?_
            change sem _ _ _ _ _
            refine sreg1 ?_
            repeat (first | ((first | refine o1 rfl ?_ | refine o0 rfl ?_); intro k hk; simp (disch := omega) only [ev0, sl_cells, simprocAttr]; refine hk _ _ ?_; clear hk k) | refine ono rfl ?_)
            refine onil (lnext (i + 1) ⟨by omega, fun j hj => ?_⟩ (by omega) ?_)
            · by_cases hji : j = i
              · subst hji
                refine ⟨hlen, fun x hx => ?_⟩
                obtain ⟨q, hq⟩ := List.getElem?_of_mem hx
                have hql := (List.getElem?_eq_some_iff.1 hq).1
                have := hk2 q (by omega)
                rw [getD_lt hql, (List.getElem?_eq_some_iff.1 hq).2] at this
                exact this
              · exact hall j (by omega)
            · (refine Le.same ?_; simp only [List.forall_mem_cons, List.forall_mem_nil, getE, selE, Nat.reduceBEq, List.not_mem_nil, false_implies, implies_true, and_true, true_and, and_self])
              simp
    · refine sem_exit ?_
      change sem _ _ _ _ _
      repeat' (first | ((first | refine o1 rfl ?_ | refine o0 rfl ?_); intro k hk; simp (disch := omega) only [ev0, sl_cells, simprocAttr]; refine hk _ _ ?_; clear hk k) | refine ono rfl ?_ | ((first | refine osplitG rfl (fun h => ?_) (fun h => ?_) | refine osplitB rfl (fun h => ?_) (fun h => ?_)) <;> (fail_if_success (simp only [eq_self, reduceCtorEq] at h))) | refine onx ?_ | refine onb ?_ | refine sreg ?_ | refine qT rfl ?_ | refine qF rfl ?_ | refine scondT rfl ?_ | refine scondF rfl ?_ | refine ocondP rfl (fun h => ?_) (fun h => ?_) | refine ocondB rfl (fun h => ?_) (fun h => ?_) | refine scondP rfl (fun h => ?_) (fun h => ?_) | refine scond rfl (fun h => ?_) (fun h => ?_) | refine oskip ?_ | refine oskipb ?_ | refine oret ?_ | refine sem_ret ?_ | refine sem_seq ?_ | refine sreg1 ?_)
      have : thawsOk s th := fun l hl => by
        obtain ⟨q, hq⟩ := List.getElem?_of_mem hl
        have hql := (List.getElem?_eq_some_iff.1 hq).1
        have := hall q (by omega)
        rw [getD_lt hql, (List.getElem?_eq_some_iff.1 hq).2] at this
        exact this
      exact ⟨_, rfl, _, rfl, tree_eq rfl (by simp only [getE, selE, Nat.reduceBEq]; exact congrArg AV.bool (decide_eq_true this).symm)⟩
end Go.Proofs.YtibgfmhddcibcaaDoor

set_option linter.unusedVariables false
set_option linter.unusedSimpArgs false
set_option maxRecDepth 8000
/- A nil slice that is appended to; slices.Clone; the piles of a set of bits. -/
namespace Go.Av
open Go.RowKit
theorem sem_ghost {K : Ctx} {F : Fcx} {Q : AExit → St → Prop} {s : SCode} {env : List (Nat × AV)} {μ : List AObj} (t e sz : Nat) (hn : getE env t = .nilsl) (h : sem K F s ⟨(t, .hsl μ.length 0 sz 0) :: env, μ ++ [.row e 0 sz []]⟩ Q) : sem K F s ⟨env, μ⟩ Q := by
  intro c hc a w ρ S ha μ0 ρ0 S0 w0 hst
  obtain ⟨a1, k⟩ := ha.mu.addNil e sz
  refine h c hc a w _ S ⟨a1, ha.size, ha.defers, fun u => ?_⟩ μ0 ρ0 S0 w0 (hst.trans k)
  have hv := ha.env u
  show VR _ _ _ _ (getE ((t, .hsl μ.length 0 sz 0) :: env) u) _
  rw [getE_cons]
  split
  · rename_i htu
    subst htu
    rw [show getE env t = AV.nilsl from hn] at hv
    generalize a.tmps.getD t undef = v at hv
    cases hv with
    | t h' => cases h'; exact .hsl0 (e := e) (es := []) (by simp) (by simp)
  · exact hv.stab k
end Go.Av
namespace Go.Tk
open Go Go.Av
/-- A row by its elements. -/
def rowF {α : Type} (enc : α → List AV) (n : Nat) (f : Nat → α) : List (List AV) := (List.range n).map fun i => enc (f i)
section
variable {α : Type} {enc : α → List AV} {n i : Nat} {f g : Nat → α}
theorem rowF_len : (rowF enc n f).length = n := by simp [rowF]
theorem rowF_get (h : i < n) : (rowF enc n f)[i]? = some (enc (f i)) := by simp [rowF, h]
theorem rowF_set (a : α) : (rowF enc n f).set i (enc a) = rowF enc n (fun k => if k = i then a else f k) := by
  apply List.ext_getElem?
  intro k
  by_cases hk : k < n
  · by_cases e : k = i
    · subst e
      rw [List.getElem?_set_self (by rw [rowF_len]; exact hk), rowF_get hk, if_pos rfl]
    · rw [List.getElem?_set_ne (Ne.symm e), rowF_get hk, rowF_get hk, if_neg e]
  · rw [List.getElem?_eq_none (by simp [rowF]; omega), List.getElem?_eq_none (by simp [rowF]; omega)]
theorem rowF_succ : rowF enc n f ++ [enc (f n)] = rowF enc (n + 1) f := by simp [rowF, List.range_succ]
theorem rowF_ext (h : ∀ k, k < n → f k = g k) : rowF enc n f = rowF enc n g := List.map_congr_left fun k hk => by rw [h k (List.mem_range.1 hk)]
theorem rowF_zero : rowF enc 0 f = [] := rfl
theorem range_getD [Inhabited α] (l : List α) : (List.range l.length).map (fun i => l.getD i default) = l := by
  apply List.ext_getElem?
  intro k
  by_cases hk : k < l.length
  · simp [hk, List.getD]
  · simp [hk]
theorem getD_range [Inhabited α] (h : i < n) : ((List.range n).map f).getD i default = f i := by simp [List.getD, h]
theorem tree_rowF [Inhabited α] {μ : List AObj} {id e gn sz : Nat} (ho : μ[id]? = some (.row e gn sz (rowF enc n f))) (hsz : ∀ a, (enc a).length = sz) (ht : ∀ a, treeL (enc a) = true) : Tree μ (.hsl id gn sz n) (slOf enc ((List.range n).map f)) := by
  unfold slOf
  rw [show ((List.range n).map f).length = n by simp]
  refine .hsl _ ho (fun i hi => hsz _) fun i j cs c t hi hcs hc hct => ?_
  rw [rowF_get hi] at hcs
  cases hcs
  rw [getD_range hi] at hct
  rw [hc] at hct
  cases hct
  exact .same (treeL_get (ht _) hc)
theorem tree_row [Inhabited α] {μ : List AObj} {id e gn sz : Nat} (l : List α) (ho : μ[id]? = some (.row e gn sz (rowF enc l.length fun i => l.getD i default))) (hsz : ∀ a, (enc a).length = sz) (ht : ∀ a, treeL (enc a) = true) : Tree μ (.hsl id gn sz l.length) (slOf enc l) := by
  have := tree_rowF ho hsz ht
  rw [range_getD] at this
  exact this
theorem row_all {sz : Nat} (hsz : ∀ a, (enc a).length = sz) : (List.range n).all (fun i => decide ((enc (f i)).length = sz)) = true := List.all_eq_true.2 fun i _ => decide_eq_true (hsz _)
end
end Go.Tk
namespace Go.Proofs.YtibgfmhddcibcaaDoor
open Go Go.Av Go.Tk
attribute [local irreducible] Holds sem semL ACalls FnIs
variable {G : World → Prop} (hG : ∀ w w', G w → RowKit.Below w.heap.size w w' → G w')
include hG

theorem slices_Clone_apiSpan (l : List Span) (h0 : 0 < l.length) (hl : l.length ≤ 1000) : Holds Tryd.prog G F.slices_Clone_apiSpan [slOf Span.cs l] (slOf Span.cs l) := by
  have hall : (List.range l.length).all (fun i => decide ((Span.cs (l.getD i default)).length = 2)) = true := row_all (enc := Span.cs) (f := fun i => l.getD i default) fun _ => rfl
  have hne : ¬ l.length = 0 := by omega
  (refine holds_of_sem hG fn_slices_Clone_apiSpan (by simp) fun w0 S0 hG0 D0 => ?_; unfold c_slices_Clone_apiSpan cval enterEnv; simp only [List.zipIdx_cons, List.zipIdx_nil, List.map_cons, List.map_nil, Nat.zero_add, Nat.reduceAdd])
  repeat' (first | ((first | refine o1 rfl ?_ | refine o0 rfl ?_); intro k hk; simp (disch := omega) only [ev0, sl_cells, simprocAttr, slOf, hall, hne, List.length_map, List.length_range]; refine hk _ _ ?_; clear hk k) | refine ono rfl ?_ | ((first | refine osplitG rfl (fun h => ?_) (fun h => ?_) | refine osplitB rfl (fun h => ?_) (fun h => ?_)) <;> (fail_if_success (simp only [eq_self, reduceCtorEq] at h))) | refine onx ?_ | refine onb ?_ | refine sreg ?_ | refine qT rfl ?_ | refine qF rfl ?_ | refine scondT rfl ?_ | refine scondF rfl ?_ | refine ocondP rfl (fun h => ?_) (fun h => ?_) | refine ocondB rfl (fun h => ?_) (fun h => ?_) | refine scondP rfl (fun h => ?_) (fun h => ?_) | refine scond rfl (fun h => ?_) (fun h => ?_) | refine oskip ?_ | refine oskipb ?_ | refine oret ?_ | refine sem_ret ?_ | refine sem_seq ?_ | refine sreg1 ?_)
  exact ⟨_, rfl, _, rfl, tree_row (enc := Span.cs) l rfl (fun _ => rfl) (fun _ => rfl)⟩

theorem pile_jacked (bits : Int) : Holds Tryd.prog G F.pile_jacked [I bits] (.fn (.func F.pile_jacked_1) [] [.tptr [I bits] 0]) := by
  (refine holds_of_sem hG fn_pile_jacked (by simp) fun w0 S0 hG0 D0 => ?_; unfold c_pile_jacked cval enterEnv; simp only [List.zipIdx_cons, List.zipIdx_nil, List.map_cons, List.map_nil, Nat.zero_add, Nat.reduceAdd])
  repeat' (first | ((first | refine o1 rfl ?_ | refine o0 rfl ?_); intro k hk; simp (disch := omega) only [ev0, sl_cells, simprocAttr]; refine hk _ _ ?_; clear hk k) | refine ono rfl ?_ | ((first | refine osplitG rfl (fun h => ?_) (fun h => ?_) | refine osplitB rfl (fun h => ?_) (fun h => ?_)) <;> (fail_if_success (simp only [eq_self, reduceCtorEq] at h))) | refine onx ?_ | refine onb ?_ | refine sreg ?_ | refine qT rfl ?_ | refine qF rfl ?_ | refine scondT rfl ?_ | refine scondF rfl ?_ | refine ocondP rfl (fun h => ?_) (fun h => ?_) | refine ocondB rfl (fun h => ?_) (fun h => ?_) | refine scondP rfl (fun h => ?_) (fun h => ?_) | refine scond rfl (fun h => ?_) (fun h => ?_) | refine oskip ?_ | refine oskipb ?_ | refine oret ?_ | refine sem_ret ?_ | refine sem_seq ?_ | refine sreg1 ?_)
  exact ⟨_, rfl, _, rfl, treeOf_sound 40 _ _ rfl⟩

omit hG in
theorem bit_and : ∀ b : Fin 64, ∀ k : Fin 6, (IntKind.i64.wrap ((BitVec.ofInt IntKind.i64.bits (((b.val : Int)).fdiv (2 ^ (min k.val IntKind.i64.bits))) &&& BitVec.ofInt IntKind.i64.bits 1).toNat) = 1) = (hasBit b.val k.val = true) := by decide +kernel

omit hG in
/-- The piles of a set, one after the other: whatever the loop's body keeps. -/
theorem jacked_1 {K : Ctx} (hP : K.P = Tryd.prog) (bits : Int) (hb : 0 ≤ bits ∧ bits < 64) (id : Nat) (J : Nat → List AObj → Prop) (hl : ∀ k μ, J k μ → ∃ c st e, μ[id]? = some (.loop c st e))
    (hs : ∀ k μ, k < 6 → J k μ → hasBit bits k = true → YCalls K id [I k] μ fun ae μ' => ae = .ret (B true) ∧ J (k + 1) μ') (hn : ∀ k μ, k < 6 → J k μ → hasBit bits k = false → J (k + 1) μ) {μ : List AObj} (h0 : J 0 μ) :
    ACalls K F.pile_jacked_1 [.yl id, .tptr [I bits] 0] μ fun ae μ' => (∃ x, ae = .ret x) ∧ J 6 μ' := by
  refine acalls_of_sem (by rw [hP]; exact fn_pile_jacked_1) (by simp) fun D => ?_
  unfold c_pile_jacked_1 cval enterEnv
  simp only [List.zipIdx_cons, List.zipIdx_nil, List.map_cons, List.map_nil, Nat.zero_add, Nat.reduceAdd]
  repeat' (first | ((first | refine o1 rfl ?_ | refine o0 rfl ?_); intro k hk; simp (disch := omega) only [ev0, sl_cells, simprocAttr]; refine hk _ _ ?_; clear hk k) | refine ono rfl ?_ | ((first | refine osplitG rfl (fun h => ?_) (fun h => ?_) | refine osplitB rfl (fun h => ?_) (fun h => ?_)) <;> (fail_if_success (simp only [eq_self, reduceCtorEq] at h))) | refine onx ?_ | refine onb ?_ | refine sreg ?_ | refine qT rfl ?_ | refine qF rfl ?_ | refine scondT rfl ?_ | refine scondF rfl ?_ | refine ocondP rfl (fun h => ?_) (fun h => ?_) | refine ocondB rfl (fun h => ?_) (fun h => ?_) | refine scondP rfl (fun h => ?_) (fun h => ?_) | refine scond rfl (fun h => ?_) (fun h => ?_) | refine oskip ?_ | refine oskipb ?_ | refine oret ?_ | refine sem_ret ?_ | refine sem_seq ?_ | refine sreg1 ?_)
  refine sem_block ?_
  refine sem_loop (α := Nat × List AObj) (fun p => ⟨[(0, .yl id), (1, .tptr [I bits] 0), (4, I p.1)], p.2⟩) (fun p => p.1 ≤ 6 ∧ J p.1 p.2) (fun p => 6 - p.1) (0, μ) ⟨by simp, h0⟩ ?_ ?_
  · (refine Le.same ?_; simp only [List.forall_mem_cons, List.forall_mem_nil, getE, selE, Nat.reduceBEq, List.not_mem_nil, false_implies, implies_true, and_true, true_and, and_self])
    simp
  · rintro ⟨k, ν⟩ ⟨hk, hJ⟩
    simp only at hk hJ
    skip
    repeat' (first | ((first | refine o1 rfl ?_ | refine o0 rfl ?_); intro k hk; simp (disch := omega) only [ev0, sl_cells, simprocAttr]; refine hk _ _ ?_; clear hk k) | refine ono rfl ?_ | ((first | refine osplitG rfl (fun h => ?_) (fun h => ?_) | refine osplitB rfl (fun h => ?_) (fun h => ?_)) <;> (fail_if_success (simp only [eq_self, reduceCtorEq] at h))) | refine onx ?_ | refine onb ?_ | refine sreg ?_ | refine qT rfl ?_ | refine qF rfl ?_ | refine scondT rfl ?_ | refine scondF rfl ?_ | refine ocondP rfl (fun h => ?_) (fun h => ?_) | refine ocondB rfl (fun h => ?_) (fun h => ?_) | refine scondP rfl (fun h => ?_) (fun h => ?_) | refine scond rfl (fun h => ?_) (fun h => ?_) | refine oskip ?_ | refine oskipb ?_ | refine oret ?_ | refine sem_ret ?_ | refine sem_seq ?_ | refine sreg1 ?_)
    · have hbit := bit_and ⟨bits.toNat, by omega⟩ ⟨k, by omega⟩
      simp only [Int.toNat_of_nonneg hb.1] at hbit
      refine sem_block ?_
      refine sem_seq (sreg1 ?_)
      repeat (first | ((first | refine o1 rfl ?_ | refine o0 rfl ?_); intro k hk; simp (disch := omega) only [ev0, sl_cells, simprocAttr]; refine hk _ _ ?_; clear hk k) | refine ono rfl ?_)
      refine onx (sem_seq (sreg1 ?_))
      ((first | refine o1 rfl ?_ | refine o0 rfl ?_); intro k hk; simp (disch := omega) only [ev0, sl_cells, simprocAttr]; refine hk _ _ ?_; clear hk k)
      ((first | refine o1 rfl ?_ | refine o0 rfl ?_); intro k hk; simp (disch := omega) only [ev0, sl_cells, simprocAttr]; refine hk _ _ ?_; clear hk k)
      ((first | refine o1 rfl ?_ | refine o0 rfl ?_); intro k hk; simp (disch := omega) only [ev0, sl_cells, simprocAttr]; refine hk _ _ ?_; clear hk k)
      apply o1
      case hg => rfl
      intro k' hk'
      simp only [stepThen, sopA, evX, getE, selE, Nat.reduceBEq, if_true, if_false, reduceIte, binA, Option.map_some, withMu]
      refine hk' _ _ ?_
      clear hk' k'
      generalize IntKind.i64.wrap _ = X at hbit ⊢
      generalize Int.fdiv _ _ = Y
      by_cases hx : X = 1
      · have hB := hbit.mp hx
        subst hx
        repeat' (first | ((first | refine o1 rfl ?_ | refine o0 rfl ?_); intro k hk; simp (disch := omega) only [ev0, sl_cells, simprocAttr, eq_self]; refine hk _ _ ?_; clear hk k) | refine ono rfl ?_ | ((first | refine osplitG rfl (fun h => ?_) (fun h => ?_) | refine osplitB rfl (fun h => ?_) (fun h => ?_)) <;> (fail_if_success (simp only [eq_self, reduceCtorEq] at h))) | refine onx ?_ | refine onb ?_ | refine sreg ?_ | refine qT rfl ?_ | refine qF rfl ?_ | refine scondT rfl ?_ | refine scondF rfl ?_ | refine ocondP rfl (fun h => ?_) (fun h => ?_) | refine ocondB rfl (fun h => ?_) (fun h => ?_) | refine scondP rfl (fun h => ?_) (fun h => ?_) | refine scond rfl (fun h => ?_) (fun h => ?_) | refine oskip ?_ | refine oskipb ?_ | refine oret ?_ | refine sem_ret ?_ | refine sem_seq ?_ | refine sreg1 ?_)
        obtain ⟨c, st, e, hμ⟩ := hl _ _ hJ
        refine semL_yield (c := c) (st := st) (e0 := e) rfl rfl hμ (hs _ _ (by omega) hJ hB) fun ae μ' hae => ?_
        obtain ⟨rfl, hJ'⟩ := hae
        change semL _ _ _ ⟨(15, B true) :: _, μ'⟩ _
        repeat' (first | ((first | refine o1 rfl ?_ | refine o0 rfl ?_); intro k hk; simp (disch := omega) only [ev0, sl_cells, simprocAttr]; refine hk _ _ ?_; clear hk k) | refine ono rfl ?_ | ((first | refine osplitG rfl (fun h => ?_) (fun h => ?_) | refine osplitB rfl (fun h => ?_) (fun h => ?_)) <;> (fail_if_success (simp only [eq_self, reduceCtorEq] at h))) | refine onx ?_ | refine onb ?_ | refine sreg ?_ | refine qT rfl ?_ | refine qF rfl ?_ | refine scondT rfl ?_ | refine scondF rfl ?_ | refine ocondP rfl (fun h => ?_) (fun h => ?_) | refine ocondB rfl (fun h => ?_) (fun h => ?_) | refine scondP rfl (fun h => ?_) (fun h => ?_) | refine scond rfl (fun h => ?_) (fun h => ?_) | refine oskip ?_ | refine oskipb ?_ | refine oret ?_ | refine sem_ret ?_ | refine sem_seq ?_ | refine sreg1 ?_)
        refine onil (lnext (k + 1, μ') ⟨by simp; omega, hJ'⟩ (by simp; omega) ?_)
        (refine Le.same ?_; simp only [List.forall_mem_cons, List.forall_mem_nil, getE, selE, Nat.reduceBEq, List.not_mem_nil, false_implies, implies_true, and_true, true_and, and_self])
        simp
      · have hB : hasBit bits k = false := by
          cases hh : hasBit bits k with
          | false => rfl
          | true => exact absurd (hbit.mpr hh) hx
        repeat' (first | ((first | refine o1 rfl ?_ | refine o0 rfl ?_); intro k hk; simp (disch := omega) only [ev0, sl_cells, simprocAttr, hx]; refine hk _ _ ?_; clear hk k) | refine ono rfl ?_ | ((first | refine osplitG rfl (fun h => ?_) (fun h => ?_) | refine osplitB rfl (fun h => ?_) (fun h => ?_)) <;> (fail_if_success (simp only [eq_self, reduceCtorEq] at h))) | refine onx ?_ | refine onb ?_ | refine sreg ?_ | refine qT rfl ?_ | refine qF rfl ?_ | refine scondT rfl ?_ | refine scondF rfl ?_ | refine ocondP rfl (fun h => ?_) (fun h => ?_) | refine ocondB rfl (fun h => ?_) (fun h => ?_) | refine scondP rfl (fun h => ?_) (fun h => ?_) | refine scond rfl (fun h => ?_) (fun h => ?_) | refine oskip ?_ | refine oskipb ?_ | refine oret ?_ | refine sem_ret ?_ | refine sem_seq ?_ | refine sreg1 ?_)
        refine onil (lnext (k + 1, ν) ⟨by simp; omega, hn _ _ (by omega) hJ hB⟩ (by simp; omega) ?_)
        (refine Le.same ?_; simp only [List.forall_mem_cons, List.forall_mem_nil, getE, selE, Nat.reduceBEq, List.not_mem_nil, false_implies, implies_true, and_true, true_and, and_self])
        simp
    · have hk6 : k = 6 := by omega
      subst hk6
      refine sem_exit ?_
      have h : bodyQ [] (fun ae μ' => (∃ x, ae = AEnd.ret x) ∧ J 6 μ') .normal ⟨[(5, AV.bool (decide (((6 : Nat) : Int) < 6))), (0, AV.yl id), (1, AV.tptr [I bits] 0), (4, I ((6 : Nat) : Int))], ν⟩ := ⟨_, rfl, ⟨_, rfl⟩, hJ⟩
      exact h
end Go.Proofs.YtibgfmhddcibcaaDoor

set_option linter.unusedVariables false
set_option linter.unusedSimpArgs false
set_option maxRecDepth 8000
/- The reference's truths in which all piles settle most, or least. -/
namespace Go.Tk
open Go Go.Av
/-- A row's elements as a tree's. -/
def slF {α : Type} [Inhabited α] (enc : α → List AV) (n : Nat) (f : Nat → α) : Nat → List AV := fun i => enc (((List.range n).map f).getD i default)
section
variable {α : Type} [Inhabited α] {enc : α → List AV} {n : Nat} {f : Nat → α}
theorem slF_sl : AV.sl n (slF enc n f) = slOf enc ((List.range n).map f) := by
  unfold slOf slF
  rw [show ((List.range n).map f).length = n by simp]
omit [Inhabited α] in
theorem rowF_take : (rowF enc n f).take n = rowF enc n f := List.take_of_length_le (by rw [rowF_len]; exact Nat.le_refl _)
omit [Inhabited α] in
theorem frz_rowF {id g sz m : Nat} {F : Nat → List AV} (h : ∀ a, frzL id g sz m F (enc a) = enc a) : (rowF enc n f).map (frzL id g sz m F) = rowF enc n f := by
  unfold rowF
  rw [List.map_map]
  exact List.map_congr_left fun i _ => h _
omit [Inhabited α] in
theorem all_rowF {k : Nat} (h : ∀ k a, refL k (enc a) = true) : (rowF enc n f).all (refL k) = true := List.all_eq_true.2 fun x hx => by
  obtain ⟨i, _, rfl⟩ := List.mem_map.1 hx
  exact h _ _
theorem sem_frzrow {K : Ctx} {F : Fcx} {Q : AExit → St → Prop} {s : SCode} {env : List (Nat × AV)} {μ : List AObj} (id : Nat) {e g sz : Nat} (ho : μ[id]? = some (.row e g sz (rowF enc n f))) (ht : ∀ a, treeL (enc a) = true)
    (h : sem K F s ⟨frzE id g sz n (slF enc n f) env, frzM id g sz n (slF enc n f) μ⟩ Q) : sem K F s ⟨env, μ⟩ Q := by
  have hk : ∀ (i : Nat) cs, (rowF enc n f)[i]? = some cs → i < n ∧ cs = enc (f i) := fun i cs hi => by
    have hlt : i < n := by have := (List.getElem?_eq_some_iff.1 hi).1; rw [rowF_len] at this; exact this
    rw [rowF_get hlt] at hi; cases hi; exact ⟨hlt, rfl⟩
  refine sem_frz id n (slF enc n f) ho rowF_len (fun i cs hi => ?_) (fun i cs hi => ?_) h
  · obtain ⟨hlt, rfl⟩ := hk i cs hi
    unfold slF; rw [getD_range hlt]
  · obtain ⟨hlt, rfl⟩ := hk i cs hi
    exact ht _
end
def endT (s : PileSite) (p : Pile) (x : Span) (most : Bool) : PileTruth :=
  if most then ⟨x.high, p.load.high, (rowOf s p x.high p.load.high).1.settle.high⟩ else ⟨x.low, p.load.low, (rowOf s p x.low p.load.low).1.settle.low⟩
def endRow (s : PileSite) (th : List (List Span)) (most : Bool) (t : Nat) : List PileTruth := (List.range s.piles.length).map fun i => endT s (s.piles.getD i default) ((th.getD t default).getD i default) most
def endsOf (s : PileSite) (th : List (List Span)) (most : Bool) : List (List PileTruth) := (List.range th.length).map (endRow s th most)
end Go.Tk
namespace Go.Proofs.YtibgfmhddcibcaaDoor
open Go Go.Av Go.Tk
attribute [local irreducible] Holds sem semL ACalls FnIs
variable {G : World → Prop} (hG : ∀ w w', G w → RowKit.Below w.heap.size w w' → G w')
include hG

theorem ref02_End (s : PileSite) (hs : s.ok) (p : Pile) (hp : p.ok) (x : Span) (hx : x.in 0 50000) (most : Bool) : Holds Tryd.prog G F.ref02_End [.agg s.cs, .agg p.cs, .agg x.cs, B most] (.agg (endT s p x most).cs) := by
  have hl : 1 ≤ p.load.low ∧ p.load.low ≤ p.load.high ∧ p.load.high ≤ 100000 := hp.2.2.2.1
  have hx' : 0 ≤ x.low ∧ x.low ≤ x.high ∧ x.high ≤ 50000 := hx
  (refine holds_of_sem hG fn_ref02_End (by simp) fun w0 S0 hG0 D0 => ?_; unfold c_ref02_End cval enterEnv; simp only [List.zipIdx_cons, List.zipIdx_nil, List.map_cons, List.map_nil, Nat.zero_add, Nat.reduceAdd])
  cases most
  · repeat' (first | ((first | refine o1 rfl ?_ | refine o0 rfl ?_); intro k hk; simp (disch := omega) only [ev0, sl_cells, simprocAttr, PileSite.cs, Pile.cs, Span.cs]; refine hk _ _ ?_; clear hk k) | refine ono rfl ?_ | ((first | refine osplitG rfl (fun h => ?_) (fun h => ?_) | refine osplitB rfl (fun h => ?_) (fun h => ?_)) <;> (fail_if_success (simp only [eq_self, reduceCtorEq] at h))) | refine onx ?_ | refine onb ?_ | refine sreg ?_ | refine qT rfl ?_ | refine qF rfl ?_ | refine scondT rfl ?_ | refine scondF rfl ?_ | refine ocondP rfl (fun h => ?_) (fun h => ?_) | refine ocondB rfl (fun h => ?_) (fun h => ?_) | refine scondP rfl (fun h => ?_) (fun h => ?_) | refine scond rfl (fun h => ?_) (fun h => ?_) | refine oskip ?_ | refine oskipb ?_ | refine oret ?_ | refine sem_ret ?_ | refine sem_seq ?_ | refine sreg1 ?_)
    (refine sem_mgo 15 hmix (by kernel_rfl) ?_; simp only [List.take_succ_cons, List.take_zero, List.drop_succ_cons, List.drop_zero, List.take_nil, List.drop_nil])
    repeat' (first | ((first | apply mop | apply mop0); (case hg => rfl); (case hq => rfl); intro k hk; simp (disch := omega) only [ev0, sl_cells, simprocAttr, PileSite.cs, Pile.cs, Span.cs, PileRow.cs]; refine hk _ _ rfl ?_; clear hk k) | (apply mno; (case hg => rfl)) | (apply mcall; (case he => (simp only [ev0, sl_cells, simprocAttr] <;> rfl)); (case hc => first | exact ref02_Row hG s hs p hp _ _ (by omega) (by omega)); (case ht => rfl); (case hg => rfl); (case hr => rfl)) | (apply mbox; (case hx => (simp only [wv, simprocAttr] <;> rfl)); (case hg => rfl); (case hall => rfl); (case hr => rfl); simp only [cellsOf, List.length_cons, List.length_nil, Nat.reduceAdd, Nat.zero_add, List.nil_append, List.cons_append, List.set_cons_zero, List.set_cons_succ, chunks, List.take_succ_cons, List.take_zero, List.drop_succ_cons, List.drop_zero]) | (apply mbldS; (case hb => (simp (disch := omega) only [ev0, sl_cells, simprocAttr] <;> rfl)); (case hg => rfl); (case hr => rfl); simp only [cellsOf, List.length_cons, List.length_nil, Nat.reduceAdd, Nat.zero_add, List.nil_append, List.cons_append, List.set_cons_zero, List.set_cons_succ, chunks, List.take_succ_cons, List.take_zero, List.drop_succ_cons, List.drop_zero]) | ((first | (apply msto (q := 0); (case hq => rfl)) | (apply msto (q := 1); (case hq => rfl)) | (apply msto (q := 2); (case hq => rfl)) | (apply msto (q := 3); (case hq => rfl))); (case hx => (simp only [wv, simprocAttr] <;> rfl)); (case haddr => (simp only [wv, simprocAttr] <;> rfl)); (case hg => rfl); (case hl1 => rfl); (case hl2 => rfl); (case hok => rfl); (case hr => rfl); simp only [cellsOf, List.length_cons, List.length_nil, Nat.reduceAdd, Nat.zero_add, List.nil_append, List.cons_append, List.set_cons_zero, List.set_cons_succ, chunks, List.take_succ_cons, List.take_zero, List.drop_succ_cons, List.drop_zero]) | (apply mnil; simp only [SlotR.fin, List.map_cons, List.map_nil, List.cons_append, List.nil_append, List.append_nil]) | (refine msplit rfl (fun h => ?_) (fun h => ?_) <;> simp only [h] <;> (try simp only [Bool.not_eq_true', Bool.not_eq_false', decide_eq_true_eq, decide_eq_false_iff_not] at h)))
    repeat' (first | ((first | refine o1 rfl ?_ | refine o0 rfl ?_); intro k hk; simp (disch := omega) only [ev0, sl_cells, simprocAttr]; refine hk _ _ ?_; clear hk k) | refine ono rfl ?_ | ((first | refine osplitG rfl (fun h => ?_) (fun h => ?_) | refine osplitB rfl (fun h => ?_) (fun h => ?_)) <;> (fail_if_success (simp only [eq_self, reduceCtorEq] at h))) | refine onx ?_ | refine onb ?_ | refine sreg ?_ | refine qT rfl ?_ | refine qF rfl ?_ | refine scondT rfl ?_ | refine scondF rfl ?_ | refine ocondP rfl (fun h => ?_) (fun h => ?_) | refine ocondB rfl (fun h => ?_) (fun h => ?_) | refine scondP rfl (fun h => ?_) (fun h => ?_) | refine scond rfl (fun h => ?_) (fun h => ?_) | refine oskip ?_ | refine oskipb ?_ | refine oret ?_ | refine sem_ret ?_ | refine sem_seq ?_ | refine sreg1 ?_)
    exact ⟨_, rfl, _, rfl, tree_eq rfl rfl⟩
  · repeat' (first | ((first | refine o1 rfl ?_ | refine o0 rfl ?_); intro k hk; simp (disch := omega) only [ev0, sl_cells, simprocAttr, PileSite.cs, Pile.cs, Span.cs]; refine hk _ _ ?_; clear hk k) | refine ono rfl ?_ | ((first | refine osplitG rfl (fun h => ?_) (fun h => ?_) | refine osplitB rfl (fun h => ?_) (fun h => ?_)) <;> (fail_if_success (simp only [eq_self, reduceCtorEq] at h))) | refine onx ?_ | refine onb ?_ | refine sreg ?_ | refine qT rfl ?_ | refine qF rfl ?_ | refine scondT rfl ?_ | refine scondF rfl ?_ | refine ocondP rfl (fun h => ?_) (fun h => ?_) | refine ocondB rfl (fun h => ?_) (fun h => ?_) | refine scondP rfl (fun h => ?_) (fun h => ?_) | refine scond rfl (fun h => ?_) (fun h => ?_) | refine oskip ?_ | refine oskipb ?_ | refine oret ?_ | refine sem_ret ?_ | refine sem_seq ?_ | refine sreg1 ?_)
    (refine sem_mgo 15 hmix (by kernel_rfl) ?_; simp only [List.take_succ_cons, List.take_zero, List.drop_succ_cons, List.drop_zero, List.take_nil, List.drop_nil])
    repeat' (first | ((first | apply mop | apply mop0); (case hg => rfl); (case hq => rfl); intro k hk; simp (disch := omega) only [ev0, sl_cells, simprocAttr, PileSite.cs, Pile.cs, Span.cs, PileRow.cs]; refine hk _ _ rfl ?_; clear hk k) | (apply mno; (case hg => rfl)) | (apply mcall; (case he => (simp only [ev0, sl_cells, simprocAttr] <;> rfl)); (case hc => first | exact ref02_Row hG s hs p hp _ _ (by omega) (by omega)); (case ht => rfl); (case hg => rfl); (case hr => rfl)) | (apply mbox; (case hx => (simp only [wv, simprocAttr] <;> rfl)); (case hg => rfl); (case hall => rfl); (case hr => rfl); simp only [cellsOf, List.length_cons, List.length_nil, Nat.reduceAdd, Nat.zero_add, List.nil_append, List.cons_append, List.set_cons_zero, List.set_cons_succ, chunks, List.take_succ_cons, List.take_zero, List.drop_succ_cons, List.drop_zero]) | (apply mbldS; (case hb => (simp (disch := omega) only [ev0, sl_cells, simprocAttr] <;> rfl)); (case hg => rfl); (case hr => rfl); simp only [cellsOf, List.length_cons, List.length_nil, Nat.reduceAdd, Nat.zero_add, List.nil_append, List.cons_append, List.set_cons_zero, List.set_cons_succ, chunks, List.take_succ_cons, List.take_zero, List.drop_succ_cons, List.drop_zero]) | ((first | (apply msto (q := 0); (case hq => rfl)) | (apply msto (q := 1); (case hq => rfl)) | (apply msto (q := 2); (case hq => rfl)) | (apply msto (q := 3); (case hq => rfl))); (case hx => (simp only [wv, simprocAttr] <;> rfl)); (case haddr => (simp only [wv, simprocAttr] <;> rfl)); (case hg => rfl); (case hl1 => rfl); (case hl2 => rfl); (case hok => rfl); (case hr => rfl); simp only [cellsOf, List.length_cons, List.length_nil, Nat.reduceAdd, Nat.zero_add, List.nil_append, List.cons_append, List.set_cons_zero, List.set_cons_succ, chunks, List.take_succ_cons, List.take_zero, List.drop_succ_cons, List.drop_zero]) | (apply mnil; simp only [SlotR.fin, List.map_cons, List.map_nil, List.cons_append, List.nil_append, List.append_nil]) | (refine msplit rfl (fun h => ?_) (fun h => ?_) <;> simp only [h] <;> (try simp only [Bool.not_eq_true', Bool.not_eq_false', decide_eq_true_eq, decide_eq_false_iff_not] at h)))
    repeat' (first | ((first | refine o1 rfl ?_ | refine o0 rfl ?_); intro k hk; simp (disch := omega) only [ev0, sl_cells, simprocAttr]; refine hk _ _ ?_; clear hk k) | refine ono rfl ?_ | ((first | refine osplitG rfl (fun h => ?_) (fun h => ?_) | refine osplitB rfl (fun h => ?_) (fun h => ?_)) <;> (fail_if_success (simp only [eq_self, reduceCtorEq] at h))) | refine onx ?_ | refine onb ?_ | refine sreg ?_ | refine qT rfl ?_ | refine qF rfl ?_ | refine scondT rfl ?_ | refine scondF rfl ?_ | refine ocondP rfl (fun h => ?_) (fun h => ?_) | refine ocondB rfl (fun h => ?_) (fun h => ?_) | refine scondP rfl (fun h => ?_) (fun h => ?_) | refine scond rfl (fun h => ?_) (fun h => ?_) | refine oskip ?_ | refine oskipb ?_ | refine oret ?_ | refine sem_ret ?_ | refine sem_seq ?_ | refine sreg1 ?_)
    exact ⟨_, rfl, _, rfl, tree_eq rfl rfl⟩

theorem ref02_Ends (s : PileSite) (hs : s.ok) (th : List (List Span)) (ht : thawsOk s th) (hth : th.length ≤ 1000) (most : Bool) : Holds Tryd.prog G F.ref02_Ends [.agg s.cs, slOf spansCs th, B most] (slOf truthsCs (endsOf s th most)) := by
  have hn6 : 1 ≤ s.piles.length ∧ s.piles.length ≤ 6 := hs.2.1
  (refine holds_of_sem hG fn_ref02_Ends (by simp) fun w0 S0 hG0 D0 => ?_; unfold c_ref02_Ends cval enterEnv; simp only [List.zipIdx_cons, List.zipIdx_nil, List.map_cons, List.map_nil, Nat.zero_add, Nat.reduceAdd])
  repeat' (first | ((first | refine o1 rfl ?_ | refine o0 rfl ?_); intro k hk; simp (disch := omega) only [ev0, sl_cells, simprocAttr]; refine hk _ _ ?_; clear hk k) | refine ono rfl ?_ | ((first | refine osplitG rfl (fun h => ?_) (fun h => ?_) | refine osplitB rfl (fun h => ?_) (fun h => ?_)) <;> (fail_if_success (simp only [eq_self, reduceCtorEq] at h))) | refine onx ?_ | refine onb ?_ | refine sreg ?_ | refine qT rfl ?_ | refine qF rfl ?_ | refine scondT rfl ?_ | refine scondF rfl ?_ | refine ocondP rfl (fun h => ?_) (fun h => ?_) | refine ocondB rfl (fun h => ?_) (fun h => ?_) | refine scondP rfl (fun h => ?_) (fun h => ?_) | refine scond rfl (fun h => ?_) (fun h => ?_) | refine oskip ?_ | refine oskipb ?_ | refine oret ?_ | refine sem_ret ?_ | refine sem_seq ?_ | refine sreg1 ?_)
  refine sem_block ?_
  (refine sem_ghost 7 69 1 rfl ?_; simp only [List.length_cons, List.length_nil, Nat.reduceAdd, Nat.zero_add, List.cons_append, List.nil_append])
  refine sem_loop (α := Nat) (fun t => ⟨[(1, slOf spansCs th), (2, B most), (3, .ptr 0 0 6 0 0), (7, .hsl 1 t 1 t), (8, I t)], [.row 26 0 6 [s.cs], .row 69 t 1 (rowF truthsCs t (endRow s th most))]⟩)
    (fun t => t ≤ th.length) (fun t => th.length - t) 0 (Nat.zero_le _) ?_ ?_
  · (refine Le.same ?_; simp only [List.forall_mem_cons, List.forall_mem_nil, getE, selE, Nat.reduceBEq, List.not_mem_nil, false_implies, implies_true, and_true, true_and, and_self])
    simp [PileSite.cs]
  · intro t htl
    skip
    repeat' (first | ((first | refine o1 rfl ?_ | refine o0 rfl ?_); intro k hk; simp (disch := omega) only [ev0, sl_cells, simprocAttr, slOf]; refine hk _ _ ?_; clear hk k) | refine ono rfl ?_ | ((first | refine osplitG rfl (fun h => ?_) (fun h => ?_) | refine osplitB rfl (fun h => ?_) (fun h => ?_)) <;> (fail_if_success (simp only [eq_self, reduceCtorEq] at h))) | refine onx ?_ | refine onb ?_ | refine sreg ?_ | refine qT rfl ?_ | refine qF rfl ?_ | refine scondT rfl ?_ | refine scondF rfl ?_ | refine ocondP rfl (fun h => ?_) (fun h => ?_) | refine ocondB rfl (fun h => ?_) (fun h => ?_) | refine scondP rfl (fun h => ?_) (fun h => ?_) | refine scond rfl (fun h => ?_) (fun h => ?_) | refine oskip ?_ | refine oskipb ?_ | refine oret ?_ | refine sem_ret ?_ | refine sem_seq ?_ | refine sreg1 ?_)
    · have htl' : t < th.length := by omega
      refine sem_block ?_
      repeat' (first | ((first | refine o1 rfl ?_ | refine o0 rfl ?_); intro k hk; simp (disch := omega) only [ev0, sl_cells, simprocAttr]; refine hk _ _ ?_; clear hk k) | refine ono rfl ?_ | ((first | refine osplitG rfl (fun h => ?_) (fun h => ?_) | refine osplitB rfl (fun h => ?_) (fun h => ?_)) <;> (fail_if_success (simp only [eq_self, reduceCtorEq] at h))) | refine onx ?_ | refine onb ?_ | refine sreg ?_ | refine qT rfl ?_ | refine qF rfl ?_ | refine scondT rfl ?_ | refine scondF rfl ?_ | refine ocondP rfl (fun h => ?_) (fun h => ?_) | refine ocondB rfl (fun h => ?_) (fun h => ?_) | refine scondP rfl (fun h => ?_) (fun h => ?_) | refine scond rfl (fun h => ?_) (fun h => ?_) | refine oskip ?_ | refine oskipb ?_ | refine oret ?_ | refine sem_ret ?_ | refine sem_seq ?_ | refine sreg1 ?_)
      refine sem_block ?_
      (refine sem_ghost 9 81 3 rfl ?_; simp only [List.length_cons, List.length_nil, Nat.reduceAdd, Nat.zero_add, List.cons_append, List.nil_append])
      refine sem_loop (α := Nat) (fun i => ⟨[(1, slOf spansCs th), (2, B most), (3, .ptr 0 0 6 0 0), (7, .hsl 1 t 1 t), (8, I t), (9, .hsl 2 i 3 i), (10, I i)], [.row 26 0 6 [s.cs], .row 69 t 1 (rowF truthsCs t (endRow s th most)), .row 81 i 3 (rowF PileTruth.cs i (fun i => endT s (s.piles.getD i default) ((th.getD t default).getD i default) most))]⟩)
        (fun i => i ≤ s.piles.length) (fun i => s.piles.length - i) 0 (Nat.zero_le _) ?_ ?_
      · (refine Le.same ?_; simp only [List.forall_mem_cons, List.forall_mem_nil, getE, selE, Nat.reduceBEq, List.not_mem_nil, false_implies, implies_true, and_true, true_and, and_self])
        simp [rowF]
      · intro i hil
        skip
        repeat' (first | ((first | refine o1 rfl ?_ | refine o0 rfl ?_); intro k hk; simp (disch := omega) only [ev0, sl_cells, simprocAttr, PileSite.cs, slOf]; refine hk _ _ ?_; clear hk k) | refine ono rfl ?_ | ((first | refine osplitG rfl (fun h => ?_) (fun h => ?_) | refine osplitB rfl (fun h => ?_) (fun h => ?_)) <;> (fail_if_success (simp only [eq_self, reduceCtorEq] at h))) | refine onx ?_ | refine onb ?_ | refine sreg ?_ | refine qT rfl ?_ | refine qF rfl ?_ | refine scondT rfl ?_ | refine scondF rfl ?_ | refine ocondP rfl (fun h => ?_) (fun h => ?_) | refine ocondB rfl (fun h => ?_) (fun h => ?_) | refine scondP rfl (fun h => ?_) (fun h => ?_) | refine scond rfl (fun h => ?_) (fun h => ?_) | refine oskip ?_ | refine oskipb ?_ | refine oret ?_ | refine sem_ret ?_ | refine sem_seq ?_ | refine sreg1 ?_)
        · have hil' : i < s.piles.length := by omega
          have hp := pile_at hs hil'
          obtain ⟨hlen, hx⟩ := thaw_at ht htl' hil'
          refine sem_block ?_
          (refine sem_mgo 17 hmix (by kernel_rfl) ?_; simp only [List.take_succ_cons, List.take_zero, List.drop_succ_cons, List.drop_zero, List.take_nil, List.drop_nil])
          repeat' (first | ((first | apply mop | apply mop0); (case hg => rfl); (case hq => rfl); intro k hk; simp (disch := omega) only [ev0, sl_cells, simprocAttr, PileSite.cs, slOf, spansCs, Pile.cs, Span.cs]; refine hk _ _ rfl ?_; clear hk k) | (apply mno; (case hg => rfl)) | (apply mcall; (case he => (simp only [ev0, sl_cells, simprocAttr] <;> rfl)); (case hc => first | exact ref02_End hG s hs _ hp _ hx most); (case ht => rfl); (case hg => rfl); (case hr => rfl)) | (apply mbox; (case hx => (simp only [wv, simprocAttr] <;> rfl)); (case hg => rfl); (case hall => rfl); (case hr => rfl); simp only [cellsOf, List.length_cons, List.length_nil, Nat.reduceAdd, Nat.zero_add, List.nil_append, List.cons_append, List.set_cons_zero, List.set_cons_succ, chunks, List.take_succ_cons, List.take_zero, List.drop_succ_cons, List.drop_zero]) | (apply mbldS; (case hb => (simp (disch := omega) only [ev0, sl_cells, simprocAttr] <;> rfl)); (case hg => rfl); (case hr => rfl); simp only [cellsOf, List.length_cons, List.length_nil, Nat.reduceAdd, Nat.zero_add, List.nil_append, List.cons_append, List.set_cons_zero, List.set_cons_succ, chunks, List.take_succ_cons, List.take_zero, List.drop_succ_cons, List.drop_zero]) | ((first | (apply msto (q := 0); (case hq => rfl)) | (apply msto (q := 1); (case hq => rfl)) | (apply msto (q := 2); (case hq => rfl)) | (apply msto (q := 3); (case hq => rfl))); (case hx => (simp only [wv, simprocAttr] <;> rfl)); (case haddr => (simp only [wv, simprocAttr] <;> rfl)); (case hg => rfl); (case hl1 => rfl); (case hl2 => rfl); (case hok => rfl); (case hr => rfl); simp only [cellsOf, List.length_cons, List.length_nil, Nat.reduceAdd, Nat.zero_add, List.nil_append, List.cons_append, List.set_cons_zero, List.set_cons_succ, chunks, List.take_succ_cons, List.take_zero, List.drop_succ_cons, List.drop_zero]) | (apply mnil; simp only [SlotR.fin, List.map_cons, List.map_nil, List.cons_append, List.nil_append, List.append_nil]) | (refine msplit rfl (fun h => ?_) (fun h => ?_) <;> simp only [h] <;> (try simp only [Bool.not_eq_true', Bool.not_eq_false', decide_eq_true_eq, decide_eq_false_iff_not] at h)))
          repeat' (first | ((first | refine o1 rfl ?_ | refine o0 rfl ?_); intro k hk; simp (disch := omega) only [ev0, sl_cells, simprocAttr, rowF_take, PileTruth.cs]; refine hk _ _ ?_; clear hk k) | refine ono rfl ?_ | ((first | refine osplitG rfl (fun h => ?_) (fun h => ?_) | refine osplitB rfl (fun h => ?_) (fun h => ?_)) <;> (fail_if_success (simp only [eq_self, reduceCtorEq] at h))) | refine onx ?_ | refine onb ?_ | refine sreg ?_ | refine qT rfl ?_ | refine qF rfl ?_ | refine scondT rfl ?_ | refine scondF rfl ?_ | refine ocondP rfl (fun h => ?_) (fun h => ?_) | refine ocondB rfl (fun h => ?_) (fun h => ?_) | refine scondP rfl (fun h => ?_) (fun h => ?_) | refine scond rfl (fun h => ?_) (fun h => ?_) | refine oskip ?_ | refine oskipb ?_ | refine oret ?_ | refine sem_ret ?_ | refine sem_seq ?_ | refine sreg1 ?_)
          have hrow := rowF_succ (enc := PileTruth.cs) (n := i) (f := fun i => endT s (s.piles.getD i default) ((th.getD t default).getD i default) most)
          simp only [PileTruth.cs] at hrow
          rw [hrow]
          refine onil (lnext (i + 1) (by omega) (by omega) ?_)
          (refine Le.drop ?_ rfl (by simp) rfl (by simp only [refM, refO, List.all_cons, List.all_nil, Bool.and_true, Bool.true_and, all_rowF (enc := truthsCs) (fun _ _ => rfl), all_rowF (enc := PileTruth.cs) (fun _ _ => rfl)]; first | done | rfl) ; simp only [List.forall_mem_cons, List.forall_mem_nil, getE, selE, Nat.reduceBEq, List.not_mem_nil, false_implies, implies_true, and_true, true_and, and_self])
          simp [PileSite.cs, slOf]
        · have hil' : i = s.piles.length := by omega
          subst hil'
          refine sem_exit ?_
          change sem _ _ _ _ _
          refine sem_frzrow 2 rfl (fun _ => rfl) ?_
          simp only [frzE, frzM, frzO, frzA, frzL, List.map_cons, List.map_nil, List.set_cons_zero, List.set_cons_succ, Nat.reduceEqDiff, if_true, if_false, and_self, Nat.le_refl, reduceIte, frz_rowF (enc := truthsCs) (fun _ => rfl), frz_sl, frz_site, slF_sl]
          have hrow : rowF truthsCs t (endRow s th most) ++ [[AV.sl (List.map (fun i => endT s (s.piles.getD i default) ((th.getD t default).getD i default) most) (List.range s.piles.length)).length fun i => ((List.map (fun i => endT s (s.piles.getD i default) ((th.getD t default).getD i default) most) (List.range s.piles.length)).getD i default).cs]] = rowF truthsCs (t + 1) (endRow s th most) := rowF_succ
          repeat' (first | ((first | refine o1 rfl ?_ | refine o0 rfl ?_); intro k hk; simp (disch := omega) only [ev0, sl_cells, simprocAttr, slOf, rowF_take]; refine hk _ _ ?_; clear hk k) | refine ono rfl ?_ | ((first | refine osplitG rfl (fun h => ?_) (fun h => ?_) | refine osplitB rfl (fun h => ?_) (fun h => ?_)) <;> (fail_if_success (simp only [eq_self, reduceCtorEq] at h))) | refine onx ?_ | refine onb ?_ | refine sreg ?_ | refine qT rfl ?_ | refine qF rfl ?_ | refine scondT rfl ?_ | refine scondF rfl ?_ | refine ocondP rfl (fun h => ?_) (fun h => ?_) | refine ocondB rfl (fun h => ?_) (fun h => ?_) | refine scondP rfl (fun h => ?_) (fun h => ?_) | refine scond rfl (fun h => ?_) (fun h => ?_) | refine oskip ?_ | refine oskipb ?_ | refine oret ?_ | refine sem_ret ?_ | refine sem_seq ?_ | refine sreg1 ?_)
          rw [hrow]
          refine onil (lnext (t + 1) (by omega) (by omega) ?_)
          (refine Le.drop ?_ rfl (by simp) rfl (by simp only [refM, refO, List.all_cons, List.all_nil, Bool.and_true, Bool.true_and, all_rowF (enc := truthsCs) (fun _ _ => rfl)]; first | done | rfl) ; simp only [List.forall_mem_cons, List.forall_mem_nil, getE, selE, Nat.reduceBEq, List.not_mem_nil, false_implies, implies_true, and_true, true_and, and_self])
          simp [PileSite.cs, slOf]
    · have htl' : t = th.length := by omega
      subst htl'
      refine sem_exit ?_
      change sem _ _ _ _ _
      repeat' (first | ((first | refine o1 rfl ?_ | refine o0 rfl ?_); intro k hk; simp (disch := omega) only [ev0, sl_cells, simprocAttr]; refine hk _ _ ?_; clear hk k) | refine ono rfl ?_ | ((first | refine osplitG rfl (fun h => ?_) (fun h => ?_) | refine osplitB rfl (fun h => ?_) (fun h => ?_)) <;> (fail_if_success (simp only [eq_self, reduceCtorEq] at h))) | refine onx ?_ | refine onb ?_ | refine sreg ?_ | refine qT rfl ?_ | refine qF rfl ?_ | refine scondT rfl ?_ | refine scondF rfl ?_ | refine ocondP rfl (fun h => ?_) (fun h => ?_) | refine ocondB rfl (fun h => ?_) (fun h => ?_) | refine scondP rfl (fun h => ?_) (fun h => ?_) | refine scond rfl (fun h => ?_) (fun h => ?_) | refine oskip ?_ | refine oskipb ?_ | refine oret ?_ | refine sem_ret ?_ | refine sem_seq ?_ | refine sreg1 ?_)
      exact ⟨_, rfl, _, rfl, tree_rowF (enc := truthsCs) rfl (fun _ => rfl) (fun _ => rfl)⟩
end Go.Proofs.YtibgfmhddcibcaaDoor

set_option linter.unusedVariables false
set_option linter.unusedSimpArgs false
set_option maxRecDepth 8000
/- The reference's levels in truth. -/
namespace Go.Tk
open Go Go.Av
/-- What a pile stands at when a year begins, by how much each sinks. -/
def headAt (st : Nat → Nat → Int) (pl : Nat → Int) : Nat → Nat → Int
  | 0, _ => 0
  | y + 1, k => if hasBit (pl y) k = true then 0 else headAt st pl y k - st y k
def stOf (l : List (List PileTruth)) (y k : Nat) : Int := ((l.getD y default).getD k default).settle
def playRow (n : Nat) (st : Nat → Nat → Int) (pl : Nat → Int) (y : Nat) : List Int := (List.range n).map fun k => headAt st pl y k - st y k
def playOf (n : Nat) (plan : List Int) (l : List (List PileTruth)) : List (List Int) := (List.range l.length).map (playRow n (stOf l) fun y => plan.getD y default)
theorem headAt_bound {st : Nat → Nat → Int} {pl : Nat → Int} {m : Nat} (h : ∀ y k, y < m → 0 ≤ st y k ∧ st y k ≤ 1000) : ∀ y k, y ≤ m → -(1000 * y) ≤ headAt st pl y k ∧ headAt st pl y k ≤ 0
  | 0, _, _ => by simp [headAt]
  | y + 1, k, hy => by
    have h1 := headAt_bound h (pl := pl) y k (by omega)
    have h2 := h y k (by omega)
    simp only [headAt]
    split <;> omega
theorem replicate_rowF {α : Type} (enc : α → List AV) (n : Nat) (a : α) : List.replicate n (enc a) = rowF enc n (fun _ => a) := by
  unfold rowF; rw [List.map_const']; simp
theorem rowF_setI (n : Nat) (f : Nat → Int) (i : Nat) (a : Int) : (rowF intCs n f).set i [AV.int .i64 a] = rowF intCs n (fun k => if k = i then a else f k) := rowF_set a
end Go.Tk
namespace Go.Proofs.YtibgfmhddcibcaaDoor
open Go Go.Av Go.Tk
attribute [local irreducible] Holds sem semL ACalls FnIs
variable {G : World → Prop} (hG : ∀ w w', G w → RowKit.Below w.heap.size w w' → G w')
include hG

theorem ref02_Play (s : PileSite) (hn : 1 ≤ s.piles.length ∧ s.piles.length ≤ 6) (plan : List Int) (l : List (List PileTruth)) (hl : l.length ≤ 1000) (hp : l.length ≤ plan.length) (hb : ∀ y, y < plan.length → 0 ≤ plan.getD y default ∧ plan.getD y default ≤ 1000000)
    (hr : ∀ y, y < l.length → (l.getD y default).length = s.piles.length) (hs : ∀ y k, y < l.length → 0 ≤ stOf l y k ∧ stOf l y k ≤ 1000) : Holds Tryd.prog G F.ref02_Play [.agg s.cs, slOf intCs plan, slOf truthsCs l] (slOf intsCs (playOf s.piles.length plan l)) := by
  have hrep := replicate_rowF intCs s.piles.length 0
  have hhb := headAt_bound (pl := fun y => plan.getD y default) hs
  (refine holds_of_sem hG fn_ref02_Play (by simp) fun w0 S0 hG0 D0 => ?_; unfold c_ref02_Play cval enterEnv; simp only [List.zipIdx_cons, List.zipIdx_nil, List.map_cons, List.map_nil, Nat.zero_add, Nat.reduceAdd])
  repeat' (first | ((first | refine o1 rfl ?_ | refine o0 rfl ?_); intro k hk; simp (disch := omega) only [ev0, sl_cells, simprocAttr, PileSite.cs, slOf]; refine hk _ _ ?_; clear hk k) | refine ono rfl ?_ | ((first | refine osplitG rfl (fun h => ?_) (fun h => ?_) | refine osplitB rfl (fun h => ?_) (fun h => ?_)) <;> (fail_if_success (simp only [eq_self, reduceCtorEq] at h))) | refine onx ?_ | refine onb ?_ | refine sreg ?_ | refine qT rfl ?_ | refine qF rfl ?_ | refine scondT rfl ?_ | refine scondF rfl ?_ | refine ocondP rfl (fun h => ?_) (fun h => ?_) | refine ocondB rfl (fun h => ?_) (fun h => ?_) | refine scondP rfl (fun h => ?_) (fun h => ?_) | refine scond rfl (fun h => ?_) (fun h => ?_) | refine oskip ?_ | refine oskipb ?_ | refine oret ?_ | refine sem_ret ?_ | refine sem_seq ?_ | refine sreg1 ?_)
  refine sem_block ?_
  (refine sem_ghost 8 28 1 rfl ?_; simp only [List.length_cons, List.length_nil, Nat.reduceAdd, Nat.zero_add, List.cons_append, List.nil_append])
  rw [show List.replicate s.piles.length [AV.int IntKind.i64 0] = rowF intCs s.piles.length (headAt (stOf l) (fun y => plan.getD y default) 0) from hrep]
  refine sem_loop (α := Nat) (fun y => ⟨[(1, slOf intCs plan), (2, slOf truthsCs l), (3, .ptr 0 0 6 0 0), (7, .hsl 1 0 1 s.piles.length), (8, .hsl 2 y 1 y), (9, I y)], [.row 26 0 6 [s.cs], .row 3 0 1 (rowF intCs s.piles.length (headAt (stOf l) (fun y => plan.getD y default) y)), .row 28 y 1 (rowF intsCs y (playRow s.piles.length (stOf l) fun y => plan.getD y default))]⟩)
    (fun y => y ≤ l.length) (fun y => l.length - y) 0 (Nat.zero_le _) ?_ ?_
  · (refine Le.same ?_; simp only [List.forall_mem_cons, List.forall_mem_nil, getE, selE, Nat.reduceBEq, List.not_mem_nil, false_implies, implies_true, and_true, true_and, and_self])
    simp [PileSite.cs, slOf]
  · intro y hyl
    skip
    repeat' (first | ((first | refine o1 rfl ?_ | refine o0 rfl ?_); intro k hk; simp (disch := omega) only [ev0, sl_cells, simprocAttr, slOf]; refine hk _ _ ?_; clear hk k) | refine ono rfl ?_ | ((first | refine osplitG rfl (fun h => ?_) (fun h => ?_) | refine osplitB rfl (fun h => ?_) (fun h => ?_)) <;> (fail_if_success (simp only [eq_self, reduceCtorEq] at h))) | refine onx ?_ | refine onb ?_ | refine sreg ?_ | refine qT rfl ?_ | refine qF rfl ?_ | refine scondT rfl ?_ | refine scondF rfl ?_ | refine ocondP rfl (fun h => ?_) (fun h => ?_) | refine ocondB rfl (fun h => ?_) (fun h => ?_) | refine scondP rfl (fun h => ?_) (fun h => ?_) | refine scond rfl (fun h => ?_) (fun h => ?_) | refine oskip ?_ | refine oskipb ?_ | refine oret ?_ | refine sem_ret ?_ | refine sem_seq ?_ | refine sreg1 ?_)
    · have hyl' : y < l.length := by omega
      have hry := hr y hyl'
      refine sem_block ?_
      repeat' (first | ((first | refine o1 rfl ?_ | refine o0 rfl ?_); intro k hk; simp (disch := omega) only [ev0, sl_cells, simprocAttr]; refine hk _ _ ?_; clear hk k) | refine ono rfl ?_ | ((first | refine osplitG rfl (fun h => ?_) (fun h => ?_) | refine osplitB rfl (fun h => ?_) (fun h => ?_)) <;> (fail_if_success (simp only [eq_self, reduceCtorEq] at h))) | refine onx ?_ | refine onb ?_ | refine sreg ?_ | refine qT rfl ?_ | refine qF rfl ?_ | refine scondT rfl ?_ | refine scondF rfl ?_ | refine ocondP rfl (fun h => ?_) (fun h => ?_) | refine ocondB rfl (fun h => ?_) (fun h => ?_) | refine scondP rfl (fun h => ?_) (fun h => ?_) | refine scond rfl (fun h => ?_) (fun h => ?_) | refine oskip ?_ | refine oskipb ?_ | refine oret ?_ | refine sem_ret ?_ | refine sem_seq ?_ | refine sreg1 ?_)
      refine sem_block ?_
      (refine sem_ghost 10 3 1 rfl ?_; simp only [List.length_cons, List.length_nil, Nat.reduceAdd, Nat.zero_add, List.cons_append, List.nil_append])
      refine sem_loop (α := Nat) (fun i => ⟨[(1, slOf intCs plan), (2, slOf truthsCs l), (3, .ptr 0 0 6 0 0), (7, .hsl 1 0 1 s.piles.length), (8, .hsl 2 y 1 y), (9, I y), (10, .hsl 3 i 1 i), (11, I i)],
          [.row 26 0 6 [s.cs], .row 3 0 1 (rowF intCs s.piles.length (fun k => if k < i then headAt (stOf l) (fun y => plan.getD y default) (y + 1) k else headAt (stOf l) (fun y => plan.getD y default) y k)), .row 28 y 1 (rowF intsCs y (playRow s.piles.length (stOf l) fun y => plan.getD y default)), .row 3 i 1 (rowF intCs i (fun k => headAt (stOf l) (fun y => plan.getD y default) y k - stOf l y k))]⟩)
        (fun i => i ≤ s.piles.length) (fun i => s.piles.length - i) 0 (Nat.zero_le _) ?_ ?_
      · (refine Le.same ?_; simp only [List.forall_mem_cons, List.forall_mem_nil, getE, selE, Nat.reduceBEq, List.not_mem_nil, false_implies, implies_true, and_true, true_and, and_self])
        simp
      · intro i hil
        skip
        repeat' (first | ((first | refine o1 rfl ?_ | refine o0 rfl ?_); intro k hk; simp (disch := omega) only [ev0, sl_cells, simprocAttr, slOf]; refine hk _ _ ?_; clear hk k) | refine ono rfl ?_ | ((first | refine osplitG rfl (fun h => ?_) (fun h => ?_) | refine osplitB rfl (fun h => ?_) (fun h => ?_)) <;> (fail_if_success (simp only [eq_self, reduceCtorEq] at h))) | refine onx ?_ | refine onb ?_ | refine sreg ?_ | refine qT rfl ?_ | refine qF rfl ?_ | refine scondT rfl ?_ | refine scondF rfl ?_ | refine ocondP rfl (fun h => ?_) (fun h => ?_) | refine ocondB rfl (fun h => ?_) (fun h => ?_) | refine scondP rfl (fun h => ?_) (fun h => ?_) | refine scond rfl (fun h => ?_) (fun h => ?_) | refine oskip ?_ | refine oskipb ?_ | refine oret ?_ | refine sem_ret ?_ | refine sem_seq ?_ | refine sreg1 ?_)
        · have hil' : i < s.piles.length := by omega
          have hst : 0 ≤ ((l.getD y default).getD i default).settle ∧ ((l.getD y default).getD i default).settle ≤ 1000 := hs y i hyl'
          have hh := hhb y i (by omega)
          have hpl := hb y (by omega)
          have hrow : (rowF intCs i fun k => headAt (stOf l) (fun y => plan.getD y default) y k - stOf l y k) ++ [[AV.int IntKind.i64 (headAt (stOf l) (fun y => plan.getD y default) y i - ((l.getD y default).getD i default).settle)]] = rowF intCs (i + 1) (fun k => headAt (stOf l) (fun y => plan.getD y default) y k - stOf l y k) := rowF_succ
          refine sem_block ?_
          refine sem_seq ?_
          (refine sem_mgo 15 hmix (by kernel_rfl) ?_; simp only [List.take_succ_cons, List.take_zero, List.drop_succ_cons, List.drop_zero, List.take_nil, List.drop_nil])
          repeat' (first | ((first | apply mop | apply mop0); (case hg => rfl); (case hq => rfl); intro k hk; simp (disch := omega) only [ev0, sl_cells, simprocAttr, slOf, truthsCs, PileTruth.cs, intCs, rowF_get]; refine hk _ _ rfl ?_; clear hk k) | (apply mno; (case hg => rfl)) | (apply mbox; (case hx => (simp only [wv, simprocAttr] <;> rfl)); (case hg => rfl); (case hall => rfl); (case hr => rfl); simp only [cellsOf, List.length_cons, List.length_nil, Nat.reduceAdd, Nat.zero_add, List.nil_append, List.cons_append, List.set_cons_zero, List.set_cons_succ, chunks, List.take_succ_cons, List.take_zero, List.drop_succ_cons, List.drop_zero]) | (apply mbldS; (case hb => (simp (disch := omega) only [ev0, sl_cells, simprocAttr] <;> rfl)); (case hg => rfl); (case hr => rfl); simp only [cellsOf, List.length_cons, List.length_nil, Nat.reduceAdd, Nat.zero_add, List.nil_append, List.cons_append, List.set_cons_zero, List.set_cons_succ, chunks, List.take_succ_cons, List.take_zero, List.drop_succ_cons, List.drop_zero]) | ((first | (apply msto (q := 0); (case hq => rfl)) | (apply msto (q := 1); (case hq => rfl)) | (apply msto (q := 2); (case hq => rfl)) | (apply msto (q := 3); (case hq => rfl))); (case hx => (simp only [wv, simprocAttr] <;> rfl)); (case haddr => (simp only [wv, simprocAttr] <;> rfl)); (case hg => rfl); (case hl1 => rfl); (case hl2 => rfl); (case hok => rfl); (case hr => rfl); simp only [cellsOf, List.length_cons, List.length_nil, Nat.reduceAdd, Nat.zero_add, List.nil_append, List.cons_append, List.set_cons_zero, List.set_cons_succ, chunks, List.take_succ_cons, List.take_zero, List.drop_succ_cons, List.drop_zero]) | (apply mnil; simp only [SlotR.fin, List.map_cons, List.map_nil, List.cons_append, List.nil_append, List.append_nil]) | (refine msplit rfl (fun h => ?_) (fun h => ?_) <;> simp only [h] <;> (try simp only [Bool.not_eq_true', Bool.not_eq_false', decide_eq_true_eq, decide_eq_false_iff_not] at h)))
          repeat' (first | ((first | refine o1 rfl ?_ | refine o0 rfl ?_); intro k hk; simp (disch := omega) only [ev0, sl_cells, simprocAttr, slOf, rowF_get, rowF_setI, rowF_take, intCs, eq_self]; refine hk _ _ ?_; clear hk k) | refine ono rfl ?_ | (apply ocall; (case he => (simp only [ev0, sl_cells, simprocAttr] <;> rfl)); (case hc => first | exact ref02_Jacked hG _ hpl _ (by omega)); (case ht => rfl); (case hg => rfl)) | ((first | refine osplitG rfl (fun h => ?_) (fun h => ?_) | refine osplitB rfl (fun h => ?_) (fun h => ?_)) <;> (fail_if_success (simp only [eq_self, reduceCtorEq] at h))) | refine onx ?_ | refine onb ?_ | refine sreg ?_ | refine qT rfl ?_ | refine qF rfl ?_ | refine scondT rfl ?_ | refine scondF rfl ?_ | refine ocondP rfl (fun h => ?_) (fun h => ?_) | refine ocondB rfl (fun h => ?_) (fun h => ?_) | refine scondP rfl (fun h => ?_) (fun h => ?_) | refine scond rfl (fun h => ?_) (fun h => ?_) | refine oskip ?_ | refine oskipb ?_ | refine oret ?_ | refine sem_ret ?_ | refine sem_seq ?_ | refine sreg1 ?_)
          all_goals rw [hrow]
          · have hB : hasBit (plan.getD y default) i = true := decide_eq_true h
            rw [rowF_ext (g := fun k => if k < i + 1 then headAt (stOf l) (fun y => plan.getD y default) (y + 1) k else headAt (stOf l) (fun y => plan.getD y default) y k) (fun k hk => by
              by_cases e : k = i
              · subst e
                simp only [if_true, Nat.lt_succ_self, headAt, hB]
              · have e2 : (k < i) = (k < i + 1) := propext (by omega)
                simp only [e, if_false, e2])]
            refine onil (lnext (i + 1) (by omega) (by omega) ?_)
            (refine Le.drop ?_ rfl (by simp) rfl (by simp only [refM, refO, List.all_cons, List.all_nil, Bool.and_true, Bool.true_and, all_rowF (enc := intsCs) (fun _ _ => rfl), all_rowF (enc := intCs) (fun _ _ => rfl)]; first | done | rfl) ; simp only [List.forall_mem_cons, List.forall_mem_nil, getE, selE, Nat.reduceBEq, List.not_mem_nil, false_implies, implies_true, and_true, true_and, and_self])
            simp
          · have hB : hasBit (plan.getD y default) i = false := decide_eq_false h
            rw [rowF_ext (g := fun k => if k < i + 1 then headAt (stOf l) (fun y => plan.getD y default) (y + 1) k else headAt (stOf l) (fun y => plan.getD y default) y k) (fun k hk => by
              by_cases e : k = i
              · subst e
                simp only [if_true, Nat.lt_succ_self, headAt, hB, Bool.false_eq_true, if_false, stOf]
              · have e2 : (k < i) = (k < i + 1) := propext (by omega)
                simp only [e, if_false, e2])]
            refine onil (lnext (i + 1) (by omega) (by omega) ?_)
            (refine Le.drop ?_ rfl (by simp) rfl (by simp only [refM, refO, List.all_cons, List.all_nil, Bool.and_true, Bool.true_and, all_rowF (enc := intsCs) (fun _ _ => rfl), all_rowF (enc := intCs) (fun _ _ => rfl)]; first | done | rfl) ; simp only [List.forall_mem_cons, List.forall_mem_nil, getE, selE, Nat.reduceBEq, List.not_mem_nil, false_implies, implies_true, and_true, true_and, and_self])
            simp
        · have hil' : i = s.piles.length := by omega
          subst hil'
          refine sem_exit ?_
          change sem _ _ _ _ _
          rw [rowF_ext (g := headAt (stOf l) (fun y => plan.getD y default) (y + 1)) (fun k hk => by simp only [hk, if_true])]
          refine sem_frzrow 3 rfl (fun _ => rfl) ?_
          simp only [frzE, frzM, frzO, frzA, frzL, List.map_cons, List.map_nil, List.set_cons_zero, List.set_cons_succ, Nat.reduceEqDiff, if_true, if_false, and_self, Nat.le_refl, reduceIte, frz_rowF (enc := intsCs) (fun _ => rfl), frz_rowF (enc := intCs) (fun _ => rfl), frz_sl, frz_site, slF_sl]
          have hrow : rowF intsCs y (playRow s.piles.length (stOf l) fun y => plan.getD y default) ++ [[AV.sl (List.map (fun k => headAt (stOf l) (fun y => plan.getD y default) y k - stOf l y k) (List.range s.piles.length)).length fun i => intCs ((List.map (fun k => headAt (stOf l) (fun y => plan.getD y default) y k - stOf l y k) (List.range s.piles.length)).getD i default)]] = rowF intsCs (y + 1) (playRow s.piles.length (stOf l) fun y => plan.getD y default) := rowF_succ
          repeat' (first | ((first | refine o1 rfl ?_ | refine o0 rfl ?_); intro k hk; simp (disch := omega) only [ev0, sl_cells, simprocAttr, slOf, rowF_take]; refine hk _ _ ?_; clear hk k) | refine ono rfl ?_ | ((first | refine osplitG rfl (fun h => ?_) (fun h => ?_) | refine osplitB rfl (fun h => ?_) (fun h => ?_)) <;> (fail_if_success (simp only [eq_self, reduceCtorEq] at h))) | refine onx ?_ | refine onb ?_ | refine sreg ?_ | refine qT rfl ?_ | refine qF rfl ?_ | refine scondT rfl ?_ | refine scondF rfl ?_ | refine ocondP rfl (fun h => ?_) (fun h => ?_) | refine ocondB rfl (fun h => ?_) (fun h => ?_) | refine scondP rfl (fun h => ?_) (fun h => ?_) | refine scond rfl (fun h => ?_) (fun h => ?_) | refine oskip ?_ | refine oskipb ?_ | refine oret ?_ | refine sem_ret ?_ | refine sem_seq ?_ | refine sreg1 ?_)
          rw [hrow]
          refine onil (lnext (y + 1) (by omega) (by omega) ?_)
          (refine Le.drop ?_ rfl (by simp) rfl (by simp only [refM, refO, List.all_cons, List.all_nil, Bool.and_true, Bool.true_and, all_rowF (enc := intsCs) (fun _ _ => rfl), all_rowF (enc := intCs) (fun _ _ => rfl)]; first | done | rfl) ; simp only [List.forall_mem_cons, List.forall_mem_nil, getE, selE, Nat.reduceBEq, List.not_mem_nil, false_implies, implies_true, and_true, true_and, and_self])
          simp [slOf]
    · have hyl' : y = l.length := by omega
      subst hyl'
      refine sem_exit ?_
      change sem _ _ _ _ _
      repeat' (first | ((first | refine o1 rfl ?_ | refine o0 rfl ?_); intro k hk; simp (disch := omega) only [ev0, sl_cells, simprocAttr]; refine hk _ _ ?_; clear hk k) | refine ono rfl ?_ | ((first | refine osplitG rfl (fun h => ?_) (fun h => ?_) | refine osplitB rfl (fun h => ?_) (fun h => ?_)) <;> (fail_if_success (simp only [eq_self, reduceCtorEq] at h))) | refine onx ?_ | refine onb ?_ | refine sreg ?_ | refine qT rfl ?_ | refine qF rfl ?_ | refine scondT rfl ?_ | refine scondF rfl ?_ | refine ocondP rfl (fun h => ?_) (fun h => ?_) | refine ocondB rfl (fun h => ?_) (fun h => ?_) | refine scondP rfl (fun h => ?_) (fun h => ?_) | refine scond rfl (fun h => ?_) (fun h => ?_) | refine oskip ?_ | refine oskipb ?_ | refine oret ?_ | refine sem_ret ?_ | refine sem_seq ?_ | refine sreg1 ?_)
      exact ⟨_, rfl, _, rfl, tree_rowF (enc := intsCs) rfl (fun _ => rfl) (fun _ => rfl)⟩
end Go.Proofs.YtibgfmhddcibcaaDoor
