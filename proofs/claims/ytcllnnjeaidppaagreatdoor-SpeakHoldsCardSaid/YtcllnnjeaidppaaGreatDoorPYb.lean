/- What the book laws build on: searches through a slice by a function value. -/
import Derived.Test.YtcllnnjeaidppaaGreatDoorPIt
set_option maxRecDepth 8000
namespace Go.Proofs.YtcllnnjeaidppaaGreatDoor
open Go Go.Av Go.Tk
theorem hmix : Tryz.prog.follows .mixedOrders = true := by kernel_rfl
end Go.Proofs.YtcllnnjeaidppaaGreatDoor
set_option linter.unusedVariables false
set_option linter.unusedSimpArgs false
namespace Go.Proofs.YtcllnnjeaidppaaGreatDoor
open Go Go.Av Go.Tk

def idxI : Option Nat → Int
  | some i => i
  | none => -1

def IFl (sz : Nat) (agg : Bool) : SCode := .seq (.reg [⟨some 9, none, .bin .lss (.t 8) (.t 7)⟩]) (.seq (.cond (.t 9) .skip (.exit 0)) (.seq (.block 1 (.seq (.reg [⟨some 10, none, .mv (.t 8)⟩, ⟨some 5, none, .mv (.t 10)⟩]) (.seq (.reg [⟨some 11, none, .mv (.t 1)⟩, ⟨some 12, none, .mv (.t 0)⟩, ⟨some 13, none, .mv (.t 5)⟩, ⟨some 14, none, .ixS sz (.t 12) (.t 13)⟩, ⟨some 15, none, .load agg sz (.t 14)⟩, ⟨some 16, none, .dyn (.t 11) [.t 15]⟩]) (.cond (.t 16) (.seq (.reg [⟨some 17, none, .mv (.t 5)⟩, ⟨some 4, none, .mv (.t 17)⟩]) .ret) .skip)))) (.reg [⟨some 18, none, .bin .add (.t 8) (.c (.int .i64 1))⟩, ⟨some 8, none, .mv (.t 18)⟩])))
def IFc (sz : Nat) (agg : Bool) : SCode := .seq (.reg [⟨some 4, none, .mv (.c (.int .i64 0))⟩]) (.seq (.seq (.reg [⟨some 6, none, .mv (.t 0)⟩, ⟨some 7, none, .len (.t 6)⟩, ⟨some 8, none, .mv (.c (.int .i64 0))⟩]) (.block 0 (.loop (IFl sz agg)))) (.seq (.reg [⟨some 4, none, .mv (.c (.int .i64 (-1)))⟩]) .ret))

/-- The element as it is loaded. -/
def elemOf (agg : Bool) (cs : List AV) : AV := match agg with | true => .agg cs | false => cs.getD 0 .dead

theorem oS {K : Ctx} {F : Fcx} {Q : AExit → St → Prop} {env : List (Nat × AV)} {μ μ' : List AObj} {d : Nat} {op : SOp} {x : AV} {l : List SOper} (hs : sopA op env μ = some (x, μ')) (h : semL K F l ⟨(d, x) :: env, μ'⟩ Q) : semL K F (⟨some d, none, op⟩ :: l) ⟨env, μ⟩ Q :=
  semL_op (σ := ⟨env, μ⟩) rfl hs h

theorem ix_elem {α : Type} [Inhabited α] {enc : α → List AV} {l : List α} {i sz : Nat} (hi : i < l.length) (hsz : ∀ a, (enc a).length = sz) (μ : List AObj) : ixS sz (.sl l.length fun i => enc (l.getD i default)) (I i) μ = some (.tptr (enc l[i]) 0) := by
  simp only [ixS]
  rw [if_pos ⟨by omega, by omega⟩, Int.toNat_natCast, if_pos (hsz _), getD_lt hi]

theorem load_elem {cs : List AV} {sz : Nat} {agg : Bool} (hsz : cs.length = sz) (h1 : agg = false → sz = 1) (μ : List AObj) : loadA agg sz (.tptr cs 0) μ = some (elemOf agg cs) := by
  cases agg with
  | true =>
    simp only [loadA, place, if_true, Nat.zero_add, List.drop_zero, elemOf]
    rw [if_pos (by omega), List.take_of_length_le (by omega)]
  | false =>
    have := h1 rfl
    subst this
    match cs, hsz with
    | [x], _ => rfl

attribute [local irreducible] Holds sem semL ACalls FnIs
variable {G : World → Prop} (hG : ∀ w w', G w → RowKit.Below w.heap.size w w' → G w')
include hG

theorem indexFunc {P : Program} {α : Type} [Inhabited α] {f m sz : Nat} {agg : Bool} (hf : FnIs P f m (IFc sz agg) [.tmp 4]) (hm : 2 ≤ m) (enc : α → List AV) (hsz : ∀ a, (enc a).length = sz) (h1 : agg = false → sz = 1) (htr : ∀ a, treeL (enc a) = true) (l : List α) (hlen : l.length ≤ 4611686018427387904)
    {g : Nat} {fi ca : List AV} (ht : treeL fi = true) (ht2 : treeL ca = true) (p : α → Bool) (hp : ∀ a ∈ l, Holds P G g (fi ++ [elemOf agg (enc a)] ++ ca) (.bool (p a))) :
    Holds P G f [slOf enc l, .fn (.func g) fi ca] (I (idxI (l.findIdx? p))) := by
  refine holds_of_sem hG hf (by simpa using hm) fun w0 S0 hG0 D0 => ?_
  unfold IFc enterEnv
  simp only [List.zipIdx_cons, List.zipIdx_nil, List.map_cons, List.map_nil, Nat.zero_add, Nat.reduceAdd]
  refine sreg ?_
  repeat (first | ((first | refine o1 rfl ?_ | refine o0 rfl ?_); intro k hk; simp (disch := omega) only [ev0, sl_cells, simprocAttr]; refine hk _ _ ?_; clear hk k) | refine ono rfl ?_)
  refine onx (sem_seq (sreg ?_))
  repeat (first | ((first | refine o1 rfl ?_ | refine o0 rfl ?_); intro k hk; simp (disch := omega) only [ev0, sl_cells, simprocAttr, slOf]; refine hk _ _ ?_; clear hk k) | refine ono rfl ?_)
  refine onx (sem_block ?_)
  refine sem_loop (α := Nat) (fun i => ⟨[(0, slOf enc l), (1, .fn (.func g) fi ca), (7, I l.length), (8, I i)], []⟩) (fun i => i ≤ l.length ∧ ∀ j, j < i → ∀ a, l[j]? = some a → p a = false) (fun i => l.length - i) 0 ⟨Nat.zero_le _, fun j hj => absurd hj (Nat.not_lt_zero _)⟩ ?_ ?_
  · (refine Le.same ?_; simp only [List.forall_mem_cons, List.forall_mem_nil, getE, selE, Nat.reduceBEq, List.not_mem_nil, false_implies, implies_true, and_true, true_and, and_self])
    simp [slOf]
  · rintro i ⟨hi, hall⟩
    unfold IFl
    refine sem_seq (sreg1 ?_)
    repeat (first | ((first | refine o1 rfl ?_ | refine o0 rfl ?_); intro k hk; simp (disch := omega) only [ev0, sl_cells, simprocAttr]; refine hk _ _ ?_; clear hk k) | refine ono rfl ?_)
    refine onx (sem_seq (scondP (by (simp only [wv, simprocAttr] <;> rfl)) (fun h => ?_) (fun h => ?_)))
    · have hg : l.getD i default = l[i] := getD_lt (by omega)
      have htl : treeL (fi ++ [elemOf agg (enc (l.getD i default))] ++ ca) = true := treeL_append (treeL_append ht (by
        simp only [treeL, Bool.and_true, elemOf]
        cases agg with
        | true => exact htr _
        | false =>
          have := hsz (l.getD i default)
          rw [h1 rfl] at this
          match h2 : enc (l.getD i default), this with
          | [x], _ =>
            have := htr (l.getD i default)
            rw [h2] at this
            simpa [treeL] using this)) ht2
      refine sem_skip (nx (sem_seq (sem_block (sem_seq (sreg1 ?_)))))
      repeat (first | ((first | refine o1 rfl ?_ | refine o0 rfl ?_); intro k hk; simp (disch := omega) only [ev0, sl_cells, simprocAttr]; refine hk _ _ ?_; clear hk k) | refine ono rfl ?_)
      refine onx (sem_seq (sreg1 ?_))
      repeat (first | ((first | refine o1 rfl ?_ | refine o0 rfl ?_); intro k hk; simp (disch := omega) only [ev0, sl_cells, simprocAttr, slOf]; refine hk _ _ ?_; clear hk k) | refine ono rfl ?_)
      refine oS (by simp only [sopA, evX, getE, selE, Nat.reduceBEq, ix_elem (show i < l.length by omega) hsz, withMu, Option.map_some]; rfl) ?_
      refine oS (by simp only [sopA, evX, getE, selE, Nat.reduceBEq, load_elem (hsz l[i]) h1, withMu, Option.map_some]; rfl) ?_
      rw [hg] at htl
      (apply odyn; (case hx => (simp only [ev0, sl_cells, simprocAttr] <;> rfl)); (case he => (simp only [ev0, sl_cells, simprocAttr] <;> rfl)); (case hc => exact hp l[i] (List.getElem_mem _)); (case ht => first | rfl | assumption); (case hg => rfl))
      refine onx (scond (by (simp only [wv, simprocAttr] <;> rfl)) (fun hc => ?_) (fun hc => ?_))
      · refine sreg ?_
        repeat (first | ((first | refine o1 rfl ?_ | refine o0 rfl ?_); intro k hk; simp (disch := omega) only [ev0, sl_cells, simprocAttr]; refine hk _ _ ?_; clear hk k) | refine ono rfl ?_)
        refine onx (sem_ret ?_)
        have : l.findIdx? p = some i := by
          rw [List.findIdx?_eq_some_iff_getElem]
          exact ⟨by omega, hc, fun j hj => by have := hall j hj _ (List.getElem?_eq_getElem (by omega)); simp [this]⟩
        exact ⟨_, rfl, _, rfl, tree_eq rfl (by simp [getE, selE, this, idxI])⟩
      · refine sem_skip ?_
        refine (show sem _ _ _ _ _ from sreg1 ?_)
        repeat (first | ((first | refine o1 rfl ?_ | refine o0 rfl ?_); intro k hk; simp (disch := omega) only [ev0, sl_cells, simprocAttr]; refine hk _ _ ?_; clear hk k) | refine ono rfl ?_)
        refine onil (lnext (i + 1) ⟨by omega, fun j hj a ha => ?_⟩ (by omega) ?_)
        · by_cases hji : j = i
          · subst hji
            rw [List.getElem?_eq_getElem (by omega)] at ha
            cases ha; exact hc
          · exact hall j (by omega) a ha
        · (refine Le.same ?_; simp only [List.forall_mem_cons, List.forall_mem_nil, getE, selE, Nat.reduceBEq, List.not_mem_nil, false_implies, implies_true, and_true, true_and, and_self])
          simp
    · have hi' : i = l.length := by omega
      subst hi'
      refine sem_exit ?_
      change sem _ _ _ _ _
      refine sreg ?_
      repeat (first | ((first | refine o1 rfl ?_ | refine o0 rfl ?_); intro k hk; simp (disch := omega) only [ev0, sl_cells, simprocAttr]; refine hk _ _ ?_; clear hk k) | refine ono rfl ?_)
      refine onx (sem_ret ?_)
      have : l.findIdx? p = none := by
        rw [List.findIdx?_eq_none_iff]
        intro a ha
        obtain ⟨j, hj⟩ := List.getElem?_of_mem ha
        exact hall j (List.getElem?_eq_some_iff.1 hj).1 a hj
      exact ⟨_, rfl, _, rfl, tree_eq rfl (by simp [getE, selE, this, idxI])⟩

def CFc (f : Nat) : SCode := .seq (.reg [⟨some 4, none, .mv (.c (.bool false))⟩]) (.seq (.reg [⟨some 5, none, .mv (.t 0)⟩, ⟨some 6, none, .mv (.t 1)⟩, ⟨some 7, none, .call f [.t 5, .t 6]⟩, ⟨some 8, none, .bin .geq (.t 7) (.c (.int .i64 0))⟩, ⟨some 4, none, .mv (.t 8)⟩]) .ret)

omit hG in
theorem idxI_any {α : Type} (l : List α) (p : α → Bool) : decide (0 ≤ idxI (l.findIdx? p)) = l.any p := by
  cases h : l.findIdx? p with
  | none =>
    rw [List.findIdx?_eq_none_iff] at h
    have : l.any p = false := by simpa [List.any_eq_false] using h
    simp [idxI, this]
  | some i =>
    have h' := List.findIdx?_isSome (xs := l) (p := p)
    rw [h] at h'
    simp [idxI, ← h']

theorem containsFunc {P : Program} {α : Type} [Inhabited α] {f f' m m' sz : Nat} {agg : Bool} (hc : FnIs P f' m' (CFc f) [.tmp 4]) (hm' : 2 ≤ m') (hf : FnIs P f m (IFc sz agg) [.tmp 4]) (hm : 2 ≤ m) (enc : α → List AV) (hsz : ∀ a, (enc a).length = sz) (h1 : agg = false → sz = 1) (htr : ∀ a, treeL (enc a) = true) (l : List α) (hlen : l.length ≤ 4611686018427387904)
    {g : Nat} {fi ca : List AV} (ht : treeL fi = true) (ht2 : treeL ca = true) (p : α → Bool) (hp : ∀ a ∈ l, Holds P G g (fi ++ [elemOf agg (enc a)] ++ ca) (.bool (p a))) :
    Holds P G f' [slOf enc l, .fn (.func g) fi ca] (B (l.any p)) := by
  refine holds_of_sem hG hc (by simpa using hm') fun w0 S0 hG0 D0 => ?_
  unfold CFc enterEnv
  simp only [List.zipIdx_cons, List.zipIdx_nil, List.map_cons, List.map_nil, Nat.zero_add, Nat.reduceAdd]
  refine sreg ?_
  repeat (first | ((first | refine o1 rfl ?_ | refine o0 rfl ?_); intro k hk; simp (disch := omega) only [ev0, sl_cells, simprocAttr]; refine hk _ _ ?_; clear hk k) | refine ono rfl ?_)
  refine onx (sreg ?_)
  repeat (first | ((first | refine o1 rfl ?_ | refine o0 rfl ?_); intro k hk; simp (disch := omega) only [ev0, sl_cells, simprocAttr]; refine hk _ _ ?_; clear hk k) | refine ono rfl ?_)
  have htl : treeL [slOf enc l, .fn (.func g) fi ca] = true := by simp [treeL, treeA, slOf, ht, ht2]
  refine ocall («as» := [slOf enc l, .fn (.func g) fi ca]) (by simp only [evX, getE, selE, Nat.reduceBEq, List.map_cons, List.map_nil]) (indexFunc hG hf hm enc hsz h1 htr l hlen ht ht2 p hp) htl rfl ?_
  repeat (first | ((first | refine o1 rfl ?_ | refine o0 rfl ?_); intro k hk; simp (disch := omega) only [ev0, sl_cells, simprocAttr]; refine hk _ _ ?_; clear hk k) | refine ono rfl ?_)
  refine onx (sem_ret ?_)
  exact ⟨_, rfl, _, rfl, tree_eq rfl (by simp only [getE, selE, Nat.reduceBEq]; rw [← idxI_any])⟩

end Go.Proofs.YtcllnnjeaidppaaGreatDoor
