/- The reference: a text is read. -/
import Derived.Test.YtojkchniefhafaaGreatDoorPY14
import Derived.Test.YtojkchniefhafaaGreatDoorPY12
set_option linter.unusedVariables false
set_option linter.unusedSimpArgs false
set_option linter.unusedSectionVars false
set_option maxRecDepth 8000
set_option maxHeartbeats 4000000
namespace Go.Tk
open Go Go.Av
theorem mem_getD {α : Type} [Inhabited α] {l : List α} {i : Nat} (h : i < l.length) : l.getD i default ∈ l := by
  rw [getD_lt h]; exact List.getElem_mem _
theorem split_snoc {c : UInt8} : ∀ a : Bts, splitL c (a ++ [c]) = splitL c a ++ [[]]
  | [] => by simp [splitL]
  | b :: a => by
    have ih := split_snoc (c := c) a
    have hne := split_ne c a
    rw [List.cons_append]
    unfold splitL
    by_cases hb : b = c
    · rw [if_pos hb, if_pos hb, ih]; rfl
    · rw [if_neg hb, if_neg hb, ih]
      cases hs : splitL c a with
      | nil => exact absurd hs hne
      | cons w r => rfl
/-- The lines of a book, as the reference splits them. -/
theorem valid_ls {T : Bts} {l : List (List Int)} {p : Nat} (h : validT T l p) : splitL 10 T = linesL l p ++ [[]] := by
  obtain ⟨b, hb, hs⟩ := valid_lines h
  rw [hb, split_snoc, hs]
theorem ls_getD {T : Bts} {l : List (List Int)} {p : Nat} (h : validT T l p) {i : Nat} (hi : i < l.length + 2) : (splitL 10 T).getD i default = (linesL l p).getD i default := by
  have hl := lines_len l p
  rw [valid_ls h, getD_lt (by simp; omega), getD_lt (by omega), List.getElem_append_left (by omega)]
/-- What the reference gives of a text. -/
def refE (T : Bts) (ae : AEnd) : Prop := (∃ l p, validT T l p ∧ ae = .ret (.tup [slOf intsCs l, B true])) ∨ ((∀ l p, ¬ validT T l p) ∧ ∃ x, (x = .nilsl ∨ ∃ R : List (List Int), x = slOf intsCs R) ∧ ae = .ret (.tup [x, B false]))
/-- Lines that have been read, as the reference reads them. -/
structure rdF (T : Bts) (p : Nat) (y : Nat) (R : List (List Int)) : Prop where
  len : R.length = y
  row : ∀ j, j < y → (R.getD j default).length = p ∧ ∀ n ∈ R.getD j default, n.natAbs ≤ 999999999
  short : ∀ j, j < y → (R.getD j default).length ≤ 25000
  val : ∀ l q, validT T l q → q = p ∧ l.length + 3 = (splitL 10 T).length ∧ R = l.take y
section
variable {T : Bts} {p y : Nat} {R : List (List Int)} (hr : rdF T p y R) (hy : y + 3 < (splitL 10 T).length)
include hr hy
/-- The words of a line that have been read. -/
structure rwF (T : Bts) (y : Nat) (j : Nat) (W : List Int) : Prop where
  len : W.length = j
  bd : ∀ n ∈ W, n.natAbs ≤ 999999999
  val : ∀ l q, validT T l q → W = (l.getD y default).take j
variable {j : Nat} {W : List Int} (hw : rwF T y j W)
include hw
end
end Go.Tk
namespace Go.Proofs.YtojkchniefhafaaGreatDoor
open Go Go.Av Go.Tk
attribute [local irreducible] Holds sem semL ACalls FnIs strB numR
variable {K : Ctx} (hP : K.P = Tryz.prog) (hGK : ∀ w w', K.G w → RowKit.Below w.heap.size w w' → K.G w')
include hP hGK
end Go.Proofs.YtojkchniefhafaaGreatDoor
