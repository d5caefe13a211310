/- The reference: a text is read. -/
import Derived.Test.YtojkchniefhafaaGreatDoorPY14
import Derived.Test.YtojkchniefhafaaGreatDoorPY12
set_option linter.unusedVariables false
set_option linter.unusedSimpArgs false
set_option linter.unusedSectionVars false
set_option maxRecDepth 8000
set_option maxHeartbeats 4000000
namespace Go.Tk
open Go Go.Av
theorem mem_getD {α : Type} [Inhabited α] {l : List α} {i : Nat} (h : i < l.length) : l.getD i default ∈ l := by
  rw [getD_lt h]; exact List.getElem_mem _
/-- What the reference gives of a text. -/
def refE (T : Bts) (ae : AEnd) : Prop := (∃ l p, validT T l p ∧ ae = .ret (.tup [slOf intsCs l, B true])) ∨ ((∀ l p, ¬ validT T l p) ∧ ∃ x, (x = .nilsl ∨ ∃ R : List (List Int), x = slOf intsCs R) ∧ ae = .ret (.tup [x, B false]))
/-- Lines that have been read, as the reference reads them. -/
structure rdF (T : Bts) (p : Nat) (y : Nat) (R : List (List Int)) : Prop where
  len : R.length = y
  row : ∀ j, j < y → (R.getD j default).length = p ∧ ∀ n ∈ R.getD j default, n.natAbs ≤ 999999999
  short : ∀ j, j < y → (R.getD j default).length ≤ 25000
  val : ∀ l q, validT T l q → q = p ∧ l.length + 3 = (splitL 10 T).length ∧ R = l.take y
section
variable {T : Bts} {p y : Nat} {R : List (List Int)} (hr : rdF T p y R) (hy : y + 3 < (splitL 10 T).length)
include hr hy
/-- The words of a line that have been read. -/
structure rwF (T : Bts) (y : Nat) (j : Nat) (W : List Int) : Prop where
  len : W.length = j
  bd : ∀ n ∈ W, n.natAbs ≤ 999999999
  val : ∀ l q, validT T l q → W = (l.getD y default).take j
variable {j : Nat} {W : List Int} (hw : rwF T y j W)
include hw
end
end Go.Tk
namespace Go.Proofs.YtojkchniefhafaaGreatDoor
open Go Go.Av Go.Tk
attribute [local irreducible] Holds sem semL ACalls FnIs strB numR
variable {K : Ctx} (hP : K.P = Tryz.prog) (hGK : ∀ w w', K.G w → RowKit.Below w.heap.size w w' → K.G w')
include hP hGK
end Go.Proofs.YtojkchniefhafaaGreatDoor
