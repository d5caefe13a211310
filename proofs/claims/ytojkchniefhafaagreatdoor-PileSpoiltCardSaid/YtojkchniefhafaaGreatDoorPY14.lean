/- The reference: a number is read. -/
import Derived.Test.YtojkchniefhafaaGreatDoorPY13
set_option linter.unusedVariables false
set_option linter.unusedSimpArgs false
set_option linter.unusedSectionVars false
set_option maxRecDepth 8000
set_option maxHeartbeats 2000000
namespace Go.Tk
open Go Go.Av
def allD (d : Bts) : Prop := ∀ j, j < d.length → isD (d.getD j default) = true
instance (d : Bts) : Decidable (allD d) := by unfold allD; infer_instance
/-- What the reference reads of a word. -/
def numR (w : Bts) : Int × Bool := if (bareB w).length = 0 ∨ 9 < (bareB w).length ∨ ¬ allD (bareB w) then (0, false) else
  (if w = bareB w then (digV 0 (bareB w) : Int) else -(digV 0 (bareB w) : Int), Lib.itoa (if w = bareB w then (digV 0 (bareB w) : Int) else -(digV 0 (bareB w) : Int)) == w)
theorem wrap_u8' {x : Int} (h : 0 ≤ x ∧ x ≤ 255) : IntKind.u8.wrap x = x := by
  obtain ⟨n, rfl⟩ := Int.eq_ofNat_of_zero_le h.1
  have hb : IntKind.u8.bits = 8 := rfl
  have hs : IntKind.u8.signed = false := rfl
  simp only [IntKind.wrap, hb, hs, Bool.false_and, Bool.false_eq_true, if_false]
  omega
end Go.Tk
namespace Go.Proofs.YtojkchniefhafaaGreatDoor
open Go Go.Av Go.Tk
attribute [local irreducible] Holds sem semL ACalls FnIs strB numR
variable {G : World → Prop} (hG : ∀ w w', G w → RowKit.Below w.heap.size w w' → G w')
include hG
end Go.Proofs.YtojkchniefhafaaGreatDoor
