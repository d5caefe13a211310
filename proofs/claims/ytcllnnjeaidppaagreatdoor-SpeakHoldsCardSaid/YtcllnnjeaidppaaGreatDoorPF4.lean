/- All places that a report allows: the program. -/
import Derived.Test.YtcllnnjeaidppaaGreatDoorPF3
set_option linter.unusedVariables false
set_option linter.unusedSimpArgs false
set_option linter.unusedSectionVars false
set_option maxRecDepth 8000
set_option maxHeartbeats 4000000
namespace Go.Tk
open Go Go.Av
theorem any_not {α : Type} {l : List α} {p : α → Prop} [DecidablePred p] : (l.any fun x => !decide (p x)) = !decide (∀ x ∈ l, p x) := by
  rw [Bool.eq_iff_iff]
  simp
end Go.Tk
namespace Go.Proofs.YtcllnnjeaidppaaGreatDoor
open Go Go.Av Go.Tk
attribute [local irreducible] Holds sem semL ACalls FnIs
variable {G : World → Prop} (hG : ∀ w w', G w → RowKit.Below w.heap.size w w' → G w')
include hG
end Go.Proofs.YtcllnnjeaidppaaGreatDoor
