/- Votes counted: the reference. -/
import Derived.Test.YtcllnnjeaidppaaGreatDoorPW8
set_option linter.unusedVariables false
set_option linter.unusedSimpArgs false
set_option linter.unusedSectionVars false
set_option maxRecDepth 8000
set_option maxHeartbeats 8000000
namespace Go.Tk
open Go Go.Av
def hereM (g f : Nat → Int) (l : Int) (k : Nat) : Nat := (List.range k).countP fun j => decide (g j = l ∧ f j ≠ 0)
end Go.Tk
namespace Go.Proofs.YtcllnnjeaidppaaGreatDoor
open Go Go.Av Go.Tk
attribute [local irreducible] Holds sem semL ACalls FnIs cntM grpM mnOf hereM meansR passV
variable {G : World → Prop} (hG : ∀ w w', G w → RowKit.Below w.heap.size w w' → G w') (hT : ∀ w, G w → GB w)
include hG hT
end Go.Proofs.YtcllnnjeaidppaaGreatDoor
