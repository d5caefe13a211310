/- A river: the spot to which a step leads. -/
import Derived.Test.YtcllnnjeaidppaaGreatDoorPF1
set_option linter.unusedVariables false
set_option linter.unusedSimpArgs false
set_option linter.unusedSectionVars false
set_option maxRecDepth 8000
set_option maxHeartbeats 2000000
namespace Go.Tk
open Go Go.Av
/-- The walk along a list of spots: so often has the kind been met. -/
structure metS (riv : List Spot) (k : Int) (l : List Nat) (c : Int) (i : Nat) (m : Int) : Prop where
  met : m = metC riv k (l.take i)
  lt : m < c
end Go.Tk
namespace Go.Proofs.YtcllnnjeaidppaaGreatDoor
open Go Go.Av Go.Tk
attribute [local irreducible] Holds sem semL ACalls FnIs
variable {G : World → Prop} (hG : ∀ w w', G w → RowKit.Below w.heap.size w w' → G w')
include hG
end Go.Proofs.YtcllnnjeaidppaaGreatDoor
