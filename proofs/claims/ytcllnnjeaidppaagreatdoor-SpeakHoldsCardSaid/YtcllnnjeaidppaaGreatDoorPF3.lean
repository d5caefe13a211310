/- All places that a report allows. -/
import Derived.Test.YtcllnnjeaidppaaGreatDoorPF2
import Derived.Test.YtcllnnjeaidppaaGreatDoorPS0
import Derived.Test.YtcllnnjeaidppaaGreatDoorPAv43
set_option linter.unusedVariables false
set_option linter.unusedSimpArgs false
set_option linter.unusedSectionVars false
set_option maxRecDepth 8000
set_option maxHeartbeats 2000000
namespace Go.Tk
open Go Go.Av
end Go.Tk
namespace Go.Proofs.YtcllnnjeaidppaaGreatDoor
open Go Go.Av Go.Tk
attribute [local irreducible] Holds sem semL ACalls FnIs
variable {G : World → Prop} (hG : ∀ w w', G w → RowKit.Below w.heap.size w w' → G w')
include hG
end Go.Proofs.YtcllnnjeaidppaaGreatDoor
