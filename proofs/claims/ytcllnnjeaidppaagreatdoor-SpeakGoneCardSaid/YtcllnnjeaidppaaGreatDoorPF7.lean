/- A river: the reference's places; the law of places. -/
import Derived.Test.YtcllnnjeaidppaaGreatDoorPF6
import Derived.Test.YtcllnnjeaidppaaGreatDoorPKo
set_option linter.unusedVariables false
set_option linter.unusedSimpArgs false
set_option linter.unusedSectionVars false
set_option maxRecDepth 8000
set_option maxHeartbeats 4000000
namespace Go.Proofs.YtcllnnjeaidppaaGreatDoor
open Go Go.Av Go.Tk
attribute [local irreducible] Holds sem semL ACalls FnIs
section
variable {G : World → Prop} (hG : ∀ w w', G w → RowKit.Below w.heap.size w w' → G w')
include hG
end
end Go.Proofs.YtcllnnjeaidppaaGreatDoor
