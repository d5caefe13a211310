/- SpeakCounts over trees. -/
import Derived.Test.YtcllnnjeaidppaaGreatDoorPW9
set_option linter.unusedVariables false
set_option linter.unusedSimpArgs false
set_option linter.unusedSectionVars false
set_option maxRecDepth 8000
set_option maxHeartbeats 4000000
namespace Go.Proofs.YtcllnnjeaidppaaGreatDoor
open Go Go.Av Go.Tk
attribute [local irreducible] Holds sem semL ACalls FnIs countV
variable {G : World → Prop} (hG : ∀ w w', G w → RowKit.Below w.heap.size w w' → G w') (hT : ∀ w, G w → GB w)
include hG hT
end Go.Proofs.YtcllnnjeaidppaaGreatDoor
