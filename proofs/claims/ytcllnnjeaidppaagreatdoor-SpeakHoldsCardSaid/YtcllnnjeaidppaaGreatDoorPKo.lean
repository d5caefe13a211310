/- The document's examples, all of them. -/
import Derived.Test.YtcllnnjeaidppaaGreatDoorPKx
set_option maxRecDepth 100000
set_option linter.unusedVariables false
namespace Go.Proofs.YtcllnnjeaidppaaGreatDoor
open Go Go.Av Go.Tk
variable {G : World → Prop} (hG : ∀ w w', G w → RowKit.Below w.heap.size w w' → G w') (hT : ∀ w, G w → GB w)
include hG hT
theorem law09_known : Holds Tryz.prog G F.law09_known [] (B true) := holds_match (T := T) (X := X) (n := 4000) (kok hG (hX hT)) hG (fnok_of rfl) (by kernel_rfl)
end Go.Proofs.YtcllnnjeaidppaaGreatDoor
