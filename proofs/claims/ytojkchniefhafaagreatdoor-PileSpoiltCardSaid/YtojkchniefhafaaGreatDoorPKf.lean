/- The document's examples: the first fault. -/
import Derived.Test.YtojkchniefhafaaGreatDoorPKx
set_option maxRecDepth 100000
set_option linter.unusedVariables false
namespace Go.Proofs.YtojkchniefhafaaGreatDoor
open Go Go.Av Go.Tk
variable {G : World → Prop} (hG : ∀ w w', G w → RowKit.Below w.heap.size w w' → G w') (hT : ∀ w, G w → GB w)
include hG hT
theorem kn_Fault : Holds Tryz.prog G F.pile_Fault [.agg siteT.cs, slOf spansCs thawT, slOf intCs [0, 0]] (.tup [.agg [I 1, I 5, I 0], I 0]) := holds_match (T := T) (X := X) (n := 3000) (kok hG (hX hT)) hG (fnok_of rfl) (by kernel_rfl)
end Go.Proofs.YtojkchniefhafaaGreatDoor
