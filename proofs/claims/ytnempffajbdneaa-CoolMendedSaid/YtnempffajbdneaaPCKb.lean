/- The document's examples: the best coolers. -/
import Derived.Test.YtnempffajbdneaaPCKx
set_option maxRecDepth 100000
set_option linter.unusedVariables false
namespace Go.Proofs.Ytnempffajbdneaa
open Go Go.Av Go.Tk
variable {G : World → Prop} (hG : ∀ w w', G w → RowKit.Below w.heap.size w w' → G w')
include hG
theorem kn_Best : Holds Try.prog G F.cool_Best [.agg townT.cs, I 0] (.tup [slOf intCs [1, 3], I 950, I 0]) := holds_match (T := T) (X := X0) (n := 3000) (kok hG (fun _ _ _ h => by cases h)) hG (fnok_of rfl) (by kernel_rfl)
end Go.Proofs.Ytnempffajbdneaa
