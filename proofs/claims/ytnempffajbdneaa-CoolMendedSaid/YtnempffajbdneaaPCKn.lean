/- The document's examples, call by call: reckoned by the evaluator, checked by the kernel. -/
import Derived.Test.YtnempffajbdneaaPCKx
set_option maxRecDepth 100000
set_option linter.unusedVariables false
namespace Go.Proofs.Ytnempffajbdneaa
open Go Go.Av Go.Tk
variable {G : World → Prop} (hG : ∀ w w', G w → RowKit.Below w.heap.size w w' → G w')
include hG
theorem kn_T : Holds Try.prog G F.law03_T [] (.agg townT.cs) := holds_match (T := T) (X := X0) (n := 3000) (kok hG (fun _ _ _ h => by cases h)) hG (fnok_of rfl) (by kernel_rfl)
theorem kn_Keeps : Holds Try.prog G F.cool_Keeps [.agg townT.cs, slOf intCs [1, 3], I 0] (.tup [B true, I 0]) := holds_match (T := T) (X := X0) (n := 3000) (kok hG (fun _ _ _ h => by cases h)) hG (fnok_of rfl) (by kernel_rfl)
theorem kn_Break : Holds Try.prog G F.cool_Break [.agg townT.cs, slOf intCs [1, 3], I 1] (.tup [I 0, slOf intCs [1], I 0]) := holds_match (T := T) (X := X0) (n := 3000) (kok hG (fun _ _ _ h => by cases h)) hG (fnok_of rfl) (by kernel_rfl)
theorem kn_Bears : Holds Try.prog G F.cool_Bears [.agg townT.cs, slOf intCs [0, 1, 2, 3]] (.tup [I 1, I 0]) := holds_match (T := T) (X := X0) (n := 3000) (kok hG (fun _ _ _ h => by cases h)) hG (fnok_of rfl) (by kernel_rfl)
theorem kn_Floor : Holds Try.prog G F.cool_Floor [.agg townT.cs, I 1] (.tup [I 3, I 0]) := holds_match (T := T) (X := X0) (n := 3000) (kok hG (fun _ _ _ h => by cases h)) hG (fnok_of rfl) (by kernel_rfl)
theorem kn_Again : Holds Try.prog G F.cool_Again [.agg townT.cs, slOf intCs [0, 1, 2, 3], slOf intCs [3, 1]] (.tup [slOf intCs [4, 0], I 0]) := holds_match (T := T) (X := X0) (n := 3000) (kok hG (fun _ _ _ h => by cases h)) hG (fnok_of rfl) (by kernel_rfl)
theorem kn_Repair : Holds Try.prog G F.cool_Repair [.agg townT.cs, slOf intCs [0, 1, 2, 3], slOf intCs [1, 3]] (.tup [slOf intCs [1, 3], I 0]) := holds_match (T := T) (X := X0) (n := 3000) (kok hG (fun _ _ _ h => by cases h)) hG (fnok_of rfl) (by kernel_rfl)
theorem kn_Same1 : Holds Try.prog G F.ref03_Same [slOf intCs [1], slOf intCs [1]] (B true) := holds_match (T := T) (X := X0) (n := 3000) (kok hG (fun _ _ _ h => by cases h)) hG (fnok_of rfl) (by kernel_rfl)
theorem kn_Same2 : Holds Try.prog G F.ref03_Same [slOf intCs [1, 3], slOf intCs [1, 3]] (B true) := holds_match (T := T) (X := X0) (n := 3000) (kok hG (fun _ _ _ h => by cases h)) hG (fnok_of rfl) (by kernel_rfl)
theorem kn_Same3 : Holds Try.prog G F.ref03_Same [slOf intCs [4, 0], slOf intCs [4, 0]] (B true) := holds_match (T := T) (X := X0) (n := 3000) (kok hG (fun _ _ _ h => by cases h)) hG (fnok_of rfl) (by kernel_rfl)
end Go.Proofs.Ytnempffajbdneaa
