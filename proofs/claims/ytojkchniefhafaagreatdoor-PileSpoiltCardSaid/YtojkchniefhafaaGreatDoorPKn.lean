/- The document's examples, call by call: reckoned by the evaluator, checked by the kernel. -/
import Derived.Test.YtojkchniefhafaaGreatDoorPKx
set_option maxRecDepth 100000
set_option linter.unusedVariables false
namespace Go.Proofs.YtojkchniefhafaaGreatDoor
open Go Go.Av Go.Tk
variable {G : World → Prop} (hG : ∀ w w', G w → RowKit.Below w.heap.size w w' → G w') (hT : ∀ w, G w → GB w)
include hG hT
theorem kn_Site : Holds Tryz.prog G F.law02_Site [] (.agg siteT.cs) := holds_match (T := T) (X := X) (n := 3000) (kok hG (hX hT)) hG (fnok_of rfl) (by kernel_rfl)
theorem kn_Thaws : Holds Tryz.prog G F.law02_Thaws [I 2] (slOf spansCs thawT) := holds_match (T := T) (X := X) (n := 3000) (kok hG (hX hT)) hG (fnok_of rfl) (by kernel_rfl)
theorem kn_Levels : Holds Tryz.prog G F.pile_Levels [.agg siteT.cs, slOf spansCs thawT, slOf intCs [0, 0]] (.tup [slOf spansCs levelsT, I 0]) := holds_match (T := T) (X := X) (n := 3000) (kok hG (hX hT)) hG (fnok_of rfl) (by kernel_rfl)
theorem kn_Ready : Holds Tryz.prog G F.pile_Ready [.agg (Pile.cs ⟨8000, 20, 30, ⟨100, 120⟩, 230, 5⟩), .agg [I 1000, I 2000], slOf cureCs [(2, 300), (4, 650), (8, 1000)]] (.tup [I 4, I 0]) := holds_match (T := T) (X := X) (n := 3000) (kok hG (hX hT)) hG (fnok_of rfl) (by kernel_rfl)
theorem kn_Print : Holds Tryz.prog G F.pile_Print [slOf intsCs [[-9, -4], [0, -8]]] (.tup [.str ⟨#[108, 101, 118, 101, 108, 115, 32, 50, 32, 50, 10, 121, 101, 97, 114, 32, 48, 32, 45, 57, 32, 45, 52, 10, 121, 101, 97, 114, 32, 49, 32, 48, 32, 45, 56, 10, 101, 110, 100, 32, 49, 48, 53, 10]⟩, I 0]) := holds_match (T := T) (X := X) (n := 3000) (kok hG (hX hT)) hG (fnok_of rfl) (by kernel_rfl)
theorem kn_SameSpans : Holds Tryz.prog G F.ref02_SameSpans [slOf spansCs levelsT, slOf spansCs levelsT] (B true) := holds_match (T := T) (X := X) (n := 3000) (kok hG (hX hT)) hG (fnok_of rfl) (by kernel_rfl)
theorem kn_Same : Holds Tryz.prog G F.ref02_Same [slOf intCs [1, 0], slOf intCs [1, 0]] (B true) := holds_match (T := T) (X := X) (n := 3000) (kok hG (hX hT)) hG (fnok_of rfl) (by kernel_rfl)
end Go.Proofs.YtojkchniefhafaaGreatDoor
