/- Some of the objects, by other numbers: those that nothing names any longer are left out. -/
import Derived.Test.YtcllnnjeaidppaaGreatDoorPMq
import Derived.Test.YtcllnnjeaidppaaGreatDoorPMo
set_option linter.unusedVariables false
set_option linter.unusedSimpArgs false
namespace Go.Av
open Go.RowKit
section rules
variable {K : Ctx} {F : Fcx} {Q : AExit → St → Prop}
end rules
end Go.Av
namespace Go.Tk
open Go Go.Av
theorem ren_rowL {α : Type} {enc : α → List AV} {l : List α} {g : Nat → Nat} (h : ∀ a, renL g (enc a) = enc a) : (rowL enc l).map (renL g) = rowL enc l := by
  unfold rowL
  rw [List.map_map]
  exact List.map_congr_left fun a _ => h a
theorem in_rowL {α : Type} {enc : α → List AV} {l : List α} {p : Nat → Bool} (h : ∀ a, inL p (enc a) = true) : (rowL enc l).all (inL p) = true := by
  unfold rowL
  rw [List.all_map]
  exact List.all_eq_true.2 fun a _ => h a
end Go.Tk
