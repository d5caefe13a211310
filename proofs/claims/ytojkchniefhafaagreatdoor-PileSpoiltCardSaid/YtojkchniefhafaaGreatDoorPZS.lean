/- The law PileSpoilt as the layer reads it. -/
import Derived.Test.YtojkchniefhafaaGreatDoorChecked
import Derived.Test.YtojkchniefhafaaGreatDoorPMo
set_option maxRecDepth 100000
set_option maxHeartbeats 4000000
namespace Go.Proofs.YtojkchniefhafaaGreatDoor
open Go Go.Av
abbrev F.law02_PileSpoilt : Nat := 5
def c_law02_PileSpoilt : SCode := cval (show codeOf {Tryz.prog with funcs := #[], inits := #[]} Tryz.f5 = _ by conv => lhs; cbv)
theorem fn_law02_PileSpoilt : FnIs Tryz.prog 5 90 c_law02_PileSpoilt [.tmp 6] := ⟨_, _, Tryz.func5, by kernel_rfl, rfl, by kernel_rfl, rfl, by kernel_rfl⟩
end Go.Proofs.YtojkchniefhafaaGreatDoor
