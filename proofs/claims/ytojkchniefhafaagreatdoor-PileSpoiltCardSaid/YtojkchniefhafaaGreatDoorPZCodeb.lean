/- The program's functions as the layer above reads them: reckoned off the loaded program; each is held against it by the kernel. -/
import Derived.Test.YtojkchniefhafaaGreatDoorChecked
import Derived.Test.YtojkchniefhafaaGreatDoorPMo
set_option maxRecDepth 100000
set_option maxHeartbeats 4000000
namespace Go.Proofs.YtojkchniefhafaaGreatDoor
open Go Go.Av
abbrev F.pile_Read : Nat := 9
def c_pile_Read : DCode := cval (show codeOfD {Tryz.prog with funcs := #[], inits := #[]} Tryz.f9 = _ by conv => lhs; cbv)
theorem fn_pile_Read : FnIsD Tryz.prog 9 14 c_pile_Read [.cell 2 false 1, .cell 3 false 1] := ⟨_, _, Tryz.func9, by kernel_rfl, rfl, by kernel_rfl, rfl, by kernel_rfl⟩
def c_ref02_SameRows : SCode := cval (show codeOf {Tryz.prog with funcs := #[], inits := #[]} Tryz.f11 = _ by conv => lhs; cbv)
theorem fn_ref02_SameRows : FnIs Tryz.prog 11 27 c_ref02_SameRows [.tmp 4] := ⟨_, _, Tryz.func11, by kernel_rfl, rfl, by kernel_rfl, rfl, by kernel_rfl⟩
abbrev F.law02_Site : Nat := 14
def c_law02_Site : SCode := cval (show codeOf {Tryz.prog with funcs := #[], inits := #[]} Tryz.f14 = _ by conv => lhs; cbv)
theorem fn_law02_Site : FnIs Tryz.prog 14 16 c_law02_Site [.cell 0 true 6] := ⟨_, _, Tryz.func14, by kernel_rfl, rfl, by kernel_rfl, rfl, by kernel_rfl⟩
abbrev F.pile_Best : Nat := 17
def c_pile_Best : SCode := cval (show codeOf {Tryz.prog with funcs := #[], inits := #[]} Tryz.f17 = _ by conv => lhs; cbv)
theorem fn_pile_Best : FnIs Tryz.prog 17 55 c_pile_Best [.tmp 4, .tmp 5, .tmp 6] := ⟨_, _, Tryz.func17, by kernel_rfl, rfl, by kernel_rfl, rfl, by kernel_rfl⟩
abbrev F.ref02_Same : Nat := 20
def c_ref02_Same : SCode := cval (show codeOf {Tryz.prog with funcs := #[], inits := #[]} Tryz.f20 = _ by conv => lhs; cbv)
theorem fn_ref02_Same : FnIs Tryz.prog 20 26 c_ref02_Same [.tmp 4] := ⟨_, _, Tryz.func20, by kernel_rfl, rfl, by kernel_rfl, rfl, by kernel_rfl⟩
def c_ref02_Check : SCode := cval (show codeOf {Tryz.prog with funcs := #[], inits := #[]} Tryz.f28 = _ by conv => lhs; cbv)
theorem fn_ref02_Check : FnIs Tryz.prog 28 58 c_ref02_Check [.tmp 2] := ⟨_, _, Tryz.func28, by kernel_rfl, rfl, by kernel_rfl, rfl, by kernel_rfl⟩
def c_pile_site_planned : SCode := cval (show codeOf {Tryz.prog with funcs := #[], inits := #[]} Tryz.f32 = _ by conv => lhs; cbv)
theorem fn_pile_site_planned : FnIs Tryz.prog 32 19 c_pile_site_planned [.tmp 4] := ⟨_, _, Tryz.func32, by kernel_rfl, rfl, by kernel_rfl, rfl, by kernel_rfl⟩
def c_pile_Best_1 : SCode := cval (show codeOf {Tryz.prog with funcs := #[], inits := #[]} Tryz.f35 = _ by conv => lhs; cbv)
theorem fn_pile_Best_1 : FnIs Tryz.prog 35 57 c_pile_Best_1 [.cell 7 true 3] := ⟨_, _, Tryz.func35, by kernel_rfl, rfl, by kernel_rfl, rfl, by kernel_rfl⟩
def c_pile_cheapest_int : SCode := cval (show codeOf {Tryz.prog with funcs := #[], inits := #[]} Tryz.f37 = _ by conv => lhs; cbv)
theorem fn_pile_cheapest_int : FnIs Tryz.prog 37 39 c_pile_cheapest_int [.tmp 4, .tmp 5, .tmp 6] := ⟨_, _, Tryz.func37, by kernel_rfl, rfl, by kernel_rfl, rfl, by kernel_rfl⟩
def c_pile_carries : SCode := cval (show codeOf {Tryz.prog with funcs := #[], inits := #[]} Tryz.f44 = _ by conv => lhs; cbv)
theorem fn_pile_carries : FnIs Tryz.prog 44 17 c_pile_carries [.tmp 4] := ⟨_, _, Tryz.func44, by kernel_rfl, rfl, by kernel_rfl, rfl, by kernel_rfl⟩
abbrev F.pile_kinds : Nat := 52
def c_pile_kinds : SCode := cval (show codeOf {Tryz.prog with funcs := #[], inits := #[]} Tryz.f52 = _ by conv => lhs; cbv)
theorem fn_pile_kinds : FnIs Tryz.prog 52 3 c_pile_kinds [.tmp 0] := ⟨_, _, Tryz.func52, by kernel_rfl, rfl, by kernel_rfl, rfl, by kernel_rfl⟩
def c_pile_valid : SCode := cval (show codeOf {Tryz.prog with funcs := #[], inits := #[]} Tryz.f53 = _ by conv => lhs; cbv)
theorem fn_pile_valid : FnIs Tryz.prog 53 102 c_pile_valid [.tmp 2] := ⟨_, _, Tryz.func53, by kernel_rfl, rfl, by kernel_rfl, rfl, by kernel_rfl⟩
def c_slices_ContainsFunc_apiSpan : SCode := cval (show codeOf {Tryz.prog with funcs := #[], inits := #[]} Tryz.f54 = _ by conv => lhs; cbv)
theorem fn_slices_ContainsFunc_apiSpan : FnIs Tryz.prog 54 9 c_slices_ContainsFunc_apiSpan [.tmp 4] := ⟨_, _, Tryz.func54, by kernel_rfl, rfl, by kernel_rfl, rfl, by kernel_rfl⟩
def c_pile_site_given_1_1 : SCode := cval (show codeOf {Tryz.prog with funcs := #[], inits := #[]} Tryz.f57 = _ by conv => lhs; cbv)
theorem fn_pile_site_given_1_1 : FnIs Tryz.prog 57 6 c_pile_site_given_1_1 [.tmp 2] := ⟨_, _, Tryz.func57, by kernel_rfl, rfl, by kernel_rfl, rfl, by kernel_rfl⟩
def c_pile_jacked : SCode := cval (show codeOf {Tryz.prog with funcs := #[], inits := #[]} Tryz.f62 = _ by conv => lhs; cbv)
theorem fn_pile_jacked : FnIs Tryz.prog 62 4 c_pile_jacked [.tmp 2] := ⟨_, _, Tryz.func62, by kernel_rfl, rfl, by kernel_rfl, rfl, by kernel_rfl⟩
def c_pile_first : SCode := cval (show codeOf {Tryz.prog with funcs := #[], inits := #[]} Tryz.f63 = _ by conv => lhs; cbv)
theorem fn_pile_first : FnIs Tryz.prog 63 15 c_pile_first [.tmp 4] := ⟨_, _, Tryz.func63, by kernel_rfl, rfl, by kernel_rfl, rfl, by kernel_rfl⟩
def c_pile_site_fault_1 : SCode := cval (show codeOf {Tryz.prog with funcs := #[], inits := #[]} Tryz.f64 = _ by conv => lhs; cbv)
theorem fn_pile_site_fault_1 : FnIs Tryz.prog 64 9 c_pile_site_fault_1 [.tmp 4] := ⟨_, _, Tryz.func64, by kernel_rfl, rfl, by kernel_rfl, rfl, by kernel_rfl⟩
def c_pile_site_loses : SCode := cval (show codeOf {Tryz.prog with funcs := #[], inits := #[]} Tryz.f65 = _ by conv => lhs; cbv)
theorem fn_pile_site_loses : FnIs Tryz.prog 65 40 c_pile_site_loses [.tmp 6] := ⟨_, _, Tryz.func65, by kernel_rfl, rfl, by kernel_rfl, rfl, by kernel_rfl⟩
def c_slices_IndexFunc_int_71 : SCode := cval (show codeOf {Tryz.prog with funcs := #[], inits := #[]} Tryz.f71 = _ by conv => lhs; cbv)
theorem fn_slices_IndexFunc_int_71 : FnIs Tryz.prog 71 19 c_slices_IndexFunc_int_71 [.tmp 4] := ⟨_, _, Tryz.func71, by kernel_rfl, rfl, by kernel_rfl, rfl, by kernel_rfl⟩
def c_slices_IndexFunc_apiSpan : SCode := cval (show codeOf {Tryz.prog with funcs := #[], inits := #[]} Tryz.f81 = _ by conv => lhs; cbv)
theorem fn_slices_IndexFunc_apiSpan : FnIs Tryz.prog 81 19 c_slices_IndexFunc_apiSpan [.tmp 4] := ⟨_, _, Tryz.func81, by kernel_rfl, rfl, by kernel_rfl, rfl, by kernel_rfl⟩
def c_pile_site_row : SCode := cval (show codeOf {Tryz.prog with funcs := #[], inits := #[]} Tryz.f83 = _ by conv => lhs; cbv)
theorem fn_pile_site_row : FnIs Tryz.prog 83 56 c_pile_site_row [.cell 8 true 3, .tmp 9] := ⟨_, _, Tryz.func83, by kernel_rfl, rfl, by kernel_rfl, rfl, by kernel_rfl⟩
end Go.Proofs.YtojkchniefhafaaGreatDoor
