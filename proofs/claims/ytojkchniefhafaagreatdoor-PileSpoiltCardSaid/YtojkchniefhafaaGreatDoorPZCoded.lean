/- The program's functions as the layer above reads them: reckoned off the loaded program; each is held against it by the kernel. -/
import Derived.Test.YtojkchniefhafaaGreatDoorChecked
import Derived.Test.YtojkchniefhafaaGreatDoorPMo
set_option maxRecDepth 100000
set_option maxHeartbeats 4000000
namespace Go.Proofs.YtojkchniefhafaaGreatDoor
open Go Go.Av
def c_law02_PileBooks : SCode := cval (show codeOf {Tryz.prog with funcs := #[], inits := #[]} Tryz.f3 = _ by conv => lhs; cbv)
theorem fn_law02_PileBooks : FnIs Tryz.prog 3 71 c_law02_PileBooks [.tmp 2] := ⟨_, _, Tryz.func3, by kernel_rfl, rfl, by kernel_rfl, rfl, by kernel_rfl⟩
abbrev F.pile_Print : Nat := 7
def c_pile_Print : SCode := cval (show codeOf {Tryz.prog with funcs := #[], inits := #[]} Tryz.f7 = _ by conv => lhs; cbv)
theorem fn_pile_Print : FnIs Tryz.prog 7 37 c_pile_Print [.tmp 2, .tmp 3] := ⟨_, _, Tryz.func7, by kernel_rfl, rfl, by kernel_rfl, rfl, by kernel_rfl⟩
def c_ref02_Print : SCode := cval (show codeOf {Tryz.prog with funcs := #[], inits := #[]} Tryz.f10 = _ by conv => lhs; cbv)
theorem fn_ref02_Print : FnIs Tryz.prog 10 56 c_ref02_Print [.tmp 4] := ⟨_, _, Tryz.func10, by kernel_rfl, rfl, by kernel_rfl, rfl, by kernel_rfl⟩
def c_ref02_Read : SCode := cval (show codeOf {Tryz.prog with funcs := #[], inits := #[]} Tryz.f12 = _ by conv => lhs; cbv)
theorem fn_ref02_Read : FnIs Tryz.prog 12 88 c_ref02_Read [.tmp 2, .tmp 3] := ⟨_, _, Tryz.func12, by kernel_rfl, rfl, by kernel_rfl, rfl, by kernel_rfl⟩
abbrev F.law02_Thaws : Nat := 15
def c_law02_Thaws : SCode := cval (show codeOf {Tryz.prog with funcs := #[], inits := #[]} Tryz.f15 = _ by conv => lhs; cbv)
theorem fn_law02_Thaws : FnIs Tryz.prog 15 17 c_law02_Thaws [.tmp 2] := ⟨_, _, Tryz.func15, by kernel_rfl, rfl, by kernel_rfl, rfl, by kernel_rfl⟩
abbrev F.pile_Fault : Nat := 16
def c_pile_Fault : SCode := cval (show codeOf {Tryz.prog with funcs := #[], inits := #[]} Tryz.f16 = _ by conv => lhs; cbv)
theorem fn_pile_Fault : FnIs Tryz.prog 16 46 c_pile_Fault [.cell 6 true 3, .tmp 7] := ⟨_, _, Tryz.func16, by kernel_rfl, rfl, by kernel_rfl, rfl, by kernel_rfl⟩
abbrev F.pile_booked : Nat := 21
def c_pile_booked : SCode := cval (show codeOf {Tryz.prog with funcs := #[], inits := #[]} Tryz.f21 = _ by conv => lhs; cbv)
theorem fn_pile_booked : FnIs Tryz.prog 21 19 c_pile_booked [.tmp 2] := ⟨_, _, Tryz.func21, by kernel_rfl, rfl, by kernel_rfl, rfl, by kernel_rfl⟩
abbrev F.pile_line : Nat := 22
def c_pile_line : SCode := cval (show codeOf {Tryz.prog with funcs := #[], inits := #[]} Tryz.f22 = _ by conv => lhs; cbv)
theorem fn_pile_line : FnIs Tryz.prog 22 21 c_pile_line [.tmp 4] := ⟨_, _, Tryz.func22, by kernel_rfl, rfl, by kernel_rfl, rfl, by kernel_rfl⟩
abbrev F.pile_end : Nat := 23
def c_pile_end : SCode := cval (show codeOf {Tryz.prog with funcs := #[], inits := #[]} Tryz.f23 = _ by conv => lhs; cbv)
theorem fn_pile_end : FnIs Tryz.prog 23 58 c_pile_end [.tmp 2] := ⟨_, _, Tryz.func23, by kernel_rfl, rfl, by kernel_rfl, rfl, by kernel_rfl⟩
def c_pile_Read_1 : SCode := cval (show codeOfG {Tryz.prog with funcs := #[], inits := #[]} Tryz.f25 = _ by conv => lhs; cbv)
theorem fn_pile_Read_1 : GnIs Tryz.prog 25 11 5 c_pile_Read_1 := ⟨_, _, _, _, _, Tryz.func25, by kernel_rfl, rfl, rfl, rfl, rfl, rfl, by decide, rfl, by kernel_rfl, rfl, rfl⟩
abbrev F.pile_read : Nat := 26
def c_pile_read : SCode := cval (show codeOf {Tryz.prog with funcs := #[], inits := #[]} Tryz.f26 = _ by conv => lhs; cbv)
theorem fn_pile_read : FnIs Tryz.prog 26 84 c_pile_read [.tmp 2] := ⟨_, _, Tryz.func26, by kernel_rfl, rfl, by kernel_rfl, rfl, by kernel_rfl⟩
def c_pile_site_given : SCode := cval (show codeOf {Tryz.prog with funcs := #[], inits := #[]} Tryz.f31 = _ by conv => lhs; cbv)
theorem fn_pile_site_given : FnIs Tryz.prog 31 34 c_pile_site_given [.tmp 6] := ⟨_, _, Tryz.func31, by kernel_rfl, rfl, by kernel_rfl, rfl, by kernel_rfl⟩
def c_pile_site_cost : SCode := cval (show codeOf {Tryz.prog with funcs := #[], inits := #[]} Tryz.f40 = _ by conv => lhs; cbv)
theorem fn_pile_site_cost : FnIs Tryz.prog 40 22 c_pile_site_cost [.tmp 4] := ⟨_, _, Tryz.func40, by kernel_rfl, rfl, by kernel_rfl, rfl, by kernel_rfl⟩
abbrev F.pile_in : Nat := 43
def c_pile_in : SCode := cval (show codeOf {Tryz.prog with funcs := #[], inits := #[]} Tryz.f43 = _ by conv => lhs; cbv)
theorem fn_pile_in : FnIs Tryz.prog 43 15 c_pile_in [.tmp 6] := ⟨_, _, Tryz.func43, by kernel_rfl, rfl, by kernel_rfl, rfl, by kernel_rfl⟩
def c_slices_ContainsFunc_int_47 : SCode := cval (show codeOf {Tryz.prog with funcs := #[], inits := #[]} Tryz.f47 = _ by conv => lhs; cbv)
theorem fn_slices_ContainsFunc_int_47 : FnIs Tryz.prog 47 9 c_slices_ContainsFunc_int_47 [.tmp 4] := ⟨_, _, Tryz.func47, by kernel_rfl, rfl, by kernel_rfl, rfl, by kernel_rfl⟩
abbrev F.strconv_Itoa : Nat := 49
def c_strconv_Itoa : SCode := cval (show codeOf {Tryz.prog with funcs := #[], inits := #[]} Tryz.f49 = _ by conv => lhs; cbv)
theorem fn_strconv_Itoa : FnIs Tryz.prog 49 5 c_strconv_Itoa [.tmp 2] := ⟨_, _, Tryz.func49, by kernel_rfl, rfl, by kernel_rfl, rfl, by kernel_rfl⟩
def c_slices_ContainsFunc_apiSpan_56 : SCode := cval (show codeOf {Tryz.prog with funcs := #[], inits := #[]} Tryz.f56 = _ by conv => lhs; cbv)
theorem fn_slices_ContainsFunc_apiSpan_56 : FnIs Tryz.prog 56 9 c_slices_ContainsFunc_apiSpan_56 [.tmp 4] := ⟨_, _, Tryz.func56, by kernel_rfl, rfl, by kernel_rfl, rfl, by kernel_rfl⟩
def c_pile_site_fault_2 : SCode := cval (show codeOf {Tryz.prog with funcs := #[], inits := #[]} Tryz.f66 = _ by conv => lhs; cbv)
theorem fn_pile_site_fault_2 : FnIs Tryz.prog 66 9 c_pile_site_fault_2 [.tmp 4] := ⟨_, _, Tryz.func66, by kernel_rfl, rfl, by kernel_rfl, rfl, by kernel_rfl⟩
def c_pile_site_fails : SCode := cval (show codeOf {Tryz.prog with funcs := #[], inits := #[]} Tryz.f67 = _ by conv => lhs; cbv)
theorem fn_pile_site_fails : FnIs Tryz.prog 67 39 c_pile_site_fails [.tmp 6] := ⟨_, _, Tryz.func67, by kernel_rfl, rfl, by kernel_rfl, rfl, by kernel_rfl⟩
def c_slices_IndexFunc_apiSpan_82 : SCode := cval (show codeOf {Tryz.prog with funcs := #[], inits := #[]} Tryz.f82 = _ by conv => lhs; cbv)
theorem fn_slices_IndexFunc_apiSpan_82 : FnIs Tryz.prog 82 19 c_slices_IndexFunc_apiSpan_82 [.tmp 4] := ⟨_, _, Tryz.func82, by kernel_rfl, rfl, by kernel_rfl, rfl, by kernel_rfl⟩
abbrev F.pile_amount : Nat := 90
def c_pile_amount : SCode := cval (show codeOf {Tryz.prog with funcs := #[], inits := #[]} Tryz.f90 = _ by conv => lhs; cbv)
theorem fn_pile_amount : FnIs Tryz.prog 90 12 c_pile_amount [.tmp 2] := ⟨_, _, Tryz.func90, by kernel_rfl, rfl, by kernel_rfl, rfl, by kernel_rfl⟩
end Go.Proofs.YtojkchniefhafaaGreatDoor
