/- The program's functions as the layer above reads them: reckoned off the loaded program; each is held against it by the kernel. -/
import Derived.Test.YtojkchniefhafaaGreatDoorChecked
import Derived.Test.YtojkchniefhafaaGreatDoorPMo
set_option maxRecDepth 100000
set_option maxHeartbeats 4000000
namespace Go.Proofs.YtojkchniefhafaaGreatDoor
open Go Go.Av
abbrev F.ref02_Book : Nat := 8
def c_ref02_Book : SCode := cval (show codeOf {Tryz.prog with funcs := #[], inits := #[]} Tryz.f8 = _ by conv => lhs; cbv)
theorem fn_ref02_Book : FnIs Tryz.prog 8 51 c_ref02_Book [.tmp 2] := ⟨_, _, Tryz.func8, by kernel_rfl, rfl, by kernel_rfl, rfl, by kernel_rfl⟩
abbrev F.pile_Ready : Nat := 18
def c_pile_Ready : SCode := cval (show codeOf {Tryz.prog with funcs := #[], inits := #[]} Tryz.f18 = _ by conv => lhs; cbv)
theorem fn_pile_Ready : FnIs Tryz.prog 18 91 c_pile_Ready [.tmp 6, .tmp 7] := ⟨_, _, Tryz.func18, by kernel_rfl, rfl, by kernel_rfl, rfl, by kernel_rfl⟩
abbrev F.ref02_in : Nat := 24
def c_ref02_in : SCode := cval (show codeOf {Tryz.prog with funcs := #[], inits := #[]} Tryz.f24 = _ by conv => lhs; cbv)
theorem fn_ref02_in : FnIs Tryz.prog 24 15 c_ref02_in [.tmp 6] := ⟨_, _, Tryz.func24, by kernel_rfl, rfl, by kernel_rfl, rfl, by kernel_rfl⟩
def c_ref02_Decimal : SCode := cval (show codeOf {Tryz.prog with funcs := #[], inits := #[]} Tryz.f27 = _ by conv => lhs; cbv)
theorem fn_ref02_Decimal : FnIs Tryz.prog 27 29 c_ref02_Decimal [.tmp 2] := ⟨_, _, Tryz.func27, by kernel_rfl, rfl, by kernel_rfl, rfl, by kernel_rfl⟩
def c_ref02_number : SCode := cval (show codeOf {Tryz.prog with funcs := #[], inits := #[]} Tryz.f30 = _ by conv => lhs; cbv)
theorem fn_ref02_number : FnIs Tryz.prog 30 60 c_ref02_number [.tmp 2, .tmp 3] := ⟨_, _, Tryz.func30, by kernel_rfl, rfl, by kernel_rfl, rfl, by kernel_rfl⟩
def c_pile_site_levels : SCode := cval (show codeOf {Tryz.prog with funcs := #[], inits := #[]} Tryz.f33 = _ by conv => lhs; cbv)
theorem fn_pile_site_levels : FnIs Tryz.prog 33 82 c_pile_site_levels [.tmp 4] := ⟨_, _, Tryz.func33, by kernel_rfl, rfl, by kernel_rfl, rfl, by kernel_rfl⟩
def c_pile_Best_1_1 : SCode := cval (show codeOf {Tryz.prog with funcs := #[], inits := #[]} Tryz.f38 = _ by conv => lhs; cbv)
theorem fn_pile_Best_1_1 : FnIs Tryz.prog 38 22 c_pile_Best_1_1 [.tmp 5, .tmp 6] := ⟨_, _, Tryz.func38, by kernel_rfl, rfl, by kernel_rfl, rfl, by kernel_rfl⟩
def c_pile_pile : SCode := cval (show codeOf {Tryz.prog with funcs := #[], inits := #[]} Tryz.f41 = _ by conv => lhs; cbv)
theorem fn_pile_pile : FnIs Tryz.prog 41 31 c_pile_pile [.tmp 2] := ⟨_, _, Tryz.func41, by kernel_rfl, rfl, by kernel_rfl, rfl, by kernel_rfl⟩
abbrev F.pile_booked_1 : Nat := 46
def c_pile_booked_1 : SCode := cval (show codeOf {Tryz.prog with funcs := #[], inits := #[]} Tryz.f46 = _ by conv => lhs; cbv)
theorem fn_pile_booked_1 : FnIs Tryz.prog 46 15 c_pile_booked_1 [.tmp 3] := ⟨_, _, Tryz.func46, by kernel_rfl, rfl, by kernel_rfl, rfl, by kernel_rfl⟩
abbrev F.pile_booked_1_1 : Nat := 48
def c_pile_booked_1_1 : SCode := cval (show codeOf {Tryz.prog with funcs := #[], inits := #[]} Tryz.f48 = _ by conv => lhs; cbv)
theorem fn_pile_booked_1_1 : FnIs Tryz.prog 48 6 c_pile_booked_1_1 [.tmp 2] := ⟨_, _, Tryz.func48, by kernel_rfl, rfl, by kernel_rfl, rfl, by kernel_rfl⟩
abbrev F.strings_Split : Nat := 51
def c_strings_Split : SCode := cval (show codeOf {Tryz.prog with funcs := #[], inits := #[]} Tryz.f51 = _ by conv => lhs; cbv)
theorem fn_strings_Split : FnIs Tryz.prog 51 8 c_strings_Split [.tmp 4] := ⟨_, _, Tryz.func51, by kernel_rfl, rfl, by kernel_rfl, rfl, by kernel_rfl⟩
def c_pile_site_high : SCode := cval (show codeOf {Tryz.prog with funcs := #[], inits := #[]} Tryz.f60 = _ by conv => lhs; cbv)
theorem fn_pile_site_high : FnIs Tryz.prog 60 41 c_pile_site_high [.tmp 6] := ⟨_, _, Tryz.func60, by kernel_rfl, rfl, by kernel_rfl, rfl, by kernel_rfl⟩
def c_pile_site_fault_3 : SCode := cval (show codeOf {Tryz.prog with funcs := #[], inits := #[]} Tryz.f68 = _ by conv => lhs; cbv)
theorem fn_pile_site_fault_3 : FnIs Tryz.prog 68 17 c_pile_site_fault_3 [.tmp 4] := ⟨_, _, Tryz.func68, by kernel_rfl, rfl, by kernel_rfl, rfl, by kernel_rfl⟩
def c_pile_site_fault_4 : SCode := cval (show codeOf {Tryz.prog with funcs := #[], inits := #[]} Tryz.f69 = _ by conv => lhs; cbv)
theorem fn_pile_site_fault_4 : FnIs Tryz.prog 69 48 c_pile_site_fault_4 [.tmp 4] := ⟨_, _, Tryz.func69, by kernel_rfl, rfl, by kernel_rfl, rfl, by kernel_rfl⟩
def c_slices_IndexFunc_int : SCode := cval (show codeOf {Tryz.prog with funcs := #[], inits := #[]} Tryz.f70 = _ by conv => lhs; cbv)
theorem fn_slices_IndexFunc_int : FnIs Tryz.prog 70 19 c_slices_IndexFunc_int [.tmp 4] := ⟨_, _, Tryz.func70, by kernel_rfl, rfl, by kernel_rfl, rfl, by kernel_rfl⟩
abbrev F.pile_book_year : Nat := 76
def c_pile_book_year : SCode := cval (show codeOf {Tryz.prog with funcs := #[], inits := #[]} Tryz.f76 = _ by conv => lhs; cbv)
theorem fn_pile_book_year : FnIs Tryz.prog 76 52 c_pile_book_year [] := ⟨_, _, Tryz.func76, by kernel_rfl, rfl, by kernel_rfl, rfl, by kernel_rfl⟩
def c_slices_ContainsFunc_apiPile : SCode := cval (show codeOf {Tryz.prog with funcs := #[], inits := #[]} Tryz.f77 = _ by conv => lhs; cbv)
theorem fn_slices_ContainsFunc_apiPile : FnIs Tryz.prog 77 9 c_slices_ContainsFunc_apiPile [.tmp 4] := ⟨_, _, Tryz.func77, by kernel_rfl, rfl, by kernel_rfl, rfl, by kernel_rfl⟩
def c_slices_ContainsFunc_apiPilePair : SCode := cval (show codeOf {Tryz.prog with funcs := #[], inits := #[]} Tryz.f79 = _ by conv => lhs; cbv)
theorem fn_slices_ContainsFunc_apiPilePair : FnIs Tryz.prog 79 9 c_slices_ContainsFunc_apiPilePair [.tmp 4] := ⟨_, _, Tryz.func79, by kernel_rfl, rfl, by kernel_rfl, rfl, by kernel_rfl⟩
def c_pile_valid_2 : SCode := cval (show codeOf {Tryz.prog with funcs := #[], inits := #[]} Tryz.f80 = _ by conv => lhs; cbv)
theorem fn_pile_valid_2 : FnIs Tryz.prog 80 25 c_pile_valid_2 [.tmp 3] := ⟨_, _, Tryz.func80, by kernel_rfl, rfl, by kernel_rfl, rfl, by kernel_rfl⟩
def c_slices_IndexFunc_apiPilePair : SCode := cval (show codeOf {Tryz.prog with funcs := #[], inits := #[]} Tryz.f93 = _ by conv => lhs; cbv)
theorem fn_slices_IndexFunc_apiPilePair : FnIs Tryz.prog 93 19 c_slices_IndexFunc_apiPilePair [.tmp 4] := ⟨_, _, Tryz.func93, by kernel_rfl, rfl, by kernel_rfl, rfl, by kernel_rfl⟩
abbrev F.strconv_Atoi : Nat := 103
def c_strconv_Atoi : SCode := cval (show codeOf {Tryz.prog with funcs := #[], inits := #[]} Tryz.f103 = _ by conv => lhs; cbv)
theorem fn_strconv_Atoi : FnIs Tryz.prog 103 18 c_strconv_Atoi [.tmp 2, .tmp 3] := ⟨_, _, Tryz.func103, by kernel_rfl, rfl, by kernel_rfl, rfl, by kernel_rfl⟩
end Go.Proofs.YtojkchniefhafaaGreatDoor
