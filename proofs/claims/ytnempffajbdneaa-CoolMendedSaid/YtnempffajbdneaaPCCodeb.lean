/- The program's functions as the layer above reads them: reckoned off the loaded program; each is held against it by the kernel. -/
import Derived.Test.YtnempffajbdneaaChecked
import Derived.Test.YtnempffajbdneaaPMn
set_option maxRecDepth 100000
set_option maxHeartbeats 4000000
namespace Go.Proofs.Ytnempffajbdneaa
open Go Go.Av
def c_law03_CoolBests : SCode := cval (show codeOf {Try.prog with funcs := #[], inits := #[]} Try.f3 = _ by conv => lhs; cbv)
theorem fn_law03_CoolBests : FnIs Try.prog 3 140 c_law03_CoolBests [.tmp 4] := ⟨_, _, Try.func3, by kernel_rfl, rfl, by kernel_rfl, rfl, by kernel_rfl⟩
def c_law03_CoolAgains : SCode := cval (show codeOf {Try.prog with funcs := #[], inits := #[]} Try.f5 = _ by conv => lhs; cbv)
theorem fn_law03_CoolAgains : FnIs Try.prog 5 61 c_law03_CoolAgains [.tmp 6] := ⟨_, _, Try.func5, by kernel_rfl, rfl, by kernel_rfl, rfl, by kernel_rfl⟩
def c_law03_CoolBroken : SCode := cval (show codeOf {Try.prog with funcs := #[], inits := #[]} Try.f12 = _ by conv => lhs; cbv)
theorem fn_law03_CoolBroken : FnIs Try.prog 12 216 c_law03_CoolBroken [.tmp 8] := ⟨_, _, Try.func12, by kernel_rfl, rfl, by kernel_rfl, rfl, by kernel_rfl⟩
abbrev F.law03_short : Nat := 13
def c_law03_short : SCode := cval (show codeOf {Try.prog with funcs := #[], inits := #[]} Try.f13 = _ by conv => lhs; cbv)
theorem fn_law03_short : FnIs Try.prog 13 33 c_law03_short [.tmp 2] := ⟨_, _, Try.func13, by kernel_rfl, rfl, by kernel_rfl, rfl, by kernel_rfl⟩
abbrev F.cool_Floor : Nat := 17
def c_cool_Floor : SCode := cval (show codeOf {Try.prog with funcs := #[], inits := #[]} Try.f17 = _ by conv => lhs; cbv)
theorem fn_cool_Floor : FnIs Try.prog 17 50 c_cool_Floor [.tmp 4, .tmp 5] := ⟨_, _, Try.func17, by kernel_rfl, rfl, by kernel_rfl, rfl, by kernel_rfl⟩
def c_ref03_Fails : SCode := cval (show codeOf {Try.prog with funcs := #[], inits := #[]} Try.f18 = _ by conv => lhs; cbv)
theorem fn_ref03_Fails : FnIs Try.prog 18 5 c_ref03_Fails [.tmp 2] := ⟨_, _, Try.func18, by kernel_rfl, rfl, by kernel_rfl, rfl, by kernel_rfl⟩
abbrev F.cool_Keeps : Nat := 24
def c_cool_Keeps : SCode := cval (show codeOf {Try.prog with funcs := #[], inits := #[]} Try.f24 = _ by conv => lhs; cbv)
theorem fn_cool_Keeps : FnIs Try.prog 24 31 c_cool_Keeps [.tmp 6, .tmp 7] := ⟨_, _, Try.func24, by kernel_rfl, rfl, by kernel_rfl, rfl, by kernel_rfl⟩
abbrev F.cool_Again : Nat := 27
def c_cool_Again : SCode := cval (show codeOf {Try.prog with funcs := #[], inits := #[]} Try.f27 = _ by conv => lhs; cbv)
theorem fn_cool_Again : FnIs Try.prog 27 33 c_cool_Again [.tmp 6, .tmp 7] := ⟨_, _, Try.func27, by kernel_rfl, rfl, by kernel_rfl, rfl, by kernel_rfl⟩
abbrev F.ref03_Truth : Nat := 33
def c_ref03_Truth : SCode := cval (show codeOf {Try.prog with funcs := #[], inits := #[]} Try.f33 = _ by conv => lhs; cbv)
theorem fn_ref03_Truth : FnIs Try.prog 33 106 c_ref03_Truth [.tmp 4] := ⟨_, _, Try.func33, by kernel_rfl, rfl, by kernel_rfl, rfl, by kernel_rfl⟩
def c_cool_Check : SCode := cval (show codeOf {Try.prog with funcs := #[], inits := #[]} Try.f38 = _ by conv => lhs; cbv)
theorem fn_cool_Check : FnIs Try.prog 38 6 c_cool_Check [.tmp 2] := ⟨_, _, Try.func38, by kernel_rfl, rfl, by kernel_rfl, rfl, by kernel_rfl⟩
abbrev F.cool_Break : Nat := 39
def c_cool_Break : SCode := cval (show codeOf {Try.prog with funcs := #[], inits := #[]} Try.f39 = _ by conv => lhs; cbv)
theorem fn_cool_Break : FnIs Try.prog 39 63 c_cool_Break [.tmp 6, .tmp 7, .tmp 8] := ⟨_, _, Try.func39, by kernel_rfl, rfl, by kernel_rfl, rfl, by kernel_rfl⟩
def c_cool_Play : SCode := cval (show codeOf {Try.prog with funcs := #[], inits := #[]} Try.f43 = _ by conv => lhs; cbv)
theorem fn_cool_Play : FnIs Try.prog 43 145 c_cool_Play [.tmp 6, .tmp 7] := ⟨_, _, Try.func43, by kernel_rfl, rfl, by kernel_rfl, rfl, by kernel_rfl⟩
def c_ref03_Over : SCode := cval (show codeOf {Try.prog with funcs := #[], inits := #[]} Try.f44 = _ by conv => lhs; cbv)
theorem fn_ref03_Over : FnIs Try.prog 44 48 c_ref03_Over [.tmp 6] := ⟨_, _, Try.func44, by kernel_rfl, rfl, by kernel_rfl, rfl, by kernel_rfl⟩
def c_ref03_Worst : SCode := cval (show codeOf {Try.prog with funcs := #[], inits := #[]} Try.f45 = _ by conv => lhs; cbv)
theorem fn_ref03_Worst : FnIs Try.prog 45 61 c_ref03_Worst [.cell 2 true 2] := ⟨_, _, Try.func45, by kernel_rfl, rfl, by kernel_rfl, rfl, by kernel_rfl⟩
abbrev F.ref03_in : Nat := 47
def c_ref03_in : SCode := cval (show codeOf {Try.prog with funcs := #[], inits := #[]} Try.f47 = _ by conv => lhs; cbv)
theorem fn_ref03_in : FnIs Try.prog 47 15 c_ref03_in [.tmp 6] := ⟨_, _, Try.func47, by kernel_rfl, rfl, by kernel_rfl, rfl, by kernel_rfl⟩
abbrev F.law03_T : Nat := 48
def c_law03_T : SCode := cval (show codeOf {Try.prog with funcs := #[], inits := #[]} Try.f48 = _ by conv => lhs; cbv)
theorem fn_law03_T : FnIs Try.prog 48 24 c_law03_T [.cell 0 true 2] := ⟨_, _, Try.func48, by kernel_rfl, rfl, by kernel_rfl, rfl, by kernel_rfl⟩
abbrev F.cool_sum : Nat := 57
def c_cool_sum : SCode := cval (show codeOf {Try.prog with funcs := #[], inits := #[]} Try.f57 = _ by conv => lhs; cbv)
theorem fn_cool_sum : FnIs Try.prog 57 17 c_cool_sum [.tmp 2] := ⟨_, _, Try.func57, by kernel_rfl, rfl, by kernel_rfl, rfl, by kernel_rfl⟩
def c_ref03_Keeps : SCode := cval (show codeOf {Try.prog with funcs := #[], inits := #[]} Try.f60 = _ by conv => lhs; cbv)
theorem fn_ref03_Keeps : FnIs Try.prog 60 18 c_ref03_Keeps [.tmp 6] := ⟨_, _, Try.func60, by kernel_rfl, rfl, by kernel_rfl, rfl, by kernel_rfl⟩
abbrev F.cool_given : Nat := 62
def c_cool_given : SCode := cval (show codeOf {Try.prog with funcs := #[], inits := #[]} Try.f62 = _ by conv => lhs; cbv)
theorem fn_cool_given : FnIs Try.prog 62 28 c_cool_given [.tmp 6, .tmp 7] := ⟨_, _, Try.func62, by kernel_rfl, rfl, by kernel_rfl, rfl, by kernel_rfl⟩
abbrev F.cool_bought_ordered : Nat := 63
def c_cool_bought_ordered : SCode := cval (show codeOf {Try.prog with funcs := #[], inits := #[]} Try.f63 = _ by conv => lhs; cbv)
theorem fn_cool_bought_ordered : FnIs Try.prog 63 41 c_cool_bought_ordered [.tmp 4] := ⟨_, _, Try.func63, by kernel_rfl, rfl, by kernel_rfl, rfl, by kernel_rfl⟩
abbrev F.slices_Contains_int : Nat := 69
def c_slices_Contains_int : SCode := cval (show codeOf {Try.prog with funcs := #[], inits := #[]} Try.f69 = _ by conv => lhs; cbv)
theorem fn_slices_Contains_int : FnIs Try.prog 69 9 c_slices_Contains_int [.tmp 4] := ⟨_, _, Try.func69, by kernel_rfl, rfl, by kernel_rfl, rfl, by kernel_rfl⟩
abbrev F.cool_set_has : Nat := 75
def c_cool_set_has : SCode := cval (show codeOf {Try.prog with funcs := #[], inits := #[]} Try.f75 = _ by conv => lhs; cbv)
theorem fn_cool_set_has : FnIs Try.prog 75 10 c_cool_set_has [.tmp 4] := ⟨_, _, Try.func75, by kernel_rfl, rfl, by kernel_rfl, rfl, by kernel_rfl⟩
def c_slices_ContainsFunc_apiCoolHouse : SCode := cval (show codeOf {Try.prog with funcs := #[], inits := #[]} Try.f76 = _ by conv => lhs; cbv)
theorem fn_slices_ContainsFunc_apiCoolHouse : FnIs Try.prog 76 9 c_slices_ContainsFunc_apiCoolHouse [.tmp 4] := ⟨_, _, Try.func76, by kernel_rfl, rfl, by kernel_rfl, rfl, by kernel_rfl⟩
abbrev F.cool_span : Nat := 78
def c_cool_span : SCode := cval (show codeOf {Try.prog with funcs := #[], inits := #[]} Try.f78 = _ by conv => lhs; cbv)
theorem fn_cool_span : FnIs Try.prog 78 18 c_cool_span [.tmp 2] := ⟨_, _, Try.func78, by kernel_rfl, rfl, by kernel_rfl, rfl, by kernel_rfl⟩
abbrev F.cool_valid_2 : Nat := 80
def c_cool_valid_2 : SCode := cval (show codeOf {Try.prog with funcs := #[], inits := #[]} Try.f80 = _ by conv => lhs; cbv)
theorem fn_cool_valid_2 : FnIs Try.prog 80 28 c_cool_valid_2 [.tmp 3] := ⟨_, _, Try.func80, by kernel_rfl, rfl, by kernel_rfl, rfl, by kernel_rfl⟩
abbrev F.slices_Index_int : Nat := 92
def c_slices_Index_int : SCode := cval (show codeOf {Try.prog with funcs := #[], inits := #[]} Try.f92 = _ by conv => lhs; cbv)
theorem fn_slices_Index_int : FnIs Try.prog 92 19 c_slices_Index_int [.tmp 4] := ⟨_, _, Try.func92, by kernel_rfl, rfl, by kernel_rfl, rfl, by kernel_rfl⟩
def c_cool_set_sets_1 : SCode := cval (show codeOf {Try.prog with funcs := #[], inits := #[]} Try.f94 = _ by conv => lhs; cbv)
theorem fn_cool_set_sets_1 : FnIs Try.prog 94 9 c_cool_set_sets_1 [] := ⟨_, _, Try.func94, by kernel_rfl, rfl, by kernel_rfl, rfl, by kernel_rfl⟩
def c_slices_IndexFunc_apiCoolSite : SCode := cval (show codeOf {Try.prog with funcs := #[], inits := #[]} Try.f97 = _ by conv => lhs; cbv)
theorem fn_slices_IndexFunc_apiCoolSite : FnIs Try.prog 97 19 c_slices_IndexFunc_apiCoolSite [.tmp 4] := ⟨_, _, Try.func97, by kernel_rfl, rfl, by kernel_rfl, rfl, by kernel_rfl⟩
def c_slices_xorshift_Next : SCode := cval (show codeOf {Try.prog with funcs := #[], inits := #[]} Try.f118 = _ by conv => lhs; cbv)
theorem fn_slices_xorshift_Next : FnIs Try.prog 118 33 c_slices_xorshift_Next [.tmp 2] := ⟨_, _, Try.func118, by kernel_rfl, rfl, by kernel_rfl, rfl, by kernel_rfl⟩
def c_slices_order2CmpFunc_int : SCode := cval (show codeOf {Try.prog with funcs := #[], inits := #[]} Try.f121 = _ by conv => lhs; cbv)
theorem fn_slices_order2CmpFunc_int : FnIs Try.prog 121 32 c_slices_order2CmpFunc_int [.tmp 10, .tmp 11] := ⟨_, _, Try.func121, by kernel_rfl, rfl, by kernel_rfl, rfl, by kernel_rfl⟩
end Go.Proofs.Ytnempffajbdneaa
