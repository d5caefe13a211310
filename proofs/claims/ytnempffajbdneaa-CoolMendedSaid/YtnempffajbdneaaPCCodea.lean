/- The program's functions as the layer above reads them: reckoned off the loaded program; each is held against it by the kernel. -/
import Derived.Test.YtnempffajbdneaaChecked
import Derived.Test.YtnempffajbdneaaPMn
set_option maxRecDepth 100000
set_option maxHeartbeats 4000000
namespace Go.Proofs.Ytnempffajbdneaa
open Go Go.Av
def c_law03_CoolRivals : SCode := cval (show codeOf {Try.prog with funcs := #[], inits := #[]} Try.f4 = _ by conv => lhs; cbv)
theorem fn_law03_CoolRivals : FnIs Try.prog 4 159 c_law03_CoolRivals [.tmp 6] := ⟨_, _, Try.func4, by kernel_rfl, rfl, by kernel_rfl, rfl, by kernel_rfl⟩
abbrev F.law03_CoolMended : Nat := 7
def c_law03_CoolMended : SCode := cval (show codeOf {Try.prog with funcs := #[], inits := #[]} Try.f7 = _ by conv => lhs; cbv)
theorem fn_law03_CoolMended : FnIs Try.prog 7 225 c_law03_CoolMended [.tmp 8] := ⟨_, _, Try.func7, by kernel_rfl, rfl, by kernel_rfl, rfl, by kernel_rfl⟩
def c_law03_CoolPlays : SCode := cval (show codeOf {Try.prog with funcs := #[], inits := #[]} Try.f10 = _ by conv => lhs; cbv)
theorem fn_law03_CoolPlays : FnIs Try.prog 10 63 c_law03_CoolPlays [.tmp 6] := ⟨_, _, Try.func10, by kernel_rfl, rfl, by kernel_rfl, rfl, by kernel_rfl⟩
abbrev F.ref03_Town : Nat := 14
def c_ref03_Town : SCode := cval (show codeOf {Try.prog with funcs := #[], inits := #[]} Try.f14 = _ by conv => lhs; cbv)
theorem fn_ref03_Town : FnIs Try.prog 14 87 c_ref03_Town [.tmp 2] := ⟨_, _, Try.func14, by kernel_rfl, rfl, by kernel_rfl, rfl, by kernel_rfl⟩
abbrev F.law03_known : Nat := 15
def c_law03_known : SCode := cval (show codeOf {Try.prog with funcs := #[], inits := #[]} Try.f15 = _ by conv => lhs; cbv)
theorem fn_law03_known : FnIs Try.prog 15 124 c_law03_known [.tmp 0] := ⟨_, _, Try.func15, by kernel_rfl, rfl, by kernel_rfl, rfl, by kernel_rfl⟩
abbrev F.law03_asked : Nat := 23
def c_law03_asked : SCode := cval (show codeOf {Try.prog with funcs := #[], inits := #[]} Try.f23 = _ by conv => lhs; cbv)
theorem fn_law03_asked : FnIs Try.prog 23 12 c_law03_asked [.tmp 4] := ⟨_, _, Try.func23, by kernel_rfl, rfl, by kernel_rfl, rfl, by kernel_rfl⟩
abbrev F.ref03_Cold : Nat := 46
def c_ref03_Cold : SCode := cval (show codeOf {Try.prog with funcs := #[], inits := #[]} Try.f46 = _ by conv => lhs; cbv)
theorem fn_ref03_Cold : FnIs Try.prog 46 18 c_ref03_Cold [.tmp 2] := ⟨_, _, Try.func46, by kernel_rfl, rfl, by kernel_rfl, rfl, by kernel_rfl⟩
abbrev F.cool_valid : Nat := 49
def c_cool_valid : SCode := cval (show codeOf {Try.prog with funcs := #[], inits := #[]} Try.f49 = _ by conv => lhs; cbv)
theorem fn_cool_valid : FnIs Try.prog 49 26 c_cool_valid [.tmp 2] := ⟨_, _, Try.func49, by kernel_rfl, rfl, by kernel_rfl, rfl, by kernel_rfl⟩
def c_cool_failing : SCode := cval (show codeOf {Try.prog with funcs := #[], inits := #[]} Try.f50 = _ by conv => lhs; cbv)
theorem fn_cool_failing : FnIs Try.prog 50 5 c_cool_failing [.tmp 2] := ⟨_, _, Try.func50, by kernel_rfl, rfl, by kernel_rfl, rfl, by kernel_rfl⟩
def c_cool_bought_broken : DCode := cval (show codeOfD {Try.prog with funcs := #[], inits := #[]} Try.f54 = _ by conv => lhs; cbv)
theorem fn_cool_bought_broken : FnIsD Try.prog 54 22 c_cool_bought_broken [.cell 4 false 1, .cell 5 false 1] := ⟨_, _, Try.func54, by kernel_rfl, rfl, by kernel_rfl, rfl, by kernel_rfl⟩
def c_cool_Floor_1 : SCode := cval (show codeOf {Try.prog with funcs := #[], inits := #[]} Try.f55 = _ by conv => lhs; cbv)
theorem fn_cool_Floor_1 : FnIs Try.prog 55 31 c_cool_Floor_1 [.tmp 6] := ⟨_, _, Try.func55, by kernel_rfl, rfl, by kernel_rfl, rfl, by kernel_rfl⟩
abbrev F.cool_bought_colds : Nat := 56
def c_cool_bought_colds : SCode := cval (show codeOf {Try.prog with funcs := #[], inits := #[]} Try.f56 = _ by conv => lhs; cbv)
theorem fn_cool_bought_colds : FnIs Try.prog 56 11 c_cool_bought_colds [.tmp 6] := ⟨_, _, Try.func56, by kernel_rfl, rfl, by kernel_rfl, rfl, by kernel_rfl⟩
def c_ref03_Sets : SCode := cval (show codeOf {Try.prog with funcs := #[], inits := #[]} Try.f58 = _ by conv => lhs; cbv)
theorem fn_ref03_Sets : FnIs Try.prog 58 45 c_ref03_Sets [.tmp 4] := ⟨_, _, Try.func58, by kernel_rfl, rfl, by kernel_rfl, rfl, by kernel_rfl⟩
def c_ref03_Sites : SCode := cval (show codeOf {Try.prog with funcs := #[], inits := #[]} Try.f59 = _ by conv => lhs; cbv)
theorem fn_ref03_Sites : FnIs Try.prog 59 17 c_ref03_Sites [.tmp 2] := ⟨_, _, Try.func59, by kernel_rfl, rfl, by kernel_rfl, rfl, by kernel_rfl⟩
abbrev F.cool_valid_1 : Nat := 77
def c_cool_valid_1 : SCode := cval (show codeOf {Try.prog with funcs := #[], inits := #[]} Try.f77 = _ by conv => lhs; cbv)
theorem fn_cool_valid_1 : FnIs Try.prog 77 13 c_cool_valid_1 [.tmp 2] := ⟨_, _, Try.func77, by kernel_rfl, rfl, by kernel_rfl, rfl, by kernel_rfl⟩
def c_slices_ContainsFunc_apiSpan : SCode := cval (show codeOf {Try.prog with funcs := #[], inits := #[]} Try.f81 = _ by conv => lhs; cbv)
theorem fn_slices_ContainsFunc_apiSpan : FnIs Try.prog 81 9 c_slices_ContainsFunc_apiSpan [.tmp 4] := ⟨_, _, Try.func81, by kernel_rfl, rfl, by kernel_rfl, rfl, by kernel_rfl⟩
abbrev F.cool_valid_2_1 : Nat := 82
def c_cool_valid_2_1 : SCode := cval (show codeOf {Try.prog with funcs := #[], inits := #[]} Try.f82 = _ by conv => lhs; cbv)
theorem fn_cool_valid_2_1 : FnIs Try.prog 82 6 c_cool_valid_2_1 [.tmp 2] := ⟨_, _, Try.func82, by kernel_rfl, rfl, by kernel_rfl, rfl, by kernel_rfl⟩
def c_cool_choice_costs : SCode := cval (show codeOf {Try.prog with funcs := #[], inits := #[]} Try.f83 = _ by conv => lhs; cbv)
theorem fn_cool_choice_costs : FnIs Try.prog 83 10 c_cool_choice_costs [.tmp 4] := ⟨_, _, Try.func83, by kernel_rfl, rfl, by kernel_rfl, rfl, by kernel_rfl⟩
def c_cool_choice_many : SCode := cval (show codeOf {Try.prog with funcs := #[], inits := #[]} Try.f84 = _ by conv => lhs; cbv)
theorem fn_cool_choice_many : FnIs Try.prog 84 12 c_cool_choice_many [.tmp 4] := ⟨_, _, Try.func84, by kernel_rfl, rfl, by kernel_rfl, rfl, by kernel_rfl⟩
abbrev F.cool_sorted_int : Nat := 88
def c_cool_sorted_int : SCode := cval (show codeOf {Try.prog with funcs := #[], inits := #[]} Try.f88 = _ by conv => lhs; cbv)
theorem fn_cool_sorted_int : FnIs Try.prog 88 24 c_cool_sorted_int [.tmp 4] := ⟨_, _, Try.func88, by kernel_rfl, rfl, by kernel_rfl, rfl, by kernel_rfl⟩
abbrev F.cool_bought_colds_1 : Nat := 89
def c_cool_bought_colds_1 : SCode := cval (show codeOf {Try.prog with funcs := #[], inits := #[]} Try.f89 = _ by conv => lhs; cbv)
theorem fn_cool_bought_colds_1 : FnIs Try.prog 89 18 c_cool_bought_colds_1 [.tmp 4] := ⟨_, _, Try.func89, by kernel_rfl, rfl, by kernel_rfl, rfl, by kernel_rfl⟩
def c_ref03_Good : SCode := cval (show codeOf {Try.prog with funcs := #[], inits := #[]} Try.f93 = _ by conv => lhs; cbv)
theorem fn_ref03_Good : FnIs Try.prog 93 37 c_ref03_Good [.tmp 6] := ⟨_, _, Try.func93, by kernel_rfl, rfl, by kernel_rfl, rfl, by kernel_rfl⟩
def c_cool_set_sets_1_1 : SCode := cval (show codeOf {Try.prog with funcs := #[], inits := #[]} Try.f95 = _ by conv => lhs; cbv)
theorem fn_cool_set_sets_1_1 : FnIs Try.prog 95 37 c_cool_set_sets_1_1 [.tmp 9] := ⟨_, _, Try.func95, by kernel_rfl, rfl, by kernel_rfl, rfl, by kernel_rfl⟩
def c_slices_breakPatternsCmpFunc_int : SCode := cval (show codeOf {Try.prog with funcs := #[], inits := #[]} Try.f108 = _ by conv => lhs; cbv)
theorem fn_slices_breakPatternsCmpFunc_int : FnIs Try.prog 108 67 c_slices_breakPatternsCmpFunc_int [] := ⟨_, _, Try.func108, by kernel_rfl, rfl, by kernel_rfl, rfl, by kernel_rfl⟩
def c_slices_choosePivotCmpFunc_int : SCode := cval (show codeOf {Try.prog with funcs := #[], inits := #[]} Try.f109 = _ by conv => lhs; cbv)
theorem fn_slices_choosePivotCmpFunc_int : FnIs Try.prog 109 63 c_slices_choosePivotCmpFunc_int [.tmp 8, .tmp 9] := ⟨_, _, Try.func109, by kernel_rfl, rfl, by kernel_rfl, rfl, by kernel_rfl⟩
def c_slices_reverseRangeCmpFunc_int : SCode := cval (show codeOf {Try.prog with funcs := #[], inits := #[]} Try.f110 = _ by conv => lhs; cbv)
theorem fn_slices_reverseRangeCmpFunc_int : FnIs Try.prog 110 34 c_slices_reverseRangeCmpFunc_int [] := ⟨_, _, Try.func110, by kernel_rfl, rfl, by kernel_rfl, rfl, by kernel_rfl⟩
def c_math_bits_Len32 : SCode := cval (show codeOf {Try.prog with funcs := #[], inits := #[]} Try.f114 = _ by conv => lhs; cbv)
theorem fn_math_bits_Len32 : FnIs Try.prog 114 19 c_math_bits_Len32 [.tmp 2] := ⟨_, _, Try.func114, by kernel_rfl, rfl, by kernel_rfl, rfl, by kernel_rfl⟩
def c_math_bits_Len64 : SCode := cval (show codeOf {Try.prog with funcs := #[], inits := #[]} Try.f115 = _ by conv => lhs; cbv)
theorem fn_math_bits_Len64 : FnIs Try.prog 115 25 c_math_bits_Len64 [.tmp 2] := ⟨_, _, Try.func115, by kernel_rfl, rfl, by kernel_rfl, rfl, by kernel_rfl⟩
def c_slices_siftDownCmpFunc_int : SCode := cval (show codeOf {Try.prog with funcs := #[], inits := #[]} Try.f116 = _ by conv => lhs; cbv)
theorem fn_slices_siftDownCmpFunc_int : FnIs Try.prog 116 82 c_slices_siftDownCmpFunc_int [] := ⟨_, _, Try.func116, by kernel_rfl, rfl, by kernel_rfl, rfl, by kernel_rfl⟩
def c_slices_medianCmpFunc_int : SCode := cval (show codeOf {Try.prog with funcs := #[], inits := #[]} Try.f120 = _ by conv => lhs; cbv)
theorem fn_slices_medianCmpFunc_int : FnIs Try.prog 120 41 c_slices_medianCmpFunc_int [.tmp 12] := ⟨_, _, Try.func120, by kernel_rfl, rfl, by kernel_rfl, rfl, by kernel_rfl⟩
end Go.Proofs.Ytnempffajbdneaa
