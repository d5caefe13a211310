/- The program's functions as the layer above reads them: reckoned off the loaded program; each is held against it by the kernel. -/
import Derived.Test.YtibgfmhddcibcaaDoorChecked
import Derived.Test.YtibgfmhddcibcaaDoorMb
set_option maxRecDepth 100000
set_option maxHeartbeats 4000000
namespace Go.Proofs.YtibgfmhddcibcaaDoor
open Go Go.Av
abbrev F.law02_PileLevels : Nat := 3
def c_law02_PileLevels : SCode := cval (show codeOf {Tryd.prog with funcs := #[], inits := #[]} Tryd.f3 = _ by conv => lhs; cbv)
theorem fn_law02_PileLevels : FnIs Tryd.prog 3 57 c_law02_PileLevels [.tmp 6] := ⟨_, _, Tryd.func3, by kernel_rfl, rfl, by kernel_rfl, rfl, by kernel_rfl⟩
abbrev F.law02_PileRivals : Nat := 6
def c_law02_PileRivals : SCode := cval (show codeOf {Tryd.prog with funcs := #[], inits := #[]} Tryd.f6 = _ by conv => lhs; cbv)
theorem fn_law02_PileRivals : FnIs Tryd.prog 6 120 c_law02_PileRivals [.tmp 6] := ⟨_, _, Tryd.func6, by kernel_rfl, rfl, by kernel_rfl, rfl, by kernel_rfl⟩
abbrev F.pile_Levels : Nat := 17
def c_pile_Levels : SCode := cval (show codeOf {Tryd.prog with funcs := #[], inits := #[]} Tryd.f17 = _ by conv => lhs; cbv)
theorem fn_pile_Levels : FnIs Tryd.prog 17 33 c_pile_Levels [.tmp 6, .tmp 7] := ⟨_, _, Tryd.func17, by kernel_rfl, rfl, by kernel_rfl, rfl, by kernel_rfl⟩
abbrev F.law02_planned : Nat := 18
def c_law02_planned : SCode := cval (show codeOf {Tryd.prog with funcs := #[], inits := #[]} Tryd.f18 = _ by conv => lhs; cbv)
theorem fn_law02_planned : FnIs Tryd.prog 18 27 c_law02_planned [.tmp 6] := ⟨_, _, Tryd.func18, by kernel_rfl, rfl, by kernel_rfl, rfl, by kernel_rfl⟩
abbrev F.ref02_Levels : Nat := 20
def c_ref02_Levels : SCode := cval (show codeOf {Tryd.prog with funcs := #[], inits := #[]} Tryd.f20 = _ by conv => lhs; cbv)
theorem fn_ref02_Levels : FnIs Tryd.prog 20 63 c_ref02_Levels [.tmp 6] := ⟨_, _, Tryd.func20, by kernel_rfl, rfl, by kernel_rfl, rfl, by kernel_rfl⟩
abbrev F.pile_Fault : Nat := 21
def c_pile_Fault : SCode := cval (show codeOf {Tryd.prog with funcs := #[], inits := #[]} Tryd.f21 = _ by conv => lhs; cbv)
theorem fn_pile_Fault : FnIs Tryd.prog 21 46 c_pile_Fault [.cell 6 true 3, .tmp 7] := ⟨_, _, Tryd.func21, by kernel_rfl, rfl, by kernel_rfl, rfl, by kernel_rfl⟩
abbrev F.ref02_Fault : Nat := 22
def c_ref02_Fault : SCode := cval (show codeOf {Tryd.prog with funcs := #[], inits := #[]} Tryd.f22 = _ by conv => lhs; cbv)
theorem fn_ref02_Fault : FnIs Tryd.prog 22 41 c_ref02_Fault [.cell 6 true 3] := ⟨_, _, Tryd.func22, by kernel_rfl, rfl, by kernel_rfl, rfl, by kernel_rfl⟩
abbrev F.ref02_Plan : Nat := 28
def c_ref02_Plan : SCode := cval (show codeOf {Tryd.prog with funcs := #[], inits := #[]} Tryd.f28 = _ by conv => lhs; cbv)
theorem fn_ref02_Plan : FnIs Tryd.prog 28 37 c_ref02_Plan [.tmp 6] := ⟨_, _, Tryd.func28, by kernel_rfl, rfl, by kernel_rfl, rfl, by kernel_rfl⟩
abbrev F.law02_cured : Nat := 31
def c_law02_cured : SCode := cval (show codeOf {Tryd.prog with funcs := #[], inits := #[]} Tryd.f31 = _ by conv => lhs; cbv)
theorem fn_law02_cured : FnIs Tryd.prog 31 17 c_law02_cured [.tmp 6] := ⟨_, _, Tryd.func31, by kernel_rfl, rfl, by kernel_rfl, rfl, by kernel_rfl⟩
abbrev F.law02_narrow : Nat := 34
def c_law02_narrow : SCode := cval (show codeOf {Tryd.prog with funcs := #[], inits := #[]} Tryd.f34 = _ by conv => lhs; cbv)
theorem fn_law02_narrow : FnIs Tryd.prog 34 14 c_law02_narrow [.cell 6 true 2] := ⟨_, _, Tryd.func34, by kernel_rfl, rfl, by kernel_rfl, rfl, by kernel_rfl⟩
abbrev F.pile_Check : Nat := 46
def c_pile_Check : SCode := cval (show codeOf {Tryd.prog with funcs := #[], inits := #[]} Tryd.f46 = _ by conv => lhs; cbv)
theorem fn_pile_Check : FnIs Tryd.prog 46 6 c_pile_Check [.tmp 2] := ⟨_, _, Tryd.func46, by kernel_rfl, rfl, by kernel_rfl, rfl, by kernel_rfl⟩
abbrev F.law02_percents : Nat := 51
def c_law02_percents : SCode := cval (show codeOf {Tryd.prog with funcs := #[], inits := #[]} Tryd.f51 = _ by conv => lhs; cbv)
theorem fn_law02_percents : FnIs Tryd.prog 51 30 c_law02_percents [.tmp 2] := ⟨_, _, Tryd.func51, by kernel_rfl, rfl, by kernel_rfl, rfl, by kernel_rfl⟩
abbrev F.law02_truth : Nat := 52
def c_law02_truth : SCode := cval (show codeOf {Tryd.prog with funcs := #[], inits := #[]} Tryd.f52 = _ by conv => lhs; cbv)
theorem fn_law02_truth : FnIs Tryd.prog 52 90 c_law02_truth [.tmp 6] := ⟨_, _, Tryd.func52, by kernel_rfl, rfl, by kernel_rfl, rfl, by kernel_rfl⟩
abbrev F.pile_site_levels : Nat := 59
def c_pile_site_levels : SCode := cval (show codeOf {Tryd.prog with funcs := #[], inits := #[]} Tryd.f59 = _ by conv => lhs; cbv)
def c_pile_site_levels_l3 : SCode := cval (show rngAt 0 (codeOf {Tryd.prog with funcs := #[], inits := #[]} Tryd.f59) = _ by conv => lhs; cbv)
theorem fn_pile_site_levels : FnIs Tryd.prog 59 82 c_pile_site_levels [.tmp 4] := ⟨_, _, Tryd.func59, by kernel_rfl, rfl, by kernel_rfl, rfl, by kernel_rfl⟩
abbrev F.pile_Best_1 : Nat := 63
def c_pile_Best_1 : SCode := cval (show codeOf {Tryd.prog with funcs := #[], inits := #[]} Tryd.f63 = _ by conv => lhs; cbv)
theorem fn_pile_Best_1 : FnIs Tryd.prog 63 57 c_pile_Best_1 [.cell 7 true 3] := ⟨_, _, Tryd.func63, by kernel_rfl, rfl, by kernel_rfl, rfl, by kernel_rfl⟩
abbrev F.pile_Best_1_1 : Nat := 66
def c_pile_Best_1_1 : SCode := cval (show codeOf {Tryd.prog with funcs := #[], inits := #[]} Tryd.f66 = _ by conv => lhs; cbv)
theorem fn_pile_Best_1_1 : FnIs Tryd.prog 66 22 c_pile_Best_1_1 [.tmp 5, .tmp 6] := ⟨_, _, Tryd.func66, by kernel_rfl, rfl, by kernel_rfl, rfl, by kernel_rfl⟩
abbrev F.pile_site_jack : Nat := 67
def c_pile_site_jack : SCode := cval (show codeOf {Tryd.prog with funcs := #[], inits := #[]} Tryd.f67 = _ by conv => lhs; cbv)
def c_pile_site_jack_l0 : SCode := cval (show rngAt 0 (codeOf {Tryd.prog with funcs := #[], inits := #[]} Tryd.f67) = _ by conv => lhs; cbv)
theorem fn_pile_site_jack : FnIs Tryd.prog 67 20 c_pile_site_jack [.cell 6 true 13] := ⟨_, _, Tryd.func67, by kernel_rfl, rfl, by kernel_rfl, rfl, by kernel_rfl⟩
abbrev F.ref02_plans : Nat := 69
def c_ref02_plans : SCode := cval (show codeOf {Tryd.prog with funcs := #[], inits := #[]} Tryd.f69 = _ by conv => lhs; cbv)
theorem fn_ref02_plans : FnIs Tryd.prog 69 51 c_ref02_plans [.tmp 4] := ⟨_, _, Tryd.func69, by kernel_rfl, rfl, by kernel_rfl, rfl, by kernel_rfl⟩
abbrev F.ref02_End : Nat := 83
def c_ref02_End : SCode := cval (show codeOf {Tryd.prog with funcs := #[], inits := #[]} Tryd.f83 = _ by conv => lhs; cbv)
theorem fn_ref02_End : FnIs Tryd.prog 83 42 c_ref02_End [.cell 8 true 3] := ⟨_, _, Tryd.func83, by kernel_rfl, rfl, by kernel_rfl, rfl, by kernel_rfl⟩
abbrev F.pile_line : Nat := 88
def c_pile_line : SCode := cval (show codeOf {Tryd.prog with funcs := #[], inits := #[]} Tryd.f88 = _ by conv => lhs; cbv)
theorem fn_pile_line : FnIs Tryd.prog 88 21 c_pile_line [.tmp 4] := ⟨_, _, Tryd.func88, by kernel_rfl, rfl, by kernel_rfl, rfl, by kernel_rfl⟩
abbrev F.pile_site_given_1 : Nat := 91
def c_pile_site_given_1 : SCode := cval (show codeOf {Tryd.prog with funcs := #[], inits := #[]} Tryd.f91 = _ by conv => lhs; cbv)
theorem fn_pile_site_given_1 : FnIs Tryd.prog 91 17 c_pile_site_given_1 [.tmp 3] := ⟨_, _, Tryd.func91, by kernel_rfl, rfl, by kernel_rfl, rfl, by kernel_rfl⟩
abbrev F.pile_first : Nat := 99
def c_pile_first : SCode := cval (show codeOf {Tryd.prog with funcs := #[], inits := #[]} Tryd.f99 = _ by conv => lhs; cbv)
theorem fn_pile_first : FnIs Tryd.prog 99 15 c_pile_first [.tmp 4] := ⟨_, _, Tryd.func99, by kernel_rfl, rfl, by kernel_rfl, rfl, by kernel_rfl⟩
abbrev F.pile_site_fault_1 : Nat := 100
def c_pile_site_fault_1 : SCode := cval (show codeOf {Tryd.prog with funcs := #[], inits := #[]} Tryd.f100 = _ by conv => lhs; cbv)
theorem fn_pile_site_fault_1 : FnIs Tryd.prog 100 9 c_pile_site_fault_1 [.tmp 4] := ⟨_, _, Tryd.func100, by kernel_rfl, rfl, by kernel_rfl, rfl, by kernel_rfl⟩
abbrev F.pile_site_row : Nat := 105
def c_pile_site_row : SCode := cval (show codeOf {Tryd.prog with funcs := #[], inits := #[]} Tryd.f105 = _ by conv => lhs; cbv)
theorem fn_pile_site_row : FnIs Tryd.prog 105 56 c_pile_site_row [.cell 8 true 3, .tmp 9] := ⟨_, _, Tryd.func105, by kernel_rfl, rfl, by kernel_rfl, rfl, by kernel_rfl⟩
abbrev F.slices_ContainsFunc_int_111 : Nat := 111
def c_slices_ContainsFunc_int_111 : SCode := cval (show codeOf {Tryd.prog with funcs := #[], inits := #[]} Tryd.f111 = _ by conv => lhs; cbv)
theorem fn_slices_ContainsFunc_int_111 : FnIs Tryd.prog 111 9 c_slices_ContainsFunc_int_111 [.tmp 4] := ⟨_, _, Tryd.func111, by kernel_rfl, rfl, by kernel_rfl, rfl, by kernel_rfl⟩
abbrev F.strconv_Itoa : Nat := 114
def c_strconv_Itoa : SCode := cval (show codeOf {Tryd.prog with funcs := #[], inits := #[]} Tryd.f114 = _ by conv => lhs; cbv)
theorem fn_strconv_Itoa : FnIs Tryd.prog 114 5 c_strconv_Itoa [.tmp 2] := ⟨_, _, Tryd.func114, by kernel_rfl, rfl, by kernel_rfl, rfl, by kernel_rfl⟩
abbrev F.slices_IndexFunc_int : Nat := 117
def c_slices_IndexFunc_int : SCode := cval (show codeOf {Tryd.prog with funcs := #[], inits := #[]} Tryd.f117 = _ by conv => lhs; cbv)
theorem fn_slices_IndexFunc_int : FnIs Tryd.prog 117 19 c_slices_IndexFunc_int [.tmp 4] := ⟨_, _, Tryd.func117, by kernel_rfl, rfl, by kernel_rfl, rfl, by kernel_rfl⟩
abbrev F.strconv_Itoa_121 : Nat := 121
def c_strconv_Itoa_121 : SCode := cval (show codeOf {Tryd.prog with funcs := #[], inits := #[]} Tryd.f121 = _ by conv => lhs; cbv)
theorem fn_strconv_Itoa_121 : FnIs Tryd.prog 121 5 c_strconv_Itoa_121 [.tmp 2] := ⟨_, _, Tryd.func121, by kernel_rfl, rfl, by kernel_rfl, rfl, by kernel_rfl⟩
abbrev F.strconv_small : Nat := 123
def c_strconv_small : SCode := cval (show codeOf {Tryd.prog with funcs := #[], inits := #[]} Tryd.f123 = _ by conv => lhs; cbv)
theorem fn_strconv_small : FnIs Tryd.prog 123 15 c_strconv_small [.tmp 2] := ⟨_, _, Tryd.func123, by kernel_rfl, rfl, by kernel_rfl, rfl, by kernel_rfl⟩
abbrev F.strconv_formatBase10 : Nat := 125
def c_strconv_formatBase10 : SCode := cval (show codeOf {Tryd.prog with funcs := #[], inits := #[]} Tryd.f125 = _ by conv => lhs; cbv)
theorem fn_strconv_formatBase10 : FnIs Tryd.prog 125 167 c_strconv_formatBase10 [] := ⟨_, _, Tryd.func125, by kernel_rfl, rfl, by kernel_rfl, rfl, by kernel_rfl⟩
abbrev F.strconv_formatBits : Nat := 126
def c_strconv_formatBits : SCode := cval (show codeOf {Tryd.prog with funcs := #[], inits := #[]} Tryd.f126 = _ by conv => lhs; cbv)
theorem fn_strconv_formatBits : FnIs Tryd.prog 126 102 c_strconv_formatBits [.tmp 10, .tmp 11] := ⟨_, _, Tryd.func126, by kernel_rfl, rfl, by kernel_rfl, rfl, by kernel_rfl⟩
end Go.Proofs.YtibgfmhddcibcaaDoor
