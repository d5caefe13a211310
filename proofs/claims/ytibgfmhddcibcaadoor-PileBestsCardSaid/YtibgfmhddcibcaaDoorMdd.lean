/- The program's functions as the layer above reads them: reckoned off the loaded program; each is held against it by the kernel. -/
import Derived.Test.YtibgfmhddcibcaaDoorChecked
import Derived.Test.YtibgfmhddcibcaaDoorMb
set_option maxRecDepth 100000
set_option maxHeartbeats 4000000
namespace Go.Proofs.YtibgfmhddcibcaaDoor
open Go Go.Av
abbrev F.law02_PileFaults : Nat := 4
def c_law02_PileFaults : SCode := cval (show codeOf {Tryd.prog with funcs := #[], inits := #[]} Tryd.f4 = _ by conv => lhs; cbv)
theorem fn_law02_PileFaults : FnIs Tryd.prog 4 57 c_law02_PileFaults [.tmp 6] := ⟨_, _, Tryd.func4, by kernel_rfl, rfl, by kernel_rfl, rfl, by kernel_rfl⟩
abbrev F.law02_PileBests : Nat := 5
def c_law02_PileBests : SCode := cval (show codeOf {Tryd.prog with funcs := #[], inits := #[]} Tryd.f5 = _ by conv => lhs; cbv)
theorem fn_law02_PileBests : FnIs Tryd.prog 5 96 c_law02_PileBests [.tmp 4] := ⟨_, _, Tryd.func5, by kernel_rfl, rfl, by kernel_rfl, rfl, by kernel_rfl⟩
abbrev F.law02_PileTrue : Nat := 14
def c_law02_PileTrue : SCode := cval (show codeOf {Tryd.prog with funcs := #[], inits := #[]} Tryd.f14 = _ by conv => lhs; cbv)
theorem fn_law02_PileTrue : FnIs Tryd.prog 14 237 c_law02_PileTrue [.tmp 8] := ⟨_, _, Tryd.func14, by kernel_rfl, rfl, by kernel_rfl, rfl, by kernel_rfl⟩
abbrev F.ref02_SameSpans : Nat := 19
def c_ref02_SameSpans : SCode := cval (show codeOf {Tryd.prog with funcs := #[], inits := #[]} Tryd.f19 = _ by conv => lhs; cbv)
theorem fn_ref02_SameSpans : FnIs Tryd.prog 19 53 c_ref02_SameSpans [.tmp 4] := ⟨_, _, Tryd.func19, by kernel_rfl, rfl, by kernel_rfl, rfl, by kernel_rfl⟩
abbrev F.pile_Best : Nat := 24
def c_pile_Best : SCode := cval (show codeOf {Tryd.prog with funcs := #[], inits := #[]} Tryd.f24 = _ by conv => lhs; cbv)
theorem fn_pile_Best : FnIs Tryd.prog 24 55 c_pile_Best [.tmp 4, .tmp 5, .tmp 6] := ⟨_, _, Tryd.func24, by kernel_rfl, rfl, by kernel_rfl, rfl, by kernel_rfl⟩
abbrev F.ref02_Ready : Nat := 32
def c_ref02_Ready : SCode := cval (show codeOf {Tryd.prog with funcs := #[], inits := #[]} Tryd.f32 = _ by conv => lhs; cbv)
theorem fn_ref02_Ready : FnIs Tryd.prog 32 23 c_ref02_Ready [.tmp 6] := ⟨_, _, Tryd.func32, by kernel_rfl, rfl, by kernel_rfl, rfl, by kernel_rfl⟩
abbrev F.pile_Carries : Nat := 35
def c_pile_Carries : SCode := cval (show codeOf {Tryd.prog with funcs := #[], inits := #[]} Tryd.f35 = _ by conv => lhs; cbv)
theorem fn_pile_Carries : FnIs Tryd.prog 35 63 c_pile_Carries [.tmp 4, .tmp 5] := ⟨_, _, Tryd.func35, by kernel_rfl, rfl, by kernel_rfl, rfl, by kernel_rfl⟩
abbrev F.ref02_Jacked : Nat := 37
def c_ref02_Jacked : SCode := cval (show codeOf {Tryd.prog with funcs := #[], inits := #[]} Tryd.f37 = _ by conv => lhs; cbv)
theorem fn_ref02_Jacked : FnIs Tryd.prog 37 16 c_ref02_Jacked [.tmp 4] := ⟨_, _, Tryd.func37, by kernel_rfl, rfl, by kernel_rfl, rfl, by kernel_rfl⟩
abbrev F.ref02_Play : Nat := 41
def c_ref02_Play : SCode := cval (show codeOf {Tryd.prog with funcs := #[], inits := #[]} Tryd.f41 = _ by conv => lhs; cbv)
theorem fn_ref02_Play : FnIs Tryd.prog 41 65 c_ref02_Play [.tmp 6] := ⟨_, _, Tryd.func41, by kernel_rfl, rfl, by kernel_rfl, rfl, by kernel_rfl⟩
abbrev F.ref02_Ends : Nat := 42
def c_ref02_Ends : SCode := cval (show codeOf {Tryd.prog with funcs := #[], inits := #[]} Tryd.f42 = _ by conv => lhs; cbv)
theorem fn_ref02_Ends : FnIs Tryd.prog 42 47 c_ref02_Ends [.tmp 6] := ⟨_, _, Tryd.func42, by kernel_rfl, rfl, by kernel_rfl, rfl, by kernel_rfl⟩
abbrev F.pile_Lost : Nat := 47
def c_pile_Lost : SCode := cval (show codeOf {Tryd.prog with funcs := #[], inits := #[]} Tryd.f47 = _ by conv => lhs; cbv)
theorem fn_pile_Lost : FnIs Tryd.prog 47 44 c_pile_Lost [.tmp 4, .tmp 5] := ⟨_, _, Tryd.func47, by kernel_rfl, rfl, by kernel_rfl, rfl, by kernel_rfl⟩
abbrev F.ref02_Site : Nat := 48
def c_ref02_Site : SCode := cval (show codeOf {Tryd.prog with funcs := #[], inits := #[]} Tryd.f48 = _ by conv => lhs; cbv)
theorem fn_ref02_Site : FnIs Tryd.prog 48 169 c_ref02_Site [.tmp 2] := ⟨_, _, Tryd.func48, by kernel_rfl, rfl, by kernel_rfl, rfl, by kernel_rfl⟩
abbrev F.pile_site_given : Nat := 57
def c_pile_site_given : SCode := cval (show codeOf {Tryd.prog with funcs := #[], inits := #[]} Tryd.f57 = _ by conv => lhs; cbv)
theorem fn_pile_site_given : FnIs Tryd.prog 57 34 c_pile_site_given [.tmp 6] := ⟨_, _, Tryd.func57, by kernel_rfl, rfl, by kernel_rfl, rfl, by kernel_rfl⟩
abbrev F.ref02_Wrong : Nat := 61
def c_ref02_Wrong : SCode := cval (show codeOf {Tryd.prog with funcs := #[], inits := #[]} Tryd.f61 = _ by conv => lhs; cbv)
theorem fn_ref02_Wrong : FnIs Tryd.prog 61 118 c_ref02_Wrong [.tmp 6, .tmp 7] := ⟨_, _, Tryd.func61, by kernel_rfl, rfl, by kernel_rfl, rfl, by kernel_rfl⟩
abbrev F.ref02_Thaws : Nat := 62
def c_ref02_Thaws : SCode := cval (show codeOf {Tryd.prog with funcs := #[], inits := #[]} Tryd.f62 = _ by conv => lhs; cbv)
theorem fn_ref02_Thaws : FnIs Tryd.prog 62 40 c_ref02_Thaws [.tmp 4] := ⟨_, _, Tryd.func62, by kernel_rfl, rfl, by kernel_rfl, rfl, by kernel_rfl⟩
abbrev F.pile_pile : Nat := 71
def c_pile_pile : SCode := cval (show codeOf {Tryd.prog with funcs := #[], inits := #[]} Tryd.f71 = _ by conv => lhs; cbv)
theorem fn_pile_pile : FnIs Tryd.prog 71 31 c_pile_pile [.tmp 2] := ⟨_, _, Tryd.func71, by kernel_rfl, rfl, by kernel_rfl, rfl, by kernel_rfl⟩
abbrev F.pile_span : Nat := 72
def c_pile_span : SCode := cval (show codeOf {Tryd.prog with funcs := #[], inits := #[]} Tryd.f72 = _ by conv => lhs; cbv)
theorem fn_pile_span : FnIs Tryd.prog 72 24 c_pile_span [.tmp 6] := ⟨_, _, Tryd.func72, by kernel_rfl, rfl, by kernel_rfl, rfl, by kernel_rfl⟩
abbrev F.ref02_Truth : Nat := 82
def c_ref02_Truth : SCode := cval (show codeOf {Tryd.prog with funcs := #[], inits := #[]} Tryd.f82 = _ by conv => lhs; cbv)
theorem fn_ref02_Truth : FnIs Tryd.prog 82 46 c_ref02_Truth [.tmp 8] := ⟨_, _, Tryd.func82, by kernel_rfl, rfl, by kernel_rfl, rfl, by kernel_rfl⟩
abbrev F.pile_valid : Nat := 84
def c_pile_valid : SCode := cval (show codeOf {Tryd.prog with funcs := #[], inits := #[]} Tryd.f84 = _ by conv => lhs; cbv)
theorem fn_pile_valid : FnIs Tryd.prog 84 102 c_pile_valid [.tmp 2] := ⟨_, _, Tryd.func84, by kernel_rfl, rfl, by kernel_rfl, rfl, by kernel_rfl⟩
abbrev F.pile_site_loses : Nat := 85
def c_pile_site_loses : SCode := cval (show codeOf {Tryd.prog with funcs := #[], inits := #[]} Tryd.f85 = _ by conv => lhs; cbv)
theorem fn_pile_site_loses : FnIs Tryd.prog 85 40 c_pile_site_loses [.tmp 6] := ⟨_, _, Tryd.func85, by kernel_rfl, rfl, by kernel_rfl, rfl, by kernel_rfl⟩
abbrev F.pile_site_given_1_1 : Nat := 93
def c_pile_site_given_1_1 : SCode := cval (show codeOf {Tryd.prog with funcs := #[], inits := #[]} Tryd.f93 = _ by conv => lhs; cbv)
theorem fn_pile_site_given_1_1 : FnIs Tryd.prog 93 6 c_pile_site_given_1_1 [.tmp 2] := ⟨_, _, Tryd.func93, by kernel_rfl, rfl, by kernel_rfl, rfl, by kernel_rfl⟩
abbrev F.pile_site_planned_1 : Nat := 95
def c_pile_site_planned_1 : SCode := cval (show codeOf {Tryd.prog with funcs := #[], inits := #[]} Tryd.f95 = _ by conv => lhs; cbv)
theorem fn_pile_site_planned_1 : FnIs Tryd.prog 95 15 c_pile_site_planned_1 [.tmp 3] := ⟨_, _, Tryd.func95, by kernel_rfl, rfl, by kernel_rfl, rfl, by kernel_rfl⟩
abbrev F.pile_site_low : Nat := 96
def c_pile_site_low : SCode := cval (show codeOf {Tryd.prog with funcs := #[], inits := #[]} Tryd.f96 = _ by conv => lhs; cbv)
theorem fn_pile_site_low : FnIs Tryd.prog 96 41 c_pile_site_low [.tmp 6] := ⟨_, _, Tryd.func96, by kernel_rfl, rfl, by kernel_rfl, rfl, by kernel_rfl⟩
abbrev F.pile_site_fault_2 : Nat := 101
def c_pile_site_fault_2 : SCode := cval (show codeOf {Tryd.prog with funcs := #[], inits := #[]} Tryd.f101 = _ by conv => lhs; cbv)
theorem fn_pile_site_fault_2 : FnIs Tryd.prog 101 9 c_pile_site_fault_2 [.tmp 4] := ⟨_, _, Tryd.func101, by kernel_rfl, rfl, by kernel_rfl, rfl, by kernel_rfl⟩
abbrev F.pile_site_fault_3 : Nat := 103
def c_pile_site_fault_3 : SCode := cval (show codeOf {Tryd.prog with funcs := #[], inits := #[]} Tryd.f103 = _ by conv => lhs; cbv)
theorem fn_pile_site_fault_3 : FnIs Tryd.prog 103 17 c_pile_site_fault_3 [.tmp 4] := ⟨_, _, Tryd.func103, by kernel_rfl, rfl, by kernel_rfl, rfl, by kernel_rfl⟩
abbrev F.slices_ContainsFunc_apiPile : Nat := 107
def c_slices_ContainsFunc_apiPile : SCode := cval (show codeOf {Tryd.prog with funcs := #[], inits := #[]} Tryd.f107 = _ by conv => lhs; cbv)
theorem fn_slices_ContainsFunc_apiPile : FnIs Tryd.prog 107 9 c_slices_ContainsFunc_apiPile [.tmp 4] := ⟨_, _, Tryd.func107, by kernel_rfl, rfl, by kernel_rfl, rfl, by kernel_rfl⟩
abbrev F.pile_valid_2 : Nat := 110
def c_pile_valid_2 : SCode := cval (show codeOf {Tryd.prog with funcs := #[], inits := #[]} Tryd.f110 = _ by conv => lhs; cbv)
theorem fn_pile_valid_2 : FnIs Tryd.prog 110 25 c_pile_valid_2 [.tmp 3] := ⟨_, _, Tryd.func110, by kernel_rfl, rfl, by kernel_rfl, rfl, by kernel_rfl⟩
abbrev F.pile_booked_1 : Nat := 112
def c_pile_booked_1 : SCode := cval (show codeOf {Tryd.prog with funcs := #[], inits := #[]} Tryd.f112 = _ by conv => lhs; cbv)
theorem fn_pile_booked_1 : FnIs Tryd.prog 112 15 c_pile_booked_1 [.tmp 3] := ⟨_, _, Tryd.func112, by kernel_rfl, rfl, by kernel_rfl, rfl, by kernel_rfl⟩
abbrev F.slices_IndexFunc_apiSpan : Nat := 115
def c_slices_IndexFunc_apiSpan : SCode := cval (show codeOf {Tryd.prog with funcs := #[], inits := #[]} Tryd.f115 = _ by conv => lhs; cbv)
theorem fn_slices_IndexFunc_apiSpan : FnIs Tryd.prog 115 19 c_slices_IndexFunc_apiSpan [.tmp 4] := ⟨_, _, Tryd.func115, by kernel_rfl, rfl, by kernel_rfl, rfl, by kernel_rfl⟩
abbrev F.slices_IndexFunc_int_120 : Nat := 120
def c_slices_IndexFunc_int_120 : SCode := cval (show codeOf {Tryd.prog with funcs := #[], inits := #[]} Tryd.f120 = _ by conv => lhs; cbv)
theorem fn_slices_IndexFunc_int_120 : FnIs Tryd.prog 120 19 c_slices_IndexFunc_int_120 [.tmp 4] := ⟨_, _, Tryd.func120, by kernel_rfl, rfl, by kernel_rfl, rfl, by kernel_rfl⟩
abbrev F.strconv_bool2_int : Nat := 129
def c_strconv_bool2_int : SCode := cval (show codeOf {Tryd.prog with funcs := #[], inits := #[]} Tryd.f129 = _ by conv => lhs; cbv)
theorem fn_strconv_bool2_int : FnIs Tryd.prog 129 4 c_strconv_bool2_int [.tmp 2] := ⟨_, _, Tryd.func129, by kernel_rfl, rfl, by kernel_rfl, rfl, by kernel_rfl⟩
end Go.Proofs.YtibgfmhddcibcaaDoor
