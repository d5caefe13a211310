/- The program's functions as the layer above reads them: reckoned off the loaded program; each is held against it by the kernel. -/
import Derived.Test.YtibgfmhddcibcaaDoorChecked
import Derived.Test.YtibgfmhddcibcaaDoorMb
set_option maxRecDepth 100000
set_option maxHeartbeats 4000000
namespace Go.Proofs.YtibgfmhddcibcaaDoor
open Go Go.Av
abbrev F.law02_PileReadies : Nat := 7
def c_law02_PileReadies : SCode := cval (show codeOf {Tryd.prog with funcs := #[], inits := #[]} Tryd.f7 = _ by conv => lhs; cbv)
theorem fn_law02_PileReadies : FnIs Tryd.prog 7 60 c_law02_PileReadies [.tmp 6] := ⟨_, _, Tryd.func7, by kernel_rfl, rfl, by kernel_rfl, rfl, by kernel_rfl⟩
abbrev F.law02_PilePlays : Nat := 10
def c_law02_PilePlays : SCode := cval (show codeOf {Tryd.prog with funcs := #[], inits := #[]} Tryd.f10 = _ by conv => lhs; cbv)
theorem fn_law02_PilePlays : FnIs Tryd.prog 10 91 c_law02_PilePlays [.tmp 8] := ⟨_, _, Tryd.func10, by kernel_rfl, rfl, by kernel_rfl, rfl, by kernel_rfl⟩
abbrev F.law02_PileBlamed : Nat := 12
def c_law02_PileBlamed : SCode := cval (show codeOf {Tryd.prog with funcs := #[], inits := #[]} Tryd.f12 = _ by conv => lhs; cbv)
theorem fn_law02_PileBlamed : FnIs Tryd.prog 12 259 c_law02_PileBlamed [.tmp 6] := ⟨_, _, Tryd.func12, by kernel_rfl, rfl, by kernel_rfl, rfl, by kernel_rfl⟩
abbrev F.law02_PileChecks : Nat := 13
def c_law02_PileChecks : SCode := cval (show codeOf {Tryd.prog with funcs := #[], inits := #[]} Tryd.f13 = _ by conv => lhs; cbv)
theorem fn_law02_PileChecks : FnIs Tryd.prog 13 164 c_law02_PileChecks [.tmp 4] := ⟨_, _, Tryd.func13, by kernel_rfl, rfl, by kernel_rfl, rfl, by kernel_rfl⟩
abbrev F.law02_short : Nat := 15
def c_law02_short : SCode := cval (show codeOf {Tryd.prog with funcs := #[], inits := #[]} Tryd.f15 = _ by conv => lhs; cbv)
theorem fn_law02_short : FnIs Tryd.prog 15 43 c_law02_short [.tmp 4] := ⟨_, _, Tryd.func15, by kernel_rfl, rfl, by kernel_rfl, rfl, by kernel_rfl⟩
abbrev F.law02_known : Nat := 16
def c_law02_known : SCode := cval (show codeOf {Tryd.prog with funcs := #[], inits := #[]} Tryd.f16 = _ by conv => lhs; cbv)
theorem fn_law02_known : FnIs Tryd.prog 16 104 c_law02_known [.tmp 0] := ⟨_, _, Tryd.func16, by kernel_rfl, rfl, by kernel_rfl, rfl, by kernel_rfl⟩
abbrev F.law02_asked : Nat := 23
def c_law02_asked : SCode := cval (show codeOf {Tryd.prog with funcs := #[], inits := #[]} Tryd.f23 = _ by conv => lhs; cbv)
theorem fn_law02_asked : FnIs Tryd.prog 23 17 c_law02_asked [.tmp 4] := ⟨_, _, Tryd.func23, by kernel_rfl, rfl, by kernel_rfl, rfl, by kernel_rfl⟩
abbrev F.ref02_Same : Nat := 26
def c_ref02_Same : SCode := cval (show codeOf {Tryd.prog with funcs := #[], inits := #[]} Tryd.f26 = _ by conv => lhs; cbv)
theorem fn_ref02_Same : FnIs Tryd.prog 26 26 c_ref02_Same [.tmp 4] := ⟨_, _, Tryd.func26, by kernel_rfl, rfl, by kernel_rfl, rfl, by kernel_rfl⟩
abbrev F.ref02_Cost : Nat := 27
def c_ref02_Cost : SCode := cval (show codeOf {Tryd.prog with funcs := #[], inits := #[]} Tryd.f27 = _ by conv => lhs; cbv)
theorem fn_ref02_Cost : FnIs Tryd.prog 27 36 c_ref02_Cost [.tmp 4] := ⟨_, _, Tryd.func27, by kernel_rfl, rfl, by kernel_rfl, rfl, by kernel_rfl⟩
abbrev F.pile_Ready : Nat := 30
def c_pile_Ready : SCode := cval (show codeOf {Tryd.prog with funcs := #[], inits := #[]} Tryd.f30 = _ by conv => lhs; cbv)
theorem fn_pile_Ready : FnIs Tryd.prog 30 91 c_pile_Ready [.tmp 6, .tmp 7] := ⟨_, _, Tryd.func30, by kernel_rfl, rfl, by kernel_rfl, rfl, by kernel_rfl⟩
abbrev F.ref02_New : Nat := 33
def c_ref02_New : SCode := cval (show codeOf {Tryd.prog with funcs := #[], inits := #[]} Tryd.f33 = _ by conv => lhs; cbv)
theorem fn_ref02_New : FnIs Tryd.prog 33 35 c_ref02_New [.tmp 8] := ⟨_, _, Tryd.func33, by kernel_rfl, rfl, by kernel_rfl, rfl, by kernel_rfl⟩
abbrev F.ref02_Fails : Nat := 45
def c_ref02_Fails : SCode := cval (show codeOf {Tryd.prog with funcs := #[], inits := #[]} Tryd.f45 = _ by conv => lhs; cbv)
theorem fn_ref02_Fails : FnIs Tryd.prog 45 34 c_ref02_Fails [.tmp 8] := ⟨_, _, Tryd.func45, by kernel_rfl, rfl, by kernel_rfl, rfl, by kernel_rfl⟩
abbrev F.ref02_Carries : Nat := 50
def c_ref02_Carries : SCode := cval (show codeOf {Tryd.prog with funcs := #[], inits := #[]} Tryd.f50 = _ by conv => lhs; cbv)
theorem fn_ref02_Carries : FnIs Tryd.prog 50 17 c_ref02_Carries [.tmp 4] := ⟨_, _, Tryd.func50, by kernel_rfl, rfl, by kernel_rfl, rfl, by kernel_rfl⟩
abbrev F.law02_wrong : Nat := 53
def c_law02_wrong : SCode := cval (show codeOf {Tryd.prog with funcs := #[], inits := #[]} Tryd.f53 = _ by conv => lhs; cbv)
theorem fn_law02_wrong : FnIs Tryd.prog 53 68 c_law02_wrong [.tmp 6] := ⟨_, _, Tryd.func53, by kernel_rfl, rfl, by kernel_rfl, rfl, by kernel_rfl⟩
abbrev F.law02_Thaws : Nat := 55
def c_law02_Thaws : SCode := cval (show codeOf {Tryd.prog with funcs := #[], inits := #[]} Tryd.f55 = _ by conv => lhs; cbv)
theorem fn_law02_Thaws : FnIs Tryd.prog 55 17 c_law02_Thaws [.tmp 2] := ⟨_, _, Tryd.func55, by kernel_rfl, rfl, by kernel_rfl, rfl, by kernel_rfl⟩
abbrev F.pile_Print : Nat := 56
def c_pile_Print : SCode := cval (show codeOf {Tryd.prog with funcs := #[], inits := #[]} Tryd.f56 = _ by conv => lhs; cbv)
theorem fn_pile_Print : FnIs Tryd.prog 56 37 c_pile_Print [.tmp 2, .tmp 3] := ⟨_, _, Tryd.func56, by kernel_rfl, rfl, by kernel_rfl, rfl, by kernel_rfl⟩
abbrev F.pile_site_fault : Nat := 60
def c_pile_site_fault : SCode := cval (show codeOf {Tryd.prog with funcs := #[], inits := #[]} Tryd.f60 = _ by conv => lhs; cbv)
theorem fn_pile_site_fault : FnIs Tryd.prog 60 57 c_pile_site_fault [.cell 6 true 3] := ⟨_, _, Tryd.func60, by kernel_rfl, rfl, by kernel_rfl, rfl, by kernel_rfl⟩
abbrev F.pile_site_next : Nat := 64
def c_pile_site_next : SCode := cval (show codeOf {Tryd.prog with funcs := #[], inits := #[]} Tryd.f64 = _ by conv => lhs; cbv)
theorem fn_pile_site_next : FnIs Tryd.prog 64 45 c_pile_site_next [.cell 4 true 13] := ⟨_, _, Tryd.func64, by kernel_rfl, rfl, by kernel_rfl, rfl, by kernel_rfl⟩
abbrev F.pile_in : Nat := 73
def c_pile_in : SCode := cval (show codeOf {Tryd.prog with funcs := #[], inits := #[]} Tryd.f73 = _ by conv => lhs; cbv)
theorem fn_pile_in : FnIs Tryd.prog 73 15 c_pile_in [.tmp 6] := ⟨_, _, Tryd.func73, by kernel_rfl, rfl, by kernel_rfl, rfl, by kernel_rfl⟩
abbrev F.pile_carries : Nat := 74
def c_pile_carries : SCode := cval (show codeOf {Tryd.prog with funcs := #[], inits := #[]} Tryd.f74 = _ by conv => lhs; cbv)
theorem fn_pile_carries : FnIs Tryd.prog 74 17 c_pile_carries [.tmp 4] := ⟨_, _, Tryd.func74, by kernel_rfl, rfl, by kernel_rfl, rfl, by kernel_rfl⟩
abbrev F.ref02_Pile : Nat := 75
def c_ref02_Pile : SCode := cval (show codeOf {Tryd.prog with funcs := #[], inits := #[]} Tryd.f75 = _ by conv => lhs; cbv)
theorem fn_ref02_Pile : FnIs Tryd.prog 75 47 c_ref02_Pile [.tmp 2] := ⟨_, _, Tryd.func75, by kernel_rfl, rfl, by kernel_rfl, rfl, by kernel_rfl⟩
abbrev F.ref02_Thaw : Nat := 76
def c_ref02_Thaw : SCode := cval (show codeOf {Tryd.prog with funcs := #[], inits := #[]} Tryd.f76 = _ by conv => lhs; cbv)
theorem fn_ref02_Thaw : FnIs Tryd.prog 76 18 c_ref02_Thaw [.tmp 2] := ⟨_, _, Tryd.func76, by kernel_rfl, rfl, by kernel_rfl, rfl, by kernel_rfl⟩
abbrev F.pile_end : Nat := 89
def c_pile_end : SCode := cval (show codeOf {Tryd.prog with funcs := #[], inits := #[]} Tryd.f89 = _ by conv => lhs; cbv)
theorem fn_pile_end : FnIs Tryd.prog 89 58 c_pile_end [.tmp 2] := ⟨_, _, Tryd.func89, by kernel_rfl, rfl, by kernel_rfl, rfl, by kernel_rfl⟩
abbrev F.slices_ContainsFunc_apiSpan_92 : Nat := 92
def c_slices_ContainsFunc_apiSpan_92 : SCode := cval (show codeOf {Tryd.prog with funcs := #[], inits := #[]} Tryd.f92 = _ by conv => lhs; cbv)
theorem fn_slices_ContainsFunc_apiSpan_92 : FnIs Tryd.prog 92 9 c_slices_ContainsFunc_apiSpan_92 [.tmp 4] := ⟨_, _, Tryd.func92, by kernel_rfl, rfl, by kernel_rfl, rfl, by kernel_rfl⟩
abbrev F.slices_ContainsFunc_int : Nat := 94
def c_slices_ContainsFunc_int : SCode := cval (show codeOf {Tryd.prog with funcs := #[], inits := #[]} Tryd.f94 = _ by conv => lhs; cbv)
theorem fn_slices_ContainsFunc_int : FnIs Tryd.prog 94 9 c_slices_ContainsFunc_int [.tmp 4] := ⟨_, _, Tryd.func94, by kernel_rfl, rfl, by kernel_rfl, rfl, by kernel_rfl⟩
abbrev F.pile_site_high : Nat := 97
def c_pile_site_high : SCode := cval (show codeOf {Tryd.prog with funcs := #[], inits := #[]} Tryd.f97 = _ by conv => lhs; cbv)
theorem fn_pile_site_high : FnIs Tryd.prog 97 41 c_pile_site_high [.tmp 6] := ⟨_, _, Tryd.func97, by kernel_rfl, rfl, by kernel_rfl, rfl, by kernel_rfl⟩
abbrev F.slices_Clone_apiSpan : Nat := 98
def c_slices_Clone_apiSpan : SCode := cval (show codeOf {Tryd.prog with funcs := #[], inits := #[]} Tryd.f98 = _ by conv => lhs; cbv)
theorem fn_slices_Clone_apiSpan : FnIs Tryd.prog 98 8 c_slices_Clone_apiSpan [.tmp 2] := ⟨_, _, Tryd.func98, by kernel_rfl, rfl, by kernel_rfl, rfl, by kernel_rfl⟩
abbrev F.pile_booked_1_1 : Nat := 113
def c_pile_booked_1_1 : SCode := cval (show codeOf {Tryd.prog with funcs := #[], inits := #[]} Tryd.f113 = _ by conv => lhs; cbv)
theorem fn_pile_booked_1_1 : FnIs Tryd.prog 113 6 c_pile_booked_1_1 [.tmp 2] := ⟨_, _, Tryd.func113, by kernel_rfl, rfl, by kernel_rfl, rfl, by kernel_rfl⟩
abbrev F.slices_IndexFunc_apiSpan_116 : Nat := 116
def c_slices_IndexFunc_apiSpan_116 : SCode := cval (show codeOf {Tryd.prog with funcs := #[], inits := #[]} Tryd.f116 = _ by conv => lhs; cbv)
theorem fn_slices_IndexFunc_apiSpan_116 : FnIs Tryd.prog 116 19 c_slices_IndexFunc_apiSpan_116 [.tmp 4] := ⟨_, _, Tryd.func116, by kernel_rfl, rfl, by kernel_rfl, rfl, by kernel_rfl⟩
abbrev F.slices_IndexFunc_apiPile : Nat := 118
def c_slices_IndexFunc_apiPile : SCode := cval (show codeOf {Tryd.prog with funcs := #[], inits := #[]} Tryd.f118 = _ by conv => lhs; cbv)
theorem fn_slices_IndexFunc_apiPile : FnIs Tryd.prog 118 19 c_slices_IndexFunc_apiPile [.tmp 4] := ⟨_, _, Tryd.func118, by kernel_rfl, rfl, by kernel_rfl, rfl, by kernel_rfl⟩
abbrev F.strconv_FormatInt : Nat := 122
def c_strconv_FormatInt : SCode := cval (show codeOf {Tryd.prog with funcs := #[], inits := #[]} Tryd.f122 = _ by conv => lhs; cbv)
theorem fn_strconv_FormatInt : FnIs Tryd.prog 122 54 c_strconv_FormatInt [.tmp 4] := ⟨_, _, Tryd.func122, by kernel_rfl, rfl, by kernel_rfl, rfl, by kernel_rfl⟩
end Go.Proofs.YtibgfmhddcibcaaDoor
