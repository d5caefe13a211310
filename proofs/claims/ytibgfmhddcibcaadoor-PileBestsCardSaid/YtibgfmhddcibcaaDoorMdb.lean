/- The program's functions as the layer above reads them: reckoned off the loaded program; each is held against it by the kernel. -/
import Derived.Test.YtibgfmhddcibcaaDoorChecked
import Derived.Test.YtibgfmhddcibcaaDoorMb
set_option maxRecDepth 100000
set_option maxHeartbeats 4000000
namespace Go.Proofs.YtibgfmhddcibcaaDoor
open Go Go.Av
abbrev F.law02_PileCured : Nat := 8
def c_law02_PileCured : SCode := cval (show codeOf {Tryd.prog with funcs := #[], inits := #[]} Tryd.f8 = _ by conv => lhs; cbv)
theorem fn_law02_PileCured : FnIs Tryd.prog 8 102 c_law02_PileCured [.tmp 12] := ⟨_, _, Tryd.func8, by kernel_rfl, rfl, by kernel_rfl, rfl, by kernel_rfl⟩
abbrev F.law02_PileMore : Nat := 9
def c_law02_PileMore : SCode := cval (show codeOf {Tryd.prog with funcs := #[], inits := #[]} Tryd.f9 = _ by conv => lhs; cbv)
theorem fn_law02_PileMore : FnIs Tryd.prog 9 397 c_law02_PileMore [.tmp 16] := ⟨_, _, Tryd.func9, by kernel_rfl, rfl, by kernel_rfl, rfl, by kernel_rfl⟩
abbrev F.law02_PileSharp : Nat := 11
def c_law02_PileSharp : SCode := cval (show codeOf {Tryd.prog with funcs := #[], inits := #[]} Tryd.f11 = _ by conv => lhs; cbv)
theorem fn_law02_PileSharp : FnIs Tryd.prog 11 153 c_law02_PileSharp [.tmp 6] := ⟨_, _, Tryd.func11, by kernel_rfl, rfl, by kernel_rfl, rfl, by kernel_rfl⟩
abbrev F.ref02_Best : Nat := 25
def c_ref02_Best : SCode := cval (show codeOf {Tryd.prog with funcs := #[], inits := #[]} Tryd.f25 = _ by conv => lhs; cbv)
theorem fn_ref02_Best : FnIs Tryd.prog 25 51 c_ref02_Best [.tmp 4, .tmp 5] := ⟨_, _, Tryd.func25, by kernel_rfl, rfl, by kernel_rfl, rfl, by kernel_rfl⟩
abbrev F.ref02_Before : Nat := 29
def c_ref02_Before : SCode := cval (show codeOf {Tryd.prog with funcs := #[], inits := #[]} Tryd.f29 = _ by conv => lhs; cbv)
theorem fn_ref02_Before : FnIs Tryd.prog 29 36 c_ref02_Before [.tmp 4] := ⟨_, _, Tryd.func29, by kernel_rfl, rfl, by kernel_rfl, rfl, by kernel_rfl⟩
abbrev F.law02_within : Nat := 36
def c_law02_within : SCode := cval (show codeOf {Tryd.prog with funcs := #[], inits := #[]} Tryd.f36 = _ by conv => lhs; cbv)
theorem fn_law02_within : FnIs Tryd.prog 36 74 c_law02_within [.tmp 4] := ⟨_, _, Tryd.func36, by kernel_rfl, rfl, by kernel_rfl, rfl, by kernel_rfl⟩
abbrev F.pile_Play : Nat := 38
def c_pile_Play : SCode := cval (show codeOf {Tryd.prog with funcs := #[], inits := #[]} Tryd.f38 = _ by conv => lhs; cbv)
def c_pile_Play_l2 : SCode := cval (show rngAt 0 (codeOf {Tryd.prog with funcs := #[], inits := #[]} Tryd.f38) = _ by conv => lhs; cbv)
theorem fn_pile_Play : FnIs Tryd.prog 38 106 c_pile_Play [.tmp 8, .tmp 9] := ⟨_, _, Tryd.func38, by kernel_rfl, rfl, by kernel_rfl, rfl, by kernel_rfl⟩
abbrev F.ref02_Truths : Nat := 39
def c_ref02_Truths : SCode := cval (show codeOf {Tryd.prog with funcs := #[], inits := #[]} Tryd.f39 = _ by conv => lhs; cbv)
theorem fn_ref02_Truths : FnIs Tryd.prog 39 60 c_ref02_Truths [.tmp 6] := ⟨_, _, Tryd.func39, by kernel_rfl, rfl, by kernel_rfl, rfl, by kernel_rfl⟩
abbrev F.ref02_SameRows : Nat := 40
def c_ref02_SameRows : SCode := cval (show codeOf {Tryd.prog with funcs := #[], inits := #[]} Tryd.f40 = _ by conv => lhs; cbv)
theorem fn_ref02_SameRows : FnIs Tryd.prog 40 27 c_ref02_SameRows [.tmp 4] := ⟨_, _, Tryd.func40, by kernel_rfl, rfl, by kernel_rfl, rfl, by kernel_rfl⟩
abbrev F.law02_tilts : Nat := 43
def c_law02_tilts : SCode := cval (show codeOf {Tryd.prog with funcs := #[], inits := #[]} Tryd.f43 = _ by conv => lhs; cbv)
theorem fn_law02_tilts : FnIs Tryd.prog 43 38 c_law02_tilts [.tmp 6] := ⟨_, _, Tryd.func43, by kernel_rfl, rfl, by kernel_rfl, rfl, by kernel_rfl⟩
abbrev F.ref02_Loses : Nat := 44
def c_ref02_Loses : SCode := cval (show codeOf {Tryd.prog with funcs := #[], inits := #[]} Tryd.f44 = _ by conv => lhs; cbv)
theorem fn_ref02_Loses : FnIs Tryd.prog 44 18 c_ref02_Loses [.tmp 6] := ⟨_, _, Tryd.func44, by kernel_rfl, rfl, by kernel_rfl, rfl, by kernel_rfl⟩
abbrev F.ref02_Lost : Nat := 49
def c_ref02_Lost : SCode := cval (show codeOf {Tryd.prog with funcs := #[], inits := #[]} Tryd.f49 = _ by conv => lhs; cbv)
theorem fn_ref02_Lost : FnIs Tryd.prog 49 30 c_ref02_Lost [.tmp 6] := ⟨_, _, Tryd.func49, by kernel_rfl, rfl, by kernel_rfl, rfl, by kernel_rfl⟩
abbrev F.law02_Site : Nat := 54
def c_law02_Site : SCode := cval (show codeOf {Tryd.prog with funcs := #[], inits := #[]} Tryd.f54 = _ by conv => lhs; cbv)
theorem fn_law02_Site : FnIs Tryd.prog 54 16 c_law02_Site [.cell 0 true 6] := ⟨_, _, Tryd.func54, by kernel_rfl, rfl, by kernel_rfl, rfl, by kernel_rfl⟩
abbrev F.pile_site_planned : Nat := 58
def c_pile_site_planned : SCode := cval (show codeOf {Tryd.prog with funcs := #[], inits := #[]} Tryd.f58 = _ by conv => lhs; cbv)
theorem fn_pile_site_planned : FnIs Tryd.prog 58 19 c_pile_site_planned [.tmp 4] := ⟨_, _, Tryd.func58, by kernel_rfl, rfl, by kernel_rfl, rfl, by kernel_rfl⟩
abbrev F.pile_cheapest_int : Nat := 65
def c_pile_cheapest_int : SCode := cval (show codeOf {Tryd.prog with funcs := #[], inits := #[]} Tryd.f65 = _ by conv => lhs; cbv)
theorem fn_pile_cheapest_int : FnIs Tryd.prog 65 39 c_pile_cheapest_int [.tmp 4, .tmp 5, .tmp 6] := ⟨_, _, Tryd.func65, by kernel_rfl, rfl, by kernel_rfl, rfl, by kernel_rfl⟩
abbrev F.pile_site_cost : Nat := 68
def c_pile_site_cost : SCode := cval (show codeOf {Tryd.prog with funcs := #[], inits := #[]} Tryd.f68 = _ by conv => lhs; cbv)
def c_pile_site_cost_l0 : SCode := cval (show rngAt 0 (codeOf {Tryd.prog with funcs := #[], inits := #[]} Tryd.f68) = _ by conv => lhs; cbv)
theorem fn_pile_site_cost : FnIs Tryd.prog 68 22 c_pile_site_cost [.tmp 4] := ⟨_, _, Tryd.func68, by kernel_rfl, rfl, by kernel_rfl, rfl, by kernel_rfl⟩
abbrev F.ref02_in : Nat := 70
def c_ref02_in : SCode := cval (show codeOf {Tryd.prog with funcs := #[], inits := #[]} Tryd.f70 = _ by conv => lhs; cbv)
theorem fn_ref02_in : FnIs Tryd.prog 70 15 c_ref02_in [.tmp 6] := ⟨_, _, Tryd.func70, by kernel_rfl, rfl, by kernel_rfl, rfl, by kernel_rfl⟩
abbrev F.ref02_Cure : Nat := 77
def c_ref02_Cure : SCode := cval (show codeOf {Tryd.prog with funcs := #[], inits := #[]} Tryd.f77 = _ by conv => lhs; cbv)
theorem fn_ref02_Cure : FnIs Tryd.prog 77 61 c_ref02_Cure [.tmp 2] := ⟨_, _, Tryd.func77, by kernel_rfl, rfl, by kernel_rfl, rfl, by kernel_rfl⟩
abbrev F.law02_part : Nat := 78
def c_law02_part : SCode := cval (show codeOf {Tryd.prog with funcs := #[], inits := #[]} Tryd.f78 = _ by conv => lhs; cbv)
theorem fn_law02_part : FnIs Tryd.prog 78 16 c_law02_part [.tmp 4] := ⟨_, _, Tryd.func78, by kernel_rfl, rfl, by kernel_rfl, rfl, by kernel_rfl⟩
abbrev F.pile_site_true1 : Nat := 79
def c_pile_site_true1 : SCode := cval (show codeOf {Tryd.prog with funcs := #[], inits := #[]} Tryd.f79 = _ by conv => lhs; cbv)
theorem fn_pile_site_true1 : FnIs Tryd.prog 79 70 c_pile_site_true1 [.tmp 8] := ⟨_, _, Tryd.func79, by kernel_rfl, rfl, by kernel_rfl, rfl, by kernel_rfl⟩
abbrev F.slices_Clone_int : Nat := 80
def c_slices_Clone_int : SCode := cval (show codeOf {Tryd.prog with funcs := #[], inits := #[]} Tryd.f80 = _ by conv => lhs; cbv)
theorem fn_slices_Clone_int : FnIs Tryd.prog 80 8 c_slices_Clone_int [.tmp 2] := ⟨_, _, Tryd.func80, by kernel_rfl, rfl, by kernel_rfl, rfl, by kernel_rfl⟩
abbrev F.pile_jacked : Nat := 81
def c_pile_jacked : SCode := cval (show codeOf {Tryd.prog with funcs := #[], inits := #[]} Tryd.f81 = _ by conv => lhs; cbv)
theorem fn_pile_jacked : FnIs Tryd.prog 81 4 c_pile_jacked [.tmp 2] := ⟨_, _, Tryd.func81, by kernel_rfl, rfl, by kernel_rfl, rfl, by kernel_rfl⟩
abbrev F.ref02_Row : Nat := 86
def c_ref02_Row : SCode := cval (show codeOf {Tryd.prog with funcs := #[], inits := #[]} Tryd.f86 = _ by conv => lhs; cbv)
theorem fn_ref02_Row : FnIs Tryd.prog 86 52 c_ref02_Row [.cell 8 true 3] := ⟨_, _, Tryd.func86, by kernel_rfl, rfl, by kernel_rfl, rfl, by kernel_rfl⟩
abbrev F.pile_booked : Nat := 87
def c_pile_booked : SCode := cval (show codeOf {Tryd.prog with funcs := #[], inits := #[]} Tryd.f87 = _ by conv => lhs; cbv)
theorem fn_pile_booked : FnIs Tryd.prog 87 19 c_pile_booked [.tmp 2] := ⟨_, _, Tryd.func87, by kernel_rfl, rfl, by kernel_rfl, rfl, by kernel_rfl⟩
abbrev F.slices_ContainsFunc_apiSpan : Nat := 90
def c_slices_ContainsFunc_apiSpan : SCode := cval (show codeOf {Tryd.prog with funcs := #[], inits := #[]} Tryd.f90 = _ by conv => lhs; cbv)
theorem fn_slices_ContainsFunc_apiSpan : FnIs Tryd.prog 90 9 c_slices_ContainsFunc_apiSpan [.tmp 4] := ⟨_, _, Tryd.func90, by kernel_rfl, rfl, by kernel_rfl, rfl, by kernel_rfl⟩
abbrev F.pile_site_fails : Nat := 102
def c_pile_site_fails : SCode := cval (show codeOf {Tryd.prog with funcs := #[], inits := #[]} Tryd.f102 = _ by conv => lhs; cbv)
theorem fn_pile_site_fails : FnIs Tryd.prog 102 39 c_pile_site_fails [.tmp 6] := ⟨_, _, Tryd.func102, by kernel_rfl, rfl, by kernel_rfl, rfl, by kernel_rfl⟩
abbrev F.pile_site_fault_4 : Nat := 104
def c_pile_site_fault_4 : SCode := cval (show codeOf {Tryd.prog with funcs := #[], inits := #[]} Tryd.f104 = _ by conv => lhs; cbv)
theorem fn_pile_site_fault_4 : FnIs Tryd.prog 104 48 c_pile_site_fault_4 [.tmp 4] := ⟨_, _, Tryd.func104, by kernel_rfl, rfl, by kernel_rfl, rfl, by kernel_rfl⟩
abbrev F.pile_jacked_1 : Nat := 106
def c_pile_jacked_1 : SCode := cval (show codeOf {Tryd.prog with funcs := #[], inits := #[]} Tryd.f106 = _ by conv => lhs; cbv)
theorem fn_pile_jacked_1 : FnIs Tryd.prog 106 19 c_pile_jacked_1 [] := ⟨_, _, Tryd.func106, by kernel_rfl, rfl, by kernel_rfl, rfl, by kernel_rfl⟩
abbrev F.pile_valid_1 : Nat := 108
def c_pile_valid_1 : SCode := cval (show codeOf {Tryd.prog with funcs := #[], inits := #[]} Tryd.f108 = _ by conv => lhs; cbv)
theorem fn_pile_valid_1 : FnIs Tryd.prog 108 6 c_pile_valid_1 [.tmp 2] := ⟨_, _, Tryd.func108, by kernel_rfl, rfl, by kernel_rfl, rfl, by kernel_rfl⟩
abbrev F.slices_ContainsFunc_apiPilePair : Nat := 109
def c_slices_ContainsFunc_apiPilePair : SCode := cval (show codeOf {Tryd.prog with funcs := #[], inits := #[]} Tryd.f109 = _ by conv => lhs; cbv)
theorem fn_slices_ContainsFunc_apiPilePair : FnIs Tryd.prog 109 9 c_slices_ContainsFunc_apiPilePair [.tmp 4] := ⟨_, _, Tryd.func109, by kernel_rfl, rfl, by kernel_rfl, rfl, by kernel_rfl⟩
abbrev F.slices_IndexFunc_apiPilePair : Nat := 119
def c_slices_IndexFunc_apiPilePair : SCode := cval (show codeOf {Tryd.prog with funcs := #[], inits := #[]} Tryd.f119 = _ by conv => lhs; cbv)
theorem fn_slices_IndexFunc_apiPilePair : FnIs Tryd.prog 119 19 c_slices_IndexFunc_apiPilePair [.tmp 4] := ⟨_, _, Tryd.func119, by kernel_rfl, rfl, by kernel_rfl, rfl, by kernel_rfl⟩
end Go.Proofs.YtibgfmhddcibcaaDoor
