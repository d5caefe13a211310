/- The program's functions as the layer above reads them: reckoned off the loaded program; each is held against it by the kernel. -/
import Derived.Test.YtojkchniefhafaaGreatDoorChecked
import Derived.Test.YtojkchniefhafaaGreatDoorPMo
set_option maxRecDepth 100000
set_option maxHeartbeats 4000000
namespace Go.Proofs.YtojkchniefhafaaGreatDoor
open Go Go.Av
def c_law02_PileReads : SCode := cval (show codeOf {Tryz.prog with funcs := #[], inits := #[]} Tryz.f4 = _ by conv => lhs; cbv)
theorem fn_law02_PileReads : FnIs Tryz.prog 4 79 c_law02_PileReads [.tmp 2] := ⟨_, _, Tryz.func4, by kernel_rfl, rfl, by kernel_rfl, rfl, by kernel_rfl⟩
abbrev F.law02_known : Nat := 6
def c_law02_known : SCode := cval (show codeOf {Tryz.prog with funcs := #[], inits := #[]} Tryz.f6 = _ by conv => lhs; cbv)
theorem fn_law02_known : FnIs Tryz.prog 6 104 c_law02_known [.tmp 0] := ⟨_, _, Tryz.func6, by kernel_rfl, rfl, by kernel_rfl, rfl, by kernel_rfl⟩
abbrev F.pile_Levels : Nat := 13
def c_pile_Levels : SCode := cval (show codeOf {Tryz.prog with funcs := #[], inits := #[]} Tryz.f13 = _ by conv => lhs; cbv)
theorem fn_pile_Levels : FnIs Tryz.prog 13 33 c_pile_Levels [.tmp 6, .tmp 7] := ⟨_, _, Tryz.func13, by kernel_rfl, rfl, by kernel_rfl, rfl, by kernel_rfl⟩
abbrev F.ref02_SameSpans : Nat := 19
def c_ref02_SameSpans : SCode := cval (show codeOf {Tryz.prog with funcs := #[], inits := #[]} Tryz.f19 = _ by conv => lhs; cbv)
theorem fn_ref02_SameSpans : FnIs Tryz.prog 19 53 c_ref02_SameSpans [.tmp 4] := ⟨_, _, Tryz.func19, by kernel_rfl, rfl, by kernel_rfl, rfl, by kernel_rfl⟩
def c_ref02_split : SCode := cval (show codeOf {Tryz.prog with funcs := #[], inits := #[]} Tryz.f29 = _ by conv => lhs; cbv)
theorem fn_ref02_split : FnIs Tryz.prog 29 34 c_ref02_split [.tmp 4] := ⟨_, _, Tryz.func29, by kernel_rfl, rfl, by kernel_rfl, rfl, by kernel_rfl⟩
def c_pile_site_fault : SCode := cval (show codeOf {Tryz.prog with funcs := #[], inits := #[]} Tryz.f34 = _ by conv => lhs; cbv)
theorem fn_pile_site_fault : FnIs Tryz.prog 34 57 c_pile_site_fault [.cell 6 true 3] := ⟨_, _, Tryz.func34, by kernel_rfl, rfl, by kernel_rfl, rfl, by kernel_rfl⟩
def c_pile_site_next : SCode := cval (show codeOf {Tryz.prog with funcs := #[], inits := #[]} Tryz.f36 = _ by conv => lhs; cbv)
theorem fn_pile_site_next : FnIs Tryz.prog 36 45 c_pile_site_next [.cell 4 true 13] := ⟨_, _, Tryz.func36, by kernel_rfl, rfl, by kernel_rfl, rfl, by kernel_rfl⟩
def c_pile_site_jack : SCode := cval (show codeOf {Tryz.prog with funcs := #[], inits := #[]} Tryz.f39 = _ by conv => lhs; cbv)
theorem fn_pile_site_jack : FnIs Tryz.prog 39 20 c_pile_site_jack [.cell 6 true 13] := ⟨_, _, Tryz.func39, by kernel_rfl, rfl, by kernel_rfl, rfl, by kernel_rfl⟩
def c_pile_span : SCode := cval (show codeOf {Tryz.prog with funcs := #[], inits := #[]} Tryz.f42 = _ by conv => lhs; cbv)
theorem fn_pile_span : FnIs Tryz.prog 42 24 c_pile_span [.tmp 6] := ⟨_, _, Tryz.func42, by kernel_rfl, rfl, by kernel_rfl, rfl, by kernel_rfl⟩
def c_slices_ContainsFunc_int : SCode := cval (show codeOf {Tryz.prog with funcs := #[], inits := #[]} Tryz.f45 = _ by conv => lhs; cbv)
theorem fn_slices_ContainsFunc_int : FnIs Tryz.prog 45 9 c_slices_ContainsFunc_int [.tmp 4] := ⟨_, _, Tryz.func45, by kernel_rfl, rfl, by kernel_rfl, rfl, by kernel_rfl⟩
abbrev F.strings_CutSuffix : Nat := 50
def c_strings_CutSuffix : SCode := cval (show codeOf {Tryz.prog with funcs := #[], inits := #[]} Tryz.f50 = _ by conv => lhs; cbv)
theorem fn_strings_CutSuffix : FnIs Tryz.prog 50 11 c_strings_CutSuffix [.tmp 4, .tmp 5] := ⟨_, _, Tryz.func50, by kernel_rfl, rfl, by kernel_rfl, rfl, by kernel_rfl⟩
def c_pile_site_given_1 : SCode := cval (show codeOf {Tryz.prog with funcs := #[], inits := #[]} Tryz.f55 = _ by conv => lhs; cbv)
theorem fn_pile_site_given_1 : FnIs Tryz.prog 55 17 c_pile_site_given_1 [.tmp 3] := ⟨_, _, Tryz.func55, by kernel_rfl, rfl, by kernel_rfl, rfl, by kernel_rfl⟩
def c_pile_site_planned_1 : SCode := cval (show codeOf {Tryz.prog with funcs := #[], inits := #[]} Tryz.f58 = _ by conv => lhs; cbv)
theorem fn_pile_site_planned_1 : FnIs Tryz.prog 58 15 c_pile_site_planned_1 [.tmp 3] := ⟨_, _, Tryz.func58, by kernel_rfl, rfl, by kernel_rfl, rfl, by kernel_rfl⟩
def c_pile_site_low : SCode := cval (show codeOf {Tryz.prog with funcs := #[], inits := #[]} Tryz.f59 = _ by conv => lhs; cbv)
theorem fn_pile_site_low : FnIs Tryz.prog 59 41 c_pile_site_low [.tmp 6] := ⟨_, _, Tryz.func59, by kernel_rfl, rfl, by kernel_rfl, rfl, by kernel_rfl⟩
def c_slices_Clone_apiSpan : SCode := cval (show codeOf {Tryz.prog with funcs := #[], inits := #[]} Tryz.f61 = _ by conv => lhs; cbv)
theorem fn_slices_Clone_apiSpan : FnIs Tryz.prog 61 8 c_slices_Clone_apiSpan [.tmp 2] := ⟨_, _, Tryz.func61, by kernel_rfl, rfl, by kernel_rfl, rfl, by kernel_rfl⟩
abbrev F.pile_book_head : Nat := 75
def c_pile_book_head : SCode := cval (show codeOf {Tryz.prog with funcs := #[], inits := #[]} Tryz.f75 = _ by conv => lhs; cbv)
theorem fn_pile_book_head : FnIs Tryz.prog 75 23 c_pile_book_head [] := ⟨_, _, Tryz.func75, by kernel_rfl, rfl, by kernel_rfl, rfl, by kernel_rfl⟩
def c_pile_valid_1 : SCode := cval (show codeOf {Tryz.prog with funcs := #[], inits := #[]} Tryz.f78 = _ by conv => lhs; cbv)
theorem fn_pile_valid_1 : FnIs Tryz.prog 78 6 c_pile_valid_1 [.tmp 2] := ⟨_, _, Tryz.func78, by kernel_rfl, rfl, by kernel_rfl, rfl, by kernel_rfl⟩
def c_pile_jacked_1 : SCode := cval (show codeOf {Tryz.prog with funcs := #[], inits := #[]} Tryz.f84 = _ by conv => lhs; cbv)
theorem fn_pile_jacked_1 : FnIs Tryz.prog 84 19 c_pile_jacked_1 [] := ⟨_, _, Tryz.func84, by kernel_rfl, rfl, by kernel_rfl, rfl, by kernel_rfl⟩
abbrev F.pile_number : Nat := 91
def c_pile_number : SCode := cval (show codeOf {Tryz.prog with funcs := #[], inits := #[]} Tryz.f91 = _ by conv => lhs; cbv)
theorem fn_pile_number : FnIs Tryz.prog 91 48 c_pile_number [.tmp 2] := ⟨_, _, Tryz.func91, by kernel_rfl, rfl, by kernel_rfl, rfl, by kernel_rfl⟩
def c_slices_IndexFunc_apiPile : SCode := cval (show codeOf {Tryz.prog with funcs := #[], inits := #[]} Tryz.f92 = _ by conv => lhs; cbv)
theorem fn_slices_IndexFunc_apiPile : FnIs Tryz.prog 92 19 c_slices_IndexFunc_apiPile [.tmp 4] := ⟨_, _, Tryz.func92, by kernel_rfl, rfl, by kernel_rfl, rfl, by kernel_rfl⟩
abbrev F.strings_TrimPrefix : Nat := 102
def c_strings_TrimPrefix : SCode := cval (show codeOf {Tryz.prog with funcs := #[], inits := #[]} Tryz.f102 = _ by conv => lhs; cbv)
theorem fn_strings_TrimPrefix : FnIs Tryz.prog 102 8 c_strings_TrimPrefix [.tmp 4] := ⟨_, _, Tryz.func102, by kernel_rfl, rfl, by kernel_rfl, rfl, by kernel_rfl⟩
end Go.Proofs.YtojkchniefhafaaGreatDoor
