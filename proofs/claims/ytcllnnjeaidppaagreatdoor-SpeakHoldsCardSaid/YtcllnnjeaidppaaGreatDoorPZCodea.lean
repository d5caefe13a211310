/- The program's functions as the layer above reads them: reckoned off the loaded program; each is held against it by the kernel. -/
import Derived.Test.YtcllnnjeaidppaaGreatDoorChecked
import Derived.Test.YtcllnnjeaidppaaGreatDoorPMn
set_option maxRecDepth 100000
set_option maxHeartbeats 4000000
namespace Go.Proofs.YtcllnnjeaidppaaGreatDoor
open Go Go.Av
def c_law09_SpeakFinds : SCode := cval (show codeOf {Tryz.prog with funcs := #[], inits := #[]} Tryz.f9 = _ by conv => lhs; cbv)
theorem fn_law09_SpeakFinds : FnIs Tryz.prog 9 84 c_law09_SpeakFinds [.tmp 6] := ⟨_, _, Tryz.func9, by kernel_rfl, rfl, by kernel_rfl, rfl, by kernel_rfl⟩
abbrev F.law09_SpeakHolds : Nat := 11
def c_law09_SpeakHolds : SCode := cval (show codeOf {Tryz.prog with funcs := #[], inits := #[]} Tryz.f11 = _ by conv => lhs; cbv)
theorem fn_law09_SpeakHolds : FnIs Tryz.prog 11 65 c_law09_SpeakHolds [.tmp 4] := ⟨_, _, Tryz.func11, by kernel_rfl, rfl, by kernel_rfl, rfl, by kernel_rfl⟩
def c_law09_SpeakCounts : SCode := cval (show codeOf {Tryz.prog with funcs := #[], inits := #[]} Tryz.f12 = _ by conv => lhs; cbv)
theorem fn_law09_SpeakCounts : FnIs Tryz.prog 12 95 c_law09_SpeakCounts [.tmp 10] := ⟨_, _, Tryz.func12, by kernel_rfl, rfl, by kernel_rfl, rfl, by kernel_rfl⟩
def c_law09_SpeakWanted : SCode := cval (show codeOf {Tryz.prog with funcs := #[], inits := #[]} Tryz.f13 = _ by conv => lhs; cbv)
theorem fn_law09_SpeakWanted : FnIs Tryz.prog 13 259 c_law09_SpeakWanted [.tmp 8] := ⟨_, _, Tryz.func13, by kernel_rfl, rfl, by kernel_rfl, rfl, by kernel_rfl⟩
def c_law09_compared : SCode := cval (show codeOf {Tryz.prog with funcs := #[], inits := #[]} Tryz.f17 = _ by conv => lhs; cbv)
theorem fn_law09_compared : FnIs Tryz.prog 17 26 c_law09_compared [.tmp 4] := ⟨_, _, Tryz.func17, by kernel_rfl, rfl, by kernel_rfl, rfl, by kernel_rfl⟩
def c_ref09_SameDeeds : SCode := cval (show codeOf {Tryz.prog with funcs := #[], inits := #[]} Tryz.f19 = _ by conv => lhs; cbv)
theorem fn_ref09_SameDeeds : FnIs Tryz.prog 19 26 c_ref09_SameDeeds [.tmp 4] := ⟨_, _, Tryz.func19, by kernel_rfl, rfl, by kernel_rfl, rfl, by kernel_rfl⟩
def c_ref09_Print : SCode := cval (show codeOf {Tryz.prog with funcs := #[], inits := #[]} Tryz.f26 = _ by conv => lhs; cbv)
theorem fn_ref09_Print : FnIs Tryz.prog 26 12 c_ref09_Print [.tmp 4] := ⟨_, _, Tryz.func26, by kernel_rfl, rfl, by kernel_rfl, rfl, by kernel_rfl⟩
abbrev F.ref09_Motion : Nat := 30
def c_ref09_Motion : SCode := cval (show codeOf {Tryz.prog with funcs := #[], inits := #[]} Tryz.f30 = _ by conv => lhs; cbv)
theorem fn_ref09_Motion : FnIs Tryz.prog 30 13 c_ref09_Motion [.tmp 2] := ⟨_, _, Tryz.func30, by kernel_rfl, rfl, by kernel_rfl, rfl, by kernel_rfl⟩
def c_ref09_Count : SCode := cval (show codeOf {Tryz.prog with funcs := #[], inits := #[]} Tryz.f45 = _ by conv => lhs; cbv)
theorem fn_ref09_Count : FnIs Tryz.prog 45 137 c_ref09_Count [.cell 4 true 5] := ⟨_, _, Tryz.func45, by kernel_rfl, rfl, by kernel_rfl, rfl, by kernel_rfl⟩
def c_law09_M : SCode := cval (show codeOf {Tryz.prog with funcs := #[], inits := #[]} Tryz.f47 = _ by conv => lhs; cbv)
theorem fn_law09_M : FnIs Tryz.prog 47 8 c_law09_M [.tmp 0] := ⟨_, _, Tryz.func47, by kernel_rfl, rfl, by kernel_rfl, rfl, by kernel_rfl⟩
def c_law09_R : SCode := cval (show codeOf {Tryz.prog with funcs := #[], inits := #[]} Tryz.f50 = _ by conv => lhs; cbv)
theorem fn_law09_R : FnIs Tryz.prog 50 9 c_law09_R [.tmp 0] := ⟨_, _, Tryz.func50, by kernel_rfl, rfl, by kernel_rfl, rfl, by kernel_rfl⟩
abbrev F.speak_tree : Nat := 51
def c_speak_tree : SCode := cval (show codeOf {Tryz.prog with funcs := #[], inits := #[]} Tryz.f51 = _ by conv => lhs; cbv)
theorem fn_speak_tree : FnIs Tryz.prog 51 22 c_speak_tree [.tmp 2, .tmp 3, .tmp 4] := ⟨_, _, Tryz.func51, by kernel_rfl, rfl, by kernel_rfl, rfl, by kernel_rfl⟩
def c_slices_Compact_apiSpeakDeed : SCode := cval (show codeOf {Tryz.prog with funcs := #[], inits := #[]} Tryz.f55 = _ by conv => lhs; cbv)
theorem fn_slices_Compact_apiSpeakDeed : FnIs Tryz.prog 55 61 c_slices_Compact_apiSpeakDeed [.tmp 2] := ⟨_, _, Tryz.func55, by kernel_rfl, rfl, by kernel_rfl, rfl, by kernel_rfl⟩
def c_ref09_apart : SCode := cval (show codeOf {Tryz.prog with funcs := #[], inits := #[]} Tryz.f59 = _ by conv => lhs; cbv)
theorem fn_ref09_apart : FnIs Tryz.prog 59 93 c_ref09_apart [.tmp 8, .tmp 9] := ⟨_, _, Tryz.func59, by kernel_rfl, rfl, by kernel_rfl, rfl, by kernel_rfl⟩
abbrev F.ref09_Clause : Nat := 60
def c_ref09_Clause : SCode := cval (show codeOf {Tryz.prog with funcs := #[], inits := #[]} Tryz.f60 = _ by conv => lhs; cbv)
theorem fn_ref09_Clause : FnIs Tryz.prog 60 17 c_ref09_Clause [.tmp 6] := ⟨_, _, Tryz.func60, by kernel_rfl, rfl, by kernel_rfl, rfl, by kernel_rfl⟩
def c_speak_language : SCode := cval (show codeOf {Tryz.prog with funcs := #[], inits := #[]} Tryz.f64 = _ by conv => lhs; cbv)
theorem fn_speak_language : FnIs Tryz.prog 64 5 c_speak_language [.tmp 2] := ⟨_, _, Tryz.func64, by kernel_rfl, rfl, by kernel_rfl, rfl, by kernel_rfl⟩
def c_speak_tongues : SCode := cval (show codeOf {Tryz.prog with funcs := #[], inits := #[]} Tryz.f65 = _ by conv => lhs; cbv)
theorem fn_speak_tongues : FnIs Tryz.prog 65 14 c_speak_tongues [.cell 0 true 3] := ⟨_, _, Tryz.func65, by kernel_rfl, rfl, by kernel_rfl, rfl, by kernel_rfl⟩
abbrev F.speak_try : Nat := 67
def c_speak_try : DCode := cval (show codeOfD {Tryz.prog with funcs := #[], inits := #[]} Tryz.f67 = _ by conv => lhs; cbv)
theorem fn_speak_try : FnIsD Tryz.prog 67 6 c_speak_try [.cell 2 false 1] := ⟨_, _, Tryz.func67, by kernel_rfl, rfl, by kernel_rfl, rfl, by kernel_rfl⟩
abbrev F.speak_sure : Nat := 70
def c_speak_sure : SCode := cval (show codeOf {Tryz.prog with funcs := #[], inits := #[]} Tryz.f70 = _ by conv => lhs; cbv)
theorem fn_speak_sure : FnIs Tryz.prog 70 9 c_speak_sure [] := ⟨_, _, Tryz.func70, by kernel_rfl, rfl, by kernel_rfl, rfl, by kernel_rfl⟩
def c_ref09_split : SCode := cval (show codeOf {Tryz.prog with funcs := #[], inits := #[]} Tryz.f74 = _ by conv => lhs; cbv)
theorem fn_ref09_split : FnIs Tryz.prog 74 37 c_ref09_split [.tmp 2] := ⟨_, _, Tryz.func74, by kernel_rfl, rfl, by kernel_rfl, rfl, by kernel_rfl⟩
def c_ref09_ors : SCode := cval (show codeOf {Tryz.prog with funcs := #[], inits := #[]} Tryz.f75 = _ by conv => lhs; cbv)
theorem fn_ref09_ors : FnIs Tryz.prog 75 45 c_ref09_ors [.tmp 2, .tmp 3] := ⟨_, _, Tryz.func75, by kernel_rfl, rfl, by kernel_rfl, rfl, by kernel_rfl⟩
def c_ref09_prefix : SCode := cval (show codeOf {Tryz.prog with funcs := #[], inits := #[]} Tryz.f76 = _ by conv => lhs; cbv)
theorem fn_ref09_prefix : FnIs Tryz.prog 76 39 c_ref09_prefix [.tmp 2, .tmp 3] := ⟨_, _, Tryz.func76, by kernel_rfl, rfl, by kernel_rfl, rfl, by kernel_rfl⟩
def c_slices_Contains_int : SCode := cval (show codeOf {Tryz.prog with funcs := #[], inits := #[]} Tryz.f85 = _ by conv => lhs; cbv)
theorem fn_slices_Contains_int : FnIs Tryz.prog 85 9 c_slices_Contains_int [.tmp 4] := ⟨_, _, Tryz.func85, by kernel_rfl, rfl, by kernel_rfl, rfl, by kernel_rfl⟩
def c_speak_votes_passes : SCode := cval (show codeOf {Tryz.prog with funcs := #[], inits := #[]} Tryz.f91 = _ by conv => lhs; cbv)
theorem fn_speak_votes_passes : FnIs Tryz.prog 91 34 c_speak_votes_passes [.tmp 4] := ⟨_, _, Tryz.func91, by kernel_rfl, rfl, by kernel_rfl, rfl, by kernel_rfl⟩
abbrev F.speak_tree_1 : Nat := 94
def c_speak_tree_1 : SCode := cval (show codeOf {Tryz.prog with funcs := #[], inits := #[]} Tryz.f94 = _ by conv => lhs; cbv)
theorem fn_speak_tree_1 : FnIs Tryz.prog 94 10 c_speak_tree_1 [] := ⟨_, _, Tryz.func94, by kernel_rfl, rfl, by kernel_rfl, rfl, by kernel_rfl⟩
def c_speak_choices_1_1 : SCode := cval (show codeOf {Tryz.prog with funcs := #[], inits := #[]} Tryz.f103 = _ by conv => lhs; cbv)
theorem fn_speak_choices_1_1 : FnIs Tryz.prog 103 75 c_speak_choices_1_1 [.tmp 7] := ⟨_, _, Tryz.func103, by kernel_rfl, rfl, by kernel_rfl, rfl, by kernel_rfl⟩
def c_slices_Clone_apiSpeakDeed : SCode := cval (show codeOf {Tryz.prog with funcs := #[], inits := #[]} Tryz.f104 = _ by conv => lhs; cbv)
theorem fn_slices_Clone_apiSpeakDeed : FnIs Tryz.prog 104 8 c_slices_Clone_apiSpeakDeed [.tmp 2] := ⟨_, _, Tryz.func104, by kernel_rfl, rfl, by kernel_rfl, rfl, by kernel_rfl⟩
def c_slices_IndexFunc_apiSpeakDeed : SCode := cval (show codeOf {Tryz.prog with funcs := #[], inits := #[]} Tryz.f105 = _ by conv => lhs; cbv)
theorem fn_slices_IndexFunc_apiSpeakDeed : FnIs Tryz.prog 105 19 c_slices_IndexFunc_apiSpeakDeed [.tmp 4] := ⟨_, _, Tryz.func105, by kernel_rfl, rfl, by kernel_rfl, rfl, by kernel_rfl⟩
def c_speak_all_1 : SCode := cval (show codeOf {Tryz.prog with funcs := #[], inits := #[]} Tryz.f107 = _ by conv => lhs; cbv)
theorem fn_speak_all_1 : FnIs Tryz.prog 107 17 c_speak_all_1 [] := ⟨_, _, Tryz.func107, by kernel_rfl, rfl, by kernel_rfl, rfl, by kernel_rfl⟩
def c_speak_river_down : SCode := cval (show codeOf {Tryz.prog with funcs := #[], inits := #[]} Tryz.f116 = _ by conv => lhs; cbv)
theorem fn_speak_river_down : FnIs Tryz.prog 116 18 c_speak_river_down [.tmp 4] := ⟨_, _, Tryz.func116, by kernel_rfl, rfl, by kernel_rfl, rfl, by kernel_rfl⟩
def c_slices_Index_int : SCode := cval (show codeOf {Tryz.prog with funcs := #[], inits := #[]} Tryz.f118 = _ by conv => lhs; cbv)
theorem fn_slices_Index_int : FnIs Tryz.prog 118 19 c_slices_Index_int [.tmp 4] := ⟨_, _, Tryz.func118, by kernel_rfl, rfl, by kernel_rfl, rfl, by kernel_rfl⟩
def c_slices_pdqsortOrdered_int : SCode := cval (show codeOf {Tryz.prog with funcs := #[], inits := #[]} Tryz.f119 = _ by conv => lhs; cbv)
theorem fn_slices_pdqsortOrdered_int : FnIs Tryz.prog 119 134 c_slices_pdqsortOrdered_int [] := ⟨_, _, Tryz.func119, by kernel_rfl, rfl, by kernel_rfl, rfl, by kernel_rfl⟩
def c_speak_votes_passes_1 : SCode := cval (show codeOf {Tryz.prog with funcs := #[], inits := #[]} Tryz.f123 = _ by conv => lhs; cbv)
theorem fn_speak_votes_passes_1 : FnIs Tryz.prog 123 19 c_speak_votes_passes_1 [.tmp 2] := ⟨_, _, Tryz.func123, by kernel_rfl, rfl, by kernel_rfl, rfl, by kernel_rfl⟩
def c_slices_breakPatternsCmpFunc_apiSpeakDeed : SCode := cval (show codeOf {Tryz.prog with funcs := #[], inits := #[]} Tryz.f126 = _ by conv => lhs; cbv)
theorem fn_slices_breakPatternsCmpFunc_apiSpeakDeed : FnIs Tryz.prog 126 67 c_slices_breakPatternsCmpFunc_apiSpeakDeed [] := ⟨_, _, Tryz.func126, by kernel_rfl, rfl, by kernel_rfl, rfl, by kernel_rfl⟩
def c_slices_choosePivotCmpFunc_apiSpeakDeed : SCode := cval (show codeOf {Tryz.prog with funcs := #[], inits := #[]} Tryz.f127 = _ by conv => lhs; cbv)
theorem fn_slices_choosePivotCmpFunc_apiSpeakDeed : FnIs Tryz.prog 127 63 c_slices_choosePivotCmpFunc_apiSpeakDeed [.tmp 8, .tmp 9] := ⟨_, _, Tryz.func127, by kernel_rfl, rfl, by kernel_rfl, rfl, by kernel_rfl⟩
def c_math_bits_Len32 : SCode := cval (show codeOf {Tryz.prog with funcs := #[], inits := #[]} Tryz.f132 = _ by conv => lhs; cbv)
theorem fn_math_bits_Len32 : FnIs Tryz.prog 132 19 c_math_bits_Len32 [.tmp 2] := ⟨_, _, Tryz.func132, by kernel_rfl, rfl, by kernel_rfl, rfl, by kernel_rfl⟩
def c_ref09_Acts : SCode := cval (show codeOf {Tryz.prog with funcs := #[], inits := #[]} Tryz.f136 = _ by conv => lhs; cbv)
theorem fn_ref09_Acts : FnIs Tryz.prog 136 10 c_ref09_Acts [.tmp 2] := ⟨_, _, Tryz.func136, by kernel_rfl, rfl, by kernel_rfl, rfl, by kernel_rfl⟩
def c_slices_heapSortOrdered_int : SCode := cval (show codeOf {Tryz.prog with funcs := #[], inits := #[]} Tryz.f142 = _ by conv => lhs; cbv)
theorem fn_slices_heapSortOrdered_int : FnIs Tryz.prog 142 56 c_slices_heapSortOrdered_int [] := ⟨_, _, Tryz.func142, by kernel_rfl, rfl, by kernel_rfl, rfl, by kernel_rfl⟩
def c_slices_medianOrdered_int : SCode := cval (show codeOf {Tryz.prog with funcs := #[], inits := #[]} Tryz.f162 = _ by conv => lhs; cbv)
theorem fn_slices_medianOrdered_int : FnIs Tryz.prog 162 36 c_slices_medianOrdered_int [.tmp 10] := ⟨_, _, Tryz.func162, by kernel_rfl, rfl, by kernel_rfl, rfl, by kernel_rfl⟩
def c_speak_infix_write : SCode := cval (show codeOf {Tryz.prog with funcs := #[], inits := #[]} Tryz.f193 = _ by conv => lhs; cbv)
theorem fn_speak_infix_write : FnIs Tryz.prog 193 10 c_speak_infix_write [.tmp 4] := ⟨_, _, Tryz.func193, by kernel_rfl, rfl, by kernel_rfl, rfl, by kernel_rfl⟩
def c_speak_infix_both : SCode := cval (show codeOf {Tryz.prog with funcs := #[], inits := #[]} Tryz.f194 = _ by conv => lhs; cbv)
theorem fn_speak_infix_both : FnIs Tryz.prog 194 18 c_speak_infix_both [.tmp 4] := ⟨_, _, Tryz.func194, by kernel_rfl, rfl, by kernel_rfl, rfl, by kernel_rfl⟩
abbrev F.strconv_Itoa : Nat := 198
def c_strconv_Itoa : SCode := cval (show codeOf {Tryz.prog with funcs := #[], inits := #[]} Tryz.f198 = _ by conv => lhs; cbv)
theorem fn_strconv_Itoa : FnIs Tryz.prog 198 5 c_strconv_Itoa [.tmp 2] := ⟨_, _, Tryz.func198, by kernel_rfl, rfl, by kernel_rfl, rfl, by kernel_rfl⟩
def c_speak_infix_write_1_2 : SCode := cval (show codeOf {Tryz.prog with funcs := #[], inits := #[]} Tryz.f200 = _ by conv => lhs; cbv)
theorem fn_speak_infix_write_1_2 : FnIs Tryz.prog 200 3 c_speak_infix_write_1_2 [.tmp 2] := ⟨_, _, Tryz.func200, by kernel_rfl, rfl, by kernel_rfl, rfl, by kernel_rfl⟩
def c_speak_infix_write_1_3 : SCode := cval (show codeOf {Tryz.prog with funcs := #[], inits := #[]} Tryz.f201 = _ by conv => lhs; cbv)
theorem fn_speak_infix_write_1_3 : FnIs Tryz.prog 201 5 c_speak_infix_write_1_3 [.tmp 2] := ⟨_, _, Tryz.func201, by kernel_rfl, rfl, by kernel_rfl, rfl, by kernel_rfl⟩
def c_speak_prefix_write : SCode := cval (show codeOf {Tryz.prog with funcs := #[], inits := #[]} Tryz.f231 = _ by conv => lhs; cbv)
theorem fn_speak_prefix_write : FnIs Tryz.prog 231 59 c_speak_prefix_write [.tmp 4] := ⟨_, _, Tryz.func231, by kernel_rfl, rfl, by kernel_rfl, rfl, by kernel_rfl⟩
def c_speak_postfix_read : SCode := cval (show codeOf {Tryz.prog with funcs := #[], inits := #[]} Tryz.f232 = _ by conv => lhs; cbv)
theorem fn_speak_postfix_read : FnIs Tryz.prog 232 84 c_speak_postfix_read [.tmp 4] := ⟨_, _, Tryz.func232, by kernel_rfl, rfl, by kernel_rfl, rfl, by kernel_rfl⟩
abbrev F.speak_denial_holds : Nat := 237
def c_speak_denial_holds : SCode := .seq (.reg [⟨some 2, none, .box 187 (.t 0)⟩, ⟨some 4, none, .mv (.c (.bool false))⟩]) (.seq (.reg [⟨some 5, none, .fa 0 (.t 2)⟩, ⟨some 6, none, .load false 1 (.t 5)⟩, ⟨some 7, none, .mv (.t 1)⟩, ⟨some 8, none, .inv [(185, 235), (187, 237), (189, 238)] (.t 6) [.t 7]⟩, ⟨some 9, none, .un .not (.t 8)⟩, ⟨some 4, none, .mv (.t 9)⟩]) .ret)
theorem fn_speak_denial_holds : FnIs Tryz.prog 237 10 c_speak_denial_holds [.tmp 4] := ⟨_, _, Tryz.func237, by kernel_rfl, rfl, by kernel_rfl, rfl, by kernel_rfl⟩
end Go.Proofs.YtcllnnjeaidppaaGreatDoor
