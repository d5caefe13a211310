/- The program's functions as the layer above reads them: reckoned off the loaded program; each is held against it by the kernel. -/
import Derived.Test.YtcllnnjeaidppaaGreatDoorChecked
import Derived.Test.YtcllnnjeaidppaaGreatDoorPMn
set_option maxRecDepth 100000
set_option maxHeartbeats 4000000
namespace Go.Proofs.YtcllnnjeaidppaaGreatDoor
open Go Go.Av
def c_law09_SpeakMeant : SCode := cval (show codeOf {Tryz.prog with funcs := #[], inits := #[]} Tryz.f4 = _ by conv => lhs; cbv)
theorem fn_law09_SpeakMeant : FnIs Tryz.prog 4 102 c_law09_SpeakMeant [.tmp 6] := ⟨_, _, Tryz.func4, by kernel_rfl, rfl, by kernel_rfl, rfl, by kernel_rfl⟩
def c_law09_SpeakRefuses : SCode := cval (show codeOf {Tryz.prog with funcs := #[], inits := #[]} Tryz.f8 = _ by conv => lhs; cbv)
theorem fn_law09_SpeakRefuses : FnIs Tryz.prog 8 85 c_law09_SpeakRefuses [.tmp 6] := ⟨_, _, Tryz.func8, by kernel_rfl, rfl, by kernel_rfl, rfl, by kernel_rfl⟩
def c_law09_SpeakGone : SCode := cval (show codeOf {Tryz.prog with funcs := #[], inits := #[]} Tryz.f10 = _ by conv => lhs; cbv)
theorem fn_law09_SpeakGone : FnIs Tryz.prog 10 171 c_law09_SpeakGone [.tmp 8] := ⟨_, _, Tryz.func10, by kernel_rfl, rfl, by kernel_rfl, rfl, by kernel_rfl⟩
def c_law09_SpeakMore : SCode := cval (show codeOf {Tryz.prog with funcs := #[], inits := #[]} Tryz.f14 = _ by conv => lhs; cbv)
theorem fn_law09_SpeakMore : FnIs Tryz.prog 14 194 c_law09_SpeakMore [.tmp 12] := ⟨_, _, Tryz.func14, by kernel_rfl, rfl, by kernel_rfl, rfl, by kernel_rfl⟩
def c_ref09_Apart : SCode := cval (show codeOf {Tryz.prog with funcs := #[], inits := #[]} Tryz.f18 = _ by conv => lhs; cbv)
theorem fn_ref09_Apart : FnIs Tryz.prog 18 14 c_ref09_Apart [.tmp 4, .tmp 5] := ⟨_, _, Tryz.func18, by kernel_rfl, rfl, by kernel_rfl, rfl, by kernel_rfl⟩
def c_speak_Read : SCode := cval (show codeOf {Tryz.prog with funcs := #[], inits := #[]} Tryz.f25 = _ by conv => lhs; cbv)
theorem fn_speak_Read : FnIs Tryz.prog 25 17 c_speak_Read [.tmp 4, .tmp 5] := ⟨_, _, Tryz.func25, by kernel_rfl, rfl, by kernel_rfl, rfl, by kernel_rfl⟩
def c_ref09_SameParts : SCode := cval (show codeOf {Tryz.prog with funcs := #[], inits := #[]} Tryz.f27 = _ by conv => lhs; cbv)
theorem fn_ref09_SameParts : FnIs Tryz.prog 27 26 c_ref09_SameParts [.tmp 4] := ⟨_, _, Tryz.func27, by kernel_rfl, rfl, by kernel_rfl, rfl, by kernel_rfl⟩
def c_ref09_Same : SCode := cval (show codeOf {Tryz.prog with funcs := #[], inits := #[]} Tryz.f35 = _ by conv => lhs; cbv)
theorem fn_ref09_Same : FnIs Tryz.prog 35 26 c_ref09_Same [.tmp 4] := ⟨_, _, Tryz.func35, by kernel_rfl, rfl, by kernel_rfl, rfl, by kernel_rfl⟩
def c_law09_walked : SCode := cval (show codeOf {Tryz.prog with funcs := #[], inits := #[]} Tryz.f36 = _ by conv => lhs; cbv)
theorem fn_law09_walked : FnIs Tryz.prog 36 72 c_law09_walked [.tmp 6] := ⟨_, _, Tryz.func36, by kernel_rfl, rfl, by kernel_rfl, rfl, by kernel_rfl⟩
def c_ref09_Word : SCode := cval (show codeOf {Tryz.prog with funcs := #[], inits := #[]} Tryz.f43 = _ by conv => lhs; cbv)
theorem fn_ref09_Word : FnIs Tryz.prog 43 24 c_ref09_Word [.tmp 6] := ⟨_, _, Tryz.func43, by kernel_rfl, rfl, by kernel_rfl, rfl, by kernel_rfl⟩
def c_speak_order : SCode := cval (show codeOf {Tryz.prog with funcs := #[], inits := #[]} Tryz.f54 = _ by conv => lhs; cbv)
theorem fn_speak_order : FnIs Tryz.prog 54 22 c_speak_order [.tmp 4] := ⟨_, _, Tryz.func54, by kernel_rfl, rfl, by kernel_rfl, rfl, by kernel_rfl⟩
def c_speak_first_apiSpeakDeed : SCode := cval (show codeOf {Tryz.prog with funcs := #[], inits := #[]} Tryz.f56 = _ by conv => lhs; cbv)
theorem fn_speak_first_apiSpeakDeed : FnIs Tryz.prog 56 17 c_speak_first_apiSpeakDeed [.tmp 4, .tmp 5] := ⟨_, _, Tryz.func56, by kernel_rfl, rfl, by kernel_rfl, rfl, by kernel_rfl⟩
def c_speak_choices : SCode := cval (show codeOf {Tryz.prog with funcs := #[], inits := #[]} Tryz.f57 = _ by conv => lhs; cbv)
theorem fn_speak_choices : FnIs Tryz.prog 57 4 c_speak_choices [.tmp 2] := ⟨_, _, Tryz.func57, by kernel_rfl, rfl, by kernel_rfl, rfl, by kernel_rfl⟩
def c_speak_Read_1_l0 : SCode := .block 1 (.dreg [⟨some 12, none, .load false 1 (.t 3)⟩, ⟨some 13, none, .load false 1 (.t 3)⟩, ⟨some 14, none, .nilchk (.t 13)⟩, ⟨some 15, none, .fa 0 (.t 14)⟩, ⟨some 16, none, .load false 1 (.t 15)⟩, ⟨some 17, none, .mv (.t 4)⟩, ⟨some 18, none, .bldS 9 1 1 [.str ⟨#[]⟩] [(0, 1, .t 17)]⟩, ⟨some 19, none, .app 9 1 16 (.t 16) (.t 18)⟩, ⟨some 20, none, .nilchk (.t 12)⟩, ⟨some 21, none, .fa 0 (.t 20)⟩, ⟨none, none, .store 1 (.t 21) (.t 19)⟩] [[], [], [1], [2], [3], [], [5], [4, 6], [0, 0, 1, 2, 3, 4, 5, 6, 7], [8, 0, 1, 2, 3, 4, 5, 6, 7], [9, 7, 7, 0, 1, 2, 3, 4, 5, 6, 7]])
def c_speak_Read_1 : SCode := .seq (.reg [⟨some 7, none, .bld [.nilsl, .int .i64 0] []⟩, ⟨some 8, none, .box 123 (.t 7)⟩, ⟨some 3, none, .box 121 (.c .nilp)⟩, ⟨none, none, .store 1 (.t 3) (.t 8)⟩]) (.seq (.seq (.reg [⟨some 9, none, .load false 1 (.t 0)⟩, ⟨some 10, none, .call 69 [.t 9]⟩]) (.block 0 (.rng (.t 10) [11] (.reg [⟨some 4, none, .mv (.t 11)⟩]) c_speak_Read_1_l0))) (.seq (.dreg [⟨some 22, none, .call 65 []⟩, ⟨some 23, none, .load false 1 (.t 1)⟩, ⟨some 24, none, .ixV false 3 1 (.t 22) (.t 23)⟩, ⟨some 5, none, .mv (.t 24)⟩] [[], [], [0, 1], [2, 0, 0, 1, 2]]) (.seq (.reg [⟨some 25, none, .mv (.t 5)⟩, ⟨some 26, none, .load false 1 (.t 3)⟩, ⟨some 27, none, .inv [(177, 192), (178, 230), (179, 232)] (.t 25) [.t 26]⟩, ⟨some 6, none, .mv (.t 27)⟩]) (.seq (.dreg [⟨some 28, none, .load false 1 (.t 3)⟩, ⟨some 29, none, .nilchk (.t 28)⟩, ⟨some 30, none, .fa 1 (.t 29)⟩, ⟨some 31, none, .load false 1 (.t 30)⟩, ⟨some 32, none, .load false 1 (.t 3)⟩, ⟨some 33, none, .nilchk (.t 32)⟩, ⟨some 34, none, .fa 0 (.t 33)⟩, ⟨some 35, none, .load false 1 (.t 34)⟩, ⟨some 36, none, .len (.t 35)⟩, ⟨some 37, none, .bin .eql (.t 31) (.t 36)⟩, ⟨some 38, none, .mv (.t 37)⟩, ⟨some 39, some (38, true), .mv (.t 5)⟩, ⟨some 40, some (38, true), .mv (.t 6)⟩, ⟨some 41, some (38, true), .inv [(177, 193), (178, 231), (179, 233)] (.t 39) [.t 40]⟩, ⟨some 42, some (38, true), .load false 1 (.t 0)⟩, ⟨some 43, some (38, true), .bin .eql (.t 41) (.t 42)⟩, ⟨some 44, none, .pick (.t 38) (.t 43) (.c (.bool false))⟩, ⟨some 45, none, .call 70 [.t 44, .c (.str ⟨#[102, 111, 114, 109]⟩)]⟩] [[], [0], [1], [2], [], [4], [5], [6], [7], [3, 8], [9], [10], [10], [11, 12, 10, 10], [10], [13, 14, 10], [10, 15], [16, 13]]) (.seq (.reg [⟨some 46, none, .mv (.t 6)⟩, ⟨some 47, none, .call 71 [.t 46]⟩, ⟨none, none, .store 1 (.t 2) (.t 47)⟩]) (.reg [⟨some 48, none, .load false 1 (.t 2)⟩, ⟨some 49, none, .len (.t 48)⟩, ⟨some 50, none, .bin .leq (.t 49) (.c (.int .i64 31))⟩, ⟨some 51, none, .call 70 [.t 50, .c (.str ⟨#[112, 97, 114, 116, 115]⟩)]⟩]))))))
theorem fn_speak_Read_1 : FnIs Tryz.prog 68 52 c_speak_Read_1 [] := ⟨_, _, Tryz.func68, by kernel_rfl, rfl, by kernel_rfl, rfl, by kernel_rfl⟩
def c_ref09_plain : SCode := cval (show codeOf {Tryz.prog with funcs := #[], inits := #[]} Tryz.f72 = _ by conv => lhs; cbv)
theorem fn_ref09_plain : FnIs Tryz.prog 72 64 c_ref09_plain [.tmp 8] := ⟨_, _, Tryz.func72, by kernel_rfl, rfl, by kernel_rfl, rfl, by kernel_rfl⟩
def c_ref09_postfix : SCode := cval (show codeOf {Tryz.prog with funcs := #[], inits := #[]} Tryz.f77 = _ by conv => lhs; cbv)
theorem fn_ref09_postfix : FnIs Tryz.prog 77 82 c_ref09_postfix [.tmp 2, .tmp 3] := ⟨_, _, Tryz.func77, by kernel_rfl, rfl, by kernel_rfl, rfl, by kernel_rfl⟩
abbrev F.speak_in : Nat := 79
def c_speak_in : SCode := cval (show codeOf {Tryz.prog with funcs := #[], inits := #[]} Tryz.f79 = _ by conv => lhs; cbv)
theorem fn_speak_in : FnIs Tryz.prog 79 15 c_speak_in [.tmp 6] := ⟨_, _, Tryz.func79, by kernel_rfl, rfl, by kernel_rfl, rfl, by kernel_rfl⟩
def c_slices_ContainsFunc_apiSpeakStep : SCode := cval (show codeOf {Tryz.prog with funcs := #[], inits := #[]} Tryz.f82 = _ by conv => lhs; cbv)
theorem fn_slices_ContainsFunc_apiSpeakStep : FnIs Tryz.prog 82 9 c_slices_ContainsFunc_apiSpeakStep [.tmp 4] := ⟨_, _, Tryz.func82, by kernel_rfl, rfl, by kernel_rfl, rfl, by kernel_rfl⟩
def c_speak_Find_2 : SCode := cval (show codeOf {Tryz.prog with funcs := #[], inits := #[]} Tryz.f83 = _ by conv => lhs; cbv)
theorem fn_speak_Find_2 : FnIs Tryz.prog 83 19 c_speak_Find_2 [.tmp 2] := ⟨_, _, Tryz.func83, by kernel_rfl, rfl, by kernel_rfl, rfl, by kernel_rfl⟩
def c_slices_Sort_int : SCode := cval (show codeOf {Tryz.prog with funcs := #[], inits := #[]} Tryz.f86 = _ by conv => lhs; cbv)
theorem fn_slices_Sort_int : FnIs Tryz.prog 86 11 c_slices_Sort_int [] := ⟨_, _, Tryz.func86, by kernel_rfl, rfl, by kernel_rfl, rfl, by kernel_rfl⟩
def c_speak_meanings : SCode := cval (show codeOf {Tryz.prog with funcs := #[], inits := #[]} Tryz.f92 = _ by conv => lhs; cbv)
theorem fn_speak_meanings : FnIs Tryz.prog 92 15 c_speak_meanings [.tmp 0] := ⟨_, _, Tryz.func92, by kernel_rfl, rfl, by kernel_rfl, rfl, by kernel_rfl⟩
def c_ref09_Means : SCode := cval (show codeOf {Tryz.prog with funcs := #[], inits := #[]} Tryz.f93 = _ by conv => lhs; cbv)
theorem fn_ref09_Means : FnIs Tryz.prog 93 19 c_ref09_Means [.tmp 6] := ⟨_, _, Tryz.func93, by kernel_rfl, rfl, by kernel_rfl, rfl, by kernel_rfl⟩
abbrev F.speak_motion_operand : Nat := 95
def c_speak_motion_operand : SCode := cval (show codeOf {Tryz.prog with funcs := #[], inits := #[]} Tryz.f95 = _ by conv => lhs; cbv)
theorem fn_speak_motion_operand : FnIs Tryz.prog 95 85 c_speak_motion_operand [.tmp 2] := ⟨_, _, Tryz.func95, by kernel_rfl, rfl, by kernel_rfl, rfl, by kernel_rfl⟩
def c_slices_Grow_apiSpeakDeed : SCode := cval (show codeOf {Tryz.prog with funcs := #[], inits := #[]} Tryz.f97 = _ by conv => lhs; cbv)
theorem fn_slices_Grow_apiSpeakDeed : FnIs Tryz.prog 97 27 c_slices_Grow_apiSpeakDeed [.tmp 4] := ⟨_, _, Tryz.func97, by kernel_rfl, rfl, by kernel_rfl, rfl, by kernel_rfl⟩
def c_slices_pdqsortCmpFunc_apiSpeakDeed : SCode := cval (show codeOf {Tryz.prog with funcs := #[], inits := #[]} Tryz.f98 = _ by conv => lhs; cbv)
theorem fn_slices_pdqsortCmpFunc_apiSpeakDeed : FnIs Tryz.prog 98 148 c_slices_pdqsortCmpFunc_apiSpeakDeed [] := ⟨_, _, Tryz.func98, by kernel_rfl, rfl, by kernel_rfl, rfl, by kernel_rfl⟩
def c_math_bits_Len : SCode := cval (show codeOf {Tryz.prog with funcs := #[], inits := #[]} Tryz.f99 = _ by conv => lhs; cbv)
theorem fn_math_bits_Len : FnIs Tryz.prog 99 8 c_math_bits_Len [.tmp 2] := ⟨_, _, Tryz.func99, by kernel_rfl, rfl, by kernel_rfl, rfl, by kernel_rfl⟩
def c_cmp_Compare_int : SCode := cval (show codeOf {Tryz.prog with funcs := #[], inits := #[]} Tryz.f101 = _ by conv => lhs; cbv)
theorem fn_cmp_Compare_int : FnIs Tryz.prog 101 20 c_cmp_Compare_int [.tmp 4] := ⟨_, _, Tryz.func101, by kernel_rfl, rfl, by kernel_rfl, rfl, by kernel_rfl⟩
def c_speak_try_1 : SCode := cval (show codeOfG {Tryz.prog with funcs := #[], inits := #[]} Tryz.f106 = _ by conv => lhs; cbv)
theorem fn_speak_try_1 : GnIs Tryz.prog 106 10 4 c_speak_try_1 := ⟨_, _, _, _, _, Tryz.func106, by kernel_rfl, rfl, rfl, rfl, rfl, rfl, by decide, rfl, by kernel_rfl, rfl, rfl⟩
def c_ref09_one : SCode := cval (show codeOf {Tryz.prog with funcs := #[], inits := #[]} Tryz.f113 = _ by conv => lhs; cbv)
theorem fn_ref09_one : FnIs Tryz.prog 113 35 c_ref09_one [.cell 2 true 4, .tmp 3] := ⟨_, _, Tryz.func113, by kernel_rfl, rfl, by kernel_rfl, rfl, by kernel_rfl⟩
def c_speak_council_1 : SCode := cval (show codeOf {Tryz.prog with funcs := #[], inits := #[]} Tryz.f121 = _ by conv => lhs; cbv)
theorem fn_speak_council_1 : FnIs Tryz.prog 121 6 c_speak_council_1 [.tmp 2] := ⟨_, _, Tryz.func121, by kernel_rfl, rfl, by kernel_rfl, rfl, by kernel_rfl⟩
def c_slices_insertionSortCmpFunc_apiSpeakDeed : SCode := cval (show codeOf {Tryz.prog with funcs := #[], inits := #[]} Tryz.f124 = _ by conv => lhs; cbv)
theorem fn_slices_insertionSortCmpFunc_apiSpeakDeed : FnIs Tryz.prog 124 53 c_slices_insertionSortCmpFunc_apiSpeakDeed [] := ⟨_, _, Tryz.func124, by kernel_rfl, rfl, by kernel_rfl, rfl, by kernel_rfl⟩
def c_slices_heapSortCmpFunc_apiSpeakDeed : SCode := cval (show codeOf {Tryz.prog with funcs := #[], inits := #[]} Tryz.f125 = _ by conv => lhs; cbv)
theorem fn_slices_heapSortCmpFunc_apiSpeakDeed : FnIs Tryz.prog 125 60 c_slices_heapSortCmpFunc_apiSpeakDeed [] := ⟨_, _, Tryz.func125, by kernel_rfl, rfl, by kernel_rfl, rfl, by kernel_rfl⟩
def c_slices_reverseRangeCmpFunc_apiSpeakDeed : SCode := cval (show codeOf {Tryz.prog with funcs := #[], inits := #[]} Tryz.f128 = _ by conv => lhs; cbv)
theorem fn_slices_reverseRangeCmpFunc_apiSpeakDeed : FnIs Tryz.prog 128 34 c_slices_reverseRangeCmpFunc_apiSpeakDeed [] := ⟨_, _, Tryz.func128, by kernel_rfl, rfl, by kernel_rfl, rfl, by kernel_rfl⟩
def c_slices_partitionEqualCmpFunc_apiSpeakDeed : SCode := cval (show codeOf {Tryz.prog with funcs := #[], inits := #[]} Tryz.f130 = _ by conv => lhs; cbv)
theorem fn_slices_partitionEqualCmpFunc_apiSpeakDeed : FnIs Tryz.prog 130 90 c_slices_partitionEqualCmpFunc_apiSpeakDeed [.tmp 10] := ⟨_, _, Tryz.func130, by kernel_rfl, rfl, by kernel_rfl, rfl, by kernel_rfl⟩
def c_ref09_number : SCode := cval (show codeOf {Tryz.prog with funcs := #[], inits := #[]} Tryz.f140 = _ by conv => lhs; cbv)
theorem fn_ref09_number : FnIs Tryz.prog 140 13 c_ref09_number [.tmp 2] := ⟨_, _, Tryz.func140, by kernel_rfl, rfl, by kernel_rfl, rfl, by kernel_rfl⟩
def c_slices_insertionSortOrdered_int : SCode := cval (show codeOf {Tryz.prog with funcs := #[], inits := #[]} Tryz.f141 = _ by conv => lhs; cbv)
theorem fn_slices_insertionSortOrdered_int : FnIs Tryz.prog 141 49 c_slices_insertionSortOrdered_int [] := ⟨_, _, Tryz.func141, by kernel_rfl, rfl, by kernel_rfl, rfl, by kernel_rfl⟩
def c_slices_breakPatternsOrdered_int : SCode := cval (show codeOf {Tryz.prog with funcs := #[], inits := #[]} Tryz.f143 = _ by conv => lhs; cbv)
theorem fn_slices_breakPatternsOrdered_int : FnIs Tryz.prog 143 65 c_slices_breakPatternsOrdered_int [] := ⟨_, _, Tryz.func143, by kernel_rfl, rfl, by kernel_rfl, rfl, by kernel_rfl⟩
def c_slices_IndexFunc_int : SCode := cval (show codeOf {Tryz.prog with funcs := #[], inits := #[]} Tryz.f150 = _ by conv => lhs; cbv)
theorem fn_slices_IndexFunc_int : FnIs Tryz.prog 150 19 c_slices_IndexFunc_int [.tmp 4] := ⟨_, _, Tryz.func150, by kernel_rfl, rfl, by kernel_rfl, rfl, by kernel_rfl⟩
def c_slices_IndexFunc_4int : SCode := cval (show codeOf {Tryz.prog with funcs := #[], inits := #[]} Tryz.f151 = _ by conv => lhs; cbv)
theorem fn_slices_IndexFunc_4int : FnIs Tryz.prog 151 19 c_slices_IndexFunc_4int [.tmp 4] := ⟨_, _, Tryz.func151, by kernel_rfl, rfl, by kernel_rfl, rfl, by kernel_rfl⟩
def c_slices_nextPowerOfTwo : SCode := cval (show codeOf {Tryz.prog with funcs := #[], inits := #[]} Tryz.f153 = _ by conv => lhs; cbv)
theorem fn_slices_nextPowerOfTwo : FnIs Tryz.prog 153 7 c_slices_nextPowerOfTwo [.tmp 2] := ⟨_, _, Tryz.func153, by kernel_rfl, rfl, by kernel_rfl, rfl, by kernel_rfl⟩
def c_slices_medianAdjacentCmpFunc_apiSpeakDeed : SCode := cval (show codeOf {Tryz.prog with funcs := #[], inits := #[]} Tryz.f155 = _ by conv => lhs; cbv)
theorem fn_slices_medianAdjacentCmpFunc_apiSpeakDeed : FnIs Tryz.prog 155 18 c_slices_medianAdjacentCmpFunc_apiSpeakDeed [.tmp 8] := ⟨_, _, Tryz.func155, by kernel_rfl, rfl, by kernel_rfl, rfl, by kernel_rfl⟩
def c_speak_text_has : SCode := cval (show codeOf {Tryz.prog with funcs := #[], inits := #[]} Tryz.f195 = _ by conv => lhs; cbv)
theorem fn_speak_text_has : FnIs Tryz.prog 195 16 c_speak_text_has [.tmp 4] := ⟨_, _, Tryz.func195, by kernel_rfl, rfl, by kernel_rfl, rfl, by kernel_rfl⟩
def c_speak_words : SCode := cval (show codeOf {Tryz.prog with funcs := #[], inits := #[]} Tryz.f197 = _ by conv => lhs; cbv)
theorem fn_speak_words : FnIs Tryz.prog 197 5 c_speak_words [.tmp 2] := ⟨_, _, Tryz.func197, by kernel_rfl, rfl, by kernel_rfl, rfl, by kernel_rfl⟩
def c_speak_infix_one : SCode := cval (show codeOf {Tryz.prog with funcs := #[], inits := #[]} Tryz.f205 = _ by conv => lhs; cbv)
theorem fn_speak_infix_one : FnIs Tryz.prog 205 42 c_speak_infix_one [.tmp 4] := ⟨_, _, Tryz.func205, by kernel_rfl, rfl, by kernel_rfl, rfl, by kernel_rfl⟩
def c_speak_number : SCode := cval (show codeOf {Tryz.prog with funcs := #[], inits := #[]} Tryz.f210 = _ by conv => lhs; cbv)
theorem fn_speak_number : FnIs Tryz.prog 210 40 c_speak_number [.tmp 2] := ⟨_, _, Tryz.func210, by kernel_rfl, rfl, by kernel_rfl, rfl, by kernel_rfl⟩
abbrev F.speak_clause_holds : Nat := 235
def c_speak_clause_holds : SCode := cval (show codeOf {Tryz.prog with funcs := #[], inits := #[]} Tryz.f235 = _ by conv => lhs; cbv)
theorem fn_speak_clause_holds : FnIs Tryz.prog 235 8 c_speak_clause_holds [.tmp 4] := ⟨_, _, Tryz.func235, by kernel_rfl, rfl, by kernel_rfl, rfl, by kernel_rfl⟩
end Go.Proofs.YtcllnnjeaidppaaGreatDoor
