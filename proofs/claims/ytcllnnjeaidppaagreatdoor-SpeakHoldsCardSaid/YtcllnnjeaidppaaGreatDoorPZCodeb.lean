/- The program's functions as the layer above reads them: reckoned off the loaded program; each is held against it by the kernel. -/
import Derived.Test.YtcllnnjeaidppaaGreatDoorChecked
import Derived.Test.YtcllnnjeaidppaaGreatDoorPMn
set_option maxRecDepth 100000
set_option maxHeartbeats 4000000
namespace Go.Proofs.YtcllnnjeaidppaaGreatDoor
open Go Go.Av
def c_law09_SpeakTexts : SCode := cval (show codeOf {Tryz.prog with funcs := #[], inits := #[]} Tryz.f5 = _ by conv => lhs; cbv)
theorem fn_law09_SpeakTexts : FnIs Tryz.prog 5 68 c_law09_SpeakTexts [.tmp 4] := ⟨_, _, Tryz.func5, by kernel_rfl, rfl, by kernel_rfl, rfl, by kernel_rfl⟩
def c_law09_SpeakReads : SCode := cval (show codeOf {Tryz.prog with funcs := #[], inits := #[]} Tryz.f6 = _ by conv => lhs; cbv)
theorem fn_law09_SpeakReads : FnIs Tryz.prog 6 100 c_law09_SpeakReads [.tmp 4] := ⟨_, _, Tryz.func6, by kernel_rfl, rfl, by kernel_rfl, rfl, by kernel_rfl⟩
def c_law09_SpeakTranslates : SCode := cval (show codeOf {Tryz.prog with funcs := #[], inits := #[]} Tryz.f7 = _ by conv => lhs; cbv)
theorem fn_law09_SpeakTranslates : FnIs Tryz.prog 7 161 c_law09_SpeakTranslates [.tmp 10] := ⟨_, _, Tryz.func7, by kernel_rfl, rfl, by kernel_rfl, rfl, by kernel_rfl⟩
def c_speak_Print : SCode := .seq (.reg [⟨some 4, none, .mv (.c (.str ⟨#[]⟩))⟩, ⟨some 5, none, .mv (.c (.int .i64 0))⟩]) (.seq (.reg [⟨some 10, none, .mv (.t 0)⟩, ⟨some 11, none, .call 51 [.t 10]⟩, ⟨some 9, none, .mv (.t 11)⟩, ⟨some 12, none, .ext 0 (.t 9)⟩, ⟨some 13, none, .ext 1 (.t 9)⟩, ⟨some 14, none, .ext 2 (.t 9)⟩, ⟨some 6, none, .mv (.t 12)⟩, ⟨some 7, none, .mv (.t 13)⟩, ⟨some 8, none, .mv (.t 14)⟩]) (.seq (.seq (.reg [⟨some 15, none, .mv (.t 8)⟩, ⟨some 16, none, .bin .eql (.t 15) (.c (.int .i64 0))⟩, ⟨some 17, none, .mv (.t 16)⟩, ⟨some 18, some (17, true), .mv (.t 1)⟩, ⟨some 19, some (17, true), .call 64 [.t 18]⟩, ⟨some 20, some (17, true), .un .not (.t 19)⟩, ⟨some 21, none, .pick (.t 17) (.t 20) (.c (.bool false))⟩]) (.cond (.t 21) (.reg [⟨some 8, none, .mv (.c (.int .i64 2))⟩]) .skip)) (.seq (.seq (.reg [⟨some 22, none, .mv (.t 8)⟩, ⟨some 23, none, .bin .neq (.t 22) (.c (.int .i64 0))⟩]) (.cond (.t 23) (.seq (.reg [⟨some 24, none, .mv (.t 8)⟩, ⟨some 4, none, .mv (.c (.str ⟨#[]⟩))⟩, ⟨some 5, none, .mv (.t 24)⟩]) .ret) .skip)) (.seq (.reg [⟨some 25, none, .call 65 []⟩, ⟨some 26, none, .mv (.t 1)⟩, ⟨some 27, none, .ixV false 3 1 (.t 25) (.t 26)⟩, ⟨some 28, none, .mv (.t 6)⟩, ⟨some 29, none, .inv [(177, 193), (178, 231), (179, 233)] (.t 27) [.t 28]⟩, ⟨some 4, none, .mv (.t 29)⟩, ⟨some 5, none, .mv (.c (.int .i64 0))⟩]) .ret))))
theorem fn_speak_Print : FnIs Tryz.prog 22 30 c_speak_Print [.tmp 4, .tmp 5] := ⟨_, _, Tryz.func22, by kernel_rfl, rfl, by kernel_rfl, rfl, by kernel_rfl⟩
abbrev F.law09_motion : Nat := 23
def c_law09_motion : SCode := cval (show codeOf {Tryz.prog with funcs := #[], inits := #[]} Tryz.f23 = _ by conv => lhs; cbv)
theorem fn_law09_motion : FnIs Tryz.prog 23 9 c_law09_motion [.tmp 2] := ⟨_, _, Tryz.func23, by kernel_rfl, rfl, by kernel_rfl, rfl, by kernel_rfl⟩
def c_ref09_Report : SCode := cval (show codeOf {Tryz.prog with funcs := #[], inits := #[]} Tryz.f33 = _ by conv => lhs; cbv)
theorem fn_ref09_Report : FnIs Tryz.prog 33 39 c_ref09_Report [.tmp 4] := ⟨_, _, Tryz.func33, by kernel_rfl, rfl, by kernel_rfl, rfl, by kernel_rfl⟩
def c_law09_holding : SCode := cval (show codeOf {Tryz.prog with funcs := #[], inits := #[]} Tryz.f37 = _ by conv => lhs; cbv)
theorem fn_law09_holding : FnIs Tryz.prog 37 27 c_law09_holding [.tmp 4] := ⟨_, _, Tryz.func37, by kernel_rfl, rfl, by kernel_rfl, rfl, by kernel_rfl⟩
abbrev F.ref09_Holds : Nat := 39
def c_ref09_Holds : SCode := cval (show codeOf {Tryz.prog with funcs := #[], inits := #[]} Tryz.f39 = _ by conv => lhs; cbv)
theorem fn_ref09_Holds : FnIs Tryz.prog 39 8 c_ref09_Holds [.tmp 4] := ⟨_, _, Tryz.func39, by kernel_rfl, rfl, by kernel_rfl, rfl, by kernel_rfl⟩
def c_speak_Count : SCode := cval (show codeOf {Tryz.prog with funcs := #[], inits := #[]} Tryz.f40 = _ by conv => lhs; cbv)
theorem fn_speak_Count : FnIs Tryz.prog 40 94 c_speak_Count [.cell 4 true 5, .tmp 5] := ⟨_, _, Tryz.func40, by kernel_rfl, rfl, by kernel_rfl, rfl, by kernel_rfl⟩
def c_speak_Word : SCode := cval (show codeOf {Tryz.prog with funcs := #[], inits := #[]} Tryz.f41 = _ by conv => lhs; cbv)
theorem fn_speak_Word : FnIs Tryz.prog 41 45 c_speak_Word [.tmp 6, .tmp 7] := ⟨_, _, Tryz.func41, by kernel_rfl, rfl, by kernel_rfl, rfl, by kernel_rfl⟩
def c_law09_clause : SCode := cval (show codeOf {Tryz.prog with funcs := #[], inits := #[]} Tryz.f48 = _ by conv => lhs; cbv)
theorem fn_law09_clause : FnIs Tryz.prog 48 11 c_law09_clause [.cell 6 true 4] := ⟨_, _, Tryz.func48, by kernel_rfl, rfl, by kernel_rfl, rfl, by kernel_rfl⟩
def c_slices_SortFunc_apiSpeakDeed : SCode := cval (show codeOf {Tryz.prog with funcs := #[], inits := #[]} Tryz.f53 = _ by conv => lhs; cbv)
theorem fn_slices_SortFunc_apiSpeakDeed : FnIs Tryz.prog 53 14 c_slices_SortFunc_apiSpeakDeed [] := ⟨_, _, Tryz.func53, by kernel_rfl, rfl, by kernel_rfl, rfl, by kernel_rfl⟩
abbrev F.slices_ContainsFunc_apiSpeakDeed : Nat := 61
def c_slices_ContainsFunc_apiSpeakDeed : SCode := cval (show codeOf {Tryz.prog with funcs := #[], inits := #[]} Tryz.f61 = _ by conv => lhs; cbv)
theorem fn_slices_ContainsFunc_apiSpeakDeed : FnIs Tryz.prog 61 9 c_slices_ContainsFunc_apiSpeakDeed [.tmp 4] := ⟨_, _, Tryz.func61, by kernel_rfl, rfl, by kernel_rfl, rfl, by kernel_rfl⟩
abbrev F.speak_deed : Nat := 63
def c_speak_deed : SCode := cval (show codeOf {Tryz.prog with funcs := #[], inits := #[]} Tryz.f63 = _ by conv => lhs; cbv)
theorem fn_speak_deed : FnIs Tryz.prog 63 16 c_speak_deed [.tmp 2] := ⟨_, _, Tryz.func63, by kernel_rfl, rfl, by kernel_rfl, rfl, by kernel_rfl⟩
def c_speak_flat : SCode := cval (show codeOf {Tryz.prog with funcs := #[], inits := #[]} Tryz.f71 = _ by conv => lhs; cbv)
theorem fn_speak_flat : FnIs Tryz.prog 71 45 c_speak_flat [.tmp 2] := ⟨_, _, Tryz.func71, by kernel_rfl, rfl, by kernel_rfl, rfl, by kernel_rfl⟩
def c_ref09_polish : SCode := cval (show codeOf {Tryz.prog with funcs := #[], inits := #[]} Tryz.f73 = _ by conv => lhs; cbv)
theorem fn_ref09_polish : FnIs Tryz.prog 73 67 c_ref09_polish [.tmp 6] := ⟨_, _, Tryz.func73, by kernel_rfl, rfl, by kernel_rfl, rfl, by kernel_rfl⟩
def c_speak_Find_1 : SCode := cval (show codeOf {Tryz.prog with funcs := #[], inits := #[]} Tryz.f81 = _ by conv => lhs; cbv)
theorem fn_speak_Find_1 : FnIs Tryz.prog 81 7 c_speak_Find_1 [.tmp 2] := ⟨_, _, Tryz.func81, by kernel_rfl, rfl, by kernel_rfl, rfl, by kernel_rfl⟩
def c_speak_river_step : SCode := cval (show codeOf {Tryz.prog with funcs := #[], inits := #[]} Tryz.f84 = _ by conv => lhs; cbv)
theorem fn_speak_river_step : FnIs Tryz.prog 84 58 c_speak_river_step [.tmp 6, .tmp 7] := ⟨_, _, Tryz.func84, by kernel_rfl, rfl, by kernel_rfl, rfl, by kernel_rfl⟩
def c_ref09_Goes : SCode := cval (show codeOf {Tryz.prog with funcs := #[], inits := #[]} Tryz.f87 = _ by conv => lhs; cbv)
theorem fn_ref09_Goes : FnIs Tryz.prog 87 64 c_ref09_Goes [.tmp 6] := ⟨_, _, Tryz.func87, by kernel_rfl, rfl, by kernel_rfl, rfl, by kernel_rfl⟩
def c_speak_council : SCode := cval (show codeOf {Tryz.prog with funcs := #[], inits := #[]} Tryz.f89 = _ by conv => lhs; cbv)
theorem fn_speak_council : FnIs Tryz.prog 89 28 c_speak_council [.tmp 2] := ⟨_, _, Tryz.func89, by kernel_rfl, rfl, by kernel_rfl, rfl, by kernel_rfl⟩
def c_speak_meaning : SCode := cval (show codeOf {Tryz.prog with funcs := #[], inits := #[]} Tryz.f90 = _ by conv => lhs; cbv)
theorem fn_speak_meaning : FnIs Tryz.prog 90 16 c_speak_meaning [.tmp 2] := ⟨_, _, Tryz.func90, by kernel_rfl, rfl, by kernel_rfl, rfl, by kernel_rfl⟩
abbrev F.speak_parts_left : Nat := 96
def c_speak_parts_left : SCode := cval (show codeOf {Tryz.prog with funcs := #[], inits := #[]} Tryz.f96 = _ by conv => lhs; cbv)
theorem fn_speak_parts_left : FnIs Tryz.prog 96 13 c_speak_parts_left [.tmp 2] := ⟨_, _, Tryz.func96, by kernel_rfl, rfl, by kernel_rfl, rfl, by kernel_rfl⟩
def c_cmp_Or_int : SCode := cval (show codeOf {Tryz.prog with funcs := #[], inits := #[]} Tryz.f100 = _ by conv => lhs; cbv)
theorem fn_cmp_Or_int : FnIs Tryz.prog 100 18 c_cmp_Or_int [.tmp 2] := ⟨_, _, Tryz.func100, by kernel_rfl, rfl, by kernel_rfl, rfl, by kernel_rfl⟩
abbrev F.strings_Split : Nat := 108
def c_strings_Split : SCode := cval (show codeOf {Tryz.prog with funcs := #[], inits := #[]} Tryz.f108 = _ by conv => lhs; cbv)
theorem fn_strings_Split : FnIs Tryz.prog 108 8 c_strings_Split [.tmp 4] := ⟨_, _, Tryz.func108, by kernel_rfl, rfl, by kernel_rfl, rfl, by kernel_rfl⟩
def c_ref09_clause : SCode := cval (show codeOf {Tryz.prog with funcs := #[], inits := #[]} Tryz.f109 = _ by conv => lhs; cbv)
theorem fn_ref09_clause : FnIs Tryz.prog 109 47 c_ref09_clause [.tmp 4] := ⟨_, _, Tryz.func109, by kernel_rfl, rfl, by kernel_rfl, rfl, by kernel_rfl⟩
def c_ref09_ands : SCode := cval (show codeOf {Tryz.prog with funcs := #[], inits := #[]} Tryz.f110 = _ by conv => lhs; cbv)
theorem fn_ref09_ands : FnIs Tryz.prog 110 45 c_ref09_ands [.tmp 2, .tmp 3] := ⟨_, _, Tryz.func110, by kernel_rfl, rfl, by kernel_rfl, rfl, by kernel_rfl⟩
def c_ref09_three : SCode := cval (show codeOf {Tryz.prog with funcs := #[], inits := #[]} Tryz.f112 = _ by conv => lhs; cbv)
theorem fn_ref09_three : FnIs Tryz.prog 112 48 c_ref09_three [.cell 4 true 4, .tmp 5] := ⟨_, _, Tryz.func112, by kernel_rfl, rfl, by kernel_rfl, rfl, by kernel_rfl⟩
def c_slices_IndexFunc_apiSpeakSpot : SCode := cval (show codeOf {Tryz.prog with funcs := #[], inits := #[]} Tryz.f114 = _ by conv => lhs; cbv)
theorem fn_slices_IndexFunc_apiSpeakSpot : FnIs Tryz.prog 114 19 c_slices_IndexFunc_apiSpeakSpot [.tmp 4] := ⟨_, _, Tryz.func114, by kernel_rfl, rfl, by kernel_rfl, rfl, by kernel_rfl⟩
def c_speak_river_up : SCode := cval (show codeOf {Tryz.prog with funcs := #[], inits := #[]} Tryz.f117 = _ by conv => lhs; cbv)
theorem fn_speak_river_up : FnIs Tryz.prog 117 21 c_speak_river_up [.tmp 4] := ⟨_, _, Tryz.func117, by kernel_rfl, rfl, by kernel_rfl, rfl, by kernel_rfl⟩
def c_slices_ContainsFunc_4int : SCode := cval (show codeOf {Tryz.prog with funcs := #[], inits := #[]} Tryz.f122 = _ by conv => lhs; cbv)
theorem fn_slices_ContainsFunc_4int : FnIs Tryz.prog 122 9 c_slices_ContainsFunc_4int [.tmp 4] := ⟨_, _, Tryz.func122, by kernel_rfl, rfl, by kernel_rfl, rfl, by kernel_rfl⟩
def c_slices_partitionCmpFunc_apiSpeakDeed : SCode := cval (show codeOf {Tryz.prog with funcs := #[], inits := #[]} Tryz.f131 = _ by conv => lhs; cbv)
theorem fn_slices_partitionCmpFunc_apiSpeakDeed : FnIs Tryz.prog 131 178 c_slices_partitionCmpFunc_apiSpeakDeed [.tmp 10, .tmp 11] := ⟨_, _, Tryz.func131, by kernel_rfl, rfl, by kernel_rfl, rfl, by kernel_rfl⟩
def c_ref09_Things : SCode := cval (show codeOf {Tryz.prog with funcs := #[], inits := #[]} Tryz.f137 = _ by conv => lhs; cbv)
theorem fn_ref09_Things : FnIs Tryz.prog 137 10 c_ref09_Things [.tmp 2] := ⟨_, _, Tryz.func137, by kernel_rfl, rfl, by kernel_rfl, rfl, by kernel_rfl⟩
def c_ref09_nots : SCode := cval (show codeOf {Tryz.prog with funcs := #[], inits := #[]} Tryz.f139 = _ by conv => lhs; cbv)
theorem fn_ref09_nots : FnIs Tryz.prog 139 69 c_ref09_nots [.tmp 2, .tmp 3] := ⟨_, _, Tryz.func139, by kernel_rfl, rfl, by kernel_rfl, rfl, by kernel_rfl⟩
def c_slices_reverseRangeOrdered_int : SCode := cval (show codeOf {Tryz.prog with funcs := #[], inits := #[]} Tryz.f145 = _ by conv => lhs; cbv)
theorem fn_slices_reverseRangeOrdered_int : FnIs Tryz.prog 145 32 c_slices_reverseRangeOrdered_int [] := ⟨_, _, Tryz.func145, by kernel_rfl, rfl, by kernel_rfl, rfl, by kernel_rfl⟩
def c_slices_partialInsertionSortOrdered_int : SCode := cval (show codeOf {Tryz.prog with funcs := #[], inits := #[]} Tryz.f146 = _ by conv => lhs; cbv)
theorem fn_slices_partialInsertionSortOrdered_int : FnIs Tryz.prog 146 133 c_slices_partialInsertionSortOrdered_int [.tmp 6] := ⟨_, _, Tryz.func146, by kernel_rfl, rfl, by kernel_rfl, rfl, by kernel_rfl⟩
def c_slices_partitionEqualOrdered_int : SCode := cval (show codeOf {Tryz.prog with funcs := #[], inits := #[]} Tryz.f148 = _ by conv => lhs; cbv)
theorem fn_slices_partitionEqualOrdered_int : FnIs Tryz.prog 148 84 c_slices_partitionEqualOrdered_int [.tmp 8] := ⟨_, _, Tryz.func148, by kernel_rfl, rfl, by kernel_rfl, rfl, by kernel_rfl⟩
def c_slices_siftDownCmpFunc_apiSpeakDeed : SCode := cval (show codeOf {Tryz.prog with funcs := #[], inits := #[]} Tryz.f152 = _ by conv => lhs; cbv)
theorem fn_slices_siftDownCmpFunc_apiSpeakDeed : FnIs Tryz.prog 152 82 c_slices_siftDownCmpFunc_apiSpeakDeed [] := ⟨_, _, Tryz.func152, by kernel_rfl, rfl, by kernel_rfl, rfl, by kernel_rfl⟩
def c_slices_xorshift_Next : SCode := cval (show codeOf {Tryz.prog with funcs := #[], inits := #[]} Tryz.f154 = _ by conv => lhs; cbv)
theorem fn_slices_xorshift_Next : FnIs Tryz.prog 154 33 c_slices_xorshift_Next [.tmp 2] := ⟨_, _, Tryz.func154, by kernel_rfl, rfl, by kernel_rfl, rfl, by kernel_rfl⟩
def c_slices_siftDownOrdered_int : SCode := cval (show codeOf {Tryz.prog with funcs := #[], inits := #[]} Tryz.f160 = _ by conv => lhs; cbv)
theorem fn_slices_siftDownOrdered_int : FnIs Tryz.prog 160 76 c_slices_siftDownOrdered_int [] := ⟨_, _, Tryz.func160, by kernel_rfl, rfl, by kernel_rfl, rfl, by kernel_rfl⟩
def c_slices_medianAdjacentOrdered_int : SCode := cval (show codeOf {Tryz.prog with funcs := #[], inits := #[]} Tryz.f161 = _ by conv => lhs; cbv)
theorem fn_slices_medianAdjacentOrdered_int : FnIs Tryz.prog 161 15 c_slices_medianAdjacentOrdered_int [.tmp 6] := ⟨_, _, Tryz.func161, by kernel_rfl, rfl, by kernel_rfl, rfl, by kernel_rfl⟩
def c_slices_order2CmpFunc_apiSpeakDeed : SCode := cval (show codeOf {Tryz.prog with funcs := #[], inits := #[]} Tryz.f163 = _ by conv => lhs; cbv)
theorem fn_slices_order2CmpFunc_apiSpeakDeed : FnIs Tryz.prog 163 32 c_slices_order2CmpFunc_apiSpeakDeed [.tmp 10, .tmp 11] := ⟨_, _, Tryz.func163, by kernel_rfl, rfl, by kernel_rfl, rfl, by kernel_rfl⟩
def c_speak_text_next : SCode := cval (show codeOf {Tryz.prog with funcs := #[], inits := #[]} Tryz.f191 = _ by conv => lhs; cbv)
theorem fn_speak_text_next : FnIs Tryz.prog 191 23 c_speak_text_next [.tmp 2] := ⟨_, _, Tryz.func191, by kernel_rfl, rfl, by kernel_rfl, rfl, by kernel_rfl⟩
def c_speak_infix_read : SCode := cval (show codeOf {Tryz.prog with funcs := #[], inits := #[]} Tryz.f192 = _ by conv => lhs; cbv)
theorem fn_speak_infix_read : FnIs Tryz.prog 192 18 c_speak_infix_read [.tmp 4] := ⟨_, _, Tryz.func192, by kernel_rfl, rfl, by kernel_rfl, rfl, by kernel_rfl⟩
def c_speak_infix_write_1_1 : SCode := cval (show codeOf {Tryz.prog with funcs := #[], inits := #[]} Tryz.f199 = _ by conv => lhs; cbv)
theorem fn_speak_infix_write_1_1 : FnIs Tryz.prog 199 3 c_speak_infix_write_1_1 [.tmp 2] := ⟨_, _, Tryz.func199, by kernel_rfl, rfl, by kernel_rfl, rfl, by kernel_rfl⟩
def c_speak_infix_write_1_4 : SCode := cval (show codeOf {Tryz.prog with funcs := #[], inits := #[]} Tryz.f202 = _ by conv => lhs; cbv)
theorem fn_speak_infix_write_1_4 : FnIs Tryz.prog 202 5 c_speak_infix_write_1_4 [.tmp 2] := ⟨_, _, Tryz.func202, by kernel_rfl, rfl, by kernel_rfl, rfl, by kernel_rfl⟩
def c_speak_infix_write_1_5 : SCode := cval (show codeOf {Tryz.prog with funcs := #[], inits := #[]} Tryz.f203 = _ by conv => lhs; cbv)
theorem fn_speak_infix_write_1_5 : FnIs Tryz.prog 203 3 c_speak_infix_write_1_5 [.tmp 2] := ⟨_, _, Tryz.func203, by kernel_rfl, rfl, by kernel_rfl, rfl, by kernel_rfl⟩
def c_speak_text_take : SCode := cval (show codeOf {Tryz.prog with funcs := #[], inits := #[]} Tryz.f209 = _ by conv => lhs; cbv)
theorem fn_speak_text_take : FnIs Tryz.prog 209 17 c_speak_text_take [.tmp 2] := ⟨_, _, Tryz.func209, by kernel_rfl, rfl, by kernel_rfl, rfl, by kernel_rfl⟩
end Go.Proofs.YtcllnnjeaidppaaGreatDoor
