/- The program's functions as the layer above reads them: reckoned off the loaded program; each is held against it by the kernel. -/
import Derived.Test.YtcllnnjeaidppaaGreatDoorChecked
import Derived.Test.YtcllnnjeaidppaaGreatDoorPMn
set_option maxRecDepth 100000
set_option maxHeartbeats 4000000
namespace Go.Proofs.YtcllnnjeaidppaaGreatDoor
open Go Go.Av
def c_law09_SpeakAparts : SCode := cval (show codeOf {Tryz.prog with funcs := #[], inits := #[]} Tryz.f3 = _ by conv => lhs; cbv)
theorem fn_law09_SpeakAparts : FnIs Tryz.prog 3 69 c_law09_SpeakAparts [.tmp 4] := ⟨_, _, Tryz.func3, by kernel_rfl, rfl, by kernel_rfl, rfl, by kernel_rfl⟩
abbrev F.law09_known : Nat := 15
def c_law09_known : SCode := cval (show codeOf {Tryz.prog with funcs := #[], inits := #[]} Tryz.f15 = _ by conv => lhs; cbv)
theorem fn_law09_known : FnIs Tryz.prog 15 108 c_law09_known [.tmp 0] := ⟨_, _, Tryz.func15, by kernel_rfl, rfl, by kernel_rfl, rfl, by kernel_rfl⟩
def c_speak_Apart : SCode := cval (show codeOf {Tryz.prog with funcs := #[], inits := #[]} Tryz.f16 = _ by conv => lhs; cbv)
theorem fn_speak_Apart : FnIs Tryz.prog 16 62 c_speak_Apart [.tmp 4, .tmp 5] := ⟨_, _, Tryz.func16, by kernel_rfl, rfl, by kernel_rfl, rfl, by kernel_rfl⟩
abbrev F.ref09_Deeds : Nat := 20
def c_ref09_Deeds : SCode := cval (show codeOf {Tryz.prog with funcs := #[], inits := #[]} Tryz.f20 = _ by conv => lhs; cbv)
theorem fn_ref09_Deeds : FnIs Tryz.prog 20 27 c_ref09_Deeds [.tmp 2] := ⟨_, _, Tryz.func20, by kernel_rfl, rfl, by kernel_rfl, rfl, by kernel_rfl⟩
abbrev F.speak_Holds : Nat := 21
def c_speak_Holds : SCode := .seq (.reg [⟨some 4, none, .mv (.c (.bool false))⟩, ⟨some 5, none, .mv (.c (.int .i64 0))⟩]) (.seq (.reg [⟨some 10, none, .mv (.t 0)⟩, ⟨some 11, none, .call 51 [.t 10]⟩, ⟨some 9, none, .mv (.t 11)⟩, ⟨some 12, none, .ext 0 (.t 9)⟩, ⟨some 13, none, .ext 1 (.t 9)⟩, ⟨some 14, none, .ext 2 (.t 9)⟩, ⟨some 6, none, .mv (.t 12)⟩, ⟨some 7, none, .mv (.t 13)⟩, ⟨some 8, none, .mv (.t 14)⟩]) (.seq (.seq (.reg [⟨some 15, none, .mv (.t 8)⟩, ⟨some 16, none, .bin .eql (.t 15) (.c (.int .i64 3))⟩, ⟨some 17, none, .mv (.t 16)⟩, ⟨some 18, some (17, false), .mv (.t 1)⟩, ⟨some 19, some (17, false), .len (.t 18)⟩, ⟨some 20, some (17, false), .bin .gtr (.t 19) (.c (.int .i64 20))⟩, ⟨some 21, none, .pick (.t 17) (.c (.bool true)) (.t 20)⟩]) (.cond (.t 21) (.seq (.reg [⟨some 4, none, .mv (.c (.bool false))⟩, ⟨some 5, none, .mv (.c (.int .i64 3))⟩]) .ret) .skip)) (.seq (.seq (.reg [⟨some 22, none, .mv (.t 8)⟩, ⟨some 23, none, .bin .neq (.t 22) (.c (.int .i64 0))⟩, ⟨some 24, none, .mv (.t 23)⟩, ⟨some 25, some (24, false), .mv (.t 1)⟩, ⟨some 26, some (24, false), .call 61 [.t 25, .c (.fn (.func 62) [] [])]⟩, ⟨some 27, none, .pick (.t 24) (.c (.bool true)) (.t 26)⟩]) (.cond (.t 27) (.seq (.reg [⟨some 4, none, .mv (.c (.bool false))⟩, ⟨some 5, none, .mv (.c (.int .i64 2))⟩]) .ret) .skip)) (.seq (.reg [⟨some 28, none, .mv (.t 6)⟩, ⟨some 29, none, .mv (.t 1)⟩, ⟨some 30, none, .inv [(185, 235), (187, 237), (189, 238)] (.t 28) [.t 29]⟩, ⟨some 4, none, .mv (.t 30)⟩, ⟨some 5, none, .mv (.c (.int .i64 0))⟩]) .ret))))
theorem fn_speak_Holds : FnIs Tryz.prog 21 31 c_speak_Holds [.tmp 4, .tmp 5] := ⟨_, _, Tryz.func21, by kernel_rfl, rfl, by kernel_rfl, rfl, by kernel_rfl⟩
def c_ref09_Language : SCode := cval (show codeOf {Tryz.prog with funcs := #[], inits := #[]} Tryz.f24 = _ by conv => lhs; cbv)
theorem fn_ref09_Language : FnIs Tryz.prog 24 5 c_ref09_Language [.tmp 2] := ⟨_, _, Tryz.func24, by kernel_rfl, rfl, by kernel_rfl, rfl, by kernel_rfl⟩
def c_ref09_Read : SCode := cval (show codeOf {Tryz.prog with funcs := #[], inits := #[]} Tryz.f28 = _ by conv => lhs; cbv)
theorem fn_ref09_Read : FnIs Tryz.prog 28 62 c_ref09_Read [.tmp 4, .tmp 5] := ⟨_, _, Tryz.func28, by kernel_rfl, rfl, by kernel_rfl, rfl, by kernel_rfl⟩
def c_speak_Translate : SCode := cval (show codeOf {Tryz.prog with funcs := #[], inits := #[]} Tryz.f29 = _ by conv => lhs; cbv)
theorem fn_speak_Translate : FnIs Tryz.prog 29 35 c_speak_Translate [.tmp 6, .tmp 7] := ⟨_, _, Tryz.func29, by kernel_rfl, rfl, by kernel_rfl, rfl, by kernel_rfl⟩
def c_speak_Find : SCode := cval (show codeOf {Tryz.prog with funcs := #[], inits := #[]} Tryz.f31 = _ by conv => lhs; cbv)
theorem fn_speak_Find : FnIs Tryz.prog 31 95 c_speak_Find [.tmp 6, .tmp 7] := ⟨_, _, Tryz.func31, by kernel_rfl, rfl, by kernel_rfl, rfl, by kernel_rfl⟩
def c_ref09_River : SCode := cval (show codeOf {Tryz.prog with funcs := #[], inits := #[]} Tryz.f32 = _ by conv => lhs; cbv)
theorem fn_ref09_River : FnIs Tryz.prog 32 17 c_ref09_River [.tmp 2] := ⟨_, _, Tryz.func32, by kernel_rfl, rfl, by kernel_rfl, rfl, by kernel_rfl⟩
def c_ref09_Find : SCode := cval (show codeOf {Tryz.prog with funcs := #[], inits := #[]} Tryz.f34 = _ by conv => lhs; cbv)
theorem fn_ref09_Find : FnIs Tryz.prog 34 81 c_ref09_Find [.tmp 6] := ⟨_, _, Tryz.func34, by kernel_rfl, rfl, by kernel_rfl, rfl, by kernel_rfl⟩
abbrev F.speak_Check : Nat := 38
def c_speak_Check : SCode := cval (show codeOf {Tryz.prog with funcs := #[], inits := #[]} Tryz.f38 = _ by conv => lhs; cbv)
theorem fn_speak_Check : FnIs Tryz.prog 38 13 c_speak_Check [.tmp 2] := ⟨_, _, Tryz.func38, by kernel_rfl, rfl, by kernel_rfl, rfl, by kernel_rfl⟩
def c_ref09_Vote : SCode := cval (show codeOf {Tryz.prog with funcs := #[], inits := #[]} Tryz.f42 = _ by conv => lhs; cbv)
theorem fn_ref09_Vote : FnIs Tryz.prog 42 9 c_ref09_Vote [.tmp 2] := ⟨_, _, Tryz.func42, by kernel_rfl, rfl, by kernel_rfl, rfl, by kernel_rfl⟩
def c_ref09_Council : SCode := cval (show codeOf {Tryz.prog with funcs := #[], inits := #[]} Tryz.f44 = _ by conv => lhs; cbv)
theorem fn_ref09_Council : FnIs Tryz.prog 44 37 c_ref09_Council [.tmp 2] := ⟨_, _, Tryz.func44, by kernel_rfl, rfl, by kernel_rfl, rfl, by kernel_rfl⟩
def c_ref09_Clauses : SCode := cval (show codeOf {Tryz.prog with funcs := #[], inits := #[]} Tryz.f46 = _ by conv => lhs; cbv)
theorem fn_ref09_Clauses : FnIs Tryz.prog 46 67 c_ref09_Clauses [.tmp 4] := ⟨_, _, Tryz.func46, by kernel_rfl, rfl, by kernel_rfl, rfl, by kernel_rfl⟩
def c_law09_C : SCode := cval (show codeOf {Tryz.prog with funcs := #[], inits := #[]} Tryz.f49 = _ by conv => lhs; cbv)
theorem fn_law09_C : FnIs Tryz.prog 49 4 c_law09_C [.cell 0 true 6] := ⟨_, _, Tryz.func49, by kernel_rfl, rfl, by kernel_rfl, rfl, by kernel_rfl⟩
def c_slices_Concat_apiSpeakDeed : SCode := cval (show codeOf {Tryz.prog with funcs := #[], inits := #[]} Tryz.f52 = _ by conv => lhs; cbv)
theorem fn_slices_Concat_apiSpeakDeed : FnIs Tryz.prog 52 36 c_slices_Concat_apiSpeakDeed [.tmp 2] := ⟨_, _, Tryz.func52, by kernel_rfl, rfl, by kernel_rfl, rfl, by kernel_rfl⟩
def c_speak_Apart_1 : SCode := .seq (.reg [⟨some 4, none, .mv (.c (.bool false))⟩]) (.seq (.dreg [⟨some 5, none, .load false 1 (.t 1)⟩, ⟨some 6, none, .mv (.t 0)⟩, ⟨some 7, none, .inv [(185, 235), (187, 237), (189, 238)] (.t 5) [.t 6]⟩, ⟨some 8, none, .load false 1 (.t 2)⟩, ⟨some 9, none, .mv (.t 0)⟩, ⟨some 10, none, .inv [(185, 235), (187, 237), (189, 238)] (.t 8) [.t 9]⟩, ⟨some 11, none, .eqb true (.t 7) (.t 10)⟩, ⟨some 4, none, .mv (.t 11)⟩] [[], [], [0, 1], [], [], [3, 4, 2], [2, 5], [6, 5, 0, 1, 2, 3, 4, 5, 6]]) .ret)
theorem fn_speak_Apart_1 : FnIs Tryz.prog 58 12 c_speak_Apart_1 [.tmp 4] := ⟨_, _, Tryz.func58, by kernel_rfl, rfl, by kernel_rfl, rfl, by kernel_rfl⟩
abbrev F.speak_Holds_1 : Nat := 62
def c_speak_Holds_1 : SCode := cval (show codeOf {Tryz.prog with funcs := #[], inits := #[]} Tryz.f62 = _ by conv => lhs; cbv)
theorem fn_speak_Holds_1 : FnIs Tryz.prog 62 6 c_speak_Holds_1 [.tmp 2] := ⟨_, _, Tryz.func62, by kernel_rfl, rfl, by kernel_rfl, rfl, by kernel_rfl⟩
abbrev F.ref09_in : Nat := 66
def c_ref09_in : SCode := cval (show codeOf {Tryz.prog with funcs := #[], inits := #[]} Tryz.f66 = _ by conv => lhs; cbv)
theorem fn_ref09_in : FnIs Tryz.prog 66 15 c_ref09_in [.tmp 6] := ⟨_, _, Tryz.func66, by kernel_rfl, rfl, by kernel_rfl, rfl, by kernel_rfl⟩
def c_speak_all : SCode := cval (show codeOf {Tryz.prog with funcs := #[], inits := #[]} Tryz.f69 = _ by conv => lhs; cbv)
theorem fn_speak_all : FnIs Tryz.prog 69 4 c_speak_all [.tmp 2] := ⟨_, _, Tryz.func69, by kernel_rfl, rfl, by kernel_rfl, rfl, by kernel_rfl⟩
abbrev F.ref09_End : Nat := 78
def c_ref09_End : SCode := cval (show codeOf {Tryz.prog with funcs := #[], inits := #[]} Tryz.f78 = _ by conv => lhs; cbv)
theorem fn_ref09_End : FnIs Tryz.prog 78 60 c_ref09_End [.tmp 4] := ⟨_, _, Tryz.func78, by kernel_rfl, rfl, by kernel_rfl, rfl, by kernel_rfl⟩
def c_slices_ContainsFunc_apiSpeakSpot : SCode := cval (show codeOf {Tryz.prog with funcs := #[], inits := #[]} Tryz.f80 = _ by conv => lhs; cbv)
theorem fn_slices_ContainsFunc_apiSpeakSpot : FnIs Tryz.prog 80 9 c_slices_ContainsFunc_apiSpeakSpot [.tmp 4] := ⟨_, _, Tryz.func80, by kernel_rfl, rfl, by kernel_rfl, rfl, by kernel_rfl⟩
abbrev F.ref09_holds : Nat := 88
def c_ref09_holds : SCode := cval (show codeOf {Tryz.prog with funcs := #[], inits := #[]} Tryz.f88 = _ by conv => lhs; cbv)
theorem fn_ref09_holds : FnIs Tryz.prog 88 89 c_ref09_holds [.tmp 6] := ⟨_, _, Tryz.func88, by kernel_rfl, rfl, by kernel_rfl, rfl, by kernel_rfl⟩
def c_speak_choices_1 : SCode := cval (show codeOf {Tryz.prog with funcs := #[], inits := #[]} Tryz.f102 = _ by conv => lhs; cbv)
theorem fn_speak_choices_1 : FnIs Tryz.prog 102 7 c_speak_choices_1 [] := ⟨_, _, Tryz.func102, by kernel_rfl, rfl, by kernel_rfl, rfl, by kernel_rfl⟩
def c_ref09_place : SCode := cval (show codeOf {Tryz.prog with funcs := #[], inits := #[]} Tryz.f111 = _ by conv => lhs; cbv)
theorem fn_ref09_place : FnIs Tryz.prog 111 19 c_ref09_place [.tmp 4] := ⟨_, _, Tryz.func111, by kernel_rfl, rfl, by kernel_rfl, rfl, by kernel_rfl⟩
def c_slices_IndexFunc_apiSpeakStep : SCode := cval (show codeOf {Tryz.prog with funcs := #[], inits := #[]} Tryz.f115 = _ by conv => lhs; cbv)
theorem fn_slices_IndexFunc_apiSpeakStep : FnIs Tryz.prog 115 19 c_slices_IndexFunc_apiSpeakStep [.tmp 4] := ⟨_, _, Tryz.func115, by kernel_rfl, rfl, by kernel_rfl, rfl, by kernel_rfl⟩
def c_slices_ContainsFunc_int : SCode := cval (show codeOf {Tryz.prog with funcs := #[], inits := #[]} Tryz.f120 = _ by conv => lhs; cbv)
theorem fn_slices_ContainsFunc_int : FnIs Tryz.prog 120 9 c_slices_ContainsFunc_int [.tmp 4] := ⟨_, _, Tryz.func120, by kernel_rfl, rfl, by kernel_rfl, rfl, by kernel_rfl⟩
def c_slices_partialInsertionSortCmpFunc_apiSpeakDeed : SCode := cval (show codeOf {Tryz.prog with funcs := #[], inits := #[]} Tryz.f129 = _ by conv => lhs; cbv)
theorem fn_slices_partialInsertionSortCmpFunc_apiSpeakDeed : FnIs Tryz.prog 129 141 c_slices_partialInsertionSortCmpFunc_apiSpeakDeed [.tmp 8] := ⟨_, _, Tryz.func129, by kernel_rfl, rfl, by kernel_rfl, rfl, by kernel_rfl⟩
def c_math_bits_Len64 : SCode := cval (show codeOf {Tryz.prog with funcs := #[], inits := #[]} Tryz.f133 = _ by conv => lhs; cbv)
theorem fn_math_bits_Len64 : FnIs Tryz.prog 133 25 c_math_bits_Len64 [.tmp 2] := ⟨_, _, Tryz.func133, by kernel_rfl, rfl, by kernel_rfl, rfl, by kernel_rfl⟩
def c_cmp_isNaN_int : SCode := cval (show codeOf {Tryz.prog with funcs := #[], inits := #[]} Tryz.f134 = _ by conv => lhs; cbv)
theorem fn_cmp_isNaN_int : FnIs Tryz.prog 134 6 c_cmp_isNaN_int [.tmp 2] := ⟨_, _, Tryz.func134, by kernel_rfl, rfl, by kernel_rfl, rfl, by kernel_rfl⟩
def c_ref09_Decimal : SCode := cval (show codeOf {Tryz.prog with funcs := #[], inits := #[]} Tryz.f138 = _ by conv => lhs; cbv)
theorem fn_ref09_Decimal : FnIs Tryz.prog 138 23 c_ref09_Decimal [.tmp 2] := ⟨_, _, Tryz.func138, by kernel_rfl, rfl, by kernel_rfl, rfl, by kernel_rfl⟩
def c_slices_choosePivotOrdered_int : SCode := cval (show codeOf {Tryz.prog with funcs := #[], inits := #[]} Tryz.f144 = _ by conv => lhs; cbv)
theorem fn_slices_choosePivotOrdered_int : FnIs Tryz.prog 144 57 c_slices_choosePivotOrdered_int [.tmp 6, .tmp 7] := ⟨_, _, Tryz.func144, by kernel_rfl, rfl, by kernel_rfl, rfl, by kernel_rfl⟩
def c_cmp_Less_int : SCode := cval (show codeOf {Tryz.prog with funcs := #[], inits := #[]} Tryz.f147 = _ by conv => lhs; cbv)
theorem fn_cmp_Less_int : FnIs Tryz.prog 147 17 c_cmp_Less_int [.tmp 4] := ⟨_, _, Tryz.func147, by kernel_rfl, rfl, by kernel_rfl, rfl, by kernel_rfl⟩
def c_slices_partitionOrdered_int : SCode := cval (show codeOf {Tryz.prog with funcs := #[], inits := #[]} Tryz.f149 = _ by conv => lhs; cbv)
theorem fn_slices_partitionOrdered_int : FnIs Tryz.prog 149 168 c_slices_partitionOrdered_int [.tmp 8, .tmp 9] := ⟨_, _, Tryz.func149, by kernel_rfl, rfl, by kernel_rfl, rfl, by kernel_rfl⟩
def c_slices_medianCmpFunc_apiSpeakDeed : SCode := cval (show codeOf {Tryz.prog with funcs := #[], inits := #[]} Tryz.f156 = _ by conv => lhs; cbv)
theorem fn_slices_medianCmpFunc_apiSpeakDeed : FnIs Tryz.prog 156 41 c_slices_medianCmpFunc_apiSpeakDeed [.tmp 12] := ⟨_, _, Tryz.func156, by kernel_rfl, rfl, by kernel_rfl, rfl, by kernel_rfl⟩
def c_slices_order2Ordered_int : SCode := cval (show codeOf {Tryz.prog with funcs := #[], inits := #[]} Tryz.f168 = _ by conv => lhs; cbv)
theorem fn_slices_order2Ordered_int : FnIs Tryz.prog 168 28 c_slices_order2Ordered_int [.tmp 8, .tmp 9] := ⟨_, _, Tryz.func168, by kernel_rfl, rfl, by kernel_rfl, rfl, by kernel_rfl⟩
def c_speak_infix_write_1 : SCode := cval (show codeOf {Tryz.prog with funcs := #[], inits := #[]} Tryz.f196 = _ by conv => lhs; cbv)
theorem fn_speak_infix_write_1 : FnIs Tryz.prog 196 78 c_speak_infix_write_1 [.tmp 6] := ⟨_, _, Tryz.func196, by kernel_rfl, rfl, by kernel_rfl, rfl, by kernel_rfl⟩
def c_speak_infix_write_2 : SCode := cval (show codeOf {Tryz.prog with funcs := #[], inits := #[]} Tryz.f204 = _ by conv => lhs; cbv)
theorem fn_speak_infix_write_2 : FnIs Tryz.prog 204 3 c_speak_infix_write_2 [.tmp 2] := ⟨_, _, Tryz.func204, by kernel_rfl, rfl, by kernel_rfl, rfl, by kernel_rfl⟩
abbrev F.strings_Join : Nat := 206
def c_strings_Join : SCode := cval (show codeOf {Tryz.prog with funcs := #[], inits := #[]} Tryz.f206 = _ by conv => lhs; cbv)
theorem fn_strings_Join : FnIs Tryz.prog 206 75 c_strings_Join [.tmp 4] := ⟨_, _, Tryz.func206, by kernel_rfl, rfl, by kernel_rfl, rfl, by kernel_rfl⟩
def c_speak_known : SCode := cval (show codeOf {Tryz.prog with funcs := #[], inits := #[]} Tryz.f208 = _ by conv => lhs; cbv)
theorem fn_speak_known : FnIs Tryz.prog 208 18 c_speak_known [.tmp 4] := ⟨_, _, Tryz.func208, by kernel_rfl, rfl, by kernel_rfl, rfl, by kernel_rfl⟩
def c_speak_numbered : SCode := cval (show codeOf {Tryz.prog with funcs := #[], inits := #[]} Tryz.f215 = _ by conv => lhs; cbv)
theorem fn_speak_numbered : FnIs Tryz.prog 215 18 c_speak_numbered [.tmp 2] := ⟨_, _, Tryz.func215, by kernel_rfl, rfl, by kernel_rfl, rfl, by kernel_rfl⟩
def c_speak_prefix_read : SCode := cval (show codeOf {Tryz.prog with funcs := #[], inits := #[]} Tryz.f230 = _ by conv => lhs; cbv)
theorem fn_speak_prefix_read : FnIs Tryz.prog 230 52 c_speak_prefix_read [.tmp 4] := ⟨_, _, Tryz.func230, by kernel_rfl, rfl, by kernel_rfl, rfl, by kernel_rfl⟩
def c_speak_postfix_write : SCode := cval (show codeOf {Tryz.prog with funcs := #[], inits := #[]} Tryz.f233 = _ by conv => lhs; cbv)
theorem fn_speak_postfix_write : FnIs Tryz.prog 233 59 c_speak_postfix_write [.tmp 4] := ⟨_, _, Tryz.func233, by kernel_rfl, rfl, by kernel_rfl, rfl, by kernel_rfl⟩
def c_speak_postfix_read_1 : SCode := cval (show codeOf {Tryz.prog with funcs := #[], inits := #[]} Tryz.f234 = _ by conv => lhs; cbv)
theorem fn_speak_postfix_read_1 : FnIs Tryz.prog 234 19 c_speak_postfix_read_1 [.tmp 1] := ⟨_, _, Tryz.func234, by kernel_rfl, rfl, by kernel_rfl, rfl, by kernel_rfl⟩
abbrev F.speak_clause_holds_1 : Nat := 236
def c_speak_clause_holds_1 : SCode := cval (show codeOf {Tryz.prog with funcs := #[], inits := #[]} Tryz.f236 = _ by conv => lhs; cbv)
theorem fn_speak_clause_holds_1 : FnIs Tryz.prog 236 26 c_speak_clause_holds_1 [.tmp 3] := ⟨_, _, Tryz.func236, by kernel_rfl, rfl, by kernel_rfl, rfl, by kernel_rfl⟩
abbrev F.speak_couple_holds : Nat := 238
def c_speak_couple_holds : SCode := .seq (.reg [⟨some 2, none, .box 189 (.t 0)⟩, ⟨some 4, none, .mv (.c (.bool false))⟩]) (.seq (.dreg [⟨some 7, none, .fa 1 (.t 2)⟩, ⟨some 8, none, .load false 1 (.t 7)⟩, ⟨some 9, none, .mv (.t 1)⟩, ⟨some 10, none, .inv [(185, 235), (187, 237), (189, 238)] (.t 8) [.t 9]⟩, ⟨some 11, none, .fa 2 (.t 2)⟩, ⟨some 12, none, .load false 1 (.t 11)⟩, ⟨some 13, none, .mv (.t 1)⟩, ⟨some 14, none, .inv [(185, 235), (187, 237), (189, 238)] (.t 12) [.t 13]⟩, ⟨some 5, none, .mv (.t 10)⟩, ⟨some 6, none, .mv (.t 14)⟩] [[], [0], [], [1, 2], [], [4], [], [5, 6, 3], [3, 7, 0, 1, 2, 3], [7, 8, 0, 1, 2, 3, 4, 5, 6, 7, 8]]) (.seq (.seq (.reg [⟨some 15, none, .fa 0 (.t 2)⟩, ⟨some 16, none, .load false 1 (.t 15)⟩, ⟨some 17, none, .bin .eql (.t 16) (.c (.int .i64 3))⟩]) (.cond (.t 17) (.seq (.reg [⟨some 18, none, .mv (.t 5)⟩, ⟨some 19, none, .mv (.t 18)⟩, ⟨some 20, some (19, true), .mv (.t 6)⟩, ⟨some 21, none, .pick (.t 19) (.t 20) (.c (.bool false))⟩, ⟨some 4, none, .mv (.t 21)⟩]) .ret) .skip)) (.seq (.reg [⟨some 22, none, .mv (.t 5)⟩, ⟨some 23, none, .mv (.t 22)⟩, ⟨some 24, some (23, false), .mv (.t 6)⟩, ⟨some 25, none, .pick (.t 23) (.c (.bool true)) (.t 24)⟩, ⟨some 4, none, .mv (.t 25)⟩]) .ret)))
theorem fn_speak_couple_holds : FnIs Tryz.prog 238 26 c_speak_couple_holds [.tmp 4] := ⟨_, _, Tryz.func238, by kernel_rfl, rfl, by kernel_rfl, rfl, by kernel_rfl⟩
end Go.Proofs.YtcllnnjeaidppaaGreatDoor
