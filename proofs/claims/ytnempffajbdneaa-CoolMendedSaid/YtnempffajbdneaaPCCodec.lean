/- The program's functions as the layer above reads them: reckoned off the loaded program; each is held against it by the kernel. -/
import Derived.Test.YtnempffajbdneaaChecked
import Derived.Test.YtnempffajbdneaaPMn
set_option maxRecDepth 100000
set_option maxHeartbeats 4000000
namespace Go.Proofs.Ytnempffajbdneaa
open Go Go.Av
def c_ref03_Best : SCode := cval (show codeOf {Try.prog with funcs := #[], inits := #[]} Try.f19 = _ by conv => lhs; cbv)
theorem fn_ref03_Best : FnIs Try.prog 19 57 c_ref03_Best [.tmp 4, .tmp 5] := ⟨_, _, Try.func19, by kernel_rfl, rfl, by kernel_rfl, rfl, by kernel_rfl⟩
def c_ref03_Cost : SCode := cval (show codeOf {Try.prog with funcs := #[], inits := #[]} Try.f22 = _ by conv => lhs; cbv)
theorem fn_ref03_Cost : FnIs Try.prog 22 25 c_ref03_Cost [.tmp 4] := ⟨_, _, Try.func22, by kernel_rfl, rfl, by kernel_rfl, rfl, by kernel_rfl⟩
abbrev F.cool_Repair : Nat := 30
def c_cool_Repair : SCode := cval (show codeOf {Try.prog with funcs := #[], inits := #[]} Try.f30 = _ by conv => lhs; cbv)
theorem fn_cool_Repair : FnIs Try.prog 30 42 c_cool_Repair [.tmp 6, .tmp 7] := ⟨_, _, Try.func30, by kernel_rfl, rfl, by kernel_rfl, rfl, by kernel_rfl⟩
def c_ref03_Repair : SCode := cval (show codeOf {Try.prog with funcs := #[], inits := #[]} Try.f31 = _ by conv => lhs; cbv)
theorem fn_ref03_Repair : FnIs Try.prog 31 14 c_ref03_Repair [.tmp 6, .tmp 7] := ⟨_, _, Try.func31, by kernel_rfl, rfl, by kernel_rfl, rfl, by kernel_rfl⟩
abbrev F.ref03_Has : Nat := 34
def c_ref03_Has : SCode := cval (show codeOf {Try.prog with funcs := #[], inits := #[]} Try.f34 = _ by conv => lhs; cbv)
theorem fn_ref03_Has : FnIs Try.prog 34 18 c_ref03_Has [.tmp 4] := ⟨_, _, Try.func34, by kernel_rfl, rfl, by kernel_rfl, rfl, by kernel_rfl⟩
abbrev F.ref03_Order : Nat := 35
def c_ref03_Order : SCode := cval (show codeOf {Try.prog with funcs := #[], inits := #[]} Try.f35 = _ by conv => lhs; cbv)
theorem fn_ref03_Order : FnIs Try.prog 35 29 c_ref03_Order [.tmp 4] := ⟨_, _, Try.func35, by kernel_rfl, rfl, by kernel_rfl, rfl, by kernel_rfl⟩
def c_law03_span : SCode := cval (show codeOf {Try.prog with funcs := #[], inits := #[]} Try.f37 = _ by conv => lhs; cbv)
theorem fn_law03_span : FnIs Try.prog 37 8 c_law03_span [.cell 4 true 2] := ⟨_, _, Try.func37, by kernel_rfl, rfl, by kernel_rfl, rfl, by kernel_rfl⟩
abbrev F.cool_Bears : Nat := 40
def c_cool_Bears : SCode := cval (show codeOf {Try.prog with funcs := #[], inits := #[]} Try.f40 = _ by conv => lhs; cbv)
theorem fn_cool_Bears : FnIs Try.prog 40 33 c_cool_Bears [.tmp 4, .tmp 5] := ⟨_, _, Try.func40, by kernel_rfl, rfl, by kernel_rfl, rfl, by kernel_rfl⟩
def c_ref03_Break : SCode := cval (show codeOf {Try.prog with funcs := #[], inits := #[]} Try.f42 = _ by conv => lhs; cbv)
theorem fn_ref03_Break : FnIs Try.prog 42 29 c_ref03_Break [.tmp 6, .tmp 7] := ⟨_, _, Try.func42, by kernel_rfl, rfl, by kernel_rfl, rfl, by kernel_rfl⟩
abbrev F.cool_set_list : Nat := 51
def c_cool_set_list : SCode := cval (show codeOf {Try.prog with funcs := #[], inits := #[]} Try.f51 = _ by conv => lhs; cbv)
theorem fn_cool_set_list : FnIs Try.prog 51 17 c_cool_set_list [.tmp 2] := ⟨_, _, Try.func51, by kernel_rfl, rfl, by kernel_rfl, rfl, by kernel_rfl⟩
abbrev F.cool_bought_again : Nat := 64
def c_cool_bought_again : SCode := cval (show codeOf {Try.prog with funcs := #[], inits := #[]} Try.f64 = _ by conv => lhs; cbv)
theorem fn_cool_bought_again : FnIs Try.prog 64 73 c_cool_bought_again [.tmp 4] := ⟨_, _, Try.func64, by kernel_rfl, rfl, by kernel_rfl, rfl, by kernel_rfl⟩
def c_ref03_Level : SCode := cval (show codeOf {Try.prog with funcs := #[], inits := #[]} Try.f65 = _ by conv => lhs; cbv)
theorem fn_ref03_Level : FnIs Try.prog 65 16 c_ref03_Level [.tmp 6] := ⟨_, _, Try.func65, by kernel_rfl, rfl, by kernel_rfl, rfl, by kernel_rfl⟩
abbrev F.slices_IsSorted_int : Nat := 66
def c_slices_IsSorted_int : SCode := cval (show codeOf {Try.prog with funcs := #[], inits := #[]} Try.f66 = _ by conv => lhs; cbv)
theorem fn_slices_IsSorted_int : FnIs Try.prog 66 21 c_slices_IsSorted_int [.tmp 2] := ⟨_, _, Try.func66, by kernel_rfl, rfl, by kernel_rfl, rfl, by kernel_rfl⟩
abbrev F.cool_Repair_1 : Nat := 67
def c_cool_Repair_1 : SCode := cval (show codeOf {Try.prog with funcs := #[], inits := #[]} Try.f67 = _ by conv => lhs; cbv)
theorem fn_cool_Repair_1 : FnIs Try.prog 67 36 c_cool_Repair_1 [.tmp 4] := ⟨_, _, Try.func67, by kernel_rfl, rfl, by kernel_rfl, rfl, by kernel_rfl⟩
abbrev F.cool_bought_good : Nat := 68
def c_cool_bought_good : SCode := cval (show codeOf {Try.prog with funcs := #[], inits := #[]} Try.f68 = _ by conv => lhs; cbv)
theorem fn_cool_bought_good : FnIs Try.prog 68 29 c_cool_bought_good [.tmp 4] := ⟨_, _, Try.func68, by kernel_rfl, rfl, by kernel_rfl, rfl, by kernel_rfl⟩
def c_cool_set_sets : SCode := cval (show codeOf {Try.prog with funcs := #[], inits := #[]} Try.f71 = _ by conv => lhs; cbv)
theorem fn_cool_set_sets : FnIs Try.prog 71 9 c_cool_set_sets [.tmp 4] := ⟨_, _, Try.func71, by kernel_rfl, rfl, by kernel_rfl, rfl, by kernel_rfl⟩
abbrev F.cool_bits : Nat := 73
def c_cool_bits : SCode := cval (show codeOf {Try.prog with funcs := #[], inits := #[]} Try.f73 = _ by conv => lhs; cbv)
theorem fn_cool_bits : FnIs Try.prog 73 42 c_cool_bits [.tmp 4, .tmp 5] := ⟨_, _, Try.func73, by kernel_rfl, rfl, by kernel_rfl, rfl, by kernel_rfl⟩
abbrev F.cool_in : Nat := 74
def c_cool_in : SCode := cval (show codeOf {Try.prog with funcs := #[], inits := #[]} Try.f74 = _ by conv => lhs; cbv)
theorem fn_cool_in : FnIs Try.prog 74 15 c_cool_in [.tmp 6] := ⟨_, _, Try.func74, by kernel_rfl, rfl, by kernel_rfl, rfl, by kernel_rfl⟩
def c_cool_bought_broken_1 : SCode := cval (show codeOfG {Try.prog with funcs := #[], inits := #[]} Try.f86 = _ by conv => lhs; cbv)
theorem fn_cool_bought_broken_1 : GnIs Try.prog 86 13 5 c_cool_bought_broken_1 := ⟨_, _, _, _, _, Try.func86, by kernel_rfl, rfl, rfl, rfl, rfl, rfl, by decide, rfl, by kernel_rfl, rfl, rfl⟩
def c_slices_IndexFunc_apiSpan : SCode := cval (show codeOf {Try.prog with funcs := #[], inits := #[]} Try.f98 = _ by conv => lhs; cbv)
theorem fn_slices_IndexFunc_apiSpan : FnIs Try.prog 98 19 c_slices_IndexFunc_apiSpan [.tmp 4] := ⟨_, _, Try.func98, by kernel_rfl, rfl, by kernel_rfl, rfl, by kernel_rfl⟩
def c_slices_Compare_int : SCode := cval (show codeOf {Try.prog with funcs := #[], inits := #[]} Try.f100 = _ by conv => lhs; cbv)
theorem fn_slices_Compare_int : FnIs Try.prog 100 36 c_slices_Compare_int [.tmp 4] := ⟨_, _, Try.func100, by kernel_rfl, rfl, by kernel_rfl, rfl, by kernel_rfl⟩
abbrev F.slices_pdqsortCmpFunc_int : Nat := 104
def c_slices_pdqsortCmpFunc_int : SCode := cval (show codeOf {Try.prog with funcs := #[], inits := #[]} Try.f104 = _ by conv => lhs; cbv)
theorem fn_slices_pdqsortCmpFunc_int : FnIs Try.prog 104 148 c_slices_pdqsortCmpFunc_int [] := ⟨_, _, Try.func104, by kernel_rfl, rfl, by kernel_rfl, rfl, by kernel_rfl⟩
abbrev F.math_bits_Len : Nat := 105
def c_math_bits_Len : SCode := cval (show codeOf {Try.prog with funcs := #[], inits := #[]} Try.f105 = _ by conv => lhs; cbv)
theorem fn_math_bits_Len : FnIs Try.prog 105 8 c_math_bits_Len [.tmp 2] := ⟨_, _, Try.func105, by kernel_rfl, rfl, by kernel_rfl, rfl, by kernel_rfl⟩
abbrev F.slices_insertionSortCmpFunc_int : Nat := 106
def c_slices_insertionSortCmpFunc_int : SCode := cval (show codeOf {Try.prog with funcs := #[], inits := #[]} Try.f106 = _ by conv => lhs; cbv)
theorem fn_slices_insertionSortCmpFunc_int : FnIs Try.prog 106 53 c_slices_insertionSortCmpFunc_int [] := ⟨_, _, Try.func106, by kernel_rfl, rfl, by kernel_rfl, rfl, by kernel_rfl⟩
def c_slices_heapSortCmpFunc_int : SCode := cval (show codeOf {Try.prog with funcs := #[], inits := #[]} Try.f107 = _ by conv => lhs; cbv)
theorem fn_slices_heapSortCmpFunc_int : FnIs Try.prog 107 60 c_slices_heapSortCmpFunc_int [] := ⟨_, _, Try.func107, by kernel_rfl, rfl, by kernel_rfl, rfl, by kernel_rfl⟩
def c_slices_partialInsertionSortCmpFunc_int : SCode := cval (show codeOf {Try.prog with funcs := #[], inits := #[]} Try.f111 = _ by conv => lhs; cbv)
theorem fn_slices_partialInsertionSortCmpFunc_int : FnIs Try.prog 111 141 c_slices_partialInsertionSortCmpFunc_int [.tmp 8] := ⟨_, _, Try.func111, by kernel_rfl, rfl, by kernel_rfl, rfl, by kernel_rfl⟩
def c_slices_partitionEqualCmpFunc_int : SCode := cval (show codeOf {Try.prog with funcs := #[], inits := #[]} Try.f112 = _ by conv => lhs; cbv)
theorem fn_slices_partitionEqualCmpFunc_int : FnIs Try.prog 112 90 c_slices_partitionEqualCmpFunc_int [.tmp 10] := ⟨_, _, Try.func112, by kernel_rfl, rfl, by kernel_rfl, rfl, by kernel_rfl⟩
def c_slices_partitionCmpFunc_int : SCode := cval (show codeOf {Try.prog with funcs := #[], inits := #[]} Try.f113 = _ by conv => lhs; cbv)
theorem fn_slices_partitionCmpFunc_int : FnIs Try.prog 113 178 c_slices_partitionCmpFunc_int [.tmp 10, .tmp 11] := ⟨_, _, Try.func113, by kernel_rfl, rfl, by kernel_rfl, rfl, by kernel_rfl⟩
def c_slices_nextPowerOfTwo : SCode := cval (show codeOf {Try.prog with funcs := #[], inits := #[]} Try.f117 = _ by conv => lhs; cbv)
theorem fn_slices_nextPowerOfTwo : FnIs Try.prog 117 7 c_slices_nextPowerOfTwo [.tmp 2] := ⟨_, _, Try.func117, by kernel_rfl, rfl, by kernel_rfl, rfl, by kernel_rfl⟩
end Go.Proofs.Ytnempffajbdneaa
