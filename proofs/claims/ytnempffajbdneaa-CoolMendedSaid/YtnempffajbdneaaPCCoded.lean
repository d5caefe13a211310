/- The program's functions as the layer above reads them: reckoned off the loaded program; each is held against it by the kernel. -/
import Derived.Test.YtnempffajbdneaaChecked
import Derived.Test.YtnempffajbdneaaPMn
set_option maxRecDepth 100000
set_option maxHeartbeats 4000000
namespace Go.Proofs.Ytnempffajbdneaa
open Go Go.Av
def c_law03_CoolRepairs : SCode := cval (show codeOf {Try.prog with funcs := #[], inits := #[]} Try.f6 = _ by conv => lhs; cbv)
theorem fn_law03_CoolRepairs : FnIs Try.prog 6 97 c_law03_CoolRepairs [.tmp 6] := ⟨_, _, Try.func6, by kernel_rfl, rfl, by kernel_rfl, rfl, by kernel_rfl⟩
def c_law03_CoolMore : SCode := cval (show codeOf {Try.prog with funcs := #[], inits := #[]} Try.f8 = _ by conv => lhs; cbv)
theorem fn_law03_CoolMore : FnIs Try.prog 8 206 c_law03_CoolMore [.tmp 12] := ⟨_, _, Try.func8, by kernel_rfl, rfl, by kernel_rfl, rfl, by kernel_rfl⟩
def c_law03_CoolKeeps : SCode := cval (show codeOf {Try.prog with funcs := #[], inits := #[]} Try.f9 = _ by conv => lhs; cbv)
theorem fn_law03_CoolKeeps : FnIs Try.prog 9 204 c_law03_CoolKeeps [.tmp 6] := ⟨_, _, Try.func9, by kernel_rfl, rfl, by kernel_rfl, rfl, by kernel_rfl⟩
def c_law03_CoolTrue : SCode := cval (show codeOf {Try.prog with funcs := #[], inits := #[]} Try.f11 = _ by conv => lhs; cbv)
theorem fn_law03_CoolTrue : FnIs Try.prog 11 133 c_law03_CoolTrue [.tmp 10] := ⟨_, _, Try.func11, by kernel_rfl, rfl, by kernel_rfl, rfl, by kernel_rfl⟩
abbrev F.cool_Best : Nat := 16
def c_cool_Best : SCode := cval (show codeOf {Try.prog with funcs := #[], inits := #[]} Try.f16 = _ by conv => lhs; cbv)
theorem fn_cool_Best : FnIs Try.prog 16 76 c_cool_Best [.tmp 4, .tmp 5, .tmp 6] := ⟨_, _, Try.func16, by kernel_rfl, rfl, by kernel_rfl, rfl, by kernel_rfl⟩
def c_ref03_Floor : SCode := cval (show codeOf {Try.prog with funcs := #[], inits := #[]} Try.f20 = _ by conv => lhs; cbv)
theorem fn_ref03_Floor : FnIs Try.prog 20 60 c_ref03_Floor [.tmp 4] := ⟨_, _, Try.func20, by kernel_rfl, rfl, by kernel_rfl, rfl, by kernel_rfl⟩
abbrev F.ref03_Same : Nat := 21
def c_ref03_Same : SCode := cval (show codeOf {Try.prog with funcs := #[], inits := #[]} Try.f21 = _ by conv => lhs; cbv)
theorem fn_ref03_Same : FnIs Try.prog 21 26 c_ref03_Same [.tmp 4] := ⟨_, _, Try.func21, by kernel_rfl, rfl, by kernel_rfl, rfl, by kernel_rfl⟩
abbrev F.ref03_Coolers : Nat := 25
def c_ref03_Coolers : SCode := cval (show codeOf {Try.prog with funcs := #[], inits := #[]} Try.f25 = _ by conv => lhs; cbv)
theorem fn_ref03_Coolers : FnIs Try.prog 25 38 c_ref03_Coolers [.tmp 4] := ⟨_, _, Try.func25, by kernel_rfl, rfl, by kernel_rfl, rfl, by kernel_rfl⟩
abbrev F.ref03_Before : Nat := 26
def c_ref03_Before : SCode := cval (show codeOf {Try.prog with funcs := #[], inits := #[]} Try.f26 = _ by conv => lhs; cbv)
theorem fn_ref03_Before : FnIs Try.prog 26 36 c_ref03_Before [.tmp 4] := ⟨_, _, Try.func26, by kernel_rfl, rfl, by kernel_rfl, rfl, by kernel_rfl⟩
abbrev F.law03_repaired : Nat := 28
def c_law03_repaired : SCode := cval (show codeOf {Try.prog with funcs := #[], inits := #[]} Try.f28 = _ by conv => lhs; cbv)
theorem fn_law03_repaired : FnIs Try.prog 28 20 c_law03_repaired [.tmp 6] := ⟨_, _, Try.func28, by kernel_rfl, rfl, by kernel_rfl, rfl, by kernel_rfl⟩
def c_ref03_Again : SCode := cval (show codeOf {Try.prog with funcs := #[], inits := #[]} Try.f29 = _ by conv => lhs; cbv)
theorem fn_ref03_Again : FnIs Try.prog 29 57 c_ref03_Again [.tmp 6] := ⟨_, _, Try.func29, by kernel_rfl, rfl, by kernel_rfl, rfl, by kernel_rfl⟩
abbrev F.law03_sized : Nat := 32
def c_law03_sized : SCode := cval (show codeOf {Try.prog with funcs := #[], inits := #[]} Try.f32 = _ by conv => lhs; cbv)
theorem fn_law03_sized : FnIs Try.prog 32 32 c_law03_sized [.tmp 2] := ⟨_, _, Try.func32, by kernel_rfl, rfl, by kernel_rfl, rfl, by kernel_rfl⟩
abbrev F.ref03_Without : Nat := 36
def c_ref03_Without : SCode := cval (show codeOf {Try.prog with funcs := #[], inits := #[]} Try.f36 = _ by conv => lhs; cbv)
theorem fn_ref03_Without : FnIs Try.prog 36 28 c_ref03_Without [.tmp 4] := ⟨_, _, Try.func36, by kernel_rfl, rfl, by kernel_rfl, rfl, by kernel_rfl⟩
def c_ref03_Bears : SCode := cval (show codeOf {Try.prog with funcs := #[], inits := #[]} Try.f41 = _ by conv => lhs; cbv)
theorem fn_ref03_Bears : FnIs Try.prog 41 18 c_ref03_Bears [.tmp 4] := ⟨_, _, Try.func41, by kernel_rfl, rfl, by kernel_rfl, rfl, by kernel_rfl⟩
def c_cool_choice_before : SCode := cval (show codeOf {Try.prog with funcs := #[], inits := #[]} Try.f52 = _ by conv => lhs; cbv)
theorem fn_cool_choice_before : FnIs Try.prog 52 26 c_cool_choice_before [.tmp 4] := ⟨_, _, Try.func52, by kernel_rfl, rfl, by kernel_rfl, rfl, by kernel_rfl⟩
abbrev F.cool_buy : Nat := 53
def c_cool_buy : SCode := cval (show codeOf {Try.prog with funcs := #[], inits := #[]} Try.f53 = _ by conv => lhs; cbv)
theorem fn_cool_buy : FnIs Try.prog 53 10 c_cool_buy [.tmp 4] := ⟨_, _, Try.func53, by kernel_rfl, rfl, by kernel_rfl, rfl, by kernel_rfl⟩
def c_ref03_Breaks : SCode := cval (show codeOf {Try.prog with funcs := #[], inits := #[]} Try.f61 = _ by conv => lhs; cbv)
theorem fn_ref03_Breaks : FnIs Try.prog 61 47 c_ref03_Breaks [.tmp 8, .tmp 9] := ⟨_, _, Try.func61, by kernel_rfl, rfl, by kernel_rfl, rfl, by kernel_rfl⟩
def c_ref03_orders : SCode := cval (show codeOf {Try.prog with funcs := #[], inits := #[]} Try.f70 = _ by conv => lhs; cbv)
theorem fn_ref03_orders : FnIs Try.prog 70 52 c_ref03_orders [.tmp 8, .tmp 9] := ⟨_, _, Try.func70, by kernel_rfl, rfl, by kernel_rfl, rfl, by kernel_rfl⟩
abbrev F.cool_bought_level : Nat := 72
def c_cool_bought_level : SCode := cval (show codeOf {Try.prog with funcs := #[], inits := #[]} Try.f72 = _ by conv => lhs; cbv)
theorem fn_cool_bought_level : FnIs Try.prog 72 52 c_cool_bought_level [.tmp 4] := ⟨_, _, Try.func72, by kernel_rfl, rfl, by kernel_rfl, rfl, by kernel_rfl⟩
def c_slices_ContainsFunc_apiCoolSite : SCode := cval (show codeOf {Try.prog with funcs := #[], inits := #[]} Try.f79 = _ by conv => lhs; cbv)
theorem fn_slices_ContainsFunc_apiCoolSite : FnIs Try.prog 79 9 c_slices_ContainsFunc_apiCoolSite [.tmp 4] := ⟨_, _, Try.func79, by kernel_rfl, rfl, by kernel_rfl, rfl, by kernel_rfl⟩
def c_cool_choice_order : SCode := cval (show codeOf {Try.prog with funcs := #[], inits := #[]} Try.f85 = _ by conv => lhs; cbv)
theorem fn_cool_choice_order : FnIs Try.prog 85 10 c_cool_choice_order [.tmp 4] := ⟨_, _, Try.func85, by kernel_rfl, rfl, by kernel_rfl, rfl, by kernel_rfl⟩
def c_cool_bought_must : SCode := cval (show codeOf {Try.prog with funcs := #[], inits := #[]} Try.f87 = _ by conv => lhs; cbv)
theorem fn_cool_bought_must : FnIs Try.prog 87 19 c_cool_bought_must [] := ⟨_, _, Try.func87, by kernel_rfl, rfl, by kernel_rfl, rfl, by kernel_rfl⟩
abbrev F.cool_bought_again_1 : Nat := 90
def c_cool_bought_again_1 : SCode := cval (show codeOf {Try.prog with funcs := #[], inits := #[]} Try.f90 = _ by conv => lhs; cbv)
theorem fn_cool_bought_again_1 : FnIs Try.prog 90 27 c_cool_bought_again_1 [] := ⟨_, _, Try.func90, by kernel_rfl, rfl, by kernel_rfl, rfl, by kernel_rfl⟩
abbrev F.cmp_Less_int : Nat := 91
def c_cmp_Less_int : SCode := cval (show codeOf {Try.prog with funcs := #[], inits := #[]} Try.f91 = _ by conv => lhs; cbv)
theorem fn_cmp_Less_int : FnIs Try.prog 91 17 c_cmp_Less_int [.tmp 4] := ⟨_, _, Try.func91, by kernel_rfl, rfl, by kernel_rfl, rfl, by kernel_rfl⟩
def c_slices_IndexFunc_apiCoolHouse : SCode := cval (show codeOf {Try.prog with funcs := #[], inits := #[]} Try.f96 = _ by conv => lhs; cbv)
theorem fn_slices_IndexFunc_apiCoolHouse : FnIs Try.prog 96 19 c_slices_IndexFunc_apiCoolHouse [.tmp 4] := ⟨_, _, Try.func96, by kernel_rfl, rfl, by kernel_rfl, rfl, by kernel_rfl⟩
abbrev F.cmp_Compare_int : Nat := 99
def c_cmp_Compare_int : SCode := cval (show codeOf {Try.prog with funcs := #[], inits := #[]} Try.f99 = _ by conv => lhs; cbv)
theorem fn_cmp_Compare_int : FnIs Try.prog 99 20 c_cmp_Compare_int [.tmp 4] := ⟨_, _, Try.func99, by kernel_rfl, rfl, by kernel_rfl, rfl, by kernel_rfl⟩
abbrev F.slices_SortFunc_int : Nat := 101
def c_slices_SortFunc_int : SCode := cval (show codeOf {Try.prog with funcs := #[], inits := #[]} Try.f101 = _ by conv => lhs; cbv)
theorem fn_slices_SortFunc_int : FnIs Try.prog 101 14 c_slices_SortFunc_int [] := ⟨_, _, Try.func101, by kernel_rfl, rfl, by kernel_rfl, rfl, by kernel_rfl⟩
abbrev F.cool_sorted_int_1 : Nat := 102
def c_cool_sorted_int_1 : SCode := cval (show codeOf {Try.prog with funcs := #[], inits := #[]} Try.f102 = _ by conv => lhs; cbv)
theorem fn_cool_sorted_int_1 : FnIs Try.prog 102 8 c_cool_sorted_int_1 [.tmp 4] := ⟨_, _, Try.func102, by kernel_rfl, rfl, by kernel_rfl, rfl, by kernel_rfl⟩
abbrev F.cmp_isNaN_int : Nat := 103
def c_cmp_isNaN_int : SCode := cval (show codeOf {Try.prog with funcs := #[], inits := #[]} Try.f103 = _ by conv => lhs; cbv)
theorem fn_cmp_isNaN_int : FnIs Try.prog 103 6 c_cmp_isNaN_int [.tmp 2] := ⟨_, _, Try.func103, by kernel_rfl, rfl, by kernel_rfl, rfl, by kernel_rfl⟩
def c_slices_medianAdjacentCmpFunc_int : SCode := cval (show codeOf {Try.prog with funcs := #[], inits := #[]} Try.f119 = _ by conv => lhs; cbv)
theorem fn_slices_medianAdjacentCmpFunc_int : FnIs Try.prog 119 18 c_slices_medianAdjacentCmpFunc_int [.tmp 8] := ⟨_, _, Try.func119, by kernel_rfl, rfl, by kernel_rfl, rfl, by kernel_rfl⟩
end Go.Proofs.Ytnempffajbdneaa
