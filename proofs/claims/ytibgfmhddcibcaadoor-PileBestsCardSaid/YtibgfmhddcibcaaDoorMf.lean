/- The library's contracts at this program: written by the kit's tools (lay-shelf, lay-plain), remarks struck. -/
import Derived.Shelf.Strconv.Itoa0
import Derived.Shelf.Strconv.Itoa1
import Derived.Shelf.LaysM
import Derived.Shelf.Strconv.Itoa2
import Derived.Shelf.Strconv.Itoa3
import Derived.Test.YtibgfmhddcibcaaDoorProg
import Derived.Test.YtibgfmhddcibcaaDoorMe
import Derived.Test.YtibgfmhddcibcaaDoorMc
namespace Go.Proofs
open Go.Shelf
def Tryd.lays129_ren : Go.Shelf.Ren := ⟨fun | 129 => 128 | n => n, fun | 53 => 168 | 3 => 3 | 4 => 4 | 46 => 178 | 5 => 5 | 9 => 9 | n => n, fun | n => n⟩
theorem Tryd.lays129 : Go.Proofs.Lays.n129 Tryd.prog Tryd.lays129_ren := {
  mixed := by kernel_rfl
  f129 := Tryd.func128.trans (congrArg some (by kernel_rfl))
  t3 := Tryd.underlying3
  a3 := Tryd.isAgg3
  z3 := Tryd.sizeOf3
  v3 := Tryd.zeroValue3
  t4 := Tryd.underlying4
  a4 := Tryd.isAgg4
  z4 := Tryd.sizeOf4
  v4 := Tryd.zeroValue4
  t5 := Tryd.underlying5
  a5 := Tryd.isAgg5
  z5 := Tryd.sizeOf5
  v5 := Tryd.zeroValue5
  t9 := Tryd.underlying9
  a9 := Tryd.isAgg9
  z9 := Tryd.sizeOf9
  v9 := Tryd.zeroValue9
  t46 := Tryd.underlying178
  a46 := Tryd.isAgg178
  z46 := Tryd.sizeOf178
  v46 := Tryd.zeroValue178
  t53 := Tryd.underlying168
  a53 := Tryd.isAgg168
  z53 := Tryd.sizeOf168
  v53 := Tryd.zeroValue168 }
theorem Tryd.bits_Len64 (x : Int) (w : World) (h0 : 0 ≤ x) (h1 : x ≤ 18446744073709551615) :
    Calls Tryd.prog 128 #[.int .u64 x] w fun e w' => e = .returned (.int .i64 (Lib.bitLen x.toNat)) ∧ w' = w := Any.bits_Len64 Tryd.lays129 x w h0 h1
def Tryd.lays317_ren : Go.Shelf.Ren := ⟨fun | 317 => 127 | n => n, fun | 3 => 3 | 46 => 178 | n => n, fun | n => n⟩
theorem Tryd.lays317 : Go.Proofs.Lays.n317 Tryd.prog Tryd.lays317_ren := {
  mixed := by kernel_rfl
  f317 := Tryd.func127.trans (congrArg some (by kernel_rfl))
  t3 := Tryd.underlying3
  a3 := Tryd.isAgg3
  z3 := Tryd.sizeOf3
  v3 := Tryd.zeroValue3
  t46 := Tryd.underlying178
  a46 := Tryd.isAgg178
  z46 := Tryd.sizeOf178
  v46 := Tryd.zeroValue178 }
open Go.Lib in
theorem Tryd.internal_strconv_log10Pow2 (x : Nat) (h : x ≤ 64) (w : World) :
    Calls Tryd.prog 127 #[.int .i64 x] w fun e w' => e = .returned (.int .i64 (Lib.l10 x)) ∧ w' = w := Any.internal_strconv_log10Pow2 Tryd.lays317 x h w
def Tryd.lays318_ren : Go.Shelf.Ren := ⟨fun | 318 => 129 | n => n, fun | 3 => 3 | 4 => 4 | n => n, fun | n => n⟩
theorem Tryd.lays318 : Go.Proofs.Lays.n318 Tryd.prog Tryd.lays318_ren := {
  mixed := by kernel_rfl
  f318 := Tryd.func129.trans (congrArg some (by kernel_rfl))
  t3 := Tryd.underlying3
  a3 := Tryd.isAgg3
  z3 := Tryd.sizeOf3
  v3 := Tryd.zeroValue3
  t4 := Tryd.underlying4
  a4 := Tryd.isAgg4
  z4 := Tryd.sizeOf4
  v4 := Tryd.zeroValue4 }
open Go.Lib in
theorem Tryd.internal_strconv_bool2_int (b : Bool) (w : World) :
    Calls Tryd.prog 129 #[.bool b] w fun e w' => e = .returned (.int .i64 (if b then 1 else 0)) ∧ w' = w := Any.internal_strconv_bool2_int Tryd.lays318 b w
def Tryd.lays283_ren : Go.Shelf.Ren := ⟨fun | 283 => 123 | n => n, fun | 3 => 3 | 9 => 9 | 4 => 4 | n => n, fun | n => n⟩
theorem Tryd.lays283 : Go.Proofs.Lays.n283 Tryd.prog Tryd.lays283_ren := {
  mixed := by kernel_rfl
  f283 := Tryd.func123.trans (congrArg some (by kernel_rfl))
  t3 := Tryd.underlying3
  a3 := Tryd.isAgg3
  z3 := Tryd.sizeOf3
  v3 := Tryd.zeroValue3
  t4 := Tryd.underlying4
  a4 := Tryd.isAgg4
  z4 := Tryd.sizeOf4
  v4 := Tryd.zeroValue4
  t9 := Tryd.underlying9
  a9 := Tryd.isAgg9
  z9 := Tryd.sizeOf9
  v9 := Tryd.zeroValue9 }
open Go.Lib in
theorem Tryd.internal_strconv_small (i : Nat) (h : i < 100) (w : World) :
    Calls Tryd.prog 123 #[.int .i64 i] w fun e w' => e = .returned (.string ⟨(Lib.decDigits i).toArray⟩) ∧ w' = w := Any.internal_strconv_small Tryd.lays283 i h w
def Tryd.laysM284_ren : Go.Shelf.Ren := ⟨fun | 284 => 124 | 129 => 128 | 317 => 127 | 318 => 129 | n => n, fun | 53 => 168 | 3 => 3 | 212 => 175 | 0 => 0 | 4 => 4 | 46 => 178 | 5 => 5 | 9 => 9 | n => n, fun | 17 => 0 | n => n⟩
theorem Tryd.laysM284 : Go.Proofs.LaysM.n284 Tryd.prog Tryd.laysM284_ren := {
  mixed := by kernel_rfl
  f129 := Tryd.func128.trans (congrArg some (by kernel_rfl))
  f284 := Tryd.func124.trans (congrArg some (by kernel_rfl))
  f317 := Tryd.func127.trans (congrArg some (by kernel_rfl))
  f318 := Tryd.func129.trans (congrArg some (by kernel_rfl))
  t0 := Tryd.underlying0
  a0 := Tryd.isAgg0
  z0 := Tryd.sizeOf0
  v0 := Tryd.zeroValue0
  t3 := Tryd.underlying3
  a3 := Tryd.isAgg3
  z3 := Tryd.sizeOf3
  v3 := Tryd.zeroValue3
  t4 := Tryd.underlying4
  a4 := Tryd.isAgg4
  z4 := Tryd.sizeOf4
  v4 := Tryd.zeroValue4
  t5 := Tryd.underlying5
  a5 := Tryd.isAgg5
  z5 := Tryd.sizeOf5
  v5 := Tryd.zeroValue5
  t9 := Tryd.underlying9
  a9 := Tryd.isAgg9
  z9 := Tryd.sizeOf9
  v9 := Tryd.zeroValue9
  t46 := Tryd.underlying178
  a46 := Tryd.isAgg178
  z46 := Tryd.sizeOf178
  v46 := Tryd.zeroValue178
  t53 := Tryd.underlying168
  a53 := Tryd.isAgg168
  z53 := Tryd.sizeOf168
  v53 := Tryd.zeroValue168
  t212 := Tryd.underlying175
  a212 := Tryd.isAgg175
  z212 := Tryd.sizeOf175
  v212 := Tryd.zeroValue175
  g17 := by kernel_rfl
  i0 := by kernel_rfl
  i3 := by kernel_rfl
  i4 := by kernel_rfl
  i5 := by kernel_rfl
  i9 := by kernel_rfl
  i46 := by kernel_rfl
  i53 := by kernel_rfl
  i212 := by kernel_rfl
  m17 := by kernel_rfl }
open Go.Lib in
theorem Tryd.internal_strconv_numDigits (u : Nat) (h1 : 1 ≤ u) (h2 : u < 18446744073709551616) (w : World) (htab : Lib.TabIs Tryd.prog w "internal/strconv.uint64pow10" .u64 Lib.pow10Tab) :
    Calls Tryd.prog 124 #[.int .u64 u] w fun e w' => e = .returned (.int .i64 (Lib.nDigits u)) ∧ w' = w := Any.internal_strconv_numDigits Tryd.laysM284 u h1 h2 w htab
def Tryd.lays285_ren : Go.Shelf.Ren := ⟨fun | 285 => 125 | n => n, fun | 37 => 171 | 53 => 168 | 3 => 3 | 4 => 4 | 51 => 176 | 9 => 9 | 5 => 5 | 0 => 0 | n => n, fun | n => n⟩
theorem Tryd.lays285 : Go.Proofs.Lays.n285 Tryd.prog Tryd.lays285_ren := {
  mixed := by kernel_rfl
  f285 := Tryd.func125.trans (congrArg some (by kernel_rfl))
  t0 := Tryd.underlying0
  a0 := Tryd.isAgg0
  z0 := Tryd.sizeOf0
  v0 := Tryd.zeroValue0
  t3 := Tryd.underlying3
  a3 := Tryd.isAgg3
  z3 := Tryd.sizeOf3
  v3 := Tryd.zeroValue3
  t4 := Tryd.underlying4
  a4 := Tryd.isAgg4
  z4 := Tryd.sizeOf4
  v4 := Tryd.zeroValue4
  t5 := Tryd.underlying5
  a5 := Tryd.isAgg5
  z5 := Tryd.sizeOf5
  v5 := Tryd.zeroValue5
  t9 := Tryd.underlying9
  a9 := Tryd.isAgg9
  z9 := Tryd.sizeOf9
  v9 := Tryd.zeroValue9
  t37 := Tryd.underlying171
  a37 := Tryd.isAgg171
  z37 := Tryd.sizeOf171
  v37 := Tryd.zeroValue171
  t51 := Tryd.underlying176
  a51 := Tryd.isAgg176
  z51 := Tryd.sizeOf176
  v51 := Tryd.zeroValue176
  t53 := Tryd.underlying168
  a53 := Tryd.isAgg168
  z53 := Tryd.sizeOf168
  v53 := Tryd.zeroValue168 }
open Go.RowKit Go.Sort Go.Lib in
theorem Tryd.internal_strconv_formatBase10 (blk off cap : Nat) (u : Nat) (d : Array UInt8) (w : World) (hH : Holds (fun (b : UInt8) => Value.int .u8 (b.toNat : Int)) w blk off d) (hu : u < 10 ^ d.size) (hu64 : u < 18446744073709551616) (hsz : d.size < 4611686018427387904) :
    Calls Tryd.prog 125 #[.slice (some ⟨blk, off, none⟩) d.size cap, .int .u64 u] w fun e w' =>
      e = .returned (.tuple #[]) ∧ ∃ (n v' : Nat) (dk : Array UInt8), w' = (putRow (fun (b : UInt8) => Value.int .u8 (b.toNat : Int)) w blk off dk).drewN n ∧ FmtInv d.size u 0 v' dk := Any.internal_strconv_formatBase10 Tryd.lays285 blk off cap u d w hH hu hu64 hsz
def Tryd.laysM246_ren : Go.Shelf.Ren := ⟨fun | 246 => 122 | 283 => 123 | 284 => 124 | 285 => 125 | 286 => 126 | 129 => 128 | 317 => 127 | 318 => 129 | 319 => 130 | 320 => 131 | 337 => 132 | 338 => 133 | n => n, fun | 2 => 2 | 3 => 3 | 9 => 9 | 4 => 4 | 171 => 167 | 0 => 0 | 53 => 168 | 37 => 171 | 5 => 5 | 173 => 172 | 212 => 175 | 51 => 176 | 20 => 20 | 213 => 177 | 46 => 178 | 232 => 181 | 233 => 182 | n => n, fun | 17 => 0 | 18 => 1 | 19 => 2 | n => n⟩
theorem Tryd.laysM246 : Go.Proofs.LaysM.n246 Tryd.prog Tryd.laysM246_ren := {
  mixed := by kernel_rfl
  f129 := Tryd.func128.trans (congrArg some (by kernel_rfl))
  f246 := Tryd.func122.trans (congrArg some (by kernel_rfl))
  f283 := Tryd.func123.trans (congrArg some (by kernel_rfl))
  f284 := Tryd.func124.trans (congrArg some (by kernel_rfl))
  f285 := Tryd.func125.trans (congrArg some (by kernel_rfl))
  f286 := Tryd.func126.trans (congrArg some (by kernel_rfl))
  f317 := Tryd.func127.trans (congrArg some (by kernel_rfl))
  f318 := Tryd.func129.trans (congrArg some (by kernel_rfl))
  f319 := Tryd.func130.trans (congrArg some (by kernel_rfl))
  f320 := Tryd.func131.trans (congrArg some (by kernel_rfl))
  f337 := Tryd.func132.trans (congrArg some (by kernel_rfl))
  f338 := Tryd.func133.trans (congrArg some (by kernel_rfl))
  t0 := Tryd.underlying0
  a0 := Tryd.isAgg0
  z0 := Tryd.sizeOf0
  v0 := Tryd.zeroValue0
  t2 := Tryd.underlying2
  a2 := Tryd.isAgg2
  z2 := Tryd.sizeOf2
  v2 := Tryd.zeroValue2
  t3 := Tryd.underlying3
  a3 := Tryd.isAgg3
  z3 := Tryd.sizeOf3
  v3 := Tryd.zeroValue3
  t4 := Tryd.underlying4
  a4 := Tryd.isAgg4
  z4 := Tryd.sizeOf4
  v4 := Tryd.zeroValue4
  t5 := Tryd.underlying5
  a5 := Tryd.isAgg5
  z5 := Tryd.sizeOf5
  v5 := Tryd.zeroValue5
  t9 := Tryd.underlying9
  a9 := Tryd.isAgg9
  z9 := Tryd.sizeOf9
  v9 := Tryd.zeroValue9
  t20 := Tryd.underlying20
  a20 := Tryd.isAgg20
  z20 := Tryd.sizeOf20
  v20 := Tryd.zeroValue20
  t37 := Tryd.underlying171
  a37 := Tryd.isAgg171
  z37 := Tryd.sizeOf171
  v37 := Tryd.zeroValue171
  t46 := Tryd.underlying178
  a46 := Tryd.isAgg178
  z46 := Tryd.sizeOf178
  v46 := Tryd.zeroValue178
  t51 := Tryd.underlying176
  a51 := Tryd.isAgg176
  z51 := Tryd.sizeOf176
  v51 := Tryd.zeroValue176
  t53 := Tryd.underlying168
  a53 := Tryd.isAgg168
  z53 := Tryd.sizeOf168
  v53 := Tryd.zeroValue168
  t171 := Tryd.underlying167
  a171 := Tryd.isAgg167
  z171 := Tryd.sizeOf167
  v171 := Tryd.zeroValue167
  t173 := Tryd.underlying172
  a173 := Tryd.isAgg172
  z173 := Tryd.sizeOf172
  v173 := Tryd.zeroValue172
  t212 := Tryd.underlying175
  a212 := Tryd.isAgg175
  z212 := Tryd.sizeOf175
  v212 := Tryd.zeroValue175
  t213 := Tryd.underlying177
  a213 := Tryd.isAgg177
  z213 := Tryd.sizeOf177
  t232 := Tryd.underlying181
  a232 := Tryd.isAgg181
  z232 := Tryd.sizeOf181
  v232 := Tryd.zeroValue181
  t233 := Tryd.underlying182
  a233 := Tryd.isAgg182
  z233 := Tryd.sizeOf182
  v233 := Tryd.zeroValue182
  g17 := by kernel_rfl
  g18 := by kernel_rfl
  g19 := by kernel_rfl
  i0 := by kernel_rfl
  i2 := by kernel_rfl
  i3 := by kernel_rfl
  i4 := by kernel_rfl
  i5 := by kernel_rfl
  i9 := by kernel_rfl
  i20 := by kernel_rfl
  i37 := by kernel_rfl
  i46 := by kernel_rfl
  i51 := by kernel_rfl
  i53 := by kernel_rfl
  i171 := by kernel_rfl
  i173 := by kernel_rfl
  i212 := by kernel_rfl
  i232 := by kernel_rfl
  i233 := by kernel_rfl
  m17 := by kernel_rfl
  m18 := by kernel_rfl
  m19 := by kernel_rfl }
open Go.RowKit Go.Sort Go.Lib in
theorem Tryd.internal_strconv_FormatInt_10 (n : Int) (h0 : -9223372036854775808 ≤ n) (h1 : n ≤ 9223372036854775807) (w : World) (htab : Lib.TabIs Tryd.prog w "internal/strconv.uint64pow10" .u64 Lib.pow10Tab) :
    Calls Tryd.prog 122 #[.int .i64 n, .int .i64 10] w fun e w' => e = .returned (.string ⟨(Lib.itoa n).toArray⟩) ∧ ∃ k os, w' = grow (w.drewN k) os := Any.internal_strconv_FormatInt_10 Tryd.laysM246 n h0 h1 w htab
def Tryd.lays246_ren : Go.Shelf.Ren := ⟨fun | 246 => 122 | 283 => 123 | 284 => 124 | 285 => 125 | 286 => 126 | 129 => 128 | 317 => 127 | 318 => 129 | 319 => 130 | 320 => 131 | 337 => 132 | 338 => 133 | n => n, fun | 2 => 2 | 3 => 3 | 9 => 9 | 4 => 4 | 171 => 167 | 0 => 0 | 53 => 168 | 37 => 171 | 5 => 5 | 173 => 172 | 212 => 175 | 51 => 176 | 20 => 20 | 213 => 177 | 46 => 178 | 232 => 181 | 233 => 182 | n => n, fun | 17 => 0 | 18 => 1 | 19 => 2 | n => n⟩
theorem Tryd.lays246 : Go.Proofs.Lays.n246 Tryd.prog Tryd.lays246_ren := {
  mixed := by kernel_rfl
  f129 := Tryd.func128.trans (congrArg some (by kernel_rfl))
  f246 := Tryd.func122.trans (congrArg some (by kernel_rfl))
  f283 := Tryd.func123.trans (congrArg some (by kernel_rfl))
  f284 := Tryd.func124.trans (congrArg some (by kernel_rfl))
  f285 := Tryd.func125.trans (congrArg some (by kernel_rfl))
  f286 := Tryd.func126.trans (congrArg some (by kernel_rfl))
  f317 := Tryd.func127.trans (congrArg some (by kernel_rfl))
  f318 := Tryd.func129.trans (congrArg some (by kernel_rfl))
  f319 := Tryd.func130.trans (congrArg some (by kernel_rfl))
  f320 := Tryd.func131.trans (congrArg some (by kernel_rfl))
  f337 := Tryd.func132.trans (congrArg some (by kernel_rfl))
  f338 := Tryd.func133.trans (congrArg some (by kernel_rfl))
  t0 := Tryd.underlying0
  a0 := Tryd.isAgg0
  z0 := Tryd.sizeOf0
  v0 := Tryd.zeroValue0
  t2 := Tryd.underlying2
  a2 := Tryd.isAgg2
  z2 := Tryd.sizeOf2
  v2 := Tryd.zeroValue2
  t3 := Tryd.underlying3
  a3 := Tryd.isAgg3
  z3 := Tryd.sizeOf3
  v3 := Tryd.zeroValue3
  t4 := Tryd.underlying4
  a4 := Tryd.isAgg4
  z4 := Tryd.sizeOf4
  v4 := Tryd.zeroValue4
  t5 := Tryd.underlying5
  a5 := Tryd.isAgg5
  z5 := Tryd.sizeOf5
  v5 := Tryd.zeroValue5
  t9 := Tryd.underlying9
  a9 := Tryd.isAgg9
  z9 := Tryd.sizeOf9
  v9 := Tryd.zeroValue9
  t20 := Tryd.underlying20
  a20 := Tryd.isAgg20
  z20 := Tryd.sizeOf20
  v20 := Tryd.zeroValue20
  t37 := Tryd.underlying171
  a37 := Tryd.isAgg171
  z37 := Tryd.sizeOf171
  v37 := Tryd.zeroValue171
  t46 := Tryd.underlying178
  a46 := Tryd.isAgg178
  z46 := Tryd.sizeOf178
  v46 := Tryd.zeroValue178
  t51 := Tryd.underlying176
  a51 := Tryd.isAgg176
  z51 := Tryd.sizeOf176
  v51 := Tryd.zeroValue176
  t53 := Tryd.underlying168
  a53 := Tryd.isAgg168
  z53 := Tryd.sizeOf168
  v53 := Tryd.zeroValue168
  t171 := Tryd.underlying167
  a171 := Tryd.isAgg167
  z171 := Tryd.sizeOf167
  v171 := Tryd.zeroValue167
  t173 := Tryd.underlying172
  a173 := Tryd.isAgg172
  z173 := Tryd.sizeOf172
  v173 := Tryd.zeroValue172
  t212 := Tryd.underlying175
  a212 := Tryd.isAgg175
  z212 := Tryd.sizeOf175
  v212 := Tryd.zeroValue175
  t213 := Tryd.underlying177
  a213 := Tryd.isAgg177
  z213 := Tryd.sizeOf177
  t232 := Tryd.underlying181
  a232 := Tryd.isAgg181
  z232 := Tryd.sizeOf181
  v232 := Tryd.zeroValue181
  t233 := Tryd.underlying182
  a233 := Tryd.isAgg182
  z233 := Tryd.sizeOf182
  v233 := Tryd.zeroValue182
  g17 := by kernel_rfl
  g18 := by kernel_rfl
  g19 := by kernel_rfl }
open Go.RowKit Go.Sort Go.Lib in
theorem Tryd.internal_strconv_FormatInt_10_small (i : Nat) (hi : i < 100) (w : World) :
    Calls Tryd.prog 122 #[.int .i64 i, .int .i64 10] w fun e w' => e = .returned (.string ⟨(Lib.decDigits i).toArray⟩) ∧ w' = w := Any.internal_strconv_FormatInt_10_small Tryd.lays246 i hi w
def Tryd.laysM243_ren : Go.Shelf.Ren := ⟨fun | 243 => 121 | 246 => 122 | 283 => 123 | 284 => 124 | 285 => 125 | 286 => 126 | 129 => 128 | 317 => 127 | 318 => 129 | 319 => 130 | 320 => 131 | 337 => 132 | 338 => 133 | n => n, fun | 3 => 3 | 9 => 9 | 2 => 2 | 4 => 4 | 171 => 167 | 0 => 0 | 53 => 168 | 37 => 171 | 5 => 5 | 173 => 172 | 212 => 175 | 51 => 176 | 20 => 20 | 213 => 177 | 46 => 178 | 232 => 181 | 233 => 182 | n => n, fun | 17 => 0 | 18 => 1 | 19 => 2 | n => n⟩
theorem Tryd.laysM243 : Go.Proofs.LaysM.n243 Tryd.prog Tryd.laysM243_ren := {
  mixed := by kernel_rfl
  f129 := Tryd.func128.trans (congrArg some (by kernel_rfl))
  f243 := Tryd.func121.trans (congrArg some (by kernel_rfl))
  f246 := Tryd.func122.trans (congrArg some (by kernel_rfl))
  f283 := Tryd.func123.trans (congrArg some (by kernel_rfl))
  f284 := Tryd.func124.trans (congrArg some (by kernel_rfl))
  f285 := Tryd.func125.trans (congrArg some (by kernel_rfl))
  f286 := Tryd.func126.trans (congrArg some (by kernel_rfl))
  f317 := Tryd.func127.trans (congrArg some (by kernel_rfl))
  f318 := Tryd.func129.trans (congrArg some (by kernel_rfl))
  f319 := Tryd.func130.trans (congrArg some (by kernel_rfl))
  f320 := Tryd.func131.trans (congrArg some (by kernel_rfl))
  f337 := Tryd.func132.trans (congrArg some (by kernel_rfl))
  f338 := Tryd.func133.trans (congrArg some (by kernel_rfl))
  t0 := Tryd.underlying0
  a0 := Tryd.isAgg0
  z0 := Tryd.sizeOf0
  v0 := Tryd.zeroValue0
  t2 := Tryd.underlying2
  a2 := Tryd.isAgg2
  z2 := Tryd.sizeOf2
  v2 := Tryd.zeroValue2
  t3 := Tryd.underlying3
  a3 := Tryd.isAgg3
  z3 := Tryd.sizeOf3
  v3 := Tryd.zeroValue3
  t4 := Tryd.underlying4
  a4 := Tryd.isAgg4
  z4 := Tryd.sizeOf4
  v4 := Tryd.zeroValue4
  t5 := Tryd.underlying5
  a5 := Tryd.isAgg5
  z5 := Tryd.sizeOf5
  v5 := Tryd.zeroValue5
  t9 := Tryd.underlying9
  a9 := Tryd.isAgg9
  z9 := Tryd.sizeOf9
  v9 := Tryd.zeroValue9
  t20 := Tryd.underlying20
  a20 := Tryd.isAgg20
  z20 := Tryd.sizeOf20
  v20 := Tryd.zeroValue20
  t37 := Tryd.underlying171
  a37 := Tryd.isAgg171
  z37 := Tryd.sizeOf171
  v37 := Tryd.zeroValue171
  t46 := Tryd.underlying178
  a46 := Tryd.isAgg178
  z46 := Tryd.sizeOf178
  v46 := Tryd.zeroValue178
  t51 := Tryd.underlying176
  a51 := Tryd.isAgg176
  z51 := Tryd.sizeOf176
  v51 := Tryd.zeroValue176
  t53 := Tryd.underlying168
  a53 := Tryd.isAgg168
  z53 := Tryd.sizeOf168
  v53 := Tryd.zeroValue168
  t171 := Tryd.underlying167
  a171 := Tryd.isAgg167
  z171 := Tryd.sizeOf167
  v171 := Tryd.zeroValue167
  t173 := Tryd.underlying172
  a173 := Tryd.isAgg172
  z173 := Tryd.sizeOf172
  v173 := Tryd.zeroValue172
  t212 := Tryd.underlying175
  a212 := Tryd.isAgg175
  z212 := Tryd.sizeOf175
  v212 := Tryd.zeroValue175
  t213 := Tryd.underlying177
  a213 := Tryd.isAgg177
  z213 := Tryd.sizeOf177
  t232 := Tryd.underlying181
  a232 := Tryd.isAgg181
  z232 := Tryd.sizeOf181
  v232 := Tryd.zeroValue181
  t233 := Tryd.underlying182
  a233 := Tryd.isAgg182
  z233 := Tryd.sizeOf182
  v233 := Tryd.zeroValue182
  g17 := by kernel_rfl
  g18 := by kernel_rfl
  g19 := by kernel_rfl
  i0 := by kernel_rfl
  i2 := by kernel_rfl
  i3 := by kernel_rfl
  i4 := by kernel_rfl
  i5 := by kernel_rfl
  i9 := by kernel_rfl
  i20 := by kernel_rfl
  i37 := by kernel_rfl
  i46 := by kernel_rfl
  i51 := by kernel_rfl
  i53 := by kernel_rfl
  i171 := by kernel_rfl
  i173 := by kernel_rfl
  i212 := by kernel_rfl
  i232 := by kernel_rfl
  i233 := by kernel_rfl
  m17 := by kernel_rfl
  m18 := by kernel_rfl
  m19 := by kernel_rfl }
open Go.RowKit Go.Sort Go.Lib in
theorem Tryd.internal_strconv_Itoa (n : Int) (h0 : -9223372036854775808 ≤ n) (h1 : n ≤ 9223372036854775807) (w : World) (htab : Lib.TabIs Tryd.prog w "internal/strconv.uint64pow10" .u64 Lib.pow10Tab) :
    Calls Tryd.prog 121 #[.int .i64 n] w fun e w' => e = .returned (.string ⟨(Lib.itoa n).toArray⟩) ∧ ∃ k os, w' = grow (w.drewN k) os := Any.internal_strconv_Itoa Tryd.laysM243 n h0 h1 w htab
def Tryd.lays243_ren : Go.Shelf.Ren := ⟨fun | 243 => 121 | 246 => 122 | 283 => 123 | 284 => 124 | 285 => 125 | 286 => 126 | 129 => 128 | 317 => 127 | 318 => 129 | 319 => 130 | 320 => 131 | 337 => 132 | 338 => 133 | n => n, fun | 3 => 3 | 9 => 9 | 2 => 2 | 4 => 4 | 171 => 167 | 0 => 0 | 53 => 168 | 37 => 171 | 5 => 5 | 173 => 172 | 212 => 175 | 51 => 176 | 20 => 20 | 213 => 177 | 46 => 178 | 232 => 181 | 233 => 182 | n => n, fun | 17 => 0 | 18 => 1 | 19 => 2 | n => n⟩
theorem Tryd.lays243 : Go.Proofs.Lays.n243 Tryd.prog Tryd.lays243_ren := {
  mixed := by kernel_rfl
  f129 := Tryd.func128.trans (congrArg some (by kernel_rfl))
  f243 := Tryd.func121.trans (congrArg some (by kernel_rfl))
  f246 := Tryd.func122.trans (congrArg some (by kernel_rfl))
  f283 := Tryd.func123.trans (congrArg some (by kernel_rfl))
  f284 := Tryd.func124.trans (congrArg some (by kernel_rfl))
  f285 := Tryd.func125.trans (congrArg some (by kernel_rfl))
  f286 := Tryd.func126.trans (congrArg some (by kernel_rfl))
  f317 := Tryd.func127.trans (congrArg some (by kernel_rfl))
  f318 := Tryd.func129.trans (congrArg some (by kernel_rfl))
  f319 := Tryd.func130.trans (congrArg some (by kernel_rfl))
  f320 := Tryd.func131.trans (congrArg some (by kernel_rfl))
  f337 := Tryd.func132.trans (congrArg some (by kernel_rfl))
  f338 := Tryd.func133.trans (congrArg some (by kernel_rfl))
  t0 := Tryd.underlying0
  a0 := Tryd.isAgg0
  z0 := Tryd.sizeOf0
  v0 := Tryd.zeroValue0
  t2 := Tryd.underlying2
  a2 := Tryd.isAgg2
  z2 := Tryd.sizeOf2
  v2 := Tryd.zeroValue2
  t3 := Tryd.underlying3
  a3 := Tryd.isAgg3
  z3 := Tryd.sizeOf3
  v3 := Tryd.zeroValue3
  t4 := Tryd.underlying4
  a4 := Tryd.isAgg4
  z4 := Tryd.sizeOf4
  v4 := Tryd.zeroValue4
  t5 := Tryd.underlying5
  a5 := Tryd.isAgg5
  z5 := Tryd.sizeOf5
  v5 := Tryd.zeroValue5
  t9 := Tryd.underlying9
  a9 := Tryd.isAgg9
  z9 := Tryd.sizeOf9
  v9 := Tryd.zeroValue9
  t20 := Tryd.underlying20
  a20 := Tryd.isAgg20
  z20 := Tryd.sizeOf20
  v20 := Tryd.zeroValue20
  t37 := Tryd.underlying171
  a37 := Tryd.isAgg171
  z37 := Tryd.sizeOf171
  v37 := Tryd.zeroValue171
  t46 := Tryd.underlying178
  a46 := Tryd.isAgg178
  z46 := Tryd.sizeOf178
  v46 := Tryd.zeroValue178
  t51 := Tryd.underlying176
  a51 := Tryd.isAgg176
  z51 := Tryd.sizeOf176
  v51 := Tryd.zeroValue176
  t53 := Tryd.underlying168
  a53 := Tryd.isAgg168
  z53 := Tryd.sizeOf168
  v53 := Tryd.zeroValue168
  t171 := Tryd.underlying167
  a171 := Tryd.isAgg167
  z171 := Tryd.sizeOf167
  v171 := Tryd.zeroValue167
  t173 := Tryd.underlying172
  a173 := Tryd.isAgg172
  z173 := Tryd.sizeOf172
  v173 := Tryd.zeroValue172
  t212 := Tryd.underlying175
  a212 := Tryd.isAgg175
  z212 := Tryd.sizeOf175
  v212 := Tryd.zeroValue175
  t213 := Tryd.underlying177
  a213 := Tryd.isAgg177
  z213 := Tryd.sizeOf177
  t232 := Tryd.underlying181
  a232 := Tryd.isAgg181
  z232 := Tryd.sizeOf181
  v232 := Tryd.zeroValue181
  t233 := Tryd.underlying182
  a233 := Tryd.isAgg182
  z233 := Tryd.sizeOf182
  v233 := Tryd.zeroValue182
  g17 := by kernel_rfl
  g18 := by kernel_rfl
  g19 := by kernel_rfl }
open Go.RowKit Go.Sort Go.Lib in
theorem Tryd.internal_strconv_Itoa_small (i : Nat) (hi : i < 100) (w : World) :
    Calls Tryd.prog 121 #[.int .i64 i] w fun e w' => e = .returned (.string ⟨(Lib.decDigits i).toArray⟩) ∧ w' = w := Any.internal_strconv_Itoa_small Tryd.lays243 i hi w
def Tryd.laysM171_ren : Go.Shelf.Ren := ⟨fun | 171 => 114 | 243 => 121 | 246 => 122 | 283 => 123 | 284 => 124 | 285 => 125 | 286 => 126 | 129 => 128 | 317 => 127 | 318 => 129 | 319 => 130 | 320 => 131 | 337 => 132 | 338 => 133 | n => n, fun | 3 => 3 | 9 => 9 | 2 => 2 | 4 => 4 | 171 => 167 | 0 => 0 | 53 => 168 | 37 => 171 | 5 => 5 | 173 => 172 | 212 => 175 | 51 => 176 | 20 => 20 | 213 => 177 | 46 => 178 | 232 => 181 | 233 => 182 | n => n, fun | 17 => 0 | 18 => 1 | 19 => 2 | n => n⟩
theorem Tryd.laysM171 : Go.Proofs.LaysM.n171 Tryd.prog Tryd.laysM171_ren := {
  mixed := by kernel_rfl
  f129 := Tryd.func128.trans (congrArg some (by kernel_rfl))
  f171 := Tryd.func114.trans (congrArg some (by kernel_rfl))
  f243 := Tryd.func121.trans (congrArg some (by kernel_rfl))
  f246 := Tryd.func122.trans (congrArg some (by kernel_rfl))
  f283 := Tryd.func123.trans (congrArg some (by kernel_rfl))
  f284 := Tryd.func124.trans (congrArg some (by kernel_rfl))
  f285 := Tryd.func125.trans (congrArg some (by kernel_rfl))
  f286 := Tryd.func126.trans (congrArg some (by kernel_rfl))
  f317 := Tryd.func127.trans (congrArg some (by kernel_rfl))
  f318 := Tryd.func129.trans (congrArg some (by kernel_rfl))
  f319 := Tryd.func130.trans (congrArg some (by kernel_rfl))
  f320 := Tryd.func131.trans (congrArg some (by kernel_rfl))
  f337 := Tryd.func132.trans (congrArg some (by kernel_rfl))
  f338 := Tryd.func133.trans (congrArg some (by kernel_rfl))
  t0 := Tryd.underlying0
  a0 := Tryd.isAgg0
  z0 := Tryd.sizeOf0
  v0 := Tryd.zeroValue0
  t2 := Tryd.underlying2
  a2 := Tryd.isAgg2
  z2 := Tryd.sizeOf2
  v2 := Tryd.zeroValue2
  t3 := Tryd.underlying3
  a3 := Tryd.isAgg3
  z3 := Tryd.sizeOf3
  v3 := Tryd.zeroValue3
  t4 := Tryd.underlying4
  a4 := Tryd.isAgg4
  z4 := Tryd.sizeOf4
  v4 := Tryd.zeroValue4
  t5 := Tryd.underlying5
  a5 := Tryd.isAgg5
  z5 := Tryd.sizeOf5
  v5 := Tryd.zeroValue5
  t9 := Tryd.underlying9
  a9 := Tryd.isAgg9
  z9 := Tryd.sizeOf9
  v9 := Tryd.zeroValue9
  t20 := Tryd.underlying20
  a20 := Tryd.isAgg20
  z20 := Tryd.sizeOf20
  v20 := Tryd.zeroValue20
  t37 := Tryd.underlying171
  a37 := Tryd.isAgg171
  z37 := Tryd.sizeOf171
  v37 := Tryd.zeroValue171
  t46 := Tryd.underlying178
  a46 := Tryd.isAgg178
  z46 := Tryd.sizeOf178
  v46 := Tryd.zeroValue178
  t51 := Tryd.underlying176
  a51 := Tryd.isAgg176
  z51 := Tryd.sizeOf176
  v51 := Tryd.zeroValue176
  t53 := Tryd.underlying168
  a53 := Tryd.isAgg168
  z53 := Tryd.sizeOf168
  v53 := Tryd.zeroValue168
  t171 := Tryd.underlying167
  a171 := Tryd.isAgg167
  z171 := Tryd.sizeOf167
  v171 := Tryd.zeroValue167
  t173 := Tryd.underlying172
  a173 := Tryd.isAgg172
  z173 := Tryd.sizeOf172
  v173 := Tryd.zeroValue172
  t212 := Tryd.underlying175
  a212 := Tryd.isAgg175
  z212 := Tryd.sizeOf175
  v212 := Tryd.zeroValue175
  t213 := Tryd.underlying177
  a213 := Tryd.isAgg177
  z213 := Tryd.sizeOf177
  t232 := Tryd.underlying181
  a232 := Tryd.isAgg181
  z232 := Tryd.sizeOf181
  v232 := Tryd.zeroValue181
  t233 := Tryd.underlying182
  a233 := Tryd.isAgg182
  z233 := Tryd.sizeOf182
  v233 := Tryd.zeroValue182
  g17 := by kernel_rfl
  g18 := by kernel_rfl
  g19 := by kernel_rfl
  i0 := by kernel_rfl
  i2 := by kernel_rfl
  i3 := by kernel_rfl
  i4 := by kernel_rfl
  i5 := by kernel_rfl
  i9 := by kernel_rfl
  i20 := by kernel_rfl
  i37 := by kernel_rfl
  i46 := by kernel_rfl
  i51 := by kernel_rfl
  i53 := by kernel_rfl
  i171 := by kernel_rfl
  i173 := by kernel_rfl
  i212 := by kernel_rfl
  i232 := by kernel_rfl
  i233 := by kernel_rfl
  m17 := by kernel_rfl
  m18 := by kernel_rfl
  m19 := by kernel_rfl }
open Go.RowKit Go.Sort Go.Lib in
theorem Tryd.strconv_Itoa (n : Int) (h0 : -9223372036854775808 ≤ n) (h1 : n ≤ 9223372036854775807) (w : World) (htab : Lib.TabIs Tryd.prog w "internal/strconv.uint64pow10" .u64 Lib.pow10Tab) :
    Calls Tryd.prog 114 #[.int .i64 n] w fun e w' => e = .returned (.string ⟨(Lib.itoa n).toArray⟩) ∧ ∃ k os, w' = grow (w.drewN k) os := Any.strconv_Itoa Tryd.laysM171 n h0 h1 w htab
def Tryd.lays171_ren : Go.Shelf.Ren := ⟨fun | 171 => 114 | 243 => 121 | 246 => 122 | 283 => 123 | 284 => 124 | 285 => 125 | 286 => 126 | 129 => 128 | 317 => 127 | 318 => 129 | 319 => 130 | 320 => 131 | 337 => 132 | 338 => 133 | n => n, fun | 3 => 3 | 9 => 9 | 2 => 2 | 4 => 4 | 171 => 167 | 0 => 0 | 53 => 168 | 37 => 171 | 5 => 5 | 173 => 172 | 212 => 175 | 51 => 176 | 20 => 20 | 213 => 177 | 46 => 178 | 232 => 181 | 233 => 182 | n => n, fun | 17 => 0 | 18 => 1 | 19 => 2 | n => n⟩
theorem Tryd.lays171 : Go.Proofs.Lays.n171 Tryd.prog Tryd.lays171_ren := {
  mixed := by kernel_rfl
  f129 := Tryd.func128.trans (congrArg some (by kernel_rfl))
  f171 := Tryd.func114.trans (congrArg some (by kernel_rfl))
  f243 := Tryd.func121.trans (congrArg some (by kernel_rfl))
  f246 := Tryd.func122.trans (congrArg some (by kernel_rfl))
  f283 := Tryd.func123.trans (congrArg some (by kernel_rfl))
  f284 := Tryd.func124.trans (congrArg some (by kernel_rfl))
  f285 := Tryd.func125.trans (congrArg some (by kernel_rfl))
  f286 := Tryd.func126.trans (congrArg some (by kernel_rfl))
  f317 := Tryd.func127.trans (congrArg some (by kernel_rfl))
  f318 := Tryd.func129.trans (congrArg some (by kernel_rfl))
  f319 := Tryd.func130.trans (congrArg some (by kernel_rfl))
  f320 := Tryd.func131.trans (congrArg some (by kernel_rfl))
  f337 := Tryd.func132.trans (congrArg some (by kernel_rfl))
  f338 := Tryd.func133.trans (congrArg some (by kernel_rfl))
  t0 := Tryd.underlying0
  a0 := Tryd.isAgg0
  z0 := Tryd.sizeOf0
  v0 := Tryd.zeroValue0
  t2 := Tryd.underlying2
  a2 := Tryd.isAgg2
  z2 := Tryd.sizeOf2
  v2 := Tryd.zeroValue2
  t3 := Tryd.underlying3
  a3 := Tryd.isAgg3
  z3 := Tryd.sizeOf3
  v3 := Tryd.zeroValue3
  t4 := Tryd.underlying4
  a4 := Tryd.isAgg4
  z4 := Tryd.sizeOf4
  v4 := Tryd.zeroValue4
  t5 := Tryd.underlying5
  a5 := Tryd.isAgg5
  z5 := Tryd.sizeOf5
  v5 := Tryd.zeroValue5
  t9 := Tryd.underlying9
  a9 := Tryd.isAgg9
  z9 := Tryd.sizeOf9
  v9 := Tryd.zeroValue9
  t20 := Tryd.underlying20
  a20 := Tryd.isAgg20
  z20 := Tryd.sizeOf20
  v20 := Tryd.zeroValue20
  t37 := Tryd.underlying171
  a37 := Tryd.isAgg171
  z37 := Tryd.sizeOf171
  v37 := Tryd.zeroValue171
  t46 := Tryd.underlying178
  a46 := Tryd.isAgg178
  z46 := Tryd.sizeOf178
  v46 := Tryd.zeroValue178
  t51 := Tryd.underlying176
  a51 := Tryd.isAgg176
  z51 := Tryd.sizeOf176
  v51 := Tryd.zeroValue176
  t53 := Tryd.underlying168
  a53 := Tryd.isAgg168
  z53 := Tryd.sizeOf168
  v53 := Tryd.zeroValue168
  t171 := Tryd.underlying167
  a171 := Tryd.isAgg167
  z171 := Tryd.sizeOf167
  v171 := Tryd.zeroValue167
  t173 := Tryd.underlying172
  a173 := Tryd.isAgg172
  z173 := Tryd.sizeOf172
  v173 := Tryd.zeroValue172
  t212 := Tryd.underlying175
  a212 := Tryd.isAgg175
  z212 := Tryd.sizeOf175
  v212 := Tryd.zeroValue175
  t213 := Tryd.underlying177
  a213 := Tryd.isAgg177
  z213 := Tryd.sizeOf177
  t232 := Tryd.underlying181
  a232 := Tryd.isAgg181
  z232 := Tryd.sizeOf181
  v232 := Tryd.zeroValue181
  t233 := Tryd.underlying182
  a233 := Tryd.isAgg182
  z233 := Tryd.sizeOf182
  v233 := Tryd.zeroValue182
  g17 := by kernel_rfl
  g18 := by kernel_rfl
  g19 := by kernel_rfl }
open Go.RowKit Go.Sort Go.Lib in
theorem Tryd.strconv_Itoa_small (i : Nat) (hi : i < 100) (w : World) :
    Calls Tryd.prog 114 #[.int .i64 i] w fun e w' => e = .returned (.string ⟨(Lib.decDigits i).toArray⟩) ∧ w' = w := Any.strconv_Itoa_small Tryd.lays171 i hi w
end Go.Proofs

/- The functions' table for the evaluator: written by a program of mine (tab). -/
set_option maxRecDepth 100000
namespace Go.Proofs.YtibgfmhddcibcaaDoor
open Go Go.Av
def tab : List (Nat × Ent) := [
  (17, ⟨33, c_pile_Levels, [.tmp 6, .tmp 7], false⟩),
  (19, ⟨53, c_ref02_SameSpans, [.tmp 4], true⟩),
  (20, ⟨63, c_ref02_Levels, [.tmp 6], false⟩),
  (21, ⟨46, c_pile_Fault, [.cell 6 true 3, .tmp 7], true⟩),
  (22, ⟨41, c_ref02_Fault, [.cell 6 true 3], true⟩),
  (24, ⟨55, c_pile_Best, [.tmp 4, .tmp 5, .tmp 6], false⟩),
  (25, ⟨51, c_ref02_Best, [.tmp 4, .tmp 5], false⟩),
  (26, ⟨26, c_ref02_Same, [.tmp 4], true⟩),
  (27, ⟨36, c_ref02_Cost, [.tmp 4], true⟩),
  (28, ⟨37, c_ref02_Plan, [.tmp 6], true⟩),
  (29, ⟨36, c_ref02_Before, [.tmp 4], true⟩),
  (30, ⟨91, c_pile_Ready, [.tmp 6, .tmp 7], true⟩),
  (32, ⟨23, c_ref02_Ready, [.tmp 6], true⟩),
  (33, ⟨35, c_ref02_New, [.tmp 8], true⟩),
  (35, ⟨63, c_pile_Carries, [.tmp 4, .tmp 5], false⟩),
  (37, ⟨16, c_ref02_Jacked, [.tmp 4], true⟩),
  (38, ⟨106, c_pile_Play, [.tmp 8, .tmp 9], false⟩),
  (39, ⟨60, c_ref02_Truths, [.tmp 6], true⟩),
  (40, ⟨27, c_ref02_SameRows, [.tmp 4], true⟩),
  (41, ⟨65, c_ref02_Play, [.tmp 6], false⟩),
  (42, ⟨47, c_ref02_Ends, [.tmp 6], false⟩),
  (44, ⟨18, c_ref02_Loses, [.tmp 6], true⟩),
  (45, ⟨34, c_ref02_Fails, [.tmp 8], true⟩),
  (46, ⟨6, c_pile_Check, [.tmp 2], false⟩),
  (47, ⟨44, c_pile_Lost, [.tmp 4, .tmp 5], false⟩),
  (48, ⟨169, c_ref02_Site, [.tmp 2], true⟩),
  (49, ⟨30, c_ref02_Lost, [.tmp 6], true⟩),
  (50, ⟨17, c_ref02_Carries, [.tmp 4], true⟩),
  (56, ⟨37, c_pile_Print, [.tmp 2, .tmp 3], false⟩),
  (57, ⟨34, c_pile_site_given, [.tmp 6], true⟩),
  (58, ⟨19, c_pile_site_planned, [.tmp 4], true⟩),
  (59, ⟨82, c_pile_site_levels, [.tmp 4], false⟩),
  (60, ⟨57, c_pile_site_fault, [.cell 6 true 3], true⟩),
  (61, ⟨118, c_ref02_Wrong, [.tmp 6, .tmp 7], true⟩),
  (62, ⟨40, c_ref02_Thaws, [.tmp 4], true⟩),
  (63, ⟨57, c_pile_Best_1, [.cell 7 true 3], false⟩),
  (64, ⟨45, c_pile_site_next, [.cell 4 true 13], true⟩),
  (65, ⟨39, c_pile_cheapest_int, [.tmp 4, .tmp 5, .tmp 6], false⟩),
  (66, ⟨22, c_pile_Best_1_1, [.tmp 5, .tmp 6], false⟩),
  (67, ⟨20, c_pile_site_jack, [.cell 6 true 13], true⟩),
  (68, ⟨22, c_pile_site_cost, [.tmp 4], true⟩),
  (69, ⟨51, c_ref02_plans, [.tmp 4], false⟩),
  (70, ⟨15, c_ref02_in, [.tmp 6], true⟩),
  (71, ⟨31, c_pile_pile, [.tmp 2], true⟩),
  (72, ⟨24, c_pile_span, [.tmp 6], true⟩),
  (73, ⟨15, c_pile_in, [.tmp 6], true⟩),
  (74, ⟨17, c_pile_carries, [.tmp 4], true⟩),
  (75, ⟨47, c_ref02_Pile, [.tmp 2], true⟩),
  (76, ⟨18, c_ref02_Thaw, [.tmp 2], true⟩),
  (77, ⟨61, c_ref02_Cure, [.tmp 2], true⟩),
  (79, ⟨70, c_pile_site_true1, [.tmp 8], true⟩),
  (80, ⟨8, c_slices_Clone_int, [.tmp 2], false⟩),
  (81, ⟨4, c_pile_jacked, [.tmp 2], false⟩),
  (82, ⟨46, c_ref02_Truth, [.tmp 8], true⟩),
  (83, ⟨42, c_ref02_End, [.cell 8 true 3], false⟩),
  (84, ⟨102, c_pile_valid, [.tmp 2], true⟩),
  (85, ⟨40, c_pile_site_loses, [.tmp 6], true⟩),
  (86, ⟨52, c_ref02_Row, [.cell 8 true 3], true⟩),
  (87, ⟨19, c_pile_booked, [.tmp 2], false⟩),
  (88, ⟨21, c_pile_line, [.tmp 4], false⟩),
  (89, ⟨58, c_pile_end, [.tmp 2], false⟩),
  (90, ⟨9, c_slices_ContainsFunc_apiSpan, [.tmp 4], true⟩),
  (91, ⟨17, c_pile_site_given_1, [.tmp 3], true⟩),
  (92, ⟨9, c_slices_ContainsFunc_apiSpan_92, [.tmp 4], true⟩),
  (93, ⟨6, c_pile_site_given_1_1, [.tmp 2], true⟩),
  (94, ⟨9, c_slices_ContainsFunc_int, [.tmp 4], true⟩),
  (95, ⟨15, c_pile_site_planned_1, [.tmp 3], true⟩),
  (96, ⟨41, c_pile_site_low, [.tmp 6], true⟩),
  (97, ⟨41, c_pile_site_high, [.tmp 6], true⟩),
  (98, ⟨8, c_slices_Clone_apiSpan, [.tmp 2], false⟩),
  (99, ⟨15, c_pile_first, [.tmp 4], true⟩),
  (100, ⟨9, c_pile_site_fault_1, [.tmp 4], true⟩),
  (101, ⟨9, c_pile_site_fault_2, [.tmp 4], true⟩),
  (102, ⟨39, c_pile_site_fails, [.tmp 6], true⟩),
  (103, ⟨17, c_pile_site_fault_3, [.tmp 4], true⟩),
  (104, ⟨48, c_pile_site_fault_4, [.tmp 4], true⟩),
  (105, ⟨56, c_pile_site_row, [.cell 8 true 3, .tmp 9], true⟩),
  (106, ⟨19, c_pile_jacked_1, [], false⟩),
  (107, ⟨9, c_slices_ContainsFunc_apiPile, [.tmp 4], true⟩),
  (108, ⟨6, c_pile_valid_1, [.tmp 2], true⟩),
  (109, ⟨9, c_slices_ContainsFunc_apiPilePair, [.tmp 4], true⟩),
  (110, ⟨25, c_pile_valid_2, [.tmp 3], true⟩),
  (111, ⟨9, c_slices_ContainsFunc_int_111, [.tmp 4], true⟩),
  (112, ⟨15, c_pile_booked_1, [.tmp 3], false⟩),
  (113, ⟨6, c_pile_booked_1_1, [.tmp 2], false⟩),
  (115, ⟨19, c_slices_IndexFunc_apiSpan, [.tmp 4], true⟩),
  (116, ⟨19, c_slices_IndexFunc_apiSpan_116, [.tmp 4], true⟩),
  (117, ⟨19, c_slices_IndexFunc_int, [.tmp 4], true⟩),
  (118, ⟨19, c_slices_IndexFunc_apiPile, [.tmp 4], true⟩),
  (119, ⟨19, c_slices_IndexFunc_apiPilePair, [.tmp 4], true⟩),
  (120, ⟨19, c_slices_IndexFunc_int_120, [.tmp 4], true⟩),
  (3, ⟨57, c_law02_PileLevels, [.tmp 6], false⟩),
  (4, ⟨57, c_law02_PileFaults, [.tmp 6], false⟩),
  (5, ⟨96, c_law02_PileBests, [.tmp 4], false⟩),
  (6, ⟨120, c_law02_PileRivals, [.tmp 6], false⟩),
  (7, ⟨60, c_law02_PileReadies, [.tmp 6], false⟩),
  (8, ⟨102, c_law02_PileCured, [.tmp 12], false⟩),
  (9, ⟨397, c_law02_PileMore, [.tmp 16], false⟩),
  (10, ⟨91, c_law02_PilePlays, [.tmp 8], false⟩),
  (11, ⟨153, c_law02_PileSharp, [.tmp 6], false⟩),
  (12, ⟨259, c_law02_PileBlamed, [.tmp 6], false⟩),
  (13, ⟨164, c_law02_PileChecks, [.tmp 4], false⟩),
  (14, ⟨237, c_law02_PileTrue, [.tmp 8], false⟩),
  (15, ⟨43, c_law02_short, [.tmp 4], true⟩),
  (16, ⟨104, c_law02_known, [.tmp 0], false⟩),
  (18, ⟨27, c_law02_planned, [.tmp 6], true⟩),
  (23, ⟨17, c_law02_asked, [.tmp 4], true⟩),
  (31, ⟨17, c_law02_cured, [.tmp 6], false⟩),
  (34, ⟨14, c_law02_narrow, [.cell 6 true 2], false⟩),
  (36, ⟨74, c_law02_within, [.tmp 4], false⟩),
  (43, ⟨38, c_law02_tilts, [.tmp 6], false⟩),
  (51, ⟨30, c_law02_percents, [.tmp 2], false⟩),
  (52, ⟨90, c_law02_truth, [.tmp 6], false⟩),
  (53, ⟨68, c_law02_wrong, [.tmp 6], false⟩),
  (54, ⟨16, c_law02_Site, [.cell 0 true 6], false⟩),
  (55, ⟨17, c_law02_Thaws, [.tmp 2], false⟩),
  (78, ⟨16, c_law02_part, [.tmp 4], false⟩),
  (114, ⟨5, c_strconv_Itoa, [.tmp 2], false⟩),
  (121, ⟨5, c_strconv_Itoa_121, [.tmp 2], false⟩),
  (122, ⟨54, c_strconv_FormatInt, [.tmp 4], false⟩),
  (123, ⟨15, c_strconv_small, [.tmp 2], false⟩),
  (125, ⟨167, c_strconv_formatBase10, [], false⟩),
  (126, ⟨102, c_strconv_formatBits, [.tmp 10, .tmp 11], false⟩),
  (129, ⟨4, c_strconv_bool2_int, [.tmp 2], false⟩)]
theorem tabOK : ∀ p ∈ tab, FnIs Tryd.prog p.1 p.2.m p.2.s p.2.rs := by
  unfold tab
  simp only [List.forall_mem_cons, List.not_mem_nil, false_implies, implies_true, and_true]
  exact ⟨fn_pile_Levels, fn_ref02_SameSpans, fn_ref02_Levels, fn_pile_Fault, fn_ref02_Fault, fn_pile_Best, fn_ref02_Best, fn_ref02_Same, fn_ref02_Cost, fn_ref02_Plan, fn_ref02_Before, fn_pile_Ready, fn_ref02_Ready, fn_ref02_New, fn_pile_Carries, fn_ref02_Jacked, fn_pile_Play, fn_ref02_Truths, fn_ref02_SameRows, fn_ref02_Play, fn_ref02_Ends, fn_ref02_Loses, fn_ref02_Fails, fn_pile_Check, fn_pile_Lost, fn_ref02_Site, fn_ref02_Lost, fn_ref02_Carries, fn_pile_Print, fn_pile_site_given, fn_pile_site_planned, fn_pile_site_levels, fn_pile_site_fault, fn_ref02_Wrong, fn_ref02_Thaws, fn_pile_Best_1, fn_pile_site_next, fn_pile_cheapest_int, fn_pile_Best_1_1, fn_pile_site_jack, fn_pile_site_cost, fn_ref02_plans, fn_ref02_in, fn_pile_pile, fn_pile_span, fn_pile_in, fn_pile_carries, fn_ref02_Pile, fn_ref02_Thaw, fn_ref02_Cure, fn_pile_site_true1, fn_slices_Clone_int, fn_pile_jacked, fn_ref02_Truth, fn_ref02_End, fn_pile_valid, fn_pile_site_loses, fn_ref02_Row, fn_pile_booked, fn_pile_line, fn_pile_end, fn_slices_ContainsFunc_apiSpan, fn_pile_site_given_1, fn_slices_ContainsFunc_apiSpan_92, fn_pile_site_given_1_1, fn_slices_ContainsFunc_int, fn_pile_site_planned_1, fn_pile_site_low, fn_pile_site_high, fn_slices_Clone_apiSpan, fn_pile_first, fn_pile_site_fault_1, fn_pile_site_fault_2, fn_pile_site_fails, fn_pile_site_fault_3, fn_pile_site_fault_4, fn_pile_site_row, fn_pile_jacked_1, fn_slices_ContainsFunc_apiPile, fn_pile_valid_1, fn_slices_ContainsFunc_apiPilePair, fn_pile_valid_2, fn_slices_ContainsFunc_int_111, fn_pile_booked_1, fn_pile_booked_1_1, fn_slices_IndexFunc_apiSpan, fn_slices_IndexFunc_apiSpan_116, fn_slices_IndexFunc_int, fn_slices_IndexFunc_apiPile, fn_slices_IndexFunc_apiPilePair, fn_slices_IndexFunc_int_120, fn_law02_PileLevels, fn_law02_PileFaults, fn_law02_PileBests, fn_law02_PileRivals, fn_law02_PileReadies, fn_law02_PileCured, fn_law02_PileMore, fn_law02_PilePlays, fn_law02_PileSharp, fn_law02_PileBlamed, fn_law02_PileChecks, fn_law02_PileTrue, fn_law02_short, fn_law02_known, fn_law02_planned, fn_law02_asked, fn_law02_cured, fn_law02_narrow, fn_law02_within, fn_law02_tilts, fn_law02_percents, fn_law02_truth, fn_law02_wrong, fn_law02_Site, fn_law02_Thaws, fn_law02_part, fn_strconv_Itoa, fn_strconv_Itoa_121, fn_strconv_FormatInt, fn_strconv_small, fn_strconv_formatBase10, fn_strconv_formatBits, fn_strconv_bool2_int⟩
def lookT : List (Nat × Ent) → Nat → Option Ent
  | [], _ => none
  | (k, e) :: r, f => bif Nat.beq k f then some e else lookT r f
theorem lookT_mem : ∀ {l : List (Nat × Ent)} {f : Nat} {e : Ent}, lookT l f = some e → (f, e) ∈ l
  | [], f, e, h => by simp [lookT] at h
  | (k, x) :: r, f, e, h => by
    simp only [lookT] at h
    cases hb : Nat.beq k f with
    | true =>
      rw [hb] at h
      have := Nat.eq_of_beq_eq_true hb
      subst this
      cases h
      exact List.mem_cons_self
    | false =>
      rw [hb] at h
      exact List.mem_cons_of_mem _ (lookT_mem h)
def T (f : Nat) : Option Ent := lookT tab f
theorem kok {G : World → Prop} {X : Nat → List AV → Option AV} (hG : ∀ w w', G w → RowKit.Below w.heap.size w w' → G w') (hX : ∀ f args r, X f args = some r → Holds Tryd.prog G f args r) (K : Ctx) (hP : K.P = Tryd.prog) (hKG : K.G = G) : KOK T X K :=
  ⟨fun f e h => by rw [hP]; exact tabOK _ (lookT_mem h), by rw [hP]; kernel_rfl, by rw [hKG]; exact hG, by rw [hP, hKG]; exact hX⟩
def isRet (o : Option Out) (t : AV → Bool) : Bool := match o with | some (.en (.ret x) _) => t x | _ => false
def isB (b : Bool) : AV → Bool
  | .bool c => c == b
  | _ => false
theorem holds_closed {G : World → Prop} {X : Nat → List AV → Option AV} (hG : ∀ w w', G w → RowKit.Below w.heap.size w w' → G w') (hX : ∀ f args r, X f args = some r → Holds Tryd.prog G f args r) {f n : Nat} {b : Bool} (h0 : X f [] = none) (h : isRet (ev T X n (.call f [] [])) (isB b) = true) : Holds Tryd.prog G f [] (.bool b) := by
  unfold isRet at h
  split at h
  · rename_i x μ hev
    have hc := ev_sound _ _ _ hev
    simp only [Right] at hc
    unfold isB at h
    split at h
    · rename_i c
      have : c = b := by simpa using h
      subst this
      have hfn : FnOK Tryd.prog f := by
        cases n with
        | zero => simp [ev] at hev
        | succ n =>
          simp only [ev, evT, evCall, h0] at hev
          split at hev
          · cases hev
          · rename_i e he
            obtain ⟨fn, cd, h1, h2, h3, h4⟩ := tabOK _ (lookT_mem he)
            exact ⟨fn, h1, h2, by rw [h3]; rfl⟩
      exact holds_of_ev (kok hG hX) hG hc hfn (.same rfl)
    · cases h
  · cases h
end Go.Proofs.YtibgfmhddcibcaaDoor

/- strconv.Itoa as a contract over trees, by the library's shelf; the numerals as the kernel reckons them. -/
set_option linter.unusedVariables false
set_option linter.unusedSimpArgs false
namespace Go.Proofs.YtibgfmhddcibcaaDoor
open Go Go.Av Go.Tk Go.RowKit

/-- The library's table lies as it is laid. -/
def GT (w : World) : Prop := Lib.TabIs Tryd.prog w "internal/strconv.uint64pow10" .u64 Lib.pow10Tab

theorem hGT : ∀ w w', GT w → RowKit.Below w.heap.size w w' → GT w' := by
  intro w w' h hb
  unfold GT Lib.TabIs World.var? at *
  cases hg : Tryd.prog.globalNamed "internal/strconv.uint64pow10" with
  | none => rw [hg] at h; cases h
  | some g =>
    rw [hg] at h
    simp only [Option.bind_some] at h ⊢
    have hlt : g < w.heap.size := by
      cases hv : w.heap[g]? with
      | none => rw [hv] at h; cases h
      | some o => exact (Array.getElem?_eq_some_iff.1 hv).1
    rw [hb.block g hlt]
    exact h

theorem grow_below (w : World) (k : Nat) (os : Array Obj) : RowKit.Below w.heap.size w (Sort.grow (w.drewN k) os) := by
  have hh : (w.drewN k).heap = w.heap := by
    induction k with
    | zero => rfl
    | succ k ih => exact ih
  refine ⟨rfl, rfl, rfl, ?_, fun b hb => ?_⟩
  · simp only [Sort.grow, hh, Array.size_append]; omega
  · simp only [Sort.grow, hh, Array.getElem?_append_left hb]

theorem strconv_Itoa {G : World → Prop} (hT : ∀ w, G w → GT w) (n : Int) (h0 : -9223372036854775808 ≤ n) (h1 : n ≤ 9223372036854775807) : Av.Holds Tryd.prog G F.strconv_Itoa [I n] (.str ⟨(Lib.itoa n).toArray⟩) := by
  obtain ⟨fn, cd, q1, q2, q3, q4⟩ := fn_strconv_Itoa
  refine ⟨⟨fn, q1, q2, by rw [q3]; rfl⟩, fun w vs S hGw hS hl hv => ?_⟩
  have hvs : vs = #[.int .i64 n] := by
    have e0 := hv 0 (I n) (vs[0]'(by rw [hl]; simp)) rfl (Array.getElem?_eq_getElem _)
    have e1 : vs[0]'(by rw [hl]; simp) = .int .i64 n := by
      generalize vs[0]'(by rw [hl]; simp) = z at e0
      cases e0; rfl
    apply Array.ext
    · simpa using hl
    · intro i h1 h2
      have : i = 0 := by simp at h2; omega
      subst this
      simpa using e1
  subst hvs
  refine (Tryd.strconv_Itoa n h0 h1 w (hT w hGw)).mono ?_
  rintro e w' ⟨rfl, k, os, rfl⟩
  exact ⟨_, S, rfl, grow_below w k os, fun _ h => h, fun b hb => Nat.lt_of_lt_of_le (hS b hb) (grow_below w k os).size, fun b hb _ => hb, .str _⟩

/-- The digits, with fuel. -/
def ddK : Nat → Nat → List UInt8
  | 0, _ => []
  | f + 1, u => bif Nat.blt u 10 then [UInt8.ofNat (48 + u)] else ddK f (u / 10) ++ [UInt8.ofNat (48 + u % 10)]

theorem ddK_eq : ∀ (f u : Nat), u < 10 ^ f → ddK f u = Lib.decDigits u ∨ f = 0
  | 0, u, _ => .inr rfl
  | f + 1, u, h => by
    left
    rw [Lib.decDigits]
    simp only [ddK]
    by_cases hu : u < 10
    · rw [dif_pos hu]
      have : Nat.blt u 10 = true := by rw [Nat.blt_eq]; exact hu
      rw [this]; rfl
    · rw [dif_neg hu]
      have : Nat.blt u 10 = false := by rw [Bool.eq_false_iff]; intro hb; rw [Nat.blt_eq] at hb; exact hu hb
      rw [this]
      simp only [cond_false]
      have hd : u / 10 < 10 ^ f := by rw [Nat.div_lt_iff_lt_mul (by omega)]; rw [Nat.pow_succ] at h; exact h
      rcases ddK_eq f (u / 10) hd with h2 | h2
      · rw [h2]
      · subst h2
        simp at h
        omega

def itoaK (n : Int) : List UInt8 :=
  match n with
  | .ofNat u => ddK 20 u
  | .negSucc u => 45 :: ddK 20 (u + 1)

theorem itoaK_eq {n : Int} (h0 : -9223372036854775808 ≤ n) (h1 : n ≤ 9223372036854775807) : itoaK n = Lib.itoa n := by
  unfold itoaK Lib.itoa
  cases n with
  | ofNat u =>
    have : ¬ (Int.ofNat u < 0) := Int.not_lt.2 (Int.natCast_nonneg u)
    rw [if_neg this]
    rcases ddK_eq 20 u (by simp at h1; omega) with h | h
    · simpa using h
    · omega
  | negSucc u =>
    have : Int.negSucc u < 0 := by omega
    rw [if_pos this]
    rcases ddK_eq 20 (u + 1) (by omega) with h | h
    · simp only [h]; rfl
    · omega

/-- The contracts that the evaluator asks for. -/
def X (f : Nat) (args : List AV) : Option AV :=
  bif Nat.beq f F.strconv_Itoa then
    match args with
    | [.int .i64 n] => if -9223372036854775808 ≤ n ∧ n ≤ 9223372036854775807 then some (.str ⟨(itoaK n).toArray⟩) else none
    | _ => none
  else none

theorem hX {G : World → Prop} (hT : ∀ w, G w → GT w) : ∀ f args r, X f args = some r → Av.Holds Tryd.prog G f args r := by
  intro f args r h
  unfold X at h
  cases hb : Nat.beq f F.strconv_Itoa with
  | false => rw [hb] at h; cases h
  | true =>
    have := Nat.eq_of_beq_eq_true hb
    subst this
    rw [hb] at h
    simp only [cond_true] at h
    split at h
    · split at h
      · rename_i hn
        cases h
        rw [itoaK_eq hn.1 hn.2]
        exact strconv_Itoa hT _ hn.1 hn.2
      · cases h
    · cases h

end Go.Proofs.YtibgfmhddcibcaaDoor

/- The document's examples: reckoned by the evaluator, checked by the kernel. -/
set_option maxRecDepth 100000
namespace Go.Proofs.YtibgfmhddcibcaaDoor
open Go Go.Av
theorem known_true : isRet (ev T X 3000 (.call F.law02_known [] [])) (isB true) = true := by kernel_rfl
theorem law02_known {G : World → Prop} (hG : ∀ w w', G w → RowKit.Below w.heap.size w w' → G w') (hT : ∀ w, G w → GT w) : Holds Tryd.prog G F.law02_known [] (.bool true) :=
  holds_closed hG (hX hT) rfl known_true
end Go.Proofs.YtibgfmhddcibcaaDoor
