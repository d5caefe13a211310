/- The library's functions as contracts over trees, by its shelf; the numerals as the kernel reckons them. -/
import Derived.Test.YtojkchniefhafaaGreatDoorPShelf
import Derived.Test.YtojkchniefhafaaGreatDoorPZCode
import Derived.Test.YtojkchniefhafaaGreatDoorPN3
import Derived.Test.YtojkchniefhafaaGreatDoorPMq
set_option linter.unusedVariables false
set_option linter.unusedSimpArgs false
set_option linter.unusedSectionVars false
namespace Go.Tk
theorem split_len (c : UInt8) : ∀ l : Bts, (splitL c l).length ≤ l.length + 1
  | [] => by simp [splitL]
  | b :: l => by
    have ih := split_len c l
    unfold splitL
    split
    · simp; omega
    · split
      · rename_i h; rw [h] at ih; simp at ih ⊢; omega
      · simp
end Go.Tk
namespace Go.Proofs.YtojkchniefhafaaGreatDoor
open Go Go.Av Go.Tk Go.RowKit
/-- The library's tables and errors lie as they are laid. -/
def GB (w : World) : Prop := Lib.TabIs Tryz.prog w "internal/strconv.uint64pow10" .u64 Lib.pow10Tab ∧ (∃ tp p, w.var? Tryz.prog "strconv.ErrSyntax" = some #[.iface tp p]) ∧ (∃ tp p, w.var? Tryz.prog "strconv.ErrRange" = some #[.iface tp p]) ∧ ∃ m, w.cell? ⟨1, 0, none⟩ = some (.int .i64 m)
theorem var_below {P : Program} {w w' : World} {n : String} {a : Array Value} (h : w.var? P n = some a) (hb : RowKit.Below w.heap.size w w') : w'.var? P n = some a := by
  unfold World.var? at *
  cases hg : P.globalNamed n with
  | none => rw [hg] at h; cases h
  | some g =>
    rw [hg] at h
    simp only [Option.bind_some] at h ⊢
    have hlt : g < w.heap.size := by
      cases hv : w.heap[g]? with
      | none => rw [hv] at h; cases h
      | some o => exact (Array.getElem?_eq_some_iff.1 hv).1
    rw [hb.block g hlt]
    exact h
theorem cell_below {w w' : World} {b o : Nat} {v : Value} (h : w.cell? ⟨b, o, none⟩ = some v) (hb : RowKit.Below w.heap.size w w') : w'.cell? ⟨b, o, none⟩ = some v := by
  have hlt : b < w.heap.size := by
    cases hv : w.heap[b]? with
    | none => simp [World.cell?, hv] at h
    | some o => exact (Array.getElem?_eq_some_iff.1 hv).1
  rw [cell_same (hb.block b hlt)]
  exact h
theorem hGB : ∀ w w', GB w → RowKit.Below w.heap.size w w' → GB w' := by
  rintro w w' ⟨h1, ⟨t2, p2, h2⟩, ⟨t3, p3, h3⟩, m, h4⟩ hb
  refine ⟨?_, ⟨t2, p2, var_below h2 hb⟩, ⟨t3, p3, var_below h3 hb⟩, m, cell_below h4 hb⟩
  unfold Lib.TabIs at *
  exact var_below h1 hb
theorem grow_below (w : World) (k : Nat) (os : Array Obj) : RowKit.Below w.heap.size w (Sort.grow (w.drewN k) os) := by
  have hh : (w.drewN k).heap = w.heap := by
    induction k with
    | zero => rfl
    | succ k ih => exact ih
  refine ⟨rfl, rfl, rfl, ?_, fun b hb => ?_⟩
  · simp only [Sort.grow, hh, Array.size_append]; omega
  · simp only [Sort.grow, hh, Array.getElem?_append_left hb]

theorem args1 {vs : Array Value} {w : World} {S : Nat → Prop} {x : AV} {v : Value} (hl : vs.size = 1) (hv : ∀ (i : Nat) c u, [x][i]? = some c → vs[i]? = some u → VT S w c u) (hx : ∀ u, VT S w x u → u = v) : vs = #[v] := by
  have e1 : vs[0]'(by omega) = v := hx _ (hv 0 x _ rfl (Array.getElem?_eq_getElem _))
  apply Array.ext
  · simpa using hl
  · intro i h1 h2
    have : i = 0 := by simp at h2; omega
    subst this
    simpa using e1
theorem args2 {vs : Array Value} {w : World} {S : Nat → Prop} {x y : AV} {v u : Value} (hl : vs.size = 2) (hv : ∀ (i : Nat) c u, [x, y][i]? = some c → vs[i]? = some u → VT S w c u) (hx : ∀ z, VT S w x z → z = v) (hy : ∀ z, VT S w y z → z = u) : vs = #[v, u] := by
  have e1 : vs[0]'(by omega) = v := hx _ (hv 0 x _ rfl (Array.getElem?_eq_getElem _))
  have e2 : vs[1]'(by omega) = u := hy _ (hv 1 y _ rfl (Array.getElem?_eq_getElem _))
  apply Array.ext
  · simpa using hl
  · intro i h1 h2
    have : i = 0 ∨ i = 1 := by simp at h2; omega
    rcases this with rfl | rfl
    · simpa using e1
    · simpa using e2
theorem vt_str {S : Nat → Prop} {w : World} {s : ByteArray} {v : Value} (h : VT S w (.str s) v) : v = .string s := by cases h; rfl
theorem vt_int {S : Nat → Prop} {w : World} {k : IntKind} {n : Int} {v : Value} (h : VT S w (.int k n) v) : v = .int k n := by cases h; rfl
section
variable {G : World → Prop} (hT : ∀ w, G w → GB w)
include hT
theorem strconv_Itoa (n : Int) (h0 : -9223372036854775808 ≤ n) (h1 : n ≤ 9223372036854775807) : Av.Holds Tryz.prog G F.strconv_Itoa [I n] (.str (strB (Lib.itoa n))) := by
  obtain ⟨fn, cd, q1, q2, q3, q4⟩ := fn_strconv_Itoa
  refine ⟨⟨fn, q1, q2, by rw [q3]; rfl⟩, fun w vs S hGw hS hl hv => ?_⟩
  rw [args1 (by simpa using hl) hv fun u hu => vt_int hu]
  refine (Tryz.strconv_Itoa n h0 h1 w (hT w hGw).1).mono ?_
  rintro e w' ⟨rfl, k, os, rfl⟩
  exact ⟨_, S, rfl, grow_below w k os, fun _ h => h, fun b hb => Nat.lt_of_lt_of_le (hS b hb) (grow_below w k os).size, fun b hb _ => hb, .str _⟩
theorem strings_CutSuffix (s p : Bts) (hs : s.length ≤ 1000000) : Av.Holds Tryz.prog G F.strings_CutSuffix [.str (strB s), .str (strB p)] (.tup [.str (strB (Lib.trimSuffix s p)), B (Lib.hasSuffix s p)]) := by
  obtain ⟨fn, cd, q1, q2, q3, q4⟩ := fn_strings_CutSuffix
  refine ⟨⟨fn, q1, q2, by rw [q3]; rfl⟩, fun w vs S hGw hS hl hv => ?_⟩
  rw [args2 (by simpa using hl) hv (fun u hu => vt_str hu) fun u hu => vt_str hu]
  refine (Tryz.strings_CutSuffix (strB s) (strB p) w (by rw [strB_size]; omega)).mono ?_
  rintro e w' ⟨rfl, rfl⟩
  rw [strB_list, strB_list]
  refine ⟨_, S, rfl, RowKit.Below.refl _ _, fun _ h => h, hS, fun b hb _ => hb, .tup _ _ rfl fun i c v a b => ?_⟩
  match i, a, b with
  | 0, a, b => cases a; cases b; exact .str _
  | 1, a, b => cases a; cases b; exact .bool _
  | i + 2, a, b => simp at a
theorem strings_TrimPrefix (s p : Bts) : Av.Holds Tryz.prog G F.strings_TrimPrefix [.str (strB s), .str (strB p)] (.str (strB (Lib.trimPrefix s p))) := by
  obtain ⟨fn, cd, q1, q2, q3, q4⟩ := fn_strings_TrimPrefix
  refine ⟨⟨fn, q1, q2, by rw [q3]; rfl⟩, fun w vs S hGw hS hl hv => ?_⟩
  rw [args2 (by simpa using hl) hv (fun u hu => vt_str hu) fun u hu => vt_str hu]
  refine (Tryz.strings_TrimPrefix (strB s) (strB p) w).mono ?_
  rintro e w' ⟨rfl, rfl⟩
  rw [strB_list, strB_list]
  exact ⟨_, S, rfl, RowKit.Below.refl _ _, fun _ h => h, hS, fun b hb _ => hb, .str _⟩
abbrev strCs (l : Bts) : List AV := [.str (strB l)]
theorem strings_Split (s : Bts) (c : UInt8) (hs : s.length ≤ 1000000) : Av.Holds Tryz.prog G F.strings_Split [.str (strB s), .str (strB [c])] (slOf strCs (splitL c s)) := by
  obtain ⟨fn, cd, q1, q2, q3, q4⟩ := fn_strings_Split
  refine ⟨⟨fn, q1, q2, by rw [q3]; rfl⟩, fun w vs S hGw hS hl hv => ?_⟩
  rw [args2 (by simpa using hl) hv (fun u hu => vt_str hu) fun u hu => vt_str hu]
  obtain ⟨-, -, -, m, hm⟩ := hT w hGw
  refine (Tryz.strings_Split (strB s) (strB [c]) m w (by rw [strB_size]; omega) hm (by rw [strB_size]; simp)).mono ?_
  rintro e w' ⟨rfl, rfl⟩
  rw [splitB_eq, countB_len]
  have hle := split_len c s
  refine ⟨_, fun b => S b ∨ b = w.heap.size, rfl, (RowKit.Below.refl _ _).alloc (Nat.le_refl _) _, fun _ h => .inl h, fun b hb => ?_, fun b hb hlt => hb.elim id fun e => absurd e (by omega), ?_⟩
  · have hsz : (w.alloc (.cells (List.map Value.string (List.map strB (splitL c s))).toArray 9)).heap.size = w.heap.size + 1 := by
      show (w.heap.push _).size = _
      rw [Array.size_push]
    rw [hsz]
    rcases hb with hb | rfl
    · have := hS b hb; omega
    · omega
  · refine .sl _ _ _ _ (fun i j => .string (strB ((splitL c s).getD i default))) (Nat.le_refl _) (by unfold maxLen; omega) (fun hn => ⟨w.heap.size, 0, 1, rfl, .inr rfl, fun i hi => ⟨rfl, fun j hj => ⟨?_, rfl⟩⟩⟩) fun i hi j x hx => ?_
    · have : j = 0 := by omega
      subst this
      rw [World.cell?_alloc_new, show 0 + (i * 1 + 0) = i by omega, List.getElem?_toArray, List.getElem?_map, List.getElem?_map, List.getElem?_eq_getElem hi, getD_lt hi]
      rfl
    · match j, hx with
      | 0, hx => cases hx; exact .str _
      | j + 1, hx => simp at hx
/-- What strconv.Atoi hands back. -/
def atoiV (s : Bts) : AV := match Lib.atoiAll s with
  | .ok v => .tup [I v, .nilif]
  | .range => .tup [I (Lib.atoiSat s), .iface 180 (.tptr [] 0)]
  | _ => .tup [I 0, .iface 180 (.tptr [] 0)]
omit hT in
theorem vt_err {S : Nat → Prop} {w : World} {n : Int} {N : Nat} (h : S N) : VT S w (.tup [I n, .iface 180 (.tptr [] 0)]) (.tuple #[.int .i64 n, .iface 180 (.pointer (some ⟨N, 0, none⟩))]) := by
  refine .tup _ _ rfl fun i c v a b => ?_
  match i, a, b with
  | 0, a, b => cases a; cases b; exact .int _ _
  | 1, a, b => cases a; cases b; exact .iface _ _ _ (.tptr [] 0 N 0 (fun _ => .nilIface) h (fun j hj => absurd hj (Nat.not_lt_zero _)) fun j c hj => by simp at hj)
  | i + 2, a, b => simp at a
theorem strconv_Atoi (s : Bts) (hs : s.length ≤ 1000000) : Av.Holds Tryz.prog G F.strconv_Atoi [.str (strB s)] (atoiV s) := by
  obtain ⟨fn, cd, q1, q2, q3, q4⟩ := fn_strconv_Atoi
  refine ⟨⟨fn, q1, q2, by rw [q3]; rfl⟩, fun w vs S hGw hS hl hv => ?_⟩
  rw [args1 (by simpa using hl) hv fun u hu => vt_str hu]
  obtain ⟨-, ⟨t1, p1, g1⟩, ⟨t2, p2, g2⟩, -⟩ := hT w hGw
  have e := strB_list s
  unfold atoiV
  cases ha : Lib.atoiAll s with
  | ok v =>
    refine (Tryz.strconv_Atoi_ok (strB s) (by rw [strB_size]; omega) v (by rw [e]; exact ha) w).mono ?_
    rintro e w' ⟨rfl, hw⟩
    have hb : RowKit.Below w.heap.size w w' := by
      rcases hw with rfl | ⟨t, rfl⟩
      · exact RowKit.Below.refl _ _
      · exact Lib.bytesWorld_below _ _ _
    refine ⟨_, S, rfl, hb, fun _ h => h, fun b h => Nat.lt_of_lt_of_le (hS b h) hb.size, fun b h _ => h, .tup _ _ rfl fun i c u a b => ?_⟩
    match i, a, b with
    | 0, a, b => cases a; cases b; exact .int _ _
    | 1, a, b => cases a; cases b; exact .nilif
    | i + 2, a, b => simp at a
  | range =>
    refine (Tryz.strconv_Atoi_range_var (strB s) (by rw [strB_size]; omega) (by rw [e]; exact ha) t2 p2 w g2).mono ?_
    rintro e' w' ⟨N, rfl, hN, hc, hb⟩
    have hlt := (Array.getElem?_eq_some_iff.1 hc).1
    rw [e]
    exact ⟨_, fun b => S b ∨ b = N, rfl, hb, fun _ h => .inl h, fun b h => h.elim (fun h => Nat.lt_of_lt_of_le (hS b h) hb.size) fun h => h ▸ hlt, fun b h hl => h.elim id fun e => absurd e (by omega), vt_err (.inr rfl)⟩
  | _ =>
    refine (Tryz.strconv_Atoi_syntax_var (strB s) (by rw [strB_size]; omega) (by rw [e]; exact ha) t1 p1 w g1).mono ?_
    rintro e w' ⟨N, rfl, hN, hc, hb⟩
    have hlt := (Array.getElem?_eq_some_iff.1 hc).1
    exact ⟨_, fun b => S b ∨ b = N, rfl, hb, fun _ h => .inl h, fun b h => h.elim (fun h => Nat.lt_of_lt_of_le (hS b h) hb.size) fun h => h ▸ hlt, fun b h hl => h.elim id fun e => absurd e (by omega), vt_err (.inr rfl)⟩
end
/-- The digits, with fuel. -/
def ddK : Nat → Nat → List UInt8
  | 0, _ => []
  | f + 1, u => bif Nat.blt u 10 then [UInt8.ofNat (48 + u)] else ddK f (u / 10) ++ [UInt8.ofNat (48 + u % 10)]

theorem ddK_eq : ∀ (f u : Nat), u < 10 ^ f → ddK f u = Lib.decDigits u ∨ f = 0
  | 0, u, _ => .inr rfl
  | f + 1, u, h => by
    left
    rw [Lib.decDigits]
    simp only [ddK]
    by_cases hu : u < 10
    · rw [dif_pos hu]
      have : Nat.blt u 10 = true := by rw [Nat.blt_eq]; exact hu
      rw [this]; rfl
    · rw [dif_neg hu]
      have : Nat.blt u 10 = false := by rw [Bool.eq_false_iff]; intro hb; rw [Nat.blt_eq] at hb; exact hu hb
      rw [this]
      simp only [cond_false]
      have hd : u / 10 < 10 ^ f := by rw [Nat.div_lt_iff_lt_mul (by omega)]; rw [Nat.pow_succ] at h; exact h
      rcases ddK_eq f (u / 10) hd with h2 | h2
      · rw [h2]
      · subst h2
        simp at h
        omega

def itoaK (n : Int) : List UInt8 :=
  match n with
  | .ofNat u => ddK 20 u
  | .negSucc u => 45 :: ddK 20 (u + 1)

theorem itoaK_eq {n : Int} (h0 : -9223372036854775808 ≤ n) (h1 : n ≤ 9223372036854775807) : itoaK n = Lib.itoa n := by
  unfold itoaK Lib.itoa
  cases n with
  | ofNat u =>
    have : ¬ (Int.ofNat u < 0) := Int.not_lt.2 (Int.natCast_nonneg u)
    rw [if_neg this]
    rcases ddK_eq 20 u (by simp at h1; omega) with h | h
    · simpa using h
    · omega
  | negSucc u =>
    have : Int.negSucc u < 0 := by omega
    rw [if_pos this]
    rcases ddK_eq 20 (u + 1) (by omega) with h | h
    · simp only [h]; rfl
    · omega

/-- The contracts that the evaluator asks for. -/
def X (f : Nat) (args : List AV) : Option AV :=
  bif Nat.beq f F.strconv_Itoa then
    match args with
    | [.int .i64 n] => if -9223372036854775808 ≤ n ∧ n ≤ 9223372036854775807 then some (.str (strB (itoaK n))) else none
    | _ => none
  else none

theorem hX {G : World → Prop} (hT : ∀ w, G w → GB w) : ∀ f args r, X f args = some r → Av.Holds Tryz.prog G f args r := by
  intro f args r h
  unfold X at h
  cases hb : Nat.beq f F.strconv_Itoa with
  | false => rw [hb] at h; cases h
  | true =>
    have := Nat.eq_of_beq_eq_true hb
    subst this
    rw [hb] at h
    simp only [cond_true] at h
    split at h
    · split at h
      · rename_i hn
        cases h
        rw [itoaK_eq hn.1 hn.2]
        exact strconv_Itoa hT _ hn.1 hn.2
      · cases h
    · cases h

end Go.Proofs.YtojkchniefhafaaGreatDoor
