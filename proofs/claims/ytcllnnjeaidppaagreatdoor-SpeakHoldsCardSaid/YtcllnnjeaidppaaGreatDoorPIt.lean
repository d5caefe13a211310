/- The library's functions as contracts over trees, by its shelf; the numerals as the kernel reckons them. -/
import Derived.Test.YtcllnnjeaidppaaGreatDoorPShelf
import Derived.Test.YtcllnnjeaidppaaGreatDoorPZCode
import Derived.Test.YtcllnnjeaidppaaGreatDoorPN3
import Derived.Test.YtcllnnjeaidppaaGreatDoorPMq
set_option linter.unusedVariables false
set_option linter.unusedSimpArgs false
set_option linter.unusedSectionVars false
namespace Go.Tk
theorem split_len (c : UInt8) : ∀ l : Bts, (splitL c l).length ≤ l.length + 1
  | [] => by simp [splitL]
  | b :: l => by
    have ih := split_len c l
    unfold splitL
    split
    · simp; omega
    · split
      · rename_i h; rw [h] at ih; simp at ih ⊢; omega
      · simp
end Go.Tk
namespace Go.Proofs.YtcllnnjeaidppaaGreatDoor
open Go Go.Av Go.Tk Go.RowKit
/-- The library's variable lies as it is laid. -/
def GB (w : World) : Prop := ∃ m, w.cell? ⟨0, 0, none⟩ = some (.int .i64 m)
theorem cell_below {w w' : World} {b o : Nat} {v : Value} (h : w.cell? ⟨b, o, none⟩ = some v) (hb : RowKit.Below w.heap.size w w') : w'.cell? ⟨b, o, none⟩ = some v := by
  have hlt : b < w.heap.size := by
    cases hv : w.heap[b]? with
    | none => simp [World.cell?, hv] at h
    | some o => exact (Array.getElem?_eq_some_iff.1 hv).1
  rw [cell_same (hb.block b hlt)]
  exact h
theorem hGB : ∀ w w', GB w → RowKit.Below w.heap.size w w' → GB w' := by
  rintro w w' ⟨m, h⟩ hb
  exact ⟨m, cell_below h hb⟩
theorem args1 {vs : Array Value} {w : World} {S : Nat → Prop} {x : AV} {v : Value} (hl : vs.size = 1) (hv : ∀ (i : Nat) c u, [x][i]? = some c → vs[i]? = some u → VT S w c u) (hx : ∀ u, VT S w x u → u = v) : vs = #[v] := by
  have e1 : vs[0]'(by omega) = v := hx _ (hv 0 x _ rfl (Array.getElem?_eq_getElem _))
  apply Array.ext
  · simpa using hl
  · intro i h1 h2
    have : i = 0 := by simp at h2; omega
    subst this
    simpa using e1
theorem args2 {vs : Array Value} {w : World} {S : Nat → Prop} {x y : AV} {v u : Value} (hl : vs.size = 2) (hv : ∀ (i : Nat) c u, [x, y][i]? = some c → vs[i]? = some u → VT S w c u) (hx : ∀ z, VT S w x z → z = v) (hy : ∀ z, VT S w y z → z = u) : vs = #[v, u] := by
  have e1 : vs[0]'(by omega) = v := hx _ (hv 0 x _ rfl (Array.getElem?_eq_getElem _))
  have e2 : vs[1]'(by omega) = u := hy _ (hv 1 y _ rfl (Array.getElem?_eq_getElem _))
  apply Array.ext
  · simpa using hl
  · intro i h1 h2
    have : i = 0 ∨ i = 1 := by simp at h2; omega
    rcases this with rfl | rfl
    · simpa using e1
    · simpa using e2
theorem vt_str {S : Nat → Prop} {w : World} {s : ByteArray} {v : Value} (h : VT S w (.str s) v) : v = .string s := by cases h; rfl
theorem vt_int {S : Nat → Prop} {w : World} {k : IntKind} {n : Int} {v : Value} (h : VT S w (.int k n) v) : v = .int k n := by cases h; rfl
abbrev strCs (l : Bts) : List AV := [.str (strB l)]
theorem strconv_Itoa {G : World → Prop} (n : Nat) (h : n < 100) : Av.Holds Tryz.prog G F.strconv_Itoa [I n] (.str (strB (Lib.decDigits n))) := by
  obtain ⟨fn, cd, q1, q2, q3, q4⟩ := fn_strconv_Itoa
  refine ⟨⟨fn, q1, q2, by rw [q3]; rfl⟩, fun w vs S hGw hS hl hv => ?_⟩
  rw [args1 (by simpa using hl) hv fun u hu => vt_int hu]
  refine (Tryz.strconv_Itoa_small n h w).mono ?_
  rintro e w' ⟨rfl, rfl⟩
  exact ⟨_, S, rfl, RowKit.Below.refl _ _, fun _ h => h, hS, fun b hb _ => hb, .str _⟩
section
variable {G : World → Prop} (hT : ∀ w, G w → GB w)
include hT
theorem strings_Split (s : Bts) (c : UInt8) (hs : s.length ≤ 1000000) : Av.Holds Tryz.prog G F.strings_Split [.str (strB s), .str (strB [c])] (slOf strCs (splitL c s)) := by
  obtain ⟨fn, cd, q1, q2, q3, q4⟩ := fn_strings_Split
  refine ⟨⟨fn, q1, q2, by rw [q3]; rfl⟩, fun w vs S hGw hS hl hv => ?_⟩
  rw [args2 (by simpa using hl) hv (fun u hu => vt_str hu) fun u hu => vt_str hu]
  obtain ⟨m, hm⟩ := hT w hGw
  refine (Tryz.strings_Split (strB s) (strB [c]) m w (by rw [strB_size]; omega) hm (by rw [strB_size]; simp)).mono ?_
  rintro e w' ⟨rfl, rfl⟩
  rw [splitB_eq, countB_len]
  have hle := split_len c s
  refine ⟨_, fun b => S b ∨ b = w.heap.size, rfl, (RowKit.Below.refl _ _).alloc (Nat.le_refl _) _, fun _ h => .inl h, fun b hb => ?_, fun b hb hlt => hb.elim id fun e => absurd e (by omega), ?_⟩
  · have hsz : (w.alloc (.cells (List.map Value.string (List.map strB (splitL c s))).toArray 9)).heap.size = w.heap.size + 1 := by
      show (w.heap.push _).size = _
      rw [Array.size_push]
    rw [hsz]
    rcases hb with hb | rfl
    · have := hS b hb; omega
    · omega
  · refine .sl _ _ _ _ (fun i j => .string (strB ((splitL c s).getD i default))) (Nat.le_refl _) (by unfold maxLen; omega) (fun hn => ⟨w.heap.size, 0, 1, rfl, .inr rfl, fun i hi => ⟨rfl, fun j hj => ⟨?_, rfl⟩⟩⟩) fun i hi j x hx => ?_
    · have : j = 0 := by omega
      subst this
      rw [World.cell?_alloc_new, show 0 + (i * 1 + 0) = i by omega, List.getElem?_toArray, List.getElem?_map, List.getElem?_map, List.getElem?_eq_getElem hi, getD_lt hi]
      rfl
    · match j, hx with
      | 0, hx => cases hx; exact .str _
      | j + 1, hx => simp at hx
omit hT in
theorem strings_Join (l : List Bts) (sep : Bts) (hl : l.length ≤ 100000) (hs : (Lib.join l sep).length ≤ 100000) : Av.Holds Tryz.prog G F.strings_Join [slOf strCs l, .str (strB sep)] (.str (strB (Lib.join l sep))) := by
  obtain ⟨fn, cd, q1, q2, q3, q4⟩ := fn_strings_Join
  refine ⟨⟨fn, q1, q2, by rw [q3]; rfl⟩, fun w vs S hGw hS hlv hv => ?_⟩
  have h0 := hv 0 _ _ rfl (Array.getElem?_eq_getElem (show 0 < vs.size by rw [hlv]; simp))
  have h1 := hv 1 _ _ rfl (Array.getElem?_eq_getElem (show 1 < vs.size by rw [hlv]; simp))
  have hvs : vs = #[vs[0]'(by rw [hlv]; simp), vs[1]'(by rw [hlv]; simp)] := by
    apply Array.ext
    · simpa using hlv
    · intro i q1 q2
      have : i = 0 ∨ i = 1 := by simp at q2; omega
      rcases this with rfl | rfl <;> rfl
  rw [hvs, vt_str h1]
  generalize vs[0]'(by rw [hlv]; simp) = v0 at h0
  cases h0 with
  | sl _ _ a cap val g1 g2 g3 g4 =>
    by_cases hm : l.length = 0
    · have hnil : l = [] := List.eq_nil_of_length_eq_zero hm
      subst hnil
      refine (Tryz.strings_Join_none a cap (strB sep) w).mono ?_
      rintro e w' ⟨rfl, rfl⟩
      exact ⟨_, S, rfl, RowKit.Below.refl _ _, fun _ h => h, hS, fun b hb _ => hb, by
        have : (⟨#[]⟩ : ByteArray) = strB (Lib.join [] sep) := rfl
        rw [this]; exact .str _⟩
    · obtain ⟨b, o, sz, rfl, hb, hc⟩ := g3 (by omega)
      have hcells : ∀ (j : Nat) x, (l.map strB)[j]? = some x → w.cell? ⟨b, o + j, none⟩ = some (.string x) := fun j x hx => by
        rw [List.getElem?_map] at hx
        obtain ⟨y, hy, rfl⟩ := Option.map_eq_some_iff.1 hx
        have hj : j < l.length := (List.getElem?_eq_some_iff.1 hy).1
        obtain ⟨k1, k2⟩ := hc j hj
        have hsz : sz = 1 := k1.symm
        subst hsz
        obtain ⟨k3, -⟩ := k2 0 (by omega)
        have k5 := g4 j hj 0 _ rfl
        rw [vt_str k5] at k3
        rw [show o + (j * 1 + 0) = o + j by omega, getD_lt hj] at k3
        rw [k3]
        have : l[j] = y := (List.getElem?_eq_some_iff.1 hy).2
        rw [this]
      have hmap : (l.map strB).map (·.data.toList) = l := by
        rw [List.map_map]
        conv => rhs; rw [← List.map_id l]
        exact List.map_congr_left fun x _ => strB_list x
      have hcap : l.length ≤ cap := g1
      have := Tryz.strings_Join b o cap (l.map strB) (strB sep) w hcells (hS b hb) (by rw [List.length_map]; omega) (by rw [List.length_map]; exact hcap) (by rw [hmap, strB_list]; omega)
      rw [hmap, strB_list, List.length_map] at this
      refine this.mono ?_
      rintro e w' ⟨rfl, hbl⟩
      exact ⟨_, S, rfl, hbl, fun _ h => h, fun b hb => Nat.lt_of_lt_of_le (hS b hb) hbl.size, fun b hb _ => hb, .str _⟩
end
def ddK : Nat → Nat → List UInt8
  | 0, _ => []
  | f + 1, u => bif Nat.blt u 10 then [UInt8.ofNat (48 + u)] else ddK f (u / 10) ++ [UInt8.ofNat (48 + u % 10)]
theorem ddK_eq : ∀ (f u : Nat), u < 10 ^ f → ddK f u = Lib.decDigits u ∨ f = 0
  | 0, u, _ => .inr rfl
  | f + 1, u, h => by
    left
    rw [Lib.decDigits]
    simp only [ddK]
    by_cases hu : u < 10
    · rw [dif_pos hu]
      have : Nat.blt u 10 = true := by rw [Nat.blt_eq]; exact hu
      rw [this]; rfl
    · rw [dif_neg hu]
      have : Nat.blt u 10 = false := by rw [Bool.eq_false_iff]; intro hb; rw [Nat.blt_eq] at hb; exact hu hb
      rw [this]
      simp only [cond_false]
      have hd : u / 10 < 10 ^ f := by rw [Nat.div_lt_iff_lt_mul (by omega)]; rw [Nat.pow_succ] at h; exact h
      rcases ddK_eq f (u / 10) hd with h2 | h2
      · rw [h2]
      · subst h2
        simp at h
        omega

/-- The contracts that the evaluator asks for. -/
def strsOf (n : Nat) (f : Nat → List AV) : Nat → Option (List Bts)
  | 0 => some []
  | k + 1 => match strsOf n f k, f k with
    | some l, [.str b] => some (l ++ [b.data.toList])
    | _, _ => none
def X (f : Nat) (args : List AV) : Option AV :=
  bif Nat.beq f F.strconv_Itoa then
    match args with
    | [.int .i64 (.ofNat u)] => bif Nat.blt u 100 then some (.str (strB (ddK 3 u))) else none
    | _ => none
  else bif Nat.beq f F.strings_Split then
    match args with
    | [.str s, .str sep] => match sep.data.toList with
      | [c] => bif Nat.ble s.size 1000000 then some (slOf strCs (splitL c s.data.toList)) else none
      | _ => none
    | _ => none
  else bif Nat.beq f F.strings_Join then
    match args with
    | [.sl n g, .str sep] => match strsOf n g n with
      | some l => bif Nat.ble n 100000 && Nat.ble (Lib.join l sep.data.toList).length 100000 then some (.str (strB (Lib.join l sep.data.toList))) else none
      | none => none
    | _ => none
  else none
theorem strsOf_get {n : Nat} {f : Nat → List AV} : ∀ {k : Nat} {l : List Bts}, strsOf n f k = some l → l.length = k ∧ ∀ i, i < k → f i = strCs (l.getD i default)
  | 0, l, h => by cases h; exact ⟨rfl, fun i hi => absurd hi (Nat.not_lt_zero _)⟩
  | k + 1, l, h => by
    unfold strsOf at h
    split at h
    · rename_i l0 b h0 h1
      cases h
      obtain ⟨e1, e2⟩ := strsOf_get h0
      refine ⟨by simp [e1], fun i hi => ?_⟩
      by_cases hik : i < k
      · rw [e2 i hik, getD_lt (by omega), getD_lt (by simp; omega), List.getElem_append_left (by omega)]
      · have : i = k := by omega
        subst this
        rw [h1, getD_lt (by simp; omega), List.getElem_append_right (by omega)]
        simp only [e1, Nat.sub_self, List.getElem_cons_zero]
        show [AV.str b] = [AV.str (strB b.data.toList)]
        rw [strB_of]
    · cases h
theorem hX {G : World → Prop} (hT : ∀ w, G w → GB w) : ∀ f args r, X f args = some r → Av.Holds Tryz.prog G f args r := by
  intro f args r h
  unfold X at h
  cases hb : Nat.beq f F.strconv_Itoa with
  | true =>
    have := Nat.eq_of_beq_eq_true hb
    subst this
    simp only [hb, cond_true] at h
    split at h
    · rename_i u
      cases hu : Nat.blt u 100 with
      | false => rw [hu] at h; cases h
      | true =>
        rw [hu] at h
        cases h
        rw [Nat.blt_eq] at hu
        rcases ddK_eq 3 u (by omega) with h2 | h2
        · rw [h2]; exact strconv_Itoa u hu
        · omega
    · cases h
  | false =>
  simp only [hb, cond_false] at h
  cases hb2 : Nat.beq f F.strings_Split with
  | true =>
    have := Nat.eq_of_beq_eq_true hb2
    subst this
    simp only [hb2, cond_true] at h
    split at h
    · rename_i s sep
      split at h
      · rename_i c hc
        cases hl : Nat.ble s.size 1000000 with
        | false => rw [hl] at h; cases h
        | true =>
          rw [hl] at h
          cases h
          have hl' := Nat.le_of_ble_eq_true hl
          have := strings_Split hT s.data.toList c (by rw [← strB_size, strB_of]; exact hl')
          rw [strB_of, ← hc, strB_of] at this
          exact this
      · cases h
    · cases h
  | false =>
  simp only [hb2, cond_false] at h
  cases hb3 : Nat.beq f F.strings_Join with
  | true =>
    have := Nat.eq_of_beq_eq_true hb3
    subst this
    simp only [hb3, cond_true] at h
    split at h
    · rename_i n g sep
      split at h
      · rename_i l hl
        cases hc : Nat.ble n 100000 && Nat.ble (Lib.join l sep.data.toList).length 100000 with
        | false => rw [hc] at h; cases h
        | true =>
          rw [hc] at h
          cases h
          rw [Bool.and_eq_true] at hc
          obtain ⟨e1, e2⟩ := strsOf_get hl
          have := strings_Join (G := G) l sep.data.toList (by rw [e1]; exact Nat.le_of_ble_eq_true hc.1) (Nat.le_of_ble_eq_true hc.2)
          rw [strB_of] at this
          refine this.conv rfl fun i x x' q1 q2 S w v q3 => ?_
          match i, q1, q2 with
          | 0, q1, q2 =>
            cases q1; cases q2
            unfold slOf
            rw [e1]
            exact q3.sl_congr fun i hi => e2 i hi
          | 1, q1, q2 => cases q1; cases q2; exact q3
          | i + 2, q1, q2 => simp at q1
      · cases h
    · cases h
  | false => simp only [hb3, cond_false] at h; cases h
end Go.Proofs.YtcllnnjeaidppaaGreatDoor
