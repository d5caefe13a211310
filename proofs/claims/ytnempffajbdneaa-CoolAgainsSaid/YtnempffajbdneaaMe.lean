/- The cool document's data as Lean's, and as trees. -/
import Derived.Test.YtnempffajbdneaaMda
import Derived.Test.YtnempffajbdneaaMdb
import Derived.Test.YtnempffajbdneaaMdc
import Derived.Test.YtnempffajbdneaaMdd
import Derived.Test.YtnempffajbdneaaMo

/- The cool document's data as Lean's, and as trees. -/
set_option linter.unusedVariables false
set_option linter.unusedSimpArgs false
set_option maxRecDepth 8000
namespace Go.Tk
open Go Go.Av
structure CoolHouse where
  need : Span
  grace : Int
  deriving Inhabited, DecidableEq
def CoolHouse.cs (h : CoolHouse) : List AV := [.int .i64 h.need.low, .int .i64 h.need.high, .int .i64 h.grace]
structure CoolSite where
  cost : Int
  weeks : Int
  gives : List Span
  deriving Inhabited, DecidableEq
def CoolSite.cs (s : CoolSite) : List AV := [.int .i64 s.cost, .int .i64 s.weeks, slOf Span.cs s.gives]
structure CoolTown where
  houses : List CoolHouse
  sites : List CoolSite
  deriving Inhabited, DecidableEq
def CoolTown.cs (t : CoolTown) : List AV := [slOf CoolHouse.cs t.houses, slOf CoolSite.cs t.sites]
structure CoolTruth where
  needs : List Int
  gives : List (List Int)
  deriving Inhabited, DecidableEq
def CoolTruth.cs (x : CoolTruth) : List AV := [slOf intCs x.needs, slOf intsCs x.gives]
end Go.Tk

namespace Go.Proofs.Ytnempffajbdneaa
open Go Go.Av Go.Tk
theorem hmix : Try.prog.follows .mixedOrders = true := by kernel_rfl
end Go.Proofs.Ytnempffajbdneaa

/- What freezing leaves alone. -/
set_option linter.unusedVariables false
namespace Go.Tk
open Go Go.Av
section
variable {id g sz n : Nat} {F : Nat → List AV}
theorem frz_span (t : Span) : frzL id g sz n F t.cs = t.cs := rfl
theorem frz_house (t : CoolHouse) : frzL id g sz n F t.cs = t.cs := rfl
theorem frz_csite (t : CoolSite) : frzL id g sz n F t.cs = t.cs := rfl
theorem frz_town (t : CoolTown) : frzL id g sz n F t.cs = t.cs := rfl
theorem frz_truth (t : CoolTruth) : frzL id g sz n F t.cs = t.cs := rfl
end
end Go.Tk

/- Sets as numbers' bits. -/
set_option linter.unusedVariables false
set_option linter.unusedSimpArgs false
namespace Go.Tk
open Go Go.Av
theorem i64_bits : IntKind.i64.bits = 64 := rfl
theorem wrapN {n : Nat} (h : n < 9223372036854775808) : IntKind.i64.wrap (n : Int) = n := wrap_i64' (by omega)
theorem shlN : ∀ n : Nat, n ≤ 15 → IntKind.i64.wrap (1 * 2 ^ (min n IntKind.i64.bits)) = ((2 ^ n : Nat) : Int) := by decide
theorem orN {a b : Nat} (ha : a < 1048576) (hb : b < 1048576) : IntKind.i64.wrap ((BitVec.ofInt IntKind.i64.bits (a : Int) ||| BitVec.ofInt IntKind.i64.bits (b : Int)).toNat : Int) = ((a ||| b : Nat) : Int) := by
  have h : (a ||| b) < 2 ^ 20 := Nat.or_lt_two_pow (n := 20) ha hb
  rw [BitVec.ofInt_natCast, BitVec.ofInt_natCast, BitVec.toNat_or, BitVec.toNat_ofNat, BitVec.toNat_ofNat, i64_bits, Nat.mod_eq_of_lt (by omega), Nat.mod_eq_of_lt (by omega), wrapN (by omega)]
def diffN (a b : Nat) : Nat := (BitVec.ofNat 64 a &&& ~~~BitVec.ofNat 64 b).toNat
theorem diffN_le (a b : Nat) (ha : a < 2 ^ 64) : diffN a b ≤ a := by
  unfold diffN
  rw [BitVec.toNat_and, BitVec.toNat_ofNat, Nat.mod_eq_of_lt ha]
  exact Nat.and_le_left
theorem diffN_bit {a b : Nat} (ha : a < 2 ^ 64) (i : Nat) : (diffN a b).testBit i = (a.testBit i && !b.testBit i) := by
  unfold diffN
  rw [BitVec.testBit_toNat, BitVec.getLsbD_and, BitVec.getLsbD_not, BitVec.getLsbD_ofNat, BitVec.getLsbD_ofNat]
  by_cases h : i < 64
  · simp [h]
  · have : a.testBit i = false := Nat.testBit_lt_two_pow (Nat.lt_of_lt_of_le ha (Nat.pow_le_pow_right (by decide) (by omega)))
    simp [this]
theorem andNotN {a b : Nat} (ha : a < 1048576) : IntKind.i64.wrap ((BitVec.ofInt IntKind.i64.bits (a : Int) &&& ~~~BitVec.ofInt IntKind.i64.bits (b : Int)).toNat : Int) = (diffN a b : Int) := by
  rw [BitVec.ofInt_natCast, BitVec.ofInt_natCast]
  change IntKind.i64.wrap ((diffN a b : Nat) : Int) = _
  have := diffN_le a b (by omega)
  rw [wrapN (by omega)]
theorem hasN {a i : Nat} (ha : a < 1048576) (hi : i ≤ 15) : (IntKind.i64.wrap ((BitVec.ofInt IntKind.i64.bits (((a : Int)).fdiv (2 ^ (min i IntKind.i64.bits))) &&& BitVec.ofInt IntKind.i64.bits 1).toNat : Int) = 1) = (a.testBit i = true) := by
  have e1 : min i IntKind.i64.bits = i := by rw [i64_bits]; omega
  have e2 : ((a : Int)).fdiv (2 ^ i) = ((a / 2 ^ i : Nat) : Int) := by
    rw [Int.fdiv_eq_ediv_of_nonneg _ (Int.le_of_lt (Int.pow_pos (by decide)))]
    simp
  have e3 : BitVec.ofInt IntKind.i64.bits 1 = BitVec.ofNat IntKind.i64.bits 1 := rfl
  have h1 : a / 2 ^ i ≤ a := Nat.div_le_self _ _
  rw [e1, e2, e3, BitVec.ofInt_natCast, BitVec.toNat_and, BitVec.toNat_ofNat, BitVec.toNat_ofNat, i64_bits, Nat.mod_eq_of_lt (by omega), show 1 % 2 ^ 64 = 1 from rfl, Nat.and_one_is_mod, wrapN (by omega), Nat.testBit_eq_decide_div_mod_eq]
  simp only [decide_eq_true_eq, eq_iff_iff]
  omega
/-- The set of a list. -/
def setB : List Int → Nat
  | [] => 0
  | x :: l => 2 ^ x.toNat ||| setB l
def listB (m : Nat) : List Int := ((List.range 10).filter fun i => m.testBit i).map fun i : Nat => (i : Int)
theorem setB_append : ∀ l m : List Int, setB (l ++ m) = setB l ||| setB m
  | [], m => by simp [setB]
  | x :: l, m => by simp only [List.cons_append, setB, setB_append l m, Nat.or_assoc]
theorem setB_take {l : List Int} {i : Nat} (h : i < l.length) : setB (l.take (i + 1)) = setB (l.take i) ||| 2 ^ (l.getD i default).toNat := by
  rw [List.take_add_one, List.getElem?_eq_getElem h, setB_append, getD_lt h]
  simp [setB]
theorem setB_bit {i : Nat} : ∀ {l : List Int}, (∀ x ∈ l, 0 ≤ x) → ((setB l).testBit i = true ↔ (i : Int) ∈ l)
  | [], _ => by simp [setB]
  | x :: l, h => by
    have ih := setB_bit (i := i) (l := l) fun y hy => h y (List.mem_cons_of_mem _ hy)
    have hx := h x (List.mem_cons_self)
    simp only [setB, Nat.testBit_or, Bool.or_eq_true, ih, List.mem_cons, Nat.testBit_two_pow, decide_eq_true_eq]
    exact or_congr ⟨fun h => by omega, fun h => by omega⟩ Iff.rfl
theorem setB_lt {n : Nat} : ∀ {l : List Int}, (∀ x ∈ l, 0 ≤ x ∧ x < n) → setB l < 2 ^ n
  | [], _ => Nat.two_pow_pos n
  | x :: l, h => by
    have ih := setB_lt (l := l) fun y hy => h y (List.mem_cons_of_mem _ hy)
    have hx := h x (List.mem_cons_self)
    exact Nat.or_lt_two_pow (Nat.pow_lt_pow_right (by decide) (by omega)) ih
theorem listB_mem {m : Nat} {x : Int} : x ∈ listB m ↔ ∃ i : Nat, x = i ∧ i < 10 ∧ m.testBit i = true := by
  unfold listB
  simp only [List.mem_map, List.mem_filter, List.mem_range]
  constructor
  · rintro ⟨i, ⟨h1, h2⟩, rfl⟩; exact ⟨i, rfl, h1, h2⟩
  · rintro ⟨i, rfl, h1, h2⟩; exact ⟨i, ⟨h1, h2⟩, rfl⟩
theorem listB_up (m : Nat) : (listB m).Pairwise (· < ·) := by
  unfold listB
  rw [List.pairwise_map]
  exact (List.pairwise_lt_range.filter _).imp fun h => by omega
theorem up_ext : ∀ {l m : List Int}, l.Pairwise (· < ·) → m.Pairwise (· < ·) → (∀ x, x ∈ l ↔ x ∈ m) → l = m
  | [], [], _, _, _ => rfl
  | [], y :: m, _, _, h => absurd ((h y).2 List.mem_cons_self) (by simp)
  | x :: l, [], _, _, h => absurd ((h x).1 List.mem_cons_self) (by simp)
  | x :: l, y :: m, h1, h2, h => by
    obtain ⟨a1, a2⟩ := List.pairwise_cons.1 h1
    obtain ⟨b1, b2⟩ := List.pairwise_cons.1 h2
    have e : x = y := by
      rcases List.mem_cons.1 ((h x).1 List.mem_cons_self) with e | e
      · exact e
      · rcases List.mem_cons.1 ((h y).2 List.mem_cons_self) with e' | e'
        · exact e'.symm
        · have := b1 x e; have := a1 y e'; omega
    subst e
    rw [up_ext a2 b2 fun z => ?_]
    constructor
    · intro hz
      rcases List.mem_cons.1 ((h z).1 (List.mem_cons_of_mem _ hz)) with e | e
      · subst e; have := a1 z hz; omega
      · exact e
    · intro hz
      rcases List.mem_cons.1 ((h z).2 (List.mem_cons_of_mem _ hz)) with e | e
      · subst e; have := b1 z hz; omega
      · exact e
theorem listB_len (m : Nat) : (listB m).length ≤ 10 := by
  unfold listB
  rw [List.length_map]
  exact Nat.le_trans (List.length_filter_le _ _) (by simp)
theorem up_of_step {l : List Int} (h : ∀ i, i < l.length → 0 < i → l.getD (i - 1) default < l.getD i default) : l.Pairwise (· < ·) := by
  rw [List.pairwise_iff_getElem]
  intro i j hi hj hij
  have : ∀ d, ∀ (hd : i + 1 + d < l.length), l[i] < l[i + 1 + d] := by
    intro d
    induction d with
    | zero =>
      intro hd
      have := h (i + 1) hd (by omega)
      rw [getD_lt hd, show i + 1 - 1 = i by omega, getD_lt hi] at this
      exact this
    | succ d ih =>
      intro hd
      have h1 := ih (by omega)
      have h2 := h (i + 1 + (d + 1)) hd (by omega)
      rw [getD_lt hd, getD_lt (show i + 1 + (d + 1) - 1 < l.length by omega)] at h2
      have : l[i + 1 + (d + 1) - 1]'(by omega) = l[i + 1 + d]'(by omega) := by congr 1
      omega
  have h2 := this (j - (i + 1)) (by omega)
  have : l[i + 1 + (j - (i + 1))]'(by omega) = l[j] := by congr 1; omega
  omega
theorem listB_setB {n : Nat} (hn : n ≤ 10) {l : List Int} (h : ∀ x ∈ l, 0 ≤ x ∧ x < n) (hu : l.Pairwise (· < ·)) : listB (setB l) = l := by
  refine up_ext (listB_up _) hu fun x => ?_
  rw [listB_mem]
  constructor
  · rintro ⟨i, rfl, -, h2⟩
    exact (setB_bit fun y hy => (h y hy).1).1 h2
  · intro hx
    have hb := h x hx
    refine ⟨x.toNat, by omega, by omega, (setB_bit fun y hy => (h y hy).1).2 ?_⟩
    rw [show ((x.toNat : Nat) : Int) = x by omega]
    exact hx
end Go.Tk
