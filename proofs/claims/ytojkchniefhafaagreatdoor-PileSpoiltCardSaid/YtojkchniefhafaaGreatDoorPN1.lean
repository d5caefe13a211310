/- Plain: numerals, and the number that a word says. -/
import Derived.Lib.AtoiAll
import Derived.Lib.ItoaNum
import Derived.Lib.Strings
set_option linter.unusedVariables false
set_option linter.unusedSimpArgs false
namespace Go.Tk
open Go
abbrev Bts := List UInt8
def isD (b : UInt8) : Bool := decide (48 ≤ b.toNat ∧ b.toNat ≤ 57)
def digV (a : Nat) (l : Bts) : Nat := l.foldl (fun a b => 10 * a + (b.toNat - 48)) a
theorem digV_nil (a : Nat) : digV a [] = a := rfl
theorem digV_cons (a : Nat) (b : UInt8) (l : Bts) : digV a (b :: l) = digV (10 * a + (b.toNat - 48)) l := List.foldl_cons ..
theorem digV_snoc (l : Bts) (a : Nat) (b : UInt8) : digV a (l ++ [b]) = 10 * digV a l + (b.toNat - 48) := by
  unfold digV
  rw [List.foldl_append, List.foldl_cons, List.foldl_nil]
theorem digV_acc : ∀ (l : Bts) (a : Nat), digV a l = a * 10 ^ l.length + digV 0 l
  | [], a => by
    rw [digV_nil, digV_nil, List.length_nil, Nat.pow_zero]; omega
  | b :: l, a => by
    rw [digV_cons, digV_cons, List.length_cons, digV_acc l (10 * a + _), digV_acc l (10 * 0 + _), Nat.pow_succ]
    generalize 10 ^ l.length = P
    generalize b.toNat - 48 = d
    generalize digV 0 l = v
    rw [Nat.add_mul, Nat.add_mul, Nat.mul_zero, Nat.zero_mul]
    have : 10 * a * P = a * (P * 10) := by rw [Nat.mul_comm 10 a, Nat.mul_assoc, Nat.mul_comm 10]
    omega
theorem digV_lt : ∀ (l : Bts), (∀ b ∈ l, isD b = true) → digV 0 l < 10 ^ l.length
  | [], _ => by rw [digV_nil, List.length_nil, Nat.pow_zero]; omega
  | b :: l, h => by
    have h1 := h b List.mem_cons_self
    have h2 := digV_lt l fun x hx => h x (List.mem_cons_of_mem _ hx)
    simp only [isD, decide_eq_true_eq] at h1
    rw [digV_cons, List.length_cons, Nat.pow_succ, digV_acc]
    have h3 : (10 * 0 + (b.toNat - 48)) * 10 ^ l.length ≤ 9 * 10 ^ l.length := Nat.mul_le_mul_right _ (by omega)
    omega
theorem ofNat_dig {n : Nat} (h : n < 10) : (UInt8.ofNat (48 + n)).toNat = 48 + n := by
  rw [UInt8.toNat_ofNat']
  omega
theorem dec_dig : ∀ (u : Nat), ∀ b ∈ Lib.decDigits u, isD b = true := fun u => by
  induction u using Nat.strongRecOn with
  | _ u ih =>
    intro b hb
    rw [Lib.decDigits] at hb
    by_cases h : u < 10
    · rw [dif_pos h] at hb
      have : b = UInt8.ofNat (48 + u) := by simpa using hb
      subst this
      unfold isD
      rw [ofNat_dig h]
      exact decide_eq_true (by omega)
    · rw [dif_neg h] at hb
      rcases List.mem_append.1 hb with hb | hb
      · exact ih (u / 10) (by omega) b hb
      · have : b = UInt8.ofNat (48 + u % 10) := by simpa using hb
        subst this
        unfold isD
        rw [ofNat_dig (by omega)]
        exact decide_eq_true (by omega)
theorem dec_val : ∀ (u : Nat), digV 0 (Lib.decDigits u) = u := fun u => by
  induction u using Nat.strongRecOn with
  | _ u ih =>
    rw [Lib.decDigits]
    by_cases h : u < 10
    · rw [dif_pos h, digV_cons, digV_nil, ofNat_dig h]
      omega
    · rw [dif_neg h, digV_snoc, ih (u / 10) (by omega), ofNat_dig (by omega)]
      omega
theorem dec_len : ∀ (k u : Nat), u < 10 ^ (k + 1) → (Lib.decDigits u).length ≤ k + 1
  | 0, u, h => by
    rw [Lib.decDigits, dif_pos (by omega)]; simp
  | k + 1, u, h => by
    rw [Lib.decDigits]
    by_cases h2 : u < 10
    · rw [dif_pos h2]; simp
    · rw [dif_neg h2, List.length_append, List.length_singleton]
      have := dec_len k (u / 10) (by rw [Nat.pow_succ] at h; omega)
      omega
theorem dec_ne (u : Nat) : Lib.decDigits u ≠ [] := by
  rw [Lib.decDigits]
  split <;> simp
theorem dec_head (u : Nat) : ∃ b l, Lib.decDigits u = b :: l ∧ isD b = true := by
  cases h : Lib.decDigits u with
  | nil => exact absurd h (dec_ne u)
  | cons b l => exact ⟨b, l, rfl, dec_dig u b (by rw [h]; exact List.mem_cons_self)⟩
theorem itoa_pos (u : Nat) : Lib.itoa (u : Int) = Lib.decDigits u := by
  unfold Lib.itoa
  rw [if_neg (by omega)]; simp
theorem itoa_negS (u : Nat) : Lib.itoa (-((u + 1 : Nat) : Int)) = 45 :: Lib.decDigits (u + 1) := by
  unfold Lib.itoa
  rw [if_pos (by omega), Int.natAbs_neg, Int.natAbs_natCast]
/-- The number that a word spells. -/
def numV : Bts → Int
  | 45 :: d => -(digV 0 d : Int)
  | d => digV 0 d
theorem numV_neg (d : Bts) : numV (45 :: d) = -(digV 0 d : Int) := rfl
theorem numV_pos {d : Bts} (h : d.head? ≠ some 45) : numV d = digV 0 d := by
  unfold numV
  split
  · simp at h
  · rfl
theorem dec_head45 (u : Nat) : (Lib.decDigits u).head? ≠ some 45 := by
  obtain ⟨b, l, h1, h2⟩ := dec_head u
  rw [h1]
  intro e
  have : b = 45 := by simpa using e
  subst this
  exact absurd h2 (by decide)
theorem int_cases (n : Int) : (∃ u : Nat, n = u) ∨ ∃ u : Nat, n = -((u + 1 : Nat) : Int) := by
  cases n with
  | ofNat u => exact .inl ⟨u, rfl⟩
  | negSucc u => exact .inr ⟨u, rfl⟩
theorem numV_itoa (n : Int) : numV (Lib.itoa n) = n := by
  rcases int_cases n with ⟨u, rfl⟩ | ⟨u, rfl⟩
  · rw [itoa_pos, numV_pos (dec_head45 u), dec_val]
  · rw [itoa_negS, numV_neg, dec_val]
theorem itoa_inj {m n : Int} (h : Lib.itoa m = Lib.itoa n) : m = n := by
  have := congrArg numV h
  rwa [numV_itoa, numV_itoa] at this
/-- The number that a word says, if it is one. -/
def numOf (w : Bts) : Option Int := if w = Lib.itoa (numV w) ∧ (numV w).natAbs ≤ 999999999 then some (numV w) else none
theorem numOf_iff {w : Bts} {n : Int} : numOf w = some n ↔ w = Lib.itoa n ∧ n.natAbs ≤ 999999999 := by
  unfold numOf
  constructor
  · intro h
    split at h
    · rename_i hc
      have e : numV w = n := Option.some.inj h
      rw [e] at hc
      exact hc
    · cases h
  · rintro ⟨rfl, h⟩
    rw [numV_itoa, if_pos ⟨rfl, h⟩]
theorem itoa_chars (n : Int) : ∀ b ∈ Lib.itoa n, b = 45 ∨ isD b = true := fun b hb => by
  rcases int_cases n with ⟨u, rfl⟩ | ⟨u, rfl⟩
  · rw [itoa_pos] at hb; exact .inr (dec_dig u b hb)
  · rw [itoa_negS] at hb
    rcases List.mem_cons.1 hb with h | h
    · exact .inl h
    · exact .inr (dec_dig _ b h)
/-- What strconv.Atoi makes of digits. -/
theorem parse_dig : ∀ {l : Bts} {a : Nat}, (∀ b ∈ l, isD b = true) → digV a l ≤ 999999999 → Lib.parseUint10 a l = .ok (digV a l)
  | [], a, _, _ => rfl
  | b :: l, a, h, hv => by
    have h1 := h b List.mem_cons_self
    simp only [isD, decide_eq_true_eq] at h1
    rw [digV_cons] at hv ⊢
    have hacc := digV_acc l (10 * a + (b.toNat - 48))
    have hp : 1 ≤ 10 ^ l.length := Nat.one_le_pow _ _ (by omega)
    have hm : 10 * a + (b.toNat - 48) ≤ (10 * a + (b.toNat - 48)) * 10 ^ l.length := Nat.le_mul_of_pos_right _ hp
    simp only [Lib.parseUint10]
    rw [if_pos h1, if_neg (by omega), if_neg (by omega), show a * 10 + (b.toNat - 48) = 10 * a + (b.toNat - 48) by omega]
    exact parse_dig (fun x hx => h x (List.mem_cons_of_mem _ hx)) hv
theorem atoi_dec {u : Nat} (h : u ≤ 999999999) : Lib.atoiAll (Lib.decDigits u) = .ok (u : Int) := by
  obtain ⟨b, l, h1, h2⟩ := dec_head u
  have h3 := parse_dig (dec_dig u) (a := 0) (by rw [dec_val]; exact h)
  rw [dec_val] at h3
  rw [h1] at h3 ⊢
  simp only [isD, decide_eq_true_eq] at h2
  have hA : ¬ (b.toNat = 43 ∨ b.toNat = 45) := by omega
  have hB : ¬ b.toNat = 45 := by omega
  have hm : Lib.parseMag (b :: l) = .ok u := by
    unfold Lib.parseMag
    rw [if_neg (by simp), h3]
  unfold Lib.atoiAll
  dsimp only
  rw [if_neg hA, hm]
  simp only [hB, not_false_eq_true, true_and, false_and, if_false]
  have hC : ¬ 9223372036854775808 ≤ u := by omega
  rw [if_neg hC]
/-- What a word is without its sign. -/
def bareB (w : Bts) : Bts := Lib.trimPrefix w [45]
theorem bare_neg (d : Bts) : bareB (45 :: d) = d := by
  unfold bareB Lib.trimPrefix Lib.hasPrefix
  rw [if_pos (by simp [List.isPrefixOf])]; rfl
theorem bare_pos {d : Bts} (h : d.head? ≠ some 45) : bareB d = d := by
  unfold bareB Lib.trimPrefix Lib.hasPrefix
  rw [if_neg]
  intro e
  cases d with
  | nil => simp [List.isPrefixOf] at e
  | cons b l =>
    simp [List.isPrefixOf] at e
    exact h (by simp [e])
/-- The program's look at a word is right. -/
theorem num_prog {w : Bts} {n : Int} (h1 : 0 ≤ n) (h2 : (bareB w).length ≤ 9) (h3 : Lib.itoa n = bareB w) (h4 : ¬ (n = 0 ∧ w ≠ bareB w)) : numOf w = some (if w = bareB w then n else -n) := by
  obtain ⟨u, rfl⟩ := Int.eq_ofNat_of_zero_le h1
  rw [itoa_pos] at h3
  have hu : u ≤ 999999999 := by
    have h5 := digV_lt _ (dec_dig u)
    rw [dec_val, h3] at h5
    have h6 : 10 ^ (bareB w).length ≤ 10 ^ 9 := Nat.pow_le_pow_right (by omega) h2
    omega
  rw [numOf_iff]
  by_cases e : w = bareB w
  · rw [if_pos e, itoa_pos, h3]
    exact ⟨e, by omega⟩
  · rw [if_neg e]
    have hw : w = 45 :: bareB w := by
      cases w with
      | nil => exact absurd rfl e
      | cons b d =>
        by_cases hb : b = 45
        · subst hb; rw [bare_neg]
        · exact absurd (bare_pos (by simp [hb])).symm e
    have hn0 : u ≠ 0 := fun q => h4 ⟨by omega, e⟩
    obtain ⟨v, rfl⟩ := Nat.exists_eq_succ_of_ne_zero hn0
    refine ⟨?_, by omega⟩
    rw [itoa_negS, h3]
    exact hw
theorem num_prog' {w : Bts} {m : Int} (h : numOf w = some m) : ∃ n : Int, 0 ≤ n ∧ Lib.atoiAll (bareB w) = .ok n ∧ (bareB w).length ≤ 9 ∧ Lib.itoa n = bareB w ∧ ¬ (n = 0 ∧ w ≠ bareB w) ∧ m = if w = bareB w then n else -n := by
  obtain ⟨rfl, h2⟩ := numOf_iff.1 h
  rcases int_cases m with ⟨u, rfl⟩ | ⟨u, rfl⟩
  · have hu : u ≤ 999999999 := by omega
    have hb : bareB (Lib.itoa (u : Int)) = Lib.decDigits u := by rw [itoa_pos, bare_pos (dec_head45 u)]
    refine ⟨u, by omega, by rw [hb]; exact atoi_dec hu, by rw [hb]; exact dec_len 8 u (by omega), by rw [hb, itoa_pos], ?_, ?_⟩
    · rintro ⟨-, q⟩
      exact q (by rw [hb, itoa_pos])
    · rw [if_pos (by rw [hb, itoa_pos])]
  · have hu : u + 1 ≤ 999999999 := by omega
    have hb : bareB (Lib.itoa (-((u + 1 : Nat) : Int))) = Lib.decDigits (u + 1) := by rw [itoa_negS, bare_neg]
    have hne : Lib.itoa (-((u + 1 : Nat) : Int)) ≠ bareB (Lib.itoa (-((u + 1 : Nat) : Int))) := by
      rw [hb, itoa_negS]
      intro e
      have := congrArg List.length e
      simp at this
    refine ⟨((u + 1 : Nat) : Int), by omega, by rw [hb]; exact atoi_dec hu, by rw [hb]; exact dec_len 8 _ (by omega), by rw [hb, itoa_pos], ?_, ?_⟩
    · rintro ⟨q, -⟩; omega
    · rw [if_neg hne]
end Go.Tk
