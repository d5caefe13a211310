/- Plain: a text of a level book of which one digit is another one is no such text. -/
import Derived.Test.YtojkchniefhafaaGreatDoorPY15
set_option linter.unusedVariables false
set_option linter.unusedSimpArgs false
set_option linter.unusedSectionVars false
set_option maxRecDepth 8000
namespace Go.Tk
open Go Go.Av
/-- Where a byte stands in the pieces of a text. -/
theorem split_mid (c : UInt8) (B : Bts) : ∀ A : Bts, ∃ L1 u v L2, ∀ x, x ≠ c → splitL c (A ++ x :: B) = L1 ++ (u ++ x :: v) :: L2
  | [] => by
    cases hB : splitL c B with
    | nil => exact absurd hB (split_ne c B)
    | cons v L2 =>
      refine ⟨[], [], v, L2, fun x hx => ?_⟩
      simp only [List.nil_append]
      unfold splitL
      rw [if_neg hx, hB]
  | a :: A => by
    obtain ⟨L1, u, v, L2, h⟩ := split_mid c B A
    by_cases ha : a = c
    · refine ⟨[] :: L1, u, v, L2, fun x hx => ?_⟩
      rw [List.cons_append]
      unfold splitL
      rw [if_pos ha, h x hx]
      rfl
    · cases L1 with
      | nil =>
        refine ⟨[], a :: u, v, L2, fun x hx => ?_⟩
        rw [List.cons_append]
        unfold splitL
        rw [if_neg ha, h x hx]
        rfl
      | cons w L1 =>
        refine ⟨(a :: w) :: L1, u, v, L2, fun x hx => ?_⟩
        rw [List.cons_append]
        unfold splitL
        rw [if_neg ha, h x hx]
        rfl
/-- Two lists that are the same but for one place. -/
theorem mid_ne {α : Type} [Inhabited α] {L1 L2 : List α} {m m' : α} {j : Nat} (hj : j ≠ L1.length) : (L1 ++ m :: L2).getD j default = (L1 ++ m' :: L2).getD j default := by
  simp only [List.getD_eq_getElem?_getD]
  congr 1
  by_cases h : j < L1.length
  · rw [List.getElem?_append_left h, List.getElem?_append_left h]
  · rw [List.getElem?_append_right (by omega), List.getElem?_append_right (by omega)]
    obtain ⟨d, hd⟩ : ∃ d, j - L1.length = d + 1 := ⟨j - L1.length - 1, by omega⟩
    rw [hd]; rfl
theorem mid_at {α : Type} [Inhabited α] {L1 L2 : List α} {m : α} : (L1 ++ m :: L2).getD L1.length default = m := by
  simp [List.getD]
theorem dvd_step (y s i : Nat) (n : Int) : (997 : Int) ∣ (stepS y s i n : Int) - ((s : Int) + ((kN n * (i + 1) * (y + 1) : Nat) : Int)) := by
  have h : stepS y s i n = (s + kN n * (i + 1) * (y + 1)) % 997 := by
    unfold stepS
    simp [Nat.add_mod, Nat.mul_mod]
  rw [h]
  generalize kN n * (i + 1) * (y + 1) = X
  omega
/-- How far two checks are apart. -/
theorem dvd_to {y i : Nat} {r r' : List Int} {δ : Int} (hother : ∀ j, j ≠ i → r.getD j default = r'.getD j default) (hδ : δ = ((kN (r.getD i default) * (i + 1) * (y + 1) : Nat) : Int) - ((kN (r'.getD i default) * (i + 1) * (y + 1) : Nat) : Int)) (s s' : Nat) :
    ∀ m, (997 : Int) ∣ ((sumTo y s r m : Int) - (sumTo y s' r' m : Int)) - (((s : Int) - (s' : Int)) + if i < m then δ else 0)
  | 0 => by
    have e1 : sumTo y s r 0 = s := rfl
    have e2 : sumTo y s' r' 0 = s' := rfl
    rw [e1, e2, if_neg (Nat.not_lt_zero _)]
    omega
  | m + 1 => by
    have ih := dvd_to hother hδ s s' m
    rw [sumTo_succ, sumTo_succ]
    have d1 := dvd_step y (sumTo y s r m) m (r.getD m default)
    have d2 := dvd_step y (sumTo y s' r' m) m (r'.getD m default)
    generalize sumTo y s r m = a at *
    generalize sumTo y s' r' m = b at *
    by_cases e : m = i
    · subst e
      rw [if_neg (Nat.lt_irrefl _)] at ih
      rw [if_pos (Nat.lt_succ_self _), hδ]
      generalize stepS y a m (r.getD m default) = A at *
      generalize stepS y b m (r'.getD m default) = B at *
      generalize kN (r.getD m default) * (m + 1) * (y + 1) = X at *
      generalize kN (r'.getD m default) * (m + 1) * (y + 1) = X' at *
      omega
    · rw [hother m e] at d1 ⊢
      generalize stepS y a m (r'.getD m default) = A at *
      generalize stepS y b m (r'.getD m default) = B at *
      generalize kN (r'.getD m default) * (m + 1) * (y + 1) = X' at *
      have : (i < m + 1) ↔ (i < m) := by omega
      simp only [this]
      generalize (if i < m then δ else 0) = q at *
      omega
theorem dvd_all {l l' : List (List Int)} {y i : Nat} {δ : Int} (hother : ∀ j, j ≠ y → l.getD j default = l'.getD j default) (hrow : ∀ j, j ≠ i → (l.getD y default).getD j default = (l'.getD y default).getD j default) (hlen : (l.getD y default).length = (l'.getD y default).length) (hi : i < (l.getD y default).length)
    (hδ : δ = ((kN ((l.getD y default).getD i default) * (i + 1) * (y + 1) : Nat) : Int) - ((kN ((l'.getD y default).getD i default) * (i + 1) * (y + 1) : Nat) : Int)) : ∀ m, (997 : Int) ∣ ((sumAll l m : Int) - (sumAll l' m : Int)) - if y < m then δ else 0
  | 0 => by
    have e1 : sumAll l 0 = 0 := rfl
    have e2 : sumAll l' 0 = 0 := rfl
    rw [e1, e2, if_neg (Nat.not_lt_zero _)]
    omega
  | m + 1 => by
    have ih := dvd_all hother hrow hlen hi hδ m
    rw [sumAll_succ, sumAll_succ]
    generalize sumAll l m = a at *
    generalize sumAll l' m = b at *
    by_cases e : m = y
    · subst e
      have := dvd_to hrow hδ a b (l.getD m default).length
      rw [if_pos hi] at this
      rw [if_neg (Nat.lt_irrefl _)] at ih
      rw [if_pos (Nat.lt_succ_self _), ← hlen]
      generalize sumTo m a (l.getD m default) (l.getD m default).length = A at *
      generalize sumTo m b (l'.getD m default) (l.getD m default).length = B at *
      omega
    · rw [hother m e]
      have := dvd_to (y := m) (i := (l'.getD m default).length) (r := l'.getD m default) (r' := l'.getD m default) (δ := 0) (fun _ _ => rfl) (by omega) a b (l'.getD m default).length
      rw [if_neg (Nat.lt_irrefl _)] at this
      generalize sumTo m a (l'.getD m default) (l'.getD m default).length = A at *
      generalize sumTo m b (l'.getD m default) (l'.getD m default).length = B at *
      have e2 : (y < m + 1) ↔ (y < m) := by omega
      simp only [e2]
      generalize (if y < m then δ else 0) = q at *
      omega
theorem prime_997 : ∀ (d : Fin 10) (e : Fin 9) (i : Fin 6) (y : Fin 10), d.val ≠ 0 → (2 * d.val * 10 ^ e.val * (i.val + 1) * (y.val + 1)) % 997 ≠ 0 := by decide +kernel
/-- The numbers that two words say which differ in one digit. -/
theorem num_mid {a b : Bts} {x x' : UInt8} (hx : isD x = true) (hx' : isD x' = true) {n n' : Int} (hn : Lib.itoa n = a ++ x :: b) (hn' : Lib.itoa n' = a ++ x' :: b) :
    (kN n : Int) - (kN n' : Int) = 2 * ((x.toNat : Int) - (x'.toNat : Int)) * ((10 ^ b.length : Nat) : Int) := by
  have hd : 48 ≤ x.toNat ∧ x.toNat ≤ 57 := of_decide_eq_true hx
  have hd' : 48 ≤ x'.toNat ∧ x'.toNat ≤ 57 := of_decide_eq_true hx'
  have key : ∀ A : Bts, ((digV 0 (A ++ x :: b) : Nat) : Int) - ((digV 0 (A ++ x' :: b) : Nat) : Int) = ((x.toNat : Int) - (x'.toNat : Int)) * ((10 ^ b.length : Nat) : Int) := fun A => by
    have h : ∀ z : UInt8, digV 0 (A ++ z :: b) = (10 * digV 0 A + (z.toNat - 48)) * 10 ^ b.length + digV 0 b := fun z => by
      rw [show A ++ z :: b = (A ++ [z]) ++ b by simp]
      unfold digV
      rw [List.foldl_append]
      have := digV_acc b (digV 0 (A ++ [z]))
      unfold digV at this
      rw [this]
      have h2 := digV_snoc A 0 z
      unfold digV at h2
      rw [h2]
    rw [h x, h x']
    generalize 10 ^ b.length = P
    generalize digV 0 A = D
    obtain ⟨u, hu⟩ : ∃ u, x.toNat = 48 + u := ⟨x.toNat - 48, by omega⟩
    obtain ⟨u', hu'⟩ : ∃ u', x'.toNat = 48 + u' := ⟨x'.toNat - 48, by omega⟩
    rw [hu, hu', Nat.add_sub_cancel_left, Nat.add_sub_cancel_left]
    push_cast
    rw [Int.add_mul, Int.add_mul, show ((48 : Int) + (u : Int)) - (48 + (u' : Int)) = (u : Int) - (u' : Int) by omega, Int.sub_mul]
    omega
  have hv := numV_itoa n
  have hv' := numV_itoa n'
  cases a with
  | nil =>
    have p1 : n = (digV 0 ([] ++ x :: b) : Nat) := by
      rw [← hv, hn, numV_pos]
      simp
      intro q; subst q; exact absurd hx (by decide)
    have p2 : n' = (digV 0 ([] ++ x' :: b) : Nat) := by
      rw [← hv', hn', numV_pos]
      simp
      intro q; subst q; exact absurd hx' (by decide)
    have k1 : (kN n : Int) = 2 * n := kN_pos (by omega)
    have k2 : (kN n' : Int) = 2 * n' := kN_pos (by omega)
    have := key []
    rw [k1, k2, p1, p2, Int.mul_assoc, ← this]
    omega
  | cons s a =>
    by_cases hs : s = 45
    · subst hs
      have p1 : n = -((digV 0 (a ++ x :: b) : Nat) : Int) := by rw [← hv, hn]; rfl
      have p2 : n' = -((digV 0 (a ++ x' :: b) : Nat) : Int) := by rw [← hv', hn']; rfl
      have neg : ∀ {m : Int} {w : Bts}, Lib.itoa m = 45 :: w → m < 0 := fun {m w} h => by
        rcases int_cases m with ⟨u, rfl⟩ | ⟨u, rfl⟩
        · rw [itoa_pos] at h
          exact absurd (by rw [h]; rfl) (dec_head45 u)
        · omega
      have k1 : (kN n : Int) = -2 * n + 1 := kN_neg (neg hn)
      have k2 : (kN n' : Int) = -2 * n' + 1 := kN_neg (neg hn')
      have := key a
      rw [k1, k2, p1, p2, Int.mul_assoc, ← this]
      omega
    · have p1 : n = (digV 0 ((s :: a) ++ x :: b) : Nat) := by
        rw [← hv, hn, numV_pos]
        simp [hs]
      have p2 : n' = (digV 0 ((s :: a) ++ x' :: b) : Nat) := by
        rw [← hv', hn', numV_pos]
        simp [hs]
      have k1 : (kN n : Int) = 2 * n := kN_pos (by omega)
      have k2 : (kN n' : Int) = 2 * n' := kN_pos (by omega)
      have := key (s :: a)
      rw [k1, k2, p1, p2, Int.mul_assoc, ← this]
      omega
theorem tail_len {a b : Bts} {x : UInt8} (hx : isD x = true) {n : Int} (hn : Lib.itoa n = a ++ x :: b) (hb : n.natAbs ≤ 999999999) : b.length ≤ 8 := by
  have hl := congrArg List.length hn
  simp only [List.length_append, List.length_cons] at hl
  rcases int_cases n with ⟨u, rfl⟩ | ⟨u, rfl⟩
  · have := dec_len 8 u (by omega)
    rw [itoa_pos] at hl
    omega
  · have := dec_len 8 (u + 1) (by omega)
    rw [itoa_negS] at hl hn
    rw [List.length_cons] at hl
    cases a with
    | nil =>
      simp at hn
      rw [← hn.1] at hx
      exact absurd hx (by decide)
    | cons s a => simp only [List.length_cons] at hl; omega
end Go.Tk
