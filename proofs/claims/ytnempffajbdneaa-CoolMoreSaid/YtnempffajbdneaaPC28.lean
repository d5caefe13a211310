/- Plain: which coolers are best; the floor is a bound. -/
import Derived.Test.YtnempffajbdneaaPC27
set_option linter.unusedVariables false
set_option linter.unusedSimpArgs false
set_option maxRecDepth 8000
namespace Go.Tk
open Go Go.Av
theorem before_trans : ∀ {a b c : List Int}, before a b = true → before b c = true → before a c = true
  | [], _, _, h, _ => by simp [before] at h
  | _ :: _, [], _, h, _ => by simp [before] at h
  | _ :: _, _ :: _, [], _, h => by simp [before] at h
  | x :: a, y :: b, z :: c, h1, h2 => by
    simp only [before] at *
    by_cases e1 : x = y
    · subst e1
      rw [if_pos rfl] at h1
      by_cases e2 : x = z
      · subst e2
        rw [if_pos rfl] at h2 ⊢
        exact before_trans h1 h2
      · rw [if_neg e2] at h2 ⊢
        exact h2
    · rw [if_neg e1, decide_eq_true_iff] at h1
      by_cases e2 : y = z
      · subst e2
        rw [if_neg e1]
        exact decide_eq_true h1
      · rw [if_neg e2, decide_eq_true_iff] at h2
        rw [if_neg (by omega)]
        exact decide_eq_true (by omega)
theorem before_irrefl : ∀ a : List Int, before a a = false
  | [] => rfl
  | x :: a => by simp only [before, if_pos]; exact before_irrefl a
theorem beforeC_trans {a b c : Int × List Int} (h1 : beforeC a b = true) (h2 : beforeC b c = true) : beforeC a c = true := by
  unfold beforeC at *
  by_cases e1 : a.1 = b.1
  · rw [if_pos e1] at h1
    by_cases e2 : b.1 = c.1
    · rw [if_pos e2] at h2
      rw [if_pos (by omega)]
      by_cases l1 : a.2.length = b.2.length
      · rw [if_pos l1] at h1
        by_cases l2 : b.2.length = c.2.length
        · rw [if_pos l2] at h2
          rw [if_pos (by omega)]
          exact before_trans h1 h2
        · rw [if_neg l2, decide_eq_true_iff] at h2
          rw [if_neg (by omega)]
          exact decide_eq_true (by omega)
      · rw [if_neg l1, decide_eq_true_iff] at h1
        by_cases l2 : b.2.length = c.2.length
        · rw [if_neg (by omega)]
          exact decide_eq_true (by omega)
        · rw [if_neg l2, decide_eq_true_iff] at h2
          rw [if_neg (by omega)]
          exact decide_eq_true (by omega)
    · rw [if_neg e2, decide_eq_true_iff] at h2
      rw [if_neg (by omega)]
      exact decide_eq_true (by omega)
  · rw [if_neg e1, decide_eq_true_iff] at h1
    by_cases e2 : b.1 = c.1
    · rw [if_neg (by omega)]
      exact decide_eq_true (by omega)
    · rw [if_neg e2, decide_eq_true_iff] at h2
      rw [if_neg (by omega)]
      exact decide_eq_true (by omega)
theorem beforeC_irrefl (a : Int × List Int) : beforeC a a = false := by
  unfold beforeC
  rw [if_pos rfl, if_pos rfl]
  exact before_irrefl _
theorem bestF_spec {t : CoolTown} {f : Nat} : ∀ S, match bestF t f S with
    | none => ∀ s, s < S → brk t f s t.houses.length ≠ none
    | some b => b < S ∧ brk t f b t.houses.length = none ∧ ∀ s, s < S → brk t f s t.houses.length = none → beforeC (chS t s) (chS t b) = false
  | 0 => fun s hs => absurd hs (Nat.not_lt_zero _)
  | S + 1 => by
    have ih := bestF_spec (t := t) (f := f) S
    cases hb : bestF t f S with
    | none =>
      rw [hb] at ih
      simp only at ih
      by_cases hk : brk t f S t.houses.length = none
      · have e : bestF t f (S + 1) = some S := by simp only [bestF, hb]; rw [if_pos hk]
        rw [e]
        refine ⟨Nat.lt_succ_self _, hk, fun s hs hks => ?_⟩
        by_cases e2 : s = S
        · subst e2; exact beforeC_irrefl _
        · exact absurd hks (ih s (by omega))
      · have e : bestF t f (S + 1) = none := by simp only [bestF, hb]; rw [if_neg hk]
        rw [e]
        intro s hs
        by_cases e2 : s = S
        · subst e2; exact hk
        · exact ih s (by omega)
    | some b =>
      rw [hb] at ih
      obtain ⟨i1, i2, i3⟩ := ih
      by_cases hk : beforeC (chS t S) (chS t b) = true ∧ brk t f S t.houses.length = none
      · have e : bestF t f (S + 1) = some S := by simp only [bestF, hb]; rw [if_pos hk]
        rw [e]
        refine ⟨Nat.lt_succ_self _, hk.2, fun s hs hks => ?_⟩
        by_cases e2 : s = S
        · subst e2; exact beforeC_irrefl _
        · have h1 := i3 s (by omega) hks
          cases h2 : beforeC (chS t s) (chS t S) with
          | false => rfl
          | true => rw [beforeC_trans h2 hk.1] at h1; cases h1
      · have e : bestF t f (S + 1) = some b := by simp only [bestF, hb]; rw [if_neg hk]
        rw [e]
        refine ⟨by omega, i2, fun s hs hks => ?_⟩
        by_cases e2 : s = S
        · subst e2
          cases h2 : beforeC (chS t s) (chS t b) with
          | false => rfl
          | true => exact absurd ⟨h2, hks⟩ hk
        · exact i3 s (by omega) hks
theorem keeps_iff {t : CoolTown} {b : List Int} {f : Nat} : keepsB t b f = true ↔ ∀ y, y < t.houses.length → levM t y f (setB b) = true := by
  unfold keepsB
  rw [decide_eq_true_iff, brk_iff]
end Go.Tk
