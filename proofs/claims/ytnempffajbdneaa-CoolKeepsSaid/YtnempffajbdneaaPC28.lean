/- Plain: which coolers are best; the floor is a bound. -/
import Derived.Test.YtnempffajbdneaaPC27
set_option linter.unusedVariables false
set_option linter.unusedSimpArgs false
set_option maxRecDepth 8000
namespace Go.Tk
open Go Go.Av
theorem before_trans : ∀ {a b c : List Int}, before a b = true → before b c = true → before a c = true
  | [], _, _, h, _ => by simp [before] at h
  | _ :: _, [], _, h, _ => by simp [before] at h
  | _ :: _, _ :: _, [], _, h => by simp [before] at h
  | x :: a, y :: b, z :: c, h1, h2 => by
    simp only [before] at *
    by_cases e1 : x = y
    · subst e1
      rw [if_pos rfl] at h1
      by_cases e2 : x = z
      · subst e2
        rw [if_pos rfl] at h2 ⊢
        exact before_trans h1 h2
      · rw [if_neg e2] at h2 ⊢
        exact h2
    · rw [if_neg e1, decide_eq_true_iff] at h1
      by_cases e2 : y = z
      · subst e2
        rw [if_neg e1]
        exact decide_eq_true h1
      · rw [if_neg e2, decide_eq_true_iff] at h2
        rw [if_neg (by omega)]
        exact decide_eq_true (by omega)
theorem before_irrefl : ∀ a : List Int, before a a = false
  | [] => rfl
  | x :: a => by simp only [before, if_pos]; exact before_irrefl a
end Go.Tk
