/- Plain: a cooler more, a house that needs less. -/
import Derived.Test.YtnempffajbdneaaPC28
set_option linter.unusedVariables false
set_option linter.unusedSimpArgs false
set_option maxRecDepth 8000
namespace Go.Tk
open Go Go.Av
theorem up_sub : ∀ {l m : List Int}, l.Pairwise (· < ·) → m.Pairwise (· < ·) → (∀ x ∈ l, x ∈ m) → l.Sublist m
  | [], _, _, _, _ => List.nil_sublist _
  | x :: l, [], _, _, h => by have := h x List.mem_cons_self; cases this
  | x :: l, y :: m, hl, hm, h => by
    have hl' := List.pairwise_cons.1 hl
    have hm' := List.pairwise_cons.1 hm
    by_cases e : x = y
    · subst e
      refine (up_sub hl'.2 hm'.2 fun z hz => ?_).cons_cons x
      have := h z (List.mem_cons_of_mem _ hz)
      rcases List.mem_cons.1 this with rfl | h2
      · exact absurd (hl'.1 z hz) (by omega)
      · exact h2
    · refine (up_sub hl hm'.2 fun z hz => ?_).cons y
      have h1 := h z hz
      rcases List.mem_cons.1 h1 with rfl | h2
      · rcases List.mem_cons.1 hz with rfl | hz
        · exact absurd rfl e
        · have hx := h x List.mem_cons_self
          have := hl'.1 z hz
          rcases List.mem_cons.1 hx with rfl | hx
          · exact absurd rfl e
          · have := hm'.1 x hx
            omega
      · exact h2
end Go.Tk
