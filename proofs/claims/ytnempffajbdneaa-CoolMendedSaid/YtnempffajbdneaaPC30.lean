/- Plain: a cooler more, a house that needs less. -/
import Derived.Test.YtnempffajbdneaaPC28
set_option linter.unusedVariables false
set_option linter.unusedSimpArgs false
set_option maxRecDepth 8000
namespace Go.Tk
open Go Go.Av
theorem sumL_sub {g : Int → Int} : ∀ {l m : List Int}, l.Sublist m → (∀ x ∈ m, 0 ≤ g x) → sumL (l.map g) ≤ sumL (m.map g)
  | _, _, .slnil, _ => Int.le_refl _
  | _, _, .cons a h, hm => by
    have := sumL_sub h fun x hx => hm x (List.mem_cons_of_mem _ hx)
    have := hm a List.mem_cons_self
    simp only [List.map_cons, sumL]; omega
  | _, _, .cons_cons a h, hm => by
    have := sumL_sub h fun x hx => hm x (List.mem_cons_of_mem _ hx)
    simp only [List.map_cons, sumL]; omega
end Go.Tk
