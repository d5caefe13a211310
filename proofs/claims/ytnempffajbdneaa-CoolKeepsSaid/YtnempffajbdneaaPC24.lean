/- The law CoolTrue over trees. -/
import Derived.Test.YtnempffajbdneaaPC23
import Derived.Test.YtnempffajbdneaaPC8
set_option linter.unusedVariables false
set_option linter.unusedSimpArgs false
set_option maxRecDepth 8000
set_option maxHeartbeats 4000000
namespace Go.Tk
open Go Go.Av
theorem keeps_bears {t : CoolTown} (ht : t.ok) {b : List Int} (hb : coolersOk t.sites.length b) {f : Nat} (hf : f ≤ 3) : keepsB t b f = decide ((f : Int) ≤ bearsI t b) := by
  have hmono : ∀ f f', f ≤ f' → keepsB t b f' = true → keepsB t b f = true := fun f f' hff h => by
    unfold keepsB at *
    rw [decide_eq_true_iff, brk_iff] at *
    exact fun y hy => lev_mono ht hb hy hff (h y hy)
  have h32 := hmono 2 3 (by omega)
  have h21 := hmono 1 2 (by omega)
  have h10 := hmono 0 1 (by omega)
  unfold bearsI
  have hcase : f = 0 ∨ f = 1 ∨ f = 2 ∨ f = 3 := by omega
  cases e3 : keepsB t b 3 <;> cases e2 : keepsB t b 2 <;> cases e1 : keepsB t b 1 <;> cases e0 : keepsB t b 0 <;> simp_all <;> (try (rcases hcase with rfl | rfl | rfl | rfl <;> simp_all))
theorem bears_range (t : CoolTown) (b : List Int) : -1 ≤ bearsI t b ∧ bearsI t b ≤ 3 := by
  unfold bearsI
  repeat' split
  all_goals omega
end Go.Tk
namespace Go.Proofs.Ytnempffajbdneaa
open Go Go.Av Go.Tk
attribute [local irreducible] Holds sem semL ACalls FnIs levelB levM keepsB
variable {G : World → Prop} (hG : ∀ w w', G w → RowKit.Below w.heap.size w w' → G w')
include hG
end Go.Proofs.Ytnempffajbdneaa
