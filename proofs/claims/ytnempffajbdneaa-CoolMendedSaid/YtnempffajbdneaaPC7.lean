/- Play. -/
import Derived.Test.YtnempffajbdneaaPC6
set_option linter.unusedVariables false
set_option linter.unusedSimpArgs false
set_option maxRecDepth 8000
set_option maxHeartbeats 4000000
namespace Go.Tk
open Go Go.Av
theorem truthOk.b {t : CoolTown} {x : CoolTruth} (ht : t.ok) (h : truthOk t x) : truthB t x := by
  obtain ⟨-, -, h1, h2⟩ := ht
  rw [all_getD] at h1 h2
  obtain ⟨e1, e2, e3, e4⟩ := h
  refine ⟨e1, all_getD.2 fun i hi => ?_, e2, all_getD.2 fun i hi => ⟨(e4 i (by omega)).1, all_getD.2 fun k hk => ?_⟩⟩
  · have a := h1 i (by omega)
    have b := e3 i (by omega)
    unfold inSp at b
    obtain ⟨⟨a1, a2, a3⟩, -⟩ := a
    omega
  · have b := (e4 i (by omega)).2 k (by rw [← (e4 i (by omega)).1]; exact hk)
    have a := h2 i (by omega)
    obtain ⟨-, -, a1, a2⟩ := a
    rw [all_getD] at a2
    have c := a2 k (by rw [a1, ← (e4 i (by omega)).1]; exact hk)
    unfold inSp at b
    omega
end Go.Tk
namespace Go.Proofs.Ytnempffajbdneaa
open Go Go.Av Go.Tk
attribute [local irreducible] Holds sem semL ACalls FnIs
variable {G : World → Prop} (hG : ∀ w w', G w → RowKit.Below w.heap.size w w' → G w')
include hG
end Go.Proofs.Ytnempffajbdneaa
