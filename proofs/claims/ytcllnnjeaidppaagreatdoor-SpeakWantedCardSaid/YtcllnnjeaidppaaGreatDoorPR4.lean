/- The reading of an array that is an argument. -/
import Derived.Test.YtcllnnjeaidppaaGreatDoorPR2
import Derived.Test.YtcllnnjeaidppaaGreatDoorPBr
set_option linter.unusedVariables false
namespace Go.Proofs.YtcllnnjeaidppaaGreatDoor
open Go Go.Av Go.Tk Go.RowKit
section
variable {H : Type} {enc : TypeId × Value → H} {P : Program} {w : World}
theorem arg_array {t e : TypeId} {n : Nat} {v : Value} {d : DataW H} {ps : List MemPlace} {r : Reach} {b0 : Nat} (ht : P.underlying t = some (.array n e)) (hv : Value.okWide P w r b0 t v) (h : DataW.Trod enc P w 0 (fun _ => true) true t v d ps)
    {α : Type} {ok : α → Prop} {en : α → List AV} (rd : Rd enc P w t ok en) : ∃ a : α, ok a ∧ VT (· < w.heap.size) w (.agg (en a)) v := by
  simp only [Value.okWide, ht] at hv
  obtain ⟨cs, rfl, -, -⟩ := hv
  obtain ⟨fuel, hf⟩ := h
  obtain ⟨a, ha, hvt⟩ := rd _ _ _ hf
  refine ⟨a, ha, .agg _ _ ?_ fun i c v hc hv => (hvt.2 i c v hc ?_).1⟩
  · simpa [Value.cells] using hvt.1
  · simpa [Value.cells] using hv
end
end Go.Proofs.YtcllnnjeaidppaaGreatDoor
