/- The law CoolRepairs over trees. -/
import Derived.Test.YtnempffajbdneaaPC46
import Derived.Test.YtnempffajbdneaaPC20
set_option linter.unusedVariables false
set_option linter.unusedSimpArgs false
set_option maxRecDepth 8000
set_option maxHeartbeats 4000000
namespace Go.Tk
open Go Go.Av
theorem sorted_iff {n : Nat} {b d : List Int} (hb : coolersOk n b) (ho : orderOk b d) : sortedP d ↔ coolersOk n d := by
  constructor
  · intro hs i hi
    have h1 := hb.mem _ (ho i hi).1
    refine ⟨⟨h1.1, by omega⟩, fun h0 => ?_⟩
    have h2 := hs i h0 hi
    have h3 := (ho i hi).2
    have h4 : d.getD (i - 1) default ∈ d.take i := by
      rw [getD_lt (show i - 1 < d.length by omega)]
      exact List.mem_iff_getElem.2 ⟨i - 1, by rw [List.length_take]; omega, by rw [List.getElem_take]⟩
    have h5 : d.getD i default ≠ d.getD (i - 1) default := fun e => h3 (e ▸ h4)
    omega
  · intro hc i h0 hi
    have := (hc i hi).2 h0
    omega
end Go.Tk
namespace Go.Proofs.Ytnempffajbdneaa
open Go Go.Av Go.Tk
attribute [local irreducible] Holds sem semL ACalls FnIs levelB levM ordS
variable {G : World → Prop} (hG : ∀ w w', G w → RowKit.Below w.heap.size w w' → G w')
include hG
end Go.Proofs.Ytnempffajbdneaa
