/- The reference: in which week each house is level again; whether an order is good. -/
import Derived.Test.YtnempffajbdneaaPC10
set_option linter.unusedVariables false
set_option linter.unusedSimpArgs false
set_option maxRecDepth 8000
set_option maxHeartbeats 2000000
namespace Go.Tk
open Go Go.Av
theorem mem_without {l f : List Int} {x : Int} : x ∈ withoutL l f ↔ x ∈ l ∧ x ∉ f := by simp [withoutL]
end Go.Tk
namespace Go.Proofs.Ytnempffajbdneaa
open Go Go.Av Go.Tk
attribute [local irreducible] Holds sem semL ACalls FnIs levelB
theorem sl_drop {l : List Int} {i : Nat} : ∀ S w v, VT S w (.sl (l.length - i) fun j => intCs (l.getD (i + j) default)) v → VT S w (slOf intCs (l.drop i)) v := fun S w v h => by
  unfold slOf
  rw [List.length_drop]
  refine h.sl_congr fun j hj => ?_
  have h1 : j < (l.drop i).length := by rw [List.length_drop]; omega
  rw [getD_lt h1, getD_lt (show i + j < l.length by omega), List.getElem_drop]
variable {G : World → Prop} (hG : ∀ w w', G w → RowKit.Below w.heap.size w w' → G w')
include hG
end Go.Proofs.Ytnempffajbdneaa
