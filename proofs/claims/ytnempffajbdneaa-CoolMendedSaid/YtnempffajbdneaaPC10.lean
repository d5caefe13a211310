/- The reference: the worst truth; whether a house is surely level. -/
import Derived.Test.YtnempffajbdneaaPC9
import Derived.Test.YtnempffajbdneaaPMq
set_option linter.unusedVariables false
set_option linter.unusedSimpArgs false
set_option maxRecDepth 8000
set_option maxHeartbeats 2000000
namespace Go.Tk
open Go Go.Av
def needsW (t : CoolTown) (n : Nat) : List Int := (List.range n).map fun y => (t.houses.getD y default).need.high
def lowsW (t : CoolTown) (n : Nat) (i : Nat) : List Int := (List.range n).map fun y => ((t.sites.getD i default).gives.getD y default).low
def givesW (t : CoolTown) (n : Nat) : List (List Int) := (List.range n).map (lowsW t t.houses.length)
def worstT (t : CoolTown) : CoolTruth := ⟨needsW t t.houses.length, givesW t t.sites.length⟩
theorem needsW_len (t : CoolTown) (n : Nat) : (needsW t n).length = n := by simp [needsW]
theorem lowsW_len (t : CoolTown) (n i : Nat) : (lowsW t n i).length = n := by simp [lowsW]
theorem givesW_len (t : CoolTown) (n : Nat) : (givesW t n).length = n := by simp [givesW]
/-- Whether a house is surely level with some working coolers. -/
def levelB (t : CoolTown) (w : List Int) (y : Nat) : Bool := decide (0 ≤ over1 (worstT t) w y)
end Go.Tk
namespace Go.Proofs.Ytnempffajbdneaa
open Go Go.Av Go.Tk
attribute [local irreducible] Holds sem semL ACalls FnIs
variable {G : World → Prop} (hG : ∀ w w', G w → RowKit.Below w.heap.size w w' → G w')
include hG
end Go.Proofs.Ytnempffajbdneaa
