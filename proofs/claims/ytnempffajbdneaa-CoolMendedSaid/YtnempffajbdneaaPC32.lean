/- All sets of so many coolers, one after the other: whatever the loop's body keeps. -/
import Derived.Test.YtnempffajbdneaaPC28
set_option linter.unusedVariables false
set_option linter.unusedSimpArgs false
set_option maxRecDepth 8000
set_option maxHeartbeats 2000000
namespace Go.Tk
open Go Go.Av
/-- All lists of so many elements of another one, in its order. -/
def setsL : List Int → Nat → List (List Int)
  | _, 0 => [[]]
  | [], _ + 1 => []
  | x :: l, k + 1 => (setsL l k).map (x :: ·) ++ setsL l (k + 1)
/-- The first of the sets that fells the loop. -/
def firstW (bad : Nat → Bool) (now : Nat) (L : List (List Int)) : Option Nat := (L.map fun s => now ||| setB s).find? bad
end Go.Tk
namespace Go.Proofs.Ytnempffajbdneaa
open Go Go.Av Go.Tk
attribute [local irreducible] Holds sem semL ACalls FnIs YCalls
section
variable {G : World → Prop} (hG : ∀ w w', G w → RowKit.Below w.heap.size w w' → G w')
include hG
end
variable {K : Ctx} (hP : K.P = Try.prog) (hGK : ∀ w w', K.G w → RowKit.Below w.heap.size w w' → K.G w')
include hP hGK
end Go.Proofs.Ytnempffajbdneaa
