/- The break of coolers. -/
import Derived.Test.YtnempffajbdneaaPC32
set_option linter.unusedVariables false
set_option linter.unusedSimpArgs false
set_option maxRecDepth 8000
set_option maxHeartbeats 4000000
namespace Go.Av
section rules
variable {K : Ctx} {μ : List AObj}
end rules
end Go.Av
namespace Go.Tk
open Go Go.Av
def badW (t : CoolTown) (m y : Nat) (w : Nat) : Bool := !levM t y 0 (diffN m w)
def brkW (t : CoolTown) (b : List Int) (f y : Nat) : Option Nat := (List.range (f + 1)).findSome? fun k => firstW (badW t (setB b) y) 0 (setsL b k)
end Go.Tk
namespace Go.Proofs.Ytnempffajbdneaa
open Go Go.Av Go.Tk
attribute [local irreducible] Holds sem semL ACalls FnIs YCalls levM
section
variable {K : Ctx} (hP : K.P = Try.prog) (hGK : ∀ w w', K.G w → RowKit.Below w.heap.size w w' → K.G w')
include hP hGK
end
variable {G : World → Prop} (hG : ∀ w w', G w → RowKit.Below w.heap.size w w' → G w')
include hG
end Go.Proofs.Ytnempffajbdneaa
