/- Whether coolers keep a town; how many failures they bear. -/
import Derived.Test.YtnempffajbdneaaPC19
import Derived.Test.YtnempffajbdneaaPC22
set_option linter.unusedVariables false
set_option linter.unusedSimpArgs false
set_option maxRecDepth 8000
set_option maxHeartbeats 2000000
namespace Go.Tk
open Go Go.Av
def keepsB (t : CoolTown) (b : List Int) (f : Nat) : Bool := decide (brk t f (setB b) t.houses.length = none)
end Go.Tk
namespace Go.Proofs.Ytnempffajbdneaa
open Go Go.Av Go.Tk
attribute [local irreducible] Holds sem semL ACalls FnIs levelB levM
section
variable {K : Ctx} (hP : K.P = Try.prog) (hGK : ∀ w w', K.G w → RowKit.Below w.heap.size w w' → K.G w')
include hP hGK
end
variable {G : World → Prop} (hG : ∀ w w', G w → RowKit.Below w.heap.size w w' → G w')
include hG
end Go.Proofs.Ytnempffajbdneaa
