/- The first house that is not surely level: what gives up is taken back. -/
import Derived.Test.YtnempffajbdneaaPC19
set_option linter.unusedVariables false
set_option linter.unusedSimpArgs false
set_option maxRecDepth 8000
set_option maxHeartbeats 2000000
namespace Go.Tk
open Go Go.Av
def brk (t : CoolTown) (f c n : Nat) : Option Nat := (List.range n).find? fun y => !levM t y f c
end Go.Tk
namespace Go.Proofs.Ytnempffajbdneaa
open Go Go.Av Go.Tk
attribute [local irreducible] Holds sem semL ACalls FnIs levM
variable {K : Ctx} (hP : K.P = Try.prog) (hGK : ∀ w w', K.G w → RowKit.Below w.heap.size w w' → K.G w')
include hP hGK
end Go.Proofs.Ytnempffajbdneaa
