/- The floor. -/
import Derived.Test.YtnempffajbdneaaPC26
set_option linter.unusedVariables false
set_option linter.unusedSimpArgs false
set_option maxRecDepth 8000
set_option maxHeartbeats 2000000
namespace Go.Av
section rules
variable {K : Ctx} {μ : List AObj} {C : List (Nat × AV) → List SlotR → Prop}
end rules
end Go.Av
namespace Go.Tk
open Go Go.Av
def allS (t : CoolTown) : Nat := 2 ^ t.sites.length - 1
/-- Whether the n sites that give a house most keep it level. -/
def enough (t : CoolTown) (f n y : Nat) : Bool := decide ((t.houses.getD y default).need.high ≤ sumL (((coldsL t y (allS t)).take n).drop f))
def floorB (t : CoolTown) (f n : Nat) : Bool := (List.range t.houses.length).all (enough t f n)
def floorF (t : CoolTown) (f : Nat) : Option Nat := (List.range (t.sites.length + 1)).find? (floorB t f)
end Go.Tk
namespace Go.Proofs.Ytnempffajbdneaa
open Go Go.Av Go.Tk
attribute [local irreducible] Holds sem semL ACalls FnIs
section
variable {K : Ctx} (hP : K.P = Try.prog) (hGK : ∀ w w', K.G w → RowKit.Below w.heap.size w w' → K.G w')
include hP hGK
end
variable {G : World → Prop} (hG : ∀ w w', G w → RowKit.Below w.heap.size w w' → G w')
include hG
end Go.Proofs.Ytnempffajbdneaa
