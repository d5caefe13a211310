/- Plain: deeds that tell motions apart. -/
import Derived.Test.YtcllnnjeaidppaaGreatDoorPM1
set_option linter.unusedVariables false
set_option linter.unusedSimpArgs false
namespace Go.Tk
open Go Go.Av
/-- The order of deeds. -/
def Deed.lt (a b : Deed) : Prop := a.act < b.act ∨ a.act = b.act ∧ (a.thing < b.thing ∨ a.thing = b.thing ∧ a.number < b.number)
def hits (e d : Deed) : Bool := decide (e.act = d.act ∧ e.thing = d.thing ∧ d.number ≤ e.number)
end Go.Tk
