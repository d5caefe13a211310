/- Plain: the clauses of motions, in order. -/
import Derived.Test.YtcllnnjeaidppaaGreatDoorPP1
set_option linter.unusedVariables false
set_option linter.unusedSimpArgs false
namespace Go.Tk
open Go Go.Av
def Deed.le (a b : Deed) : Prop := a.lt b ∨ a = b
end Go.Tk
