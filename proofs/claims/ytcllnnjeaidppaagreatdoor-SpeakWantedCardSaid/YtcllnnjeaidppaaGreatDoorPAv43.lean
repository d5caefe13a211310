/- Some of the objects, by other numbers: those that nothing names any longer are left out. -/
import Derived.Test.YtcllnnjeaidppaaGreatDoorPMq
import Derived.Test.YtcllnnjeaidppaaGreatDoorPMo
set_option linter.unusedVariables false
set_option linter.unusedSimpArgs false
namespace Go.Av
open Go.RowKit
section rules
variable {K : Ctx} {F : Fcx} {Q : AExit → St → Prop}
end rules
end Go.Av
namespace Go.Tk
open Go Go.Av
end Go.Tk
