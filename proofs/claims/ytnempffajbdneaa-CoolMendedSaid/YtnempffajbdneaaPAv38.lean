/- A window of a draw region in which three operations, one behind the other, turn the memory; the others are quiet and float. -/
import Derived.Test.YtnempffajbdneaaPMq
set_option linter.unusedVariables false
set_option linter.unusedSimpArgs false
namespace Go.Av
open Go.RowKit
section rules
variable {K : Ctx} {F : Fcx} {Q : AExit → St → Prop}
end rules
end Go.Av
