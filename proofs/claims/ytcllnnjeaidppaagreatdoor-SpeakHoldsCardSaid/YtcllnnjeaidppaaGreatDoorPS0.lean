/- A row that the library's sort has turned. -/
import Derived.Test.YtcllnnjeaidppaaGreatDoorPIt
import Derived.Test.YtcllnnjeaidppaaGreatDoorPE
set_option linter.unusedVariables false
set_option linter.unusedSimpArgs false
set_option linter.unusedSectionVars false
set_option maxRecDepth 8000
namespace Go.Av
open Go Go.RowKit
end Go.Av
namespace Go.Tk
open Go Go.Av
end Go.Tk
namespace Go.Proofs.YtcllnnjeaidppaaGreatDoor
open Go Go.Av Go.Tk Go.RowKit
end Go.Proofs.YtcllnnjeaidppaaGreatDoor
