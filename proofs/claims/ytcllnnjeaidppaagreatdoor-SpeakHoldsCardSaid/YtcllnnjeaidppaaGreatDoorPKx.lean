/- The evaluator over the library's contracts. -/
import Derived.Test.YtcllnnjeaidppaaGreatDoorPZTab
import Derived.Test.YtcllnnjeaidppaaGreatDoorPE
set_option maxRecDepth 100000
set_option linter.unusedVariables false
namespace Go.Proofs.YtcllnnjeaidppaaGreatDoor
open Go Go.Av Go.Tk
theorem fnok_of {f : Nat} {e : Ent} (h : T f = some e) : FnOK Tryz.prog f := (tabOK _ (lookT_mem h)).fn
end Go.Proofs.YtcllnnjeaidppaaGreatDoor
