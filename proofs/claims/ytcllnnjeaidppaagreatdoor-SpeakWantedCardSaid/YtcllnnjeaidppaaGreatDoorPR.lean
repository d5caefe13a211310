/- The readings of the seat's types. -/
import Derived.Test.YtcllnnjeaidppaaGreatDoorPBr
import Derived.Test.YtcllnnjeaidppaaGreatDoorPE
import Derived.Test.YtcllnnjeaidppaaGreatDoorRows
set_option linter.unusedVariables false
set_option linter.unusedSimpArgs false
set_option maxRecDepth 8000
namespace Go.Proofs.YtcllnnjeaidppaaGreatDoor
open Go Go.Av Go.Tk

def wf_SlInt (l : List Int) : Prop := l.length ≤ maxLen ∧ ∀ a ∈ l, i64 a
theorem rd_SlInt {H : Type} {enc : TypeId × Value → H} {w : World} : Rd enc Tryz.prog w 54 wf_SlInt (fun l => [slOf intCs l]) := rd_slice (sz := 1) Tryz.underlying54 (by kernel_rfl) (by decide) (rd_int Tryz.underlying3)
def wf_SlVote (l : List Int) : Prop := l.length ≤ maxLen ∧ ∀ a ∈ l, i64 a
theorem rd_SlVote {H : Type} {enc : TypeId × Value → H} {w : World} : Rd enc Tryz.prog w 85 wf_SlVote (fun l => [slOf intCs l]) := rd_slice (sz := 1) Tryz.underlying85 (by kernel_rfl) (by decide) (rd_int Tryz.underlying74)
end Go.Proofs.YtcllnnjeaidppaaGreatDoor
