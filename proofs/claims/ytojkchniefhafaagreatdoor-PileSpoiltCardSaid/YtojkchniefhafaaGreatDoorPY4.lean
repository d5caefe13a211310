/- The reference's text of a level book. -/
import Derived.Test.YtojkchniefhafaaGreatDoorPY3
set_option linter.unusedVariables false
set_option linter.unusedSimpArgs false
set_option linter.unusedSectionVars false
set_option maxRecDepth 8000
set_option maxHeartbeats 2000000
namespace Go.Tk
open Go Go.Av
theorem c45 : (⟨#[45]⟩ : ByteArray) = strB [45] := rfl
/-- What stands ahead of the last digit. -/
def restD (m : Nat) : Bts := if m < 10 then [] else Lib.decDigits (m / 10)
theorem dec_rest (m : Nat) : Lib.decDigits m = restD m ++ [UInt8.ofNat (48 + m % 10)] := by
  unfold restD
  rw [Lib.decDigits]
  by_cases h : m < 10
  · rw [dif_pos h, if_pos h, Nat.mod_eq_of_lt h]; rfl
  · rw [dif_neg h, if_neg h]
end Go.Tk
namespace Go.Proofs.YtojkchniefhafaaGreatDoor
open Go Go.Av Go.Tk
attribute [local irreducible] Holds sem semL ACalls FnIs strB
variable {G : World → Prop} (hG : ∀ w w', G w → RowKit.Below w.heap.size w w' → G w')
include hG
end Go.Proofs.YtojkchniefhafaaGreatDoor
