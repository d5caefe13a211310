/- The document's town. -/
import Derived.Test.YtnempffajbdneaaPCTab
import Derived.Test.YtnempffajbdneaaPMe
import Derived.Test.YtnempffajbdneaaPMo
set_option maxRecDepth 100000
set_option linter.unusedVariables false
namespace Go.Proofs.Ytnempffajbdneaa
open Go Go.Av Go.Tk
def X0 (f : Nat) (args : List AV) : Option AV := none
def townT : CoolTown := ⟨[⟨⟨80, 100⟩, 3⟩, ⟨⟨50, 60⟩, 5⟩], [⟨300, 2, [⟨60, 70⟩, ⟨0, 0⟩]⟩, ⟨500, 3, [⟨50, 60⟩, ⟨40, 50⟩]⟩, ⟨400, 1, [⟨0, 0⟩, ⟨60, 80⟩]⟩, ⟨450, 4, [⟨50, 55⟩, ⟨30, 35⟩]⟩]⟩
theorem fnok_of {f : Nat} {e : Ent} (h : T f = some e) : FnOK Try.prog f := (tabOK _ (lookT_mem h)).fn
variable {G : World → Prop} (hG : ∀ w w', G w → RowKit.Below w.heap.size w w' → G w')
include hG
end Go.Proofs.Ytnempffajbdneaa
