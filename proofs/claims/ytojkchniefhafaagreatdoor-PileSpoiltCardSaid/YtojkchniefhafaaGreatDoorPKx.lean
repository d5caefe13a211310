/- The document's site, as a tree; the evaluator over the library's contracts. -/
import Derived.Test.YtojkchniefhafaaGreatDoorPZTab
import Derived.Test.YtojkchniefhafaaGreatDoorPYb
set_option maxRecDepth 100000
set_option linter.unusedVariables false
namespace Go.Proofs.YtojkchniefhafaaGreatDoor
open Go Go.Av Go.Tk
theorem fnok_of {f : Nat} {e : Ent} (h : T f = some e) : FnOK Tryz.prog f := (tabOK _ (lookT_mem h)).fn
def siteT : PileSite := ⟨[⟨8000, 20, 30, ⟨100, 120⟩, 230, 5⟩, ⟨10000, 0, 40, ⟨100, 100⟩, 360, 5⟩], [⟨0, 1⟩], [⟨500, ⟨2, 4⟩⟩, ⟨700, ⟨5, 9⟩⟩, ⟨900, ⟨10, 20⟩⟩], 200, 25, 10⟩
def thawT : List (List Span) := [[⟨1000, 2000⟩, ⟨1000, 2000⟩], [⟨1000, 2000⟩, ⟨1000, 2000⟩]]
def levelsT : List (List Span) := [[⟨-9, -2⟩, ⟨-4, -2⟩], [⟨-18, -4⟩, ⟨-8, -4⟩]]
def cureCs (c : Int × Int) : List AV := [I c.1, I c.2]
end Go.Proofs.YtojkchniefhafaaGreatDoor
