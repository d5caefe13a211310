/- The values of layer 9, as the layer reads them. -/
import Derived.Test.YtcllnnjeaidppaaGreatDoorPMb
import Derived.Test.YtcllnnjeaidppaaGreatDoorPMo
set_option linter.unusedVariables false
namespace Go.Tk
open Go Go.Av
structure Part where
  kind : Int
  act : Int
  number : Int
  thing : Int
  deriving Inhabited, DecidableEq
def Part.cs (p : Part) : List AV := [I p.kind, I p.act, I p.number, I p.thing]
structure Deed where
  act : Int
  number : Int
  thing : Int
  deriving Inhabited, DecidableEq
def Deed.cs (d : Deed) : List AV := [I d.act, I d.number, I d.thing]
structure Spot where
  kind : Int
  left : Bool
  deriving Inhabited, DecidableEq
def Spot.cs (s : Spot) : List AV := [I s.kind, B s.left]
structure Stp where
  count : Int
  kind : Int
  up : Bool
  bank : Int
  deriving Inhabited, DecidableEq
def Stp.cs (s : Stp) : List AV := [I s.count, I s.kind, B s.up, I s.bank]
structure Council where
  langs : List Int
  quorum : Int
  rule : Int
  n0 : Bool
  n1 : Bool
  n2 : Bool
  deriving Inhabited, DecidableEq
def Council.cs (c : Council) : List AV := [slOf intCs c.langs, I c.quorum, I c.rule, B c.n0, B c.n1, B c.n2]
structure Res where
  yes : Int
  no : Int
  rest : Int
  absent : Int
  passed : Bool
  deriving Inhabited, DecidableEq
def Res.cs (r : Res) : List AV := [I r.yes, I r.no, I r.rest, I r.absent, B r.passed]
def cl (a n t : Int) : Part := ⟨1, a, n, t⟩
theorem mem_getD {α : Type} [Inhabited α] {l : List α} {i : Nat} (h : i < l.length) : l.getD i default ∈ l := by
  rw [getD_lt h]; exact List.getElem_mem _
theorem all_getD {α : Type} [Inhabited α] {l : List α} {p : α → Prop} : (∀ x ∈ l, p x) ↔ ∀ i, i < l.length → p (l.getD i default) := by
  constructor
  · intro h i hi; exact h _ (mem_getD hi)
  · intro h x hx
    obtain ⟨i, hi, rfl⟩ := List.mem_iff_getElem.1 hx
    rw [← getD_lt hi]; exact h i hi
theorem tree_rowN {α : Type} [Inhabited α] {enc : α → List AV} {l : List α} {μ : List AObj} {id e gn sz n : Nat} (hn : n = l.length) (ho : μ[id]? = some (.row e gn sz (rowL enc l))) (hsz : ∀ a, (enc a).length = sz) (ht : ∀ a, treeL (enc a) = true) : Tree μ (.hsl id gn sz n) (slOf enc l) := by
  subst hn; exact tree_rowL ho hsz ht
end Go.Tk
