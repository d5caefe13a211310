/- The reference: what is over, what is without, sites, cost, which comes before. -/
import Derived.Test.YtnempffajbdneaaPC5
set_option linter.unusedVariables false
set_option linter.unusedSimpArgs false
set_option maxRecDepth 8000
set_option maxHeartbeats 2000000
namespace Go.Tk
open Go Go.Av
/-- A truth's numbers are small, and as many as the town's. -/
structure truthB (t : CoolTown) (x : CoolTruth) : Prop where
  nl : x.needs.length = t.houses.length
  nb : ∀ v ∈ x.needs, 0 ≤ v ∧ v ≤ 1000000
  gl : x.gives.length = t.sites.length
  g : ∀ l ∈ x.gives, l.length = t.houses.length ∧ ∀ v ∈ l, 0 ≤ v ∧ v ≤ 1000000
def giveOf (x : CoolTruth) (h : Nat) (i : Int) : Int := (x.gives.getD i.toNat default).getD h default
def over1 (x : CoolTruth) (w : List Int) (h : Nat) : Int := -(x.needs.getD h default) + sumL (w.map (giveOf x h))
def overL (n : Nat) (x : CoolTruth) (w : List Int) : List Int := (List.range n).map (over1 x w)
def withoutL (l failed : List Int) : List Int := l.filter fun x => !decide (x ∈ failed)
def before : List Int → List Int → Bool
  | a :: l, b :: m => if a = b then before l m else decide (a < b)
  | _, _ => false
theorem overL_succ (n : Nat) (x : CoolTruth) (w : List Int) : overL (n + 1) x w = overL n x w ++ [over1 x w n] := by simp [overL, List.range_succ]
theorem overL_len (n : Nat) (x : CoolTruth) (w : List Int) : (overL n x w).length = n := by simp [overL]
theorem map_take_getD {α β : Type} [Inhabited α] (f : α → β) {l : List α} {i : Nat} (h : i < l.length) : (l.take (i + 1)).map f = (l.take i).map f ++ [f (l.getD i default)] := by
  rw [List.take_add_one, List.getElem?_eq_getElem h, List.map_append, getD_lt h]
  rfl
end Go.Tk
namespace Go.Proofs.Ytnempffajbdneaa
open Go Go.Av Go.Tk
attribute [local irreducible] Holds sem semL ACalls FnIs
variable {G : World → Prop} (hG : ∀ w w', G w → RowKit.Below w.heap.size w w' → G w')
include hG
end Go.Proofs.Ytnempffajbdneaa
