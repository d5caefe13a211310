/- The reference: what is over, what is without, sites, cost, which comes before. -/
import Derived.Test.YtnempffajbdneaaPC5
set_option linter.unusedVariables false
set_option linter.unusedSimpArgs false
set_option maxRecDepth 8000
set_option maxHeartbeats 2000000
namespace Go.Tk
open Go Go.Av
/-- A truth's numbers are small, and as many as the town's. -/
structure truthB (t : CoolTown) (x : CoolTruth) : Prop where
  nl : x.needs.length = t.houses.length
  nb : ∀ v ∈ x.needs, 0 ≤ v ∧ v ≤ 1000000
  gl : x.gives.length = t.sites.length
  g : ∀ l ∈ x.gives, l.length = t.houses.length ∧ ∀ v ∈ l, 0 ≤ v ∧ v ≤ 1000000
def giveOf (x : CoolTruth) (h : Nat) (i : Int) : Int := (x.gives.getD i.toNat default).getD h default
def over1 (x : CoolTruth) (w : List Int) (h : Nat) : Int := -(x.needs.getD h default) + sumL (w.map (giveOf x h))
def withoutL (l failed : List Int) : List Int := l.filter fun x => !decide (x ∈ failed)
def before : List Int → List Int → Bool
  | a :: l, b :: m => if a = b then before l m else decide (a < b)
  | _, _ => false
theorem giveOf_bound {t : CoolTown} {x : CoolTruth} (hx : truthB t x) {h : Nat} (hh : h < t.houses.length) {i : Int} (hi : 0 ≤ i ∧ i < t.sites.length) : 0 ≤ giveOf x h i ∧ giveOf x h i ≤ 1000000 := by
  have hl : i.toNat < x.gives.length := by rw [hx.gl]; omega
  obtain ⟨g1, g2⟩ := hx.g _ (List.getElem_mem hl)
  unfold giveOf
  rw [getD_lt hl, getD_lt (by omega)]
  exact g2 _ (List.getElem_mem _)
theorem map_take_getD {α β : Type} [Inhabited α] (f : α → β) {l : List α} {i : Nat} (h : i < l.length) : (l.take (i + 1)).map f = (l.take i).map f ++ [f (l.getD i default)] := by
  rw [List.take_add_one, List.getElem?_eq_getElem h, List.map_append, getD_lt h]
  rfl
end Go.Tk
namespace Go.Proofs.Ytnempffajbdneaa
open Go Go.Av Go.Tk
attribute [local irreducible] Holds sem semL ACalls FnIs
variable {G : World → Prop} (hG : ∀ w w', G w → RowKit.Below w.heap.size w w' → G w')
include hG
end Go.Proofs.Ytnempffajbdneaa
