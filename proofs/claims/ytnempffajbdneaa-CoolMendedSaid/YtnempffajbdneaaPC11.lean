/- The reference: in which week each house is level again; whether an order is good. -/
import Derived.Test.YtnempffajbdneaaPC10
set_option linter.unusedVariables false
set_option linter.unusedSimpArgs false
set_option maxRecDepth 8000
set_option maxHeartbeats 2000000
namespace Go.Tk
open Go Go.Av
def weeksOf (t : CoolTown) (i : Int) : Int := (t.sites.getD i.toNat default).weeks
def weeksL (t : CoolTown) (l : List Int) : Int := sumL (l.map (weeksOf t))
theorem weeksOf_bound {t : CoolTown} (ht : t.ok) {i : Int} (hi : 0 ≤ i ∧ i < t.sites.length) : 0 ≤ weeksOf t i ∧ weeksOf t i ≤ 100 := by
  have := all_getD.1 ht.2.2.2 i.toNat (by omega)
  have := this.2.1
  unfold weeksOf
  omega
/-- In which week a house is level again, by the first n looks. -/
def agF (t : CoolTown) (b o : List Int) (y : Nat) : Nat → Int
  | 0 => -1
  | n + 1 => if agF t b o y n < 0 ∧ levelB t (withoutL b (o.drop n)) y = true then weeksL t (o.take n) else agF t b o y n
def againL (t : CoolTown) (n : Nat) (b o : List Int) : List Int := (List.range n).map fun y => agF t b o y (o.length + 1)
theorem againL_len (t : CoolTown) (n : Nat) (b o : List Int) : (againL t n b o).length = n := by simp [againL]
theorem weeksL_bound {t : CoolTown} (ht : t.ok) {o : List Int} (ho : ∀ i ∈ o, 0 ≤ i ∧ i < t.sites.length) (n : Nat) : 0 ≤ weeksL t (o.take n) ∧ weeksL t (o.take n) ≤ 100 * o.length := by
  have hbi := sumL_bound (c := 100) (l := (o.take n).map (weeksOf t)) fun v hv => by
    obtain ⟨j, hj, rfl⟩ := List.mem_map.1 hv
    exact weeksOf_bound ht (ho j (List.mem_of_mem_take hj))
  rw [List.length_map, List.length_take] at hbi
  unfold weeksL
  omega
theorem weeksL_succ {t : CoolTown} {o : List Int} {n : Nat} (h : n < o.length) : weeksL t (o.take (n + 1)) = weeksL t (o.take n) + weeksOf t (o.getD n default) := by
  unfold weeksL
  rw [map_take_getD (weeksOf t) h, sumL_append]
  simp [sumL]
theorem mem_without {l f : List Int} {x : Int} : x ∈ withoutL l f ↔ x ∈ l ∧ x ∉ f := by simp [withoutL]
def goodB (t : CoolTown) (b o : List Int) : Bool := (List.range t.houses.length).all fun y => decide (0 ≤ agF t b o y (o.length + 1)) && decide (agF t b o y (o.length + 1) ≤ (t.houses.getD y default).grace)
end Go.Tk
namespace Go.Proofs.Ytnempffajbdneaa
open Go Go.Av Go.Tk
attribute [local irreducible] Holds sem semL ACalls FnIs levelB
theorem sl_drop {l : List Int} {i : Nat} : ∀ S w v, VT S w (.sl (l.length - i) fun j => intCs (l.getD (i + j) default)) v → VT S w (slOf intCs (l.drop i)) v := fun S w v h => by
  unfold slOf
  rw [List.length_drop]
  refine h.sl_congr fun j hj => ?_
  have h1 : j < (l.drop i).length := by rw [List.length_drop]; omega
  rw [getD_lt h1, getD_lt (show i + j < l.length by omega), List.getElem_drop]
variable {G : World → Prop} (hG : ∀ w w', G w → RowKit.Below w.heap.size w w' → G w')
include hG
end Go.Proofs.Ytnempffajbdneaa
