/- In which week each house is level again. -/
import Derived.Test.YtnempffajbdneaaPC17
set_option linter.unusedVariables false
set_option linter.unusedSimpArgs false
set_option maxRecDepth 8000
set_option maxHeartbeats 2000000
namespace Go.Tk
open Go Go.Av
/-- A set that has what a list has. -/
theorem listB_ext {c n : Nat} (hn : n ≤ 10) {w : List Int} (hw : w.Pairwise (· < ·)) (hb : ∀ i ∈ w, 0 ≤ i ∧ i < n) (h : ∀ j : Nat, c.testBit j = true ↔ (j : Int) ∈ w) : listB c = w := by
  refine up_ext (listB_up c) hw fun x => ?_
  rw [listB_mem]
  constructor
  · rintro ⟨i, rfl, _, hi⟩
    exact (h i).1 hi
  · intro hx
    have := hb x hx
    obtain ⟨i, rfl⟩ := Int.eq_ofNat_of_zero_le this.1
    exact ⟨i, rfl, by omega, (h i).2 hx⟩
theorem without_up {b f : List Int} (hb : b.Pairwise (· < ·)) : (withoutL b f).Pairwise (· < ·) := hb.filter _
theorem drop_cons' {o : List Int} {i : Nat} (hi : i < o.length) : o.drop i = o.getD i default :: o.drop (i + 1) := by rw [List.drop_eq_getElem_cons hi, getD_lt hi]
end Go.Tk
namespace Go.Proofs.Ytnempffajbdneaa
open Go Go.Av Go.Tk
attribute [local irreducible] Holds sem semL ACalls FnIs levelB levM
variable {K : Ctx} (hP : K.P = Try.prog) (hGK : ∀ w w', K.G w → RowKit.Below w.heap.size w w' → K.G w')
include hP hGK
end Go.Proofs.Ytnempffajbdneaa
