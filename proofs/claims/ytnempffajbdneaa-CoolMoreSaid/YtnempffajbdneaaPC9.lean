/- The reference: without, sites, cost, before, order. -/
import Derived.Test.YtnempffajbdneaaPC6
set_option linter.unusedVariables false
set_option linter.unusedSimpArgs false
set_option maxRecDepth 8000
set_option maxHeartbeats 2000000
namespace Go.Tk
open Go Go.Av
def sitesL (n : Nat) : List Int := (List.range n).map fun i : Nat => (i : Int)
theorem sitesL_succ (n : Nat) : sitesL (n + 1) = sitesL n ++ [(n : Int)] := by simp [sitesL, List.range_succ]
theorem sitesL_len (n : Nat) : (sitesL n).length = n := by simp [sitesL]
def costOf (t : CoolTown) (i : Int) : Int := (t.sites.getD i.toNat default).cost
def costL (t : CoolTown) (l : List Int) : Int := sumL (l.map (costOf t))
theorem costOf_bound {t : CoolTown} (ht : t.ok) {i : Int} (hi : 0 ≤ i ∧ i < t.sites.length) : 0 ≤ costOf t i ∧ costOf t i ≤ 1000000 := by
  have := all_getD.1 ht.2.2.2 i.toNat (by omega)
  exact this.1
theorem range_all (n : Nat) : ((List.range n).all fun _ => true) = true := by simp
/-- Bought coolers, each at most once. -/
def orderOk (b o : List Int) : Prop := ∀ i, i < o.length → o.getD i default ∈ b ∧ o.getD i default ∉ o.take i
noncomputable instance (b o) : Decidable (orderOk b o) := Classical.propDecidable _
end Go.Tk
namespace Go.Proofs.Ytnempffajbdneaa
open Go Go.Av Go.Tk
attribute [local irreducible] Holds sem semL ACalls FnIs
variable {G : World → Prop} (hG : ∀ w w', G w → RowKit.Below w.heap.size w w' → G w')
include hG
end Go.Proofs.Ytnempffajbdneaa
