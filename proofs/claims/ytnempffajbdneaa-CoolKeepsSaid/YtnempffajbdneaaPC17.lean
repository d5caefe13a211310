/- In which week each house is level again: a look at the houses. -/
import Derived.Test.YtnempffajbdneaaPC16
set_option linter.unusedVariables false
set_option linter.unusedSimpArgs false
set_option maxRecDepth 8000
set_option maxHeartbeats 2000000
namespace Go.Tk
open Go Go.Av
end Go.Tk
namespace Go.Proofs.Ytnempffajbdneaa
open Go Go.Av Go.Tk
attribute [local irreducible] Holds sem semL ACalls FnIs
variable {K : Ctx} (hP : K.P = Try.prog) (hGK : ∀ w w', K.G w → RowKit.Below w.heap.size w w' → K.G w')
include hP hGK
theorem level_at (t : CoolTown) (ht : t.ok) (m : Nat) (es : ES) (hv : validQ t es) (y : Nat) (hy : y < t.houses.length) (f : Nat) (hf : f ≤ 100) (c : Nat) (hc : c < 2 ^ t.sites.length) {μ2 : List AObj} {p q : Nat} (hpq : p ≠ q) (hp : μ2[p]? = some (.map es)) (hq : μ2[q]? = some (.row 96 0 4 [[slOf CoolHouse.cs t.houses, slOf CoolSite.cs t.sites, I m, .mp p]])) :
    ACalls K F.cool_bought_level [.ptr q 0 4 0 0, keyQ y f c] μ2 fun ae ν => ∃ es', (ae = .ret (B (levM t y f c)) ∧ validQ t es') ∧ ν = μ2.set p (.map es') := by
  have h := bought_level hP hGK t ht m es hv y hy f hf c hc
  refine bought_at (R := fun ae es' => ae = .ret (B (levM t y f c)) ∧ validQ t es') (h.imp fun ae ν hr => ⟨_, ⟨hr.1, keepE.valid hv y f c⟩, hr.2⟩) (fun ae es' hr => ⟨hr.2.bools, fun g => by rw [hr.1]; rfl⟩) hv.bools hpq hp hq ?_ ?_
  · simp [renL, renA, backOf, List.idxOf_cons, beq_eq_false_iff_ne.2 hpq]
  · simp [inL, inA]

end Go.Proofs.Ytnempffajbdneaa
