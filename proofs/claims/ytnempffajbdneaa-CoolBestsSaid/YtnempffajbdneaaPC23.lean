/- Whether coolers keep a town; how many failures they bear. -/
import Derived.Test.YtnempffajbdneaaPC19
import Derived.Test.YtnempffajbdneaaPC22
set_option linter.unusedVariables false
set_option linter.unusedSimpArgs false
set_option maxRecDepth 8000
set_option maxHeartbeats 2000000
namespace Go.Tk
open Go Go.Av
def keepsB (t : CoolTown) (b : List Int) (f : Nat) : Bool := decide (brk t f (setB b) t.houses.length = none)
end Go.Tk
namespace Go.Proofs.Ytnempffajbdneaa
open Go Go.Av Go.Tk
attribute [local irreducible] Holds sem semL ACalls FnIs levelB levM
section
variable {K : Ctx} (hP : K.P = Try.prog) (hGK : ∀ w w', K.G w → RowKit.Below w.heap.size w w' → K.G w')
include hP hGK
theorem broken_at (t : CoolTown) (ht : t.ok) (m : Nat) (hm : m < 2 ^ t.sites.length) (f : Nat) (hf : f ≤ 100) (es : ES) (hv : validQ t es) {μ2 : List AObj} {p q : Nat} (hpq : p ≠ q) (hp : μ2[p]? = some (.map es)) (hq : μ2[q]? = some (.row 96 0 4 [[slOf CoolHouse.cs t.houses, slOf CoolSite.cs t.sites, I m, .mp p]])) :
    ACalls K F.cool_bought_broken [.ptr q 0 4 0 0, I f] μ2 fun ae ν => ∃ es', (ae = .ret (brkV (brk t f m t.houses.length)) ∧ validQ t es') ∧ ν = μ2.set p (.map es') := by
  refine bought_at (R := fun ae es' => ae = .ret (brkV (brk t f m t.houses.length)) ∧ validQ t es') ((bought_broken hP hGK t ht m hm es hv f hf).imp fun ae ν hr => by
    obtain ⟨x, ⟨rfl, es', h1, rfl⟩, rfl⟩ := hr
    exact ⟨es', ⟨rfl, h1⟩, rfl⟩) (fun ae es' hr => ⟨hr.2.bools, fun g => by rw [hr.1]; unfold brkV; split <;> rfl⟩) hv.bools hpq hp hq ?_ ?_
  · simp [renL, renA, backOf, List.idxOf_cons, beq_eq_false_iff_ne.2 hpq]
  · simp [inL, inA]
end
variable {G : World → Prop} (hG : ∀ w w', G w → RowKit.Below w.heap.size w w' → G w')
include hG
end Go.Proofs.Ytnempffajbdneaa
