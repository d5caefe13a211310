/- The reckoning of weeks behind its checks. -/
import Derived.Test.YtnempffajbdneaaPC18
set_option linter.unusedVariables false
set_option linter.unusedSimpArgs false
set_option maxRecDepth 8000
set_option maxHeartbeats 2000000
namespace Go.Tk
open Go Go.Av
/-- The memory behind a call that has bought coolers. -/
abbrev gM (t : CoolTown) (m : Nat) (es : ES) : List AObj := [.row 25 0 2 [t.cs], .row 25 0 2 [t.cs], .row 25 0 2 [t.cs], .map es, .row 96 0 4 [[slOf CoolHouse.cs t.houses, slOf CoolSite.cs t.sites, I m, .mp 3]]]
theorem valid_nil {t : CoolTown} : validQ t [] := fun p hp => by cases hp
end Go.Tk
namespace Go.Proofs.Ytnempffajbdneaa
open Go Go.Av Go.Tk
attribute [local irreducible] Holds sem semL ACalls FnIs levelB levM
section
variable {K : Ctx} (hP : K.P = Try.prog) (hGK : ∀ w w', K.G w → RowKit.Below w.heap.size w w' → K.G w')
include hP hGK
theorem given_ok (t : CoolTown) (hs : t.short) (l : List Int) (hl : l.length ≤ 1000) (hok : t.ok) (hc : coolersOk t.sites.length l) :
    ACalls K F.cool_given [.agg t.cs, slOf intCs l, B true] [.row 25 0 2 [t.cs]] fun ae ν => ae = .ret (.tup [.ptr 4 0 4 0 0, I 0]) ∧ ν = gM t (setB l) [] :=
  ((cool_given hP hGK t hs l hl true).imp (R' := fun ae ν => ae = .ret (.tup [.ptr 3 0 4 0 0, I 0]) ∧ ν = givM t (setB l)) fun ae ν hr => by rwa [if_pos ⟨hok, rfl, hc⟩] at hr).placed1 [] rfl rfl rfl rfl rfl rfl
theorem given_bad (t : CoolTown) (hs : t.short) (l : List Int) (hl : l.length ≤ 1000) (fine : Bool) (hn : ¬ (t.ok ∧ fine = true ∧ coolersOk t.sites.length l)) :
    ACalls K F.cool_given [.agg t.cs, slOf intCs l, B fine] [.row 25 0 2 [t.cs]] fun ae ν => ae = .ret (.tup [.nilp, I 2]) ∧ ν = [.row 25 0 2 [t.cs], .row 25 0 2 [t.cs]] :=
  ((cool_given hP hGK t hs l hl fine).imp (R' := fun ae ν => ae = .ret (.tup [.nilp, I 2]) ∧ ν = [.row 25 0 2 [t.cs]]) fun ae ν hr => by rwa [if_neg hn] at hr).placed1 [] rfl rfl rfl rfl rfl rfl
end
variable {G : World → Prop} (hG : ∀ w w', G w → RowKit.Below w.heap.size w w' → G w')
include hG
end Go.Proofs.Ytnempffajbdneaa
