/- What a call leaves beside what it was given, dropped; calls over what was bought, placed anywhere. -/
import Derived.Test.YtnempffajbdneaaPC14
set_option linter.unusedVariables false
set_option linter.unusedSimpArgs false
namespace Go.Av
open Go.RowKit Go.Tk
section rules
variable {K : Ctx} {μ : List AObj}
theorem ACalls.imp {f : Nat} {args : List AV} {R R' : AEnd → List AObj → Prop} (h : ACalls K f args μ R) (hR : ∀ ae ν, R ae ν → R' ae ν) : ACalls K f args μ R' :=
  ⟨h.1, fun ρ S w vs a b c => (h.2 ρ S w vs a b c).mono fun e w' ⟨ae, μ', ρ', S', r1, r2, r3, r4⟩ => ⟨ae, μ', ρ', S', hR _ _ r1, r2, r3, r4⟩⟩
/-- A contract whose end is one value and one memory, placed anywhere. -/
theorem ACalls.placed1 {f : Nat} {args args2 : List AV} {μ2 ν ν2 : List AObj} {x x2 : AV} (el : List Nat) (h : ACalls K f args μ fun ae ν' => ae = .ret x ∧ ν' = ν) (hok : placeOK el μ2 = true)
    (hμ : el.map (fun j => renO (backOf el) (μ2.getD j .gone)) = μ) (ha : renL (backOf el) args2 = args) (hain : inL (fun i => el.contains i) args2 = true) (hx : renA (posOf el μ2.length) x = x2) (hν : putL el μ2 ν = ν2) :
    ACalls K f args2 μ2 fun ae ν' => ae = .ret x2 ∧ ν' = ν2 := (h.placed el hok hμ ha hain).imp fun ae ν' hr => by
  obtain ⟨_, _, ⟨rfl, rfl⟩, rfl, rfl⟩ := hr
  exact ⟨by rw [← hx]; rfl, hν⟩
theorem ACalls.dropE {f : Nat} {args : List AV} {R : AV → List AObj → Prop} (h : ACalls K f args μ fun ae μ' => ∃ x, R x (μ'.take μ.length) ∧ ae = .ret x ∧ μ.length ≤ μ'.length) (hR : ∀ x ν, R x ν → refA μ.length x = true ∧ refM μ.length ν = true) :
    ACalls K f args μ fun ae μ' => ∃ x, R x μ' ∧ ae = .ret x := by
  refine ⟨h.1, fun ρ S w vs hm hl hv => (h.2 ρ S w vs hm hl hv).mono ?_⟩
  rintro e w' ⟨ae, μ', ρ', S', ⟨x, hRx, rfl, hle⟩, r2, r3, r4⟩
  obtain ⟨hx, hν⟩ := hR _ _ hRx
  cases e <;> simp only [EndRel] at r2
  refine ⟨.ret x, _, ρ', S', ⟨x, hRx, rfl⟩, r2.take hx, r3.take hle hν, r4.sub, r4.blk, fun id o ho => ?_, r4.size, r4.col, fun b hlt h1 h2 => ?_⟩
  · obtain ⟨o', h1, h2⟩ := r4.obj id o ho
    exact ⟨o', by rw [List.getElem?_take, if_pos (List.getElem?_eq_some_iff.1 ho).1]; exact h1, h2⟩
  · obtain ⟨a1, a2, a3⟩ := r4.fr b hlt h1 h2
    exact ⟨a1, a2, a3.take⟩
/-- A call over what was bought, placed anywhere. -/
theorem bought_at {f m : Nat} {args args2 : List AV} {t : CoolTown} {es : ES} {R : AEnd → ES → Prop} (h : ACalls K f args (buyM t m es) fun ae ν => ∃ es', R ae es' ∧ ν = buyM t m es') (hR : ∀ ae es', R ae es' → boolE es' ∧ ∀ g, renEnd g ae = ae)
    (hbe : boolE es) {μ2 : List AObj} {p q : Nat} (hpq : p ≠ q) (hp : μ2[p]? = some (.map es)) (hq : μ2[q]? = some (.row 96 0 4 [[slOf CoolHouse.cs t.houses, slOf CoolSite.cs t.sites, I m, .mp p]]))
    (ha : renL (backOf [p, q]) args2 = args) (hain : inL (fun i => [p, q].contains i) args2 = true) :
    ACalls K f args2 μ2 fun ae ν => ∃ es', R ae es' ∧ ν = μ2.set p (.map es') := by
  have hpl := (List.getElem?_eq_some_iff.1 hp).1
  have hql := (List.getElem?_eq_some_iff.1 hq).1
  have hpg : μ2.getD p .gone = .map es := by simp [List.getD, hp]
  have hqg : μ2.getD q .gone = .row 96 0 4 [[slOf CoolHouse.cs t.houses, slOf CoolSite.cs t.sites, I m, .mp p]] := by simp [List.getD, hq]
  have b0 : backOf [p, q] p = 0 := by simp [backOf]
  have b1 : backOf [p, q] q = 1 := by simp [backOf, List.idxOf_cons, beq_eq_false_iff_ne.2 hpq]
  refine (h.placed (μ2 := μ2) (args2 := args2) [p, q] ?_ ?_ ha hain).imp fun ae ν hr => ?_
  · simp only [placeOK, Bool.and_eq_true, decide_eq_true_eq, List.all_cons, List.all_nil, hpg, hqg, inO, inL, inA, hbe.inn, slOf]
    simp [hpq, hpl, hql]
  · simp only [List.map_cons, List.map_nil, hpg, hqg, renO, renL, renA, hbe.ren, b0, slOf]
    rfl
  · obtain ⟨ae1, ν1, ⟨es', hr1, rfl⟩, rfl, rfl⟩ := hr
    obtain ⟨hb', he⟩ := hR _ _ hr1
    refine ⟨es', by rw [he]; exact hr1, ?_⟩
    apply List.ext_getElem?
    intro j
    unfold putL
    rw [show (buyM t m es').drop [p, q].length = [] from rfl, List.map_nil, List.append_nil, List.getElem?_map]
    by_cases hj : j < μ2.length
    · rw [List.getElem?_range hj, Option.map_some]
      by_cases e1 : j = p
      · subst e1
        rw [List.getElem?_set_self hj]
        simp only [List.contains_cons, BEq.rfl, Bool.true_or, if_true, b0]
        simp only [List.getD_cons_zero, renO, hb'.ren]
      · rw [List.getElem?_set_ne (Ne.symm e1)]
        by_cases e2 : j = q
        · subst e2
          have hc : ([p, j].contains j) = true := by simp
          rw [if_pos hc, b1, hq]
          rfl
        · have hc : ¬ ([p, q].contains j) = true := by simp [e1, e2]
          rw [if_neg hc, List.getElem?_eq_getElem hj]
          simp [List.getD, hj]
    · rw [List.getElem?_eq_none (by simpa using hj), List.getElem?_eq_none (by simpa using hj)]
      rfl
end rules
end Go.Av
