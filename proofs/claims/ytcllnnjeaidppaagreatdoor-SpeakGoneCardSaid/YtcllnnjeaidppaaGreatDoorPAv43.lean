/- Some of the objects, by other numbers: those that nothing names any longer are left out. -/
import Derived.Test.YtcllnnjeaidppaaGreatDoorPMq
import Derived.Test.YtcllnnjeaidppaaGreatDoorPMo
set_option linter.unusedVariables false
set_option linter.unusedSimpArgs false
namespace Go.Av
open Go.RowKit
theorem objTo_ren2 {a b : AObj} {r r' : Option (Nat × Nat)} {g : Nat → Nat} (h : ObjTo a b r r') : ObjTo a (renO g b) r r' := by
  cases a <;> cases b <;> simp only [renO, ObjTo, List.length_map] at * <;> exact h
/-- The first b stay where they are; each of the others that are kept names those alone that are kept. -/
def selOK (el : List Nat) (b : Nat) (μ : List AObj) : Bool := placeOK el μ && (List.range b).all fun i => decide (el[i]? = some i)
section rules
variable {K : Ctx} {F : Fcx} {Q : AExit → St → Prop}
theorem ARep.sel {el : List Nat} {env env' : List (Nat × AV)} {μ μ' : List AObj} (hok : selOK el F.b μ = true) (hμ : el.map (fun j => renO (backOf el) (μ.getD j .gone)) = μ') (hE : ∀ p ∈ env', inA (fun i => el.contains i) (getE env p.1) = true ∧ getE env' p.1 = renA (backOf el) (getE env p.1))
    {ρ S} {a : Act} {w : World} (ha : ARep K F ρ S ⟨env, μ⟩ a w) {μ0 ρ0 S0 w0} (hst : SB F.b μ0 ρ0 S0 w0 μ ρ S w) : ∃ ρ', ARep K F ρ' S ⟨env', μ'⟩ a w ∧ SB F.b μ0 ρ0 S0 w0 μ' ρ' S w := by
  simp only [selOK, placeOK, Bool.and_eq_true, decide_eq_true_eq, List.all_eq_true, List.mem_range] at hok
  obtain ⟨⟨⟨hnd, hlt⟩, hin⟩, hb⟩ := hok
  obtain ⟨ρ', hρ'⟩ : ∃ ρ' : Nat → Option (Nat × Nat), ρ' = fun i => match el[i]? with | some j => ρ j | none => none := ⟨_, rfl⟩
  have r1 : ∀ {i j : Nat}, el[i]? = some j → ρ' i = ρ j := fun {i j} hi => by rw [hρ']; simp only [hi]
  have getD2 : ∀ {j : Nat} {o : AObj}, μ[j]? = some o → μ.getD j .gone = o := fun hj => by simp [List.getD, hj]
  have hget : ∀ {i : Nat} {o : AObj}, μ'[i]? = some o → ∃ j o2, el[i]? = some j ∧ μ[j]? = some o2 ∧ o = renO (backOf el) o2 := fun {i o} hi => by
    rw [← hμ, List.getElem?_map] at hi
    obtain ⟨j, j1, rfl⟩ := Option.map_eq_some_iff.1 hi
    have hj := hlt j (List.mem_of_getElem? j1)
    exact ⟨j, _, j1, List.getElem?_eq_getElem hj, by rw [getD2 (List.getElem?_eq_getElem hj)]⟩
  have hm : ∀ id o, (fun i => el.contains i) id = true → μ[id]? = some o → μ'[backOf el id]? = some (renO (backOf el) o) ∧ ρ' (backOf el id) = ρ id := fun id o hc ho => by
    have hmem : id ∈ el := by simpa using hc
    have hbk := back_get hmem
    refine ⟨?_, r1 hbk⟩
    rw [← hμ, List.getElem?_map, hbk, Option.map_some, getD2 ho]
  refine ⟨ρ', ⟨⟨ha.mu.below, ha.mu.st, ha.mu.own, fun i o hi => ?_, fun i i' o o' B c c' hi hi' hne hne' hB hB' => ?_⟩, ha.size, ha.defers, fun t => ?_⟩, hst.len, hst.stab.sub, hst.stab.blk, fun id o ho => ?_, hst.stab.size, hst.stab.col, fun b hlt2 h1 h2 => ?_⟩
  · obtain ⟨j, o2, j1, j2, rfl⟩ := hget hi
    have hmem := List.mem_of_getElem? j1
    have := hin j hmem
    rw [getD2 j2] at this
    exact (ha.mu.ob j o2 j2).rename this (r1 j1) hm
  · obtain ⟨j, o2, j1, j2, rfl⟩ := hget hi
    obtain ⟨j', o2', j1', j2', rfl⟩ := hget hi'
    rw [r1 j1] at hB
    rw [r1 j1'] at hB'
    have := ha.mu.inj j j' o2 o2' B c c' j2 j2' (fun e => hne (renO_gone.2 e)) (fun e => hne' (renO_gone.2 e)) hB hB'
    subst this
    have l1 := (List.getElem?_eq_some_iff.1 j1).1
    exact (List.getElem?_inj l1 hnd).1 (j1.trans j1'.symm)
  · rcases getE_mem env' t with h | ⟨p, hp, rfl⟩
    · show VR _ _ _ _ (getE env' t) _
      rw [h]; exact .dead _
    · obtain ⟨e1, e2⟩ := hE p hp
      show VR _ _ _ _ (getE env' p.1) _
      rw [e2]
      exact (ha.env p.1).rename e1 hm
  · obtain ⟨o', o1, o2⟩ := hst.stab.obj id o ho
    have hidb : id < F.b := Nat.lt_of_lt_of_le (List.getElem?_eq_some_iff.1 ho).1 hst.len
    have hel := hb id hidb
    refine ⟨renO (backOf el) o', ?_, ?_⟩
    · rw [← hμ, List.getElem?_map, hel, Option.map_some, getD2 o1]
    · rw [r1 hel]; exact objTo_ren2 o2
  · obtain ⟨a1, a2, a3⟩ := hst.stab.fr b hlt2 h1 h2
    refine ⟨a1, a2, fun i o c hi hne => ?_⟩
    obtain ⟨j, o2, j1, j2, rfl⟩ := hget hi
    rw [r1 j1]
    exact a3 j o2 c j2 fun e => hne (renO_gone.2 e)
theorem sem_sel {s : SCode} {env : List (Nat × AV)} {μ : List AObj} (el : List Nat) (env' : List (Nat × AV)) (μ' : List AObj) (hok : selOK el F.b μ = true) (hμ : el.map (fun j => renO (backOf el) (μ.getD j .gone)) = μ')
    (hE : ∀ p ∈ env', inA (fun i => el.contains i) (getE env p.1) = true ∧ getE env' p.1 = renA (backOf el) (getE env p.1)) (h : sem K F s ⟨env', μ'⟩ Q) : sem K F s ⟨env, μ⟩ Q := by
  intro c hc a w ρ S ha μ0 ρ0 S0 w0 hst
  obtain ⟨ρ', b1, b2⟩ := ha.sel hok hμ hE hst
  exact h c hc a w ρ' S b1 μ0 ρ0 S0 w0 b2
theorem semL_sel {l : List SOper} {env : List (Nat × AV)} {μ : List AObj} (el : List Nat) (env' : List (Nat × AV)) (μ' : List AObj) (hok : selOK el F.b μ = true) (hμ : el.map (fun j => renO (backOf el) (μ.getD j .gone)) = μ')
    (hE : ∀ p ∈ env', inA (fun i => el.contains i) (getE env p.1) = true ∧ getE env' p.1 = renA (backOf el) (getE env p.1)) (h : semL K F l ⟨env', μ'⟩ Q) : semL K F l ⟨env, μ⟩ Q := by
  intro all k ol hol hc a w ρ S ha μ0 ρ0 S0 w0 hst
  obtain ⟨ρ', b1, b2⟩ := ha.sel hok hμ hE hst
  exact h all k ol hol hc a w ρ' S b1 μ0 ρ0 S0 w0 b2
/-- A round's end: the objects by the numbers that they have at the loop's head. -/
theorem lnext_sel {α : Type} {mk : α → St} {I : α → Prop} {m : α → Nat} {y : α} {env : List (Nat × AV)} {μ : List AObj} (el : List Nat) (z : α) (h1 : I z) (h2 : m z < m y) (hok : selOK el F.b μ = true) (hμ : el.map (fun j => renO (backOf el) (μ.getD j .gone)) = (mk z).mu)
    (hE : ∀ p ∈ (mk z).env, inA (fun i => el.contains i) (getE env p.1) = true ∧ getE (mk z).env p.1 = renA (backOf el) (getE env p.1)) : semL K F [] ⟨env, μ⟩ (loopQ F.b mk I m y Q) :=
  semL_sel el (mk z).env (mk z).mu hok hμ hE (onil ⟨z, h1, h2, Le.refl _⟩)
end rules
end Go.Av
namespace Go.Tk
open Go Go.Av
theorem ren_rowL {α : Type} {enc : α → List AV} {l : List α} {g : Nat → Nat} (h : ∀ a, renL g (enc a) = enc a) : (rowL enc l).map (renL g) = rowL enc l := by
  unfold rowL
  rw [List.map_map]
  exact List.map_congr_left fun a _ => h a
theorem in_rowL {α : Type} {enc : α → List AV} {l : List α} {p : Nat → Bool} (h : ∀ a, inL p (enc a) = true) : (rowL enc l).all (inL p) = true := by
  unfold rowL
  rw [List.all_map]
  exact List.all_eq_true.2 fun a _ => h a
end Go.Tk
