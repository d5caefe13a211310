/- A window of a draw region in which one call gives up: whatever of the others has been done by then. -/
import Derived.Test.YtcllnnjeaidppaaGreatDoorPMq
set_option linter.unusedVariables false
set_option linter.unusedSimpArgs false
namespace Go.Av
open Go.RowKit
section rules
variable {K : Ctx} {F : Fcx}
/-- A window in which one operation turns the memory; the others are quiet and float. -/
theorem any_effE {F : Fcx} {Q : AExit → St → Prop} {l : List SOper} {pre : List (List Nat)} {env : List (Nat × AV)} {μ ν : List AObj} (m p : Nat) (is : List Nat) (R : Nat → AV) (hok : winOK l pre 0 m = true) (hpm : p < m) (his : ∀ i, i < m → i ≠ p → i ∈ is)
    (hq0 : ∀ i ∈ is, (bef pre p i = true ∨ QOp K (opAt l i) (envAt l R env i) μ (R i)) ∧ (bef pre i p = true ∨ QOp K (opAt l i) (envAt l R env i) ν (R i)))
    (hp : wantA (opAt l p).guard (envAt l R env p) = some true ∧ sopA (opAt l p).op (envAt l R env p) μ = some (R p, ν))
    (h : AnyC K F Q l pre m ⟨envAt l R env m, ν⟩) : AnyC K F Q l pre 0 ⟨env, μ⟩ := by
  have hlb : ∀ i, opAt l i = if i < 0 then noOp else opAt l i := fun i => by rw [if_neg (Nat.not_lt_zero _)]
  intro ops hl hpg a w ρ S ha μ0 ρ0 S0 w0 hst listed hs0 hl0
  have dz : ∀ k : Nat, decide (k < 0) = false := fun k => by simp
  refine any_abs (l := l) (lb := l) (env0 := env) (R := R) (M := fun X => if X p = true then ν else μ) 0 m hlb hok hl hpg (fun X Y hXY => by simp only [hXY p (Nat.zero_le _) hpm]) (fun t => gX_envAt (Nat.le_refl _) t) ?_ ?_ (ρ := ρ) (S := S)
    ⟨?_, ha.size, ha.defers, fun t => ?_⟩ ?_ listed hs0 hl0
  · intro X i o s N a w ρ S hci hi ho hs hcomp hXi hbef hbef2 hdep hafter hread hnext hG hsb hN
    change GRep K F ρ S _ (if X p = true then ν else μ) a w at hG
    change SB F.b μ0 ρ0 S0 w0 (if X p = true then ν else μ) ρ S w at hsb
    have hlk : ∀ t ∈ looks s, getE (envAt l R env i) t = getE ((looks s).map fun t => (t, gX l m R env X t)) t := fun t ht => by
      rw [getE_map, if_pos ht, hread t ht]
      exact gX_envAt (Nat.le_of_lt hi) t
    by_cases h1 : i = p
    · subst h1
      rw [hs] at hp
      obtain ⟨hg, hop⟩ := hp
      rw [hXi, if_neg (by simp)] at hG hsb
      have hev : ∀ u ∈ opnds s.op, evX (envAt l R env i) u = evX ((looks s).map fun t => (t, gX l m R env X t)) u := fun u hu => by
        cases u with
        | c z => rfl
        | t u => exact hlk u (by unfold looks; exact List.mem_append_right _ (by unfold tmpsOf; exact List.mem_filterMap.2 ⟨.t u, hu, rfl⟩))
      have hguard : wantA s.guard ((looks s).map fun t => (t, gX l m R env X t)) = some true := by
        unfold wantA at hg ⊢
        split
        · rfl
        · rename_i t bb hgd
          rw [hgd] at hg
          simp only at hg
          rw [hlk t (by simp [looks, hgd])] at hg
          exact hg
      rw [sopA_congr hev] at hop
      have e2 : (X i || decide (i = i)) = true := by simp
      exact step_any ho hcomp hsb hG hnext (x := R i) (μ1 := ν) (l := l) (.inl ⟨hguard, hop⟩) fun a' w' ρ' S' g1 g2 => hN a' w' ρ' S' (by
        show GRep K F ρ' S' _ (if (X i || decide (i = i)) = true then ν else μ) a' w'
        rw [e2, if_pos rfl]; exact g1) (by
        show SB F.b μ0 ρ0 S0 w0 (if (X i || decide (i = i)) = true then ν else μ) ρ' S' w'
        rw [e2, if_pos rfl]; exact g2)
    · have hop' : QOp K (opAt l i) (envAt l R env i) (if X p = true then ν else μ) (R i) := by
        cases hXp : X p with
        | true =>
          rcases (hq0 i (his i hi h1)).2 with hb | hq
          · have := hbef2 p (bef_sound hb)
            rw [hXp] at this
            cases this
          · exact hq
        | false =>
          rcases (hq0 i (his i hi h1)).1 with hb | hq
          · have := hbef p (bef_sound hb)
            rw [hXp] at this
            cases this
          · exact hq
      rw [hs] at hop'
      have hop' := hop'.congr hlk
      have e2 : (X p || decide (p = i)) = X p := by simp [Ne.symm h1]
      refine step_any ho hcomp hsb hG hnext (x := R i) (μ1 := if X p = true then ν else μ) (l := l) ?_ fun a' w' ρ' S' g1 g2 => hN a' w' ρ' S' (by
        show GRep K F ρ' S' _ (if (X p || decide (p = i)) = true then ν else μ) a' w'
        rw [e2]; exact g1) (by
        show SB F.b μ0 ρ0 S0 w0 (if (X p || decide (p = i)) = true then ν else μ) ρ' S' w'
        rw [e2]; exact g2)
      rcases hop' with ⟨q1, q2, q3⟩ | ⟨q1, q2⟩ | ⟨q1, f', xs, q2, q3⟩
      · exact .inl ⟨q1, q3⟩
      · exact .inr (.inl ⟨q1, q2, rfl⟩)
      · exact .inr (.inr ⟨q1, rfl, f', xs, q2, by have := q3 []; simpa using this⟩)
  · show AnyC K F Q l pre m ⟨envAt l R env m, if decide (p < m) = true then ν else μ⟩
    rw [show decide (p < m) = true from decide_eq_true hpm, if_pos rfl]
    exact h
  · show RepMu K ρ S (if decide (p < 0) = true then ν else μ) w
    rw [dz]; exact ha.mu
  · show VR (if decide (p < 0) = true then ν else μ) ρ S w (gX l m R env (fun k => decide (k < 0)) t) _
    rw [dz, ← gX_envAt (i := 0) (Nat.zero_le _)]
    exact ha.env t
  · show SB F.b μ0 ρ0 S0 w0 (if decide (p < 0) = true then ν else μ) ρ S w
    rw [dz]; exact hst
end rules
end Go.Av
