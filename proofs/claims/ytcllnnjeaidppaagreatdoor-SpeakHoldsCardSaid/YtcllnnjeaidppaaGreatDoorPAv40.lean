/- A window of a draw region in which one call gives up: whatever of the others has been done by then. -/
import Derived.Test.YtcllnnjeaidppaaGreatDoorPMq
set_option linter.unusedVariables false
set_option linter.unusedSimpArgs false
namespace Go.Av
open Go.RowKit
section rules
variable {K : Ctx} {F : Fcx}
theorem step_die {Q : AExit → St → Prop} {ops : Array Oper} {o : Oper} {s : SOper} {i : Nat} {g : Nat → AV} {μ1 : List AObj} {a : Act} {w : World} {ρ S} {μ0 ρ0 S0 w0} {N : Act → World → Prop} {f : Nat} {args : List AV}
    (ho : ops[i]? = some o) (hs : compOper K.P F.n ops o = some s) (hst : SB F.b μ0 ρ0 S0 w0 μ1 ρ S w) (hG : GRep K F ρ S g μ1 a w)
    (hw : wantA s.guard ((looks s).map fun t => (t, g t)) = some true) (hcl : callee s.op ((looks s).map fun t => (t, g t)) = some (f, args)) (hop : ACalls K f args μ1 fun ae ν => ∃ v, ae = .panic v ∧ Q (.panic v) ⟨[], ν⟩) : wpOpIn (Fr F.r) 0 K.P ops (Post K F μ0 ρ0 S0 w0 Q) i N a w := by
  obtain ⟨c1, c2, c3, _⟩ := comp_dst hs
  have ha : ARep K F ρ S ⟨(looks s).map fun t => (t, g t), μ1⟩ a w := ⟨hG.mu, hG.size, hG.defers, fun t => by
    show VR μ1 ρ S w (getE ((looks s).map fun t => (t, g t)) t) _
    rw [getE_map]
    split
    · exact hG.env t
    · exact .dead _⟩
  unfold wpOpIn
  simp only [ho]
  rw [want_sound ha hs hw]
  simp only [if_true]
  refine ⟨fun _ _ => trivial, ?_⟩
  rw [semAt_plain c1]
  have fin : ∀ vs : Array Value, vs.size = args.length → (∀ (i : Nat) x v, args[i]? = some x → vs[i]? = some v → VR μ1 ρ S w x v) → (execOp a.eval o).run K.P w = .ok (.enter f vs) w → o.uponIn (Fr F.r) 0 K.P a N (Post K F μ0 ρ0 S0 w0 Q) ((execOp a.eval o).run K.P w) := by
    intro vs hl hv hrun
    rw [hrun]
    refine ⟨fun h => by simp [Fr, Fence.wide] at h, callsIn_Fr ((hop.2 ρ S w vs hG.mu hl hv).mono ?_)⟩
    rintro e w' ⟨ae, μ', ρ', S', ⟨v, rfl, hq⟩, r2, r3, r4⟩
    cases e <;> simp only [EndRel] at r2
    rename_i chain
    refine ⟨.panic v, ⟨[], μ'⟩, ρ', S', ?_, hq, ⟨r3, hG.size, hG.defers.stab r4, fun t => .dead _⟩, hst.trans r4⟩
    match chain, r2 with
    | [⟨v, false, false⟩], r2 => exact r2
  obtain ⟨vs, q1, q2, q3⟩ := callee_exec ha.eval c1 hcl hop.1
  exact fin vs q2 q3 q1
/-- A memory that nothing is like. -/
def botM : List AObj := [.row 0 0 1 [[.mp 1]]]
theorem bot_no {K : Ctx} {ρ S w} (h : RepMu K ρ S botM w) : False := by
  rcases h.ob 0 _ rfl with ⟨-, h2⟩ | ⟨B, cap, cur, h1, h2, h3, h4, h5, h6, h7, h8⟩
  · cases h2
  · obtain ⟨-, h9⟩ := h8 0 _ rfl
    obtain ⟨v, -, hv, -⟩ := h9 0 _ rfl
    cases hv with
    | t h => cases h
    | mp h1 h2 => simp [botM] at h1
    | mpGone _ h1 => simp [botM] at h1
    | mpI h1 h2 => simp [botM] at h1
theorem any_die {F : Fcx} {Q : AExit → St → Prop} {l : List SOper} {pre : List (List Nat)} {env : List (Nat × AV)} {μ : List AObj} (m p : Nat) (is : List Nat) (R : Nat → AV) (hok : winOK l pre 0 m = true) (hpm : p < m) (his : ∀ i, i < m → i ≠ p → bef pre p i = true ∨ i ∈ is)
    (hq0 : ∀ i ∈ is, QOp K (opAt l i) (envAt l R env i) μ (R i)) {f : Nat} {args : List AV}
    (hg : wantA (opAt l p).guard (envAt l R env p) = some true) (hcl : callee (opAt l p).op (envAt l R env p) = some (f, args)) (hc : ACalls K f args μ fun ae ν => ∃ v, ae = .panic v ∧ Q (.panic v) ⟨[], ν⟩) : AnyC K F Q l pre 0 ⟨env, μ⟩ := by
  have hlb : ∀ i, opAt l i = if i < 0 then noOp else opAt l i := fun i => by rw [if_neg (Nat.not_lt_zero _)]
  intro ops hl hpg a w ρ S ha μ0 ρ0 S0 w0 hst listed hs0 hl0
  have dz : ∀ k : Nat, decide (k < 0) = false := fun k => by simp
  refine any_abs (l := l) (lb := l) (env0 := env) (R := R) (M := fun X => if X p = true then botM else μ) 0 m hlb hok hl hpg (fun X Y hXY => by simp only [hXY p (Nat.zero_le _) hpm]) (fun t => gX_envAt (Nat.le_refl _) t) ?_ ?_ (ρ := ρ) (S := S)
    ⟨?_, ha.size, ha.defers, fun t => ?_⟩ ?_ listed hs0 hl0
  · intro X i o s N a w ρ S hci hi ho hs hcomp hXi hbef hbef2 hdep hafter hread hnext hG hsb hN
    change GRep K F ρ S _ (if X p = true then botM else μ) a w at hG
    change SB F.b μ0 ρ0 S0 w0 (if X p = true then botM else μ) ρ S w at hsb
    cases hXp : X p with
    | true =>
      rw [hXp, if_pos rfl] at hG
      exact (bot_no hG.mu).elim
    | false =>
      rw [hXp, if_neg (by simp)] at hG hsb
      have hlk : ∀ t ∈ looks s, getE (envAt l R env i) t = getE ((looks s).map fun t => (t, gX l m R env X t)) t := fun t ht => by
        rw [getE_map, if_pos ht, hread t ht]
        exact gX_envAt (Nat.le_of_lt hi) t
      by_cases h1 : i = p
      · subst h1
        rw [hs] at hg hcl
        have hev : ∀ u ∈ opnds s.op, evX (envAt l R env i) u = evX ((looks s).map fun t => (t, gX l m R env X t)) u := fun u hu => by
          cases u with
          | c z => rfl
          | t u => exact hlk u (by unfold looks; exact List.mem_append_right _ (by unfold tmpsOf; exact List.mem_filterMap.2 ⟨.t u, hu, rfl⟩))
        have hguard : wantA s.guard ((looks s).map fun t => (t, gX l m R env X t)) = some true := by
          unfold wantA at hg ⊢
          split
          · rfl
          · rename_i t bb hgd
            rw [hgd] at hg
            simp only at hg
            rw [hlk t (by simp [looks, hgd])] at hg
            exact hg
        rw [callee_congr hev] at hcl
        exact step_die ho hcomp hsb hG hguard hcl hc
      · rcases his i hi h1 with hb | hm
        · have := hbef p (bef_sound hb)
          rw [hXp] at this
          cases this
        · have hop' := hq0 i hm
          rw [hs] at hop'
          have hop' := hop'.congr hlk
          have e2 : (X p || decide (p = i)) = false := by rw [hXp]; simp [Ne.symm h1]
          refine step_any ho hcomp hsb hG hnext (x := R i) (μ1 := μ) (l := l) ?_ fun a' w' ρ' S' g1 g2 => hN a' w' ρ' S' (by
            show GRep K F ρ' S' _ (if (X p || decide (p = i)) = true then botM else μ) a' w'
            rw [e2]; exact g1) (by
            show SB F.b μ0 ρ0 S0 w0 (if (X p || decide (p = i)) = true then botM else μ) ρ' S' w'
            rw [e2]; exact g2)
          rcases hop' with ⟨q1, q2, q3⟩ | ⟨q1, q2⟩ | ⟨q1, f', xs, q2, q3⟩
          · exact .inl ⟨q1, q3⟩
          · exact .inr (.inl ⟨q1, q2, rfl⟩)
          · exact .inr (.inr ⟨q1, rfl, f', xs, q2, by have := q3 []; simpa using this⟩)
  · show AnyC K F Q l pre m ⟨envAt l R env m, if decide (p < m) = true then botM else μ⟩
    rw [show decide (p < m) = true from decide_eq_true hpm, if_pos rfl]
    intro ops hl hpg a w ρ S ha
    exact (bot_no ha.mu).elim
  · show RepMu K ρ S (if decide (p < 0) = true then botM else μ) w
    rw [dz]; exact ha.mu
  · show VR (if decide (p < 0) = true then botM else μ) ρ S w (gX l m R env (fun k => decide (k < 0)) t) _
    rw [dz, ← gX_envAt (i := 0) (Nat.zero_le _)]
    exact ha.env t
  · show SB F.b μ0 ρ0 S0 w0 (if decide (p < 0) = true then botM else μ) ρ S w
    rw [dz]; exact hst
/-- What a call leaves beside what it was given, dropped; it may have given up. -/
theorem ACalls.dropAny {μ : List AObj} {f : Nat} {args : List AV} {R : AEnd → List AObj → Prop} (h : ACalls K f args μ fun ae μ' => R ae (μ'.take μ.length) ∧ μ.length ≤ μ'.length) (hR : ∀ ae ν, R ae ν → (∃ x, (ae = .ret x ∨ ae = .panic x) ∧ refA μ.length x = true) ∧ refM μ.length ν = true) :
    ACalls K f args μ R := by
  refine ⟨h.1, fun ρ S w vs hm hl hv => (h.2 ρ S w vs hm hl hv).mono ?_⟩
  rintro e w' ⟨ae, μ', ρ', S', ⟨hRx, hle⟩, r2, r3, r4⟩
  obtain ⟨⟨x, hx1, hx⟩, hν⟩ := hR _ _ hRx
  have hst : Stab μ ρ S w (μ'.take μ.length) ρ' S' w' := by
    refine ⟨r4.sub, r4.blk, fun id o ho => ?_, r4.size, r4.col, fun b hlt h1 h2 => ?_⟩
    · obtain ⟨o', h1, h2⟩ := r4.obj id o ho
      exact ⟨o', by rw [List.getElem?_take, if_pos (List.getElem?_eq_some_iff.1 ho).1]; exact h1, h2⟩
    · obtain ⟨a1, a2, a3⟩ := r4.fr b hlt h1 h2
      exact ⟨a1, a2, a3.take⟩
  rcases hx1 with rfl | rfl
  · cases e <;> simp only [EndRel] at r2
    exact ⟨.ret x, _, ρ', S', hRx, r2.take hx, r3.take hle hν, hst⟩
  · cases e <;> simp only [EndRel] at r2
    rename_i chain
    refine ⟨.panic x, _, ρ', S', hRx, ?_, r3.take hle hν, hst⟩
    match chain, r2 with
    | [⟨v, false, false⟩], r2 => exact VR.take r2 hx
end rules
end Go.Av
