/- A window of a draw region in which three operations, one behind the other, turn the memory; the others are quiet and float. -/
import Derived.Test.YtnempffajbdneaaPMq
set_option linter.unusedVariables false
set_option linter.unusedSimpArgs false
namespace Go.Av
open Go.RowKit
/-- The slots behind the first i operations, as the text has them. -/
def envAt (l : List SOper) (R : Nat → AV) (env : List (Nat × AV)) : Nat → List (Nat × AV)
  | 0 => env
  | i + 1 => pushE (envAt l R env i) (opAt l i).dst (R i)
theorem lastW_succ {l : List SOper} {m i : Nat} (hi : i < m) (t : Nat) : lastW l m (fun k => decide (k < i + 1)) t = if (opAt l i).dst = some t then some i else lastW l m (fun k => decide (k < i)) t := by
  have h1 : ∀ n, n ≤ m → lastW l m (fun k => decide (k < n)) t = ((List.range n).filter fun k => decide ((opAt l k).dst = some t)).getLast? := fun n hn => by
    unfold lastW
    congr 1
    obtain ⟨d, rfl⟩ := Nat.exists_eq_add_of_le hn
    rw [List.range_add, List.filter_append]
    have : (List.map (fun x => n + x) (List.range d)).filter (fun k => decide (k < n) && decide ((opAt l k).dst = some t)) = [] := by
      rw [List.filter_eq_nil_iff]
      intro a ha
      obtain ⟨b, _, rfl⟩ := List.mem_map.1 ha
      have : ¬ n + b < n := by omega
      simp [this]
    rw [this, List.append_nil]
    apply List.filter_congr
    intro k hk
    have := List.mem_range.1 hk
    simp [this]
  rw [h1 (i + 1) (by omega), h1 i (by omega), List.range_succ, List.filter_append]
  by_cases h : (opAt l i).dst = some t
  · simp [h]
  · simp [h]
theorem gX_envAt {l : List SOper} {R : Nat → AV} {env : List (Nat × AV)} {m : Nat} : ∀ {i : Nat}, i ≤ m → ∀ t, getE (envAt l R env i) t = gX l m R env (fun k => decide (k < i)) t
  | 0, _, t => by
    have : lastW l m (fun k => decide (k < 0)) t = none := by simp [lastW]
    unfold gX
    rw [this]; rfl
  | i + 1, h, t => by
    have ih := gX_envAt (l := l) (R := R) (env := env) (m := m) (i := i) (by omega) t
    unfold gX
    rw [lastW_succ (by omega) t]
    unfold envAt pushE
    cases hd : (opAt l i).dst with
    | none => simp only [reduceCtorEq, if_false]; rw [ih]; rfl
    | some d =>
      simp only [getE_cons]
      by_cases e : d = t
      · subst e; simp
      · have e' : ¬ some d = some t := fun q => e (Option.some.inj q)
        rw [if_neg e, if_neg e', ih]; rfl
section rules
variable {K : Ctx} {F : Fcx} {Q : AExit → St → Prop}
theorem any_eff3 {l : List SOper} {pre : List (List Nat)} {env : List (Nat × AV)} {μ ν1 ν2 ν3 : List AObj} (m p q r : Nat) (is : List Nat) (R : Nat → AV) (hok : winOK l pre 0 m = true) (hpm : p < m) (hqm : q < m) (hrm : r < m) (hpq : p ≠ q) (hpr : p ≠ r) (hqr : q ≠ r)
    (bpq : bef pre p q = true) (bqr : bef pre q r = true) (bpr : bef pre p r = true) (his : ∀ i, i < m → i ≠ p → i ≠ q → i ≠ r → i ∈ is)
    (hq0 : ∀ i ∈ is, ∀ β, QOp K (opAt l i) (envAt l R env i) β (R i))
    (hp : wantA (opAt l p).guard (envAt l R env p) = some true ∧ sopA (opAt l p).op (envAt l R env p) μ = some (R p, ν1))
    (hq : wantA (opAt l q).guard (envAt l R env q) = some true ∧ sopA (opAt l q).op (envAt l R env q) ν1 = some (R q, ν2))
    (hr : wantA (opAt l r).guard (envAt l R env r) = some true ∧ sopA (opAt l r).op (envAt l R env r) ν2 = some (R r, ν3))
    (h : AnyC K F Q l pre m ⟨envAt l R env m, ν3⟩) : AnyC K F Q l pre 0 ⟨env, μ⟩ := by
  have hlb : ∀ i, opAt l i = if i < 0 then noOp else opAt l i := fun i => by rw [if_neg (Nat.not_lt_zero _)]
  intro ops hl hpg a w ρ S ha μ0 ρ0 S0 w0 hst listed hs0 hl0
  have dz : ∀ k : Nat, decide (k < 0) = false := fun k => by simp
  have dm : ∀ k, k < m → decide (k < m) = true := fun k hk => by simp [hk]
  refine any_abs (l := l) (lb := l) (env0 := env) (R := R) (M := fun X => if X r = true then ν3 else if X q = true then ν2 else if X p = true then ν1 else μ) 0 m hlb hok hl hpg (fun X Y hXY => by simp only [hXY p (Nat.zero_le _) hpm, hXY q (Nat.zero_le _) hqm, hXY r (Nat.zero_le _) hrm]) (fun t => gX_envAt (Nat.le_refl _) t) ?_ ?_ (ρ := ρ) (S := S)
    ⟨?_, ha.size, ha.defers, fun t => ?_⟩ ?_ listed hs0 hl0
  · intro X i o s N a w ρ S hci hi ho hs hcomp hXi hbef hbef2 hdep hafter hread hnext hG hsb hN
    have hlk : ∀ t ∈ looks s, getE (envAt l R env i) t = getE ((looks s).map fun t => (t, gX l m R env X t)) t := fun t ht => by
      rw [getE_map, if_pos ht, hread t ht]
      exact gX_envAt (Nat.le_of_lt hi) t
    have turn : ∀ β β' : List AObj, (if X r = true then ν3 else if X q = true then ν2 else if X p = true then ν1 else μ) = β →
        (if (X r || decide (r = i)) = true then ν3 else if (X q || decide (q = i)) = true then ν2 else if (X p || decide (p = i)) = true then ν1 else μ) = β' →
        wantA s.guard (envAt l R env i) = some true → sopA s.op (envAt l R env i) β = some (R i, β') → wpOpIn (Fr F.r) 0 K.P ops (Post K F μ0 ρ0 S0 w0 Q) i N a w := fun β β' e1 e2 hg hop => by
      change GRep K F ρ S _ (if X r = true then ν3 else if X q = true then ν2 else if X p = true then ν1 else μ) a w at hG
      change SB F.b μ0 ρ0 S0 w0 (if X r = true then ν3 else if X q = true then ν2 else if X p = true then ν1 else μ) ρ S w at hsb
      rw [e1] at hG hsb
      have hguard : wantA s.guard ((looks s).map fun t => (t, gX l m R env X t)) = some true := by
        unfold wantA at hg ⊢
        split
        · rfl
        · rename_i t bb hgd
          rw [hgd] at hg
          simp only at hg
          rw [hlk t (by simp [looks, hgd])] at hg
          exact hg
      have hev : ∀ u ∈ opnds s.op, evX (envAt l R env i) u = evX ((looks s).map fun t => (t, gX l m R env X t)) u := fun u hu => by
        cases u with
        | c z => rfl
        | t u => exact hlk u (by unfold looks; exact List.mem_append_right _ (by unfold tmpsOf; exact List.mem_filterMap.2 ⟨.t u, hu, rfl⟩))
      rw [sopA_congr hev] at hop
      exact step_any ho hcomp hsb hG hnext (x := R i) (μ1 := β') (l := l) (.inl ⟨hguard, hop⟩) fun a' w' ρ' S' g1 g2 => hN a' w' ρ' S' (by
        show GRep K F ρ' S' _ (if (X r || decide (r = i)) = true then ν3 else if (X q || decide (q = i)) = true then ν2 else if (X p || decide (p = i)) = true then ν1 else μ) a' w'
        rw [e2]; exact g1) (by
        show SB F.b μ0 ρ0 S0 w0 (if (X r || decide (r = i)) = true then ν3 else if (X q || decide (q = i)) = true then ν2 else if (X p || decide (p = i)) = true then ν1 else μ) ρ' S' w'
        rw [e2]; exact g2)
    by_cases h1 : i = p
    · subst h1
      have x1 := hbef2 q (bef_sound bpq)
      have x2 := hbef2 r (bef_sound bpr)
      rw [hs] at hp
      exact turn μ ν1 (by simp [hXi, x1, x2]) (by simp [x1, x2, Ne.symm hpq, Ne.symm hpr]) hp.1 hp.2
    · by_cases h2 : i = q
      · subst h2
        have x1 := hbef p (bef_sound bpq)
        have x2 := hbef2 r (bef_sound bqr)
        rw [hs] at hq
        exact turn ν1 ν2 (by simp [hXi, x1, x2]) (by simp [x2, Ne.symm hqr]) hq.1 hq.2
      · by_cases h3 : i = r
        · subst h3
          have x1 := hbef p (bef_sound bpr)
          have x2 := hbef q (bef_sound bqr)
          rw [hs] at hr
          exact turn ν2 ν3 (by simp [hXi, x1, x2]) (by simp) hr.1 hr.2
        · have hop' := hq0 i (his i hi h1 h2 h3) (if X r = true then ν3 else if X q = true then ν2 else if X p = true then ν1 else μ)
          rw [hs] at hop'
          have hop' := hop'.congr hlk
          have e2 : (if (X r || decide (r = i)) = true then ν3 else if (X q || decide (q = i)) = true then ν2 else if (X p || decide (p = i)) = true then ν1 else μ) = (if X r = true then ν3 else if X q = true then ν2 else if X p = true then ν1 else μ) := by
            simp [Ne.symm h1, Ne.symm h2, Ne.symm h3]
          change GRep K F ρ S _ (if X r = true then ν3 else if X q = true then ν2 else if X p = true then ν1 else μ) a w at hG
          change SB F.b μ0 ρ0 S0 w0 (if X r = true then ν3 else if X q = true then ν2 else if X p = true then ν1 else μ) ρ S w at hsb
          refine step_any ho hcomp hsb hG hnext (x := R i) (μ1 := if X r = true then ν3 else if X q = true then ν2 else if X p = true then ν1 else μ) (l := l) ?_ fun a' w' ρ' S' g1 g2 => hN a' w' ρ' S' (by
            show GRep K F ρ' S' _ (if (X r || decide (r = i)) = true then ν3 else if (X q || decide (q = i)) = true then ν2 else if (X p || decide (p = i)) = true then ν1 else μ) a' w'
            rw [e2]; exact g1) (by
            show SB F.b μ0 ρ0 S0 w0 (if (X r || decide (r = i)) = true then ν3 else if (X q || decide (q = i)) = true then ν2 else if (X p || decide (p = i)) = true then ν1 else μ) ρ' S' w'
            rw [e2]; exact g2)
          rcases hop' with ⟨q1, q2, q3⟩ | ⟨q1, q2⟩ | ⟨q1, f', xs, q2, q3⟩
          · exact .inl ⟨q1, q3⟩
          · exact .inr (.inl ⟨q1, q2, rfl⟩)
          · exact .inr (.inr ⟨q1, rfl, f', xs, q2, by have := q3 []; simpa using this⟩)
  · show AnyC K F Q l pre m ⟨envAt l R env m, if decide (r < m) = true then ν3 else if decide (q < m) = true then ν2 else if decide (p < m) = true then ν1 else μ⟩
    rw [dm r hrm, if_pos rfl]
    exact h
  · show RepMu K ρ S (if decide (r < 0) = true then ν3 else if decide (q < 0) = true then ν2 else if decide (p < 0) = true then ν1 else μ) w
    rw [dz, dz, dz]; exact ha.mu
  · show VR (if decide (r < 0) = true then ν3 else if decide (q < 0) = true then ν2 else if decide (p < 0) = true then ν1 else μ) ρ S w (gX l m R env (fun k => decide (k < 0)) t) _
    rw [dz, dz, dz, ← gX_envAt (i := 0) (Nat.zero_le _)]
    exact ha.env t
  · show SB F.b μ0 ρ0 S0 w0 (if decide (r < 0) = true then ν3 else if decide (q < 0) = true then ν2 else if decide (p < 0) = true then ν1 else μ) ρ S w
    rw [dz, dz, dz]; exact hst
end rules
end Go.Av
