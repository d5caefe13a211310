/- Functions that defer a function value; functions that recover. -/
import Derived.Test.YtcllnnjeaidppaaGreatDoorPMc
import Derived.RecoverIn
set_option linter.unusedVariables false
set_option linter.unusedSimpArgs false
namespace Go.Av
open Go.RowKit

/-- An operation that defers a call of a function value without arguments. -/
def dfrOf (o : Oper) : Option SX :=
  match o.op, o.dst, o.guard with
  | .defer c, none, none => match c.callee, c.args.toList with | .value x, [] => compX x | _, _ => none
  | _, _, _ => none

def compDR (P : Program) (n : Nat) (ops : Array Oper) : Option DCode :=
  match ops.toList.getLast? with
  | some o => match dfrOf o, compL P n ops ops.toList.dropLast with | some f, some l => some (.dfr l f) | _, _ => none
  | none => none

def compD (P : Program) (n : Nat) : Code → Option DCode
  | .region i ops false => match compC P n (.region i ops false) with | some s => some (.base s) | none => compDR P n ops
  | .seq a b => match compC P n (.seq a b) with
    | some s => some (.base s)
    | none => match compD P n a, compD P n b with | some x, some y => some (.seq x y) | _, _ => none
  | c => (compC P n c).map .base

def DInv (P : Program) (n : Nat) (c : Code) : DCode → Prop
  | .base s => compC P n c = some s
  | .seq x y => ∃ a b, c = .seq a b ∧ compD P n a = some x ∧ compD P n b = some y
  | .dfr l f => ∃ i ops o, c = .region i ops false ∧ ops.toList = ops.toList.dropLast ++ [o] ∧ dfrOf o = some f ∧ compL P n ops ops.toList.dropLast = some l

theorem compD_inv {P : Program} {n : Nat} {c : Code} {d : DCode} (h : compD P n c = some d) : DInv P n c d := by
  have plain : (compC P n c).map DCode.base = some d → DInv P n c d := fun h => by
    simp only [Option.map_eq_some_iff] at h
    obtain ⟨s, h1, rfl⟩ := h
    exact h1
  cases c with
  | region i ops dr =>
    cases dr with
    | true => exact plain h
    | false =>
      simp only [compD] at h
      split at h
      · cases h; rename_i h1; exact h1
      · simp only [compDR] at h
        split at h
        · rename_i o ho
          split at h
          · rename_i f l h1 h2
            cases h
            refine ⟨i, ops, o, rfl, ?_, h1, h2⟩
            have hne : ops.toList ≠ [] := by rintro e; rw [e] at ho; cases ho
            rw [List.getLast?_eq_some_getLast hne] at ho
            cases ho
            exact (List.dropLast_concat_getLast hne).symm
          · cases h
        · cases h
  | seq a b =>
    simp only [compD] at h
    split at h
    · cases h; rename_i h1; exact h1
    · split at h
      · rename_i h1 h2; cases h; exact ⟨a, b, rfl, h1, h2⟩
      · cases h
  | _ => exact plain h

/-- What has been deferred: the function, what it captured, how many objects there were. -/
abbrev DV := Option (Nat × List AV × Nat)
def bOf (b0 : Nat) : DV → Nat
  | none => b0
  | some (_, _, b) => b

def tlOf : DV → List Deferred → Option (List Deferred)
  | none, _ => none
  | some _, t => some t

/-- From the abstract state the code comes to what Q says. -/
def runD (K : Ctx) (m b0 : Nat) : DCode → DV → St → (DV → AExit → St → Prop) → Prop
  | .base s, dv, σ, Q => ∀ D tl, sem K ⟨none, m, D, bOf b0 dv, tlOf dv tl⟩ s σ (Q dv)
  | .seq x y, dv, σ, Q => runD K m b0 x dv σ fun dv' e σ' => match e with | .normal => runD K m b0 y dv' σ' Q | e => Q dv' e σ'
  | .dfr l f, dv, σ, Q => dv = none ∧ ∀ D, semL K ⟨none, m, D, b0, none⟩ l σ fun e σ' => match e with | .normal => ∃ g ca, evX σ'.env f = .fn (.func g) [] ca ∧ Q (some (g, ca, σ'.mu.length)) .normal σ' | e => Q none e σ'

theorem wpIn_Q {F : Fence} {n : Nat} {P : Program} {Q Q' : Exit → Act → World → Prop} {o : Oper} {a : Act} {w : World} {N N' : Act → World → Prop} (h : ∀ a w, N a w → N' a w) (hq : ∀ e a w, e ≠ .normal → Q e a w → Q' e a w)
    (hh : o.wpIn F n P a w N Q) : o.wpIn F n P a w N' Q' := by
  unfold Oper.wpIn at *
  refine ⟨hh.1, ?_⟩
  have hh := hh.2
  have ho : LetsOut Q → LetsOut Q' := fun ⟨a, w, h⟩ => ⟨a, w, hq _ _ _ (by simp) h⟩
  generalize (o.semAt F.round a.eval).run P w = r at *
  cases r with
  | ok x w' =>
    cases x <;> simp only [Oper.uponIn] at hh ⊢ <;>
      first
        | exact h _ _ hh
        | exact ⟨hh.1, CallsIn.mono hh.2 (fun e w'' he => by cases e <;> first | exact h _ _ he | exact hq _ _ _ (by simp) he | exact ho he)⟩
        | exact ⟨hh.1, RowsIn.mono hh.2 (fun _ _ he => h _ _ he)⟩
        | exact ⟨hh.1, RoundIn.mono hh.2 (fun e w'' he => by cases e <;> first | exact h _ _ he | exact hq _ _ _ (by simp) he | exact ho he)⟩
  | halt x w' => cases x <;> simp only [Oper.uponIn] at hh ⊢ <;> first | exact hq _ _ _ (by simp) hh | exact hh

theorem wpOpsIn_split {F : Fence} {n : Nat} {P : Program} {ops : Array Oper} {Q Q' : Exit → Act → World → Prop} {l2 : List Nat} (hq : ∀ e a w, e ≠ .normal → Q e a w → Q' e a w) (hn : ∀ a w, Q .normal a w → wpOpsIn F n P ops Q' l2 a w) :
    ∀ (l1 : List Nat) (a : Act) (w : World), wpOpsIn F n P ops Q l1 a w → wpOpsIn F n P ops Q' (l1 ++ l2) a w
  | [], a, w, h => hn a w h
  | i :: l1, a, w, h => by
    rw [List.cons_append, wpOpsIn_cons]
    rw [wpOpsIn_cons] at h
    unfold wpOpIn at *
    split
    · rename_i ho; rw [ho] at h; exact wpOpsIn_split hq hn l1 a w h
    · rename_i o ho
      rw [ho] at h
      simp only at h
      split
      · rename_i hw; rw [if_pos hw] at h; exact wpIn_Q (wpOpsIn_split hq hn l1) hq h
      · rename_i hw; rw [if_neg hw] at h; exact ⟨h.1, wpOpsIn_split hq hn l1 _ _ h.2⟩

/-- How the start, the place where something was deferred, and the present stand. -/
def Anc (b0 : Nat) (dv : DV) (tl : List Deferred) (μ0 : List AObj) (ρ0 : Nat → Option (Nat × Nat)) (S0 : Nat → Prop) (w0 : World) (μ : List AObj) (ρ : Nat → Option (Nat × Nat)) (S : Nat → Prop) (w : World) : Prop :=
  ∃ μd ρd Sd wd, μd.length ≤ bOf b0 dv ∧ Stab μ0 ρ0 S0 w0 μd ρd Sd wd ∧ Stab μd ρd Sd wd μ ρ S w ∧
    match dv with
    | none => True
    | some (g, ca, _) => ∃ vc : Array Value, tl = [{ target := .fn (.func g) vc, args := #[] }] ∧ vc.size = ca.length ∧ ∀ (i : Nat) c v, ca[i]? = some c → vc[i]? = some v → VR μd ρd Sd wd c v

def PostD (K : Ctx) (m b0 : Nat) (μ0 : List AObj) (ρ0 : Nat → Option (Nat × Nat)) (S0 : Nat → Prop) (w0 : World) (Q : DV → AExit → St → Prop) : Exit → Act → World → Prop :=
  fun e a w => ∃ dv ae σ ρ S D tl, ExRel σ.mu ρ S w ae e ∧ Q dv ae σ ∧ ARep K ⟨none, m, D, bOf b0 dv, tlOf dv tl⟩ ρ S σ a w ∧ Anc b0 dv tl μ0 ρ0 S0 w0 σ.mu ρ S w ∧ w0.heap.size ≤ D

theorem runD_sound {K : Ctx} {m b0 : Nat} {μ0 : List AObj} {ρ0 : Nat → Option (Nat × Nat)} {S0 : Nat → Prop} {w0 : World} : ∀ (d : DCode) {dv : DV} {σ : St} {Q : DV → AExit → St → Prop}, runD K m b0 d dv σ Q → ∀ c, compD K.P m c = some d → ∀ a w ρ S D tl,
    ARep K ⟨none, m, D, bOf b0 dv, tlOf dv tl⟩ ρ S σ a w → Anc b0 dv tl μ0 ρ0 S0 w0 σ.mu ρ S w → w0.heap.size ≤ D → c.wpIn (Fr none) 0 K.P (PostD K m b0 μ0 ρ0 S0 w0 Q) a w
  | .base s, dv, σ, Q, h, c, hc, a, w, ρ, S, D, tl, ha, ⟨μd, ρd, Sd, wd, n1, n2, n3, n4⟩, hD => by
    have hc' : compC K.P m c = some s := compD_inv hc
    refine wpIn_mono (h D tl c hc' a w ρ S ha μd ρd Sd wd ⟨n1, n3⟩) fun e a' w' hp => ?_
    obtain ⟨ae, σ', ρ', S', h3, h4, h5, h6⟩ := hp
    exact ⟨dv, ae, σ', ρ', S', D, tl, h3, h4, h5, ⟨μd, ρd, Sd, wd, n1, n2, h6.stab, n4⟩, hD⟩
  | .seq x y, dv, σ, Q, h, c, hc, a, w, ρ, S, D, tl, ha, han, hD => by
    obtain ⟨c1, c2, rfl, h1, h2⟩ := compD_inv hc
    refine wpIn_seq (wpIn_mono (runD_sound x h c1 h1 a w ρ S D tl ha han hD) fun e a' w' hp => ?_)
    obtain ⟨dv', ae, σ', ρ', S', D', tl', h3, h4, h5, h6, h7⟩ := hp
    cases ae <;> cases e <;> simp only [ExRel] at h3 <;> try (exact h3.elim)
    · exact runD_sound y h4 c2 h2 a' w' ρ' S' D' tl' h5 h6 h7
    · exact ⟨dv', .exit _, σ', ρ', S', D', tl', h3, h4, h5, h6, h7⟩
    · exact ⟨dv', .ret, σ', ρ', S', D', tl', h3, h4, h5, h6, h7⟩
    · exact ⟨dv', .panic _, σ', ρ', S', D', tl', h3, h4, h5, h6, h7⟩
  | .dfr l f, dv, σ, Q, h, c, hc, a, w, ρ, S, D, tl, ha, ⟨μd, ρd, Sd, wd, n1, n2, n3, n4⟩, hD => by
    obtain ⟨i, ops, o, rfl, hops, hf, hl⟩ := compD_inv hc
    obtain ⟨rfl, h⟩ := h
    have hsz : ops.size = ops.toList.dropLast.length + 1 := by
      rw [← Array.length_toList, hops]; simp
    have ho : ops[ops.toList.dropLast.length]? = some o := by
      rw [← Array.getElem?_toList, hops]; simp
    have hr : List.range ops.size = List.range' 0 ops.toList.dropLast.length ++ [ops.toList.dropLast.length] := by
      rw [hsz, List.range_succ, List.range_eq_range']
    refine wpIn_region ?_
    rw [hr]
    refine wpOpsIn_split (Q := Post K ⟨none, m, D, b0, none⟩ μd ρd Sd wd fun e σ' => match e with | .normal => ∃ g ca, evX σ'.env f = .fn (.func g) [] ca ∧ Q (some (g, ca, σ'.mu.length)) .normal σ' | e => Q none e σ') ?_ ?_ _ a w
      (h D ops 0 ops.toList.dropLast (fun i hi => by rw [← Array.getElem?_toList, List.getElem?_dropLast, Nat.zero_add, if_pos (by simpa using hi)]) hl a w ρ S ha μd ρd Sd wd ⟨n1, n3⟩)
    · rintro e a' w' hne ⟨ae, σ', ρ', S', h3, h4, h5, h6⟩
      cases ae <;> cases e <;> simp only [ExRel] at h3 <;> try (exact h3.elim)
      · exact absurd rfl hne
      · exact ⟨none, .exit _, σ', ρ', S', D, tl, h3, h4, h5, ⟨μd, ρd, Sd, wd, n1, n2, h6.stab, n4⟩, hD⟩
      · exact ⟨none, .ret, σ', ρ', S', D, tl, h3, h4, h5, ⟨μd, ρd, Sd, wd, n1, n2, h6.stab, n4⟩, hD⟩
      · exact ⟨none, .panic _, σ', ρ', S', D, tl, h3, h4, h5, ⟨μd, ρd, Sd, wd, n1, n2, h6.stab, n4⟩, hD⟩
    · rintro a' w' ⟨ae, σ', ρ', S', h3, h4, h5, h6⟩
      cases ae <;> simp only [ExRel] at h3
      obtain ⟨g, ca, hev, hQ⟩ := h4
      unfold dfrOf at hf
      split at hf
      · rename_i cl hop hdst hgd
        split at hf
        · rename_i x hcal hargs
          have hv := h5.eval x f hf
          rw [hev] at hv
          obtain ⟨vf, vc, hvv, e1, e2, q1, q2⟩ := fn_inv hv
          have hvf : vf = #[] := Array.eq_empty_of_size_eq_zero (by simpa using e1.symm)
          subst hvf
          have hargs' : cl.args = #[] := by cases hx : cl.args; rw [hx] at hargs; simpa using hargs
          have hd0 : a'.defers = [] := h5.defers.2.1 rfl
          rw [wpOpsIn_cons]
          unfold wpOpIn
          rw [ho]
          simp only [Region.wanted, hgd, if_true]
          refine ⟨fun _ _ => trivial, ?_⟩
          have hsem : (o.semAt (Fr none).round a'.eval).run K.P w' = .ok (.defer { target := .fn (.func g) vc, args := #[] }) w' := by
            show (o.semAt none a'.eval).run K.P w' = _
            rw [Oper.semAt_none]
            obtain ⟨dst, op, type, pos, after, guard⟩ := o
            simp only at hop
            subst hop
            simp only [execOp, resolve, hcal, hvv, hargs']
            simp [Deferred.ofValue]
          rw [hsem]
          simp only [Oper.uponIn, wpOpsIn, hdst, Act.put]
          refine ⟨some (g, ca, σ'.mu.length), .normal, σ', ρ', S', D, [{ target := .fn (.func g) vc, args := #[] }], trivial, hQ, ⟨h5.mu, h5.size, ⟨h5.defers.1, fun h => (by cases h), fun t ht => ⟨[], ?_, List.nodup_nil, by simp⟩⟩, h5.env⟩,
            ⟨σ'.mu, ρ', S', w', Nat.le_refl _, n2.trans h6.stab, Stab.refl _ _ _ _, vc, rfl, e2.symm, q2⟩, hD⟩
          cases ht
          rw [hd0]; rfl
        · cases hf
      · cases hf

/-- What is read off a function that defers. -/
def FnIsD (P : Program) (f : Nat) (m : Nat) (d : DCode) (rs : List RV) : Prop :=
  ∃ fn c, P.funcs[f]? = some fn ∧ (fn.name == "runtime.NumGoroutine") = false ∧ fn.body = some c ∧ compD P m c = some d ∧ fn.ntmps = m ∧ compRs P fn.results.toList = some rs

/-- The frame that leaves: it returns, or panics with one value; recovered behind the deferred call. -/
def ModeRel (μ : List AObj) (ρ : Nat → Option (Nat × Nat)) (S : Nat → Prop) (w : World) : Option AV → FrameMode → FrameMode → Prop
  | none, u, u' => u = .returning ∧ u' = .returning
  | some y, u, u' => ∃ v, u = .panicking [⟨v, false, false⟩] ∧ VR μ ρ S w y v ∧ u' = .panicking [⟨v, true, false⟩]

/-- A deferred call of a function that takes what it captured; a panic it takes back. -/
def DCalls (K : Ctx) (g : Nat) (ca : List AV) (md : Option AV) (μ : List AObj) (R : List AObj → Prop) : Prop :=
  FnOK K.P g ∧ ∀ ρ S w (vc : Array Value) u u', RepMu K ρ S μ w → vc.size = ca.length → (∀ (i : Nat) x v, ca[i]? = some x → vc[i]? = some v → VR μ ρ S w x v) → ModeRel μ ρ S w md u u' →
    CallsDIn Fence.wide 0 K.P g vc u w fun e u2 w' => (∃ v, e = .returned v) ∧ u2 = u' ∧ ∃ μ' ρ' S', R μ' ∧ RepMu K ρ' S' μ' w' ∧ Stab μ ρ S w μ' ρ' S' w'

/-- What a body that defers must come to. -/
def endD (K : Ctx) (rs : List RV) (R : AEnd → List AObj → Prop) (g : Nat) (ca : List AV) (md : Option AV) (σ : St) : Prop :=
  ∃ R', DCalls K g ca md σ.mu R' ∧ ∀ μ', R' μ' → ∃ x, resA ⟨σ.env, μ'⟩ rs = some x ∧ R (.ret x) μ'
def bodyD (K : Ctx) (rs : List RV) (R : AEnd → List AObj → Prop) : DV → AExit → St → Prop
  | none, e, σ => bodyQ rs R e σ
  | some (g, ca, _), .normal, σ => endD K rs R g ca none σ
  | some (g, ca, _), .ret, σ => endD K rs R g ca none σ
  | some (g, ca, _), .panic y, σ => endD K rs R g ca (some y) σ
  | _, _, _ => False

section panics
variable {K : Ctx} {F : Fcx} {σ : St} {Q : AExit → St → Prop}
theorem comp_pan {P : Program} {o : Oper} {x : SX} (h : compOp P o = some (.pan x)) : ∃ y, compX y = some x ∧ (o.op = .panic y ∨ ∃ c, o.op = .call c ∧ c.callee = .builtin .panic ∧ c.args.toList = [y]) := by
  unfold compOp at h
  split at h
  all_goals first
    | (simp only [Option.map_eq_some_iff, SOp.pan.injEq] at h; obtain ⟨y, h1, rfl⟩ := h; exact ⟨_, h1, .inl (by assumption)⟩)
    | ((repeat' (split at h)) <;> first | (cases h; done) | (simp at h; done) | (simp only [Option.map_eq_some_iff, SOp.pan.injEq] at h; obtain ⟨_, h1, rfl⟩ := h; exact ⟨_, h1, .inr ⟨_, by assumption, by assumption, by assumption⟩⟩) | (simp only [Option.map_eq_some_iff] at h; obtain ⟨_, _, h⟩ := h; cases h; done))

/-- The text's own panic. -/
theorem semL_pan {d : Option Nat} {g : Option (Nat × Bool)} {x : SX} {t : Nat} {y : AV} {l : List SOper} (hg : wantA g σ.env = some true) (hx : evX σ.env x = .iface t y) (h : Q (.panic (.iface t y)) σ) : semL K F (⟨d, g, .pan x⟩ :: l) σ Q := by
  intro all k ol hol hcl a w ρ S ha μ0 ρ0 S0 w0 hst
  cases ol with
  | nil => simp [compL] at hcl
  | cons o ol =>
    simp only [compL] at hcl
    split at hcl <;> simp only [Option.some.injEq, List.cons.injEq, reduceCtorEq] at hcl
    rename_i s' l' h1 h2
    obtain ⟨rfl, rfl⟩ := hcl
    obtain ⟨c1, c2, c3, _⟩ := comp_dst h1
    have ho : all[k]? = some o := by have := hol 0 (by simp); simpa using this.symm
    simp only [List.length_cons, List.range'_succ, wpOpsIn, ho, want_sound ha h1 hg, if_true]
    refine ⟨fun _ _ => trivial, ?_⟩
    rw [semAt_plain c1]
    obtain ⟨u, k1, k0⟩ := comp_pan c1
    have hv := ha.eval u x k1
    rw [hx] at hv
    obtain ⟨v, hvv, hr⟩ := iface_inv hv
    have hrun : (execOp a.eval o).run K.P w = .halt (.panic (.iface t v)) w := by
      obtain ⟨dst, op, type, pos, after, guard⟩ := o
      rcases k0 with k0 | ⟨c, k0, k2, k3⟩
      · simp only at k0
        subst k0
        simp only [execOp, hvv]
        simp [Instr.panic, goPanic, Sem.run]
      · simp only at k0
        subst k0
        obtain ⟨callee, cargs, argTypes⟩ := c
        simp only at k2 k3
        subst k2
        have : cargs = #[u] := by cases cargs; simp at k3; simp [k3]
        subst this
        generalize he : a.eval = ev at hvv
        simp only [execOp]
        simp [go_sem, hvv]
        simp [Instr.panic, goPanic, Sem.run]
    rw [hrun]
    exact ⟨.panic (.iface t y), σ, ρ, S, .iface _ _ _ hr, h, ha, hst⟩
end panics

section rules
variable {K : Ctx}

theorem settle_mode {μ ρ S w md u u'} (h : ModeRel μ ρ S w md u u') : u ≠ .run ∧ settle u' = .returning := by
  cases md with
  | none => obtain ⟨rfl, rfl⟩ := h; exact ⟨by simp, rfl⟩
  | some y => obtain ⟨v, rfl, _, rfl⟩ := h; exact ⟨by simp, rfl⟩

theorem acalls_of_runD {f m : Nat} {d : DCode} {rs : List RV} {args : List AV} {μ : List AObj} {R : AEnd → List AObj → Prop} (hf : FnIsD K.P f m d rs) (hn : args.length ≤ m)
    (h : runD K m μ.length d none ⟨enterEnv args, μ⟩ (bodyD K rs R)) : ACalls K f args μ R := by
  obtain ⟨fn, c, f1, f2, b1, b2, f4, f5⟩ := hf
  refine ⟨⟨fn, f1, f2, by rw [b1]; rfl⟩, fun ρ S w vs hm hl hv => ?_⟩
  refine callsIn_wide.1 (callsIn_of_wp_marks (n := 0) f1 b1 trivial ?_)
  have ha := ARep.enter (b := μ.length) (D := w.heap.size) (m := m) hm hl hv hn (Nat.le_refl _) (.inl rfl)
  have hw := runD_sound d h c b2 _ w ρ S w.heap.size [] ha ⟨μ, ρ, S, w, Nat.le_refl _, Stab.refl _ _ _ _, Stab.refl _ _ _ _, trivial⟩ (Nat.le_refl _)
  rw [f4]
  refine wpIn_mono hw fun e a' w' hp => ?_
  obtain ⟨dv, ae, σ', ρ', S', D, tl, h3, h4, h5, ⟨μd, ρd, Sd, wd, n1, n2, n3, n4⟩, hD⟩ := hp
  -- the results are read
  have fin : ∀ x μ2 ρ2 S2 w2, RepMu K ρ2 S2 μ2 w2 → (∀ t, VR μ2 ρ2 S2 w2 (getE σ'.env t) (a'.tmps.getD t undef)) → Stab μ ρ S w μ2 ρ2 S2 w2 → resA ⟨σ'.env, μ2⟩ rs = some x → R (.ret x) μ2 →
      LeavesIn Fence.wide 0 K.P fn a'.tmps (fun e w' => ∃ ae μ' ρ' S', R ae μ' ∧ EndRel μ' ρ' S' w' ae e ∧ RepMu K ρ' S' μ' w' ∧ Stab μ ρ S w μ' ρ' S' w') [] .returning w2 := fun x μ2 ρ2 S2 w2 k1 k2 k3 k4 k5 => by
    obtain ⟨v, v1, v2⟩ := res_sound (σ := ⟨σ'.env, μ2⟩) (F := ⟨none, m, w.heap.size, μ.length, none⟩) (a := { a' with defers := [] }) ⟨k1, h5.size, ⟨k3.size, fun _ => rfl, fun _ h => (by cases h)⟩, k2⟩ f5 k4
    exact ⟨v, v1, .ret x, μ2, ρ2, S2, k5, v2, k1, k3⟩
  cases dv with
  | none =>
    have hd0 : a'.defers = [] := h5.defers.2.1 rfl
    have ret : (∃ x, resA σ' rs = some x ∧ R (.ret x) σ'.mu) → LeavesInM Fence.wide 0 K.P fn a'.tmps (fun e w' => ∃ ae μ' ρ' S', R ae μ' ∧ EndRel μ' ρ' S' w' ae e ∧ RepMu K ρ' S' μ' w' ∧ Stab μ ρ S w μ' ρ' S' w') a'.defers .returning w' := by
      rintro ⟨x, x1, x2⟩
      rw [hd0]
      exact fin x σ'.mu ρ' S' w' h5.mu h5.env (n2.trans n3) x1 x2
    cases ae <;> cases e <;> simp only [ExRel] at h3 <;> try (exact h3.elim)
    · exact ret h4
    · exact h4.elim
    · exact ret h4
    · rename_i x chain
      show LeavesInM _ _ _ _ _ _ _ _ _
      rw [hd0]
      match chain, h3 with
      | [⟨v, false, false⟩], h3 => exact ⟨.panic x, σ'.mu, ρ', S', h4, h3, h5.mu, n2.trans n3⟩
  | some dd =>
    obtain ⟨g, ca, b⟩ := dd
    obtain ⟨vc, rfl, r2, r3⟩ := n4
    obtain ⟨_, _, hds⟩ := h5.defers
    obtain ⟨l, l1, l2, l3⟩ := hds _ rfl
    have go : ∀ md u u', ModeRel σ'.mu ρ' S' w' md u u' → endD K rs R g ca md σ' → LeavesInM Fence.wide 0 K.P fn a'.tmps (fun e w' => ∃ ae μ' ρ' S', R ae μ' ∧ EndRel μ' ρ' S' w' ae e ∧ RepMu K ρ' S' μ' w' ∧ Stab μ ρ S w μ' ρ' S' w') a'.defers u w' := by
      rintro md u u' hmd ⟨R', hc, hres⟩
      obtain ⟨hu, hset⟩ := settle_mode hmd
      rw [l1]
      refine leaves_marks hm.size hu (wq := w') (fun w'' k1 k2 k3 => ?_) l w' l2 (fun D' hD' => ⟨Nat.le_trans hD (l3 D' hD').1, (l3 D' hD').2⟩) h5.mu (Stab0.refl _ _ _ _) (n2.trans n3)
      have hmd2 : ModeRel σ'.mu ρ' S' w'' md u u' := by
        cases md with
        | none => exact hmd
        | some y => obtain ⟨v, m1, m2, m3⟩ := hmd; exact ⟨v, m1, m2.stab0 k2, m3⟩
      refine ⟨hu, .inr ⟨fun h => by simp [Fence.wide] at h, .func g, vc, g, vc, rfl, by simp [invoke, run_callFunc hc.1], fun _ _ => trivial, ?_⟩⟩
      refine (hc.2 ρ' S' w'' vc u u' k1 r2 (fun i x v p q => ((r3 i x v p q).stab n3).stab0 k2) hmd2).mono ?_
      rintro e u2 w3 ⟨⟨v, rfl⟩, rfl, μ3, ρ3, S3, x1, x2, x3⟩
      obtain ⟨x, y1, y2⟩ := hres μ3 x1
      show LeavesInM _ _ _ _ _ _ [] (settle u2) w3
      rw [hset]
      exact fin x μ3 ρ3 S3 w3 x2 (fun t => ((h5.env t).stab0 k2).stab x3) (k3.trans x3) y1 y2
    cases ae <;> cases e <;> simp only [ExRel] at h3 <;> try (exact h3.elim)
    · exact go none _ .returning ⟨rfl, rfl⟩ h4
    · exact h4.elim
    · exact go none _ .returning ⟨rfl, rfl⟩ h4
    · rename_i y chain
      match chain, h3 with
      | [⟨v, false, false⟩], h3 => exact go (some y) _ (.panicking [⟨v, true, false⟩]) ⟨v, rfl, h3, rfl⟩ h4

/-- A function that recovers first of all. -/
def GnIs (P : Program) (g : Nat) (m t : Nat) (s : SCode) : Prop :=
  ∃ fn i o rc c, P.funcs[g]? = some fn ∧ (fn.name == "runtime.NumGoroutine") = false ∧ fn.body = some (.seq (.region i #[o] false) c) ∧ o.op = .call rc ∧ rc.callee = .builtin .recover ∧ rc.args = #[] ∧ o.dst = some t ∧ t < m ∧ o.guard = none ∧
    compC P m c = some s ∧ fn.ntmps = m ∧ fn.results = #[]

theorem dcalls_of_sem {g m t : Nat} {s : SCode} {ca : List AV} {md : Option AV} {μ : List AObj} {R : List AObj → Prop} (hg : GnIs K.P g m t s) (hn : ca.length ≤ m)
    (h : ∀ D, sem K ⟨none, m, D, μ.length, none⟩ s ⟨(t, md.getD .nilif) :: enterEnv ca, μ⟩ fun e σ => (e = .normal ∨ e = .ret) ∧ R σ.mu) : DCalls K g ca md μ R := by
  obtain ⟨fn, i, o, rc, c, f1, f2, b1, o1, o2, o3, o4, o5, o6, b2, rfl, f5⟩ := hg
  refine ⟨⟨fn, f1, f2, by rw [b1]; rfl⟩, fun ρ S w vc u u' hm hl hv hmd => ?_⟩
  refine callsDIn_of_wpSIn (n := 0) f1 b1 trivial fun c₀ cs hu => ?_
  refine wpSIn_seq (wpSIn_region ?_)
  have ha := ARep.enter (b := μ.length) (D := w.heap.size) (m := fn.ntmps) hm hl hv hn (Nat.le_refl _) (.inl rfl)
  have key : ∀ v, VR μ ρ S w (md.getD .nilif) v → c.wpSIn Fence.wide 0 K.P (bodyPostS K.P fn c₀ cs fun e u2 w' => (∃ v, e = .returned v) ∧ u2 = u' ∧ ∃ μ' ρ' S', R μ' ∧ RepMu K ρ' S' μ' w' ∧ Stab μ ρ S w μ' ρ' S' w')
      (({ tmps := vc ++ Array.replicate (fn.ntmps - vc.size) undef, defers := [] } : Act).put (some t) v) ({ c₀ with mode := u' } :: cs) w := fun v hvv => by
    have ha2 := ha.put (d := some t) (μ := μ) (fun t' ht' => by cases ht'; exact o5) hvv hm (Stab.refl _ _ _ _)
    have hw := h w.heap.size c b2 _ w ρ S ha2 μ ρ S w ⟨Nat.le_refl _, Stab.refl _ _ _ _⟩
    refine wpSIn_of_wpIn rfl (wpIn_mono hw fun e a' w' hp => ?_)
    obtain ⟨ae, σ', ρ', S', h3, ⟨h4, h7⟩, h5, h6⟩ := hp
    have hd0 : a'.defers = [] := h5.defers.2.1 rfl
    have hres : ∃ v, (results fn a'.tmps).run K.P w' = .ok v w' := ⟨_, by simp [results, f5]; rfl⟩
    obtain ⟨v, hv'⟩ := hres
    rcases h4 with rfl | rfl <;> cases e <;> simp only [ExRel] at h3
    · exact ⟨hd0, u', rfl, v, hv', ⟨v, rfl⟩, rfl, σ'.mu, ρ', S', h7, h5.mu, h6.stab⟩
    · exact ⟨hd0, u', rfl, v, hv', ⟨v, rfl⟩, rfl, σ'.mu, ρ', S', h7, h5.mu, h6.stab⟩
  have hrun : ∀ a : Act, (execOp a.eval o).run K.P w = .ok .recover w := fun a => by
    obtain ⟨dst, op, type, pos, after, guard⟩ := o
    obtain ⟨cal, cargs, cty⟩ := rc
    simp only at o1 o2 o3
    subst o1; subst o2; subst o3
    simp [execOp, go_sem]
  have hrg : List.range (#[o] : Array Oper).size = [0] := rfl
  rw [hrg]
  simp only [wpOpsSIn]
  simp only [show (#[o] : Array Oper)[0]? = some o from rfl, Region.wanted, o6, if_true, hrun, o4]
  refine ⟨fun _ _ => trivial, ?_⟩
  subst hu
  cases md with
  | none =>
    obtain ⟨hm1, rfl⟩ := hmd
    have hrec : recoverD (c₀ :: cs) = none := by simp [recoverD, hm1]
    rw [hrec]
    have hc : ({ c₀ with mode := .returning } : Frame) = c₀ := by rw [← hm1]
    have := key .nilIface (.t .nilif)
    rw [hc] at this
    exact this
  | some y =>
    obtain ⟨v, hm1, hm2, rfl⟩ := hmd
    have hrec : recoverD (c₀ :: cs) = some (v, { c₀ with mode := .panicking [⟨v, true, false⟩] } :: cs) := by simp [recoverD, hm1]
    rw [hrec]
    exact key v hm2
end rules

def codeOfD (P : Program) (f : Func) : DCode := (f.body.bind fun c => compD P f.ntmps c).getD (.base .skip)
def codeOfG (P : Program) (f : Func) : SCode := match f.body with | some (.seq _ c) => (compC P f.ntmps c).getD .skip | _ => .skip
end Go.Av
set_option linter.unusedVariables false
set_option linter.unusedSimpArgs false
namespace Go.Av
open Go.RowKit

/-- The order's conditions on a window: all that is ahead of its end comes ahead of all that is behind it. -/
def winOK (l : List SOper) (pre : List (List Nat)) (c m : Nat) : Bool :=
  decide (pre.length = l.length) && decide (m ≤ l.length) && decide (c ≤ m) &&
  (List.range l.length).all (fun i => (pre.getD i []).all fun p => decide (p < i)) &&
  (List.range m).all (fun i => (List.range m).all fun k => decide (i < c) || decide (k < c) ||
    match (l.getD k ⟨none, none, .mv (.t 0)⟩).dst with
    | none => true
    | some t =>
      if k < i then
        (bef pre k i || (!(looks (l.getD i ⟨none, none, .mv (.t 0)⟩)).contains t && !decide ((l.getD i ⟨none, none, .mv (.t 0)⟩).dst = some t)))
      else if i < k then
        (bef pre i k || (!(looks (l.getD i ⟨none, none, .mv (.t 0)⟩)).contains t && !decide ((l.getD i ⟨none, none, .mv (.t 0)⟩).dst = some t)))
      else true) &&
  (List.range l.length).all (fun i => decide (i < m) || (List.range m).all fun k => bef pre k i)

/-- The order's conditions on a stretch that comes in its order. -/
def seqOK (l : List SOper) (pre : List (List Nat)) (c m : Nat) : Bool :=
  decide (pre.length = l.length) && decide (m ≤ l.length) && decide (c ≤ m) &&
  (List.range l.length).all (fun i => (pre.getD i []).all fun p => decide (p < i)) &&
  (List.range l.length).all (fun i => decide (i < c) || (List.range (min i m)).all fun k => bef pre k i)

section rules
variable {K : Ctx} {F : Fcx} {σ : St} {Q : AExit → St → Prop}

/-- A region of which the first c operations are through. -/
def AnyC (K : Ctx) (F : Fcx) (Q : AExit → St → Prop) (l : List SOper) (pre : List (List Nat)) (c : Nat) (σ : St) : Prop :=
  ∀ ops : Array Oper, compL K.P F.n ops ops.toList = some l → ops.toList.map preOf = pre → ∀ a w ρ S, ARep K F ρ S σ a w → ∀ μ0 ρ0 S0 w0, SB F.b μ0 ρ0 S0 w0 σ.mu ρ S w →
    ∀ listed : Array Bool, listed.size = ops.size → (∀ i, i < ops.size → listed[i]? = some (decide (i < c))) → wpAnyIn (Fr F.r) 0 K.P .any ops (Post K F μ0 ρ0 S0 w0 Q) (ops.size - c) listed a w

theorem any_start {l : List SOper} {pre : List (List Nat)} {env : List (Nat × AV)} {μ : List AObj} (hmix : K.P.follows .mixedOrders = true) (h : AnyC K F Q l pre 0 ⟨env, μ⟩) : sem K F (.dreg l pre) ⟨env, μ⟩ Q := by
  intro c hc a w ρ S ha μ0 ρ0 S0 w0 hst
  obtain ⟨id, ops, rfl, hl, rfl⟩ := comp_inv hc
  obtain ⟨d1, d2⟩ := ha.mu.same (w' := w.drew) (Below.drew (Below.refl _ _)) rfl
  refine wpIn_region_any hmix ?_
  have := h ops hl rfl a w.drew ρ S ⟨d1, ha.size, ha.defers.stab d2, fun t => (ha.env t).stab d2⟩ μ0 ρ0 S0 w0 (hst.trans d2) (Array.replicate ops.size false) (by simp) (fun i hi => by simp [hi])
  simpa using this

theorem any_end {l : List SOper} {pre : List (List Nat)} (n : Nat) (hn : l.length = n) (h : Q .normal σ) : AnyC K F Q l pre n σ := by
  subst hn
  intro ops hl hpg a w ρ S ha μ0 ρ0 S0 w0 hst listed hs0 hl0
  have g1 := (compL_get hl).1
  simp only [Array.length_toList] at g1
  rw [show ops.size - l.length = 0 by omega]
  refine ⟨?_, .normal, σ, ρ, S, trivial, h, ha, hst⟩
  apply List.eq_nil_iff_forall_not_mem.2
  intro i hi
  obtain ⟨h1, o, h2, _⟩ := mem_ready.1 hi
  have hlt' := (Array.getElem?_eq_some_iff.1 h2).1
  have := hl0 i hlt'
  rw [Array.getD_eq_getD_getElem?, this] at h1
  simp at h1; omega

theorem wpOpIn_Q {F : Fence} {n : Nat} {P : Program} {ops : Array Oper} {Q Q' : Exit → Act → World → Prop} {i : Nat} {a : Act} {w : World} {N N' : Act → World → Prop} (h : ∀ a w, N a w → N' a w) (hq : ∀ e a w, e ≠ .normal → Q e a w → Q' e a w)
    (hh : wpOpIn F n P ops Q i N a w) : wpOpIn F n P ops Q' i N' a w := by
  unfold wpOpIn at *
  split
  · rename_i ho; rw [ho] at hh; exact h _ _ hh
  · rename_i o ho
    rw [ho] at hh
    simp only at hh
    split
    · rename_i hw; rw [if_pos hw] at hh; exact wpIn_Q h hq hh
    · rename_i hw; rw [if_neg hw] at hh; exact ⟨hh.1, h _ _ hh.2⟩

theorem seq_any {F : Fence} {P : Program} {ops : Array Oper} {Q Q' : Exit → Act → World → Prop} {pre : List (List Nat)} {c m : Nat} (hm : m ≤ ops.size) (hpre : ∀ (i : Nat) o, ops[i]? = some o → pre[i]? = some (preOf o))
    (hlt : ∀ (i : Nat) ps p, pre[i]? = some ps → p ∈ ps → p < i) (htail : ∀ i, c ≤ i → i < ops.size → ∀ k, k < i → k < m → Bef pre k i) (hq : ∀ e a w, e ≠ .normal → Q e a w → Q' e a w)
    (hn : ∀ a w, Q .normal a w → ∀ listed : Array Bool, listed.size = ops.size → (∀ i, i < ops.size → listed[i]? = some (decide (i < m))) → wpAnyIn F 0 P .any ops Q' (ops.size - m) listed a w) :
    ∀ (d j : Nat) (listed : Array Bool) (a : Act) (w : World), j + d = m → c ≤ j → listed.size = ops.size → (∀ i, i < ops.size → listed[i]? = some (decide (i < j))) → wpOpsIn F 0 P ops Q (List.range' j d) a w →
      wpAnyIn F 0 P .any ops Q' (ops.size - j) listed a w := by
  intro d
  induction d with
  | zero =>
    intro j listed a w hj hc hs hl h
    obtain rfl : j = m := by omega
    exact hn a w h listed hs hl
  | succ d ih =>
    intro j listed a w hj hc hs hl h
    have hjs : j < ops.size := by omega
    have hrj : j ∈ Region.ready .any ops listed := by
      refine mem_ready.2 ⟨by rw [Array.getD_eq_getD_getElem?, hl j hjs]; simp, ops[j], Array.getElem?_eq_getElem hjs, fun e he hb => ?_⟩
      have h1 := hlt j _ e.on (hpre j _ (Array.getElem?_eq_getElem hjs)) (preOf_mem.2 ⟨e, he, hb, rfl⟩)
      rw [Array.getD_eq_getD_getElem?, hl e.on (by omega)]
      simp [h1]
    rw [show ops.size - j = (ops.size - (j + 1)) + 1 by omega]
    refine ⟨fun h0 => (by rw [h0] at hrj; exact absurd hrj List.not_mem_nil), fun i hi => ?_⟩
    obtain ⟨h1, o, h2, h3⟩ := mem_ready.1 hi
    have hilt := (Array.getElem?_eq_some_iff.1 h2).1
    rw [Array.getD_eq_getD_getElem?, hl i hilt] at h1
    simp at h1
    have hij : i = j := by
      rcases Nat.lt_or_eq_of_le h1 with h4 | h4
      · have hb := htail i (by omega) hilt j h4 (by omega)
        have := Bef.closed (X := fun k => k < j) (fun i' ps p hi' a b => by have := hlt i' ps p a b; omega) hb (fun ps p a b => by
          have a2 := (hpre i o h2).symm.trans a
          have a3 : preOf o = ps := by simpa using a2
          rw [← a3] at b
          obtain ⟨e, e1, e2, rfl⟩ := preOf_mem.1 b
          have h5 := h3 e e1 e2
          by_cases h6 : e.on < ops.size
          · rw [Array.getD_eq_getD_getElem?, hl e.on h6] at h5
            simpa using h5
          · rw [Array.getD_eq_getD_getElem?, Array.getElem?_eq_none (by omega)] at h5
            simp at h5)
        omega
      · exact h4.symm
    subst hij
    rw [List.range'_succ, wpOpsIn_cons] at h
    refine wpOpIn_Q (fun a' w' h' => ih (i + 1) _ a' w' (by omega) (by omega) (by simpa using hs) (fun k hk => ?_) h') hq h
    by_cases hki : i = k
    · subst hki
      rw [Array.getElem?_setIfInBounds_self_of_lt (by omega)]; simp
    · rw [Array.getElem?_setIfInBounds_ne hki, hl k hk]
      congr 1
      by_cases h7 : k < i
      · simp [h7]; omega
      · simp [h7]; omega

theorem compL_take {P : Program} {n : Nat} {all : Array Oper} : ∀ {ol : List Oper} {l : List SOper} (m : Nat), compL P n all ol = some l → compL P n all (ol.take m) = some (l.take m)
  | [], l, m, h => by simp [compL] at h; subst h; simp [compL]
  | o :: ol, l, 0, h => by simp [compL]
  | o :: ol, l, m + 1, h => by
    simp only [compL] at h
    split at h
    · rename_i s l' h1 h2
      cases h
      simp only [List.take_succ_cons, compL, h1, compL_take m h2]
    · cases h

def anyQ (K : Ctx) (F : Fcx) (Q : AExit → St → Prop) (l : List SOper) (pre : List (List Nat)) (m : Nat) : AExit → St → Prop
  | .normal, σ => AnyC K F Q l pre m σ
  | e, σ => Q e σ

theorem any_seq {l : List SOper} {pre : List (List Nat)} (c m : Nat) (hok : seqOK l pre c m = true) (h : semL K F ((l.take m).drop c) σ (anyQ K F Q l pre m)) : AnyC K F Q l pre c σ := by
  intro ops hl hpg a w ρ S ha μ0 ρ0 S0 w0 hst listed hs0 hl0
  have g1 := (compL_get hl).1
  simp only [Array.length_toList] at g1
  simp only [seqOK, Bool.and_eq_true, decide_eq_true_eq, List.all_eq_true, List.mem_range] at hok
  obtain ⟨⟨⟨⟨k1, k2⟩, k0⟩, k3⟩, k5⟩ := hok
  have hpre : ∀ (i : Nat) o, ops[i]? = some o → (ops.toList.map preOf)[i]? = some (preOf o) := fun i o ho => by
    simp [List.getElem?_map, Array.getElem?_toList, ho]
  rw [hpg] at hpre
  have hlt : ∀ (i : Nat) ps p, pre[i]? = some ps → p ∈ ps → p < i := fun i ps p h1 h2 => by
    have hi : i < l.length := by rw [← k1]; exact (List.getElem?_eq_some_iff.1 h1).1
    exact k3 i hi p (by rw [getD_some h1]; exact h2)
  have htail : ∀ i, c ≤ i → i < ops.size → ∀ k, k < i → k < m → Bef pre k i := fun i h1 h2 k h3 h4 => by
    have := k5 i (by omega)
    rcases Bool.or_eq_true_iff.1 this with h5 | h5
    · simp at h5; omega
    · exact bef_sound (by simpa using List.all_eq_true.1 h5 k (List.mem_range.2 (by omega)))
  refine seq_any (Q := Post K F μ0 ρ0 S0 w0 (anyQ K F Q l pre m)) (by omega) hpre hlt htail ?_ ?_ (m - c) c listed a w (by omega) (Nat.le_refl _) hs0 hl0 ?_
  · rintro e a' w' hne ⟨ae, σ', ρ', S', h3, h4, h5, h6⟩
    cases ae <;> cases e <;> simp only [ExRel] at h3 <;> try (exact h3.elim)
    · exact absurd rfl hne
    · exact ⟨.exit _, σ', ρ', S', h3, h4, h5, h6⟩
    · exact ⟨.ret, σ', ρ', S', h3, h4, h5, h6⟩
    · exact ⟨.panic _, σ', ρ', S', h3, h4, h5, h6⟩
  · rintro a' w' ⟨ae, σ', ρ', S', h3, h4, h5, h6⟩ listed' hs' hl'
    cases ae <;> simp only [ExRel] at h3
    exact h4 ops hl hpg a' w' ρ' S' h5 μ0 ρ0 S0 w0 h6 listed' hs' hl'
  · have hlen : ((ops.toList.take m).drop c).length = m - c := by simp; omega
    have := h ops c ((ops.toList.take m).drop c) (fun i hi => by rw [List.getElem?_drop, List.getElem?_take, if_pos (by omega)]; simp) (compL_drop c (compL_take m hl)) a w ρ S ha μ0 ρ0 S0 w0 hst
    rw [hlen] at this
    exact this

theorem any_abs {l lb : List SOper} {pre : List (List Nat)} {ops : Array Oper} (c m : Nat) (hlb : ∀ i, opAt lb i = if i < c then noOp else opAt l i) (hok : winOK l pre c m = true) (hl : compL K.P F.n ops ops.toList = some l) (hpg : ops.toList.map preOf = pre)
    {env0 env' : List (Nat × AV)} {R : Nat → AV} {M : (Nat → Bool) → List AObj} (hM : ∀ X Y : Nat → Bool, (∀ k, c ≤ k → k < m → X k = Y k) → M X = M Y) (henv : ∀ t, getE env' t = gX lb m R env0 (fun k => decide (k < m)) t)
    {μ0 : List AObj} {ρ0 : Nat → Option (Nat × Nat)} {S0 : Nat → Prop} {w0 : World}
    (step : ∀ (X : Nat → Bool) (i : Nat) (o : Oper) (s : SOper) (N : Act → World → Prop) (a : Act) (w : World) (ρ : Nat → Option (Nat × Nat)) (S : Nat → Prop), c ≤ i → i < m → ops[i]? = some o → opAt lb i = s → compOper K.P F.n ops o = some s → X i = false →
      (∀ k, Bef pre k i → X k = true) → (∀ k, Bef pre i k → X k = false) → (∀ k t, k < m → k < i → (opAt lb k).dst = some t → t ∈ looks s → X k = true) → (∀ k t, k < m → i < k → s.dst = some t → t ∈ looks (opAt lb k) → X k = false) → (∀ t, t ∈ looks s → gX lb m R env0 X t = gX lb m R env0 (fun k => decide (k < i)) t) → (∀ t, gX lb m R env0 (fun k => X k || decide (k = i)) t = if s.dst = some t then R i else gX lb m R env0 X t) →
      GRep K F ρ S (gX lb m R env0 X) (M X) a w → SB F.b μ0 ρ0 S0 w0 (M X) ρ S w →
      (∀ a' w' ρ' S', GRep K F ρ' S' (gX lb m R env0 (fun k => X k || decide (k = i))) (M fun k => X k || decide (k = i)) a' w' → SB F.b μ0 ρ0 S0 w0 (M fun k => X k || decide (k = i)) ρ' S' w' → N a' w') →
      wpOpIn (Fr F.r) 0 K.P ops (Post K F μ0 ρ0 S0 w0 Q) i N a w)
    (h : AnyC K F Q l pre m ⟨env', M fun k => decide (k < m)⟩) {a : Act} {w : World} {ρ : Nat → Option (Nat × Nat)} {S : Nat → Prop}
    (st1 : GRep K F ρ S (gX lb m R env0 fun k => decide (k < c)) (M fun k => decide (k < c)) a w) (st2 : SB F.b μ0 ρ0 S0 w0 (M fun k => decide (k < c)) ρ S w) (listed0 : Array Bool) (hs0 : listed0.size = ops.size)
    (hl0 : ∀ i, i < ops.size → listed0[i]? = some (decide (i < c))) : wpAnyIn (Fr F.r) 0 K.P .any ops (Post K F μ0 ρ0 S0 w0 Q) (ops.size - c) listed0 a w := by
  obtain ⟨g1, g2⟩ := compL_get hl
  simp only [Array.length_toList] at g1
  -- the order's conditions
  simp only [winOK, Bool.and_eq_true, decide_eq_true_eq, List.all_eq_true, List.mem_range] at hok
  obtain ⟨⟨⟨⟨⟨k1, k2⟩, k0⟩, k3⟩, k4⟩, k5⟩ := hok
  have hpre : ∀ (i : Nat) o, ops[i]? = some o → (ops.toList.map preOf)[i]? = some (preOf o) := fun i o ho => by
    simp [List.getElem?_map, Array.getElem?_toList, ho]
  rw [hpg] at hpre
  have hlt : ∀ (i : Nat) ps p, pre[i]? = some ps → p ∈ ps → p < i := fun i ps p h1 h2 => by
    have hi : i < l.length := by rw [← k1]; exact (List.getElem?_eq_some_iff.1 h1).1
    exact k3 i hi p (by rw [getD_some h1]; exact h2)
  have hat : ∀ i o, ops[i]? = some o → ∃ s, l[i]? = some s ∧ opAt l i = s ∧ compOper K.P F.n ops o = some s := fun i o ho => by
    obtain ⟨s, s1, s2⟩ := g2 i o (by rw [Array.getElem?_toList]; exact ho)
    exact ⟨s, s1, getD_some s1, s2⟩
  have htail : ∀ i, m ≤ i → i < ops.size → ∀ k, k < m → Bef pre k i := fun i h1 h2 k h3 => by
    have := k5 i (by omega)
    rcases Bool.or_eq_true_iff.1 this with h4 | h4
    · simp at h4; omega
    · exact bef_sound (by simpa using List.all_eq_true.1 h4 k (List.mem_range.2 h3))
  have hge : ∀ k t, (opAt lb k).dst = some t → c ≤ k ∧ (opAt l k).dst = some t := fun k t hk => by
    rw [hlb] at hk
    split at hk
    · cases hk
    · exact ⟨by omega, hk⟩
  have hconf : ∀ i k t, c ≤ i → i < m → k < m → k ≠ i → (opAt lb k).dst = some t → (t ∈ looks (opAt l i) ∨ (opAt l i).dst = some t) → (k < i → Bef pre k i) ∧ (i < k → Bef pre i k) := fun i k t hci hi hk hne hd ht => by
    obtain ⟨hck, hd⟩ := hge k t hd
    have h1 := k4 i hi k hk
    rw [show (decide (i < c) || decide (k < c)) = false by simp; omega] at h1
    simp only [Bool.false_or] at h1
    have hd' : (l.getD k ⟨none, none, .mv (.t 0)⟩).dst = some t := hd
    simp only [hd'] at h1
    have ho1 : opAt l i = l.getD i ⟨none, none, .mv (.t 0)⟩ := rfl
    rw [ho1] at ht
    have hnot : (!(looks (l.getD i ⟨none, none, .mv (.t 0)⟩)).contains t && !decide ((l.getD i ⟨none, none, .mv (.t 0)⟩).dst = some t)) = false := by
      rcases ht with ht | ht
      · have : (looks (l.getD i ⟨none, none, .mv (.t 0)⟩)).contains t = true := List.contains_iff_mem.2 ht
        rw [this]; rfl
      · have : decide ((l.getD i ⟨none, none, .mv (.t 0)⟩).dst = some t) = true := decide_eq_true ht
        rw [this]; simp
    rw [hnot] at h1
    constructor
    · intro hki
      rw [if_pos hki] at h1
      exact bef_sound (by simpa using h1)
    · intro hik
      rw [if_neg (by omega), if_pos hik] at h1
      exact bef_sound (by simpa using h1)
  -- whatever comes up next
  have main : ∀ (fuel : Nat) (listed : Array Bool) (a : Act) (w : World), listed.size = ops.size → listed.toList.count false = fuel → (∀ i, i < c → i < ops.size → listed[i]? = some true) → (∀ i, m ≤ i → i < ops.size → listed[i]? = some false) →
      (∀ (i : Nat) ps p, listed[i]? = some true → pre[i]? = some ps → p ∈ ps → listed[p]? = some true) →
      (∃ ρ S, GRep K F ρ S (gX lb m R env0 (fun k => listed.getD k false)) (M (fun k => listed.getD k false)) a w ∧ SB F.b μ0 ρ0 S0 w0 (M (fun k => listed.getD k false)) ρ S w) →
      wpAnyIn (Fr F.r) 0 K.P .any ops (Post K F μ0 ρ0 S0 w0 Q) fuel listed a w := by
    intro fuel
    induction fuel with
    | zero =>
      intro listed a w hs hcnt hlow htl hdown hrep
      have hnone : ∀ i, i < ops.size → listed[i]? = some true := fun i hi => by
        have h1 := List.count_eq_zero.1 hcnt
        rw [Array.getElem?_eq_getElem (by omega)]
        cases hv : listed[i] with
        | true => rfl
        | false => exact absurd (by rw [← hv]; simp) h1
      have hm : m = ops.size := by
        rcases Nat.lt_or_ge m ops.size with h1 | h1
        · have := htl m (Nat.le_refl _) h1; rw [hnone m h1] at this; cases this
        · omega
      obtain ⟨ρ, S, r1, r2⟩ := hrep
      have hX : ∀ k, k < m → listed.getD k false = decide (k < m) := fun k hk => by
        rw [Array.getD_eq_getD_getElem?, hnone k (by omega)]; simp [hk]
      have hmu : M (fun k => listed.getD k false) = M (fun k => decide (k < m)) := hM _ _ fun k _ hk => hX k hk
      rw [hmu] at r1 r2
      have := h ops hl hpg a w ρ S ⟨r1.mu, r1.size, r1.defers, fun t => by
        show VR _ ρ S w (getE env' t) _
        rw [henv t, ← gX_congr (X := fun k => listed.getD k false) fun k hk _ => hX k hk]; exact r1.env t⟩ μ0 ρ0 S0 w0 r2 listed hs (fun i hi => by rw [hnone i hi]; simp; omega)
      simpa [hm] using this
    | succ fuel ih =>
      intro listed a w hs hcnt hlow htl hdown hrep
      obtain ⟨ρ, S, r1, r2⟩ := hrep
      by_cases hall : ∀ i, i < m → listed[i]? = some true
      · -- the quiet ones are through
        have hX : ∀ k, k < m → listed.getD k false = decide (k < m) := fun k hk => by
          rw [Array.getD_eq_getD_getElem?, hall k hk]; simp [hk]
        have hpf : ∀ i, i < ops.size → listed[i]? = some (decide (i < m)) := fun i hi => by
          by_cases h1 : i < m
          · rw [hall i h1]; simp [h1]
          · rw [htl i (by omega) hi]; simp [h1]
        have hf : fuel + 1 = ops.size - m := by
          rw [← hcnt]; exact count_prefix (by omega) (by simpa using hs) (fun i hi => by rw [Array.getElem?_toList]; exact hpf i hi)
        rw [hf]
        have hmu : M (fun k => listed.getD k false) = M (fun k => decide (k < m)) := hM _ _ fun k _ hk => hX k hk
        rw [hmu] at r1 r2
        exact h ops hl hpg a w ρ S ⟨r1.mu, r1.size, r1.defers, fun t => by
          show VR _ ρ S w (getE env' t) _
          rw [henv t, ← gX_congr (X := fun k => listed.getD k false) fun k hk _ => hX k hk]; exact r1.env t⟩ μ0 ρ0 S0 w0 r2 listed hs hpf
      · -- one of the quiet ones is not through: the least of them may come up
        have hex : ∃ i, i < m ∧ listed[i]? ≠ some true := by
          simpa using hall
        obtain ⟨k0, hk0, hk0'⟩ := hex
        have hval : ∀ i, i < ops.size → listed[i]? ≠ some true → listed.getD i true = false := fun i hi hn => by
          rw [Array.getD_eq_getD_getElem?, Array.getElem?_eq_getElem (by omega)] at *
          cases hv : listed[i] with
          | true => rw [hv] at hn; exact absurd rfl hn
          | false => rfl
        have hne : Region.ready .any ops listed ≠ [] := by
          have : ∀ k, k < m → listed[k]? ≠ some true → ∃ i, i ∈ Region.ready .any ops listed := by
            intro k
            induction k using Nat.strongRecOn with
            | _ k ihk =>
              intro hk hn
              have hks : k < ops.size := by omega
              by_cases hp : ∀ p ∈ preOf ops[k], listed[p]? = some true
              · refine ⟨k, mem_ready.2 ⟨hval k hks hn, ops[k], Array.getElem?_eq_getElem hks, fun e he hb => ?_⟩⟩
                rw [Array.getD_eq_getD_getElem?, hp e.on (preOf_mem.2 ⟨e, he, hb, rfl⟩)]; rfl
              · have : ∃ p ∈ preOf ops[k], listed[p]? ≠ some true := by simpa using hp
                obtain ⟨p, p1, p2⟩ := this
                have hpk := hlt k _ p (hpre k _ (Array.getElem?_eq_getElem hks)) p1
                exact ihk p hpk (by omega) p2
          obtain ⟨i, hi⟩ := this k0 hk0 hk0'
          intro e; rw [e] at hi; cases hi
        refine ⟨fun h0 => absurd h0 hne, fun i hi => ?_⟩
        obtain ⟨h1, oi, h2, h3⟩ := mem_ready.1 hi
        have his := (Array.getElem?_eq_some_iff.1 h2).1
        have hif : listed[i]? = some false := by
          rw [Array.getD_eq_getD_getElem?] at h1
          rw [Array.getElem?_eq_getElem (by omega)] at h1 ⊢
          simpa using h1
        have hprei : ∀ ps p, pre[i]? = some ps → p ∈ ps → listed[p]? = some true := fun ps p a b => by
          rw [hpre i oi h2] at a; cases a
          obtain ⟨e, e1, e2, rfl⟩ := preOf_mem.1 b
          have h5 := h3 e e1 e2
          rw [Array.getD_eq_getD_getElem?] at h5
          cases hv : listed[e.on]? with
          | none => rw [hv] at h5; simp at h5
          | some y => rw [hv] at h5; simp at h5; rw [h5]
        have hcl : ∀ k, Bef pre k i → listed[k]? = some true := fun k hb => Bef.closed (X := fun k => listed[k]? = some true) hdown hb hprei
        have him : i < m := by
          rcases Nat.lt_or_ge i m with h4 | h4
          · exact h4
          · exact absurd (hcl k0 (htail i h4 his k0 hk0)) hk0'
        have hci : c ≤ i := by
          rcases Nat.lt_or_ge i c with h4 | h4
          · have := hlow i h4 his; rw [hif] at this; cases this
          · exact h4
        have hls : opAt lb i = opAt l i := by rw [hlb, if_neg (by omega)]
        obtain ⟨s, s1, s2, s3⟩ := hat i oi h2
        have hXt : ∀ k, listed[k]? = some true → listed.getD k false = true := fun k hk => by rw [Array.getD_eq_getD_getElem?, hk]; rfl
        have hXf : ∀ k, listed[k]? ≠ some true → listed.getD k false = false := fun k hk => by
          rw [Array.getD_eq_getD_getElem?]
          cases hv : listed[k]? with
          | none => rfl
          | some y => cases y with
            | true => exact absurd hv hk
            | false => rfl
        have hlater : ∀ k t, k < m → i < k → (opAt lb k).dst = some t → (t ∈ looks s ∨ s.dst = some t) → listed.getD k false = false := fun k t hk hik hd ht => by
          have hb := (hconf i k t hci him hk (by omega) hd (by rw [s2]; exact ht)).2 hik
          refine hXf k fun hk' => ?_
          have := Bef.closed (X := fun k => listed[k]? = some true) hdown hb (fun ps p a b => hdown k ps p hk' a b)
          rw [hif] at this; cases this
        have hread : ∀ t, t ∈ looks s → gX lb m R env0 (fun k => listed.getD k false) t = gX lb m R env0 (fun k => decide (k < i)) t := fun t ht => by
          refine gX_congr fun k hk hd => ?_
          rcases Nat.lt_trichotomy k i with h4 | h4 | h4
          · have hb := (hconf i k t hci him hk (by omega) hd (.inl (by rw [s2]; exact ht))).1 h4
            rw [hXt k (hcl k hb)]; simp [h4]
          · subst h4; rw [hXf k (by rw [hif]; simp)]; simp
          · rw [hlater k t hk h4 hd (.inl ht)]; simp; omega
        have hnew : ∀ k, (listed.setIfInBounds i true).getD k false = (listed.getD k false || decide (k = i)) := fun k => by
          simp only [Array.getD_eq_getD_getElem?]
          by_cases hki : i = k
          · subst hki
            rw [Array.getElem?_setIfInBounds_self_of_lt (by omega)]; simp
          · rw [Array.getElem?_setIfInBounds_ne hki]
            have : ¬ k = i := fun e => hki e.symm
            simp [this]
        have hcount : (listed.setIfInBounds i true).toList.count false = fuel := by
          have hset : (listed.setIfInBounds i true).toList = listed.toList.set i true := by simp
          have hil : i < listed.toList.length := by simp; omega
          have hv : listed.toList[i] = false := by
            have : listed.toList[i]? = some false := by rw [Array.getElem?_toList]; exact hif
            rw [List.getElem?_eq_getElem hil] at this
            simpa using this
          rw [hset, List.count_set hil, hv]
          simp
          simp at hcnt
          omega
        have hfun : (fun k => (listed.setIfInBounds i true).getD k false) = fun k => listed.getD k false || decide (k = i) := funext hnew
        have hgnext : ∀ t, gX lb m R env0 (fun k => listed.getD k false || decide (k = i)) t = if s.dst = some t then R i else gX lb m R env0 (fun k => listed.getD k false) t := fun t => by
          rw [← s2, ← hls]
          exact gX_put (X := fun k => listed.getD k false) (Y := fun k => listed.getD k false || decide (k = i)) him (fun _ => rfl) (fun k a b c d => by
            cases hd : (opAt lb k).dst with
            | none => exact absurd hd c
            | some t' => exact hlater k t' b a hd (.inr (by rw [← s2, ← hls, ← d, hd]))) t
        refine step (fun k => listed.getD k false) i oi s _ a w ρ S hci him h2 (by rw [hls]; exact s2) s3 (hXf i (by rw [hif]; simp)) (fun k hk => hXt k (hcl k hk)) (fun k hb => hXf k fun hk' => by
          have := Bef.closed (X := fun k => listed[k]? = some true) hdown hb (fun ps p a b => hdown k ps p hk' a b)
          rw [hif] at this; cases this) (fun k t hk hki hd ht => hXt k (hcl k ((hconf i k t hci him hk (by omega) hd (.inl (by rw [s2]; exact ht))).1 hki))) (fun k t hk hik hd ht => hXf k (fun hk' => by
          have hck : c ≤ k := by omega
          rw [hlb, if_neg (by omega)] at ht
          have hb := (hconf k i t hck hk him (by omega) (by rw [hls, s2]; exact hd) (.inl ht)).1 hik
          have := Bef.closed (X := fun k => listed[k]? = some true) hdown hb (fun ps p a b => hdown k ps p hk' a b)
          rw [hif] at this; cases this)) hread hgnext r1 r2 ?_
        intro a' w' ρ' S' hg hsb
        refine ih (listed.setIfInBounds i true) a' w' (by simpa using hs) hcount (fun j hj1 hj2 => by rw [Array.getElem?_setIfInBounds_ne (by omega)]; exact hlow j hj1 hj2) (fun j hj1 hj2 => ?_) (fun j ps p hj hps hp => ?_) ⟨ρ', S', by rw [hfun]; exact hg, by rw [hfun]; exact hsb⟩
        · rw [Array.getElem?_setIfInBounds_ne (by omega)]; exact htl j hj1 hj2
        · by_cases hij : i = j
          · subst hij
            have := hprei ps p hps hp
            have hpi : i ≠ p := by have := hlt i ps p hps hp; omega
            rw [Array.getElem?_setIfInBounds_ne hpi]; exact this
          · rw [Array.getElem?_setIfInBounds_ne hij] at hj
            have := hdown j ps p hj hps hp
            by_cases hpi : i = p
            · subst hpi; rw [hif] at this; cases this
            · rw [Array.getElem?_setIfInBounds_ne hpi]; exact this
  have hX' : M (fun k => listed0.getD k false) = M fun k => decide (k < c) := hM _ _ fun k _ hk => by
    rw [Array.getD_eq_getD_getElem?, hl0 k (by omega)]; rfl
  have hgx : ∀ t, gX lb m R env0 (fun k => listed0.getD k false) t = gX lb m R env0 (fun k => decide (k < c)) t := fun t => gX_congr fun k hk _ => by
    rw [Array.getD_eq_getD_getElem?, hl0 k (by omega)]; rfl
  refine main (ops.size - c) listed0 a w hs0 (count_prefix (by omega) (by simpa using hs0) (fun i hi => by rw [Array.getElem?_toList]; exact hl0 i hi)) (fun i h1 h2 => by rw [hl0 i h2]; simp [h1]) (fun i h1 h2 => by rw [hl0 i h2]; simp; omega) (fun i ps p h1 h2 h3 => ?_) ⟨ρ, S, ⟨by rw [hX']; exact st1.mu, st1.size, st1.defers, fun t => by rw [hgx, hX']; exact st1.env t⟩, by rw [hX']; exact st2⟩
  have hi : i < ops.size := by rw [← hs0]; exact (Array.getElem?_eq_some_iff.1 h1).1
  rw [hl0 i hi] at h1
  have := hlt i ps p h2 h3
  rw [hl0 p (by omega)]
  simp at h1 ⊢
  omega

theorem any_winM {l lb : List SOper} {pre : List (List Nat)} (c m : Nat) (hlb : ∀ i, opAt lb i = if i < c then noOp else opAt l i) {env : List (Nat × AV)} {μ : List AObj} {sl : List SlotR} {R : Nat → AV} {env' : List (Nat × AV)} (hok : winOK l pre c m = true) 
    (hsl : ∀ (j : Nat) r, sl[j]? = some r → r.ia < m ∧ (opAt lb r.ia).dst = some r.d ∧ refO μ.length r.o = true ∧ ∀ k o', r.st = some (k, o') → k < m ∧ refO μ.length o' = true ∧ r.ia < k ∧ r.d ∈ looks (opAt lb k))
    (hev : ∀ i, c ≤ i → i < m → ∃ e, (∀ t, getE e t = gX lb m R env (fun k => decide (k < i)) t) ∧ OpEv K μ sl i (opAt lb i) e (R i)) (henv : ∀ t, getE env' t = gX lb m R env (fun k => decide (k < m)) t)
    (h : AnyC K F Q l pre m ⟨env', muS μ sl fun k => decide (k < m)⟩) : AnyC K F Q l pre c ⟨env, μ⟩ := by
  intro ops hl hpg a w ρ S ha μ0 ρ0 S0 w0 hst listed hs0 hl0
  change SB F.b μ0 ρ0 S0 w0 μ ρ S w at hst
  have hm := ha.mu.refM
  change refM μ.length μ = true at hm
  have hge : ∀ k t, (opAt lb k).dst = some t → c ≤ k := fun k t hk => by
    rw [hlb] at hk
    split at hk
    · cases hk
    · omega
  have hsc : ∀ r, r ∈ sl → ∀ X : Nat → Bool, (∀ k, c ≤ k → X k = false) → slotX X r = .gone := fun r hr X hX => by
    obtain ⟨q, hq⟩ := List.getElem?_of_mem hr
    obtain ⟨q1, q2, q3, q4⟩ := hsl q r hq
    have hia := hge _ _ q2
    unfold slotX
    cases hst : r.st with
    | none => simp only [hX _ hia, Bool.false_eq_true, if_false]
    | some z =>
      obtain ⟨k, o'⟩ := z
      obtain ⟨z1, z2, z3, z4⟩ := q4 k o' hst
      simp only [hX _ hia, hX k (by omega), Bool.false_eq_true, if_false]
  -- the slots are laid ahead
  have hlen0 : μ0.length ≤ μ.length := by
    rcases Nat.lt_or_ge μ.length μ0.length with h1 | h1
    · obtain ⟨o', o1, _⟩ := hst.stab.obj μ.length _ (List.getElem?_eq_getElem h1)
      have := (List.getElem?_eq_some_iff.1 o1).1
      omega
    · exact h1
  have hM0 : muS μ sl (fun k => decide (k < c)) = μ ++ List.replicate sl.length .gone := by
    unfold muS
    congr 1
    apply List.ext_getElem?
    intro k
    rw [List.getElem?_map, List.getElem?_replicate]
    cases hk : sl[k]? with
    | none => rw [if_neg (by have := List.getElem?_eq_none_iff.1 hk; omega)]; rfl
    | some r =>
      rw [if_pos (List.getElem?_eq_some_iff.1 hk).1]
      simp only [Option.map_some]
      rw [hsc r (List.mem_of_getElem? hk) _ fun k hk => by simp; omega]
  have hlay : ∀ (es : List AObj) (w : World), (∀ o ∈ es, o = .gone) → RepMu K ρ S μ w → RepMu K ρ S (μ ++ es) w ∧ Stab μ ρ S w (μ ++ es) ρ S w := fun es w hes hr => by
    have back : ∀ {i : Nat} {o : AObj}, (μ ++ es)[i]? = some o → o = .gone ∨ μ[i]? = some o := fun {i o} hi => by
      by_cases hlt : i < μ.length
      · rw [List.getElem?_append_left hlt] at hi; exact .inr hi
      · rw [List.getElem?_append_right (by omega)] at hi; exact .inl (hes _ (List.mem_of_getElem? hi))
    have st : Stab μ ρ S w (μ ++ es) ρ S w := ⟨fun _ h => h, fun _ _ => rfl, fun id o ho => ⟨o, get_mono ho, ObjTo.refl o _⟩, Nat.le_refl _, fun _ h1 h2 => ⟨h2, h1⟩, fun b _ b1 b2 => ⟨rfl, b1, fun i o c hi hne => (back hi).elim (fun e => absurd e hne) (fun e => b2 i o c e hne)⟩⟩
    refine ⟨⟨hr.below, hr.st, hr.own, fun i o hi => ?_, fun i i' o o' B c c' hi hi' hne hne' => ?_⟩, st⟩
    · rcases back hi with rfl | hi
      · trivial
      · exact OR.stab0 (hr.ob i o hi) st.to0 rfl fun B c hB hne => ⟨(hr.blk hi hne hB).2.1, rfl⟩
    · rcases back hi with e | hi
      · exact absurd e hne
      · rcases back hi' with e | hi'
        · exact absurd e hne'
        · exact hr.inj i i' o o' B c c' hi hi' hne hne'
  obtain ⟨p1, p2⟩ := hlay (List.replicate sl.length .gone) w (fun o ho => (List.mem_replicate.1 ho).2) ha.mu
  have st12 := p2
  have hrefE : ∀ t, refA μ.length (getE env t) = true := fun t => (ha.env t).refs
  refine any_abs (env0 := env) (R := R) (M := muS μ sl) c m hlb hok hl hpg (fun X Y hXY => ?_) henv ?_ h (ρ := ρ) (S := S) ⟨by rw [hM0]; exact p1, ha.size, ha.defers.stab st12, fun t => ?_⟩ (by rw [hM0]; exact hst.trans st12) listed hs0 hl0
  · -- the memory by what is through
    unfold muS
    congr 1
    apply List.map_congr_left
    intro r hr
    obtain ⟨j, hj⟩ := List.getElem?_of_mem hr
    obtain ⟨h1, h1', _, h2⟩ := hsl j r hj
    have hia := hge _ _ h1'
    unfold slotX
    rw [hXY _ hia h1]
    cases hst : r.st with
    | none => rfl
    | some q =>
      obtain ⟨k, o'⟩ := q
      simp only
      rw [hXY _ (by have := (h2 k o' hst).2.2.1; omega) (h2 k o' hst).1]
  · -- one step
    intro X i o s N a w ρ S hci hi ho hs hcomp hXi hbef hbef2 hdep hafter hread hnext hG hsb hN
    obtain ⟨e, e1, ev⟩ := hev i hci hi
    rw [hs] at ev
    have hlook : ∀ t ∈ looks s, getE e t = getE ((looks s).map fun t => (t, gX lb m R env X t)) t := fun t ht => by
      rw [getE_map, if_pos ht, hread t ht, e1]
    have hguard : ∀ {b}, wantA s.guard e = some b → wantA s.guard ((looks s).map fun t => (t, gX lb m R env X t)) = some b := fun {b} hw => by
      unfold wantA at hw ⊢
      split
      · rename_i hgd
        rw [hgd] at hw
        exact hw
      · rename_i t bb hgd
        rw [hgd] at hw
        simp only at hw
        rw [hlook t (by simp [looks, hgd])] at hw
        exact hw
    have hrefs := refO_slots (X := X) hm (fun j r hj => ⟨(hsl j r hj).2.2.1, fun k o' hk => ((hsl j r hj).2.2.2 k o' hk).2.1⟩)
    cases ev with
    | q hop hx hno =>
      have hop' := hop.congr hlook
      have hmu : muS μ sl (fun k => X k || decide (k = i)) = muS μ sl X := by
        unfold muS
        congr 1
        exact List.map_congr_left fun r hr => slotX_same (hno r hr).1 (hno r hr).2
      refine step_any ho hcomp hsb hG hnext (x := R i) (μ1 := muS μ sl X) (l := lb) ?_ (fun a' w' ρ' S' hg hsb' => hN a' w' ρ' S' (by rw [hmu]; exact hg) (by rw [hmu]; exact hsb'))
      rcases hop' with ⟨q1, q2, q3⟩ | ⟨q1, q2⟩ | ⟨q1, f, args, q2, q3⟩
      · exact .inl ⟨q1, quiet_mono q2 q3⟩
      · exact .inr (.inl ⟨q1, q2, rfl⟩)
      · exact .inr (.inr ⟨q1, rfl, f, args, q2, q3 (sl.map (slotX X))⟩)
    | st j r e' sz cs y hj hst' hro hlt hdst hop hx hw haddr hl1 hl2 hok2 href hno =>
      have hXa : X r.ia = true := hdep r.ia r.d (hsl j r hj).1 hlt (hsl j r hj).2.1 (by rw [looks, hop]; simp [opnds, tmpsOf])
      have hcur : slotX X r = .row e' 0 sz [cs] := by
        unfold slotX; rw [hst']; simp only [hXi, Bool.false_eq_true, if_false, hXa, if_true, hro]
      have hnew : slotX (fun k => X k || decide (k = i)) r = .row e' 0 sz [cellsOf (evX e y)] := by
        unfold slotX; rw [hst']; simp
      have hmu := muS_set (μ := μ) (X := X) (i := i) hj hnew (fun j' r' hj' hne => slotX_same (hno j' r' hj').1 ((hno j' r' hj').2 hne))
      have hd : getE ((looks s).map fun t => (t, gX lb m R env X t)) r.d = .ptr (μ.length + j) 0 sz 0 0 := by
        rw [← hlook r.d (by rw [looks, hop]; simp [opnds, tmpsOf]), haddr]
      have hy : evX ((looks s).map fun t => (t, gX lb m R env X t)) y = evX e y := by
        cases y with
        | c z => rfl
        | t u => exact (hlook u (by rw [looks, hop]; simp [opnds, tmpsOf])).symm
      refine step_any ho hcomp hsb hG hnext (x := R i) (μ1 := (muS μ sl X).set (μ.length + j) (.row e' 0 sz [cellsOf (evX e y)])) (l := lb) (.inl ⟨hguard hw, ?_⟩) (fun a' w' ρ' S' hg hsb' => hN a' w' ρ' S' (by rw [hmu]; exact hg) (by rw [hmu]; exact hsb'))
      have hc1 : (cellsOf (evX e y)).all (okCell (muS μ sl X)) = true := List.all_eq_true.2 fun c hc => okCell_mono (List.all_eq_true.1 hok2 c hc)
      have hsto : storeA sz (.ptr (μ.length + j) 0 sz 0 0) (evX e y) (muS μ sl X) = some ((muS μ sl X).set (μ.length + j) (.row e' 0 sz [cellsOf (evX e y)])) := by
        generalize evX e y = z at hl2 hc1
        simp only [storeA]
        rw [muS_get hj, hcur]
        simp only [and_self, if_true, List.getElem?_cons_zero]
        rw [if_pos ⟨hl2, by omega, hc1⟩]
        simp [List.drop_of_length_le (show cs.length ≤ sz by omega)]
      rw [hop, hx]
      show (storeA sz (evX ((looks s).map fun t => (t, gX lb m R env X t)) (.t r.d)) (evX ((looks s).map fun t => (t, gX lb m R env X t)) y) (muS μ sl X)).map (fun μ' => (AV.dead, μ')) = _
      rw [hy, show evX ((looks s).map fun t => (t, gX lb m R env X t)) (.t r.d) = .ptr (μ.length + j) 0 sz 0 0 from hd, hsto]
      rfl
    | a j r hh hj hia hdst hw hop hro hx hno =>
      have hn := (List.getElem?_eq_some_iff.1 hj).1
      have hlenX : (muS μ sl X).length = μ.length + sl.length := by simp [muS]
      have hcur : slotX X r = .gone := by
        unfold slotX
        cases hst : r.st with
        | none => simp only [hia, hXi, Bool.false_eq_true, if_false]
        | some q =>
          obtain ⟨k, o'⟩ := q
          obtain ⟨q1, q2, q3, q4⟩ := (hsl j r hj).2.2.2 k o' hst
          have := hafter k r.d q1 (by omega) hdst q4
          simp only [this, hia, hXi, Bool.false_eq_true, if_false]
      have hnew : slotX (fun k => X k || decide (k = i)) r = r.o := by
        unfold slotX
        cases hst : r.st with
        | none => simp only [hia]; simp
        | some q =>
          obtain ⟨k, o'⟩ := q
          obtain ⟨q1, q2, q3, q4⟩ := (hsl j r hj).2.2.2 k o' hst
          have h1 := hafter k r.d q1 (by omega) hdst q4
          have h2 : ¬ k = i := by omega
          simp only [h1, h2, hia, decide_false, Bool.or_self, Bool.false_eq_true, if_false]; simp
      have hmu := muS_set (μ := μ) (X := X) (i := i) hj hnew (fun j' r' hj' hne => slotX_same ((hno j' r' hj').1 hne) (hno j' r' hj').2)
      have hgone : (muS μ sl X)[μ.length + j]? = some .gone := by rw [muS_get hj, hcur]
      obtain ⟨c1, c2, c3, _⟩ := comp_dst hcomp
      have ha' : ARep K F ρ S ⟨(looks s).map fun t => (t, gX lb m R env X t), muS μ sl X⟩ a w := ⟨hG.mu, hG.size, hG.defers, fun t => by
        show VR (muS μ sl X) ρ S w (getE ((looks s).map fun t => (t, gX lb m R env X t)) t) _
        rw [getE_map]
        split
        · exact hG.env t
        · exact .dead _⟩
      have hev' : ∀ x ∈ opnds s.op, evX e x = evX ((looks s).map fun t => (t, gX lb m R env X t)) x := fun x hx => by
        cases x with
        | c z => rfl
        | t u => exact hlook u (by unfold looks; exact List.mem_append_right _ (by unfold tmpsOf; exact List.mem_filterMap.2 ⟨.t u, hx, rfl⟩))
      have hop' : sopA s.op ((looks s).map fun t => (t, gX lb m R env X t)) (muS μ sl X) = some (hh.at (muS μ sl X).length, muS μ sl X ++ [r.o]) := by
        have := hop (sl.map (slotX X))
        rw [sopA_congr hev'] at this
        rw [hlenX]
        simpa [muS] using this
      unfold wpOpIn
      simp only [ho]
      rw [want_sound ha' hcomp (hguard hw)]
      simp only [if_true]
      obtain ⟨v, w', ρ', S', n1, n2, n3, n4⟩ := sop_sound ha'.mu ha'.eval (fun _ => rfl) c1 hop'
      refine ⟨fun _ _ => trivial, ?_⟩
      rw [semAt_plain c1]
      have hidlt : μ.length + j < (muS μ sl X).length := by omega
      have hrefs' : ∀ (i : Nat) p, (muS μ sl X ++ [r.o])[i]? = some p → refO μ.length p = true := fun k p hp => by
        by_cases hk : k < (muS μ sl X).length
        · rw [List.getElem?_append_left hk] at hp; exact hrefs k p hp
        · rw [List.getElem?_append_right (by omega)] at hp
          have := List.mem_of_getElem? hp
          simp at this; subst this; exact hro
      have m1 := n3.ren hrefs' (Nat.le_add_right _ _) hgone
      have env1 : ∀ t, VR ((muS μ sl X).set (μ.length + j) r.o) (renR ρ' (μ.length + j) (muS μ sl X).length) S' w' (gX lb m R env (fun k => X k || decide (k = i)) t) ((a.put o.dst v).tmps.getD t undef) := fun t => by
        rw [hnext, ← c2, hdst]
        by_cases ht : r.d = t
        · subst ht
          rw [if_pos rfl, hx]
          have hlt : r.d < a.tmps.size := by rw [hG.size]; exact c3 _ (by rw [← c2]; exact hdst)
          simp only [Act.put, Array.getD_eq_getD_getElem?]
          rw [Array.getElem?_setIfInBounds_self_of_lt hlt]
          exact HS.ren n2 hidlt
        · rw [if_neg (by simpa using ht)]
          have hv := (hG.env t).stab n4
          simp only [Act.put, Array.getD_eq_getD_getElem?] at hv ⊢
          rw [Array.getElem?_setIfInBounds_ne ht]
          unfold gX at hv ⊢
          cases hlw : lastW lb m X t with
          | none => rw [hlw] at hv; exact hv.ren (hrefE t) (Nat.le_add_right _ _) hidlt
          | some k =>
            rw [hlw] at hv
            simp only at hv ⊢
            have hmem := List.mem_of_getLast? hlw
            simp only [List.mem_filter, List.mem_range, Bool.and_eq_true, decide_eq_true_eq] at hmem
            obtain ⟨k1, k2, k3⟩ := hmem
            have hki : k ≠ i := fun e => by subst e; rw [hXi] at k2; cases k2
            obtain ⟨e', _, ev'⟩ := hev k (hge _ _ k3) k1
            cases ev' with
            | q _ hx' _ => exact hv.ren hx' (Nat.le_add_right _ _) hidlt
            | a j' r' h' hj' hia' _ _ _ _ hx' _ =>
              rw [hx'] at hv ⊢
              have := (List.getElem?_eq_some_iff.1 hj').1
              refine HS.keep hv hidlt (by omega) (fun e => hki ?_)
              have : j' = j := by omega
              subst this
              rw [hj] at hj'; cases hj'
              rw [← hia', hia]
            | st _ _ _ _ _ _ _ _ _ _ hd' => rw [k3] at hd'; cases hd'
      have sb1 : SB F.b μ0 ρ0 S0 w0 ((muS μ sl X).set (μ.length + j) r.o) (renR ρ' (μ.length + j) (muS μ sl X).length) S' w' := by
        have hS := hsb.stab.trans n4
        refine ⟨hsb.len, hS.sub, hS.blk, fun id0 o0 h0 => ?_, hS.size, hS.col, fun b hlt b1 b2 => ?_⟩
        · obtain ⟨o', o1, o2⟩ := hS.obj id0 o0 h0
          have hlt := (List.getElem?_eq_some_iff.1 h0).1
          refine ⟨o', ?_, ?_⟩
          · rw [List.getElem?_append_left (by omega)] at o1
            rw [List.getElem?_set_ne (by omega)]; exact o1
          · have : renR ρ' (μ.length + j) (muS μ sl X).length id0 = ρ' id0 := by unfold renR; rw [if_neg (by omega)]
            rw [this]; exact o2
        · obtain ⟨a1, a2, a3⟩ := hS.fr b hlt b1 b2
          refine ⟨a1, a2, fun i p c hi hne => ?_⟩
          unfold renR
          by_cases hid : i = μ.length + j
          · rw [if_pos hid]
            subst hid
            rw [List.getElem?_set_self (by omega)] at hi
            cases hi
            exact a3 _ r.o c (by simp) hne
          · rw [if_neg hid]
            rw [List.getElem?_set_ne (Ne.symm hid)] at hi
            exact a3 i p c (by rw [List.getElem?_append_left (List.getElem?_eq_some_iff.1 hi).1]; exact hi) hne
      have hfin := hN (a.put o.dst v) w' (renR ρ' (μ.length + j) (muS μ sl X).length) S' ⟨by rw [hmu]; exact m1, by cases o.dst <;> simp [Act.put, hG.size], by cases o.dst <;> exact hG.defers.stab n4, fun t => by rw [hmu]; exact env1 t⟩ (by rw [hmu]; exact sb1)
      rcases n1 with n1 | ⟨n1, rfl⟩
      · rw [n1]; exact hfin
      · rw [n1]; exact hfin
  · have := (ha.env t).stab st12
    rw [← hM0] at this
    have e1 : lastW lb m (fun k => decide (k < c)) t = none := by
      unfold lastW
      rw [List.getLast?_eq_none_iff, List.filter_eq_nil_iff]
      intro k _
      simp only [Bool.and_eq_true, decide_eq_true_eq, not_and]
      intro hk hd
      have := hge k t hd
      omega
    have e0 : gX lb m R env (fun k => decide (k < c)) t = getE env t := by unfold gX; rw [e1]
    rw [e0]; exact this


theorem any_win {l : List SOper} {pre : List (List Nat)} {env : List (Nat × AV)} {μ : List AObj} (c m : Nat) (hok : winOK l pre c m = true)
    (h : MGoC K μ (fun env' sl' => AnyC K F Q l pre m ⟨env', μ ++ sl'.map SlotR.fin⟩) c [] ((l.take m).drop c) env) : AnyC K F Q l pre c ⟨env, μ⟩ := by
  obtain ⟨xs, env', sl', h1, h2⟩ := h
  have hok' := hok
  simp only [winOK, Bool.and_eq_true, decide_eq_true_eq] at hok'
  have hml : m ≤ l.length := hok'.1.1.1.1.2
  have hcm : c ≤ m := hok'.1.1.1.2
  obtain ⟨lb, hlbd⟩ : ∃ lb : List SOper, lb = List.replicate c noOp ++ l.drop c := ⟨_, rfl⟩
  have hlb : ∀ i, opAt lb i = if i < c then noOp else opAt l i := fun i => by
    rw [hlbd]
    unfold opAt
    simp only [List.getD_eq_getElem?_getD]
    by_cases hi : i < c
    · rw [List.getElem?_append_left (by simpa using hi), if_pos hi]; simp [hi, List.getElem?_replicate]
    · rw [List.getElem?_append_right (by simpa using hi), if_neg hi, List.length_replicate, List.getElem?_drop, show c + (i - c) = i by omega]
  have htk : ((l.take m).drop c).length = m - c := by simp; omega
  obtain ⟨a1, a2, a3, a4⟩ := mrun_facts (l := lb) (m := m) (env0 := env) (R := fun i => xs.getD (i - c) .dead) h1 (by rw [htk]; omega) (fun i hi => by
    rw [htk] at hi
    rw [List.getElem?_drop, List.getElem?_take, if_pos (by omega), hlb, if_neg (by omega), List.getElem?_eq_getElem (by omega)]
    simp [opAt, List.getD, List.getElem?_eq_getElem (show c + i < l.length by omega)]) (fun i hi => by simp) (fun t => by
    have : lastW lb m (fun k => decide (k < c)) t = none := by
      unfold lastW
      rw [List.getLast?_eq_none_iff, List.filter_eq_nil_iff]
      intro k _
      simp only [Bool.and_eq_true, decide_eq_true_eq, not_and]
      intro hk hd
      rw [hlb, if_pos hk] at hd
      cases hd
    simp only [gX, this]) ⟨fun q r h => by simp at h, fun q q' r r' h => by simp at h, fun q q' r r' k o' k' o'' h => by simp at h, fun q q' r r' k o' h => by simp at h⟩
  refine any_winM c m hlb hok (fun j r hj => (a2.one j r hj)) (fun i hc hi => a4 i hc hi) a1 ?_
  have e : muS μ sl' (fun k => decide (k < m)) = μ ++ sl'.map SlotR.fin := by
    unfold muS
    congr 1
    apply List.map_congr_left
    intro r hr
    obtain ⟨q, hq⟩ := List.getElem?_of_mem hr
    obtain ⟨b1, b2, b3, b4⟩ := a2.one q r hq
    unfold slotX SlotR.fin
    cases hst : r.st with
    | none => simp [b1]
    | some p =>
      obtain ⟨k, o'⟩ := p
      simp [(b4 k o' hst).1]
  rw [e]; exact h2

end rules
end Go.Av
set_option linter.unusedVariables false
set_option linter.unusedSimpArgs false
namespace Go.Av
open Go.RowKit

/-- Operations that look at no memory. -/
def freeK : SOp → Bool
  | .mv _ => true
  | .pick _ _ _ => true
  | .bin _ _ _ => true
  | .un _ _ => true
  | .conv _ _ => true
  | .mm _ _ _ => true
  | .fld _ _ _ _ => true
  | .ext _ _ => true
  | .lenS _ => true
  | .mkfn _ _ _ => true
  | .mkI _ _ => true
  | .asI _ _ _ _ => true
  | _ => false

theorem free_any {s : SOp} {env : List (Nat × AV)} {μ μ' : List AObj} {x : AV} (hf : freeK s = true) (h : sopA s env μ = some (x, μ)) : sopA s env μ' = some (x, μ') := by
  cases s <;> simp only [freeK, Bool.false_eq_true] at hf <;> simp only [sopA] at h ⊢
  case mv => simpa using h
  case mkfn => simpa using h
  case mkI => simpa using h
  case pick =>
    split at h
    · simpa using h
    · simpa using h
    · cases h
  all_goals exact withMu_some (withMu_inv h).1

theorem free_callee {op : SOp} {env : List (Nat × AV)} {q : Nat × List AV} (h : freeK op = true) (h2 : callee op env = some q) : False := by
  cases op <;> simp only [callee, reduceCtorEq] at h2 <;> simp only [freeK, Bool.false_eq_true] at h
def leafC : AV → Bool
  | .int _ _ => true
  | .bool _ => true
  | .str _ => true
  | .nilp => true
  | .nilfn => true
  | .nilif => true
  | .nilmap => true
  | .nilsl => true
  | _ => false

section rules
variable {K : Ctx} {F : Fcx} {σ : St} {Q : AExit → St → Prop}

/-- A new variable that begins as a constant. -/
theorem comp_box {o : Oper} {e : Nat} {c : AV} (hc : leafC c = true) (h : compOp K.P o = some (.box e (.c c))) (a : Act) (w : World) :
    ∃ v, (∀ S w, VT S w c v) ∧ v.cells = #[v] ∧ v.oneCell' = true ∧ (execOp a.eval o).run K.P w = .ok (.value (.pointer (some ⟨w.heap.size, 0, none⟩))) (w.alloc (.cells v.cells e)) := by
  have one : ∀ v, constA v = some c → (∀ S w, VT S w c v) ∧ v.cells = #[v] ∧ v.oneCell' = true := fun v hv => by
    refine ⟨fun S w => constA_rel hv, ?_⟩
    have := constA_rel (S := fun _ => True) (w := w) hv
    cases c <;> simp only [leafC, Bool.false_eq_true] at hc <;> cases this <;> exact ⟨rfl, rfl⟩
  obtain ⟨dst, op, type, pos, after, guard⟩ := o
  cases op with
  | box e' x =>
    simp only [compOp, Option.map_eq_some_iff, SOp.box.injEq] at h
    obtain ⟨y, h1, rfl, rfl⟩ := h
    cases x with
    | const v =>
      simp only [compX, Option.map_eq_some_iff, SX.c.injEq] at h1
      obtain ⟨z, h2, rfl⟩ := h1
      obtain ⟨q1, q2, q3⟩ := one v h2
      exact ⟨v, q1, q2, q3, by simp [execOp, Instr.box, newVar, newRow, newObj, Sem.run, World.alloc_eq, Act.eval]⟩
    | tmp t => simp [compX] at h1
    | func f => simp only [compX, Option.some.injEq, SX.c.injEq] at h1; subst h1; cases hc
    | global g => simp [compX] at h1
  | alloc e' =>
    simp only [compOp] at h
    split at h
    · rename_i z hz
      simp only [Option.map_eq_some_iff, SOp.box.injEq, SX.c.injEq] at h
      obtain ⟨y, h1, rfl, rfl⟩ := h
      simp only [Option.bind_eq_some_iff] at hz
      obtain ⟨i, hi, hz⟩ := hz
      obtain ⟨q1, q2, q3⟩ := one z h1
      exact ⟨z, q1, q2, q3, by simp [execOp, Instr.alloc, zeroValue, typeInfo, hi, hz, newVar, newRow, newObj, Sem.run, World.alloc_eq]⟩
    · cases h
  | _ => exfalso; simp only [compOp] at h; (repeat' (split at h)) <;> first | (cases h; done) | (simp at h; done) | (rename_i hh _; cases hh; done) | (rename_i hh _ _; cases hh; done) | (rename_i hh; cases hh; done) | simp_all

/-- The new variable takes a place that was laid ahead. -/
theorem step_gbox {ops : Array Oper} {o : Oper} {i : Nat} {g g' : Nat → AV} {μ : List AObj} {d e id : Nat} {c : AV} {a : Act} {w : World} {ρ S} {μ0 ρ0 S0 w0} {N : Act → World → Prop} {Q' : Exit → Act → World → Prop}
    (ho : ops[i]? = some o) (hs : compOper K.P F.n ops o = some ⟨some d, none, .box e (.c c)⟩) (hc : leafC c = true) (hid : μ[id]? = some (.row e 0 1 [])) (hst : SB F.b μ0 ρ0 S0 w0 μ ρ S w) (hG : GRep K F ρ S g μ a w)
    (hg' : ∀ t, g' t = if some d = some t then .ptr id 1 1 0 0 else g t)
    (hN : ∀ a' w' ρ' S', GRep K F ρ' S' g' (μ.set id (.row e 1 1 [[c]])) a' w' → SB F.b μ0 ρ0 S0 w0 (μ.set id (.row e 1 1 [[c]])) ρ' S' w' → N a' w') : wpOpIn (Fr F.r) 0 K.P ops Q' i N a w := by
  obtain ⟨c1, c2, c3, _⟩ := comp_dst hs
  obtain ⟨v, v1, v2, v3, v4⟩ := comp_box hc c1 a w
  have ha : ARep K F ρ S ⟨[], μ⟩ a w := ⟨hG.mu, hG.size, hG.defers, fun t => .dead _⟩
  unfold wpOpIn
  simp only [ho]
  rw [want_sound (b := true) ha hs rfl]
  simp only [if_true]
  refine ⟨fun _ _ => trivial, ?_⟩
  rw [semAt_plain c1, v4]
  obtain ⟨m1, m2⟩ := hG.mu.rehome hid v.cells 1 1 [[c]] (by omega) (by rw [v2]; rfl) (by simp) (by simp [maxLen]) (fun i cs hi => by
    match i with
    | 0 =>
      simp at hi; subst hi
      refine ⟨rfl, fun j c' hj => ?_⟩
      match j with
      | 0 => simp at hj; subst hj; exact ⟨v, by rw [v2]; simp, .t (v1 _ _), v3⟩
      | j + 1 => simp at hj
    | i + 1 => simp at hi)
  have hlt := (List.getElem?_eq_some_iff.1 hid).1
  exact hN _ _ _ _ (hG.put c3 (.ptr (e := e) (es := [[c]]) (cap := 1) (by rw [List.getElem?_set_self hlt]) (by simp) (by simp) : VR _ _ _ _ (.ptr id 1 1 0 0) (.pointer (some ⟨w.heap.size, 0, none⟩))) m1 m2 (fun t => by rw [hg', ← c2])) (hst.trans m2)

theorem gX_dst {l lf : List SOper} {m : Nat} {R : Nat → AV} {env : List (Nat × AV)} {X : Nat → Bool} (h : ∀ i, (opAt lf i).dst = (opAt l i).dst) (t : Nat) : gX lf m R env X t = gX l m R env X t := by
  unfold gX lastW
  simp only [h]

/-- The text's run with constants in the places of what turns the memory. -/
def fake1 (l : List SOper) (p i0 k0 : Nat) (x y : AV) : List SOper := ((l.set p ⟨(opAt l p).dst, none, .mv (.c x)⟩).set i0 ⟨(opAt l i0).dst, none, .mv (.c y)⟩).set k0 ⟨none, none, .mv (.c .dead)⟩

def eff1OK (l : List SOper) (pre : List (List Nat)) (m p i0 k0 : Nat) : Bool :=
  decide (p < m) && decide (i0 < k0) && decide (p < k0) && decide (k0 < m) && decide (i0 ≠ p) && bef pre p k0 && bef pre i0 k0 && (opAt l p).guard.isNone &&
  (List.range m).all fun i => decide (i = p) || decide (i = i0) || decide (i = k0) || bef pre i p || (bef pre p i && freeK (opAt l i).op)

theorem fake1_at {l : List SOper} {p i0 k0 i : Nat} {x y : AV} (hp : p < l.length) (hi : i0 < l.length) (hk : k0 < l.length) (h1 : i0 ≠ p) (h2 : i0 ≠ k0) (h3 : p ≠ k0) :
    opAt (fake1 l p i0 k0 x y) i = if i = k0 then ⟨none, none, .mv (.c .dead)⟩ else if i = i0 then ⟨(opAt l i0).dst, none, .mv (.c y)⟩ else if i = p then ⟨(opAt l p).dst, none, .mv (.c x)⟩ else opAt l i := by
  unfold fake1 opAt
  simp only [List.getD_eq_getElem?_getD]
  by_cases e1 : i = k0
  · subst e1; rw [List.getElem?_set_self (by simpa using hk), if_pos rfl]; rfl
  · rw [List.getElem?_set_ne (Ne.symm e1), if_neg e1]
    by_cases e2 : i = i0
    · subst e2; rw [List.getElem?_set_self (by simpa using hi), if_pos rfl]; rfl
    · rw [List.getElem?_set_ne (Ne.symm e2), if_neg e2]
      by_cases e3 : i = p
      · subst e3; rw [List.getElem?_set_self (by simpa using hp), if_pos rfl]; rfl
      · rw [List.getElem?_set_ne (Ne.symm e3), if_neg e3]

theorem QRun.append {μ : List AObj} {ls2 : List SOper} : ∀ {ls1 : List SOper} {env e1 e2 : List (Nat × AV)} {xs xs' : List AV}, QRun K μ ls1 env none xs e1 → QRun K μ ls2 e1 none xs' e2 → QRun K μ (ls1 ++ ls2) env none (xs ++ xs') e2
  | [], _, _, _, _, _, h1, h2 => by cases h1; exact h2
  | s :: ls1, _, _, _, _, _, h1, h2 => by
    cases h1 with
    | op a b => exact .op a (QRun.append b h2)

theorem QRun.xlen {μ : List AObj} : ∀ {ls : List SOper} {env e1 : List (Nat × AV)} {xs : List AV}, QRun K μ ls env none xs e1 → xs.length = ls.length
  | [], _, _, _, h => by cases h; rfl
  | s :: ls, _, _, _, h => by
    cases h with
    | op a b => simp [QRun.xlen b]

theorem any_eff1 {l : List SOper} {pre : List (List Nat)} {env : List (Nat × AV)} {μ ν1 ν2 : List AObj} (m p i0 k0 : Nat) {d0 e0 f : Nat} {c0 x : AV} {y : SX} {args : List AV} (hok : winOK l pre 0 m = true) (he : eff1OK l pre m p i0 k0 = true)
    (hb0 : opAt l i0 = ⟨some d0, none, .box e0 (.c c0)⟩) (hc0 : leafC c0 = true) (hk0 : opAt l k0 = ⟨none, none, .store 1 (.t d0) y⟩)
    {env' envp envk : List (Nat × AV)} {xa xb xc : List AV}
    (ha1 : QRun K μ ((fake1 l p i0 k0 x (.ptr μ.length 1 1 0 0)).take p) env none xa envp)
    (hb1 : QRun K μ (((fake1 l p i0 k0 x (.ptr μ.length 1 1 0 0)).take k0).drop p) envp none xb envk)
    (hc1 : QRun K μ (((fake1 l p i0 k0 x (.ptr μ.length 1 1 0 0)).take m).drop k0) envk none xc env')
    (hcl : callee (opAt l p).op envp = some (f, args)) (hl1 : ν1.length = μ.length)
    (hc : ∀ o, o = .row e0 0 1 [] ∨ o = .row e0 1 1 [[c0]] → ACalls K f args (μ ++ [o]) fun ae ν => ae = .ret x ∧ ν = ν1 ++ [o] ++ ν2)
    (hz1 : cellsOf (evX envk y) = [evX envk y]) (hz2 : okCell (ν1 ++ [.row e0 1 1 [[c0]]] ++ ν2) (evX envk y) = true) (hdk : getE envk d0 = .ptr μ.length 1 1 0 0)
    (h : AnyC K F Q l pre m ⟨env', ν1 ++ [.row e0 1 1 [[evX envk y]]] ++ ν2⟩) : AnyC K F Q l pre 0 ⟨env, μ⟩ := by
  have hml : m ≤ l.length := by
    simp only [winOK, Bool.and_eq_true, decide_eq_true_eq] at hok
    exact hok.1.1.1.1.2
  simp only [eff1OK, Bool.and_eq_true, decide_eq_true_eq, List.all_eq_true, List.mem_range] at he
  obtain ⟨⟨⟨⟨⟨⟨⟨⟨hpm, hik⟩, hpk⟩, hkm⟩, hip⟩, hbpk⟩, hbik⟩, hgp⟩, hcls⟩ := he
  have hgp' : (opAt l p).guard = none := by simpa using hgp
  obtain ⟨lf, hlf⟩ : ∃ lf, lf = fake1 l p i0 k0 x (.ptr μ.length 1 1 0 0) := ⟨_, rfl⟩
  rw [← hlf] at ha1 hb1 hc1
  have hat : ∀ i, opAt lf i = if i = k0 then ⟨none, none, .mv (.c .dead)⟩ else if i = i0 then ⟨(opAt l i0).dst, none, .mv (.c (.ptr μ.length 1 1 0 0))⟩ else if i = p then ⟨(opAt l p).dst, none, .mv (.c x)⟩ else opAt l i := fun i => by
    rw [hlf]; exact fake1_at (by omega) (by omega) (by omega) hip (by omega) (by omega)
  have hdst : ∀ i, (opAt lf i).dst = (opAt l i).dst := fun i => by
    rw [hat]
    split
    · rename_i e; subst e; rw [hk0]
    · split
      · rename_i e; subst e; rfl
      · split
        · rename_i e; subst e; rfl
        · rfl
  have hgx := fun (R : Nat → AV) (X : Nat → Bool) (t : Nat) => gX_dst (l := l) (lf := lf) (m := m) (R := R) (env := env) (X := X) hdst t
  have hlen : lf.length = l.length := by rw [hlf]; simp [fake1]
  have htk : ∀ n, n ≤ l.length → (lf.take n).length = n := fun n hn => by simp; omega
  have hget : ∀ n, n ≤ l.length → ∀ i, i < (lf.take n).length → (lf.take n)[i]? = some (opAt lf (0 + i)) := fun n hn i hi => by
    rw [htk n hn] at hi
    rw [List.getElem?_take, if_pos hi, Nat.zero_add, List.getElem?_eq_getElem (by omega)]
    simp [opAt, List.getD, List.getElem?_eq_getElem (show i < lf.length by omega)]
  have hsp : ∀ n n', n ≤ n' → n' ≤ l.length → lf.take n ++ (lf.take n').drop n = lf.take n' := fun n n' h1 h2 => by
    conv => rhs; rw [← List.take_append_drop n (lf.take n')]
    rw [List.take_take, Nat.min_eq_left h1]
  have hab := ha1.append hb1
  rw [hsp p k0 (by omega) (by omega)] at hab
  have habc := hab.append hc1
  rw [hsp k0 m (by omega) hml] at habc
  have hla := ha1.xlen
  have hlab := hab.xlen
  rw [htk p (by omega)] at hla
  rw [htk k0 (by omega)] at hlab
  obtain ⟨R, hR⟩ : ∃ R : Nat → AV, R = fun i => (xa ++ xb ++ xc).getD i .dead := ⟨_, rfl⟩
  have hstart : ∀ n t, getE env t = gX lf n R env (fun k => decide (k < 0)) t := fun n t => by
    have : lastW lf n (fun k => decide (k < 0)) t = none := by simp [lastW]
    simp only [gX, this]
  obtain ⟨a0, a1, ib, a2, a3, a4⟩ := qrun_facts (l := lf) (m := m) (env0 := env) (R := R) habc 0 (by rw [htk m hml, Nat.zero_add]) (hget m hml) (fun i hi => by rw [hR, Nat.zero_add]) (hstart m)
  have hib : ib = none := a2.2 rfl
  have hq : ∀ i, i < m → ∃ e, (∀ t, getE e t = gX l m R env (fun k => decide (k < i)) t) ∧ QOp K (opAt lf i) e μ (R i) := fun i hi => by
    obtain ⟨e, e1, e2⟩ := a4 i (Nat.zero_le _) hi
    refine ⟨e, fun t => by rw [e1 t, hgx], ?_⟩
    rcases e2 with ⟨_, e2⟩ | ⟨e2, _⟩
    · exact e2
    · rw [hib] at e2; cases e2
  -- prefixes of the run
  have hpre : ∀ n, n ≤ m → ∀ ys zs envn, ys ++ zs = xa ++ xb ++ xc → ys.length = n → QRun K μ (lf.take n) env none ys envn → ∀ t, getE envn t = gX l m R env (fun k => decide (k < n)) t := fun n hn ys zs envn hyz hyl hr t => by
    obtain ⟨b0, b1, -⟩ := qrun_facts (l := lf) (m := n) (env0 := env) (R := R) hr 0 (by rw [htk n (by omega), Nat.zero_add]) (hget n (by omega)) (fun i hi => by
      rw [htk n (by omega)] at hi
      rw [hR, Nat.zero_add, ← hyz]
      simp only [List.getD_eq_getElem?_getD]
      rw [List.getElem?_append_left (by omega)]) (hstart n)
    rw [b1 t, gX_le hn, hgx]
  have henvp := hpre p (by omega) xa (xb ++ xc) envp (by rw [List.append_assoc]) hla ha1
  have henvk := hpre k0 (by omega) (xa ++ xb) xc envk rfl hlab hab
  have hval : ∀ i, i < m → ∀ z d, opAt lf i = ⟨d, none, .mv (.c z)⟩ → R i = z := fun i hi z d hz => by
    obtain ⟨e, _, e2⟩ := hq i hi
    rw [hz] at e2
    rcases e2 with ⟨_, _, e2⟩ | ⟨e2, _⟩ | ⟨_, f', as, e2, _⟩
    · simp [sopA, evX] at e2; exact e2.symm
    · simp [wantA] at e2
    · cases e2
  have hRp : R p = x := hval p hpm x _ (by rw [hat, if_neg (by omega), if_neg (Ne.symm hip), if_pos rfl])
  have hRi : R i0 = .ptr μ.length 1 1 0 0 := hval i0 (by omega) _ _ (by rw [hat, if_neg (by omega), if_pos rfl])
  have hRk : R k0 = .dead := hval k0 hkm _ _ (by rw [hat, if_pos rfl])
  obtain ⟨z, hz⟩ : ∃ z, z = evX envk y := ⟨_, rfl⟩
  rw [← hz] at hz1 hz2 h
  -- the memory by what is through
  obtain ⟨sO, hsO⟩ : ∃ sO : (Nat → Bool) → AObj, sO = fun X => if X k0 = true then .row e0 1 1 [[z]] else if X i0 = true then .row e0 1 1 [[c0]] else .row e0 0 1 [] := ⟨_, rfl⟩
  intro ops hl hpg a w ρ S ha μ0 ρ0 S0 w0 hst listed hs0 hl0
  obtain ⟨g1, g2⟩ := ha.mu.addNil e0 1
  refine any_abs (l := l) (lb := l) (env0 := env) (R := R) (M := fun X => (if X p = true then ν1 else μ) ++ [sO X] ++ (if X p = true then ν2 else [])) 0 m (fun i => by rw [if_neg (Nat.not_lt_zero i)]) hok hl hpg (fun X Y hXY => ?_) (fun t => by rw [a1 t, hgx]) ?_ ?_ (ρ := fun i => if i = μ.length then none else ρ i) (S := S)
    ⟨?_, ha.size, ha.defers.stab g2, fun t => ?_⟩ ?_ listed hs0 hl0
  · have e1 := hXY p (Nat.zero_le _) hpm
    have e2 := hXY i0 (Nat.zero_le _) (by omega)
    have e3 := hXY k0 (Nat.zero_le _) hkm
    simp only [hsO, e1, e2, e3]
  · intro X i o s N a w ρ S _ hi ho hs hcomp hXi hbef hbef2 hdep hafter hread hnext hG hsb hN
    have hM : (fun X : Nat → Bool => (if X p = true then ν1 else μ) ++ [sO X] ++ (if X p = true then ν2 else [])) X = (if X p = true then ν1 else μ) ++ [sO X] ++ (if X p = true then ν2 else []) := rfl
    by_cases h0 : i = p
    · -- the call
      subst h0
      have hXk : X k0 = false := hbef2 k0 (bef_sound hbpk)
      have hMX : (if X i = true then ν1 else μ) ++ [sO X] ++ (if X i = true then ν2 else []) = μ ++ [sO X] := by rw [hXi]; simp
      have hMY : (if (X i || decide (i = i)) = true then ν1 else μ) ++ [sO fun k => X k || decide (k = i)] ++ (if (X i || decide (i = i)) = true then ν2 else []) = ν1 ++ [sO X] ++ ν2 := by
        have e1 : sO (fun k => X k || decide (k = i)) = sO X := by
          have n1 : ¬ k0 = i := by omega
          have n2 : ¬ i0 = i := hip
          rw [hsO]; simp only [n1, n2, decide_false, Bool.or_false]
        rw [e1]; simp
      change GRep K F ρ S _ ((if X i = true then ν1 else μ) ++ [sO X] ++ (if X i = true then ν2 else [])) a w at hG
      change SB F.b μ0 ρ0 S0 w0 ((if X i = true then ν1 else μ) ++ [sO X] ++ (if X i = true then ν2 else [])) ρ S w at hsb
      rw [hMX] at hG hsb
      have hlook : ∀ t ∈ looks s, getE envp t = getE ((looks s).map fun t => (t, gX l m R env X t)) t := fun t ht => by
        rw [getE_map, if_pos ht, hread t ht, henvp]
      have hcl' : callee s.op ((looks s).map fun t => (t, gX l m R env X t)) = some (f, args) := by
        rw [← hs, ← hcl, hs]
        refine (callee_congr fun u hu => ?_).symm
        cases u with
        | c z => rfl
        | t u => exact hlook u (by unfold looks; exact List.mem_append_right _ (by unfold tmpsOf; exact List.mem_filterMap.2 ⟨.t u, hu, rfl⟩))
      refine step_eff ho hcomp hsb hG hnext (x := R i) (μ2 := ν1 ++ [sO X] ++ ν2) (by rw [← hs, hgp']; rfl) hcl' (by
        rw [hRp]
        refine hc _ ?_
        rw [hsO]
        simp only [hXk, Bool.false_eq_true, if_false]
        cases X i0 <;> simp) (fun a' w' ρ' S' hg hsb' => hN a' w' ρ' S' (by
          show GRep K F ρ' S' _ ((if (X i || decide (i = i)) = true then ν1 else μ) ++ [sO fun k => X k || decide (k = i)] ++ (if (X i || decide (i = i)) = true then ν2 else [])) a' w'
          rw [hMY]; exact hg) (by
          show SB F.b μ0 ρ0 S0 w0 ((if (X i || decide (i = i)) = true then ν1 else μ) ++ [sO fun k => X k || decide (k = i)] ++ (if (X i || decide (i = i)) = true then ν2 else [])) ρ' S' w'
          rw [hMY]; exact hsb'))
    have hXp : (X p || decide (p = i)) = X p := by
      have : ¬ p = i := fun e => h0 e.symm
      simp [this]
    obtain ⟨β1, hβ1⟩ : ∃ β1, β1 = if X p = true then ν1 else μ := ⟨_, rfl⟩
    obtain ⟨β2, hβ2⟩ : ∃ β2 : List AObj, β2 = if X p = true then ν2 else [] := ⟨_, rfl⟩
    have hβl : β1.length = μ.length := by rw [hβ1]; cases X p <;> simp [hl1]
    change GRep K F ρ S _ ((if X p = true then ν1 else μ) ++ [sO X] ++ (if X p = true then ν2 else [])) a w at hG
    change SB F.b μ0 ρ0 S0 w0 ((if X p = true then ν1 else μ) ++ [sO X] ++ (if X p = true then ν2 else [])) ρ S w at hsb
    rw [← hβ1, ← hβ2] at hG hsb
    have hN' : ∀ a' w' ρ' S', GRep K F ρ' S' (gX l m R env (fun k => X k || decide (k = i))) (β1 ++ [sO fun k => X k || decide (k = i)] ++ β2) a' w' → SB F.b μ0 ρ0 S0 w0 (β1 ++ [sO fun k => X k || decide (k = i)] ++ β2) ρ' S' w' → N a' w' := fun a' w' ρ' S' hg hsb' => hN a' w' ρ' S' (by
        show GRep K F ρ' S' _ ((if (X p || decide (p = i)) = true then ν1 else μ) ++ [sO fun k => X k || decide (k = i)] ++ (if (X p || decide (p = i)) = true then ν2 else [])) a' w'
        rw [hXp, ← hβ1, ← hβ2]; exact hg) (by
        show SB F.b μ0 ρ0 S0 w0 ((if (X p || decide (p = i)) = true then ν1 else μ) ++ [sO fun k => X k || decide (k = i)] ++ (if (X p || decide (p = i)) = true then ν2 else [])) ρ' S' w'
        rw [hXp, ← hβ1, ← hβ2]; exact hsb')
    by_cases h1 : i = i0
    · -- the new variable
      subst h1
      have hXk : X k0 = false := hbef2 k0 (bef_sound hbik)
      have hs' : s = ⟨some d0, none, .box e0 (.c c0)⟩ := by rw [← hs, hb0]
      subst hs'
      have hcur : sO X = .row e0 0 1 [] := by rw [hsO]; simp only [hXk, hXi, Bool.false_eq_true, if_false]
      have hnew : sO (fun k => X k || decide (k = i)) = .row e0 1 1 [[c0]] := by
        have n1 : ¬ k0 = i := by omega
        rw [hsO]; simp [n1, hXk]
      have hgetb : (β1 ++ [sO X] ++ β2)[μ.length]? = some (.row e0 0 1 []) := by
        rw [List.append_assoc, List.getElem?_append_right (by omega), hβl, Nat.sub_self, hcur]; rfl
      have hset : (β1 ++ [sO X] ++ β2).set μ.length (.row e0 1 1 [[c0]]) = β1 ++ [sO fun k => X k || decide (k = i)] ++ β2 := by
        rw [hnew, List.append_assoc, List.append_assoc, List.set_append_right _ _ (by omega), hβl, Nat.sub_self]; rfl
      refine step_gbox (g' := gX l m R env fun k => X k || decide (k = i)) ho hcomp hc0 hgetb hsb hG (fun t => by rw [hnext, hRi]) (fun a' w' ρ' S' hg hsb' => hN' a' w' ρ' S' (by rw [← hset]; exact hg) (by rw [← hset]; exact hsb'))
    have hlookg : ∀ e, (∀ t, getE e t = gX l m R env (fun k => decide (k < i)) t) → ∀ t ∈ looks s, getE e t = getE ((looks s).map fun t => (t, gX l m R env X t)) t := fun e he t ht => by
      rw [getE_map, if_pos ht, hread t ht, he]
    by_cases h2 : i = k0
    · -- the store
      subst h2
      have hXpt : X p = true := hbef p (bef_sound hbpk)
      have hXit : X i0 = true := hbef i0 (bef_sound hbik)
      have hs' : s = ⟨none, none, .store 1 (.t d0) y⟩ := by rw [← hs, hk0]
      have hcur : sO X = .row e0 1 1 [[c0]] := by rw [hsO]; simp only [hXi, hXit, Bool.false_eq_true, if_false, if_true]
      have hnew : sO (fun k => X k || decide (k = i)) = .row e0 1 1 [[z]] := by rw [hsO]; simp
      have hb1' : β1 = ν1 := by rw [hβ1, hXpt]; rfl
      have hb2' : β2 = ν2 := by rw [hβ2, hXpt]; rfl
      have hlk := hlookg envk henvk
      have hd : getE ((looks s).map fun t => (t, gX l m R env X t)) d0 = .ptr μ.length 1 1 0 0 := by
        rw [← hlk d0 (by rw [hs']; simp [looks, opnds, tmpsOf]), hdk]
      have hy : evX ((looks s).map fun t => (t, gX l m R env X t)) y = z := by
        rw [hz]
        cases y with
        | c z => rfl
        | t u => exact (hlk u (by rw [hs']; simp [looks, opnds, tmpsOf])).symm
      refine step_any ho hcomp hsb hG hnext (x := R i) (μ1 := β1 ++ [sO fun k => X k || decide (k = i)] ++ β2) (l := l) (.inl ⟨by rw [hs']; rfl, ?_⟩) hN'
      rw [hRk, hs'] 
      rw [hs'] at hd hy
      show (storeA 1 (evX _ (.t d0)) (evX _ y) (β1 ++ [sO X] ++ β2)).map (fun μ' => (AV.dead, μ')) = _
      rw [hy, show evX ((looks (⟨none, none, .store 1 (.t d0) y⟩ : SOper)).map fun t => (t, gX l m R env X t)) (.t d0) = .ptr μ.length 1 1 0 0 from hd, hnew, hcur, hb1', hb2']
      have hg : (ν1 ++ [AObj.row e0 1 1 [[c0]]] ++ ν2)[μ.length]? = some (.row e0 1 1 [[c0]]) := by
        rw [List.append_assoc, List.getElem?_append_right (by omega), hl1, Nat.sub_self]; rfl
      simp only [storeA, hg, and_self, if_true, List.getElem?_cons_zero, hz1]
      rw [if_pos ⟨rfl, by simp, by simpa using hz2⟩]
      simp only [Option.map_some, Option.some.injEq, Prod.mk.injEq, true_and]
      rw [List.append_assoc, List.append_assoc, List.set_append_right _ _ (by omega), hl1, Nat.sub_self]
      simp
    -- another one
    obtain ⟨e, e1, e2⟩ := hq i hi
    rw [hat, if_neg h2, if_neg h1, if_neg h0, hs] at e2
    have hlk := hlookg e e1
    have hsame : sO (fun k => X k || decide (k = i)) = sO X := by
      have n1 : ¬ k0 = i := fun e => h2 e.symm
      have n2 : ¬ i0 = i := fun e => h1 e.symm
      rw [hsO]; simp only [n1, n2, decide_false, Bool.or_false]
    rw [hsame] at hN'
    have hop' := e2.congr hlk
    have hci := hcls i hi
    simp only [h0, h1, h2, decide_false, Bool.false_or, Bool.or_eq_true, Bool.and_eq_true] at hci
    refine step_any ho hcomp hsb hG hnext (x := R i) (μ1 := β1 ++ [sO X] ++ β2) (l := l) ?_ hN'
    rcases hci with hb | ⟨hb, hf⟩
    · have hXpf : X p = false := hbef2 p (bef_sound hb)
      have hb1' : β1 = μ := by rw [hβ1, hXpf]; rfl
      have hb2' : β2 = [] := by rw [hβ2, hXpf]; rfl
      rw [hb1', hb2', List.append_nil]
      rcases hop' with ⟨q1, q2, q3⟩ | ⟨q1, q2⟩ | ⟨q1, f', as, q2, q3⟩
      · exact .inl ⟨q1, quiet_mono q2 q3⟩
      · exact .inr (.inl ⟨q1, q2, rfl⟩)
      · exact .inr (.inr ⟨q1, rfl, f', as, q2, q3 [sO X]⟩)
    · rw [hs] at hf
      rcases hop' with ⟨q1, q2, q3⟩ | ⟨q1, q2⟩ | ⟨q1, f', as, q2, q3⟩
      · exact .inl ⟨q1, free_any hf q3⟩
      · exact .inr (.inl ⟨q1, q2, rfl⟩)
      · exact (free_callee hf q2).elim
  · show AnyC K F Q l pre m ⟨env', (if decide (p < m) = true then ν1 else μ) ++ [sO fun k => decide (k < m)] ++ (if decide (p < m) = true then ν2 else [])⟩
    have e1 : sO (fun k => decide (k < m)) = .row e0 1 1 [[z]] := by rw [hsO]; simp [hkm]
    rw [e1, if_pos (by simpa using hpm), if_pos (by simpa using hpm)]
    exact h
  · show RepMu K _ S ((if decide (p < 0) = true then ν1 else μ) ++ [sO fun k => decide (k < 0)] ++ (if decide (p < 0) = true then ν2 else [])) w
    have e1 : sO (fun k => decide (k < 0)) = .row e0 0 1 [] := by rw [hsO]; simp
    rw [e1]; simp only [Nat.not_lt_zero, decide_false, Bool.false_eq_true, if_false, List.append_nil]
    exact g1
  · show VR ((if decide (p < 0) = true then ν1 else μ) ++ [sO fun k => decide (k < 0)] ++ (if decide (p < 0) = true then ν2 else [])) _ S w (gX l m R env (fun k => decide (k < 0)) t) _
    have e1 : sO (fun k => decide (k < 0)) = .row e0 0 1 [] := by rw [hsO]; simp
    rw [e1, ← hgx, ← hstart]; simp only [Nat.not_lt_zero, decide_false, Bool.false_eq_true, if_false, List.append_nil]
    exact (ha.env t).stab g2
  · show SB F.b μ0 ρ0 S0 w0 ((if decide (p < 0) = true then ν1 else μ) ++ [sO fun k => decide (k < 0)] ++ (if decide (p < 0) = true then ν2 else [])) _ S w
    have e1 : sO (fun k => decide (k < 0)) = .row e0 0 1 [] := by rw [hsO]; simp
    rw [e1]; simp only [Nat.not_lt_zero, decide_false, Bool.false_eq_true, if_false, List.append_nil]
    exact hst.trans g2
/-- The text's run as the memory is ahead of the operation p, and behind it: what must come on the other side is a constant there. -/
def fkA (l : List SOper) (pre : List (List Nat)) (p : Nat) (xs : Nat → AV) (i : Nat) : SOper := if i = p ∨ bef pre p i = true then ⟨(opAt l i).dst, none, .mv (.c (xs i))⟩ else opAt l i
def fkB (l : List SOper) (pre : List (List Nat)) (p : Nat) (xs : Nat → AV) (i : Nat) : SOper := if i = p ∨ bef pre i p = true then ⟨(opAt l i).dst, none, .mv (.c (xs i))⟩ else opAt l i
def fkL (f : Nat → SOper) (c n : Nat) : List SOper := (List.range' c n).map f

theorem any_eff2 {l : List SOper} {pre : List (List Nat)} {env : List (Nat × AV)} {μ ν : List AObj} (c m p : Nat) (R : Nat → AV) (hok : winOK l pre c m = true) (hcp : c ≤ p) (hpm : p < m)
    {env' env'' envp : List (Nat × AV)} {xa xb xc : List AV} (ha1 : QRun K μ (fkL (fkA l pre p R) c (p - c)) env none xa envp) (hb1 : QRun K μ (fkL (fkA l pre p R) p (m - p)) envp none xb env')
    (hc1 : QRun K ν (fkL (fkB l pre p R) c (m - c)) env none xc env'')
    (hxa : ∀ i, i < p - c → xa.getD i .dead = R (c + i)) (hxb : ∀ i, i < m - p → xb.getD i .dead = R (p + i)) (hxc : ∀ i, i < m - c → xc.getD i .dead = R (c + i))
    (hg : wantA (opAt l p).guard envp = some true) (hp : sopA (opAt l p).op envp μ = some (R p, ν) ∨ ∃ f args, callee (opAt l p).op envp = some (f, args) ∧ ACalls K f args μ fun ae ν' => ae = .ret (R p) ∧ ν' = ν)
    (h : AnyC K F Q l pre m ⟨env', ν⟩) : AnyC K F Q l pre c ⟨env, μ⟩ := by
  have hml : m ≤ l.length := by
    simp only [winOK, Bool.and_eq_true, decide_eq_true_eq] at hok
    exact hok.1.1.1.1.2
  obtain ⟨lb, hlbd⟩ : ∃ lb : List SOper, lb = List.replicate c noOp ++ l.drop c := ⟨_, rfl⟩
  have hlb : ∀ i, opAt lb i = if i < c then noOp else opAt l i := fun i => by
    rw [hlbd]
    unfold opAt
    simp only [List.getD_eq_getElem?_getD]
    by_cases hi : i < c
    · rw [List.getElem?_append_left (by simpa using hi), if_pos hi]; simp [hi, List.getElem?_replicate]
    · rw [List.getElem?_append_right (by simpa using hi), if_neg hi, List.length_replicate, List.getElem?_drop, show c + (i - c) = i by omega]
  -- the two lists
  have mk : ∀ f : Nat → SOper, (∀ i, (f i).dst = (opAt l i).dst) → ∃ lf : List SOper, (∀ i, c ≤ i → i < m → opAt lf i = f i) ∧ ∀ i, i < m → (opAt lf i).dst = (opAt lb i).dst := fun f hf => by
    refine ⟨List.replicate c noOp ++ fkL f c (m - c), fun i h1 h2 => ?_, fun i h2 => ?_⟩
    · unfold opAt fkL
      simp only [List.getD_eq_getElem?_getD]
      rw [List.getElem?_append_right (by simpa using h1), List.length_replicate, List.getElem?_map, List.getElem?_range' (by omega)]
      simp [show c + (i - c) = i by omega]
    · by_cases h1 : i < c
      · unfold opAt fkL
        simp only [List.getD_eq_getElem?_getD]
        rw [List.getElem?_append_left (by simpa using h1), hlbd, List.getElem?_append_left (by simpa using h1)]
      · rw [hlb, if_neg h1, ← hf]
        unfold opAt fkL
        simp only [List.getD_eq_getElem?_getD]
        rw [List.getElem?_append_right (by simpa using h1), List.length_replicate, List.getElem?_map, List.getElem?_range' (by omega)]
        simp [show c + (i - c) = i by omega]
  have gxd : ∀ (lf : List SOper) (n : Nat), n ≤ m → (∀ i, i < m → (opAt lf i).dst = (opAt lb i).dst) → ∀ (X : Nat → Bool) (t : Nat), gX lf n R env X t = gX lb n R env X t := fun lf n hn hd X t => by
    have : lastW lf n X t = lastW lb n X t := by
      unfold lastW
      congr 1
      apply List.filter_congr
      intro k hk
      rw [hd k (by have := List.mem_range.1 hk; omega)]
    unfold gX; rw [this]
  have hlw : ∀ n t, lastW lb n (fun k => decide (k < c)) t = none := fun n t => by
    unfold lastW
    rw [List.getLast?_eq_none_iff, List.filter_eq_nil_iff]
    intro k _
    simp only [Bool.and_eq_true, decide_eq_true_eq, not_and]
    intro hk hd
    rw [hlb, if_pos hk] at hd
    cases hd
  have hstart : ∀ n t, getE env t = gX lb n R env (fun k => decide (k < c)) t := fun n t => by simp only [gX, hlw]
  have hdA : ∀ i, (fkA l pre p R i).dst = (opAt l i).dst := fun i => by unfold fkA; split <;> rfl
  have hdB : ∀ i, (fkB l pre p R i).dst = (opAt l i).dst := fun i => by unfold fkB; split <;> rfl
  have hlen : ∀ f a b, (fkL f a b).length = b := fun f a b => by simp [fkL]
  have hgetL : ∀ f a b i, i < b → (fkL f a b)[i]? = some (f (a + i)) := fun f a b i hi => by
    unfold fkL; rw [List.getElem?_map, List.getElem?_range' hi]; simp
  obtain ⟨lA, hA1, hA2⟩ := mk _ hdA
  obtain ⟨lB, hB1, hB2⟩ := mk _ hdB
  have hjoin : fkL (fkA l pre p R) c (p - c) ++ fkL (fkA l pre p R) p (m - p) = fkL (fkA l pre p R) c (m - c) := by
    unfold fkL
    rw [← List.map_append]
    congr 1
    have := List.range'_append_1 (s := c) (m := p - c) (n := m - p)
    rw [show c + (p - c) = p by omega, show p - c + (m - p) = m - c by omega] at this
    exact this
  have hallA := ha1.append hb1
  rw [hjoin] at hallA
  have hla := ha1.xlen
  rw [hlen] at hla
  have hxall : ∀ i, i < m - c → (xa ++ xb).getD i .dead = R (c + i) := fun i hi => by
    simp only [List.getD_eq_getElem?_getD]
    by_cases h1 : i < p - c
    · rw [List.getElem?_append_left (by omega)]
      have := hxa i h1
      simpa [List.getD_eq_getElem?_getD] using this
    · rw [List.getElem?_append_right (by omega), hla]
      have := hxb (i - (p - c)) (by omega)
      rw [show p + (i - (p - c)) = c + i by omega] at this
      simpa [List.getD_eq_getElem?_getD] using this
  -- the facts
  obtain ⟨-, a1, ib, a2, -, a4⟩ := qrun_facts (l := lA) (m := m) (env0 := env) (R := R) hallA c (by rw [hlen]; omega) (fun i hi => by rw [hlen] at hi; rw [hgetL _ _ _ _ hi, hA1 _ (by omega) (by omega)]) (fun i hi => by rw [hlen] at hi; exact hxall i hi)
    (fun t => by rw [gxd lA m (Nat.le_refl _) hA2]; exact hstart m t)
  have hib : ib = none := a2.2 rfl
  obtain ⟨-, -, ib', a2', -, a4'⟩ := qrun_facts (l := lB) (m := m) (env0 := env) (R := R) hc1 c (by rw [hlen]; omega) (fun i hi => by rw [hlen] at hi; rw [hgetL _ _ _ _ hi, hB1 _ (by omega) (by omega)]) (fun i hi => by rw [hlen] at hi; exact hxc i hi)
    (fun t => by rw [gxd lB m (Nat.le_refl _) hB2]; exact hstart m t)
  have hib' : ib' = none := a2'.2 rfl
  have hqA : ∀ i, c ≤ i → i < m → ∃ e, (∀ t, getE e t = gX lb m R env (fun k => decide (k < i)) t) ∧ QOp K (fkA l pre p R i) e μ (R i) := fun i hc hi => by
    obtain ⟨e, e1, e2⟩ := a4 i hc hi
    refine ⟨e, fun t => by rw [e1 t, gxd lA m (Nat.le_refl _) hA2], ?_⟩
    rcases e2 with ⟨_, e2⟩ | ⟨e2, _⟩
    · rw [hA1 i hc hi] at e2; exact e2
    · rw [hib] at e2; cases e2
  have hqB : ∀ i, c ≤ i → i < m → ∃ e, (∀ t, getE e t = gX lb m R env (fun k => decide (k < i)) t) ∧ QOp K (fkB l pre p R i) e ν (R i) := fun i hc hi => by
    obtain ⟨e, e1, e2⟩ := a4' i hc hi
    refine ⟨e, fun t => by rw [e1 t, gxd lB m (Nat.le_refl _) hB2], ?_⟩
    rcases e2 with ⟨_, e2⟩ | ⟨e2, _⟩
    · rw [hB1 i hc hi] at e2; exact e2
    · rw [hib'] at e2; cases e2
  have henvp : ∀ t, getE envp t = gX lb m R env (fun k => decide (k < p)) t := fun t => by
    obtain ⟨b0, b1, -⟩ := qrun_facts (l := lA) (m := p) (env0 := env) (R := R) ha1 c (by rw [hlen]; omega) (fun i hi => by rw [hlen] at hi; rw [hgetL _ _ _ _ hi, hA1 _ (by omega) (by omega)]) (fun i hi => by rw [hlen] at hi; exact hxa i hi)
      (fun t => by rw [gxd lA p (by omega) hA2]; exact hstart p t)
    rw [b1 t, gxd lA p (by omega) hA2, gX_le (p := p) (m := m) (by omega)]
  intro ops hl hpg a w ρ S ha μ0 ρ0 S0 w0 hst listed hs0 hl0
  have hcp0 : decide (p < c) = false := by simp; omega
  refine any_abs (l := l) (lb := lb) (env0 := env) (R := R) (M := fun X => if X p = true then ν else μ) c m hlb hok hl hpg (fun X Y hXY => by rw [hXY p hcp hpm]) (fun t => by rw [a1 t, gxd lA m (Nat.le_refl _) hA2]) ?_ ?_ (ρ := ρ) (S := S)
    ⟨?_, ha.size, ha.defers, fun t => ?_⟩ ?_ listed hs0 hl0
  · intro X i o s N a w ρ S hci hi ho hs hcomp hXi hbef hbef2 hdep hafter hread hnext hG hsb hN
    have hls : opAt l i = s := by rw [← hs, hlb, if_neg (by omega)]
    have hlookg : ∀ e, (∀ t, getE e t = gX lb m R env (fun k => decide (k < i)) t) → ∀ t ∈ looks s, getE e t = getE ((looks s).map fun t => (t, gX lb m R env X t)) t := fun e he t ht => by
      rw [getE_map, if_pos ht, hread t ht, he]
    by_cases h0 : i = p
    · subst h0
      have hlk := hlookg envp henvp
      change GRep K F ρ S _ (if X i = true then ν else μ) a w at hG
      change SB F.b μ0 ρ0 S0 w0 (if X i = true then ν else μ) ρ S w at hsb
      rw [hXi, if_neg (by simp)] at hG hsb
      have hguard : wantA s.guard ((looks s).map fun t => (t, gX lb m R env X t)) = some true := by
        rw [hls] at hg
        unfold wantA at hg ⊢
        split
        · rfl
        · rename_i t bb hgd
          rw [hgd] at hg
          simp only at hg
          rw [hlk t (by simp [looks, hgd])] at hg
          exact hg
      have hev : ∀ u ∈ opnds s.op, evX envp u = evX ((looks s).map fun t => (t, gX lb m R env X t)) u := fun u hu => by
        cases u with
        | c z => rfl
        | t u => exact hlk u (by unfold looks; exact List.mem_append_right _ (by unfold tmpsOf; exact List.mem_filterMap.2 ⟨.t u, hu, rfl⟩))
      have hN' : ∀ a' w' ρ' S', GRep K F ρ' S' (gX lb m R env (fun k => X k || decide (k = i))) ν a' w' → SB F.b μ0 ρ0 S0 w0 ν ρ' S' w' → N a' w' := fun a' w' ρ' S' hg hsb' => hN a' w' ρ' S' (by
        show GRep K F ρ' S' _ (if (X i || decide (i = i)) = true then ν else μ) a' w'
        rw [if_pos (by simp)]; exact hg) (by
        show SB F.b μ0 ρ0 S0 w0 (if (X i || decide (i = i)) = true then ν else μ) ρ' S' w'
        rw [if_pos (by simp)]; exact hsb')
      rcases hp with hp | ⟨f, args, hcl, hc⟩
      · rw [hls, sopA_congr hev] at hp
        exact step_any ho hcomp hsb hG hnext (x := R i) (μ1 := ν) (l := l) (.inl ⟨hguard, hp⟩) hN'
      · rw [hls, callee_congr hev] at hcl
        exact step_eff ho hcomp hsb hG hnext (x := R i) (μ2 := ν) hguard hcl hc hN'
    · have hXp : (X p || decide (p = i)) = X p := by
        have : ¬ p = i := fun e => h0 e.symm
        simp [this]
      change GRep K F ρ S _ (if X p = true then ν else μ) a w at hG
      change SB F.b μ0 ρ0 S0 w0 (if X p = true then ν else μ) ρ S w at hsb
      have hN' : ∀ a' w' ρ' S', GRep K F ρ' S' (gX lb m R env (fun k => X k || decide (k = i))) (if X p = true then ν else μ) a' w' → SB F.b μ0 ρ0 S0 w0 (if X p = true then ν else μ) ρ' S' w' → N a' w' := fun a' w' ρ' S' hg hsb' => hN a' w' ρ' S' (by
        show GRep K F ρ' S' _ (if (X p || decide (p = i)) = true then ν else μ) a' w'
        rw [hXp]; exact hg) (by
        show SB F.b μ0 ρ0 S0 w0 (if (X p || decide (p = i)) = true then ν else μ) ρ' S' w'
        rw [hXp]; exact hsb')
      have fin : ∀ β e, (if X p = true then ν else μ) = β → (∀ t, getE e t = gX lb m R env (fun k => decide (k < i)) t) → QOp K s e β (R i) → wpOpIn (Fr F.r) 0 K.P ops (Post K F μ0 ρ0 S0 w0 Q) i N a w := fun β e hβ he hq => by
        rw [hβ] at hG hsb hN'
        have hop' := hq.congr (hlookg e he)
        refine step_any ho hcomp hsb hG hnext (x := R i) (μ1 := β) (l := l) ?_ hN'
        rcases hop' with ⟨q1, q2, q3⟩ | ⟨q1, q2⟩ | ⟨q1, f', as, q2, q3⟩
        · exact .inl ⟨q1, q3⟩
        · exact .inr (.inl ⟨q1, q2, rfl⟩)
        · exact .inr (.inr ⟨q1, rfl, f', as, q2, by have := q3 []; simpa using this⟩)
      cases hX : X p with
      | false =>
        have hnb : ¬ bef pre p i = true := fun hb => by have := hbef p (bef_sound hb); rw [hX] at this; cases this
        obtain ⟨e, e1, e2⟩ := hqA i hci hi
        unfold fkA at e2
        rw [if_neg (by simp [h0, hnb]), hls] at e2
        exact fin μ e (by rw [hX]; rfl) e1 e2
      | true =>
        have hnb : ¬ bef pre i p = true := fun hb => by have := hbef2 p (bef_sound hb); rw [hX] at this; cases this
        obtain ⟨e, e1, e2⟩ := hqB i hci hi
        unfold fkB at e2
        rw [if_neg (by simp [h0, hnb]), hls] at e2
        exact fin ν e (by rw [hX]; rfl) e1 e2
  · show AnyC K F Q l pre m ⟨env', if decide (p < m) = true then ν else μ⟩
    rw [if_pos (by simpa using hpm)]
    exact h
  · show RepMu K ρ S (if decide (p < c) = true then ν else μ) w
    rw [hcp0]; exact ha.mu
  · show VR (if decide (p < c) = true then ν else μ) ρ S w (gX lb m R env (fun k => decide (k < c)) t) _
    rw [hcp0, ← hstart]; exact ha.env t
  · show SB F.b μ0 ρ0 S0 w0 (if decide (p < c) = true then ν else μ) ρ S w
    rw [hcp0]; exact hst
end rules
/-- The slots behind the first i operations, as the text has them. -/
def envAt (l : List SOper) (R : Nat → AV) (env : List (Nat × AV)) : Nat → List (Nat × AV)
  | 0 => env
  | i + 1 => pushE (envAt l R env i) (opAt l i).dst (R i)
theorem lastW_succ {l : List SOper} {m i : Nat} (hi : i < m) (t : Nat) : lastW l m (fun k => decide (k < i + 1)) t = if (opAt l i).dst = some t then some i else lastW l m (fun k => decide (k < i)) t := by
  have h1 : ∀ n, n ≤ m → lastW l m (fun k => decide (k < n)) t = ((List.range n).filter fun k => decide ((opAt l k).dst = some t)).getLast? := fun n hn => by
    unfold lastW
    congr 1
    obtain ⟨d, rfl⟩ := Nat.exists_eq_add_of_le hn
    rw [List.range_add, List.filter_append]
    have : (List.map (fun x => n + x) (List.range d)).filter (fun k => decide (k < n) && decide ((opAt l k).dst = some t)) = [] := by
      rw [List.filter_eq_nil_iff]
      intro a ha
      obtain ⟨b, _, rfl⟩ := List.mem_map.1 ha
      have : ¬ n + b < n := by omega
      simp [this]
    rw [this, List.append_nil]
    apply List.filter_congr
    intro k hk
    have := List.mem_range.1 hk
    simp [this]
  rw [h1 (i + 1) (by omega), h1 i (by omega), List.range_succ, List.filter_append]
  by_cases h : (opAt l i).dst = some t
  · simp [h]
  · simp [h]
theorem gX_envAt {l : List SOper} {R : Nat → AV} {env : List (Nat × AV)} {m : Nat} : ∀ {i : Nat}, i ≤ m → ∀ t, getE (envAt l R env i) t = gX l m R env (fun k => decide (k < i)) t
  | 0, _, t => by
    have : lastW l m (fun k => decide (k < 0)) t = none := by simp [lastW]
    unfold gX
    rw [this]; rfl
  | i + 1, h, t => by
    have ih := gX_envAt (l := l) (R := R) (env := env) (m := m) (i := i) (by omega) t
    unfold gX
    rw [lastW_succ (by omega) t]
    unfold envAt pushE
    cases hd : (opAt l i).dst with
    | none => simp only [reduceCtorEq, if_false]; rw [ih]; rfl
    | some d =>
      simp only [getE_cons]
      by_cases e : d = t
      · subst e; simp
      · have e' : ¬ some d = some t := fun q => e (Option.some.inj q)
        rw [if_neg e, if_neg e', ih]; rfl
/-- One operation that may turn the memory. -/
def EOp (K : Ctx) (s : SOper) (env : List (Nat × AV)) (μ : List AObj) (x : AV) (μ' : List AObj) : Prop :=
  wantA s.guard env = some true ∧ (sopA s.op env μ = some (x, μ') ∨ ∃ f args, callee s.op env = some (f, args) ∧ ACalls K f args μ fun ae ν => ae = .ret x ∧ ν = μ')
/-- The places of the operations that turn the memory: each comes behind those ahead of it. -/
def effsOK (pre : List (List Nat)) (c m : Nat) (ps : List Nat) : Bool :=
  ps.all (fun p => decide (c ≤ p ∧ p < m)) && (List.range ps.length).all fun j => (List.range j).all fun k => bef pre (ps.getD k 0) (ps.getD j 0)
def befN (l : List SOper) (c : Nat) : List SOper := List.replicate c noOp ++ l.drop c
theorem befN_at {l : List SOper} {c : Nat} (i : Nat) : opAt (befN l c) i = if i < c then noOp else opAt l i := by
  unfold opAt befN
  split
  · rename_i h
    rw [List.getD_eq_getElem?_getD, List.getElem?_append_left (by simpa using h)]
    simp [h]
  · rename_i h
    rw [List.getD_eq_getElem?_getD, List.getElem?_append_right (by simpa using Nat.le_of_not_lt h)]
    simp only [List.length_replicate, List.getElem?_drop, List.getD_eq_getElem?_getD]
    rw [show c + (i - c) = i by omega]
theorem envAt_skip {l : List SOper} {c : Nat} {R : Nat → AV} {env : List (Nat × AV)} : ∀ i, i ≤ c → envAt (befN l c) R env i = env
  | 0, _ => rfl
  | i + 1, h => by
    unfold envAt
    rw [envAt_skip i (by omega), befN_at, if_pos (by omega)]
    rfl
theorem count_le {X : Nat → Bool} : ∀ {ps : List Nat} {k : Nat}, (∀ j, k ≤ j → j < ps.length → X (ps.getD j 0) = false) → (ps.filter X).length ≤ k
  | [], k, _ => by simp
  | p :: ps, 0, h => by
    have h0 : X p = false := h 0 (Nat.le_refl _) (by simp)
    rw [List.filter_cons, if_neg (by simp [h0])]
    exact count_le fun j hj hl => h (j + 1) (by omega) (by simpa using hl)
  | p :: ps, k + 1, h => by
    have := count_le (X := X) (ps := ps) (k := k) fun j hj hl => h (j + 1) (by omega) (by simpa using hl)
    rw [List.filter_cons]
    split
    · simp; omega
    · omega
theorem count_ge {X : Nat → Bool} : ∀ {ps : List Nat} {k : Nat}, k ≤ ps.length → (∀ j, j < k → X (ps.getD j 0) = true) → k ≤ (ps.filter X).length
  | [], k, h, _ => by simpa using h
  | p :: ps, 0, _, _ => Nat.zero_le _
  | p :: ps, k + 1, h, h' => by
    have h0 : X p = true := h' 0 (by omega)
    have := count_ge (X := X) (ps := ps) (k := k) (by simpa using h) fun j hj => h' (j + 1) (by omega)
    rw [List.filter_cons, if_pos h0]
    simp; omega
theorem mem_getD0 {ps : List Nat} {p : Nat} (h : p ∈ ps) : ∃ k, k < ps.length ∧ ps.getD k 0 = p := by
  obtain ⟨k, hk, e⟩ := List.mem_iff_getElem.1 h
  exact ⟨k, hk, by rw [List.getD_eq_getElem?_getD, List.getElem?_eq_getElem hk]; exact e⟩
theorem Bef.tr {pre : List (List Nat)} {a b c : Nat} (h : Bef pre a b) (k : Bef pre b c) : Bef pre a c := by
  induction k with
  | one h1 h2 => exact .step h1 h2 h
  | step h1 h2 _ ih => exact .step h1 h2 ih
section rules
variable {K : Ctx} {F : Fcx} {Q : AExit → St → Prop}
theorem any_effN {l : List SOper} {pre : List (List Nat)} {env : List (Nat × AV)} (c m : Nat) (ps : List Nat) (ν : Nat → List AObj) (R : Nat → AV) (hok : winOK l pre c m = true) (hps : effsOK pre c m ps = true)
    (hq : ∀ i, c ≤ i → i < m → i ∉ ps → ∀ j, j ≤ ps.length → (∀ k, k < ps.length → bef pre (ps.getD k 0) i = true → k < j) → (∀ k, k < ps.length → bef pre i (ps.getD k 0) = true → j ≤ k) → QOp K (opAt l i) (envAt (befN l c) R env i) (ν j) (R i))
    (he : ∀ k, k < ps.length → EOp K (opAt l (ps.getD k 0)) (envAt (befN l c) R env (ps.getD k 0)) (ν k) (R (ps.getD k 0)) (ν (k + 1)))
    (h : AnyC K F Q l pre m ⟨envAt (befN l c) R env m, ν ps.length⟩) : AnyC K F Q l pre c ⟨env, ν 0⟩ := by
  simp only [effsOK, Bool.and_eq_true, List.all_eq_true, decide_eq_true_eq, List.mem_range] at hps
  obtain ⟨hin, hord⟩ := hps
  have hin' : ∀ k, k < ps.length → c ≤ ps.getD k 0 ∧ ps.getD k 0 < m := fun k hk => hin _ (by rw [List.getD_eq_getElem?_getD, List.getElem?_eq_getElem hk]; exact List.getElem_mem _)
  have hcm : c ≤ m := by
    have := hok
    simp only [winOK, Bool.and_eq_true, decide_eq_true_eq] at this
    exact this.1.1.1.2
  have hne : ∀ j k, j < ps.length → k < ps.length → j ≠ k → ps.getD j 0 ≠ ps.getD k 0 := by
    have hlt : ∀ (i : Nat) qs p, pre[i]? = some qs → p ∈ qs → p < i := by
      have := hok
      simp only [winOK, Bool.and_eq_true, decide_eq_true_eq, List.all_eq_true, List.mem_range] at this
      intro i qs p hi hp
      have hil : i < l.length := by rw [← this.1.1.1.1.1]; exact (List.getElem?_eq_some_iff.1 hi).1
      have h2 := this.1.1.2 i hil
      rw [List.getD_eq_getElem?_getD, hi] at h2
      exact h2 p hp
    intro j k hj hk hjk e
    rcases Nat.lt_or_gt_of_ne hjk with q | q
    · have := (bef_sound (hord k hk j q)).lt hlt; omega
    · have := (bef_sound (hord j hj k q)).lt hlt; omega
  have hlb : ∀ i, opAt (befN l c) i = if i < c then noOp else opAt l i := fun i => befN_at i
  intro ops hl hpg a w ρ S ha μ0 ρ0 S0 w0 hst listed hs0 hl0
  have c0 : (ps.filter fun k => decide (k < c)).length = 0 := by
    have := count_le (X := fun k => decide (k < c)) (ps := ps) (k := 0) fun j _ hj => decide_eq_false (by have := (hin' j hj).1; omega)
    omega
  have cm : (ps.filter fun k => decide (k < m)).length = ps.length := by
    have h1 := count_ge (X := fun k => decide (k < m)) (ps := ps) (k := ps.length) (Nat.le_refl _) fun j hj => decide_eq_true (hin' j hj).2
    have h2 := List.length_filter_le (fun k => decide (k < m)) ps
    omega
  have gE : ∀ t, getE env t = gX (befN l c) m R env (fun k => decide (k < c)) t := fun t => by
    rw [← gX_envAt hcm t, envAt_skip c (Nat.le_refl _)]
  refine any_abs (l := l) (lb := befN l c) (env0 := env) (R := R) (M := fun X => ν (ps.filter X).length) c m hlb hok hl hpg (fun X Y hXY => ?_) (fun t => gX_envAt (Nat.le_refl _) t) ?_ (by rw [cm]; exact h) (ρ := ρ) (S := S)
    ⟨by rw [c0]; exact ha.mu, ha.size, ha.defers, fun t => by rw [← gE, c0]; exact ha.env t⟩ (by rw [c0]; exact hst) listed hs0 hl0
  · have : ps.filter X = ps.filter Y := List.filter_congr fun p hp => by
      have := hin p hp
      exact hXY p this.1 this.2
    simp only [this]
  · intro X i o s N a w ρ S hci hi ho hs hcomp hXi hbef hbef2 hdep hafter hread hnext hG hsb hN
    rw [hlb, if_neg (by omega)] at hs
    have hlk : ∀ t ∈ looks s, getE (envAt (befN l c) R env i) t = getE ((looks s).map fun t => (t, gX (befN l c) m R env X t)) t := fun t ht => by
      rw [getE_map, if_pos ht, hread t ht]
      exact gX_envAt (Nat.le_of_lt hi) t
    have hguard : ∀ b, wantA s.guard (envAt (befN l c) R env i) = some b → wantA s.guard ((looks s).map fun t => (t, gX (befN l c) m R env X t)) = some b := fun b hg => by
      unfold wantA at hg ⊢
      split
      · rename_i hgd
        rw [hgd] at hg
        exact hg
      · rename_i t bb hgd
        rw [hgd] at hg
        simp only at hg
        rw [hlk t (by simp [looks, hgd])] at hg
        exact hg
    have hev : ∀ u ∈ opnds s.op, evX (envAt (befN l c) R env i) u = evX ((looks s).map fun t => (t, gX (befN l c) m R env X t)) u := fun u hu => by
      cases u with
      | c z => rfl
      | t u => exact hlk u (by unfold looks; exact List.mem_append_right _ (by unfold tmpsOf; exact List.mem_filterMap.2 ⟨.t u, hu, rfl⟩))
    by_cases hip : i ∈ ps
    · obtain ⟨k, hk, rfl⟩ := mem_getD0 hip
      have hX1 : ∀ j, j < k → X (ps.getD j 0) = true := fun j hj => hbef _ (bef_sound (hord k hk j hj))
      have hX2 : ∀ j, k < j → j < ps.length → X (ps.getD j 0) = false := fun j hj hjl => hbef2 _ (bef_sound (hord j hjl k hj))
      have e1 : (ps.filter X).length = k := by
        have h1 := count_ge (X := X) (ps := ps) (k := k) (Nat.le_of_lt hk) hX1
        have h2 := count_le (X := X) (ps := ps) (k := k) fun j hj hjl => by
          rcases Nat.lt_or_eq_of_le hj with q | q
          · exact hX2 j q hjl
          · subst q; exact hXi
        omega
      have e2 : (ps.filter fun q => X q || decide (q = ps.getD k 0)).length = k + 1 := by
        have h1 := count_ge (X := fun q => X q || decide (q = ps.getD k 0)) (ps := ps) (k := k + 1) hk fun j hj => by
          rcases Nat.lt_or_eq_of_le (Nat.le_of_lt_succ hj) with q | q
          · simp only [hX1 j q, Bool.true_or]
          · subst q; simp
        have h2 := count_le (X := fun q => X q || decide (q = ps.getD k 0)) (ps := ps) (k := k + 1) fun j hj hjl => by
          simp only [hX2 j (by omega) hjl, Bool.false_or, decide_eq_false_iff_not]
          exact hne j k hjl hk (by omega)
        omega
      have hek := he k hk
      rw [hs] at hek
      obtain ⟨hg, hop⟩ := hek
      have hg := hguard _ hg
      change GRep K F ρ S _ (ν (ps.filter X).length) a w at hG
      change SB F.b μ0 ρ0 S0 w0 (ν (ps.filter X).length) ρ S w at hsb
      rw [e1] at hG hsb
      have hN' : ∀ a' w' ρ' S', GRep K F ρ' S' (gX (befN l c) m R env fun q => X q || decide (q = ps.getD k 0)) (ν (k + 1)) a' w' → SB F.b μ0 ρ0 S0 w0 (ν (k + 1)) ρ' S' w' → N a' w' := fun a' w' ρ' S' g1 g2 => hN a' w' ρ' S' (by
        show GRep K F ρ' S' _ (ν (ps.filter fun q => X q || decide (q = ps.getD k 0)).length) a' w'
        rw [e2]; exact g1) (by
        show SB F.b μ0 ρ0 S0 w0 (ν (ps.filter fun q => X q || decide (q = ps.getD k 0)).length) ρ' S' w'
        rw [e2]; exact g2)
      rcases hop with hop | ⟨f, args, hcl, hac⟩
      · rw [sopA_congr hev] at hop
        exact step_any ho hcomp hsb hG hnext (x := R (ps.getD k 0)) (μ1 := ν (k + 1)) (l := l) (.inl ⟨hg, hop⟩) hN'
      · rw [callee_congr hev] at hcl
        exact step_eff ho hcomp hsb hG hnext hg hcl hac hN'
    · have e2 : (ps.filter fun q => X q || decide (q = i)) = ps.filter X := List.filter_congr fun p hp => by
        have : p ≠ i := fun e => hip (e ▸ hp)
        simp [this]
      have hop := hq i hci hi hip (ps.filter X).length (List.length_filter_le _ _) (fun k hk hb => by
        have := count_ge (X := X) (ps := ps) (k := k + 1) hk fun j hj => by
          rcases Nat.lt_or_eq_of_le (Nat.le_of_lt_succ hj) with q | q
          · exact hbef _ (Bef.tr (bef_sound (hord k hk j q)) (bef_sound hb))
          · subst q; exact hbef _ (bef_sound hb)
        omega) (fun k hk hb => by
        have := count_le (X := X) (ps := ps) (k := k) fun j hj hjl => by
          rcases Nat.lt_or_eq_of_le hj with q | q
          · exact hbef2 _ (Bef.tr (bef_sound hb) (bef_sound (hord j hjl k q)))
          · subst q; exact hbef2 _ (bef_sound hb)
        omega)
      rw [hs] at hop
      have hop := hop.congr hlk
      refine step_any ho hcomp hsb hG hnext (x := R i) (μ1 := ν (ps.filter X).length) (l := l) ?_ fun a' w' ρ' S' g1 g2 => hN a' w' ρ' S' (by
        show GRep K F ρ' S' _ (ν (ps.filter fun q => X q || decide (q = i)).length) a' w'
        rw [e2]; exact g1) (by
        show SB F.b μ0 ρ0 S0 w0 (ν (ps.filter fun q => X q || decide (q = i)).length) ρ' S' w'
        rw [e2]; exact g2)
      rcases hop with ⟨q1, q2, q3⟩ | ⟨q1, q2⟩ | ⟨q1, f', xs, q2, q3⟩
      · exact .inl ⟨q1, q3⟩
      · exact .inr (.inl ⟨q1, q2, rfl⟩)
      · exact .inr (.inr ⟨q1, rfl, f', xs, q2, by have := q3 []; simpa using this⟩)
/-- The entries of a map in another order. -/
theorem RepMu.permMap {ρ S μ w} {es es' : List (AV × AV)} (h : RepMu K ρ S (μ ++ [.map es]) w) (hp : es.Perm es') : RepMu K ρ S (μ ++ [.map es']) w ∧ Stab (μ ++ [.map es]) ρ S w (μ ++ [.map es']) ρ S w := by
  have st : Stab (μ ++ [.map es]) ρ S w (μ ++ [.map es']) ρ S w := by
    refine ⟨fun _ h => h, fun _ _ => rfl, fun i o hi => ?_, Nat.le_refl _, fun b h1 h2 => ⟨h2, h1⟩, fun b _ h1 h2 => ⟨rfl, h1, fun i o c hi hne => ?_⟩⟩
    · by_cases hlt : i < μ.length
      · rw [List.getElem?_append_left hlt] at hi
        exact ⟨o, by rw [List.getElem?_append_left hlt]; exact hi, ObjTo.refl o _⟩
      · have hii := (List.getElem?_eq_some_iff.1 hi).1
        simp at hii
        have : i = μ.length := by omega
        subst this
        simp at hi
        subst hi
        exact ⟨.map es', by simp, rfl⟩
    · by_cases hlt : i < μ.length
      · rw [List.getElem?_append_left hlt] at hi
        exact h2 i o c (by rw [List.getElem?_append_left hlt]; exact hi) hne
      · have hii := (List.getElem?_eq_some_iff.1 hi).1
        simp at hii
        have : i = μ.length := by omega
        subst this
        exact h2 μ.length (.map es) c (by simp) (by simp)
  refine ⟨h.next h.below h.st h.own st (fun i o hi => ?_) (fun i i' o o' B c c' hi hi' hne hne' hb hb' => ?_), st⟩
  · by_cases hlt : i < μ.length
    · rw [List.getElem?_append_left hlt] at hi
      have hi0 : (μ ++ [AObj.map es])[i]? = some o := by rw [List.getElem?_append_left hlt]; exact hi
      refine .inl ⟨hi0, rfl, fun B c hB hne => ⟨(h.blk hi0 hne hB).2.1, rfl⟩⟩
    · have hii := (List.getElem?_eq_some_iff.1 hi).1
      simp at hii
      have : i = μ.length := by omega
      subst this
      simp at hi
      subst hi
      right
      obtain ⟨B, cap, ents, clock, h1, h2, h3, h4, es2, h7, h5, h6⟩ := h.ob μ.length (.map es) (by simp)
      refine ⟨B, cap, ents, clock, h1, h2, h3, h4, es2, h7.trans hp, h5, fun k a b hk => ?_⟩
      obtain ⟨en, e1, e2, e3⟩ := h6 k a b hk
      exact ⟨en, e1, e2, e3.stab st⟩
  · have back : ∀ (j : Nat) (o : AObj), (μ ++ [AObj.map es'])[j]? = some o → o ≠ .gone → ∃ o2, (μ ++ [AObj.map es])[j]? = some o2 ∧ o2 ≠ .gone := fun j o hj hn => by
      by_cases hlt : j < μ.length
      · rw [List.getElem?_append_left hlt] at hj
        exact ⟨o, by rw [List.getElem?_append_left hlt]; exact hj, hn⟩
      · have hii := (List.getElem?_eq_some_iff.1 hj).1
        simp at hii
        have : j = μ.length := by omega
        subst this
        exact ⟨.map es, by simp, by simp⟩
    obtain ⟨o2, a1, a2⟩ := back i o hi hne
    obtain ⟨o3, a3, a4⟩ := back i' o' hi' hne'
    exact h.inj i i' o2 o3 B c c' a1 a3 a2 a4 hb hb'
theorem filter_or {ps : List Nat} (hn : ps.Nodup) {X : Nat → Bool} {i : Nat} (hi : i ∈ ps) (hX : X i = false) : (ps.filter fun k => X k || decide (k = i)).Perm (ps.filter X ++ [i]) := by
  induction ps with
  | nil => cases hi
  | cons p ps ih =>
    obtain ⟨n1, n2⟩ := List.nodup_cons.1 hn
    rcases List.mem_cons.1 hi with rfl | hi
    · have e : (ps.filter fun k => X k || decide (k = i)) = ps.filter X := List.filter_congr fun k hk => by
        have : k ≠ i := fun e => n1 (e ▸ hk)
        simp [this]
      rw [List.filter_cons, List.filter_cons, if_pos (by simp), if_neg (by simp [hX]), e]
      have : (i :: ps.filter X) = [i] ++ ps.filter X := rfl
      rw [this]
      exact List.perm_append_comm
    · have hpi : p ≠ i := fun e => n1 (e ▸ hi)
      have e : (X p || decide (p = i)) = X p := by simp [hpi]
      rw [List.filter_cons, List.filter_cons, e]
      cases hx : X p with
      | true => simpa using (ih n2 hi)
      | false => simpa using (ih n2 hi)
/-- A window in which a map is laid and filled, entry by entry, in whatever order. -/
theorem any_puts {l : List SOper} {pre : List (List Nat)} {env : List (Nat × AV)} {μ : List AObj} (c m p0 d0 : Nat) (ps : List Nat) (kv : Nat → AV × AV) (agg : Bool) (lk : List (Nat × LK)) (R : Nat → AV) (hok : winOK l pre c m = true) (hcp : c ≤ p0) (hpm : p0 < m)
    (hin : ∀ i ∈ ps, (c ≤ i ∧ i < m) ∧ bef pre p0 i = true) (hnd : ps.Nodup) (h0 : opAt l p0 = ⟨some d0, none, .mkM⟩) (hR0 : R p0 = .mp μ.length)
    (hput : ∀ i ∈ ps, ∃ a b, opAt l i = ⟨none, none, .putM agg lk (.t d0) a b⟩ ∧ evX (envAt (befN l c) R env i) (.t d0) = .mp μ.length ∧ evX (envAt (befN l c) R env i) a = (kv i).1 ∧ evX (envAt (befN l c) R env i) b = (kv i).2 ∧ R i = .dead)
    (hkey : ∀ i ∈ ps, keyOK agg lk (kv i).1 = true) (hdis : ∀ i ∈ ps, ∀ j ∈ ps, i ≠ j → eqA lk (cellsOf (kv i).1) (cellsOf (kv j).1) = some false)
    (hq : ∀ i, c ≤ i → i < m → i ≠ p0 → i ∉ ps → ∀ β, QOp K (opAt l i) (envAt (befN l c) R env i) β (R i))
    (h : AnyC K F Q l pre m ⟨envAt (befN l c) R env m, μ ++ [.map (ps.map kv)]⟩) : AnyC K F Q l pre c ⟨env, μ⟩ := by
  have hcm : c ≤ m := by omega
  have hlb : ∀ i, opAt (befN l c) i = if i < c then noOp else opAt l i := fun i => befN_at i
  have hlt : ∀ (i : Nat) qs p, pre[i]? = some qs → p ∈ qs → p < i := by
    have := hok
    simp only [winOK, Bool.and_eq_true, decide_eq_true_eq, List.all_eq_true, List.mem_range] at this
    intro i qs p hi hp
    have hil : i < l.length := by rw [← this.1.1.1.1.1]; exact (List.getElem?_eq_some_iff.1 hi).1
    have h2 := this.1.1.2 i hil
    rw [List.getD_eq_getElem?_getD, hi] at h2
    exact h2 p hp
  have hp0 : p0 ∉ ps := fun q => by have := (bef_sound (hin p0 q).2).lt hlt; omega
  intro ops hl hpg a w ρ S ha μ0 ρ0 S0 w0 hst listed hs0 hl0
  obtain ⟨M, hMd⟩ : ∃ M : (Nat → Bool) → List AObj, M = fun X => if X p0 = true then μ ++ [.map ((ps.filter X).map kv)] else μ := ⟨_, rfl⟩
  have c0 : M (fun k => decide (k < c)) = μ := by rw [hMd]; simp only; rw [if_neg (by simp; omega)]
  have cm : M (fun k => decide (k < m)) = μ ++ [.map (ps.map kv)] := by
    rw [hMd]; simp only
    rw [if_pos (by simp; omega), List.filter_eq_self.2 fun i hi => by simpa using (hin i hi).1.2]
  have gE : ∀ t, getE env t = gX (befN l c) m R env (fun k => decide (k < c)) t := fun t => by
    rw [← gX_envAt hcm t, envAt_skip c (Nat.le_refl _)]
  refine any_abs (l := l) (lb := befN l c) (env0 := env) (R := R) (M := M) c m hlb hok hl hpg (fun X Y hXY => ?_) (fun t => gX_envAt (Nat.le_refl _) t) ?_ (by rw [cm]; exact h) (ρ := ρ) (S := S)
    ⟨by rw [c0]; exact ha.mu, ha.size, ha.defers, fun t => by rw [← gE, c0]; exact ha.env t⟩ (by rw [c0]; exact hst) listed hs0 hl0
  · have : ps.filter X = ps.filter Y := List.filter_congr fun p hp => hXY p (hin p hp).1.1 (hin p hp).1.2
    rw [hMd]; simp only [this, hXY p0 hcp hpm]
  · intro X i o s N a w ρ S hci hi ho hs hcomp hXi hbef hbef2 hdep hafter hread hnext hG hsb hN
    rw [hlb, if_neg (by omega)] at hs
    have hlk : ∀ t ∈ looks s, getE (envAt (befN l c) R env i) t = getE ((looks s).map fun t => (t, gX (befN l c) m R env X t)) t := fun t ht => by
      rw [getE_map, if_pos ht, hread t ht]
      exact gX_envAt (Nat.le_of_lt hi) t
    have hev : ∀ u ∈ opnds s.op, evX (envAt (befN l c) R env i) u = evX ((looks s).map fun t => (t, gX (befN l c) m R env X t)) u := fun u hu => by
      cases u with
      | c z => rfl
      | t u => exact hlk u (by unfold looks; exact List.mem_append_right _ (by unfold tmpsOf; exact List.mem_filterMap.2 ⟨.t u, hu, rfl⟩))
    by_cases hip0 : i = p0
    · subst hip0
      rw [h0] at hs
      subst hs
      have e1 : M X = μ := by rw [hMd]; simp only; rw [if_neg (by simp [hXi])]
      have e2 : M (fun k => X k || decide (k = i)) = μ ++ [.map []] := by
        rw [hMd]; simp only
        rw [if_pos (by simp)]
        have : (ps.filter fun k => X k || decide (k = i)) = [] := List.filter_eq_nil_iff.2 fun k hk => by
          have h1 : X k = false := hbef2 k (bef_sound (hin k hk).2)
          have h2 : k ≠ i := fun e => hp0 (e ▸ hk)
          simp [h1, h2]
        rw [this]; rfl
      rw [e1] at hG hsb
      exact step_any ho hcomp hsb hG hnext (x := R i) (μ1 := μ ++ [.map []]) (l := l) (.inl ⟨rfl, by rw [hR0]; rfl⟩) fun a' w' ρ' S' g1 g2 => hN a' w' ρ' S' (by rw [e2]; exact g1) (by rw [e2]; exact g2)
    · by_cases hip : i ∈ ps
      · obtain ⟨a0, b0, q1, q2, q3, q4, q5⟩ := hput i hip
        have hXp : X p0 = true := hbef p0 (bef_sound (hin i hip).2)
        have e1 : M X = μ ++ [.map ((ps.filter X).map kv)] := by rw [hMd]; simp only; rw [if_pos hXp]
        have e2 : M (fun k => X k || decide (k = i)) = μ ++ [.map ((ps.filter fun k => X k || decide (k = i)).map kv)] := by
          rw [hMd]; simp only; rw [if_pos (by simp [hXp])]
        have hpm' : (((ps.filter X).map kv) ++ [((kv i).1, (kv i).2)]).Perm ((ps.filter fun k => X k || decide (k = i)).map kv) := by
          have := ((filter_or hnd hip hXi).map kv).symm
          rwa [List.map_append] at this
        rw [q1] at hs
        subst hs
        rw [e1] at hG hsb
        have hno : ∀ p ∈ (ps.filter X).map kv, eqA lk (cellsOf (kv i).1) (cellsOf p.1) = some false := fun p hp => by
          obtain ⟨j, hj, rfl⟩ := List.mem_map.1 hp
          obtain ⟨hj1, hj2⟩ := List.mem_filter.1 hj
          exact hdis i hip j hj1 fun e => by subst e; rw [hXi] at hj2; cases hj2
        have hop : sopA (SOp.putM agg lk (.t d0) a0 b0) (envAt (befN l c) R env i) (μ ++ [.map ((ps.filter X).map kv)]) = some (.dead, μ ++ [.map ((ps.filter X).map kv ++ [((kv i).1, (kv i).2)])]) := by
          simp only [sopA, q2, q3, q4, putMA]
          rw [List.getElem?_append_right (Nat.le_refl _), Nat.sub_self]
          simp only [List.getElem?_cons_zero]
          rw [if_pos ⟨⟨hkey i hip, List.all_eq_true.2 fun p hp => by
            obtain ⟨j, hj, rfl⟩ := List.mem_map.1 hp
            exact hkey j (List.mem_filter.1 hj).1⟩, by
            unfold oneA
            rw [Bool.and_eq_true, List.all_eq_true]
            refine ⟨fun p hp => by rw [hno p hp]; rfl, ?_⟩
            have : ((ps.filter X).map kv).countP (fun p => eqA lk (cellsOf (kv i).1) (cellsOf p.1) == some true) = 0 := List.countP_eq_zero.2 fun p hp => by rw [hno p hp]; simp
            rw [this]; rfl⟩, findA_of_none hno]
          simp
        rw [sopA_congr hev] at hop
        refine step_any ho hcomp hsb hG hnext (x := R i) (μ1 := μ ++ [.map ((ps.filter X).map kv ++ [((kv i).1, (kv i).2)])]) (l := l) (.inl ⟨rfl, by rw [q5]; exact hop⟩) fun a' w' ρ' S' g1 g2 => ?_
        obtain ⟨m1, m2⟩ := g1.mu.permMap hpm'
        exact hN a' w' ρ' S' (by rw [e2]; exact ⟨m1, g1.size, g1.defers.stab m2, fun t => (g1.env t).stab m2⟩) (by rw [e2]; exact g2.trans m2)
      · have e2 : M (fun k => X k || decide (k = i)) = M X := by
          have : (ps.filter fun q => X q || decide (q = i)) = ps.filter X := List.filter_congr fun p hp => by
            have : p ≠ i := fun e => hip (e ▸ hp)
            simp [this]
          rw [hMd]; simp only [this]
          have h2 : (X p0 || decide (p0 = i)) = X p0 := by simp [Ne.symm hip0]
          rw [h2]
        have hop := hq i hci hi hip0 hip (M X)
        rw [hs] at hop
        have hop := hop.congr hlk
        refine step_any ho hcomp hsb hG hnext (x := R i) (μ1 := M X) (l := l) ?_ fun a' w' ρ' S' g1 g2 => hN a' w' ρ' S' (by rw [e2]; exact g1) (by rw [e2]; exact g2)
        rcases hop with ⟨q1, q2, q3⟩ | ⟨q1, q2⟩ | ⟨q1, f', xs, q2, q3⟩
        · exact .inl ⟨q1, q3⟩
        · exact .inr (.inl ⟨q1, q2, rfl⟩)
        · exact .inr (.inr ⟨q1, rfl, f', xs, q2, by have := q3 []; simpa using this⟩)
end rules
end Go.Av
