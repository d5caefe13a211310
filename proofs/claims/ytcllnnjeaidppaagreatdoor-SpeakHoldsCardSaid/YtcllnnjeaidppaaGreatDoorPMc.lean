/- Ranges over functions. -/
import Derived.Test.YtcllnnjeaidppaaGreatDoorPMb
import Derived.RangeFuncSeq
set_option linter.unusedVariables false
set_option linter.unusedSimpArgs false
namespace Go.Av
open Go.RowKit
section rules
variable {K : Ctx} {F : Fcx} {Q : AExit → St → Prop} {μ : List AObj}

/-- A call of the yield of the loop whose record is the object id. -/
def YCalls (K : Ctx) (id : Nat) (args : List AV) (μ : List AObj) (R : AEnd → List AObj → Prop) : Prop :=
  ∀ ρ S w (vs : Array Value), RepMu K ρ S μ w → vs.size = args.length → (∀ (i : Nat) x v, args[i]? = some x → vs[i]? = some v → VR μ ρ S w x v) →
    ∃ l cap, ρ id = some (l, cap) ∧ YieldAt Fence.wide 0 K.P l vs w fun e w' => ∃ ae μ' ρ' S', R ae μ' ∧ EndRel μ' ρ' S' w' ae e ∧ RepMu K ρ' S' μ' w' ∧ Stab μ ρ S w μ' ρ' S' w'

theorem roundIn_Fr {r : Option Nat} {m : Nat} {P : Program} {l f : Nat} {tmps : Array Value} {x y : Code} {w : World} {R : Ending → World → Prop} (h : RoundIn Fence.wide 0 P l f tmps x y w R) : RoundIn (Fr r) m P l f tmps x y w R :=
  ⟨trivial, fun c cs _ => let ⟨e, w', h1, h2⟩ := h.2 c cs (by simp [Fence.wide, Fence.room]); ⟨e, w', h1, h2⟩⟩

theorem semL_yield {σ : St} {g : Option (Nat × Bool)} {d : Option Nat} {id : Nat} {x : SX} {args : List SX} {R : AEnd → List AObj → Prop} {l : List SOper} {c : LoopC} {st : LSt} {e0 : List (Nat × AV)} (hg : wantA g σ.env = some true) (hx : evX σ.env x = .yl id) (hμ : σ.mu[id]? = some (.loop c st e0))
    (hc : YCalls K id (args.map (evX σ.env)) σ.mu R) (h : ∀ ae μ, R ae μ → afterCall K F d l σ Q ae μ) : semL K F (⟨d, g, .dyn x args⟩ :: l) σ Q := by
  intro all k ol hol hcl a w ρ S ha μ0 ρ0 S0 w0 hst
  cases ol with
  | nil => simp [compL] at hcl
  | cons o ol =>
    simp only [compL] at hcl
    split at hcl <;> simp only [Option.some.injEq, List.cons.injEq, reduceCtorEq] at hcl
    rename_i s' l' h1 h2
    obtain ⟨rfl, rfl⟩ := hcl
    obtain ⟨c1, c2, c3, _⟩ := comp_dst h1
    have ho : all[k]? = some o := by have := hol 0 (by simp); simpa using this.symm
    simp only [List.length_cons, List.range'_succ, wpOpsIn, ho, want_sound ha h1 hg, if_true]
    refine ⟨fun _ _ => trivial, ?_⟩
    rw [semAt_plain c1]
    obtain ⟨cl, t, k0, k1', rfl, k1⟩ := comp_dyn c1
    have hcall : execOp a.eval o = (do let d ← Deferred.ofValue (a.eval (.tmp t)) (cl.args.map a.eval); invoke d.target d.args) := by
      obtain ⟨dst, op, type, pos, after, guard⟩ := o
      obtain ⟨callee, cargs, argTypes⟩ := cl
      simp only at k0 k1'
      subst k0
      subst k1'
      rfl
    generalize cl.args = cargs at *
    obtain ⟨l1, l2⟩ := compXs_rel ha.eval _ _ k1
    have hv := ha.eval (.tmp t) (.t t) rfl
    rw [hx] at hv
    obtain ⟨B, cap, hB, fn, tmps, asg, body, y1, y2⟩ := hc ρ S w (cargs.map a.eval) ha.mu (by simpa using l1.symm) (fun i x v p q => l2 i x v p (by simpa using q))
    generalize a.eval (.tmp t) = fv at hv hcall
    have hvv : fv = .func (.yield B) #[] #[] := by
      cases hv with
      | t h' => cases h'
      | yl h3 h4 => rw [hB] at h4; cases h4; rfl
      | ylGone _ h3 => rw [hμ] at h3; cases h3
    rw [hcall, hvv]
    have hrun : (do let d ← Deferred.ofValue (.func (.yield B) #[] #[]) (cargs.map a.eval); invoke d.target d.args : Sem Next).run K.P w = .ok (.round B fn tmps asg body) w := by
      simp [Deferred.ofValue, invoke]; exact y1
    rw [hrun]
    refine ⟨fun h => by simp [Fr, Fence.wide] at h, roundIn_Fr (y2.mono ?_)⟩
    rintro e w' ⟨ae, μ', ρ', S', r1, r2, r3, r4⟩
    cases ae <;> cases e <;> simp only [EndRel] at r2
    · exact h _ _ r1 all (k + 1) ol (fun i hi => by have := hol (i + 1) (by simp; omega); simpa [Nat.add_assoc, Nat.add_comm 1 i] using this) h2 (a.put o.dst _) w' ρ' S' (by have c2' : d = o.dst := c2; rw [c2']; exact ha.put c3 r2 r3 r4) μ0 ρ0 S0 w0 (hst.trans r4)
    · rename_i x chain
      have hq := h _ _ r1
      refine ⟨.panic x, ⟨σ.env, μ'⟩, ρ', S', ?_, hq, ⟨r3, ha.size, ha.defers.stab r4, fun t => (ha.env t).stab r4⟩, hst.trans r4⟩
      match chain, r2 with
      | [⟨v, false, false⟩], r2 => exact r2

/-- A loop's record turns. -/
theorem RepMu.setLoop {ρ S w} (h : RepMu K ρ S μ w) {id B cap : Nat} {c : LoopC} {st st' : LSt} {e : List (Nat × AV)} {rec' : Loop} (ho : μ[id]? = some (.loop c st e)) (hr : ρ id = some (B, cap))
    (hrec : ∀ rec, w.heap[B]? = some (.loop rec) → rec'.params = rec.params ∧ rec'.assign = rec.assign ∧ rec'.body = rec.body ∧ rec'.tmps = rec.tmps)
    (hst : match st' with
      | .ready => rec'.state = .ready ∧ rec'.pending = none
      | .busy => rec'.state = .busy
      | .done cd => rec'.state = .done ∧ rec'.pending = some cd) :
    RepMu K ρ S (μ.set id (.loop c st' e)) (w.putObj B (.loop rec')) ∧ Stab μ ρ S w (μ.set id (.loop c st' e)) ρ S (w.putObj B (.loop rec')) := by
  have hlt := (List.getElem?_eq_some_iff.1 ho).1
  obtain ⟨b1, b2, b3⟩ := h.blk ho (by simp) hr
  obtain ⟨B', cap', rec, h1, h2, h3, h4, h5, h6, h7, h8, h9, h10⟩ := h.ob id _ ho
  rw [hr] at h1; cases h1
  obtain ⟨r1, r2, r3, r4⟩ := hrec rec h4
  have hoth : ∀ b, b ≠ B → (w.putObj B (.loop rec')).heap[b]? = w.heap[b]? := fun b hb => World.putObj_heap_other hb
  have k : Stab μ ρ S w (μ.set id (.loop c st' e)) ρ S (w.putObj B (.loop rec')) := by
    refine ⟨fun _ h => h, fun b hb => hoth b (fun e => b2 (e ▸ hb)), fun i o hi => ?_, by simp, fun b hb hd => ⟨(hoth b (fun e => by rw [e, h4] at hd; cases hd)).trans hd, hb⟩, fun b hlt h1 h2 => ⟨hoth b (fun e => h2 id _ cap ho (by simp) (by rw [hr, e])), h1, h2.set (.inr fun c hc => h2 id _ c ho (by simp) hc)⟩⟩
    by_cases hid : i = id
    · subst hid
      rw [ho] at hi; cases hi
      exact ⟨_, List.getElem?_set_self hlt, rfl, rfl⟩
    · exact ⟨o, by rw [List.getElem?_set_ne (Ne.symm hid)]; exact hi, ObjTo.refl o _⟩
  refine ⟨h.next (h.below.trans ⟨rfl, rfl, rfl, by simp, fun k hk => hoth k (by omega)⟩) (fun b hb => by rw [World.putObj_size]; exact h.st b hb) h.own k (fun i o hi => ?_) ?_, k⟩
  · by_cases hid : i = id
    · subst hid
      rw [List.getElem?_set_self hlt] at hi
      cases hi
      exact .inr ⟨B, cap, rec', hr, h2, h3, World.putObj_heap_same b3, hst, r1.trans h6, by rw [r2]; exact h7, by rw [r3]; exact h8, by rw [r4]; exact h9, fun t => by rw [r4]; exact (h10 t).stab k⟩
    · rw [List.getElem?_set_ne (Ne.symm hid)] at hi
      refine .inl ⟨hi, rfl, fun B' c' hB hne => ?_⟩
      obtain ⟨_, c2, c3⟩ := h.blk hi hne hB
      refine ⟨c2, hoth B' (fun e => hid ?_)⟩
      subst e
      exact h.inj i id o _ B' c' cap hi ho hne (by simp) hB hr
  · intro i i' o o' B' q1' q2' hi hi' hne hne' hB hB'
    have key : ∀ (j : Nat) (o : AObj), (μ.set id (.loop c st' e))[j]? = some o → o ≠ .gone → ∃ p, μ[j]? = some p ∧ p ≠ AObj.gone := by
      intro j o hj hn
      by_cases hid : j = id
      · subst hid; exact ⟨_, ho, by simp⟩
      · rw [List.getElem?_set_ne (Ne.symm hid)] at hj; exact ⟨o, hj, hn⟩
    obtain ⟨p, p1, p2⟩ := key i o hi hne
    obtain ⟨q, q1, q2⟩ := key i' o' hi' hne'
    exact h.inj i i' p q B' q1' q2' p1 q1 p2 q2 hB hB'

/-- Arguments in a loop's slots. -/
def bindPs : List Nat → List AV → List (Nat × AV) → List (Nat × AV)
  | p :: ps, x :: xs, e => bindPs ps xs ((p, x) :: e)
  | _, _, e => e

theorem bindPs_sound {μ ρ S w} {n : Nat} : ∀ (ps : List Nat) (xs : List AV) (vs : List Value) (e : List (Nat × AV)) (tm : Array Value), (∀ p ∈ ps, p < n) → tm.size = n → xs.length = vs.length →
    (∀ (i : Nat) x v, xs[i]? = some x → vs[i]? = some v → VR μ ρ S w x v) → (∀ t, VR μ ρ S w (getE e t) (tm.getD t undef)) →
    ((ps.zip vs).foldl (fun tmps (p : Nat × Value) => tmps.setIfInBounds p.1 p.2) tm).size = n ∧
    ∀ t, VR μ ρ S w (getE (bindPs ps xs e) t) (((ps.zip vs).foldl (fun tmps (p : Nat × Value) => tmps.setIfInBounds p.1 p.2) tm).getD t undef)
  | [], xs, vs, e, tm, _, hs, _, _, h => ⟨by simpa using hs, by simpa [bindPs] using h⟩
  | p :: ps, [], [], e, tm, _, hs, _, _, h => ⟨by simpa using hs, by simpa [bindPs] using h⟩
  | p :: ps, x :: xs, v :: vs, e, tm, hp, hs, hl, hv, h => by
    have hlt : p < tm.size := by rw [hs]; exact hp p (by simp)
    simp only [bindPs, List.zip_cons_cons, List.foldl_cons]
    refine bindPs_sound ps xs vs _ _ (fun q hq => hp q (by simp [hq])) (by simp [hs]) (by simpa using hl) (fun i x v a b => hv (i + 1) x v (by simpa using a) (by simpa using b)) fun t => ?_
    simp only [getE_cons, Array.getD_eq_getD_getElem?]
    split
    · rename_i h'; subst h'
      rw [Array.getElem?_setIfInBounds_self_of_lt hlt]
      exact hv 0 x v rfl rfl
    · rename_i h'
      have := h t
      simp only [Array.getD_eq_getD_getElem?] at this
      rw [Array.getElem?_setIfInBounds_ne h']
      exact this

/-- What a round must come to. -/
def roundQ (id : Nat) (R : AEnd → List AObj → Prop) : AExit → St → Prop
  | .normal, σ => ∃ c e, σ.mu[id]? = some (.loop c .busy e) ∧ R (.ret (.bool true)) (σ.mu.set id (.loop c .ready e))
  | .ret, σ => ∃ c e, σ.mu[id]? = some (.loop c .busy e) ∧ R (.ret (.bool false)) (σ.mu.set id (.loop c (.done .ret) e))
  | .exit k, σ => ∃ c e, σ.mu[id]? = some (.loop c .busy e) ∧ R (.ret (.bool false)) (σ.mu.set id (.loop c (.done (.exit k)) e))
  | .panic _, _ => False

/-- Behind the assignment the record is busy, and the body begins. -/
def asgQ (K : Ctx) (F : Fcx) (id : Nat) (b : SCode) (R : AEnd → List AObj → Prop) : AExit → St → Prop
  | .normal, σ => ∃ c e, σ.mu[id]? = some (.loop c .ready e) ∧ sem K F b ⟨σ.env, σ.mu.set id (.loop c .busy e)⟩ (roundQ id R)
  | _, _ => False

theorem zip_foldl {n : Nat} (ps : Array Nat) (vs : Array Value) (tm : Array Value) : (ps.zip vs).foldl (fun tmps (p : Nat × Value) => tmps.setIfInBounds p.1 p.2) tm = (ps.toList.zip vs.toList).foldl (fun tmps (p : Nat × Value) => tmps.setIfInBounds p.1 p.2) tm := by
  rw [← Array.foldl_toList, Array.toList_zip]

theorem Stab.loop_at {μ ρ S w μ' ρ' S' w'} (k : Stab μ ρ S w μ' ρ' S' w') {id : Nat} {c c' : LoopC} {st st' e e'} (h : μ[id]? = some (.loop c st e)) (h' : μ'[id]? = some (.loop c' st' e')) : ρ' id = ρ id ∧ c' = c := by
  obtain ⟨o, o1, o2⟩ := k.obj id _ h
  rw [h'] at o1; cases o1
  exact o2

/-- One round, from the triples of its texts. -/
theorem ycalls_of_sem {id : Nat} {c : LoopC} {args : List AV} {R : AEnd → List AObj → Prop} {env0 : List (Nat × AV)} (ho : μ[id]? = some (.loop c .ready env0)) (hl : c.ps.length = args.length) (hp : ∀ p ∈ c.ps, p < c.n)
    (h : ∀ l, sem K ⟨some l, c.n, 0, μ.length, some []⟩ c.sa ⟨bindPs c.ps args env0, μ⟩ (asgQ K ⟨some l, c.n, 0, μ.length, some []⟩ id c.sb R)) : YCalls K id args μ R := by
  intro ρ S w vs hm hs hv
  obtain ⟨B, cap, rec, r1, r2, r3, r4, r5, r6, r7, r8, r9, r10⟩ := hm.ob id _ ho
  refine ⟨B, cap, r1, rec.fn, _, rec.assign, rec.body, run_yield r4 (by rw [r6]; simp; omega), ?_⟩
  refine roundIn_of_wpIn trivial ?_
  have hz := bindPs_sound (n := c.n) c.ps args vs.toList env0 rec.tmps hp r9 (by simpa using hs.symm) (fun i x v a b => hv i x v a (by simpa using b)) r10
  have hz' : (rec.params.zip vs).foldl (fun tmps (x : Tmp × Value) => match x with | (t, a) => tmps.setIfInBounds t a) rec.tmps = (c.ps.zip vs.toList).foldl (fun tmps (p : Nat × Value) => tmps.setIfInBounds p.1 p.2) rec.tmps := by
    rw [r6]
    have := zip_foldl (n := c.n) c.ps.toArray vs rec.tmps
    simpa using this
  rw [hz']
  have ha : ARep K ⟨some B, c.n, 0, μ.length, some []⟩ ρ S ⟨bindPs c.ps args env0, μ⟩ { tmps := (c.ps.zip vs.toList).foldl (fun tmps (p : Nat × Value) => tmps.setIfInBounds p.1 p.2) rec.tmps, defers := [] } w :=
    ⟨hm, hz.1, ⟨Nat.zero_le _, fun _ => rfl, fun t ht => ⟨[], by cases ht; rfl, List.nodup_nil, by simp⟩⟩, hz.2⟩
  refine wpIn_mono (h B rec.assign r7 _ w ρ S ha μ ρ S w ⟨Nat.le_refl _, Stab.refl _ _ _ _⟩) fun e a1 w1 hq => ?_
  obtain ⟨ae, σ1, ρ1, S1, x1, x2, x3, x4⟩ := hq
  cases ae <;> cases e <;> simp only [ExRel] at x1 <;> try (exact x2.elim)
  obtain ⟨c', e1, y1, y2⟩ := x2
  obtain ⟨hρ1, -⟩ := x4.stab.loop_at ho y1
  rw [r1] at hρ1
  obtain ⟨B', cap', rec1, s1, s2, s3, s4, s5, s6, s7, s8, s9, s10⟩ := x3.mu.ob id _ y1
  rw [hρ1] at s1; cases s1
  refine ⟨_, run_beginRound s4 s5.1, ?_⟩
  obtain ⟨m1, m2⟩ := x3.mu.setLoop (st' := .busy) (rec' := { rec1 with state := .busy }) y1 hρ1 (fun rec h => by rw [s4] at h; cases h; exact ⟨rfl, rfl, rfl, rfl⟩) rfl
  have ha2 : ARep K ⟨some B, c.n, 0, μ.length, some []⟩ ρ1 S1 ⟨σ1.env, σ1.mu.set id (.loop c' .busy e1)⟩ a1 (w1.putObj B (.loop { rec1 with state := .busy })) :=
    ⟨m1, x3.size, x3.defers.stab m2, fun t => (x3.env t).stab m2⟩
  refine wpIn_mono (y2 rec.body r8 a1 _ ρ1 S1 ha2 μ ρ S w (x4.trans m2)) fun e a2 w2 hq => ?_
  obtain ⟨ae, σ2, ρ2, S2, z1, z2, z3, z4⟩ := hq
  have fin : ∀ c2 e2 (jump : Option Code) (st' : LSt) (bv : Bool), σ2.mu[id]? = some (.loop c2 .busy e2) → bv = jump.isNone → (match st' with | .ready => jump = none | .busy => False | .done cd => jump = some cd) →
      R (.ret (.bool bv)) (σ2.mu.set id (.loop c2 st' e2)) → ∃ v w', (Instr.endRound B jump).run K.P w2 = .ok v w' ∧ ∃ ae μ' ρ' S', R ae μ' ∧ EndRel μ' ρ' S' w' ae (.returned v) ∧ RepMu K ρ' S' μ' w' ∧ Stab μ ρ S w μ' ρ' S' w' := by
    intro c2 e2 jump st' bv hb hbv hst hR
    obtain ⟨hρ2, -⟩ := z4.stab.loop_at ho hb
    rw [r1] at hρ2
    obtain ⟨B', cap', rec2, t1, t2, t3, t4, t5, t6, t7, t8, t9, t10⟩ := z3.mu.ob id _ hb
    rw [hρ2] at t1; cases t1
    refine ⟨_, _, run_endRound jump t4, ?_⟩
    obtain ⟨m3, m4⟩ := z3.mu.setLoop (st' := st') (rec' := { rec2 with state := if jump.isNone then .ready else .done, pending := jump }) hb hρ2 (fun rec h => by rw [t4] at h; cases h; exact ⟨rfl, rfl, rfl, rfl⟩)
      (by cases st' with
        | ready => simp only at hst; subst hst; exact ⟨rfl, rfl⟩
        | busy => exact hst.elim
        | done cd => simp only at hst; subst hst; exact ⟨rfl, rfl⟩)
    exact ⟨_, _, ρ2, S2, hR, by rw [hbv]; exact .t (.bool _), m3, z4.stab.trans m4⟩
  cases ae <;> cases e <;> simp only [ExRel] at z1 <;> try (exact z2.elim)
  · obtain ⟨c2, e2, k1, k2⟩ := z2
    exact fin c2 e2 none .ready true k1 rfl rfl k2
  · subst z1
    obtain ⟨c2, e2, k1, k2⟩ := z2
    exact fin c2 e2 (some (.exit _)) (.done (.exit _)) false k1 rfl rfl k2
  · obtain ⟨c2, e2, k1, k2⟩ := z2
    exact fin c2 e2 (some .ret) (.done .ret) false k1 rfl rfl k2

/-- What the iterator's end means for the frame. -/
def rngQ (env : List (Nat × AV)) (id : Nat) (Q : AExit → St → Prop) : AEnd → List AObj → Prop
  | .ret _, μ => ∃ c st e, μ[id]? = some (.loop c st e) ∧
    (match st with
      | .ready => Q .normal ⟨env, μ.set id .gone⟩
      | .busy => False
      | .done cd => (cd = .ret ∧ Q .ret ⟨env, μ.set id .gone⟩) ∨ ∃ k, cd = .exit k ∧ Q (.exit k) ⟨env, μ.set id .gone⟩)
  | .panic x, μ => Q (.panic x) ⟨env, μ⟩

/-- A new record of a loop. -/
theorem RepMu.allocLoop {ρ S w} (h : RepMu K ρ S μ w) (c : LoopC) (env : List (Nat × AV)) (rec : Loop) (h1 : rec.state = .ready ∧ rec.pending = none) (h2 : rec.params = c.ps.toArray) (h3 : compC K.P c.n rec.assign = some c.sa) (h4 : compC K.P c.n rec.body = some c.sb) (h5 : rec.tmps.size = c.n)
    (hv : ∀ t, VR μ ρ S w (getE env t) (rec.tmps.getD t undef)) :
    RepMu K (fun i => if i = μ.length then some (w.heap.size, 0) else ρ i) S (μ ++ [.loop c .ready env]) (w.alloc (.loop rec)) ∧
    Stab μ ρ S w (μ ++ [.loop c .ready env]) (fun i => if i = μ.length then some (w.heap.size, 0) else ρ i) S (w.alloc (.loop rec)) :=
  h.allocO _ _ 0 fun ρ' hr k => ⟨w.heap.size, 0, rec, hr, h.size, fun hs => Nat.lt_irrefl _ (h.st _ hs), heap_alloc_new w _, h1, h2, h3, h4, h5, fun t => (hv t).stab k⟩

/-- A record of a loop that has ended is given up. -/
theorem RepMu.dropLoop {ρ S w} (h : RepMu K ρ S μ w) {id B cap : Nat} {c : LoopC} {st : LSt} {e : List (Nat × AV)} (ho : μ[id]? = some (.loop c st e)) (hr : ρ id = some (B, cap)) (o : Obj) :
    RepMu K ρ S (μ.set id .gone) (w.putObj B o) ∧ Stab μ ρ S w (μ.set id .gone) ρ S (w.putObj B o) := by
  have hlt := (List.getElem?_eq_some_iff.1 ho).1
  obtain ⟨b1, b2, b3⟩ := h.blk ho (by simp) hr
  obtain ⟨B', cap', rec, h1, h2, h3, h4, _⟩ := h.ob id _ ho
  rw [hr] at h1; cases h1
  have hoth : ∀ b, b ≠ B → (w.putObj B o).heap[b]? = w.heap[b]? := fun b hb => World.putObj_heap_other hb
  have k : Stab μ ρ S w (μ.set id .gone) ρ S (w.putObj B o) := by
    refine ⟨fun _ h => h, fun b hb => hoth b (fun e => b2 (e ▸ hb)), fun i o hi => ?_, by simp, fun b hb hd => ⟨(hoth b (fun e => by rw [e, h4] at hd; cases hd)).trans hd, hb⟩, fun b hlt h1 h2 => ⟨hoth b (fun e => h2 id _ cap ho (by simp) (by rw [hr, e])), h1, h2.set (.inr fun c hc => h2 id _ c ho (by simp) hc)⟩⟩
    by_cases hid : i = id
    · subst hid
      rw [ho] at hi; cases hi
      exact ⟨_, List.getElem?_set_self hlt, trivial⟩
    · exact ⟨o, by rw [List.getElem?_set_ne (Ne.symm hid)]; exact hi, ObjTo.refl o _⟩
  have key : ∀ (j : Nat) (o : AObj), (μ.set id .gone)[j]? = some o → o ≠ .gone → j ≠ id ∧ μ[j]? = some o := by
    intro j o hj hn
    by_cases hid : j = id
    · subst hid; rw [List.getElem?_set_self hlt] at hj; cases hj; exact absurd rfl hn
    · rw [List.getElem?_set_ne (Ne.symm hid)] at hj; exact ⟨hid, hj⟩
  refine ⟨h.next (h.below.trans ⟨rfl, rfl, rfl, by simp, fun k hk => hoth k (by omega)⟩) (fun b hb => by rw [World.putObj_size]; exact h.st b hb) h.own k (fun i o hi => ?_) ?_, k⟩
  · by_cases hg : o = .gone
    · subst hg; exact .inr trivial
    · obtain ⟨hid, hi'⟩ := key i o hi hg
      refine .inl ⟨hi', rfl, fun B' c' hB hne => ?_⟩
      obtain ⟨_, c2, c3⟩ := h.blk hi' hne hB
      refine ⟨c2, hoth B' (fun e => hid ?_)⟩
      subst e
      exact h.inj i id o _ B' c' cap hi' ho hne (by simp) hB hr
  · intro i i' o o' B' q1' q2' hi hi' hne hne' hB hB'
    exact h.inj i i' o o' B' q1' q2' (key i o hi hne).2 (key i' o' hi' hne').2 hne hne' hB hB'

/-- The statement 'for .. := range f'. -/
theorem sem_rng {σ : St} {x : SX} {ps : List Nat} {sa sb : SCode} {gf : Nat} {ca : List AV} {R : AEnd → List AObj → Prop} (hr : F.r = none) (hx : evX σ.env x = .fn (.func gf) [] ca)
    (hc : (∀ p ∈ ps, p < F.n) → ACalls K gf (.yl σ.mu.length :: ca) (σ.mu ++ [.loop ⟨ps, sa, sb, F.n⟩ .ready σ.env]) R)
    (h : ∀ ae μ, R ae μ → rngQ σ.env σ.mu.length Q ae μ) (ht : F.tl.isSome = true := by rfl) : sem K F (.rng x ps sa sb) σ Q := by
  intro cd hcd a w ρ S ha μ0 ρ0 S0 w0 hst
  obtain ⟨g, p, asg, body, rfl, k0, k1, k2, k3, k4⟩ := comp_inv hcd
  have hc := hc k4
  obtain ⟨c, hcc⟩ : ∃ c : LoopC, c = ⟨ps, sa, sb, F.n⟩ := ⟨_, rfl⟩
  rw [← hcc] at hc
  have hv := ha.eval g _ k0
  rw [hx] at hv
  obtain ⟨vf, vc, hvv, e1, e2, q1, q2⟩ := fn_inv hv
  have hvf : vf = #[] := by
    apply Array.eq_empty_of_size_eq_zero; simpa using e1.symm
  subst hvf
  refine wpIn_rangeFunc fun fn hfn => ?_
  have hFr : (Fr F.r).round = none := hr
  rw [hFr]
  -- the block for the deferred calls, the record
  obtain ⟨n1, n2⟩ := ha.mu.more (w' := w.alloc (.deferred (some []))) ((Below.refl _ w).alloc (Nat.le_refl _) _) (S' := S) (fun _ h => h) (fun b hb => by have := ha.mu.st b hb; have hs : (w.alloc (.deferred (some []))).heap.size = w.heap.size + 1 := by simp
                                                                                                                                                          omega) (fun b hb _ => hb)
  obtain ⟨lrec, hlrec⟩ : ∃ lrec : Loop, lrec = { state := .ready, pending := none, fn, tmps := a.tmps, params := p, assign := asg, body, defers := w.heap.size } := ⟨_, rfl⟩
  obtain ⟨m1, m2⟩ := RepMu.allocLoop n1 c σ.env lrec (by rw [hlrec]; exact ⟨rfl, rfl⟩) (by rw [hcc, ← k3, hlrec]) (by rw [hcc, hlrec]; exact k1) (by rw [hcc, hlrec]; exact k2) (by rw [hcc, hlrec]; exact ha.size) (fun t => by rw [hlrec]; exact (ha.env t).stab n2)
  have hsz : (w.alloc (.deferred (some []))).heap.size = w.heap.size + 1 := by simp
  rw [hsz] at m1 m2
  have hstab := n2.trans m2
  have henter := run_enterLoop_outer (P := K.P) (w := w) fn a.tmps p asg body
  rw [← hlrec] at henter
  have hmk : Marks F S ((w.alloc (.deferred (some []))).alloc (.loop lrec)) ({ target := .collected w.heap.size, args := #[] } :: a.defers) := by
    obtain ⟨hh, _, hds⟩ := ha.defers
    refine ⟨Nat.le_trans hh hstab.size, fun h => (by rw [h] at ht; cases ht), fun tl htl => ?_⟩
    obtain ⟨l, l1, l2, l3⟩ := hds tl htl
    refine ⟨w.heap.size :: l, by rw [l1]; rfl, List.nodup_cons.2 ⟨fun hin => ?_, l2⟩, fun D hD => ?_⟩
    · have := (Array.getElem?_eq_some_iff.1 (l3 _ hin).2.2).1
      omega
    · rcases List.mem_cons.1 hD with rfl | hD
      · exact ⟨hh, fun hs => Nat.lt_irrefl _ (ha.mu.st _ hs), (heap_alloc_old _ _ (by simp)).trans (World.alloc_heap_new w _)⟩
      · have := hstab.col D (l3 D hD).2.1 (l3 D hD).2.2
        exact ⟨(l3 D hD).1, this.2, this.1⟩
  generalize (w.alloc (.deferred (some []))).alloc (.loop lrec) = W at *
  refine ⟨w.heap.size + 1, [{ target := .collected w.heap.size, args := #[] }], W, { target := .fn (.func gf) vc, args := #[.func (.yield (w.heap.size + 1)) #[] #[]] }, W, gf, #[.func (.yield (w.heap.size + 1)) #[] #[]] ++ vc, W, henter, ?_, fun _ _ => trivial, ?_, fun h => by simp [Fr, Fence.wide] at h, ?_⟩
  · have hvv' : a.eval g = .func (.func gf) #[] vc := hvv
    simp only [resolve, hvv']
    simp [go_sem]
  · simp [invoke, go_sem, run_callFunc hc.1]
  · have hcall := hc.2 _ S W (#[.func (.yield (w.heap.size + 1)) #[] #[]] ++ vc) m1 (by simp; omega) (fun i y v p' q' => by
      cases i with
      | zero =>
        rw [Array.getElem?_append_left (by simp)] at q'
        simp at p' q'
        subst p'; subst q'
        exact .yl (c := c) (st := .ready) (env := σ.env) (B := w.heap.size + 1) (cap := 0) (by simp) (by simp)
      | succ i =>
        have q'' : vc[i]? = some v := by
          rw [Array.getElem?_append_right (by simp)] at q'
          simpa using q'
        exact (q2 i y v (by simpa using p') q'').stab hstab)
    refine callsIn_Fr (hcall.mono ?_)
    rintro e w2 ⟨ae, μ2, ρ2, S2, t1, t2, t3, t4⟩
    have hold : (σ.mu ++ [.loop c .ready σ.env])[σ.mu.length]? = some (AObj.loop c .ready σ.env) := by simp
    have hq := h _ _ t1
    cases ae <;> cases e <;> simp only [EndRel] at t2
    · obtain ⟨c2, st, e', u1, u2⟩ := hq
      obtain ⟨hρ2, -⟩ := t4.loop_at hold u1
      have hρ2 : ρ2 σ.mu.length = some (w.heap.size + 1, 0) := by rw [hρ2]; simp
      obtain ⟨B', cap', rec2, s1, s2, s3, s4, s5, s6, s7, s8, s9, s10⟩ := t3.ob _ _ u1
      rw [hρ2] at s1; cases s1
      have hnb : rec2.state ≠ .busy := by
        cases st with
        | ready => rw [s5.1]; simp
        | busy => exact u2.elim
        | done cd => rw [s5.1]; simp
      have hend := run_endLoop (P := K.P) s4 hnb
      obtain ⟨m3, m4⟩ := t3.dropLoop u1 hρ2 (.loop { rec2 with state := .exhausted })
      have hall := (hstab.trans t4).trans m4
      have ha3 : ARep K F ρ2 S2 ⟨σ.env, μ2.set σ.mu.length .gone⟩ { a with defers := [{ target := .collected w.heap.size, args := #[] }] ++ a.defers } (w2.putObj (w.heap.size + 1) (.loop { rec2 with state := .exhausted })) :=
        ⟨m3, ha.size, hmk.stab (t4.trans m4), fun t => (ha.env t).stab hall⟩
      generalize w2.putObj (w.heap.size + 1) (.loop { rec2 with state := .exhausted }) = W3 at hend m3 m4 ha3 hall
      refine ⟨_, W3, hend, ?_⟩
      cases st with
      | ready => rw [s5.2]; exact ⟨.normal, _, ρ2, S2, trivial, u2, ha3, hst.trans hall⟩
      | busy => exact u2.elim
      | done cd =>
        rw [s5.2]
        rcases u2 with ⟨rfl, u2⟩ | ⟨k, rfl, u2⟩
        · exact wpIn_ret ⟨.ret, _, ρ2, S2, trivial, u2, ha3, hst.trans hall⟩
        · exact wpIn_exit ⟨.exit k, _, ρ2, S2, rfl, u2, ha3, hst.trans hall⟩
    · rename_i x' chain
      refine ⟨.panic x', ⟨σ.env, μ2⟩, ρ2, S2, ?_, hq, ⟨t3, ha.size, hmk.stab t4, fun t => (ha.env t).stab (hstab.trans t4)⟩, hst.trans (hstab.trans t4)⟩
      match chain, t2 with
      | [⟨v, false, false⟩], t2 => exact t2
end rules
end Go.Av
set_option linter.unusedVariables false
set_option linter.unusedSimpArgs false
namespace Go.Av
open Go.RowKit

/-- Code that may defer: along its seqs. -/
inductive DCode where
  | base (s : SCode)
  | seq (a b : DCode)
  | dfr (l : List SOper) (f : SX)

/-- The kinds of functions: plain ones; such that defer; such that recover first of all. -/
inductive EK where
  | plain
  | dfr (d : DCode)
  | rcv (t : Nat)

structure Ent where
  m : Nat
  s : SCode
  rs : List RV
  pure : Bool := false
  k : EK := .plain

inductive Task where
  | code (r : Bool) (m : Nat) (s : SCode) (σ : St)
  | list (r : Bool) (m : Nat) (l : List SOper) (σ : St)
  | call (f : Nat) (args : List AV) (μ : List AObj)
  | yld (id : Nat) (args : List AV) (μ : List AObj)
  | mrun (l : List SOper) (env : List (Nat × AV)) (sl : List SlotR) (j : Nat) (μ : List AObj)

inductive Out where
  | ex (e : AExit) (σ : St)
  | en (e : AEnd) (μ : List AObj)
  | mr (env : List (Nat × AV)) (sl : List SlotR)

def setE : List (Nat × AV) → Nat → AV → List (Nat × AV)
  | [], t, x => [(t, x)]
  | (k, y) :: r, t, x => bif k == t then (k, x) :: r else (k, y) :: setE r t x

theorem setE_get : ∀ (e : List (Nat × AV)) (t : Nat) (x : AV) (u : Nat), getE (setE e t x) u = getE ((t, x) :: e) u
  | [], t, x, u => rfl
  | (k, y) :: r, t, x, u => by
    simp only [setE]
    by_cases h : k = t
    · subst h
      simp only [beq_self_eq_true, cond_true, getE_cons]
      by_cases h2 : k = u <;> simp [h2]
    · rw [beq_eq_false_iff_ne.2 h]
      simp only [cond_false, getE_cons, setE_get r t x u]
      by_cases h2 : k = u
      · have : ¬ t = u := fun e => h (h2.trans e.symm)
        simp [h2, this]
      · simp [h2]

def normE : List (Nat × AV) → List (Nat × AV)
  | [] => []
  | (k, x) :: r => setE (normE r) k x

theorem normE_get : ∀ (e : List (Nat × AV)) (u : Nat), getE (normE e) u = getE e u
  | [], u => rfl
  | (k, x) :: r, u => by rw [normE, setE_get, getE_cons, getE_cons, normE_get r u]

def putE (e : List (Nat × AV)) (d : Option Nat) (x : AV) : List (Nat × AV) := match d with | some d => (d, x) :: e | none => e

theorem putE_get (σ : St) (d : Option Nat) (x : AV) (μ : List AObj) (u : Nat) : getE (putE σ.env d x) u = getE (σ.put d x μ).env u := by
  cases d with
  | none => rfl
  | some d => rfl

def mapO {α β : Type} (f : α → Option β) : List α → Option (List β)
  | [] => some []
  | x :: r => match f x, mapO f r with | some y, some ys => some (y :: ys) | _, _ => none

theorem mapO_get {α β : Type} {f : α → Option β} : ∀ {l : List α} {r : List β}, mapO f l = some r → l.length = r.length ∧ ∀ (i : Nat) x y, l[i]? = some x → r[i]? = some y → f x = some y
  | [], r, h => by simp [mapO] at h; subst h; simp
  | x :: l, r, h => by
    simp only [mapO] at h
    split at h
    · rename_i y ys h1 h2
      cases h
      obtain ⟨k1, k2⟩ := mapO_get h2
      refine ⟨by simp [k1], fun i a b ha hb => ?_⟩
      match i with
      | 0 => simp at ha hb; subst ha; subst hb; exact h1
      | i + 1 => exact k2 i a b (by simpa using ha) (by simpa using hb)
    · cases h

/-- What is owned, as a tree. -/
def treeOf (μ : List AObj) : Nat → AV → Option AV
  | 0, _ => none
  | n + 1, x =>
    match x with
    | .agg cs => (mapO (treeOf μ n) cs).map .agg
    | .tup cs => (mapO (treeOf μ n) cs).map .tup
    | .fn f fi ca => match mapO (treeOf μ n) fi, mapO (treeOf μ n) ca with | some a, some b => some (.fn f a b) | _, _ => none
    | .iface t x => (treeOf μ n x).map (.iface t)
    | .hsl id g sz len =>
      match μ[id]? with
      | some (.row _ g' sz' es) =>
        if g = g' ∧ sz = sz' ∧ len ≤ es.length then
          match mapO (mapO (treeOf μ n)) es with
          | some rows => if rows.all (fun r => decide (r.length = sz)) = true then some (.sl len (fun i => rows.getD i [])) else none
          | none => none
        else none
      | _ => none
    | .ptr id g sz i off =>
      match μ[id]? with
      | some (.row _ g' sz' es) =>
        if g = g' ∧ sz = sz' then
          match es[i]? with
          | some cs => (mapO (treeOf μ n) cs).map fun ts => .tptr ts off
          | none => none
        else none
      | _ => none
    | x => if treeA x = true then some x else none

theorem treeOf_sound {μ : List AObj} : ∀ (n : Nat) (x t : AV), treeOf μ n x = some t → Tree μ x t
  | 0, x, t, h => by simp [treeOf] at h
  | n + 1, x, t, h => by
    cases x <;> simp only [treeOf] at h
    case agg cs =>
      simp only [Option.map_eq_some_iff] at h
      obtain ⟨ts, h1, rfl⟩ := h
      obtain ⟨k1, k2⟩ := mapO_get h1
      exact .agg k1 fun i c t a b => treeOf_sound n _ _ (k2 i c t a b)
    case tup cs =>
      simp only [Option.map_eq_some_iff] at h
      obtain ⟨ts, h1, rfl⟩ := h
      obtain ⟨k1, k2⟩ := mapO_get h1
      exact .tup k1 fun i c t a b => treeOf_sound n _ _ (k2 i c t a b)
    case fn f fi ca =>
      split at h
      · rename_i a b h1 h2
        cases h
        obtain ⟨k1, k2⟩ := mapO_get h1
        obtain ⟨k3, k4⟩ := mapO_get h2
        exact .fn k1 k3 (fun i c t a b => treeOf_sound n _ _ (k2 i c t a b)) (fun i c t a b => treeOf_sound n _ _ (k4 i c t a b))
      · cases h
    case iface t' y =>
      simp only [Option.map_eq_some_iff] at h
      obtain ⟨z, h1, rfl⟩ := h
      exact .iface (treeOf_sound n _ _ h1)
    case hsl id g sz len =>
      split at h
      · rename_i e g' sz' es ho
        split at h
        · rename_i hc
          obtain ⟨rfl, rfl, hle⟩ := hc
          split at h
          · rename_i rows hr
            split at h
            · rename_i hall
              cases h
              obtain ⟨k1, k2⟩ := mapO_get hr
              refine .hsl _ ho (fun i hi => ?_) fun i j cs c t hi hes hc ht => ?_
              · have hlt : i < rows.length := by omega
                have := List.all_eq_true.1 hall rows[i] (List.getElem_mem _)
                simp [List.getD, List.getElem?_eq_getElem hlt] at this ⊢
                exact this
              · have hlt : i < rows.length := by omega
                rw [show rows.getD i [] = rows[i] by simp [List.getD, List.getElem?_eq_getElem hlt]] at ht
                have h2 := k2 i cs rows[i] hes (List.getElem?_eq_getElem hlt)
                obtain ⟨k3, k4⟩ := mapO_get h2
                exact treeOf_sound n _ _ (k4 j c t hc ht)
            · cases h
          · cases h
        · cases h
      · cases h
    case ptr id g sz i off =>
      split at h
      · rename_i e g' sz' es ho
        split at h
        · rename_i hc
          obtain ⟨rfl, rfl⟩ := hc
          split at h
          · rename_i cs hcs
            simp only [Option.map_eq_some_iff] at h
            obtain ⟨ts, h1, rfl⟩ := h
            obtain ⟨k1, k2⟩ := mapO_get h1
            exact .ptr ho hcs k1 fun j c t a b => treeOf_sound n _ _ (k2 j c t a b)
          · cases h
        · cases h
      · cases h
    all_goals
      split at h
      · rename_i ht
        cases h
        exact .same ht
      · cases h

/-- How many of a region's operations come in any order: the tail behind them is forced. -/
def splitM (masks : List Nat) : Nat → Nat
  | 0 => 0
  | m + 1 => if (masks.getD m 0) &&& (2 ^ m - 1) = 2 ^ m - 1 then splitM masks m else m + 1

def gcA (k : Nat) (x : AV) (ν : List AObj) : List AObj := if k ≤ ν.length ∧ refA k x = true ∧ refM k (ν.take k) = true then ν.take k else ν

end Go.Av
set_option linter.unusedVariables false
set_option linter.unusedSimpArgs false
namespace Go.Av
open Go.RowKit
section rules
variable {K : Ctx} {F : Fcx} {Q : AExit → St → Prop}

/-- An object's relation, if it names old objects alone. -/
theorem OR.take {ρ S μ w} {id k : Nat} {o : AObj} (h : OR K ρ S μ w id o) (hro : refO k o = true) : OR K ρ S (μ.take k) w id o := by
  cases o with
  | gone => trivial
  | row e g sz es =>
    rcases h with h1 | ⟨B, cap, cur, h1, h2, h3, h4, h5, h6, h7, h8⟩
    · exact .inl h1
    · refine .inr ⟨B, cap, cur, h1, h2, h3, h4, h5, h6, h7, fun i cs hi => ⟨(h8 i cs hi).1, fun j c hj => ?_⟩⟩
      obtain ⟨v, v1, v2, v3⟩ := (h8 i cs hi).2 j c hj
      refine ⟨v, v1, v2.take ?_, v3⟩
      simp only [refO] at hro
      have := List.all_eq_true.1 hro cs (List.mem_of_getElem? hi)
      exact refL_get this hj
  | map es =>
    obtain ⟨B, cap, ents, clock, h1, h2, h3, h4, es', h7, h5, h6⟩ := h
    refine ⟨B, cap, ents, clock, h1, h2, h3, h4, es', h7, h5, fun i k' v hi => ?_⟩
    obtain ⟨en, e1, e2, e3⟩ := h6 i k' v hi
    refine ⟨en, e1, e2, e3.take ?_⟩
    simp only [refO] at hro
    exact List.all_eq_true.1 hro (k', v) (h7.mem_iff.1 (List.mem_of_getElem? hi))
  | loop c st env =>
    obtain ⟨B, cap, rec, h1, h2, h3, h4, h5, h6, h7, h8, h9, h10⟩ := h
    exact ⟨B, cap, rec, h1, h2, h3, h4, h5, h6, h7, h8, h9, fun t => (h10 t).take (refE_get hro t)⟩
  | iter s pos ml => exact h

/-- What a call does not know it does not touch. -/
theorem ACalls.frame {f : Nat} {args : List AV} {μ ν es : List AObj} {e : AEnd} (h : ACalls K f args μ fun ae ν' => ae = e ∧ ν' = ν) (hl : ν.length = μ.length) (hm : refM μ.length μ = true) (hes : ∀ o ∈ es, refO μ.length o = true) (ha : refL μ.length args = true) :
    ACalls K f args (μ ++ es) fun ae ν' => ae = e ∧ ν' = ν ++ es := by
  refine ⟨h.1, fun ρ S w vs hr hlv hv => ?_⟩
  have htk : (μ ++ es).take μ.length = μ := by simp
  have hr0 : RepMu K ρ S μ w := by
    have := hr.take (k := μ.length) (by simp) (by rw [htk]; exact hm)
    rwa [htk] at this
  refine (h.2 ρ S w vs hr0 hlv (fun i x v a b => by
    have := (hv i x v a b).take (k := μ.length) (refL_get ha a)
    rwa [htk] at this)).mono ?_
  rintro en w' ⟨ae, ν', ρ', S', ⟨rfl, rfl⟩, h2, h3, h4⟩
  obtain ⟨ρ2, hρ2⟩ : ∃ ρ2 : Nat → Option (Nat × Nat), ρ2 = fun i => if i < μ.length then ρ' i else ρ i := ⟨_, rfl⟩
  have r1 : ∀ i, i < μ.length → ρ2 i = ρ' i := fun i hi => by rw [hρ2]; simp [hi]
  have r2 : ∀ i, μ.length ≤ i → ρ2 i = ρ i := fun i hi => by rw [hρ2]; simp [Nat.not_lt.2 hi]
  have k1 : Stab0 ν' ρ' S' w' (ν' ++ es) ρ2 S' w' := ⟨fun _ h => h, fun _ _ => rfl, fun id o ho => ⟨o, get_mono ho, by rw [r1 id (by have := (List.getElem?_eq_some_iff.1 ho).1; omega)]; exact ObjTo.refl o _⟩⟩
  have hfr : ∀ (i : Nat) o B c, (μ ++ es)[i]? = some o → μ.length ≤ i → o ≠ .gone → ρ i = some (B, c) → w'.heap[B]? = w.heap[B]? ∧ ¬ S' B ∧ NoOwn ν' ρ' B := fun i o B c hi hge hne hB => by
    obtain ⟨b1, b2, b3⟩ := hr.blk hi hne hB
    refine h4.fr B b3 b2 fun i' o' c' hi' hne' hB' => ?_
    have hlt := (List.getElem?_eq_some_iff.1 hi').1
    have := hr.inj i i' o o' B c c' hi (get_mono hi') hne hne' hB hB'
    omega
  have hold : ∀ (i : Nat) o, μ.length ≤ i → ((ν' ++ es)[i]? = some o ↔ (μ ++ es)[i]? = some o) := fun i o hge => by
    rw [List.getElem?_append_right (by omega), List.getElem?_append_right hge, hl]
  refine ⟨ae, ν' ++ es, ρ2, S', ⟨rfl, rfl⟩, ?_, ⟨h3.below, h3.st, h3.own, fun i o hi => ?_, fun i i' o o' B c c' hi hi' hne hne' hB hB' => ?_⟩, ⟨h4.sub, h4.blk, fun id o ho => ?_, h4.size, h4.col, fun b hlt b1 b2 => ?_⟩⟩
  · cases ae <;> cases en <;> simp only [EndRel] at h2 ⊢
    · exact h2.stab0 k1
    · rename_i x chain
      match chain, h2 with
      | [⟨v, false, false⟩], h2 => exact h2.stab0 k1
  · by_cases hlt : i < μ.length
    · rw [List.getElem?_append_left (by omega)] at hi
      exact (h3.ob i o hi).stab0 k1 (r1 i hlt) fun B c hB hne => ⟨(h3.blk hi hne hB).2.1, rfl⟩
    · have hge := Nat.not_lt.1 hlt
      have hi' := (hold i o hge).1 hi
      have hro : refO μ.length o = true := by
        rw [List.getElem?_append_right hge] at hi'
        exact hes o (List.mem_of_getElem? hi')
      have hor := (hr.ob i o hi').take hro
      rw [htk] at hor
      exact hor.stab0 (h4.to0.trans k1) (r2 i hge) fun B c hB hne => ⟨(hfr i o B c hi' hge hne hB).2.1, (hfr i o B c hi' hge hne hB).1⟩
  · by_cases hlt : i < μ.length <;> by_cases hlt' : i' < μ.length
    · rw [r1 i hlt] at hB; rw [r1 i' hlt'] at hB'
      rw [List.getElem?_append_left (by omega)] at hi hi'
      exact h3.inj i i' o o' B c c' hi hi' hne hne' hB hB'
    · have hge := Nat.not_lt.1 hlt'
      rw [r1 i hlt] at hB; rw [r2 i' hge] at hB'
      rw [List.getElem?_append_left (by omega)] at hi
      exact absurd hB ((hfr i' o' B c' ((hold i' o' hge).1 hi') hge hne' hB').2.2 i o c hi hne)
    · have hge := Nat.not_lt.1 hlt
      rw [r2 i hge] at hB; rw [r1 i' hlt'] at hB'
      rw [List.getElem?_append_left (by omega)] at hi'
      exact absurd hB' ((hfr i o B c ((hold i o hge).1 hi) hge hne hB).2.2 i' o' c' hi' hne')
    · have hge := Nat.not_lt.1 hlt
      have hge' := Nat.not_lt.1 hlt'
      rw [r2 i hge] at hB; rw [r2 i' hge'] at hB'
      exact hr.inj i i' o o' B c c' ((hold i o hge).1 hi) ((hold i' o' hge').1 hi') hne hne' hB hB'
  · by_cases hlt : id < μ.length
    · rw [List.getElem?_append_left hlt] at ho
      obtain ⟨o', o1, o2⟩ := h4.obj id o ho
      exact ⟨o', get_mono o1, by rw [r1 id hlt]; exact o2⟩
    · have hge := Nat.not_lt.1 hlt
      exact ⟨o, (hold id o hge).2 ho, by rw [r2 id hge]; exact ObjTo.refl o _⟩
  · have hn : NoOwn μ ρ b := fun i o c hi hne => b2 i o c (get_mono hi) hne
    obtain ⟨a1, a2, a3⟩ := h4.fr b hlt b1 hn
    refine ⟨a1, a2, fun i o c hi hne => ?_⟩
    by_cases hlt' : i < μ.length
    · rw [r1 i hlt']
      rw [List.getElem?_append_left (by omega)] at hi
      exact a3 i o c hi hne
    · have hge := Nat.not_lt.1 hlt'
      rw [r2 i hge]
      exact b2 i o c ((hold i o hge).1 hi) hne

/-- One new object in a region, over whatever objects. -/
theorem step_slot {ops : Array Oper} {l : List SOper} {m i : Nat} {o : Oper} {s : SOper} {β : List AObj} {sl : List SlotR} {R : Nat → AV} {env : List (Nat × AV)} {X : Nat → Bool} {a : Act} {w : World} {ρ S} {μ0 ρ0 S0 w0} {N : Act → World → Prop} {Q' : Exit → Act → World → Prop} {j : Nat} {r : SlotR} {hh : HS}
    (ho : ops[i]? = some o) (hcomp : compOper K.P F.n ops o = some s) (hXi : X i = false) (hlen0 : μ0.length ≤ β.length) (hm : refM β.length β = true) (hslr : ∀ (j : Nat) r, sl[j]? = some r → refO β.length r.o = true ∧ r.st = none)
    (hj : sl[j]? = some r) (hia : r.ia = i) (hdst : s.dst = some r.d) (hw : wantA s.guard ((looks s).map fun t => (t, gX l m R env X t)) = some true)
    (hop' : sopA s.op ((looks s).map fun t => (t, gX l m R env X t)) (muS β sl X) = some (hh.at (muS β sl X).length, muS β sl X ++ [r.o])) (hx : R i = hh.at (β.length + j))
    (hno : ∀ (j' : Nat) r', sl[j']? = some r' → j' ≠ j → r'.ia ≠ i)
    (hvals : ∀ k, k < m → X k = true → refA β.length (R k) = true ∨ ∃ (j' : Nat) (r' : SlotR) (h' : HS), sl[j']? = some r' ∧ r'.ia = k ∧ R k = h'.at (β.length + j'))
    (hrefE : ∀ t, refA β.length (getE env t) = true)
    (hnext : ∀ t, gX l m R env (fun k => X k || decide (k = i)) t = if s.dst = some t then R i else gX l m R env X t)
    (hG : GRep K F ρ S (gX l m R env X) (muS β sl X) a w) (hsb : SB F.b μ0 ρ0 S0 w0 (muS β sl X) ρ S w)
    (hN : ∀ a' w' ρ' S', GRep K F ρ' S' (gX l m R env (fun k => X k || decide (k = i))) (muS β sl fun k => X k || decide (k = i)) a' w' → SB F.b μ0 ρ0 S0 w0 (muS β sl fun k => X k || decide (k = i)) ρ' S' w' → N a' w') : wpOpIn (Fr F.r) 0 K.P ops Q' i N a w := by
  have hn := (List.getElem?_eq_some_iff.1 hj).1
  have hlenX : (muS β sl X).length = β.length + sl.length := by simp [muS]
  have hst0 := (hslr j r hj).2
  have hcur : slotX X r = .gone := by
    unfold slotX
    rw [hst0]
    simp only [hia, hXi, Bool.false_eq_true, if_false]
  have hnew : slotX (fun k => X k || decide (k = i)) r = r.o := by
    unfold slotX
    rw [hst0]
    simp [hia]
  have hmu := muS_set (μ := β) (X := X) (i := i) hj hnew (fun j' r' hj' hne => slotX_same (hno j' r' hj' hne) (fun k o' h => by rw [(hslr j' r' hj').2] at h; cases h))
  have hgone : (muS β sl X)[β.length + j]? = some .gone := by rw [muS_get hj, hcur]
  obtain ⟨c1, c2, c3, _⟩ := comp_dst hcomp
  have ha' : ARep K F ρ S ⟨(looks s).map fun t => (t, gX l m R env X t), muS β sl X⟩ a w := ⟨hG.mu, hG.size, hG.defers, fun t => by
    show VR (muS β sl X) ρ S w (getE ((looks s).map fun t => (t, gX l m R env X t)) t) _
    rw [getE_map]
    split
    · exact hG.env t
    · exact .dead _⟩
  have hrefs := refO_slots (X := X) hm (fun j r hj => ⟨(hslr j r hj).1, fun k o' hk => by rw [(hslr j r hj).2] at hk; cases hk⟩)
  unfold wpOpIn
  simp only [ho]
  rw [want_sound ha' hcomp hw]
  simp only [if_true]
  obtain ⟨v, w', ρ', S', n1, n2, n3, n4⟩ := sop_sound ha'.mu ha'.eval (fun _ => rfl) c1 hop'
  refine ⟨fun _ _ => trivial, ?_⟩
  rw [semAt_plain c1]
  have hidlt : β.length + j < (muS β sl X).length := by omega
  have hrefs' : ∀ (i : Nat) p, (muS β sl X ++ [r.o])[i]? = some p → refO β.length p = true := fun k p hp => by
    by_cases hk : k < (muS β sl X).length
    · rw [List.getElem?_append_left hk] at hp; exact hrefs k p hp
    · rw [List.getElem?_append_right (by omega)] at hp
      have := List.mem_of_getElem? hp
      simp at this; subst this; exact (hslr j r hj).1
  have m1 := n3.ren hrefs' (Nat.le_add_right _ _) hgone
  have env1 : ∀ t, VR ((muS β sl X).set (β.length + j) r.o) (renR ρ' (β.length + j) (muS β sl X).length) S' w' (gX l m R env (fun k => X k || decide (k = i)) t) ((a.put o.dst v).tmps.getD t undef) := fun t => by
    rw [hnext, ← c2, hdst]
    by_cases ht : r.d = t
    · subst ht
      rw [if_pos rfl, hx]
      have hlt : r.d < a.tmps.size := by rw [hG.size]; exact c3 _ (by rw [← c2]; exact hdst)
      simp only [Act.put, Array.getD_eq_getD_getElem?]
      rw [Array.getElem?_setIfInBounds_self_of_lt hlt]
      exact HS.ren n2 hidlt
    · rw [if_neg (by simpa using ht)]
      have hv := (hG.env t).stab n4
      simp only [Act.put, Array.getD_eq_getD_getElem?] at hv ⊢
      rw [Array.getElem?_setIfInBounds_ne ht]
      unfold gX at hv ⊢
      cases hlw : lastW l m X t with
      | none => rw [hlw] at hv; exact hv.ren (hrefE t) (Nat.le_add_right _ _) hidlt
      | some k =>
        rw [hlw] at hv
        simp only at hv ⊢
        have hmem := List.mem_of_getLast? hlw
        simp only [List.mem_filter, List.mem_range, Bool.and_eq_true, decide_eq_true_eq] at hmem
        obtain ⟨k1, k2, k3⟩ := hmem
        have hki : k ≠ i := fun e => by subst e; rw [hXi] at k2; cases k2
        rcases hvals k k1 k2 with hx' | ⟨j', r', h', hj', hia', hx'⟩
        · exact hv.ren hx' (Nat.le_add_right _ _) hidlt
        · rw [hx'] at hv ⊢
          have := (List.getElem?_eq_some_iff.1 hj').1
          refine HS.keep hv hidlt (by omega) (fun e => hki ?_)
          have : j' = j := by omega
          subst this
          rw [hj] at hj'; cases hj'
          rw [← hia', hia]
  have sb1 : SB F.b μ0 ρ0 S0 w0 ((muS β sl X).set (β.length + j) r.o) (renR ρ' (β.length + j) (muS β sl X).length) S' w' := by
    have hS := hsb.stab.trans n4
    refine ⟨hsb.len, hS.sub, hS.blk, fun id0 o0 h0 => ?_, hS.size, hS.col, fun b hlt b1 b2 => ?_⟩
    · obtain ⟨o', o1, o2⟩ := hS.obj id0 o0 h0
      have hlt := (List.getElem?_eq_some_iff.1 h0).1
      refine ⟨o', ?_, ?_⟩
      · rw [List.getElem?_append_left (by omega)] at o1
        rw [List.getElem?_set_ne (by omega)]; exact o1
      · have : renR ρ' (β.length + j) (muS β sl X).length id0 = ρ' id0 := by unfold renR; rw [if_neg (by omega)]
        rw [this]; exact o2
    · obtain ⟨a1, a2, a3⟩ := hS.fr b hlt b1 b2
      refine ⟨a1, a2, fun i p c hi hne => ?_⟩
      unfold renR
      by_cases hid : i = β.length + j
      · rw [if_pos hid]
        subst hid
        rw [List.getElem?_set_self (by omega)] at hi
        cases hi
        exact a3 _ r.o c (by simp) hne
      · rw [if_neg hid]
        rw [List.getElem?_set_ne (Ne.symm hid)] at hi
        exact a3 i p c (by rw [List.getElem?_append_left (List.getElem?_eq_some_iff.1 hi).1]; exact hi) hne
  have hfin := hN (a.put o.dst v) w' (renR ρ' (β.length + j) (muS β sl X).length) S' ⟨by rw [hmu]; exact m1, by cases o.dst <;> simp [Act.put, hG.size], by cases o.dst <;> exact hG.defers.stab n4, fun t => by rw [hmu]; exact env1 t⟩ (by rw [hmu]; exact sb1)
  rcases n1 with n1 | ⟨n1, rfl⟩
  · rw [n1]; exact hfin
  · rw [n1]; exact hfin

end rules
end Go.Av
set_option linter.unusedVariables false
set_option linter.unusedSimpArgs false
namespace Go.Av
open Go.RowKit

section rules
variable {K : Ctx} {F : Fcx} {Q : AExit → St → Prop}

/-- The operation that turns what is owned. -/
theorem step_eff {ops : Array Oper} {o : Oper} {s : SOper} {i : Nat} {g g' : Nat → AV} {μ1 μ2 : List AObj} {x : AV} {a : Act} {w : World} {ρ S} {μ0 ρ0 S0 w0} {N : Act → World → Prop} {Q' : Exit → Act → World → Prop} {f : Nat} {args : List AV}
    (ho : ops[i]? = some o) (hs : compOper K.P F.n ops o = some s) (hst : SB F.b μ0 ρ0 S0 w0 μ1 ρ S w) (hG : GRep K F ρ S g μ1 a w) (hg' : ∀ t, g' t = if s.dst = some t then x else g t)
    (hw : wantA s.guard ((looks s).map fun t => (t, g t)) = some true) (hcl : callee s.op ((looks s).map fun t => (t, g t)) = some (f, args)) (hop : ACalls K f args μ1 fun ae ν => ae = .ret x ∧ ν = μ2)
    (hN : ∀ a' w' ρ' S', GRep K F ρ' S' g' μ2 a' w' → SB F.b μ0 ρ0 S0 w0 μ2 ρ' S' w' → N a' w') : wpOpIn (Fr F.r) 0 K.P ops Q' i N a w := by
  obtain ⟨c1, c2, c3, _⟩ := comp_dst hs
  have ha : ARep K F ρ S ⟨(looks s).map fun t => (t, g t), μ1⟩ a w := ⟨hG.mu, hG.size, hG.defers, fun t => by
    show VR μ1 ρ S w (getE ((looks s).map fun t => (t, g t)) t) _
    rw [getE_map]
    split
    · exact hG.env t
    · exact .dead _⟩
  unfold wpOpIn
  simp only [ho]
  rw [want_sound ha hs hw]
  simp only [if_true]
  refine ⟨fun _ _ => trivial, ?_⟩
  rw [semAt_plain c1]
  have fin : ∀ vs : Array Value, vs.size = args.length → (∀ (i : Nat) x v, args[i]? = some x → vs[i]? = some v → VR μ1 ρ S w x v) → (execOp a.eval o).run K.P w = .ok (.enter f vs) w → o.uponIn (Fr F.r) 0 K.P a N Q' ((execOp a.eval o).run K.P w) := by
    intro vs hl hv hrun
    rw [hrun]
    refine ⟨fun h => by simp [Fr, Fence.wide] at h, callsIn_Fr ((hop.2 ρ S w vs hG.mu hl hv).mono ?_)⟩
    rintro e w' ⟨ae, μ', ρ', S', ⟨rfl, rfl⟩, r2, r3, r4⟩
    cases e <;> simp only [EndRel] at r2
    exact hN _ w' ρ' S' (hG.put c3 r2 r3 r4 (fun t => by rw [hg', c2])) (hst.trans r4)
  obtain ⟨vs, q1, q2, q3⟩ := callee_exec ha.eval c1 hcl hop.1
  exact fin vs q2 q3 q1

/-- Boxes of constants. -/
def boxC (s : SOper) : Bool := match s.guard, s.op with | none, .box _ (.c x) => flatA x && (cellsOf x).all flatA && (cellsOf x).all (fun c => match c with | .agg _ => false | .tup _ => false | _ => true) | _, _ => false

/-- All but constant boxes come ahead of the operation p. -/
def effOK (l : List SOper) (pre : List (List Nat)) (m p : Nat) : Bool := decide (p < m) && (l.getD p noOp).guard.isNone && (List.range m).all fun i => decide (i = p) || bef pre i p || boxC (opAt l i)

/-- The list with a constant in the place of the operation p. -/
def fakeL (l : List SOper) (p : Nat) (x : AV) : List SOper := l.set p ⟨(opAt l p).dst, none, .mv (.c x)⟩

theorem fake_at {l : List SOper} {p i : Nat} {x : AV} (hp : p < l.length) : opAt (fakeL l p x) i = if i = p then ⟨(opAt l p).dst, none, .mv (.c x)⟩ else opAt l i := by
  unfold fakeL
  by_cases h : i = p
  · subst h
    simp [opAt, List.getD, hp]
  · simp [opAt, List.getD, List.getElem?_set_ne (Ne.symm h), h]

theorem fake_gX {l : List SOper} {p m : Nat} {x : AV} {R : Nat → AV} {env : List (Nat × AV)} {X : Nat → Bool} {t : Nat} (hp : p < l.length) : gX (fakeL l p x) m R env X t = gX l m R env X t := by
  have : ∀ i, (opAt (fakeL l p x) i).dst = (opAt l i).dst := fun i => by
    rw [fake_at hp]
    split
    · rename_i h; rw [h]
    · rfl
  unfold gX lastW
  simp only [this]

theorem MRun.append {μ : List AObj} {ls2 : List SOper} : ∀ {ls1 : List SOper} {j : Nat} {env e1 e2 : List (Nat × AV)} {sl sl1 sl2 : List SlotR} {xs xs' : List AV}, MRun K μ j ls1 env sl xs e1 sl1 → MRun K μ (j + ls1.length) ls2 e1 sl1 xs' e2 sl2 →
    MRun K μ j (ls1 ++ ls2) env sl (xs ++ xs') e2 sl2 := by
  intro ls1 j env e1 e2 sl sl1 sl2 xs xs' h1
  induction h1 with
  | nil => intro h2; simpa using h2
  | op a b _ ih => intro h2; exact .op a b (ih (by simpa [Nat.add_assoc, Nat.add_comm 1] using h2))
  | al a b c _ ih => intro h2; exact .al a b c (ih (by simpa [Nat.add_assoc, Nat.add_comm 1] using h2))
  | sto a b c d e f g _ ih => intro h2; exact .sto a b c d e f g (ih (by simpa [Nat.add_assoc, Nat.add_comm 1] using h2))

theorem MRun.xlen {μ : List AObj} {ls : List SOper} {j : Nat} {env e1 : List (Nat × AV)} {sl sl1 : List SlotR} {xs : List AV} (h : MRun K μ j ls env sl xs e1 sl1) : xs.length = ls.length := by
  induction h with
  | nil => rfl
  | op _ _ _ ih => simp [ih]
  | al _ _ _ _ ih => simp [ih]
  | sto _ _ _ _ _ _ _ _ ih => simp [ih]

theorem gX_le {l : List SOper} {p m : Nat} {R : Nat → AV} {env : List (Nat × AV)} {t : Nat} (h : p ≤ m) : gX l p R env (fun k => decide (k < p)) t = gX l m R env (fun k => decide (k < p)) t := by
  have : lastW l p (fun k => decide (k < p)) t = lastW l m (fun k => decide (k < p)) t := by
    unfold lastW
    congr 1
    obtain ⟨d, rfl⟩ := Nat.exists_eq_add_of_le h
    rw [List.range_add, List.filter_append]
    have : (List.map (fun x => p + x) (List.range d)).filter (fun i => decide (i < p) && decide ((opAt l i).dst = some t)) = [] := by
      rw [List.filter_eq_nil_iff]
      intro a ha
      obtain ⟨b, _, rfl⟩ := List.mem_map.1 ha
      have : ¬ p + b < p := by omega
      simp [this]
    rw [this, List.append_nil]
  unfold gX
  rw [this]

theorem box_const {e : Nat} {c : AV} {env : List (Nat × AV)} {β : List AObj} (h1 : (cellsOf c).all flatA = true) (h2 : (cellsOf c).all (fun c => match c with | .agg _ => false | .tup _ => false | _ => true) = true) :
    sopA (.box e (.c c)) env β = some (.ptr β.length 0 (cellsOf c).length 0 0, β ++ [.row e 0 (cellsOf c).length [cellsOf c]]) := by
  have : (cellsOf c).all (okCell β) = true := List.all_eq_true.2 fun y hy => by
    have a := List.all_eq_true.1 h1 y hy
    have b := List.all_eq_true.1 h2 y hy
    cases y <;> simp [flatA, okCell] at a b ⊢
  show boxA e c β = _
  unfold boxA
  rw [if_pos this]

theorem sem_effgo {l : List SOper} {pre : List (List Nat)} {env : List (Nat × AV)} {μ ν : List AObj} (m p : Nat) {x : AV} {f : Nat} {args : List AV} (hmix : K.P.follows .mixedOrders = true) (hok : dOK l pre m = true)
    (hmν : refM μ.length ν = true) (hlν : ν.length = μ.length) (he : effOK l pre m p = true) {xs xs' : List AV} {envp env' : List (Nat × AV)} {slp sl' : List SlotR}
    (h1 : MRun K μ 0 (l.take p) env [] xs envp slp) (hcl : callee (opAt l p).op envp = some (f, args)) (hra : refL μ.length args = true) (hrx : refA μ.length x = true) (hc : ACalls K f args μ fun ae ν' => ae = .ret x ∧ ν' = ν)
    (h2 : MRun K μ (p + 1) ((l.take m).drop (p + 1)) (pushE envp (opAt l p).dst x) slp xs' env' sl') (hst : sl'.all (fun r => r.st.isNone) = true)
    (h : semL K F (l.drop m) ⟨env', ν ++ sl'.map SlotR.fin⟩ Q) : sem K F (.dreg l pre) ⟨env, μ⟩ Q := by
  have hml : m ≤ l.length := by
    simp only [dOK, Bool.and_eq_true, decide_eq_true_eq] at hok
    exact hok.1.1.1.2
  simp only [effOK, Bool.and_eq_true, decide_eq_true_eq, List.all_eq_true, List.mem_range] at he
  obtain ⟨⟨hpm, hgn⟩, heff⟩ := he
  have hpl : p < l.length := by omega
  have hgd : (opAt l p).guard = none := by unfold opAt; simpa using hgn
  obtain ⟨lp, hlp⟩ : ∃ lp, lp = fakeL l p x := ⟨_, rfl⟩
  have hat : ∀ i, opAt lp i = if i = p then ⟨(opAt l p).dst, none, .mv (.c x)⟩ else opAt l i := fun i => by rw [hlp]; exact fake_at hpl
  have hgx : ∀ (R : Nat → AV) (X : Nat → Bool) (t : Nat), gX lp m R env X t = gX l m R env X t := fun R X t => by rw [hlp]; exact fake_gX hpl
  have htp : (l.take p).length = p := by simp; omega
  -- the whole run, with a constant in the place of the operation
  have hfk : MRun K μ p (⟨(opAt l p).dst, none, .mv (.c x)⟩ :: (l.take m).drop (p + 1)) envp slp (x :: xs') env' sl' := .op (.inl ⟨rfl, rfl, rfl⟩) hrx h2
  have hall := h1.append (j := 0) (by rw [htp, Nat.zero_add]; exact hfk)
  have hlst : l.take p ++ ⟨(opAt l p).dst, none, .mv (.c x)⟩ :: (l.take m).drop (p + 1) = lp.take m := by
    rw [hlp]
    unfold fakeL
    apply List.ext_getElem?
    intro k
    rw [List.getElem?_take]
    by_cases hk : k < m
    · rw [if_pos hk]
      by_cases hkp : k < p
      · rw [List.getElem?_append_left (by omega), List.getElem?_take, if_pos hkp, List.getElem?_set_ne (by omega)]
      · rw [List.getElem?_append_right (by omega), htp]
        by_cases hke : k = p
        · subst hke; simp [hpl]
        · rw [show k - p = (k - (p + 1)) + 1 by omega, List.getElem?_cons_succ, List.getElem?_drop, show p + 1 + (k - (p + 1)) = k by omega, List.getElem?_take, if_pos hk, List.getElem?_set_ne (by omega)]
    · rw [if_neg hk, List.getElem?_eq_none]
      simp; omega
  rw [hlst] at hall
  have hlpl : lp.length = l.length := by rw [hlp]; simp [fakeL]
  have htk : (lp.take m).length = m := by simp; omega
  have hxl : (xs ++ x :: xs').length = m := by rw [hall.xlen, htk]
  have hxp : xs.length = p := by rw [h1.xlen, htp]
  obtain ⟨R, hR⟩ : ∃ R : Nat → AV, R = fun i => (xs ++ x :: xs').getD i .dead := ⟨_, rfl⟩
  have hRp : R p = x := by rw [hR]; simp [List.getD, ← hxp]
  obtain ⟨a1, a2, a3, a4⟩ := mrun_facts (l := lp) (m := m) (env0 := env) (R := R) hall (by rw [htk]; omega) (fun i hi => by
    rw [htk] at hi
    rw [List.getElem?_take, if_pos hi, Nat.zero_add, List.getElem?_eq_getElem (by omega)]
    simp [opAt, List.getD, List.getElem?_eq_getElem (show i < lp.length by omega)]) (fun i hi => by rw [hR]; simp) (fun t => by
    have : lastW lp m (fun k => decide (k < 0)) t = none := by simp [lastW]
    simp only [gX, this]) ⟨fun q r h => by simp at h, fun q q' r r' h => by simp at h, fun q q' r r' k o' k' o'' h => by simp at h, fun q q' r r' k o' h => by simp at h⟩
  have hev := fun i (hi : i < m) => a4 i (Nat.zero_le _) hi
  -- the frame ahead of the operation
  obtain ⟨b1, -, -, -⟩ := mrun_facts (l := l) (m := p) (env0 := env) (R := R) h1 (by rw [htp]; omega) (fun i hi => by
    rw [htp] at hi
    rw [List.getElem?_take, if_pos hi, Nat.zero_add, List.getElem?_eq_getElem (by omega)]
    simp [opAt, List.getD, List.getElem?_eq_getElem (show i < l.length by omega)]) (fun i hi => by
    rw [htp] at hi
    rw [hR, Nat.zero_add]
    simp only [List.getD_eq_getElem?_getD]
    rw [List.getElem?_append_left (by omega)]) (fun t => by
    have : lastW l p (fun k => decide (k < 0)) t = none := by simp [lastW]
    simp only [gX, this]) ⟨fun q r h => by simp at h, fun q q' r r' h => by simp at h, fun q q' r r' k o' k' o'' h => by simp at h, fun q q' r r' k o' h => by simp at h⟩
  have hpenv : ∀ t, getE envp t = gX l m R env (fun k => decide (k < p)) t := fun t => by rw [b1 t]; exact gX_le (by omega)
  have hnone : ∀ (j : Nat) r, sl'[j]? = some r → r.st = none := fun j r hj => by
    have := List.all_eq_true.1 hst r (List.mem_of_getElem? hj)
    simpa using this
  have hia : ∀ (j : Nat) r, sl'[j]? = some r → r.ia < m ∧ (opAt lp r.ia).dst = some r.d ∧ refO μ.length r.o = true := fun j r hj => ⟨(a2.one j r hj).1, (a2.one j r hj).2.1, (a2.one j r hj).2.2.1⟩
  have hpno : ∀ (j : Nat) r, sl'[j]? = some r → r.ia ≠ p := fun j r hj => by
    obtain ⟨e, _, ev⟩ := hev p hpm
    rw [hat p, if_pos rfl] at ev
    cases ev with
    | q _ _ hno => exact (hno r (List.mem_of_getElem? hj)).1
    | a j' r' hh _ _ _ _ hop _ _ _ =>
      have := hop []
      simp [sopA] at this
    | st j' r' e' sz cs y hj' hst' => rw [hnone j' r' hj'] at hst'; cases hst'
  intro c hcc a w ρ S ha μ0 ρ0 S0 w0 hsb0
  change SB F.b μ0 ρ0 S0 w0 μ ρ S w at hsb0
  have hm := ha.mu.refM
  change refM μ.length μ = true at hm
  obtain ⟨id, ops, rfl, hl, rfl⟩ := comp_inv hcc
  obtain ⟨d1, d2⟩ := ha.mu.same (w' := w.drew) (Below.drew (Below.refl _ _)) rfl
  have hlen0 : μ0.length ≤ μ.length := by
    rcases Nat.lt_or_ge μ.length μ0.length with h1 | h1
    · obtain ⟨o', o1, _⟩ := hsb0.stab.obj μ.length _ (List.getElem?_eq_getElem h1)
      have := (List.getElem?_eq_some_iff.1 o1).1
      omega
    · exact h1
  have hM0 : muS μ sl' (fun _ => false) = μ ++ List.replicate sl'.length .gone := by
    unfold muS
    congr 1
    apply List.ext_getElem?
    intro k
    rw [List.getElem?_map, List.getElem?_replicate]
    cases hk : sl'[k]? with
    | none => rw [if_neg (by have := List.getElem?_eq_none_iff.1 hk; omega)]; rfl
    | some r =>
      rw [if_pos (List.getElem?_eq_some_iff.1 hk).1]
      simp only [Option.map_some, slotX]
      cases r.st <;> rfl
  have hlay : ∀ (es : List AObj) (w : World), (∀ o ∈ es, o = .gone) → RepMu K ρ S μ w → RepMu K ρ S (μ ++ es) w ∧ Stab μ ρ S w (μ ++ es) ρ S w := fun es w hes hr => by
    have back : ∀ {i : Nat} {o : AObj}, (μ ++ es)[i]? = some o → o = .gone ∨ μ[i]? = some o := fun {i o} hi => by
      by_cases hlt : i < μ.length
      · rw [List.getElem?_append_left hlt] at hi; exact .inr hi
      · rw [List.getElem?_append_right (by omega)] at hi; exact .inl (hes _ (List.mem_of_getElem? hi))
    have st : Stab μ ρ S w (μ ++ es) ρ S w := ⟨fun _ h => h, fun _ _ => rfl, fun id o ho => ⟨o, get_mono ho, ObjTo.refl o _⟩, Nat.le_refl _, fun _ h1 h2 => ⟨h2, h1⟩, fun b _ b1 b2 => ⟨rfl, b1, fun i o c hi hne => (back hi).elim (fun e => absurd e hne) (fun e => b2 i o c e hne)⟩⟩
    refine ⟨⟨hr.below, hr.st, hr.own, fun i o hi => ?_, fun i i' o o' B c c' hi hi' hne hne' => ?_⟩, st⟩
    · rcases back hi with rfl | hi
      · trivial
      · exact OR.stab0 (hr.ob i o hi) st.to0 rfl fun B c hB hne => ⟨(hr.blk hi hne hB).2.1, rfl⟩
    · rcases back hi with e | hi
      · exact absurd e hne
      · rcases back hi' with e | hi'
        · exact absurd e hne'
        · exact hr.inj i i' o o' B c c' hi hi' hne hne'
  obtain ⟨p1, p2⟩ := hlay (List.replicate sl'.length .gone) w.drew (fun o ho => (List.mem_replicate.1 ho).2) d1
  have st12 := d2.trans p2
  have hrefE : ∀ t, refA μ.length (getE env t) = true := fun t => (ha.env t).refs
  have hfin : muS ν sl' (fun k => decide (k < m)) = ν ++ sl'.map SlotR.fin := by
    unfold muS
    congr 1
    apply List.map_congr_left
    intro r hr
    obtain ⟨q, hq⟩ := List.getElem?_of_mem hr
    unfold slotX SlotR.fin
    rw [hnone q r hq]
    simp [(hia q r hq).1]
  refine dreg_abs (env0 := env) (R := R) (M := fun X => muS (if X p = true then ν else μ) sl' X) m hmix hok hl rfl (fun X Y hXY => ?_) (fun t => by rw [a1 t]; exact hgx _ _ _) ?_ (by
      show semL K F (l.drop m) ⟨env', muS (if decide (p < m) = true then ν else μ) sl' fun k => decide (k < m)⟩ Q
      rw [if_pos (by simpa using hpm), hfin]; exact h) (ρ := ρ) (S := S) ⟨by show RepMu K ρ S (muS (if false = true then ν else μ) sl' fun _ => false) _; rw [if_neg (by simp), hM0]; exact p1, ha.size, ha.defers.stab st12, fun t => ?_⟩
      (by show SB F.b μ0 ρ0 S0 w0 (muS (if false = true then ν else μ) sl' fun _ => false) ρ S _; rw [if_neg (by simp), hM0]; exact hsb0.trans st12)
  · show muS (if X p = true then ν else μ) sl' X = muS (if Y p = true then ν else μ) sl' Y
    rw [hXY p hpm]
    unfold muS
    congr 1
    apply List.map_congr_left
    intro r hr
    obtain ⟨j, hj⟩ := List.getElem?_of_mem hr
    unfold slotX
    rw [hnone j r hj, hXY _ (hia j r hj).1]
  · intro X i o s N a w ρ S hi ho hs hcomp hXi hbef hbef2 hdep hafter hread hnext hG hsb hN
    have hbeta : ∀ b : Bool, (if b = true then ν else μ).length = μ.length ∧ refM μ.length (if b = true then ν else μ) = true := fun b => by cases b <;> simp [hlν, hm, hmν]
    by_cases hip : i = p
    · -- the operation itself
      subst hip
      have hlookp : ∀ t ∈ looks s, getE envp t = getE ((looks s).map fun t => (t, gX l m R env X t)) t := fun t ht => by
        rw [getE_map, if_pos ht, hread t ht, hpenv]
      have hcl' : callee s.op ((looks s).map fun t => (t, gX l m R env X t)) = some (f, args) := by
        rw [← hs, ← hcl, hs]
        refine (callee_congr fun y hy => ?_).symm
        cases y with
        | c z => rfl
        | t u => exact hlookp u (by unfold looks; exact List.mem_append_right _ (by unfold tmpsOf; exact List.mem_filterMap.2 ⟨.t u, hy, rfl⟩))
      have hsg : s.guard = none := by rw [← hs]; exact hgd
      have hslots : sl'.map (slotX fun k => X k || decide (k = i)) = sl'.map (slotX X) := by
        apply List.map_congr_left
        intro r hr
        obtain ⟨j, hj⟩ := List.getElem?_of_mem hr
        exact slotX_same (hpno j r hj) (fun k o' h => by rw [hnone j r hj] at h; cases h)
      have hmu1 : muS (if X i = true then ν else μ) sl' X = μ ++ sl'.map (slotX X) := by rw [hXi]; rfl
      have hmu2 : muS (if (X i || decide (i = i)) = true then ν else μ) sl' (fun k => X k || decide (k = i)) = ν ++ sl'.map (slotX X) := by
        rw [if_pos (by simp)]; unfold muS; rw [hslots]
      change GRep K F ρ S (gX l m R env X) (muS (if X i = true then ν else μ) sl' X) a w at hG
      change SB F.b μ0 ρ0 S0 w0 (muS (if X i = true then ν else μ) sl' X) ρ S w at hsb
      rw [hmu1] at hG hsb
      refine step_eff ho hcomp hsb hG hnext (x := R i) (μ2 := ν ++ sl'.map (slotX X)) (by rw [hsg]; rfl) hcl' ?_ (fun a' w' ρ' S' hg hsb' => hN a' w' ρ' S' (by
          show GRep K F ρ' S' _ (muS (if (X i || decide (i = i)) = true then ν else μ) sl' fun k => X k || decide (k = i)) a' w'
          rw [hmu2]; exact hg) (by
          show SB F.b μ0 ρ0 S0 w0 (muS (if (X i || decide (i = i)) = true then ν else μ) sl' fun k => X k || decide (k = i)) ρ' S' w'
          rw [hmu2]; exact hsb'))
      rw [hRp]
      refine hc.frame hlν hm (fun q hq => ?_) hra
      obtain ⟨r, hr, rfl⟩ := List.mem_map.1 hq
      obtain ⟨j, hj⟩ := List.getElem?_of_mem hr
      unfold slotX
      rw [hnone j r hj]
      simp only
      split
      · exact (hia j r hj).2.2
      · rfl
    · -- another one
      obtain ⟨e, e1, ev⟩ := hev i hi
      rw [hat i, if_neg hip, hs] at ev
      have hXp : (X p || decide (p = i)) = X p := by
        have : ¬ p = i := fun e => hip e.symm
        simp [this]
      have hlook : ∀ t ∈ looks s, getE e t = getE ((looks s).map fun t => (t, gX l m R env X t)) t := fun t ht => by
        rw [getE_map, if_pos ht, hread t ht, e1, hgx]
      have hguard : ∀ {b}, wantA s.guard e = some b → wantA s.guard ((looks s).map fun t => (t, gX l m R env X t)) = some b := fun {b} hw => by
        unfold wantA at hw ⊢
        split
        · rename_i hgd
          rw [hgd] at hw
          exact hw
        · rename_i t bb hgd
          rw [hgd] at hw
          simp only at hw
          rw [hlook t (by simp [looks, hgd])] at hw
          exact hw
      have hei := heff i hi
      simp only [Bool.or_eq_true, decide_eq_true_eq, hip, false_or, hs] at hei
      obtain ⟨β, hβ⟩ : ∃ β, β = if X p = true then ν else μ := ⟨_, rfl⟩
      have hβl : β.length = μ.length := by rw [hβ]; exact (hbeta _).1
      have hβm : refM β.length β = true := by rw [hβl, hβ]; exact (hbeta _).2
      have hMi : muS (if (X p || decide (p = i)) = true then ν else μ) sl' (fun k => X k || decide (k = i)) = muS β sl' (fun k => X k || decide (k = i)) := by rw [hXp, hβ]
      change GRep K F ρ S (gX l m R env X) (muS (if X p = true then ν else μ) sl' X) a w at hG
      change SB F.b μ0 ρ0 S0 w0 (muS (if X p = true then ν else μ) sl' X) ρ S w at hsb
      have hN' : ∀ a' w' ρ' S', GRep K F ρ' S' (gX l m R env (fun k => X k || decide (k = i))) (muS β sl' fun k => X k || decide (k = i)) a' w' → SB F.b μ0 ρ0 S0 w0 (muS β sl' fun k => X k || decide (k = i)) ρ' S' w' → N a' w' := fun a' w' ρ' S' hg hsb' => hN a' w' ρ' S' (by
          show GRep K F ρ' S' _ (muS (if (X p || decide (p = i)) = true then ν else μ) sl' fun k => X k || decide (k = i)) a' w'
          rw [hMi]; exact hg) (by
          show SB F.b μ0 ρ0 S0 w0 (muS (if (X p || decide (p = i)) = true then ν else μ) sl' fun k => X k || decide (k = i)) ρ' S' w'
          rw [hMi]; exact hsb')
      rw [← hβ] at hG hsb
      cases ev with
      | q hop hx hno =>
        have hXpf : X p = false := by
          rcases hei with hb | hb
          · exact hbef2 p (bef_sound hb)
          · exfalso
            unfold boxC at hb
            split at hb
            · rename_i hg0 ho0
              rcases hop with ⟨q1, q2, q3⟩ | ⟨q1, q2⟩ | ⟨q1, f', as', q2, q3⟩
              · rw [ho0] at q2; cases q2
              · rw [hg0] at q1; cases q1
              · rw [ho0] at q2; cases q2
            · cases hb
        have hβμ : β = μ := by rw [hβ, hXpf]; rfl
        subst hβμ
        have hop' := hop.congr hlook
        have hmu : muS β sl' (fun k => X k || decide (k = i)) = muS β sl' X := by
          unfold muS
          congr 1
          exact List.map_congr_left fun r hr => slotX_same (hno r hr).1 (hno r hr).2
        refine step_any ho hcomp hsb hG hnext (x := R i) (μ1 := muS β sl' X) (l := l) ?_ (fun a' w' ρ' S' hg hsb' => hN' a' w' ρ' S' (by rw [hmu]; exact hg) (by rw [hmu]; exact hsb'))
        rcases hop' with ⟨q1, q2, q3⟩ | ⟨q1, q2⟩ | ⟨q1, f, args, q2, q3⟩
        · exact .inl ⟨q1, quiet_mono q2 q3⟩
        · exact .inr (.inl ⟨q1, q2, rfl⟩)
        · exact .inr (.inr ⟨q1, rfl, f, args, q2, q3 (sl'.map (slotX X))⟩)
      | st j r e' sz cs y hj hst' => rw [hnone j r hj] at hst'; cases hst'
      | a j r hh hj hja hdst hw hop hro hx hno =>
        have hlenX : (muS β sl' X).length = μ.length + sl'.length := by simp [muS, hβl]
        have hop' : sopA s.op ((looks s).map fun t => (t, gX l m R env X t)) (muS β sl' X) = some (hh.at (muS β sl' X).length, muS β sl' X ++ [r.o]) := by
          have hev' : ∀ x ∈ opnds s.op, evX e x = evX ((looks s).map fun t => (t, gX l m R env X t)) x := fun x hx => by
            cases x with
            | c z => rfl
            | t u => exact hlook u (by unfold looks; exact List.mem_append_right _ (by unfold tmpsOf; exact List.mem_filterMap.2 ⟨.t u, hx, rfl⟩))
          rcases hei with hb | hb
          · have hXpf : X p = false := hbef2 p (bef_sound hb)
            have hβμ : β = μ := by rw [hβ, hXpf]; rfl
            subst hβμ
            have := hop (sl'.map (slotX X))
            rw [sopA_congr hev'] at this
            rw [hlenX]
            simpa [muS] using this
          · unfold boxC at hb
            split at hb
            · rename_i e0 z hg0 ho0
              simp only [Bool.and_eq_true] at hb
              obtain ⟨⟨hb0, hb1⟩, hb2⟩ := hb
              have h0 := hop []
              rw [ho0] at h0 ⊢
              rw [box_const hb1 hb2] at h0 ⊢
              simp only [List.append_nil, List.length_nil, Nat.add_zero, Option.some.injEq, Prod.mk.injEq, List.append_cancel_left_eq, List.cons.injEq, and_true] at h0
              obtain ⟨h01, h02⟩ := h0
              rw [← h02]
              cases hh with
              | pt n => simp only [HS.at, AV.ptr.injEq, and_true, true_and] at h01; obtain rfl := h01; rfl
              | sl sz len => simp [HS.at] at h01
            · cases hb
        refine step_slot ho hcomp hXi (by rw [hβl]; exact hlen0) hβm (fun j r hj => ⟨by rw [hβl]; exact (hia j r hj).2.2, hnone j r hj⟩) hj hja hdst (hguard hw) hop' (by rw [hβl]; exact hx) (fun j' r' hj' hne => (hno j' r' hj').1 hne) (fun k hk _ => ?_) (fun t => by rw [hβl]; exact hrefE t) hnext hG hsb hN'
        rw [hβl]
        obtain ⟨e', _, ev'⟩ := hev k hk
        cases ev' with
        | q _ hx' _ => exact .inl hx'
        | a j' r' h' hj' hia' _ _ _ _ hx' _ => exact .inr ⟨j', r', h', hj', hia', hx'⟩
        | st j' r' _ _ _ _ hj' hst' => rw [hnone j' r' hj'] at hst'; cases hst'
  · have := (ha.env t).stab st12
    show VR (muS (if false = true then ν else μ) sl' fun _ => false) ρ S w.drew (gX l m R env (fun _ => false) t) _
    rw [if_neg (by simp), hM0]
    have e1 : lastW l m (fun _ => false) t = none := by simp [lastW]
    have e0 : gX l m R env (fun _ => false) t = getE env t := by unfold gX; rw [e1]
    rw [e0]; exact this

end rules
end Go.Av
set_option linter.unusedVariables false
set_option linter.unusedSimpArgs false
namespace Go.Av
open Go.RowKit
section rules
variable {K : Ctx} {F : Fcx} {Q : AExit → St → Prop} {μ : List AObj}

/-- What a call has made for itself is left out behind it. -/
theorem ACalls.drop {f : Nat} {args : List AV} {ν : List AObj} {x : AV} (h : ACalls K f args μ fun ae μ' => ae = .ret x ∧ μ'.take μ.length = ν ∧ μ.length ≤ μ'.length) (hx : refA μ.length x = true) (hν : refM μ.length ν = true) :
    ACalls K f args μ fun ae μ' => ae = .ret x ∧ μ' = ν := by
  refine ⟨h.1, fun ρ S w vs hm hl hv => (h.2 ρ S w vs hm hl hv).mono ?_⟩
  rintro e w' ⟨ae, μ', ρ', S', ⟨rfl, rfl, hle⟩, r2, r3, r4⟩
  cases e <;> simp only [EndRel] at r2
  refine ⟨.ret x, _, ρ', S', ⟨rfl, rfl⟩, r2.take hx, r3.take hle hν, r4.sub, r4.blk, fun id o ho => ?_, r4.size, r4.col, fun b hlt h1 h2 => ?_⟩
  · obtain ⟨o', o1, o2⟩ := r4.obj id o ho
    refine ⟨o', ?_, o2⟩
    rw [List.getElem?_take, if_pos (List.getElem?_eq_some_iff.1 ho).1]
    exact o1
  · obtain ⟨a1, a2, a3⟩ := r4.fr b hlt h1 h2
    exact ⟨a1, a2, a3.take⟩

/-- A slice by other elements behind its end. -/
theorem VT.sl_congr {S : Nat → Prop} {w : World} {n : Nat} {f g : Nat → List AV} {v : Value} (h : VT S w (.sl n f) v) (he : ∀ i, i < n → f i = g i) : VT S w (.sl n g) v := by
  cases h with
  | sl n f a cap val h1 h2 h3 h4 =>
    refine .sl n g a cap val h1 h2 (fun hn => ?_) (fun i hi j c hj => h4 i hi j c (by rw [he i hi]; exact hj))
    obtain ⟨b, o, sz, e1, e2, e3⟩ := h3 hn
    exact ⟨b, o, sz, e1, e2, fun i hi => by rw [← he i hi]; exact e3 i hi⟩

/-- Arguments that stand for no more values. -/
theorem Holds.conv {P : Program} {G : World → Prop} {f : Nat} {args args' : List AV} {r : AV} (h : Holds P G f args r) (hl : args'.length = args.length)
    (hc : ∀ (i : Nat) x x', args'[i]? = some x' → args[i]? = some x → ∀ S w v, VT S w x' v → VT S w x v) : Holds P G f args' r := by
  refine ⟨h.1, fun w vs S hG hS hs hv => h.2 w vs S hG hS (by omega) fun i x v hx hvi => ?_⟩
  have hlt : i < args'.length := by have := (List.getElem?_eq_some_iff.1 hx).1; omega
  exact hc i x _ (List.getElem?_eq_getElem hlt) hx S w v (hv i _ v (List.getElem?_eq_getElem hlt) hvi)
end rules
end Go.Av
set_option linter.unusedVariables false
set_option linter.unusedSimpArgs false
namespace Go.Av
open Go.RowKit
theorem evc : (∀ k n, cellsOf (.int k n) = [.int k n]) ∧ (∀ b, cellsOf (.bool b) = [.bool b]) ∧ (∀ s, cellsOf (.str s) = [.str s]) ∧ (cellsOf (.nilp ) = [.nilp ]) ∧ (cellsOf (.nilfn ) = [.nilfn ]) ∧ (cellsOf (.nilif ) = [.nilif ]) ∧ (cellsOf (.nilmap ) = [.nilmap ]) ∧ (cellsOf (.nilsl ) = [.nilsl ]) ∧ (∀ cs, cellsOf (.tup cs) = [.tup cs]) ∧ (∀ n f, cellsOf (.sl n f) = [.sl n f]) ∧ (∀ f fi ca, cellsOf (.fn f fi ca) = [.fn f fi ca]) ∧ (∀ t x, cellsOf (.iface t x) = [.iface t x]) ∧ (∀ id g sz n, cellsOf (.hsl id g sz n) = [.hsl id g sz n]) ∧ (∀ id g sz i off, cellsOf (.ptr id g sz i off) = [.ptr id g sz i off]) ∧ (∀ id, cellsOf (.mp id) = [.mp id]) ∧ (∀ id, cellsOf (.yl id) = [.yl id]) ∧ (cellsOf (.dead ) = [.dead ]) ∧ (∀ cs off, cellsOf (.tptr cs off) = [.tptr cs off]) ∧ (∀ μ k n, okCell μ (.int k n) = true) ∧ (∀ μ b, okCell μ (.bool b) = true) ∧ (∀ μ s, okCell μ (.str s) = true) ∧ (∀ μ, okCell μ (.nilp ) = true) ∧ (∀ μ, okCell μ (.nilfn ) = true) ∧ (∀ μ, okCell μ (.nilif ) = true) ∧ (∀ μ, okCell μ (.nilmap ) = true) ∧ (∀ μ, okCell μ (.nilsl ) = true) ∧ (∀ μ n f, okCell μ (.sl n f) = true) ∧ (∀ μ f fi ca, okCell μ (.fn f fi ca) = true) ∧ (∀ μ t x, okCell μ (.iface t x) = true) ∧ (∀ μ cs off, okCell μ (.tptr cs off) = true) := by simp [cellsOf, okCell]
theorem decide_true' : decide True = true := decide_eq_true trivial
theorem decide_false' : decide False = false := decide_eq_false id
theorem ev0_0 : type_of% (And.intro (And.intro (And.intro @sopA.eq_1 (And.intro @sopA.eq_2 @sopA.eq_3)) (And.intro @sopA.eq_4 (And.intro @sopA.eq_5 @sopA.eq_6))) (And.intro (And.intro @sopA.eq_7 (And.intro @sopA.eq_8 @sopA.eq_9)) (And.intro @sopA.eq_10 (And.intro @sopA.eq_11 @sopA.eq_12)))) := (And.intro (And.intro (And.intro @sopA.eq_1 (And.intro @sopA.eq_2 @sopA.eq_3)) (And.intro @sopA.eq_4 (And.intro @sopA.eq_5 @sopA.eq_6))) (And.intro (And.intro @sopA.eq_7 (And.intro @sopA.eq_8 @sopA.eq_9)) (And.intro @sopA.eq_10 (And.intro @sopA.eq_11 @sopA.eq_12))))
theorem ev0_1 : type_of% (And.intro (And.intro (And.intro @sopA.eq_13 (And.intro @sopA.eq_14 @sopA.eq_15)) (And.intro @sopA.eq_16 (And.intro @sopA.eq_17 @sopA.eq_18))) (And.intro (And.intro @sopA.eq_19 (And.intro @sopA.eq_20 @sopA.eq_21)) (And.intro @sopA.eq_22 (And.intro @sopA.eq_23 @sopA.eq_24)))) := (And.intro (And.intro (And.intro @sopA.eq_13 (And.intro @sopA.eq_14 @sopA.eq_15)) (And.intro @sopA.eq_16 (And.intro @sopA.eq_17 @sopA.eq_18))) (And.intro (And.intro @sopA.eq_19 (And.intro @sopA.eq_20 @sopA.eq_21)) (And.intro @sopA.eq_22 (And.intro @sopA.eq_23 @sopA.eq_24))))
theorem ev0_2 : type_of% (And.intro (And.intro (And.intro @sopA.eq_25 (And.intro @sopA.eq_26 @sopA.eq_27)) (And.intro @sopA.eq_28 (And.intro @sopA.eq_29 @sopA.eq_30))) (And.intro (And.intro @sopA.eq_31 (And.intro @sopA.eq_32 @sopA.eq_33)) (And.intro @sopA.eq_34 (And.intro @sopA.eq_35 @sopA.eq_36)))) := (And.intro (And.intro (And.intro @sopA.eq_25 (And.intro @sopA.eq_26 @sopA.eq_27)) (And.intro @sopA.eq_28 (And.intro @sopA.eq_29 @sopA.eq_30))) (And.intro (And.intro @sopA.eq_31 (And.intro @sopA.eq_32 @sopA.eq_33)) (And.intro @sopA.eq_34 (And.intro @sopA.eq_35 @sopA.eq_36))))
theorem ev0_3 : type_of% (And.intro (And.intro (And.intro @sopA.eq_37 (And.intro @sopA.eq_38 @sopA.eq_39)) (And.intro @sopA.eq_40 (And.intro @sopA.eq_41 @evX.eq_1))) (And.intro (And.intro @evX.eq_2 (And.intro @getE.eq_1 @getE.eq_2)) (And.intro @selE.eq_1 (And.intro @selE.eq_2 @binA.eq_1)))) := (And.intro (And.intro (And.intro @sopA.eq_37 (And.intro @sopA.eq_38 @sopA.eq_39)) (And.intro @sopA.eq_40 (And.intro @sopA.eq_41 @evX.eq_1))) (And.intro (And.intro @evX.eq_2 (And.intro @getE.eq_1 @getE.eq_2)) (And.intro @selE.eq_1 (And.intro @selE.eq_2 @binA.eq_1))))
theorem ev0_4 : type_of% (And.intro (And.intro (And.intro @binA.eq_2 (And.intro @binA.eq_3 @binA.eq_4)) (And.intro @binA.eq_5 (And.intro @binA.eq_6 @binA.eq_7))) (And.intro (And.intro @binA.eq_8 (And.intro @binA.eq_9 @binA.eq_10)) (And.intro @binA.eq_11 (And.intro @binA.eq_12 @binA.eq_13)))) := (And.intro (And.intro (And.intro @binA.eq_2 (And.intro @binA.eq_3 @binA.eq_4)) (And.intro @binA.eq_5 (And.intro @binA.eq_6 @binA.eq_7))) (And.intro (And.intro @binA.eq_8 (And.intro @binA.eq_9 @binA.eq_10)) (And.intro @binA.eq_11 (And.intro @binA.eq_12 @binA.eq_13))))
theorem ev0_5 : type_of% (And.intro (And.intro (And.intro @binA.eq_14 (And.intro @binA.eq_15 @binA.eq_16)) (And.intro @binA.eq_17 (And.intro @binA.eq_18 @binA.eq_19))) (And.intro (And.intro @binA.eq_20 (And.intro @binA.eq_21 @binA.eq_22)) (And.intro @binA.eq_23 (And.intro @unA.eq_1 @unA.eq_2)))) := (And.intro (And.intro (And.intro @binA.eq_14 (And.intro @binA.eq_15 @binA.eq_16)) (And.intro @binA.eq_17 (And.intro @binA.eq_18 @binA.eq_19))) (And.intro (And.intro @binA.eq_20 (And.intro @binA.eq_21 @binA.eq_22)) (And.intro @binA.eq_23 (And.intro @unA.eq_1 @unA.eq_2))))
theorem ev0_6 : type_of% (And.intro (And.intro (And.intro @unA.eq_3 (And.intro @convA.eq_1 @convA.eq_2)) (And.intro @mmA.eq_1 (And.intro @mmA.eq_2 @withMu.eq_1))) (And.intro (And.intro @boxA.eq_1 (And.intro @loadA.eq_1 @storeA.eq_1)) (And.intro @storeA.eq_2 (And.intro @place.eq_1 @place.eq_2)))) := (And.intro (And.intro (And.intro @unA.eq_3 (And.intro @convA.eq_1 @convA.eq_2)) (And.intro @mmA.eq_1 (And.intro @mmA.eq_2 @withMu.eq_1))) (And.intro (And.intro @boxA.eq_1 (And.intro @loadA.eq_1 @storeA.eq_1)) (And.intro @storeA.eq_2 (And.intro @place.eq_1 @place.eq_2))))
theorem ev0_7 : type_of% (And.intro (And.intro (And.intro @place.eq_3 (And.intro @faA.eq_1 @faA.eq_2)) (And.intro @faA.eq_3 (And.intro @fldA.eq_1 @fldA.eq_2))) (And.intro (And.intro @ixA.eq_1 (And.intro @ixA.eq_2 @ixS.eq_1)) (And.intro @ixS.eq_2 (And.intro @ixS.eq_3 @extA.eq_1)))) := (And.intro (And.intro (And.intro @place.eq_3 (And.intro @faA.eq_1 @faA.eq_2)) (And.intro @faA.eq_3 (And.intro @fldA.eq_1 @fldA.eq_2))) (And.intro (And.intro @ixA.eq_1 (And.intro @ixA.eq_2 @ixS.eq_1)) (And.intro @ixS.eq_2 (And.intro @ixS.eq_3 @extA.eq_1))))
theorem ev0_8 : type_of% (And.intro (And.intro (And.intro @extA.eq_2 (And.intro @lenA.eq_1 @lenA.eq_2)) (And.intro @lenA.eq_3 (And.intro @lenA.eq_4 @lenS.eq_1))) (And.intro (And.intro @lenS.eq_2 (And.intro @nilchkA.eq_1 @nilchkA.eq_2)) (And.intro @nilchkA.eq_3 (And.intro @nilchkA.eq_4 @appA.eq_1)))) := (And.intro (And.intro (And.intro @extA.eq_2 (And.intro @lenA.eq_1 @lenA.eq_2)) (And.intro @lenA.eq_3 (And.intro @lenA.eq_4 @lenS.eq_1))) (And.intro (And.intro @lenS.eq_2 (And.intro @nilchkA.eq_1 @nilchkA.eq_2)) (And.intro @nilchkA.eq_3 (And.intro @nilchkA.eq_4 @appA.eq_1))))
theorem ev0_9 : type_of% (And.intro (And.intro (And.intro @srcA.eq_1 (And.intro @srcA.eq_2 @srcA.eq_3)) (And.intro @srcA.eq_4 (And.intro @mkSA.eq_1 @mkSA.eq_2))) (And.intro (And.intro @bldA.eq_1 (And.intro @bldA.eq_2 @evParts.eq_1)) (And.intro @cellsOf.eq_1 (And.intro @okCell.eq_1 @okCell.eq_2)))) := (And.intro (And.intro (And.intro @srcA.eq_1 (And.intro @srcA.eq_2 @srcA.eq_3)) (And.intro @srcA.eq_4 (And.intro @mkSA.eq_1 @mkSA.eq_2))) (And.intro (And.intro @bldA.eq_1 (And.intro @bldA.eq_2 @evParts.eq_1)) (And.intro @cellsOf.eq_1 (And.intro @okCell.eq_1 @okCell.eq_2))))
theorem ev0_10 : type_of% (And.intro (And.intro (And.intro @okCell.eq_3 (And.intro @okCell.eq_4 @okCell.eq_5)) (And.intro @okCell.eq_6 (And.intro @okCell.eq_7 @chunks.eq_1))) (And.intro (And.intro @chunks.eq_2 (And.intro @eqvA.eq_1 @eqvA.eq_2)) (And.intro @eqA.eq_1 (And.intro @eqA.eq_2 @leafA.eq_1)))) := (And.intro (And.intro (And.intro @okCell.eq_3 (And.intro @okCell.eq_4 @okCell.eq_5)) (And.intro @okCell.eq_6 (And.intro @okCell.eq_7 @chunks.eq_1))) (And.intro (And.intro @chunks.eq_2 (And.intro @eqvA.eq_1 @eqvA.eq_2)) (And.intro @eqA.eq_1 (And.intro @eqA.eq_2 @leafA.eq_1))))
theorem ev0_11 : type_of% (And.intro (And.intro (And.intro @leafA.eq_2 (And.intro @leafA.eq_3 @leafA.eq_4)) (And.intro @eqbA.eq_1 (And.intro @eqbA.eq_2 @isnilA.eq_1))) (And.intro (And.intro @isnilB.eq_1 (And.intro @isnilB.eq_2 @isnilB.eq_3)) (And.intro @isnilB.eq_4 (And.intro @isnilB.eq_5 @isnilB.eq_6)))) := (And.intro (And.intro (And.intro @leafA.eq_2 (And.intro @leafA.eq_3 @leafA.eq_4)) (And.intro @eqbA.eq_1 (And.intro @eqbA.eq_2 @isnilA.eq_1))) (And.intro (And.intro @isnilB.eq_1 (And.intro @isnilB.eq_2 @isnilB.eq_3)) (And.intro @isnilB.eq_4 (And.intro @isnilB.eq_5 @isnilB.eq_6))))
theorem ev0_12 : type_of% (And.intro (And.intro (And.intro @isnilB.eq_7 (And.intro @isnilB.eq_8 @isnilB.eq_9)) (And.intro @isnilB.eq_10 (And.intro @isnilB.eq_11 @isnilB.eq_12))) (And.intro (And.intro @isnilB.eq_13 (And.intro @ixVA.eq_1 @ixVA.eq_2)) (And.intro @ixTA.eq_1 (And.intro @ixTA.eq_2 @slSA.eq_1)))) := (And.intro (And.intro (And.intro @isnilB.eq_7 (And.intro @isnilB.eq_8 @isnilB.eq_9)) (And.intro @isnilB.eq_10 (And.intro @isnilB.eq_11 @isnilB.eq_12))) (And.intro (And.intro @isnilB.eq_13 (And.intro @ixVA.eq_1 @ixVA.eq_2)) (And.intro @ixTA.eq_1 (And.intro @ixTA.eq_2 @slSA.eq_1))))
theorem ev0_13 : type_of% (And.intro (And.intro (And.intro @slSA.eq_2 (And.intro @slSA.eq_3 @slSA.eq_4)) (And.intro @bndA.eq_1 (And.intro @bndA.eq_2 @bndA.eq_3))) (And.intro (And.intro @oEv.eq_1 (And.intro @sl0A.eq_1 @sl0A.eq_2)) (And.intro @sl0A.eq_3 (And.intro @sl0A.eq_4 @slTA.eq_1)))) := (And.intro (And.intro (And.intro @slSA.eq_2 (And.intro @slSA.eq_3 @slSA.eq_4)) (And.intro @bndA.eq_1 (And.intro @bndA.eq_2 @bndA.eq_3))) (And.intro (And.intro @oEv.eq_1 (And.intro @sl0A.eq_1 @sl0A.eq_2)) (And.intro @sl0A.eq_3 (And.intro @sl0A.eq_4 @slTA.eq_1))))
theorem ev0_14 : type_of% (And.intro (And.intro (And.intro @slTA.eq_2 (And.intro @slAA.eq_1 @slAA.eq_2)) (And.intro @mkMA.eq_1 (And.intro @lookA.eq_1 @lookA.eq_2))) (And.intro (And.intro @lookA.eq_3 (And.intro @okA.eq_1 @putMA.eq_1)) (And.intro @putMA.eq_2 (And.intro @asIA.eq_1 @asIA.eq_2)))) := (And.intro (And.intro (And.intro @slTA.eq_2 (And.intro @slAA.eq_1 @slAA.eq_2)) (And.intro @mkMA.eq_1 (And.intro @lookA.eq_1 @lookA.eq_2))) (And.intro (And.intro @lookA.eq_3 (And.intro @okA.eq_1 @putMA.eq_1)) (And.intro @putMA.eq_2 (And.intro @asIA.eq_1 @asIA.eq_2))))
theorem ev0_15 : type_of% (And.intro (And.intro (And.intro @asIA.eq_3 (And.intro @findA.eq_1 @findA.eq_2)) (And.intro @keyOK.eq_1 (And.intro @keyOK.eq_2 @strA.eq_1))) (And.intro (And.intro @strA.eq_2 (And.intro @stepThen.eq_1 @stepThen.eq_2)) (And.intro @Bool.not_true (And.intro @Bool.not_false @if_true.{1})))) := (And.intro (And.intro (And.intro @asIA.eq_3 (And.intro @findA.eq_1 @findA.eq_2)) (And.intro @keyOK.eq_1 (And.intro @keyOK.eq_2 @strA.eq_1))) (And.intro (And.intro @strA.eq_2 (And.intro @stepThen.eq_1 @stepThen.eq_2)) (And.intro @Bool.not_true (And.intro @Bool.not_false @if_true.{1}))))
theorem ev0_16 : type_of% (And.intro (And.intro (And.intro @if_false.{1} (And.intro @if_pos.{1} @Option.map_some.{0,0})) (And.intro @List.map_cons.{0,0} (And.intro @List.map_nil.{0,0} @List.length_cons.{0}))) (And.intro (And.intro @List.length_nil.{0} (And.intro @List.getElem?_cons_zero.{0} @List.getElem?_cons_succ.{0})) (And.intro @List.getElem?_nil.{0} (And.intro @List.all_cons.{0} @List.all_nil.{0})))) := (And.intro (And.intro (And.intro @if_false.{1} (And.intro @if_pos.{1} @Option.map_some.{0,0})) (And.intro @List.map_cons.{0,0} (And.intro @List.map_nil.{0,0} @List.length_cons.{0}))) (And.intro (And.intro @List.length_nil.{0} (And.intro @List.getElem?_cons_zero.{0} @List.getElem?_cons_succ.{0})) (And.intro @List.getElem?_nil.{0} (And.intro @List.all_cons.{0} @List.all_nil.{0}))))
theorem ev0_17 : type_of% (And.intro (And.intro (And.intro @Bool.and_true (And.intro @Bool.true_and @Bool.and_self)) (And.intro @List.cons_append.{0} (And.intro @List.nil_append.{0} @List.drop_succ_cons.{0}))) (And.intro (And.intro @List.drop_zero.{0} (And.intro @List.take_succ_cons.{0} @List.take_zero.{0})) (And.intro @List.drop_nil.{0} (And.intro @List.take_nil.{0} @List.set_cons_zero.{0})))) := (And.intro (And.intro (And.intro @Bool.and_true (And.intro @Bool.true_and @Bool.and_self)) (And.intro @List.cons_append.{0} (And.intro @List.nil_append.{0} @List.drop_succ_cons.{0}))) (And.intro (And.intro @List.drop_zero.{0} (And.intro @List.take_succ_cons.{0} @List.take_zero.{0})) (And.intro @List.drop_nil.{0} (And.intro @List.take_nil.{0} @List.set_cons_zero.{0}))))
theorem ev0_18 : type_of% (And.intro (And.intro (And.intro @List.set_cons_succ.{0} (And.intro @Nat.zero_add @Nat.add_zero)) (And.intro @and_self (And.intro @and_true @true_and))) (And.intro (And.intro @List.append_nil.{0} (And.intro @Int.toNat_natCast @Int.toNat_zero)) (And.intro @Nat.lt_irrefl (And.intro @wrap_i64' decide_true')))) := (And.intro (And.intro (And.intro @List.set_cons_succ.{0} (And.intro @Nat.zero_add @Nat.add_zero)) (And.intro @and_self (And.intro @and_true @true_and))) (And.intro (And.intro @List.append_nil.{0} (And.intro @Int.toNat_natCast @Int.toNat_zero)) (And.intro @Nat.lt_irrefl (And.intro @wrap_i64' decide_true'))))
theorem ev0_19 : type_of% (And.intro decide_false' evc) := (And.intro decide_false' evc)
theorem ev0 : type_of% (And.intro (And.intro (And.intro (And.intro ev0_0 ev0_1) (And.intro ev0_2 (And.intro ev0_3 ev0_4))) (And.intro (And.intro ev0_5 ev0_6) (And.intro ev0_7 (And.intro ev0_8 ev0_9)))) (And.intro (And.intro (And.intro ev0_10 ev0_11) (And.intro ev0_12 (And.intro ev0_13 ev0_14))) (And.intro (And.intro ev0_15 ev0_16) (And.intro ev0_17 (And.intro ev0_18 ev0_19))))) := (And.intro (And.intro (And.intro (And.intro ev0_0 ev0_1) (And.intro ev0_2 (And.intro ev0_3 ev0_4))) (And.intro (And.intro ev0_5 ev0_6) (And.intro ev0_7 (And.intro ev0_8 ev0_9)))) (And.intro (And.intro (And.intro ev0_10 ev0_11) (And.intro ev0_12 (And.intro ev0_13 ev0_14))) (And.intro (And.intro ev0_15 ev0_16) (And.intro ev0_17 (And.intro ev0_18 ev0_19)))))
theorem wv_0 : type_of% (And.intro (And.intro (And.intro @wantA.eq_1 (And.intro @wantA.eq_2 @evX.eq_1)) (And.intro @evX.eq_2 (And.intro @getE.eq_1 @getE.eq_2))) (And.intro (And.intro @selE.eq_1 (And.intro @selE.eq_2 @if_true.{1})) (And.intro @if_false.{1} (And.intro beq_tt beq_ff)))) := (And.intro (And.intro (And.intro @wantA.eq_1 (And.intro @wantA.eq_2 @evX.eq_1)) (And.intro @evX.eq_2 (And.intro @getE.eq_1 @getE.eq_2))) (And.intro (And.intro @selE.eq_1 (And.intro @selE.eq_2 @if_true.{1})) (And.intro @if_false.{1} (And.intro beq_tt beq_ff))))
theorem wv_1 : type_of% (And.intro (And.intro beq_ft beq_tf) (And.intro Bool.not_true Bool.not_false)) := (And.intro (And.intro beq_ft beq_tf) (And.intro Bool.not_true Bool.not_false))
theorem wv : type_of% (And.intro wv_0 wv_1) := (And.intro wv_0 wv_1)
theorem nm_0 : type_of% (And.intro (And.intro (And.intro @cellsOf.eq_1 (And.intro evc @List.length_cons.{0})) (And.intro @List.length_nil.{0} (And.intro @Nat.zero_add @List.nil_append.{0}))) (And.intro (And.intro @List.cons_append.{0} (And.intro @List.set_cons_zero.{0} @List.set_cons_succ.{0})) (And.intro @chunks.eq_1 (And.intro @chunks.eq_2 @List.take_succ_cons.{0})))) := (And.intro (And.intro (And.intro @cellsOf.eq_1 (And.intro evc @List.length_cons.{0})) (And.intro @List.length_nil.{0} (And.intro @Nat.zero_add @List.nil_append.{0}))) (And.intro (And.intro @List.cons_append.{0} (And.intro @List.set_cons_zero.{0} @List.set_cons_succ.{0})) (And.intro @chunks.eq_1 (And.intro @chunks.eq_2 @List.take_succ_cons.{0}))))
theorem nm_1 : type_of% (And.intro @List.take_zero.{0} (And.intro @List.drop_succ_cons.{0} @List.drop_zero.{0})) := (And.intro @List.take_zero.{0} (And.intro @List.drop_succ_cons.{0} @List.drop_zero.{0}))
theorem nm : type_of% (And.intro nm_0 nm_1) := (And.intro nm_0 nm_1)
theorem ns_0 : type_of% (And.intro (And.intro @List.map_cons.{0,0} @List.map_nil.{0,0}) (And.intro @List.cons_append.{0} (And.intro @List.nil_append.{0} @List.append_nil.{0}))) := (And.intro (And.intro @List.map_cons.{0,0} @List.map_nil.{0,0}) (And.intro @List.cons_append.{0} (And.intro @List.nil_append.{0} @List.append_nil.{0})))
theorem ns : type_of% ns_0 := ns_0
theorem nt_0 : type_of% (And.intro (And.intro @List.take_succ_cons.{0} (And.intro @List.take_zero.{0} @List.drop_succ_cons.{0})) (And.intro @List.drop_zero.{0} (And.intro @List.take_nil.{0} @List.drop_nil.{0}))) := (And.intro (And.intro @List.take_succ_cons.{0} (And.intro @List.take_zero.{0} @List.drop_succ_cons.{0})) (And.intro @List.drop_zero.{0} (And.intro @List.take_nil.{0} @List.drop_nil.{0})))
theorem nt : type_of% nt_0 := nt_0
theorem nb_0 : type_of% (And.intro (And.intro Bool.not_eq_true' Bool.not_eq_false') (And.intro @decide_eq_true_eq @decide_eq_false_iff_not)) := (And.intro (And.intro Bool.not_eq_true' Bool.not_eq_false') (And.intro @decide_eq_true_eq @decide_eq_false_iff_not))
theorem nb : type_of% nb_0 := nb_0
section rules
variable {K : Ctx} {F : Fcx} {env : List (Nat × AV)} {μ : List AObj} {Q : AExit → St → Prop}
theorem qT {c : SX} {x y z : SCode} (hc : evX env c = .bool true) (h1 : sem K F x ⟨env, μ⟩ (thenQ K F z Q)) : sem K F (.seq (.cond c x y) z) ⟨env, μ⟩ Q := sem_seq (scondT hc h1)
theorem qF {c : SX} {x y z : SCode} (hc : evX env c = .bool false) (h1 : sem K F y ⟨env, μ⟩ (thenQ K F z Q)) : sem K F (.seq (.cond c x y) z) ⟨env, μ⟩ Q := sem_seq (scondF hc h1)
end rules
end Go.Av
set_option linter.unusedVariables false
set_option linter.unusedSimpArgs false
namespace Go.Tk
open Go Go.Av

def slOf {α : Type} [Inhabited α] (enc : α → List AV) (l : List α) : AV := .sl l.length (fun i => enc (l.getD i default))
abbrev I (n : Int) : AV := .int .i64 n
abbrev B (b : Bool) : AV := .bool b
def intCs (n : Int) : List AV := [.int .i64 n]

theorem sl_cells {α : Type} [Inhabited α] : (∀ (enc : α → List AV) (l : List α), cellsOf (slOf enc l) = [slOf enc l]) ∧ ∀ (enc : α → List AV) (l : List α) (μ : List AObj), okCell μ (slOf enc l) = true := ⟨fun _ _ => rfl, fun _ _ _ => rfl⟩
theorem getD_lt {α : Type} [Inhabited α] {l : List α} {i : Nat} (h : i < l.length) : l.getD i default = l[i] := by
  simp [List.getD, List.getElem?_eq_getElem h]

structure Span where
  low : Int
  high : Int
  deriving Inhabited, DecidableEq
def Span.cs (s : Span) : List AV := [.int .i64 s.low, .int .i64 s.high]

structure Pile where
  depth : Int
  point : Int
  skin : Int
  load : Span
  design : Int
  cost : Int
  deriving Inhabited, DecidableEq
def Pile.cs (p : Pile) : List AV := [.int .i64 p.depth, .int .i64 p.point, .int .i64 p.skin, .int .i64 p.load.low, .int .i64 p.load.high, .int .i64 p.design, .int .i64 p.cost]

structure PileRow where
  use : Int
  settle : Span
  deriving Inhabited, DecidableEq
def PileRow.cs (r : PileRow) : List AV := [.int .i64 r.use, .int .i64 r.settle.low, .int .i64 r.settle.high]

structure PilePair where
  one : Int
  other : Int
  deriving Inhabited, DecidableEq
def PilePair.cs (r : PilePair) : List AV := [.int .i64 r.one, .int .i64 r.other]

structure PileSite where
  piles : List Pile
  pairs : List PilePair
  rows : List PileRow
  may : Int
  sink : Int
  tilt : Int
  deriving Inhabited
def PileSite.cs (s : PileSite) : List AV := [slOf Pile.cs s.piles, slOf PilePair.cs s.pairs, slOf PileRow.cs s.rows, .int .i64 s.may, .int .i64 s.sink, .int .i64 s.tilt]

structure PileTruth where
  thaw : Int
  load : Int
  settle : Int
  deriving Inhabited, DecidableEq
def PileTruth.cs (s : PileTruth) : List AV := [.int .i64 s.thaw, .int .i64 s.load, .int .i64 s.settle]

structure PileCure where
  week : Int
  part : Int
  deriving Inhabited, DecidableEq
def PileCure.cs (s : PileCure) : List AV := [.int .i64 s.week, .int .i64 s.part]

end Go.Tk
