/- Code over abstract states: one triple, its rules. -/
import Derived.Test.YtcllnnjeaidppaaGreatDoorPMa
import Derived.RangeFuncRecord
import Derived.Sort.LoopGhostIn
import Derived.Scope
set_option linter.unusedVariables false
set_option linter.unusedSimpArgs false
namespace Go.Av
open Go.RowKit

inductive AExit where
  | normal
  | exit (id : Nat)
  | ret
  | panic (x : AV)

def ExRel (μ : List AObj) (ρ : Nat → Option (Nat × Nat)) (S : Nat → Prop) (w : World) : AExit → Exit → Prop
  | .normal, .normal => True
  | .exit i, .exit j => i = j
  | .ret, .ret => True
  | .panic x, .panic [⟨v, false, false⟩] => VR μ ρ S w x v
  | _, _ => False

/-- An activation: in which round, how many slots, what is deferred, how many objects were there when it began. -/
structure Fcx where
  r : Option Nat
  n : Nat
  D : Nat
  b : Nat
  tl : Option (List Deferred)

def markOf (D : Nat) : Deferred := { target := .collected D, args := #[] }

/-- The marks of the loops over functions that a frame has come through since what tl says was deferred; none at all if tl is none. -/
def Marks (F : Fcx) (S : Nat → Prop) (w : World) (ds : List Deferred) : Prop :=
  F.D ≤ w.heap.size ∧ (F.tl = none → ds = []) ∧ ∀ t, F.tl = some t → ∃ l : List Nat, ds = l.map markOf ++ t ∧ l.Nodup ∧ ∀ D ∈ l, F.D ≤ D ∧ ¬ S D ∧ w.heap[D]? = some (.deferred (some []))

theorem Marks.stab {F μ ρ S w μ' ρ' S' w' ds} (hm : Marks F S w ds) (k : Stab μ ρ S w μ' ρ' S' w') : Marks F S' w' ds := by
  obtain ⟨hh, h0, hs⟩ := hm
  refine ⟨Nat.le_trans hh k.size, h0, fun t ht => ?_⟩
  obtain ⟨l, h1, h2, h3⟩ := hs t ht
  exact ⟨l, h1, h2, fun D hD => ⟨(h3 D hD).1, (k.col D (h3 D hD).2.1 (h3 D hD).2.2).2, (k.col D (h3 D hD).2.1 (h3 D hD).2.2).1⟩⟩

structure SB (b : Nat) (μ : List AObj) (ρ : Nat → Option (Nat × Nat)) (S : Nat → Prop) (w : World) (μ' : List AObj) (ρ' : Nat → Option (Nat × Nat)) (S' : Nat → Prop) (w' : World) : Prop where
  len : μ.length ≤ b
  stab : Stab μ ρ S w μ' ρ' S' w'

theorem SB.trans {b μ ρ S w μ' ρ' S' w' μ'' ρ'' S'' w''} (h : SB b μ ρ S w μ' ρ' S' w') (k : Stab μ' ρ' S' w' μ'' ρ'' S'' w'') : SB b μ ρ S w μ'' ρ'' S'' w'' := ⟨h.len, h.stab.trans k⟩

structure ARep (K : Ctx) (F : Fcx) (ρ : Nat → Option (Nat × Nat)) (S : Nat → Prop) (σ : St) (a : Act) (w : World) : Prop where
  mu : RepMu K ρ S σ.mu w
  size : a.tmps.size = F.n
  defers : Marks F S w a.defers
  env : ∀ t, VR σ.mu ρ S w (getE σ.env t) (a.tmps.getD t undef)

/-- A frame's fence: all functions; in a round of a range over a function, that round's. -/
def Fr (r : Option Nat) : Fence := { Fence.wide with round := r }

def Post (K : Ctx) (F : Fcx) (μ0 : List AObj) (ρ0 : Nat → Option (Nat × Nat)) (S0 : Nat → Prop) (w0 : World) (Q : AExit → St → Prop) : Exit → Act → World → Prop :=
  fun e a w => ∃ ae σ ρ S, ExRel σ.mu ρ S w ae e ∧ Q ae σ ∧ ARep K F ρ S σ a w ∧ SB F.b μ0 ρ0 S0 w0 σ.mu ρ S w

/-- From the abstract state σ the code comes to what Q says. -/
def sem (K : Ctx) (F : Fcx) (s : SCode) (σ : St) (Q : AExit → St → Prop) : Prop :=
  ∀ c, compC K.P F.n c = some s → ∀ a w ρ S, ARep K F ρ S σ a w → ∀ μ0 ρ0 S0 w0, SB F.b μ0 ρ0 S0 w0 σ.mu ρ S w → c.wpIn (Fr F.r) 0 K.P (Post K F μ0 ρ0 S0 w0 Q) a w

/-- The like of a region's operations from some place on. -/
def semL (K : Ctx) (F : Fcx) (l : List SOper) (σ : St) (Q : AExit → St → Prop) : Prop :=
  ∀ (all : Array Oper) (k : Nat) (ol : List Oper), (∀ i : Nat, i < ol.length → ol[i]? = all[k + i]?) → compL K.P F.n all ol = some l → ∀ a w ρ S, ARep K F ρ S σ a w →
    ∀ μ0 ρ0 S0 w0, SB F.b μ0 ρ0 S0 w0 σ.mu ρ S w → wpOpsIn (Fr F.r) 0 K.P all (Post K F μ0 ρ0 S0 w0 Q) (List.range' k ol.length) a w

mutual
/-- No object from the number k on is named. -/
def refA (k : Nat) : AV → Bool
  | .agg cs => refL k cs
  | .tup cs => refL k cs
  | .fn _ fi ca => refL k fi && refL k ca
  | .iface _ x => refA k x
  | .hsl id _ _ _ => decide (id < k)
  | .ptr id _ _ _ _ => decide (id < k)
  | .mp id => decide (id < k)
  | .yl id => decide (id < k)
  | .dead => true
  | .int _ _ => true
  | .bool _ => true
  | .str _ => true
  | .nilp => true
  | .nilfn => true
  | .nilif => true
  | .nilmap => true
  | .nilsl => true
  | .sl _ _ => true
  | .tptr _ _ => true
def refL (k : Nat) : List AV → Bool
  | [] => true
  | x :: r => refA k x && refL k r
end

def refE (k : Nat) (env : List (Nat × AV)) : Bool := env.all fun p => refA k (getE env p.1)

def refO (k : Nat) : AObj → Bool
  | .row _ _ _ es => es.all (refL k)
  | .map es => es.all fun p => refA k p.2
  | .loop _ _ e => refE k e
  | .iter _ _ _ => true
  | .gone => true

def refM (k : Nat) : List AObj → Bool
  | [] => true
  | o :: r => refO k o && refM k r

section rules
variable {K : Ctx} {F : Fcx} {σ : St} {Q : AExit → St → Prop}

theorem Post.mono {μ0 ρ0 S0 w0 Q'} (hq : ∀ e σ, Q e σ → Q' e σ) {e a w} (h : Post K F μ0 ρ0 S0 w0 Q e a w) : Post K F μ0 ρ0 S0 w0 Q' e a w := by
  obtain ⟨ae, σ, ρ, S, h1, h2, h3⟩ := h
  exact ⟨ae, σ, ρ, S, h1, hq _ _ h2, h3⟩

theorem sem.mono {s : SCode} {Q' : AExit → St → Prop} (h : sem K F s σ Q) (hq : ∀ e σ, Q e σ → Q' e σ) : sem K F s σ Q' :=
  fun c hc a w ρ S ha μ0 ρ0 S0 w0 hst => wpIn_mono (h c hc a w ρ S ha μ0 ρ0 S0 w0 hst) fun _ _ _ => Post.mono hq

def CompInv (P : Program) (n : Nat) (c : Code) : SCode → Prop
  | .skip => c = .skip ∨ ∃ l, c = .label l
  | .scope a => ∃ x, c = .scope x ∧ compC P n x = some a
  | .reg l => ∃ i ops, c = .region i ops false ∧ compL P n ops ops.toList = some l
  | .dreg l pre => ∃ i ops, c = .region i ops true ∧ compL P n ops ops.toList = some l ∧ pre = ops.toList.map preOf
  | .seq a b => ∃ x y, c = .seq x y ∧ compC P n x = some a ∧ compC P n y = some b
  | .cond t a b => ∃ u x y, c = .cond u x y ∧ compX u = some t ∧ compC P n x = some a ∧ compC P n y = some b
  | .block id a => ∃ x, c = .block id x ∧ compC P n x = some a
  | .loop a => ∃ x, c = .loop x ∧ compC P n x = some a
  | .rng f ps a b => ∃ g p x y, c = .rangeFunc g p x y ∧ compX g = some f ∧ compC P n x = some a ∧ compC P n y = some b ∧ p.toList = ps ∧ ∀ q ∈ ps, q < n
  | .exit id => c = .exit id
  | .ret => c = .ret

theorem comp_inv {P : Program} {n : Nat} {c : Code} {s : SCode} (h : compC P n c = some s) : CompInv P n c s := by
  cases c with
  | region i ops d =>
    cases d
    · simp only [compC, Option.map_eq_some_iff] at h
      obtain ⟨l, h1, rfl⟩ := h
      exact ⟨i, ops, rfl, h1⟩
    · simp only [compC, Option.map_eq_some_iff] at h
      obtain ⟨l, h1, rfl⟩ := h
      exact ⟨i, ops, rfl, h1, rfl⟩
  | skip => simp only [compC, Option.some.injEq] at h; subst h; exact .inl rfl
  | label l => simp only [compC, Option.some.injEq] at h; subst h; exact .inr ⟨l, rfl⟩
  | scope a =>
    simp only [compC, Option.map_eq_some_iff] at h
    obtain ⟨l, h1, rfl⟩ := h
    exact ⟨a, rfl, h1⟩
  | exit id => simp only [compC, Option.some.injEq] at h; subst h; rfl
  | ret => simp only [compC, Option.some.injEq] at h; subst h; rfl
  | seq a b =>
    simp only [compC] at h
    split at h <;> cases h
    rename_i h1 h2
    exact ⟨a, b, rfl, h1, h2⟩
  | cond u a b =>
    simp only [compC] at h
    split at h <;> cases h
    rename_i h0 h1 h2
    exact ⟨u, a, b, rfl, h0, h1, h2⟩
  | block id a =>
    simp only [compC, Option.map_eq_some_iff] at h
    obtain ⟨l, h1, rfl⟩ := h
    exact ⟨a, rfl, h1⟩
  | loop a =>
    simp only [compC, Option.map_eq_some_iff] at h
    obtain ⟨l, h1, rfl⟩ := h
    exact ⟨a, rfl, h1⟩
  | rangeFunc g p a b =>
    simp only [compC] at h
    split at h <;> try (cases h; done)
    rename_i h0 h1 h2
    split at h
    · rename_i hp
      cases h
      exact ⟨g, p, a, b, rfl, h0, h1, h2, rfl, fun q hq => by simpa using List.all_eq_true.1 hp q hq⟩
    · cases h
  | _ => simp [compC] at h

theorem sem_skip (h : Q .normal σ) : sem K F .skip σ Q := by
  intro c hc a w ρ S ha μ0 ρ0 S0 w0 hst
  rcases (show c = .skip ∨ ∃ l, c = .label l from comp_inv hc) with rfl | ⟨l, rfl⟩
  · exact wpIn_skip ⟨.normal, σ, ρ, S, trivial, h, ha, hst⟩
  · exact wpIn_label ⟨.normal, σ, ρ, S, trivial, h, ha, hst⟩

theorem sem_ret (h : Q .ret σ) : sem K F .ret σ Q := by
  intro c hc a w ρ S ha μ0 ρ0 S0 w0 hst
  obtain rfl : c = .ret := comp_inv hc
  exact wpIn_ret ⟨.ret, σ, ρ, S, trivial, h, ha, hst⟩

theorem sem_exit {id : Nat} (h : Q (.exit id) σ) : sem K F (.exit id) σ Q := by
  intro c hc a w ρ S ha μ0 ρ0 S0 w0 hst
  obtain rfl : c = .exit id := comp_inv hc
  exact wpIn_exit ⟨.exit id, σ, ρ, S, rfl, h, ha, hst⟩

def thenQ (K : Ctx) (F : Fcx) (b : SCode) (Q : AExit → St → Prop) : AExit → St → Prop
  | .normal, σ => sem K F b σ Q
  | e, σ => Q e σ

theorem sem_seq {x y : SCode} (h : sem K F x σ (thenQ K F y Q)) : sem K F (.seq x y) σ Q := by
  intro c hc a w ρ S ha μ0 ρ0 S0 w0 hst
  obtain ⟨c1, c2, rfl, h1, h2⟩ := comp_inv hc
  refine wpIn_seq (wpIn_mono (h c1 h1 a w ρ S ha μ0 ρ0 S0 w0 hst) fun e a' w' hp => ?_)
  obtain ⟨ae, σ', ρ', S', h3, h4, h5, h6⟩ := hp
  cases ae <;> cases e <;> simp only [ExRel] at h3 <;> try (exact h3.elim)
  · exact h4 c2 h2 a' w' ρ' S' h5 μ0 ρ0 S0 w0 h6
  · exact ⟨.exit _, σ', ρ', S', h3, h4, h5, h6⟩
  · exact ⟨.ret, σ', ρ', S', trivial, h4, h5, h6⟩
  · exact ⟨.panic _, σ', ρ', S', h3, h4, h5, h6⟩

theorem ARep.eval {a w ρ S} (ha : ARep K F ρ S σ a w) : EvRel ρ S σ.mu w σ.env a.eval := by
  intro x sx hx
  cases x with
  | tmp t => simp only [compX, Option.some.injEq] at hx; subst hx; exact ha.env t
  | const v =>
    simp only [compX, Option.map_eq_some_iff] at hx
    obtain ⟨y, h1, rfl⟩ := hx
    exact .t (constA_rel h1)
  | func f => simp only [compX, Option.some.injEq] at hx; subst hx; exact .t (.fn _ _ _ _ _ rfl rfl (by simp) (by simp))
  | global g => simp [compX] at hx

theorem sem_cond {c : SX} {x y : SCode} {t : Bool} (hc : evX σ.env c = .bool t) (h1 : t = true → sem K F x σ Q) (h2 : t = false → sem K F y σ Q) : sem K F (.cond c x y) σ Q := by
  intro c' hc' a w ρ S ha μ0 ρ0 S0 w0 hst
  obtain ⟨u, c1, c2, rfl, k0, k1, k2⟩ := comp_inv hc'
  have hu := ha.eval u c k0
  rw [hc] at hu
  have hu := bool_inv hu
  refine wpIn_cond hu ?_
  cases t
  · exact h2 rfl c2 k2 a w ρ S ha μ0 ρ0 S0 w0 hst
  · exact h1 rfl c1 k1 a w ρ S ha μ0 ρ0 S0 w0 hst

theorem stepR_scope {P : Program} {b : Frame} {a : Act} {k : List Item} {cs : List Frame} {w : World} {c : Code} : step P (lone (b.atR a (.code (.scope c) :: k)) cs w) = .next (lone (b.atR a (.code c :: .inScope c :: k)) cs w) :=
  step_lone_go (by simp [stepG, stepG.exec, Frame.atR])
theorem stepR_inScope {P : Program} {b : Frame} {a : Act} {k : List Item} {cs : List Frame} {w : World} {c : Code} : step P (lone (b.atR a (.inScope c :: k)) cs w) = .next (lone (b.atR a k) cs w) :=
  step_lone_go (by simp [stepG, stepG.exec, Frame.atR])

theorem wpIn_scope {Fe : Fence} {n : Nat} {P : Program} {Q : Exit → Act → World → Prop} {a : Act} {w : World} {c : Code} (h : c.wpIn Fe n P (Exit.noGoto Q) a w) : (Code.scope c).wpIn Fe n P Q a w := by
  intro b k cs hro hb hr
  have h0 : (lone (b.atR a (.code (.scope c) :: k)) cs w).fenced P Fe := fenced_calm hb hr rfl
  obtain ⟨e, a₁, w₁, hq, harr⟩ := h b (.inScope c :: k) cs hro hb hr
  cases e with
  | normal => exact ⟨.normal, a₁, w₁, hq, .head h0 stepR_scope (StepsIn.trans harr (.one (fenced_calm hb hr rfl) stepR_inScope))⟩
  | exit id =>
    have hx : exitTo id (.inScope c :: k) = exitTo id k := by simp [exitTo]
    exact ⟨.exit id, a₁, w₁, hq, fun k' hk => .head h0 stepR_scope (harr.1 k' (by rw [hx]; exact hk)),
      fun hr' hk => let ⟨k₁, h1, h2⟩ := harr.2 hr' (by rw [hx]; exact hk); ⟨k₁, h1, .head h0 stepR_scope h2⟩⟩
  | goto l => exact hq.elim
  | ret => exact ⟨_, a₁, w₁, hq, .of_steps (.one h0 stepR_scope) harr⟩
  | panic ch => exact ⟨_, a₁, w₁, hq, .of_steps (.one h0 stepR_scope) harr⟩
  | outgrown => exact ⟨_, a₁, w₁, hq, .of_steps (.one h0 stepR_scope) harr⟩

theorem sem_scope {x : SCode} (h : sem K F x σ Q) : sem K F (.scope x) σ Q := by
  intro c hc a w ρ S ha μ0 ρ0 S0 w0 hst
  obtain ⟨c1, rfl, h1⟩ := comp_inv hc
  refine wpIn_scope (wpIn_mono (h c1 h1 a w ρ S ha μ0 ρ0 S0 w0 hst) fun e a' w' hp => ?_)
  obtain ⟨ae, σ', ρ', S', h3, h4, h5, h6⟩ := hp
  cases ae <;> cases e <;> simp only [ExRel] at h3 <;> try (exact h3.elim)
  · exact ⟨.normal, σ', ρ', S', trivial, h4, h5, h6⟩
  · exact ⟨.exit _, σ', ρ', S', h3, h4, h5, h6⟩
  · exact ⟨.ret, σ', ρ', S', trivial, h4, h5, h6⟩
  · exact ⟨.panic _, σ', ρ', S', h3, h4, h5, h6⟩

def blockQ (id : Nat) (Q : AExit → St → Prop) : AExit → St → Prop
  | .exit i, σ => if i = id then Q .normal σ else Q (.exit i) σ
  | e, σ => Q e σ

theorem sem_block {id : Nat} {x : SCode} (h : sem K F x σ (blockQ id Q)) : sem K F (.block id x) σ Q := by
  intro c hc a w ρ S ha μ0 ρ0 S0 w0 hst
  obtain ⟨c1, rfl, h1⟩ := comp_inv hc
  refine wpIn_block (wpIn_mono (h c1 h1 a w ρ S ha μ0 ρ0 S0 w0 hst) fun e a' w' hp => ?_)
  obtain ⟨ae, σ', ρ', S', h3, h4, h5, h6⟩ := hp
  cases ae <;> cases e <;> simp only [ExRel] at h3 <;> try (exact h3.elim)
  · exact ⟨.normal, σ', ρ', S', trivial, h4, h5, h6⟩
  · subst h3
    simp only [blockQ] at h4
    simp only [Exit.inBlock]
    split at h4
    · rename_i hid; rw [if_pos hid]; exact ⟨.normal, σ', ρ', S', trivial, h4, h5, h6⟩
    · rename_i hid; rw [if_neg hid]; exact ⟨.exit _, σ', ρ', S', rfl, h4, h5, h6⟩
  · exact ⟨.ret, σ', ρ', S', trivial, h4, h5, h6⟩
  · exact ⟨.panic _, σ', ρ', S', h3, h4, h5, h6⟩

/-- τ says no more than σ: fewer slots; or objects that nothing names any longer are left out. -/
structure Le (b : Nat) (σ τ : St) : Prop where
  env : ∀ t, getE τ.env t = .dead ∨ getE τ.env t = getE σ.env t
  mu : τ.mu = σ.mu ∨ (b ≤ τ.mu.length ∧ τ.mu = σ.mu.take τ.mu.length ∧ refE τ.mu.length τ.env = true ∧ refM τ.mu.length τ.mu = true)

theorem getE_mem : ∀ (env : List (Nat × AV)) (t : Nat), getE env t = .dead ∨ ∃ p ∈ env, p.1 = t
  | [], t => .inl rfl
  | (k, x) :: r, t => by
    by_cases h : k = t
    · exact .inr ⟨(k, x), by simp, h⟩
    · rw [getE_cons, if_neg h]
      rcases getE_mem r t with h2 | ⟨p, h2, h3⟩
      · exact .inl h2
      · exact .inr ⟨p, by simp [h2], h3⟩

theorem refE_get {k : Nat} {env : List (Nat × AV)} (h : refE k env = true) (t : Nat) : refA k (getE env t) = true := by
  rcases getE_mem env t with h2 | ⟨p, h2, h3⟩
  · rw [h2]; rfl
  · have := List.all_eq_true.1 h p h2
    rw [h3] at this
    exact this

theorem refM_get {k : Nat} : ∀ {μ : List AObj} {i : Nat} {o : AObj}, refM k μ = true → μ[i]? = some o → refO k o = true
  | [], i, o, _, e => by simp at e
  | p :: μ, 0, o, h, e => by
    simp only [refM, Bool.and_eq_true] at h
    simp at e; subst e; exact h.1
  | p :: μ, i + 1, o, h, e => by
    simp only [refM, Bool.and_eq_true] at h
    exact refM_get h.2 (by simpa using e)

theorem refL_get {k : Nat} : ∀ {l : List AV} {i : Nat} {x : AV}, refL k l = true → l[i]? = some x → refA k x = true
  | [], i, x, _, e => by simp at e
  | y :: l, 0, x, h, e => by
    simp only [refL, Bool.and_eq_true] at h
    simp at e; subst e; exact h.1
  | y :: l, i + 1, x, h, e => by
    simp only [refL, Bool.and_eq_true] at h
    exact refL_get h.2 (by simpa using e)

theorem VR.take {μ ρ S w x v} {k : Nat} (h : VR μ ρ S w x v) (hr : refA k x = true) : VR (μ.take k) ρ S w x v := by
  induction h with
  | t h => exact .t h
  | agg cs vs hl _ ih => simp only [refA] at hr; exact .agg cs vs hl fun i c v a b => ih i c v a b (refL_get hr a)
  | tup cs vs hl _ ih => simp only [refA] at hr; exact .tup cs vs hl fun i c v a b => ih i c v a b (refL_get hr a)
  | fn f fi ca vf vc h1 h2 _ _ ih1 ih2 =>
    simp only [refA, Bool.and_eq_true] at hr
    exact .fn f fi ca vf vc h1 h2 (fun i c v a b => ih1 i c v a b (refL_get hr.1 a)) (fun i c v a b => ih2 i c v a b (refL_get hr.2 a))
  | iface t x v _ ih => simp only [refA] at hr; exact .iface t x v (ih hr)
  | hsl h1 h2 h3 => simp only [refA, decide_eq_true_eq] at hr; exact .hsl (by rw [List.getElem?_take, if_pos hr]; exact h1) h2 h3
  | hsl0 h1 h3 => simp only [refA, decide_eq_true_eq] at hr; exact .hsl0 (by rw [List.getElem?_take, if_pos hr]; exact h1) h3
  | hslOld v h1 h2 => simp only [refA, decide_eq_true_eq] at hr; exact .hslOld v (by rw [List.getElem?_take, if_pos hr]; exact h1) h2
  | hslGone v h1 => simp only [refA, decide_eq_true_eq] at hr; exact .hslGone v (by rw [List.getElem?_take, if_pos hr]; exact h1)
  | ptr h1 h2 h3 => simp only [refA, decide_eq_true_eq] at hr; exact .ptr (by rw [List.getElem?_take, if_pos hr]; exact h1) h2 h3
  | ptrOld v h1 h2 => simp only [refA, decide_eq_true_eq] at hr; exact .ptrOld v (by rw [List.getElem?_take, if_pos hr]; exact h1) h2
  | ptrGone v h1 => simp only [refA, decide_eq_true_eq] at hr; exact .ptrGone v (by rw [List.getElem?_take, if_pos hr]; exact h1)
  | mp h1 h3 => simp only [refA, decide_eq_true_eq] at hr; exact .mp (by rw [List.getElem?_take, if_pos hr]; exact h1) h3
  | mpI h1 h3 => simp only [refA, decide_eq_true_eq] at hr; exact .mpI (by rw [List.getElem?_take, if_pos hr]; exact h1) h3
  | mpGone v h1 => simp only [refA, decide_eq_true_eq] at hr; exact .mpGone v (by rw [List.getElem?_take, if_pos hr]; exact h1)
  | yl h1 h3 => simp only [refA, decide_eq_true_eq] at hr; exact .yl (by rw [List.getElem?_take, if_pos hr]; exact h1) h3
  | ylGone v h1 => simp only [refA, decide_eq_true_eq] at hr; exact .ylGone v (by rw [List.getElem?_take, if_pos hr]; exact h1)
  | dead v => exact .dead v

theorem RepMu.take {ρ S μ w} {k : Nat} (h : RepMu K ρ S μ w) (hk : k ≤ μ.length) (hr : refM k (μ.take k) = true) : RepMu K ρ S (μ.take k) w := by
  have hget : ∀ (i : Nat) o, (μ.take k)[i]? = some o → μ[i]? = some o := fun i o ho => by
    rw [List.getElem?_take] at ho
    split at ho
    · exact ho
    · cases ho
  refine ⟨h.below, h.st, h.own, fun id o ho => ?_, fun id id' o o' B c c' ho ho' => h.inj id id' o o' B c c' (hget _ _ ho) (hget _ _ ho')⟩
  have hro := refM_get hr ho
  have hor := h.ob id o (hget _ _ ho)
  cases o with
  | gone => trivial
  | row e g sz es =>
    rcases hor with h1 | ⟨B, cap, cur, h1, h2, h3, h4, h5, h6, h7, h8⟩
    · exact .inl h1
    · refine .inr ⟨B, cap, cur, h1, h2, h3, h4, h5, h6, h7, fun i cs hi => ⟨(h8 i cs hi).1, fun j c hj => ?_⟩⟩
      obtain ⟨v, v1, v2, v3⟩ := (h8 i cs hi).2 j c hj
      refine ⟨v, v1, v2.take ?_, v3⟩
      simp only [refO] at hro
      have := List.all_eq_true.1 hro cs (List.mem_of_getElem? hi)
      exact refL_get this hj
  | map es =>
    obtain ⟨B, cap, ents, clock, h1, h2, h3, h4, es', h7, h5, h6⟩ := hor
    refine ⟨B, cap, ents, clock, h1, h2, h3, h4, es', h7, h5, fun i k' v hi => ?_⟩
    obtain ⟨en, e1, e2, e3⟩ := h6 i k' v hi
    refine ⟨en, e1, e2, e3.take ?_⟩
    simp only [refO] at hro
    exact List.all_eq_true.1 hro (k', v) (h7.mem_iff.1 (List.mem_of_getElem? hi))
  | loop c st env =>
    obtain ⟨B, cap, rec, h1, h2, h3, h4, h5, h6, h7, h8, h9, h10⟩ := hor
    exact ⟨B, cap, rec, h1, h2, h3, h4, h5, h6, h7, h8, h9, fun t => (h10 t).take (refE_get hro t)⟩
  | iter s pos ml => exact hor

theorem ARep.le {a w ρ S} {τ : St} (ha : ARep K F ρ S σ a w) (h : Le F.b σ τ) : ARep K F ρ S τ a w := by
  rcases h.mu with h1 | ⟨h1, h2, h3, h4⟩
  · refine ⟨by rw [h1]; exact ha.mu, ha.size, ha.defers, fun t => ?_⟩
    rw [h1]
    rcases h.env t with h2 | h2
    · rw [h2]; exact .dead _
    · rw [h2]; exact ha.env t
  · have hk : τ.mu.length ≤ σ.mu.length := by rw [h2]; simp; omega
    refine ⟨?_, ha.size, ha.defers, fun t => ?_⟩
    · rw [h2]
      exact ha.mu.take hk (by rw [← h2]; exact h4)
    · have hr := refE_get h3 t
      rcases h.env t with h5 | h5
      · rw [h5]; exact .dead _
      · rw [h2]
        rw [h5] at hr ⊢
        exact (ha.env t).take hr

theorem SB.le {μ0 ρ0 S0 w0 w ρ S} {τ : St} (hst : SB F.b μ0 ρ0 S0 w0 σ.mu ρ S w) (h : Le F.b σ τ) : SB F.b μ0 ρ0 S0 w0 τ.mu ρ S w := by
  rcases h.mu with h1 | ⟨h1, h2, _⟩
  · rw [h1]; exact hst
  · refine ⟨hst.len, hst.stab.sub, hst.stab.blk, fun id o ho => ?_, hst.stab.size, hst.stab.col, fun b hlt h1' h3 => ?_⟩
    · obtain ⟨o', o1, o2⟩ := hst.stab.obj id o ho
      refine ⟨o', ?_, o2⟩
      have := (List.getElem?_eq_some_iff.1 ho).1
      have := hst.len
      rw [h2, List.getElem?_take, if_pos (by omega)]
      exact o1
    · obtain ⟨a1, a2, a3⟩ := hst.stab.fr b hlt h1' h3
      exact ⟨a1, a2, by rw [h2]; exact a3.take⟩

theorem Le.refl (σ : St) : Le F.b σ σ := ⟨fun _ => .inr rfl, .inl rfl⟩

theorem env_of {σ : St} {env : List (Nat × AV)} (h : ∀ p ∈ env, getE σ.env p.1 = p.2) : ∀ t, getE env t = .dead ∨ getE env t = getE σ.env t := by
  intro t
  have : ∀ e : List (Nat × AV), (∀ p ∈ e, getE σ.env p.1 = p.2) → getE e t = .dead ∨ getE e t = getE σ.env t := by
    intro e
    induction e with
    | nil => intro _; exact .inl rfl
    | cons p q ih =>
      intro hh
      obtain ⟨k, x⟩ := p
      rw [getE_cons]
      split
      · rename_i hk; subst hk; exact .inr (hh (k, x) (by simp)).symm
      · exact ih fun p hp => hh p (by simp [hp])
  exact this env h

/-- What a loop's round must come to. -/
def loopQ {α : Type} (b : Nat) (mk : α → St) (I : α → Prop) (m : α → Nat) (y : α) (Q : AExit → St → Prop) : AExit → St → Prop
  | .normal, σ' => ∃ z, I z ∧ m z < m y ∧ Le b σ' (mk z)
  | e, σ' => Q e σ'

/-- A loop: its head's states, of which something holds, and a measure. -/
theorem sem_loop {α : Type} {x : SCode} (mk : α → St) (I : α → Prop) (m : α → Nat) (x0 : α) (h0 : I x0) (hle : Le F.b σ (mk x0))
    (step : ∀ y, I y → sem K F x (mk y) (loopQ F.b mk I m y Q)) : sem K F (.loop x) σ Q := by
  intro c hc a w ρ S ha μ0 ρ0 S0 w0 hst
  obtain ⟨c1, rfl, h1⟩ := comp_inv hc
  refine wpIn_loop_ghost (fun k a w => ∃ y ρ S, I y ∧ m y = k ∧ ARep K F ρ S (mk y) a w ∧ SB F.b μ0 ρ0 S0 w0 (mk y).mu ρ S w) (m x0) ⟨x0, ρ, S, h0, rfl, ha.le hle, hst.le hle⟩ ?_
  rintro k a w ⟨y, ρ, S, hy, rfl, ha, hst⟩
  refine wpIn_mono (step y hy c1 h1 a w ρ S ha μ0 ρ0 S0 w0 hst) fun e a' w' hp => ?_
  obtain ⟨ae, σ', ρ', S', h3, h4, h5, h6⟩ := hp
  cases ae <;> cases e <;> simp only [ExRel] at h3 <;> try (exact h3.elim)
  · obtain ⟨z, z1, z2, z3⟩ := h4
    exact ⟨m z, z2, z, ρ', S', z1, rfl, h5.le z3, h6.le z3⟩
  · exact ⟨.exit _, σ', ρ', S', h3, h4, h5, h6⟩
  · exact ⟨.ret, σ', ρ', S', trivial, h4, h5, h6⟩
  · exact ⟨.panic _, σ', ρ', S', h3, h4, h5, h6⟩

/-- A region that draws no order. -/
theorem sem_reg {l : List SOper} (h : semL K F l σ Q) : sem K F (.reg l) σ Q := by
  intro c hc a w ρ S ha μ0 ρ0 S0 w0 hst
  obtain ⟨i, ops, rfl, h1⟩ := comp_inv hc
  refine wpIn_region ?_
  have := h ops 0 ops.toList (fun i hi => by simp) h1 a w ρ S ha μ0 ρ0 S0 w0 hst
  rw [List.range_eq_range']
  simpa using this

theorem semL_nil (h : Q .normal σ) : semL K F [] σ Q := by
  intro all k ol hol hc a w ρ S ha μ0 ρ0 S0 w0 hst
  cases ol with
  | nil => exact ⟨.normal, σ, ρ, S, trivial, h, ha, hst⟩
  | cons o ol =>
    simp only [compL] at hc
    split at hc <;> simp at hc

/-- The state behind an operation. -/
def St.put (σ : St) (d : Option Nat) (x : AV) (μ : List AObj) : St := ⟨match d with | some d => (d, x) :: σ.env | none => σ.env, μ⟩

theorem ARep.put {a w ρ S ρ' S' w'} {d : Option Nat} {x : AV} {v : Value} {μ : List AObj} (ha : ARep K F ρ S σ a w) (hd : ∀ t, d = some t → t < F.n) (hx : VR μ ρ' S' w' x v) (hm : RepMu K ρ' S' μ w')
    (hst : Stab σ.mu ρ S w μ ρ' S' w') : ARep K F ρ' S' (σ.put d x μ) (a.put d v) w' := by
  cases d with
  | none => exact ⟨hm, ha.size, ha.defers.stab hst, fun t => (ha.env t).stab hst⟩
  | some t0 =>
    have hlt : t0 < a.tmps.size := by rw [ha.size]; exact hd t0 rfl
    refine ⟨hm, by simp [Act.put, ha.size], ha.defers.stab hst, fun t => ?_⟩
    simp only [St.put, getE_cons, Act.put]
    split
    · rename_i h; subst h
      simp only [Array.getD_eq_getD_getElem?]
      rw [Array.getElem?_setIfInBounds_self_of_lt hlt]
      exact hx
    · rename_i h
      have := (ha.env t).stab hst
      simp only [Array.getD_eq_getD_getElem?] at this ⊢
      rw [Array.getElem?_setIfInBounds_ne h]
      exact this

theorem comp_dst {P : Program} {n : Nat} {all : Array Oper} {o : Oper} {s : SOper} (h : compOper P n all o = some s) :
    compOp P o = some s.op ∧ s.dst = o.dst ∧ (∀ t, o.dst = some t → t < n) ∧
    ((o.guard = none ∧ s.guard = none) ∨ ∃ j b t, o.guard = some (j, b) ∧ (all[j]?).bind (·.dst) = some t ∧ s.guard = some (t, b)) := by
  unfold compOper at h
  split at h
  · cases h
  · rename_i s' h1
    split at h
    · rename_i hd
      have hd' : ∀ t, o.dst = some t → t < n := fun t ht => by simpa [ht, dstOk] using hd
      split at h
      · rename_i hg; cases h; exact ⟨h1, rfl, hd', .inl ⟨hg, rfl⟩⟩
      · rename_i j b hg
        split at h
        · rename_i t ht; cases h; exact ⟨h1, rfl, hd', .inr ⟨j, b, t, hg, ht, rfl⟩⟩
        · cases h
    · cases h

/-- Does the guard let the operation be carried out? -/
def wantA (g : Option (Nat × Bool)) (env : List (Nat × AV)) : Option Bool :=
  match g with
  | none => some true
  | some (t, b) => match getE env t with | .bool c => some (c == b) | .tup [] => some false | _ => none

theorem want_sound {a w ρ S} {o : Oper} {s : SOper} {all : Array Oper} {b : Bool} (ha : ARep K F ρ S σ a w) (hs : compOper K.P F.n all o = some s) (hw : wantA s.guard σ.env = some b) : Region.wanted o (yielded all a.tmps) = b := by
  obtain ⟨_, _, _, hg⟩ := comp_dst hs
  rcases hg with ⟨h1, h2⟩ | ⟨j, b', t, h1, h2, h3⟩
  · rw [h2] at hw; simp [wantA] at hw; subst hw; simp [Region.wanted, h1]
  · rw [h3] at hw
    simp only [wantA] at hw
    split at hw
    · rename_i c hc
      cases hw
      have := ha.env t
      rw [hc] at this
      have hv := bool_inv this
      have hget : a.tmps[t]? = some (.bool c) := by
        rw [Array.getD_eq_getD_getElem?] at hv
        cases hx : a.tmps[t]? with
        | none => rw [hx] at hv; cases hv
        | some y => rw [hx] at hv; simpa using hv
      simp only [Region.wanted, h1, yielded, h2, Option.bind_some, hget]
      cases c <;> cases b' <;> rfl
    · rename_i hc
      cases hw
      have := ha.env t
      rw [hc] at this
      have hv : a.tmps.getD t undef = .tuple #[] := by
        generalize a.tmps.getD t undef = z at this
        cases this with
        | t h' => cases h' with | tup _ vs hl _ => exact congrArg Value.tuple (Array.eq_empty_of_size_eq_zero (by simpa using hl.symm))
        | tup _ vs hl _ => exact congrArg Value.tuple (Array.eq_empty_of_size_eq_zero (by simpa using hl.symm))
      have hy : yielded all a.tmps j = none := by
        simp only [yielded, h2, Option.bind_some]
        rw [Array.getD_eq_getD_getElem?] at hv
        cases hx : a.tmps[t]? with
        | none => rfl
        | some y => rw [hx] at hv; simp at hv; subst hv; rfl
      simp only [Region.wanted, h1, hy]
      rfl
    · cases hw

theorem semAt_plain {o : Oper} {s : SOp} (h : compOp K.P o = some s) (ro : Option Nat) (ρ : Operand → Value) : Oper.semAt ro ρ o = execOp ρ o :=
  Oper.semAt_eq ro ρ o (fun c hc => by simp [compOp, hc] at h)

/-- One plain operation. -/
theorem semL_op {s : SOper} {l : List SOper} {x : AV} {μ : List AObj} (hw : wantA s.guard σ.env = some true) (hs : sopA s.op σ.env σ.mu = some (x, μ)) (h : semL K F l (σ.put s.dst x μ) Q) : semL K F (s :: l) σ Q := by
  intro all k ol hol hc a w ρ S ha μ0 ρ0 S0 w0 hst
  cases ol with
  | nil => simp [compL] at hc
  | cons o ol =>
    simp only [compL] at hc
    split at hc <;> simp only [Option.some.injEq, List.cons.injEq, reduceCtorEq] at hc
    rename_i s' l' h1 h2
    obtain ⟨rfl, rfl⟩ := hc
    obtain ⟨c1, c2, c3, _⟩ := comp_dst h1
    have ho : all[k]? = some o := by have := hol 0 (by simp); simpa using this.symm
    simp only [List.length_cons, List.range'_succ, wpOpsIn, ho, want_sound ha h1 hw, if_true]
    obtain ⟨v, w', ρ', S', n1, n2, n3, n4⟩ := sop_sound ha.mu ha.eval (fun _ => rfl) c1 hs
    have hrest := h all (k + 1) ol (fun i hi => by have := hol (i + 1) (by simp; omega); simpa [Nat.add_assoc, Nat.add_comm 1 i] using this) h2 (a.put o.dst v) w' ρ' S'
      (by rw [c2]; exact ha.put c3 n2 n3 n4) μ0 ρ0 S0 w0 (hst.trans n4)
    refine ⟨fun _ _ => trivial, ?_⟩
    rw [semAt_plain c1]
    rcases n1 with n1 | ⟨n1, rfl⟩
    · rw [n1]; exact hrest
    · rw [n1]; exact hrest

theorem comp_nxm {P : Program} {o : Oper} {x : SX} (h : compOp P o = some (.nxm x)) : ∃ r, o.op = .next r false ∧ compX r = some x := by
  unfold compOp at h
  split at h
  case h_26 r hr =>
    simp only [Option.map_eq_some_iff, SOp.nxm.injEq] at h
    obtain ⟨y, h1, rfl⟩ := h
    exact ⟨r, hr, h1⟩
  all_goals (repeat' (split at h)) <;> first | (cases h; done) | (simp at h; done)
theorem nodup_erase {ks : List Nat} (h : ks.Nodup) {t : Nat} (ht : t < ks.length) : ks.erase ks[t] = ks.eraseIdx t := by
  induction ks generalizing t with
  | nil => simp at ht
  | cons a ks ih =>
    cases t with
    | zero => simp
    | succ t =>
      have hn := (List.nodup_cons.1 h)
      have hlt : t < ks.length := by simpa using ht
      have hne : a ≠ ks[t] := fun e => hn.1 (e ▸ List.getElem_mem hlt)
      simp only [List.getElem_cons_succ, List.eraseIdx_cons_succ]
      rw [List.erase_cons_tail (by simpa using hne), ih hn.2 hlt]
/-- The next entry of a map: whichever of those that are left. -/
theorem semL_nxm {d : Option Nat} {g : Option (Nat × Bool)} {x : SX} {id : Nat} {s : ByteArray} {pos : Nat} {last : Option (AV × AV)} {left : List (AV × AV)} {l : List SOper} (hg : wantA g σ.env = some true) (hx : evX σ.env x = .mp id) (ho : σ.mu[id]? = some (.iter s pos (some (last, left))))
    (h0 : left = [] → semL K F l (σ.put d (.tup [.bool false]) σ.mu) Q)
    (h1 : ∀ (t : Nat) (k v : AV), left[t]? = some (k, v) → semL K F l (σ.put d (.tup [.bool true, k, v]) (σ.mu.set id (.iter s pos (some (some (k, v), left.eraseIdx t))))) Q) : semL K F (⟨d, g, .nxm x⟩ :: l) σ Q := by
  intro all k ol hol hc a w ρ S ha μ0 ρ0 S0 w0 hst
  cases ol with
  | nil => simp [compL] at hc
  | cons o ol =>
    simp only [compL] at hc
    split at hc <;> simp only [Option.some.injEq, List.cons.injEq, reduceCtorEq] at hc
    rename_i s' l' hh1 hh2
    obtain ⟨rfl, rfl⟩ := hc
    obtain ⟨c1, c2, c3, _⟩ := comp_dst hh1
    have hoo : all[k]? = some o := by have := hol 0 (by simp); simpa using this.symm
    simp only [List.length_cons, List.range'_succ, wpOpsIn, hoo, want_sound ha hh1 hg, if_true]
    refine ⟨fun _ _ => trivial, ?_⟩
    rw [semAt_plain c1]
    have hol' : ∀ i : Nat, i < ol.length → ol[i]? = all[k + 1 + i]? := fun i hi => by have := hol (i + 1) (by simp; omega); simpa [Nat.add_assoc, Nat.add_comm 1 i] using this
    obtain ⟨r, q1, q2⟩ := comp_nxm c1
    have hv := ha.eval r x q2
    rw [hx] at hv
    have hb : ∃ B cap, a.eval r = .pointer (some ⟨B, 0, none⟩) ∧ ρ id = some (B, cap) := by
      generalize a.eval r = v at hv
      cases hv with
      | t h' => cases h'
      | mp h1 _ => rw [ho] at h1; cases h1
      | mpGone _ h1 => rw [ho] at h1; cases h1
      | mpI h1 h2 => exact ⟨_, _, rfl, h2⟩
    obtain ⟨B, cap, hev, hB⟩ := hb
    obtain ⟨B', cap', b1, b2, b3, mB, ents, clock, seen, e1, e2, e3, e5, ⟨ks, lf, f6, f1, f2, f3, f4⟩, f5⟩ := ha.mu.ob id _ ho
    rw [hB] at b1; cases b1
    have hold : ∀ y ∈ ents.toList, y.born < clock := fun y hy => by
      obtain ⟨i, hi⟩ := List.mem_iff_getElem?.1 hy
      exact e3.1 i y (by simpa using hi)
    have hex : ∀ (w' : World) (v : Value), (Instr.next (a.eval r) false o.type).run K.P w = .ok v w' → (execOp a.eval o).run K.P w = .ok (.value v) w' := fun w' v hr => by
      obtain ⟨dst, op, type, pos, after, guard⟩ := o
      simp only at q1
      subst q1
      simp [execOp, hr]
    rcases run_next_at (P := K.P) w o.type B mB clock clock seen ents clock e5 e2 hold (Nat.le_refl _) with ⟨z1, z2⟩ | ⟨en, z1, w1, z2, z3⟩
    · have hnil : left = [] := by
        suffices hlf : lf = [] by rw [hlf] at f6; exact f6.symm.eq_nil
        cases lf with
        | nil => rfl
        | cons p lf =>
          exfalso
          cases ks with
          | nil => simp at f1
          | cons i ks =>
            obtain ⟨en, g1, _⟩ := f4 0 i p.1 p.2 rfl rfl
            have g2 := (f3 i en g1).2 List.mem_cons_self
            have hall := all_seen ents seen z1 en (by
              have := Array.mem_of_getElem? g1
              simpa using this)
            rw [g2] at hall; cases hall
      rw [hex w (.tuple #[.bool false]) (by rw [hev]; exact z2)]
      refine h0 hnil all (k + 1) ol hol' hh2 (a.put o.dst _) w ρ S ?_ μ0 ρ0 S0 w0 hst
      have c2' : d = o.dst := c2
      rw [c2']
      refine ha.put c3 (.t (.tup _ _ rfl fun i c u p q => ?_)) ha.mu (Stab.refl _ _ _ _)
      match i with
      | 0 => simp at p q; subst p; subst q; exact .bool _
      | i + 1 => simp at p
    · obtain ⟨i, hi⟩ := List.mem_iff_getElem?.1 (mem_left z1).1
      have hi : ents[i]? = some en := by simpa using hi
      have hik := (f3 i en hi).1 (mem_left z1).2
      obtain ⟨t, ht⟩ := List.mem_iff_getElem?.1 hik
      have htl : t < lf.length := by rw [← f1]; exact (List.getElem?_eq_some_iff.1 ht).1
      obtain ⟨en', g1, g2, g3⟩ := f4 t i lf[t].1 lf[t].2 ht (List.getElem?_eq_getElem htl)
      rw [hi] at g1; cases g1
      obtain ⟨u0, hu0⟩ := List.mem_iff_getElem?.1 (f6.mem_iff.1 (List.getElem_mem htl))
      have hpe : (lf.eraseIdx t).Perm (left.eraseIdx u0) := perm_eraseIdx f6 (List.getElem?_eq_getElem htl) hu0
      have hw1 : RepMu K ρ S σ.mu w1 ∧ Stab σ.mu ρ S w σ.mu ρ S w1 := by
        rcases z2 with rfl | rfl
        · exact ⟨ha.mu, Stab.refl _ _ _ _⟩
        · exact ha.mu.same (Below.refl _ _).drew rfl
      have hheap : w1.heap = w.heap := by rcases z2 with rfl | rfl <;> rfl
      obtain ⟨m1, m2⟩ := hw1.1.setO (o' := .iter s pos (some (some (lf[t].1, lf[t].2), left.eraseIdx u0))) ho (by simp) hB (.mapIter (some mB) clock (seen.push en.born) clock) rfl (fun y hy => by rw [hheap, e5] at hy; cases hy) fun k' hB' => by
        refine ⟨B, cap, hB, b2, b3, mB, ents, clock, seen.push en.born, e1, (k'.blk mB e1).trans (by rw [hheap]; exact e2), e3, hB', ⟨ks.eraseIdx t, lf.eraseIdx t, hpe, ?_, ?_, ?_, ?_⟩, fun k v q => ?_⟩
        rotate_left 4
        · cases q
          exact ⟨seen, en, rfl, (mem_left z1).1, g2.mono k'.sub (fun b hb => (k'.blk b hb).trans (by rw [hheap])), g3.mono k'.sub (fun b hb => (k'.blk b hb).trans (by rw [hheap]))⟩
        · rw [List.length_eraseIdx, List.length_eraseIdx, f1]
        · exact f2.sublist (List.eraseIdx_sublist _ _)
        · intro j en2 hj
          have hmem : j ∈ ks.eraseIdx t ↔ j ∈ ks ∧ j ≠ i := by
            have hn : (ks.eraseIdx t) = ks.erase i := by
              obtain ⟨hlt, hx⟩ := List.getElem?_eq_some_iff.1 ht
              rw [← hx]
              exact (nodup_erase f2 hlt).symm
            rw [hn, f2.mem_erase_iff]
            exact ⟨fun q => ⟨q.2, q.1⟩, fun q => ⟨q.2, q.1⟩⟩
          rw [hmem, ← f3 j en2 hj, contains_push]
          simp only [Bool.or_eq_false_iff, beq_eq_false_iff_ne]
          constructor
          · rintro ⟨q1, q2⟩
            exact ⟨q1, fun e => by subst e; rw [hi] at hj; cases hj; exact q2 rfl⟩
          · rintro ⟨q1, q2⟩
            exact ⟨q1, fun e => q2 (e3.2 j i en2 en hj hi e)⟩
        · intro u j k2 v2 hu hl
          rw [List.getElem?_eraseIdx] at hu hl
          have : ∃ u' : Nat, ks[u']? = some j ∧ lf[u']? = some (k2, v2) := by
            split at hu
            · rename_i hlt
              rw [if_pos hlt] at hl
              exact ⟨u, hu, hl⟩
            · rename_i hlt
              rw [if_neg hlt] at hl
              exact ⟨u + 1, hu, hl⟩
          obtain ⟨u', g4, g5⟩ := this
          obtain ⟨en3, g6, g7, g8⟩ := f4 u' j k2 v2 g4 g5
          exact ⟨en3, g6, g7.mono k'.sub (fun b hb => (k'.blk b hb).trans (by rw [hheap])), g8.mono k'.sub (fun b hb => (k'.blk b hb).trans (by rw [hheap]))⟩
      have hst2 := hw1.2.trans m2
      rw [hex _ _ (by rw [hev]; exact z3)]
      refine h1 u0 lf[t].1 lf[t].2 hu0 all (k + 1) ol hol' hh2 (a.put o.dst _) _ ρ S ?_ μ0 ρ0 S0 w0 (hst.trans hst2)
      have c2' : d = o.dst := c2
      rw [c2']
      refine ha.put c3 (.t (.tup _ _ rfl fun i c u p q => ?_)) m1 hst2
      match i with
      | 0 => simp at p q; subst p; subst q; exact .bool _
      | 1 => simp at p q; subst p; subst q; exact g2.mono hst2.sub hst2.blk
      | 2 => simp at p q; subst p; subst q; exact g3.mono hst2.sub hst2.blk
      | i + 3 => simp at p
/-- An operation whose guard doesn't let it. -/
theorem semL_no {s : SOper} {l : List SOper} (hw : wantA s.guard σ.env = some false) (h : semL K F l (σ.put s.dst (.tup []) σ.mu) Q) : semL K F (s :: l) σ Q := by
  intro all k ol hol hc a w ρ S ha μ0 ρ0 S0 w0 hst
  cases ol with
  | nil => simp [compL] at hc
  | cons o ol =>
    simp only [compL] at hc
    split at hc <;> simp only [Option.some.injEq, List.cons.injEq, reduceCtorEq] at hc
    rename_i s' l' h1 h2
    obtain ⟨rfl, rfl⟩ := hc
    obtain ⟨c1, c2, c3, _⟩ := comp_dst h1
    have ho : all[k]? = some o := by have := hol 0 (by simp); simpa using this.symm
    simp only [List.length_cons, List.range'_succ, wpOpsIn, ho, want_sound ha h1 hw, Bool.false_eq_true, if_false]
    exact ⟨fun _ _ => trivial, h all (k + 1) ol (fun i hi => by have := hol (i + 1) (by simp; omega); simpa [Nat.add_assoc, Nat.add_comm 1 i] using this) h2 (a.put o.dst undef) w ρ S
      (by rw [c2]; exact ha.put c3 (.t (.tup [] #[] rfl (by simp))) ha.mu (Stab.refl _ _ _ _)) μ0 ρ0 S0 w0 hst⟩

end rules
end Go.Av
set_option linter.unusedVariables false
set_option linter.unusedSimpArgs false
namespace Go.Av
open Go.RowKit

/-- The function is one with a body of its own. -/
def FnOK (P : Program) (f : Nat) : Prop := ∃ fn, P.funcs[f]? = some fn ∧ (fn.name == "runtime.NumGoroutine") = false ∧ fn.body.isNone = false

/-- Called with these trees, in whatever world, the function returns this tree, and nothing that was there turns. -/
def Holds (P : Program) (G : World → Prop) (f : Nat) (args : List AV) (r : AV) : Prop :=
  FnOK P f ∧ ∀ w (vs : Array Value) (S : Nat → Prop), G w → (∀ b, S b → b < w.heap.size) → vs.size = args.length → (∀ (i : Nat) x v, args[i]? = some x → vs[i]? = some v → VT S w x v) →
    Calls P f vs w fun e w' => ∃ v S', e = .returned v ∧ Below w.heap.size w w' ∧ (∀ b, S b → S' b) ∧ (∀ b, S' b → b < w'.heap.size) ∧ (∀ b, S' b → b < w.heap.size → S b) ∧ VT S' w' r v

inductive AEnd where
  | ret (x : AV)
  | panic (x : AV)

def EndRel (μ : List AObj) (ρ : Nat → Option (Nat × Nat)) (S : Nat → Prop) (w : World) : AEnd → Ending → Prop
  | .ret x, .returned v => VR μ ρ S w x v
  | .panic x, .panicked [⟨v, false, false⟩] => VR μ ρ S w x v
  | _, _ => False

/-- Called while the caller owns μ, the function comes to what R says. -/
def ACalls (K : Ctx) (f : Nat) (args : List AV) (μ : List AObj) (R : AEnd → List AObj → Prop) : Prop :=
  FnOK K.P f ∧ ∀ ρ S w (vs : Array Value), RepMu K ρ S μ w → vs.size = args.length → (∀ (i : Nat) x v, args[i]? = some x → vs[i]? = some v → VR μ ρ S w x v) →
    Calls K.P f vs w fun e w' => ∃ ae μ' ρ' S', R ae μ' ∧ EndRel μ' ρ' S' w' ae e ∧ RepMu K ρ' S' μ' w' ∧ Stab μ ρ S w μ' ρ' S' w'

theorem run_callFunc {P : Program} {f : Nat} (h : FnOK P f) (args : Array Value) (w : World) : (callFunc f args).run P w = .ok (.enter f args) w := by
  obtain ⟨fn, h1, h2, h3⟩ := h
  simp only [callFunc, program, Sem.run_bind, Sem.run, Result.andThen_ok, h1, h2, h3, Bool.false_eq_true, if_false]
  rfl

theorem callsIn_Fr {r : Option Nat} {m : Nat} {P : Program} {f : Nat} {args : Array Value} {w : World} {R : Ending → World → Prop} (h : Calls P f args w R) : CallsIn (Fr r) m P f args w R :=
  ⟨trivial, fun cs _ => let ⟨e, w', fr, x, s, y⟩ := h cs; ⟨e, w', fr, x, comesIn_wide.2 s, y⟩⟩

theorem comp_call {P : Program} {o : Oper} {f : Nat} {args : List SX} (h : compOp P o = some (.call f args)) : ∃ c, o.op = .call c ∧ c.callee = .value (.func f) ∧ compXs c.args.toList = some args := by
  unfold compOp at h
  split at h
  case h_20 c hc =>
    split at h
    · rename_i f' hf
      simp only [Option.map_eq_some_iff, SOp.call.injEq] at h
      obtain ⟨ys, k1, rfl, rfl⟩ := h
      exact ⟨c, hc, hf, k1⟩
    all_goals (repeat' (split at h)) <;> first | (cases h; done) | (simp at h; done)
  all_goals (repeat' (split at h)) <;> first | (cases h; done) | (simp at h; done)

theorem comp_dyn {P : Program} {o : Oper} {f : SX} {args : List SX} (h : compOp P o = some (.dyn f args)) : ∃ c t, o.op = .call c ∧ c.callee = .value (.tmp t) ∧ f = .t t ∧ compXs c.args.toList = some args := by
  unfold compOp at h
  split at h
  case h_20 c hc =>
    split at h
    rotate_left
    · rename_i t' hf
      simp only [Option.map_eq_some_iff, SOp.dyn.injEq] at h
      obtain ⟨ys, k1, rfl, rfl⟩ := h
      exact ⟨c, t', hc, hf, rfl, k1⟩
    all_goals (repeat' (split at h)) <;> first | (cases h; done) | (simp at h; done)
  all_goals (repeat' (split at h)) <;> first | (cases h; done) | (simp at h; done)

theorem comp_invk {P : Program} {o : Oper} {tab : List (Nat × Nat)} {x : SX} {args : List SX} (h : compOp P o = some (.inv tab x args)) : ∃ c r name, o.op = .call c ∧ c.callee = .invoke r name ∧ compX r = some x ∧ tab = methTab P name ∧ compXs c.args.toList = some args := by
  unfold compOp at h
  split at h
  case h_20 c hc =>
    split at h
    rotate_left 2
    · rename_i r name hf
      split at h
      · rename_i x' ys k1 k2
        simp only [Option.some.injEq, SOp.inv.injEq] at h
        obtain ⟨rfl, rfl, rfl⟩ := h
        exact ⟨c, r, name, hc, hf, k1, rfl, k2⟩
      · cases h
    all_goals (repeat' (split at h)) <;> first | (cases h; done) | (simp at h; done)
  all_goals (repeat' (split at h)) <;> first | (cases h; done) | (simp at h; done)
/-- A method that the table lists is what the machine finds. -/
theorem methGo_mem {P : Program} {name : String} {t f : Nat} : ∀ {l : List TypeInfo} {k : Nat}, (t, f) ∈ methGo P name l k → (∀ (j : Nat) i, l[j]? = some i → P.info? (k + j) = some i) →
    ∃ i m d, P.info? t = some i ∧ i.methods.find? (·.name == name) = some m ∧ m.path.toList = [] ∧ m.func = some (f, false) ∧ P.underlying t = some d ∧ ∀ e, d ≠ .pointer e
  | [], k, h, _ => by cases h
  | i :: r, k, h, hl => by
    have hr : ∀ (j : Nat) i, r[j]? = some i → P.info? (k + 1 + j) = some i := fun j i' q => by rw [show k + 1 + j = k + (j + 1) by omega]; exact hl (j + 1) i' q
    have h0 : P.info? k = some i := hl 0 i rfl
    unfold methGo at h
    split at h
    · exact methGo_mem h hr
    · rename_i m hm
      split at h
      · exact methGo_mem h hr
      · rename_i f' d hnp hp hf hu
        rcases List.mem_cons.1 h with q | q
        · cases q
          exact ⟨i, m, d, h0, hm, hp, hf, hu, fun e q => hnp e q⟩
        · exact methGo_mem q hr
      · exact methGo_mem h hr
theorem methTab_run {P : Program} {name : String} {t f : Nat} (h : (t, f) ∈ methTab P name) (v : Value) (w : World) : (method (P.types.size + Made.depth) t v name).run P w = .ok (f, v) w := by
  obtain ⟨i, m, d, hi, hm, hp, hf, hu, hnp⟩ := methGo_mem h (fun j i q => by
    rw [Array.getElem?_toList] at q
    rw [Nat.zero_add, Tables.info?, if_pos (Array.getElem?_eq_some_iff.1 q).1]
    exact q)
  obtain ⟨k, hk⟩ : ∃ k, P.types.size + Made.depth = k + 1 := ⟨P.types.size + 99, rfl⟩
  rw [hk]
  unfold method
  have hre : ∀ wr, (receiverAt t (.val v) false wr).run P w = .ok v w := fun wr => by
    unfold receiverAt
    simp only [Sem.run_bind, run_underlying hu, Result.andThen_ok]
    cases d with
    | pointer e => exact (hnp _ rfl).elim
    | _ => rfl
  simp [typeInfo, hi, hm, hp, follow, hf, hre]
section rules
variable {K : Ctx} {F : Fcx} {σ : St} {Q : AExit → St → Prop}

theorem ACalls.of_holds {f : Nat} {args : List AV} {μ : List AObj} {x : AV} (h : Holds K.P K.G f args x) (ht : treeL args = true) : ACalls K f args μ (fun ae μ' => ae = .ret x ∧ μ' = μ) := by
  refine ⟨h.1, fun ρ S w vs hm hl hv => ?_⟩
  refine (h.2 w vs S (K.hG w hm.below) hm.st hl fun i y v a b => (hv i y v a b).tree (treeL_get ht a)).mono ?_
  rintro e w' ⟨v, S', rfl, h1, h2, h3, h4, h5⟩
  obtain ⟨m1, m2⟩ := hm.more h1 h2 h3 h4
  exact ⟨.ret x, μ, ρ, S', ⟨rfl, rfl⟩, .t h5, m1, m2⟩

/-- What the callee's end means for the caller. -/
def afterCall (K : Ctx) (F : Fcx) (d : Option Nat) (l : List SOper) (σ : St) (Q : AExit → St → Prop) : AEnd → List AObj → Prop
  | .ret x, μ => semL K F l (σ.put d x μ) Q
  | .panic x, μ => Q (.panic x) ⟨σ.env, μ⟩

theorem upon_call {f : Nat} {args : List AV} {R : AEnd → List AObj → Prop} {s : SOper} {l : List SOper} (hc : ACalls K f args σ.mu R) (h : ∀ ae μ, R ae μ → afterCall K F s.dst l σ Q ae μ)
    {all : Array Oper} {k : Nat} {o : Oper} {ol : List Oper} (hol : ∀ i : Nat, i < ol.length → ol[i]? = all[k + 1 + i]?) (h2 : compL K.P F.n all ol = some l) (hd : s.dst = o.dst) (hdn : ∀ t, o.dst = some t → t < F.n)
    {a : Act} {w : World} {ρ S} (ha : ARep K F ρ S σ a w) {μ0 ρ0 S0 w0} (hst : SB F.b μ0 ρ0 S0 w0 σ.mu ρ S w) (vs : Array Value) (hl : vs.size = args.length)
    (hv : ∀ (i : Nat) x v, args[i]? = some x → vs[i]? = some v → VR σ.mu ρ S w x v) :
    o.uponIn (Fr F.r) 0 K.P a (wpOpsIn (Fr F.r) 0 K.P all (Post K F μ0 ρ0 S0 w0 Q) (List.range' (k + 1) ol.length)) (Post K F μ0 ρ0 S0 w0 Q) (.ok (.enter f vs) w) := by
  refine ⟨fun h => by simp [Fr, Fence.wide] at h, callsIn_Fr ((hc.2 ρ S w vs ha.mu hl hv).mono ?_)⟩
  rintro e w' ⟨ae, μ', ρ', S', r1, r2, r3, r4⟩
  cases ae <;> cases e <;> simp only [EndRel] at r2
  · exact h _ _ r1 all (k + 1) ol hol h2 (a.put o.dst _) w' ρ' S' (by rw [hd]; exact ha.put hdn r2 r3 r4) μ0 ρ0 S0 w0 (hst.trans r4)
  · rename_i x chain
    have hq := h _ _ r1
    refine ⟨.panic x, ⟨σ.env, μ'⟩, ρ', S', ?_, hq, ⟨r3, ha.size, ha.defers.stab r4, fun t => (ha.env t).stab r4⟩, hst.trans r4⟩
    match chain, r2 with
    | [⟨v, false, false⟩], r2 => exact r2

theorem semL_acall {f : Nat} {args : List SX} {R : AEnd → List AObj → Prop} {d : Option Nat} {g : Option (Nat × Bool)} {l : List SOper} (hg : wantA g σ.env = some true)
    (hc : ACalls K f (args.map (evX σ.env)) σ.mu R) (h : ∀ ae μ, R ae μ → afterCall K F d l σ Q ae μ) : semL K F (⟨d, g, .call f args⟩ :: l) σ Q := by
  intro all k ol hol hcl a w ρ S ha μ0 ρ0 S0 w0 hst
  cases ol with
  | nil => simp [compL] at hcl
  | cons o ol =>
    simp only [compL] at hcl
    split at hcl <;> simp only [Option.some.injEq, List.cons.injEq, reduceCtorEq] at hcl
    rename_i s' l' h1 h2
    obtain ⟨rfl, rfl⟩ := hcl
    obtain ⟨c1, c2, c3, _⟩ := comp_dst h1
    have ho : all[k]? = some o := by have := hol 0 (by simp); simpa using this.symm
    simp only [List.length_cons, List.range'_succ, wpOpsIn, ho, want_sound ha h1 hg, if_true]
    refine ⟨fun _ _ => trivial, ?_⟩
    rw [semAt_plain c1]
    obtain ⟨c, k0, k1', k1⟩ := comp_call c1
    have hcall : execOp a.eval o = (do let d ← Deferred.ofValue (.func (.func f) #[] #[]) (c.args.map a.eval); invoke d.target d.args) := by
      obtain ⟨dst, op, type, pos, after, guard⟩ := o
      obtain ⟨callee, cargs, argTypes⟩ := c
      simp only at k0 k1'
      subst k0
      subst k1'
      rfl
    generalize c.args = cargs at *
    obtain ⟨l1, l2⟩ := compXs_rel ha.eval _ _ k1
    rw [hcall]
    have hrun : (do let d ← Deferred.ofValue (.func (.func f) #[] #[]) (cargs.map a.eval); invoke d.target d.args : Sem Next).run K.P w = .ok (.enter f (cargs.map a.eval)) w := by
      simp [Deferred.ofValue, invoke, run_callFunc hc.1]
    rw [hrun]
    refine upon_call hc h (fun i hi => by have := hol (i + 1) (by simp; omega); simpa [Nat.add_assoc, Nat.add_comm 1 i] using this) h2 c2 c3 ha hst _ (by simpa using l1.symm) (fun i x v a b => l2 i x v a (by simpa using b))

theorem semL_call {f : Nat} {args : List SX} {x : AV} {d : Option Nat} {g : Option (Nat × Bool)} {l : List SOper} (hg : wantA g σ.env = some true)
    (hc : Holds K.P K.G f (args.map (evX σ.env)) x) (ht : treeL (args.map (evX σ.env)) = true) (h : semL K F l (σ.put d x σ.mu) Q) : semL K F (⟨d, g, .call f args⟩ :: l) σ Q :=
  semL_acall hg (ACalls.of_holds hc ht) fun ae μ hr => by obtain ⟨rfl, rfl⟩ := hr; exact h

end rules

/-! ### results -/
inductive RV where
  | tmp (t : Nat)
  | cell (t : Nat) (agg : Bool) (sz : Nat)

def compR (P : Program) : ResultVar → Option RV
  | .tmp t => some (.tmp t)
  | .cell a t => match P.underlying t, P.info? t with | some d, some i => some (.cell a (aggD d) i.size) | _, _ => none

def compRs (P : Program) : List ResultVar → Option (List RV)
  | [] => some []
  | x :: r => match compR P x, compRs P r with | some y, some ys => some (y :: ys) | _, _ => none

def rvA (σ : St) : RV → Option AV
  | .tmp t => some (getE σ.env t)
  | .cell t agg sz => loadA agg sz (getE σ.env t) σ.mu

def rvsA (σ : St) : List RV → Option (List AV)
  | [] => some []
  | x :: r => match rvA σ x, rvsA σ r with | some y, some ys => some (y :: ys) | _, _ => none

def resA (σ : St) (rs : List RV) : Option AV :=
  match rvsA σ rs with
  | some [x] => some x
  | some xs => some (.tup xs)
  | none => none

end Go.Av
set_option linter.unusedVariables false
set_option linter.unusedSimpArgs false
namespace Go.Av
open Go.RowKit

section rules
variable {K : Ctx} {F : Fcx} {σ : St} {Q : AExit → St → Prop}

def resOne (tmps : Array Value) : ResultVar → Sem Value
  | .tmp t => pure (tmps.getD t undef)
  | .cell b t => do loadVar t (← asAddr (tmps.getD b undef))

theorem rvs_sound {a w ρ S} (ha : ARep K F ρ S σ a w) : ∀ (l : List ResultVar) (rs : List RV) (xs : List AV), compRs K.P l = some rs → rvsA σ rs = some xs →
    ∃ vs : List Value, (l.mapM (resOne a.tmps)).run K.P w = .ok vs w ∧ xs.length = vs.length ∧
      ∀ (i : Nat) x v, xs[i]? = some x → vs[i]? = some v → VR σ.mu ρ S w x v
  | [], rs, xs, h1, h2 => by
    simp [compRs] at h1; subst h1
    simp [rvsA] at h2; subst h2
    exact ⟨[], by simp, rfl, by simp⟩
  | y :: l, rs, xs, h1, h2 => by
    simp only [compRs] at h1
    split at h1 <;> cases h1
    rename_i y' ys' k1 k2
    simp only [rvsA] at h2
    split at h2 <;> cases h2
    rename_i x xs' k3 k4
    obtain ⟨vs, r1, r2, r3⟩ := rvs_sound ha l ys' xs' k2 k4
    have one : ∃ v, (resOne a.tmps y).run K.P w = .ok v w ∧ VR σ.mu ρ S w x v := by
      cases y with
      | tmp t =>
        simp only [compR, Option.some.injEq] at k1
        subst k1
        simp only [rvA, Option.some.injEq] at k3
        subst k3
        exact ⟨_, by simp [resOne], ha.env t⟩
      | cell b t =>
        simp only [compR] at k1
        split at k1 <;> cases k1
        rename_i d i hu hi
        simp only [rvA] at k3
        have hv := ha.env b
        have hp : ∃ c, place (getE σ.env b) σ.mu = some c := by
          unfold loadA at k3
          split at k3
          · exact ⟨_, by assumption⟩
          · cases k3
        obtain ⟨⟨cs, off⟩, hp⟩ := hp
        obtain ⟨b0, o0, f, hb, _⟩ := place_sound ha.mu hp hv
        -- a load leaves the world
        have : ∃ v, (loadVar t ⟨b0, o0 + off, none⟩).run K.P w = .ok v w ∧ VR σ.mu ρ S w x v := by
          unfold loadA at k3
          rw [hp] at k3
          simp only at k3
          obtain ⟨b1, o1, f1, hb1, hc⟩ := place_sound ha.mu hp hv
          rw [hb] at hb1
          simp only [Value.pointer.injEq, Option.some.injEq, Addr.mk.injEq, and_true] at hb1
          obtain ⟨e1, e2⟩ := hb1
          subst e1
          cases hd : aggD d with
          | true =>
            simp only [hd, if_true] at k3
            split at k3
            · rename_i hle
              cases k3
              have hcell : ∀ j, j < i.size → w.cell? ⟨b0, o0 + off + j, none⟩ = some (f1 (off + j)) := fun j hj => by
                have := (hc (off + j) _ (List.getElem?_eq_getElem (by omega))).1
                rw [e2, Nat.add_assoc]; exact this
              refine ⟨_, run_loadVar_agg hu hd hi hcell, .agg _ _ (by simp; omega) fun j c u hj hu' => ?_⟩
              rw [List.getElem?_take] at hj
              split at hj
              · rename_i hjlt
                rw [List.getElem?_drop] at hj
                simp [hjlt] at hu'
                subst hu'
                exact (hc _ _ hj).2.1
              · cases hj
            · cases k3
          | false =>
            simp only [hd, Bool.false_eq_true, if_false] at k3
            obtain ⟨h1, h2, h3⟩ := hc off x k3
            exact ⟨_, run_loadVar_one hu hd (by rw [e2]; exact h1), h2⟩
        obtain ⟨v, v1, v2⟩ := this
        exact ⟨v, by simp [resOne, hb, asAddr, v1], v2⟩
    obtain ⟨v, v1, v2⟩ := one
    refine ⟨v :: vs, ?_, by simp [r2], fun i x' v' a b => ?_⟩
    · rw [List.mapM_cons]
      simp only [Sem.run_bind, v1, Result.andThen_ok]
      simp only [r1, Result.andThen_ok, Sem.run_pure]
    · match i with
      | 0 => simp at a b; subst a; subst b; exact v2
      | i + 1 => exact r3 i x' v' (by simpa using a) (by simpa using b)

theorem res_sound {a w ρ S} {fn : Func} {rs : List RV} {x : AV} (ha : ARep K F ρ S σ a w) (hc : compRs K.P fn.results.toList = some rs) (hx : resA σ rs = some x) : ∃ v, (results fn a.tmps).run K.P w = .ok v w ∧ VR σ.mu ρ S w x v := by
  unfold resA at hx
  have key : ∀ xs, rvsA σ rs = some xs → ∃ vs : List Value, (results fn a.tmps).run K.P w = .ok (if h : vs.toArray.size = 1 then vs.toArray[0] else .tuple vs.toArray) w ∧ xs.length = vs.length ∧ ∀ (i : Nat) x v, xs[i]? = some x → vs[i]? = some v → VR σ.mu ρ S w x v := by
    intro xs hxs
    obtain ⟨vs, r1, r2, r3⟩ := rvs_sound ha _ _ _ hc hxs
    refine ⟨vs, ?_, r2, r3⟩
    have e : results fn a.tmps = (do let vs ← List.toArray <$> fn.results.toList.mapM (resOne a.tmps); pure (if h : vs.size = 1 then vs[0] else .tuple vs)) := by
      unfold results
      rw [Array.mapM_eq_mapM_toList]
      congr 2
    rw [e]
    simp [r1]
  split at hx
  · rename_i y hxs
    cases hx
    obtain ⟨vs, r1, r2, r3⟩ := key _ hxs
    match vs, r2 with
    | [v], _ =>
      refine ⟨v, by simpa using r1, r3 0 x v rfl rfl⟩
  · rename_i xs hne hxs
    cases hx
    obtain ⟨vs, r1, r2, r3⟩ := key _ hxs
    have hl : ¬ (vs.toArray.size = 1) := by
      intro h
      have : xs.length = 1 := by rw [r2]; simpa using h
      match xs, this with
      | [y], _ => exact hne y rfl
    rw [dif_neg hl] at r1
    exact ⟨_, r1, .tup _ _ (by simpa using r2) (fun i c v a b => r3 i c v a (by simpa using b))⟩
  · cases hx

/-- The frame in which a function's body begins. -/
def enterEnv (args : List AV) : List (Nat × AV) := args.zipIdx.map fun p => (p.2, p.1)

theorem enterEnv_get (args : List AV) (t : Nat) : getE (enterEnv args) t = args.getD t .dead := by
  have : ∀ (l : List AV) (s t : Nat), getE ((l.zipIdx s).map fun p => (p.2, p.1)) t = if s ≤ t then l.getD (t - s) .dead else .dead := by
    intro l
    induction l with
    | nil => intro s t; simp [getE]
    | cons x l ih =>
      intro s t
      simp only [List.zipIdx_cons, List.map_cons, getE_cons]
      split
      · rename_i h; subst h; simp
      · rename_i h
        rw [ih]
        by_cases h1 : s ≤ t
        · rw [if_pos (by omega), if_pos h1, show t - s = (t - (s + 1)) + 1 by omega]; simp
        · rw [if_neg (by omega), if_neg h1]
  simpa [enterEnv] using this args 0 t

theorem ARep.enter {b D : Nat} {μ w ρ S} {args : List AV} {vs : Array Value} {m : Nat} (hm : RepMu K ρ S μ w) (hl : vs.size = args.length) (hv : ∀ (i : Nat) x v, args[i]? = some x → vs[i]? = some v → VR μ ρ S w x v) (hn : args.length ≤ m) (hD : D ≤ w.heap.size) {tl : Option (List Deferred)} (htl : tl = none ∨ tl = some []) :
    ARep K ⟨none, m, D, b, tl⟩ ρ S ⟨enterEnv args, μ⟩ { tmps := vs ++ Array.replicate (m - vs.size) undef, defers := [] } w := by
  refine ⟨hm, by simp; omega, ⟨hD, fun _ => rfl, fun t ht => ⟨[], by rcases htl with rfl | rfl <;> cases ht; rfl, List.nodup_nil, by simp⟩⟩, fun t => ?_⟩
  rw [enterEnv_get]
  by_cases ht : t < args.length
  · have h1 : args[t]? = some args[t] := List.getElem?_eq_getElem ht
    have h2 : vs[t]? = some vs[t] := Array.getElem?_eq_getElem (by omega)
    simp only [List.getD_eq_getElem?_getD, h1, Option.getD_some, Array.getD_eq_getD_getElem?]
    rw [Array.getElem?_append_left (by omega), h2]
    exact hv t _ _ h1 h2
  · rw [List.getD_eq_getElem?_getD, List.getElem?_eq_none (by omega)]
    exact .dead _

/-- What a function's body must come to. -/
def bodyQ (rs : List RV) (R : AEnd → List AObj → Prop) : AExit → St → Prop
  | .normal, σ => ∃ x, resA σ rs = some x ∧ R (.ret x) σ.mu
  | .ret, σ => ∃ x, resA σ rs = some x ∧ R (.ret x) σ.mu
  | .panic x, σ => R (.panic x) σ.mu
  | _, _ => False

/-- What is read off a function: its code and its results. -/
def FnIs (P : Program) (f : Nat) (m : Nat) (s : SCode) (rs : List RV) : Prop :=
  ∃ fn c, P.funcs[f]? = some fn ∧ (fn.name == "runtime.NumGoroutine") = false ∧ fn.body = some c ∧ compC P m c = some s ∧ fn.ntmps = m ∧ compRs P fn.results.toList = some rs

theorem RepMu.notdef {μ ρ S w} (h : RepMu K ρ S μ w) {id : Nat} {p : AObj} {D c : Nat} {x : Option (List Deferred)} (hi : μ[id]? = some p) (hne : p ≠ .gone) (hD : w.heap[D]? = some (.deferred x)) : ρ id ≠ some (D, c) := by
  intro hB
  have hor := h.ob id p hi
  cases p with
  | gone => exact absurd rfl hne
  | row e g sz es =>
    rcases hor with ⟨h1, h2⟩ | ⟨B', cap, cur, h1, h2, h3, h4, _⟩
    · rw [h1] at hB; cases hB
    · rw [h1] at hB; cases hB; obtain ⟨_, h4, _⟩ := h4; rw [hD] at h4; cases h4
  | map es =>
    obtain ⟨B', cap, ents, clock, h1, h2, h3, h4, _⟩ := hor
    rw [h1] at hB; cases hB; rw [hD] at h4; cases h4
  | loop c st env =>
    obtain ⟨B', cap, rec, h1, h2, h3, h4, _⟩ := hor
    rw [h1] at hB; cases hB; rw [hD] at h4; cases h4
  | iter s pos ml =>
    obtain ⟨B', cap, h1, h2, h3, h4⟩ := hor
    rw [h1] at hB; cases hB
    rcases h4.obj with ⟨a, b, h4⟩ | ⟨a, b, c, d, h4⟩ <;> (rw [hD] at h4; cases h4)

/-- The marks are come to, one after the other. -/

theorem leaves_marks {μ ρ S} {w : World} {σ' : St} {ρ' S'} {tmps : Array Value} {n : Nat} {fn : Func} {R : Ending → World → Prop} {u : FrameMode} {tl : List Deferred} (hw : K.w0.heap.size ≤ w.heap.size) (hu : u ≠ .run)
    {wq : World} (fin : ∀ w'', RepMu K ρ' S' σ'.mu w'' → Stab0 σ'.mu ρ' S' wq σ'.mu ρ' S' w'' → Stab μ ρ S w σ'.mu ρ' S' w'' → LeavesInM Fence.wide n K.P fn tmps R tl u w'') :
    ∀ (l : List Nat) (w' : World), l.Nodup → (∀ D ∈ l, w.heap.size ≤ D ∧ ¬ S' D ∧ w'.heap[D]? = some (.deferred (some []))) → RepMu K ρ' S' σ'.mu w' → Stab0 σ'.mu ρ' S' wq σ'.mu ρ' S' w' →
      Stab μ ρ S w σ'.mu ρ' S' w' → LeavesInM Fence.wide n K.P fn tmps R (l.map markOf ++ tl) u w'
  | [], w', _, _, h1, h2, h3 => fin w' h1 h2 h3
  | D :: l, w', hn, hl, h1, h2, h3 => by
    obtain ⟨d1, d2, d3⟩ := hl D (by simp)
    obtain ⟨hn1, hn2⟩ := List.nodup_cons.1 hn
    obtain ⟨r1, r2⟩ := h1.putObj (.deferred none) (Nat.le_trans hw d1) d2 d3 (fun id p c hi hne => h1.notdef hi hne d3)
    refine ⟨hu, .inl ⟨D, w'.putObj D (.deferred none), rfl, run_takeDeferred d3, leaves_marks hw hu fin l _ hn2 (fun D' hD' => ?_) r1 (h2.trans r2) ?_⟩⟩
    · obtain ⟨e1, e2, e3⟩ := hl D' (by simp [hD'])
      exact ⟨e1, e2, by rw [World.putObj_heap_other (k := D') (r := D) (fun e => hn1 (by rw [← e]; exact hD'))]; exact e3⟩
    · refine ⟨h3.sub, fun b hb => ?_, h3.obj, by simpa using h3.size, fun b hb hd => ?_, fun b hlt b1 b2 => ?_⟩
      · rw [World.putObj_heap_other (k := b) (r := D) (fun e => d2 (by rw [← e]; exact h3.sub b hb))]; exact h3.blk b hb
      · have hlt := (Array.getElem?_eq_some_iff.1 hd).1
        rw [World.putObj_heap_other (by omega)]; exact h3.col b hb hd
      · obtain ⟨a1, a2, a3⟩ := h3.fr b hlt b1 b2
        exact ⟨by rw [World.putObj_heap_other (by omega)]; exact a1, a2, a3⟩

theorem acalls_of_sem {f m : Nat} {s : SCode} {rs : List RV} {args : List AV} {μ : List AObj} {R : AEnd → List AObj → Prop} (hf : FnIs K.P f m s rs) (hn : args.length ≤ m)
    (h : ∀ D, sem K ⟨none, m, D, μ.length, some []⟩ s ⟨enterEnv args, μ⟩ (bodyQ rs R)) : ACalls K f args μ R := by
  obtain ⟨fn, c, f1, f2, b1, b2, f4, f5⟩ := hf
  refine ⟨⟨fn, f1, f2, by rw [b1]; rfl⟩, fun ρ S w vs hm hl hv => ?_⟩
  refine callsIn_wide.1 (callsIn_of_wp_marks (n := 0) f1 b1 trivial ?_)
  have ha := ARep.enter (b := μ.length) (D := w.heap.size) (m := m) hm hl hv hn (Nat.le_refl _) (.inr rfl)
  have hw := h w.heap.size c b2 _ w ρ S ha μ ρ S w ⟨Nat.le_refl _, Stab.refl _ _ _ _⟩
  rw [f4]
  refine wpIn_mono hw fun e a' w' hp => ?_
  obtain ⟨ae, σ', ρ', S', h3, h4, h5, h6⟩ := hp
  obtain ⟨_, _, hds⟩ := h5.defers
  obtain ⟨l, l1, l2, l3⟩ := hds _ rfl
  have ret : (∃ x, resA σ' rs = some x ∧ R (.ret x) σ'.mu) → LeavesInM Fence.wide 0 K.P fn a'.tmps (fun e w' => ∃ ae μ' ρ' S', R ae μ' ∧ EndRel μ' ρ' S' w' ae e ∧ RepMu K ρ' S' μ' w' ∧ Stab μ ρ S w μ' ρ' S' w') a'.defers .returning w' := by
    rintro ⟨x, x1, x2⟩
    rw [l1]
    refine leaves_marks hm.size (by simp) (wq := w') (fun w'' k1 k2 k3 => ?_) l w' l2 l3 h5.mu (Stab0.refl _ _ _ _) h6.stab
    obtain ⟨v, v1, v2⟩ := res_sound (F := ⟨none, m, w.heap.size, μ.length, none⟩) (a := { a' with defers := [] }) ⟨k1, h5.size, ⟨k3.size, fun _ => rfl, fun _ h => (by cases h)⟩, fun t => (h5.env t).stab0 k2⟩ f5 x1
    exact ⟨v, v1, .ret x, σ'.mu, ρ', S', x2, v2, k1, k3⟩
  cases ae <;> cases e <;> simp only [ExRel] at h3 <;> try (exact h3.elim)
  · exact ret h4
  · exact h4.elim
  · exact ret h4
  · rename_i x chain
    show LeavesInM _ _ _ _ _ _ _ _ _
    rw [l1]
    match chain, h3 with
    | [⟨v, false, false⟩], h3 =>
      exact leaves_marks (n := 0) (fn := fn) (tmps := a'.tmps) (u := .panicking [⟨v, false, false⟩]) (R := fun e w' => ∃ ae μ' ρ' S', R ae μ' ∧ EndRel μ' ρ' S' w' ae e ∧ RepMu K ρ' S' μ' w' ∧ Stab μ ρ S w μ' ρ' S' w') (wq := w') hm.size (by simp)
        (fun w'' k1 k2 k3 => by
          show ∃ ae μ' ρ' S', R ae μ' ∧ EndRel μ' ρ' S' w'' ae (.panicked [⟨v, false, false⟩]) ∧ RepMu K ρ' S' μ' w'' ∧ Stab μ ρ S w μ' ρ' S' w''
          exact ⟨.panic x, σ'.mu, ρ', S', h4, h3.stab0 k2, k1, k3⟩) l w' l2 l3 h5.mu (Stab0.refl _ _ _ _) h6.stab

/-- What is owned, as a tree. -/
inductive Tree (μ : List AObj) : AV → AV → Prop
  | same {x} : treeA x = true → Tree μ x x
  | agg {cs ts : List AV} : cs.length = ts.length → (∀ (i : Nat) c t, cs[i]? = some c → ts[i]? = some t → Tree μ c t) → Tree μ (.agg cs) (.agg ts)
  | tup {cs ts : List AV} : cs.length = ts.length → (∀ (i : Nat) c t, cs[i]? = some c → ts[i]? = some t → Tree μ c t) → Tree μ (.tup cs) (.tup ts)
  | hsl {id g sz len e es} (f : Nat → List AV) : μ[id]? = some (.row e g sz es) → (∀ i, i < len → (f i).length = sz) → (∀ (i j : Nat) cs c t, i < len → es[i]? = some cs → cs[j]? = some c → (f i)[j]? = some t → Tree μ c t) →
      Tree μ (.hsl id g sz len) (.sl len f)
  | fn {f fi ca fi' ca'} : fi.length = fi'.length → ca.length = ca'.length → (∀ (i : Nat) c t, fi[i]? = some c → fi'[i]? = some t → Tree μ c t) → (∀ (i : Nat) c t, ca[i]? = some c → ca'[i]? = some t → Tree μ c t) →
      Tree μ (.fn f fi ca) (.fn f fi' ca')
  | iface {t x y} : Tree μ x y → Tree μ (.iface t x) (.iface t y)
  | ptr {id g sz i off e es cs ts} : μ[id]? = some (.row e g sz es) → es[i]? = some cs → cs.length = ts.length → (∀ (j : Nat) c t, cs[j]? = some c → ts[j]? = some t → Tree μ c t) → Tree μ (.ptr id g sz i off) (.tptr ts off)

theorem iface_inv {μ ρ S w t x v} (h : VR μ ρ S w (.iface t x) v) : ∃ u, v = .iface t u ∧ VR μ ρ S w x u := by
  cases h with
  | t h' => cases h' with | iface _ _ v hr => exact ⟨v, rfl, .t hr⟩
  | iface _ _ v hr => exact ⟨v, rfl, hr⟩

theorem fn_inv {μ ρ S w f fi ca v} (h : VR μ ρ S w (.fn f fi ca) v) : ∃ vf vc : Array Value, v = .func f vf vc ∧ fi.length = vf.size ∧ ca.length = vc.size ∧ (∀ (i : Nat) c u, fi[i]? = some c → vf[i]? = some u → VR μ ρ S w c u) ∧
    (∀ (i : Nat) c u, ca[i]? = some c → vc[i]? = some u → VR μ ρ S w c u) := by
  cases h with
  | t h' => cases h' with | fn _ _ _ vf vc h1 h2 r1 r2 => exact ⟨vf, vc, rfl, h1, h2, fun i c u a b => .t (r1 i c u a b), fun i c u a b => .t (r2 i c u a b)⟩
  | fn _ _ _ vf vc h1 h2 r1 r2 => exact ⟨vf, vc, rfl, h1, h2, r1, r2⟩

theorem tup_inv {μ ρ S w cs v} (h : VR μ ρ S w (.tup cs) v) : ∃ vs : Array Value, v = .tuple vs ∧ cs.length = vs.size ∧ ∀ (i : Nat) c u, cs[i]? = some c → vs[i]? = some u → VR μ ρ S w c u := by
  cases h with
  | t h' => cases h' with | tup _ vs hl hr => exact ⟨vs, rfl, hl, fun i c u a b => .t (hr i c u a b)⟩
  | tup _ vs hl hr => exact ⟨vs, rfl, hl, hr⟩

/-- The method of that name of a dynamic type. -/
def methOf (tab : List (Nat × Nat)) (t : Nat) : Option Nat := match tab with
  | [] => none
  | (u, f) :: r => bif Nat.beq u t then some f else methOf r t
theorem methOf_mem : ∀ {tab : List (Nat × Nat)} {t f : Nat}, methOf tab t = some f → (t, f) ∈ tab
  | [], _, _, h => by cases h
  | (u, g) :: r, t, f, h => by
    simp only [methOf] at h
    cases hb : Nat.beq u t with
    | true =>
      rw [hb] at h
      simp only [cond_true, Option.some.injEq] at h
      subst h
      rw [Nat.eq_of_beq_eq_true hb]
      exact List.mem_cons_self
    | false =>
      rw [hb] at h
      exact List.mem_cons_of_mem _ (methOf_mem h)
/-- The function and the arguments of an operation that calls. -/
def callee (op : SOp) (env : List (Nat × AV)) : Option (Nat × List AV) :=
  match op with
  | .call f as => some (f, as.map (evX env))
  | .dyn y as => match evX env y with | .fn (.func f) fi ca => some (f, fi ++ as.map (evX env) ++ ca) | _ => none
  | .inv tab y as => match evX env y with | .iface t x => (methOf tab t).map fun f => (f, x :: as.map (evX env)) | _ => none
  | _ => none
/-- What the machine does at a call. -/
theorem callee_exec {K : Ctx} {μ ρ S w env} {a : Act} {o : Oper} {s : SOp} (he : EvRel ρ S μ w env a.eval) (hc : compOp K.P o = some s) {f : Nat} {args : List AV} (hcl : callee s env = some (f, args)) (hf : FnOK K.P f) :
    ∃ vs : Array Value, (execOp a.eval o).run K.P w = .ok (.enter f vs) w ∧ vs.size = args.length ∧ ∀ (i : Nat) x v, args[i]? = some x → vs[i]? = some v → VR μ ρ S w x v := by
  unfold callee at hcl
  split at hcl
  · rename_i f' as
    simp only [Option.some.injEq, Prod.mk.injEq] at hcl
    obtain ⟨rfl, rfl⟩ := hcl
    obtain ⟨c, k0, k1, k2⟩ := comp_call hc
    obtain ⟨l1, l2⟩ := compXs_rel he _ _ k2
    refine ⟨c.args.map a.eval, ?_, by simpa using l1.symm, fun i y v p q => l2 i y v p (by simpa using q)⟩
    have hcall : execOp a.eval o = (do let d ← Deferred.ofValue (.func (.func f') #[] #[]) (c.args.map a.eval); invoke d.target d.args) := by
      obtain ⟨dst, op, type, pos, after, guard⟩ := o
      obtain ⟨callee, cargs, argTypes⟩ := c
      simp only at k0 k1
      subst k0
      subst k1
      rfl
    rw [hcall]
    simp [Deferred.ofValue, invoke, run_callFunc hf]
  · rename_i y as
    split at hcl
    · rename_i f' fi ca hy
      simp only [Option.some.injEq, Prod.mk.injEq] at hcl
      obtain ⟨rfl, rfl⟩ := hcl
      obtain ⟨c, t, k0, k1', rfl, k1⟩ := comp_dyn hc
      have hcall : execOp a.eval o = (do let d ← Deferred.ofValue (a.eval (.tmp t)) (c.args.map a.eval); invoke d.target d.args) := by
        obtain ⟨dst, op, type, pos, after, guard⟩ := o
        obtain ⟨callee, cargs, argTypes⟩ := c
        simp only at k0 k1'
        subst k0
        subst k1'
        rfl
      generalize c.args = cargs at *
      obtain ⟨l1, l2⟩ := compXs_rel he _ _ k1
      have hv := he (.tmp t) (.t t) rfl
      rw [hy] at hv
      obtain ⟨vf, vc, hvv, e1, e2, r1, r2⟩ := fn_inv hv
      have hsz : cargs.size = as.length := by simpa using l1.symm
      refine ⟨vf ++ cargs.map a.eval ++ vc, by rw [hcall, hvv]; simp [Deferred.ofValue, invoke, run_callFunc hf], by simp; omega, fun i y v p q => ?_⟩
      by_cases h3 : i < fi.length
      · rw [List.append_assoc, List.getElem?_append_left h3] at p
        rw [Array.append_assoc, Array.getElem?_append_left (by omega)] at q
        exact r1 i y v p q
      · rw [List.append_assoc, List.getElem?_append_right (by omega)] at p
        rw [Array.append_assoc, Array.getElem?_append_right (by omega), ← e1] at q
        by_cases h4 : i - fi.length < as.length
        · rw [List.getElem?_append_left (by simpa using h4)] at p
          rw [Array.getElem?_append_left (by simp; omega)] at q
          exact l2 _ y v p (by simpa using q)
        · rw [List.getElem?_append_right (by simpa using h4)] at p
          rw [Array.getElem?_append_right (by simp; omega)] at q
          simp only [List.length_map, Array.size_map, hsz] at p q
          exact r2 _ y v p q
    · cases hcl
  · rename_i tab y as
    split at hcl
    · rename_i t x hy
      simp only [Option.map_eq_some_iff, Prod.mk.injEq] at hcl
      obtain ⟨f', hm, rfl, rfl⟩ := hcl
      obtain ⟨c, r, name, k0, k1', k2, rfl, k1⟩ := comp_invk hc
      have hv := he r y k2
      rw [hy] at hv
      obtain ⟨u, hu, hx⟩ := iface_inv hv
      obtain ⟨l1, l2⟩ := compXs_rel he _ _ k1
      have hsz : c.args.size = as.length := by simpa using l1.symm
      refine ⟨#[u] ++ c.args.map a.eval, ?_, by simp; omega, fun i y v p q => ?_⟩
      · obtain ⟨dst, op, type, pos, after, guard⟩ := o
        obtain ⟨callee, cargs, argTypes⟩ := c
        simp only at k0 k1'
        subst k0
        subst k1'
        have h0 : (#[Value.iface t u] ++ Array.map a.eval cargs)[0]? = some (Value.iface t u) := by rw [Array.getElem?_append_left (by simp)]; rfl
        simp [execOp, resolve, invoke, hu, h0, callMethod, program, Sem.run, methTab_run (methOf_mem hm), run_callFunc hf]
        congr 1
        rw [← Array.size_map (f := a.eval), Array.extract_size]
      · cases i with
        | zero =>
          rw [Array.getElem?_append_left (by simp)] at q
          simp at p q
          subst p; subst q; exact hx
        | succ i =>
          refine l2 i y v (by simpa using p) ?_
          rw [Array.getElem?_append_right (by simp)] at q
          simpa using q
    · cases hcl
  · cases hcl
theorem tree_sound {μ ρ S w x t v} (hm : RepMu K ρ S μ w) (S' : Nat → Prop) (h1 : ∀ b, S b → S' b) (h2 : ∀ b, K.w0.heap.size ≤ b → b < w.heap.size → S' b) (ht : Tree μ x t) : VR μ ρ S w x v → VT S' w t v := by
  intro hv
  induction ht generalizing v with
  | same h => exact (hv.tree h).mono h1 (fun _ _ => rfl)
  | agg hl hr ih =>
    obtain ⟨vs, rfl, l, r'⟩ := agg_inv hv
    refine .agg _ _ (hl.symm.trans l) fun i t v a b => ?_
    have hlt := (List.getElem?_eq_some_iff.1 a).1
    exact ih i _ t (List.getElem?_eq_getElem (by omega)) a (r' i _ v (List.getElem?_eq_getElem (by omega)) b)
  | tup hl hr ih =>
    obtain ⟨vs, rfl, l, r'⟩ := tup_inv hv
    refine .tup _ _ (hl.symm.trans l) fun i t v a b => ?_
    have hlt := (List.getElem?_eq_some_iff.1 a).1
    exact ih i _ t (List.getElem?_eq_getElem (by omega)) a (r' i _ v (List.getElem?_eq_getElem (by omega)) b)
  | @hsl id g sz len e es f ho hlen hr ih =>
    cases hv with
    | t h' => cases h'
    | @hsl _ _ _ _ _ _ B cap k1 k2 k3 =>
      rw [ho] at k1; cases k1
      rcases hm.ob id _ ho with ⟨h4, rfl⟩ | ⟨B', cap', cur, h4, h5, h6, h7, h8, h9, h10, h11⟩
      · rw [k3] at h4; cases h4
      · rw [k3] at h4; cases h4
        have hBlt := h7.lt
        have hcell : ∀ i, i < len → ∀ j, j < sz → ∃ c y, es[i]? = some (es[i]?.getD []) ∧ (es[i]?.getD [])[j]? = some c ∧ cur[i * sz + j]? = some y ∧ VR μ ρ S w c y ∧ y.oneCell' = true := by
          intro i hi j hj
          have e1 : es[i]? = some es[i] := List.getElem?_eq_getElem (by omega)
          rw [e1]
          have hc := h11 i _ e1
          have e2 : es[i][j]? = some es[i][j] := List.getElem?_eq_getElem (by omega)
          obtain ⟨y, y1, y2, y3⟩ := hc.2 j _ e2
          exact ⟨_, y, rfl, e2, y1, y2, y3⟩
        refine .sl len f _ cap (fun i j => (cur[i * sz + j]?).getD undef) (Nat.le_trans k2 h9) h10 (fun hpos => ⟨B, 0, sz, rfl, h2 B h5 hBlt, fun i hi => ⟨hlen i hi, fun j hj => ?_⟩⟩) (fun i hi j c hj => ?_)
        · obtain ⟨c, y, y1, y2, y3, y4, y5⟩ := hcell i hi j hj
          rw [Nat.zero_add, h7.cell, y3]
          exact ⟨rfl, y5⟩
        · have hjlt : j < sz := by rw [← hlen i hi]; exact (List.getElem?_eq_some_iff.1 hj).1
          obtain ⟨c', y, y1, y2, y3, y4, y5⟩ := hcell i hi j hjlt
          have := ih i j _ c' c hi y1 y2 hj (v := y) y4
          simpa [y3] using this
    | hsl0 k1 k3 => exact .sl 0 f _ 0 (fun _ _ => undef) (Nat.le_refl _) (by simp) (fun h => absurd h (Nat.lt_irrefl _)) (fun i hi => absurd hi (Nat.not_lt_zero _))
    | hslOld _ k1 k2 => rw [ho] at k1; cases k1; omega
    | hslGone _ k1 => rw [ho] at k1; cases k1
  | fn e1 e2 _ _ ih1 ih2 =>
    obtain ⟨vf, vc, rfl, l1, l2, r1, r2⟩ := fn_inv hv
    refine .fn _ _ _ _ _ (e1.symm.trans l1) (e2.symm.trans l2) (fun i t v a b => ?_) (fun i t v a b => ?_)
    · have hlt := (List.getElem?_eq_some_iff.1 a).1
      exact ih1 i _ t (List.getElem?_eq_getElem (by omega)) a (r1 i _ v (List.getElem?_eq_getElem (by omega)) b)
    · have hlt := (List.getElem?_eq_some_iff.1 a).1
      exact ih2 i _ t (List.getElem?_eq_getElem (by omega)) a (r2 i _ v (List.getElem?_eq_getElem (by omega)) b)
  | iface _ ih =>
    obtain ⟨u, rfl, r⟩ := iface_inv hv
    exact .iface _ _ _ (ih r)
  | @ptr id g sz i off e es cs ts ho hi hl hr ih =>
    cases hv with
    | t h' => cases h'
    | @ptr _ _ _ _ _ _ _ B cap k1 k2 k3 =>
      rw [ho] at k1; cases k1
      rcases hm.ob id _ ho with ⟨h4, rfl⟩ | ⟨B', cap', cur, h4, h5, h6, h7, h8, h9, h10, h11⟩
      · rw [k3] at h4; cases h4
      · rw [k3] at h4; cases h4
        have hBlt := h7.lt
        have hc := (h11 i _ hi).2
        refine .tptr ts off B (i * sz) (fun j => (cur[i * sz + j]?).getD undef) (h2 B h5 hBlt) (fun j hj => ?_) (fun j t hj => ?_)
        · obtain ⟨y, y1, y2, y3⟩ := hc j _ (List.getElem?_eq_getElem (show j < cs.length by omega))
          rw [h7.cell, y1]
          exact ⟨rfl, y3⟩
        · have hjlt := (List.getElem?_eq_some_iff.1 hj).1
          have hcj := List.getElem?_eq_getElem (show j < cs.length by omega)
          obtain ⟨y, y1, y2, y3⟩ := hc j _ hcj
          have := ih j _ t hcj hj (v := y) y2
          simpa [y1] using this
    | ptrOld _ k1 k2 => rw [ho] at k1; cases k1; omega
    | ptrGone _ k1 => rw [ho] at k1; cases k1

/-- A body's triple, in whatever world, gives the contract over trees. -/
theorem holds_of_sem {P : Program} {G : World → Prop} (hGs : ∀ w w', G w → Below w.heap.size w w' → G w') {f m : Nat} {s : SCode} {rs : List RV} {args : List AV} {t : AV} (hf : FnIs P f m s rs) (hn : args.length ≤ m)
    (h : ∀ w0 S0 hG0 D, sem ⟨P, w0, S0, G, hG0⟩ ⟨none, m, D, 0, some []⟩ s ⟨enterEnv args, []⟩ (bodyQ rs fun ae μ => ∃ x, ae = .ret x ∧ Tree μ x t)) : Holds P G f args t := by
  obtain ⟨fn, c, f1, f2, b1, b2, f4, f5⟩ := id hf
  refine ⟨⟨fn, f1, f2, by rw [b1]; rfl⟩, fun w vs S hG hS hl hv => ?_⟩
  let K : Ctx := ⟨P, w, S, G, fun w' hb => hGs w w' hG hb⟩
  have ha := acalls_of_sem (K := K) (μ := []) hf hn (h _ _ _)
  have hm : RepMu K (fun _ => none) S [] w := ⟨Below.refl _ _, hS, fun b hb _ => hb, by simp, by simp⟩
  refine (ha.2 (fun _ => none) S w vs hm hl (fun i x v a b => .t (hv i x v a b))).mono ?_
  rintro e w' ⟨ae, μ', ρ', S', ⟨x, rfl, hx⟩, h2, h3, h4⟩
  cases e <;> simp only [EndRel] at h2
  refine ⟨_, fun b => S' b ∨ (w.heap.size ≤ b ∧ b < w'.heap.size), rfl, h3.below, fun b hb => .inl (h4.sub b hb), ?_, ?_, tree_sound h3 _ (fun b hb => .inl hb) (fun b h1 h2 => .inr ⟨h1, h2⟩) hx h2⟩
  · rintro b (hb | hb)
    · exact h3.st b hb
    · exact hb.2
  · rintro b (hb | hb) hlt
    · exact h3.own b hb hlt
    · omega

end rules
end Go.Av
set_option linter.unusedVariables false
set_option linter.unusedSimpArgs false
namespace Go.Av
open Go.RowKit

theorem beq_tt : (true == true) = true := rfl
theorem beq_ff : (false == false) = true := rfl
theorem beq_ft : (false == true) = false := rfl
theorem beq_tf : (true == false) = false := rfl

/-- What a proof of an equation comes to. -/
def cval {α : Type} {a c : α} (_ : a = c) : α := c
def codeOf (P : Program) (f : Func) : SCode := (f.body.bind fun c => compC P f.ntmps c).getD .skip
section rules
variable {K : Ctx} {F : Fcx} {env : List (Nat × AV)} {μ : List AObj} {Q : AExit → St → Prop}

/-- What follows, from an operation's outcome. -/
def stepThen (o : Option (AV × List AObj)) (k : AV → List AObj → Prop) : Prop :=
  match o with
  | some (x, μ) => k x μ
  | none => False

theorem o1 {d : Nat} {g : Option (Nat × Bool)} {op : SOp} {l : List SOper} (hg : wantA g env = some true) (h : ∀ k : AV → List AObj → Prop, (∀ x μ', semL K F l ⟨(d, x) :: env, μ'⟩ Q → k x μ') → stepThen (sopA op env μ) k) :
    semL K F (⟨some d, g, op⟩ :: l) ⟨env, μ⟩ Q := by
  have := h (fun x μ' => semL K F l ⟨(d, x) :: env, μ'⟩ Q) (fun _ _ h => h)
  unfold stepThen at this
  split at this
  · rename_i x μ' hs; exact semL_op hg hs this
  · exact this.elim

theorem o0 {g : Option (Nat × Bool)} {op : SOp} {l : List SOper} (hg : wantA g env = some true) (h : ∀ k : AV → List AObj → Prop, (∀ x μ', semL K F l ⟨env, μ'⟩ Q → k x μ') → stepThen (sopA op env μ) k) :
    semL K F (⟨none, g, op⟩ :: l) ⟨env, μ⟩ Q := by
  have := h (fun x μ' => semL K F l ⟨env, μ'⟩ Q) (fun _ _ h => h)
  unfold stepThen at this
  split at this
  · rename_i x μ' hs; exact semL_op hg hs this
  · exact this.elim

theorem ono {d : Nat} {g : Option (Nat × Bool)} {op : SOp} {l : List SOper} (hg : wantA g env = some false) (h : semL K F l ⟨(d, .tup []) :: env, μ⟩ Q) :
    semL K F (⟨some d, g, op⟩ :: l) ⟨env, μ⟩ Q := semL_no hg h

theorem ocall {d : Nat} {g : Option (Nat × Bool)} {f : Nat} {args : List SX} {l : List SOper} {x : AV} {as : List AV} (he : args.map (evX env) = as) (hc : Holds K.P K.G f as x) (ht : treeL as = true) (hg : wantA g env = some true)
    (h : semL K F l ⟨(d, x) :: env, μ⟩ Q) : semL K F (⟨some d, g, .call f args⟩ :: l) ⟨env, μ⟩ Q := by
  subst he
  exact semL_call hg hc ht h

theorem onil (h : Q .normal ⟨env, μ⟩) : semL K F [] ⟨env, μ⟩ Q := semL_nil h

theorem onx {y : SCode} (h : sem K F y ⟨env, μ⟩ Q) : semL K F [] ⟨env, μ⟩ (thenQ K F y Q) := semL_nil h

theorem onb {id : Nat} {y : SCode} (h : sem K F y ⟨env, μ⟩ Q) : semL K F [] ⟨env, μ⟩ (blockQ id (thenQ K F y Q)) := semL_nil h

theorem sreg {l : List SOper} {y : SCode} (h : semL K F l ⟨env, μ⟩ (thenQ K F y Q)) : sem K F (.seq (.reg l) y) ⟨env, μ⟩ Q := sem_seq (sem_reg h)
theorem sreg1 {l : List SOper} (h : semL K F l ⟨env, μ⟩ Q) : sem K F (.reg l) ⟨env, μ⟩ Q := sem_reg h

theorem scond {c : SX} {x y : SCode} {t : Bool} {σ : St} (hc : evX σ.env c = .bool t) (h1 : t = true → sem K F x σ Q) (h2 : t = false → sem K F y σ Q) : sem K F (.cond c x y) σ Q := sem_cond hc h1 h2

theorem semL_env {σ τ : St} {l : List SOper} (he : ∀ t, getE τ.env t = getE σ.env t) (hm : τ.mu = σ.mu) (h : semL K F l τ Q) : semL K F l σ Q := by
  intro all k ol hol hc a w ρ S ha μ0 ρ0 S0 w0 hst
  exact h all k ol hol hc a w ρ S ⟨by rw [hm]; exact ha.mu, ha.size, ha.defers, fun t => by rw [he, hm]; exact ha.env t⟩ μ0 ρ0 S0 w0 (by rw [hm]; exact hst)

/-- Ways part at a truth value in a slot. -/
theorem osplit {t : Nat} {c : Bool} {l : List SOper} (he : getE env t = .bool c) (h1 : c = true → semL K F l ⟨(t, .bool true) :: env, μ⟩ Q) (h2 : c = false → semL K F l ⟨(t, .bool false) :: env, μ⟩ Q) : semL K F l ⟨env, μ⟩ Q := by
  have key : ∀ b, c = b → ∀ u, getE ((t, .bool b) :: env) u = getE env u := by
    intro b hb u
    rw [getE_cons]
    split
    · rename_i hu; subst hu; rw [he, hb]
    · rfl
  cases hc : c with
  | true => exact semL_env (τ := ⟨(t, .bool true) :: env, μ⟩) (key true hc) rfl (h1 hc)
  | false => exact semL_env (τ := ⟨(t, .bool false) :: env, μ⟩) (key false hc) rfl (h2 hc)

theorem osplitP {t : Nat} {p : Prop} [Decidable p] {l : List SOper} (he : getE env t = .bool (decide p)) (h1 : p → semL K F l ⟨(t, .bool true) :: env, μ⟩ Q) (h2 : ¬ p → semL K F l ⟨(t, .bool false) :: env, μ⟩ Q) : semL K F l ⟨env, μ⟩ Q :=
  osplit he (fun h => h1 (of_decide_eq_true h)) (fun h => h2 (of_decide_eq_false h))

theorem scondP {c : SX} {x y : SCode} {p : Prop} [Decidable p] {σ : St} (hc : evX σ.env c = .bool (decide p)) (h1 : p → sem K F x σ Q) (h2 : ¬ p → sem K F y σ Q) : sem K F (.cond c x y) σ Q :=
  sem_cond hc (fun h => h1 (of_decide_eq_true h)) (fun h => h2 (of_decide_eq_false h))

theorem scondT {c : SX} {x y : SCode} {σ : St} (hc : evX σ.env c = .bool true) (h1 : sem K F x σ Q) : sem K F (.cond c x y) σ Q := sem_cond hc (fun _ => h1) (fun h => by cases h)
theorem scondF {c : SX} {x y : SCode} {σ : St} (hc : evX σ.env c = .bool false) (h1 : sem K F y σ Q) : sem K F (.cond c x y) σ Q := sem_cond hc (fun h => by cases h) (fun _ => h1)

theorem nx {y : SCode} {σ : St} (h : sem K F y σ Q) : thenQ K F y Q .normal σ := h

theorem lnext {α : Type} {b : Nat} {mk : α → St} {I : α → Prop} {m : α → Nat} {y : α} {σ : St} (z : α) (h1 : I z) (h2 : m z < m y) (h3 : Le b σ (mk z)) : loopQ b mk I m y Q .normal σ := ⟨z, h1, h2, h3⟩

/-- Nothing more is known: the same objects. -/
theorem Le.same {b : Nat} {e e' : List (Nat × AV)} {μ : List AObj} (h : ∀ p ∈ e', getE e p.1 = p.2) : Le b ⟨e, μ⟩ ⟨e', μ⟩ := ⟨env_of h, .inl rfl⟩

/-- The newer objects are left out. -/
theorem Le.drop {b : Nat} {e e' : List (Nat × AV)} {μ μ' : List AObj} (h : ∀ p ∈ e', getE e p.1 = p.2) (h1 : μ.take μ'.length = μ') (h2 : b ≤ μ'.length) (h3 : refE μ'.length e' = true) (h4 : refM μ'.length μ' = true) : Le b ⟨e, μ⟩ ⟨e', μ'⟩ :=
  ⟨env_of h, .inr ⟨h2, h1.symm, h3, h4⟩⟩

theorem tree_eq {x t : AV} (ht : treeA x = true) (h : x = t) : Tree μ x t := by subst h; exact .same ht

theorem wrap_i64' {x : Int} (h : -9223372036854775808 ≤ x ∧ x ≤ 9223372036854775807) : IntKind.i64.wrap x = x := wrap_i64 h.1 h.2

end rules
end Go.Av
set_option linter.unusedVariables false
set_option linter.unusedSimpArgs false
namespace Go.Av
open Go.RowKit

/-! ### what comes ahead of what -/
inductive Bef (pre : List (List Nat)) : Nat → Nat → Prop
  | one {k i ps} : pre[i]? = some ps → k ∈ ps → Bef pre k i
  | step {k p i ps} : pre[i]? = some ps → p ∈ ps → Bef pre k p → Bef pre k i

def maskOf (acc : List Nat) : List Nat → Nat
  | [] => 0
  | p :: r => 2 ^ p ||| acc.getD p 0 ||| maskOf acc r

def befT : List Nat → List (List Nat) → List Nat
  | acc, [] => acc
  | acc, ps :: r => befT (acc ++ [maskOf acc ps]) r

theorem maskOf_bit (acc : List Nat) : ∀ (ps : List Nat) (k : Nat), (maskOf acc ps).testBit k = true → k ∈ ps ∨ ∃ p ∈ ps, (acc.getD p 0).testBit k = true
  | [], k, h => by simp [maskOf] at h
  | p :: r, k, h => by
    simp only [maskOf, Nat.testBit_or, Bool.or_eq_true] at h
    rcases h with (h | h) | h
    · rw [Nat.testBit_two_pow] at h
      simp at h
      exact .inl (by simp [h])
    · exact .inr ⟨p, by simp, h⟩
    · rcases maskOf_bit acc r k h with h | ⟨q, h1, h2⟩
      · exact .inl (by simp [h])
      · exact .inr ⟨q, by simp [h1], h2⟩

theorem befT_sound (pre : List (List Nat)) : ∀ (r : List (List Nat)) (acc : List Nat), (∀ i, r[i]? = pre[acc.length + i]?) → (∀ i k, (acc.getD i 0).testBit k = true → Bef pre k i) →
    ∀ i k, ((befT acc r).getD i 0).testBit k = true → Bef pre k i
  | [], acc, _, h, i, k, hk => h i k hk
  | ps :: r, acc, hr, h, i, k, hk => by
    refine befT_sound pre r (acc ++ [maskOf acc ps]) (fun j => ?_) (fun j q hq => ?_) i k hk
    · have := hr (j + 1)
      simp only [List.getElem?_cons_succ] at this
      rw [this]; congr 1; simp; omega
    · by_cases hj : j < acc.length
      · rw [List.getD_eq_getElem?_getD, List.getElem?_append_left hj, ← List.getD_eq_getElem?_getD] at hq
        exact h j q hq
      · by_cases hj2 : j = acc.length
        · subst hj2
          rw [List.getD_eq_getElem?_getD, List.getElem?_append_right (Nat.le_refl _)] at hq
          simp at hq
          have hp : pre[acc.length]? = some ps := by have := hr 0; simpa using this.symm
          rcases maskOf_bit acc ps q hq with h1 | ⟨p, h1, h2⟩
          · exact .one hp h1
          · exact .step hp h1 (h p q h2)
        · rw [List.getD_eq_getElem?_getD, List.getElem?_eq_none (by simp; omega)] at hq
          simp at hq

def bef (pre : List (List Nat)) (k i : Nat) : Bool := ((befT [] pre).getD i 0).testBit k

theorem bef_sound {pre : List (List Nat)} {k i : Nat} (h : bef pre k i = true) : Bef pre k i :=
  befT_sound pre pre [] (fun i => by simp) (fun i k h => by simp at h) i k h

/-! ### what an operation looks at -/
def opnds : SOp → List SX
  | .mv x => [x]
  | .pick c a b => [c, a, b]
  | .bin _ x y => [x, y]
  | .un _ x => [x]
  | .conv _ x => [x]
  | .mm _ x y => [x, y]
  | .box _ x => [x]
  | .load _ _ x => [x]
  | .store _ x y => [x, y]
  | .nilchk x => [x]
  | .fa _ x => [x]
  | .fld _ _ _ x => [x]
  | .ixS _ x i => [x, i]
  | .ixA _ _ x i => [x, i]
  | .ext _ x => [x]
  | .len x => [x]
  | .lenS x => [x]
  | .app _ _ _ x y => [x, y]
  | .mkfn _ fi ca => fi ++ ca
  | .bld _ ps => ps.map (·.2.2)
  | .bldS _ _ _ _ ps => ps.map (·.2.2)
  | .mkS _ _ _ _ x => [x]
  | .eqv _ _ x y => [x, y]
  | .eqb _ x y => [x, y]
  | .isnil _ _ x => [x]
  | .ixV _ _ _ x i => [x, i]
  | .ixT x i => [x, i]
  | .slS _ x lo hi => x :: (lo.toList ++ hi.toList)
  | .sl0 _ _ x => [x]
  | .slT x lo hi => x :: (lo.toList ++ hi.toList)
  | .slA _ _ x lo hi => x :: (lo.toList ++ hi.toList)
  | .mkM => []
  | .look _ _ _ _ m k => [m, k]
  | .putM _ _ m k x => [m, k, x]
  | .mkI _ x => [x]
  | .asI _ _ _ x => [x]
  | .cBT x => [x]
  | .cTB _ x => [x]
  | .mkIt x => [x]
  | .mkItM x => [x]
  | .nxt x => [x]
  | .nxm x => [x]
  | .ent x => [x]
  | .cap x => [x]
  | .appN _ _ _ _ x n => [x, n]
  | .clr x => [x]
  | .inv _ x as' => x :: as'
  | .cTT x => [x]
  | .pan x => [x]
  | .call _ args => args
  | .dyn f args => f :: args

def tmpsOf (l : List SX) : List Nat := l.filterMap fun | .t n => some n | .c _ => none

def looks (s : SOper) : List Nat := (match s.guard with | some (t, _) => [t] | none => []) ++ tmpsOf (opnds s.op)

theorem map_congr_ev {env env' : List (Nat × AV)} {l : List SX} (h : ∀ x ∈ l, evX env x = evX env' x) : l.map (evX env) = l.map (evX env') := List.map_congr_left h

theorem oEv_congr {env env' : List (Nat × AV)} {o : Option SX} (h : ∀ x ∈ o.toList, evX env x = evX env' x) : oEv env o = oEv env' o := by
  cases o with
  | none => rfl
  | some x => simp [oEv, h x (by simp)]

theorem sopA_congr {s : SOp} {env env' : List (Nat × AV)} {μ : List AObj} (h : ∀ x ∈ opnds s, evX env x = evX env' x) : sopA s env μ = sopA s env' μ := by
  cases s <;> simp only [opnds, List.mem_cons, List.not_mem_nil, or_false, forall_eq_or_imp, forall_eq, List.mem_append] at h <;> simp only [sopA]
  case mkfn f fi ca => rw [map_congr_ev fun x hx => h x (.inl hx), map_congr_ev fun x hx => h x (.inr hx)]
  case bld zero ps => rw [show evParts env ps = evParts env' ps from List.map_congr_left fun p hp => by rw [h _ (List.mem_map.2 ⟨p, hp, rfl⟩)]]
  case bldS e sz n zero ps => rw [show evParts env ps = evParts env' ps from List.map_congr_left fun p hp => by rw [h _ (List.mem_map.2 ⟨p, hp, rfl⟩)]]
  case slS sz x lo hi => rw [h.1, oEv_congr fun x hx => h.2 x (.inl hx), oEv_congr fun x hx => h.2 x (.inr hx)]
  case slT x lo hi => rw [h.1, oEv_congr fun x hx => h.2 x (.inl hx), oEv_congr fun x hx => h.2 x (.inr hx)]
  case slA n sz x lo hi => rw [h.1, oEv_congr fun x hx => h.2 x (.inl hx), oEv_congr fun x hx => h.2 x (.inr hx)]
  all_goals (first | rw [h] | rw [h.1, h.2] | rw [h.1, h.2.1, h.2.2])

theorem callee_congr {op : SOp} {env env' : List (Nat × AV)} (h : ∀ x ∈ opnds op, evX env x = evX env' x) : callee op env = callee op env' := by
  cases op <;> simp only [callee]
  case call f as => rw [map_congr_ev fun x hx => h x (by simpa [opnds] using hx)]
  case dyn y as => rw [h y (by simp [opnds]), map_congr_ev (l := as) fun x hx => h x (by simp [opnds, hx])]
  case inv tab y as => rw [h y (by simp [opnds]), map_congr_ev (l := as) fun x hx => h x (by simp [opnds, hx])]

theorem getE_map (g : Nat → AV) : ∀ (l : List Nat) (t : Nat), getE (l.map fun u => (u, g u)) t = if t ∈ l then g t else .dead
  | [], t => by simp [getE]
  | u :: l, t => by
    rw [List.map_cons, getE_cons, getE_map g l t]
    by_cases h : u = t
    · subst h; simp
    · rw [if_neg h]
      by_cases h2 : t ∈ l
      · simp [h2]
      · have : ¬ t = u := fun e => h e.symm
        simp [h2, this]

/-- Operations that leave the objects alone. -/
def quietK : SOp → Bool
  | .mv _ => true
  | .pick _ _ _ => true
  | .bin _ _ _ => true
  | .un _ _ => true
  | .conv _ _ => true
  | .mm _ _ _ => true
  | .load _ _ _ => true
  | .nilchk _ => true
  | .fa _ _ => true
  | .fld _ _ _ _ => true
  | .ixS _ _ _ => true
  | .ixA _ _ _ _ => true
  | .ext _ _ => true
  | .len _ => true
  | .lenS _ => true
  | .mkfn _ _ _ => true
  | .eqv _ _ _ _ => true
  | .eqb _ _ _ => true
  | .isnil _ _ _ => true
  | .ixV _ _ _ _ _ => true
  | .ixT _ _ => true
  | .slS _ _ _ _ => true
  | .slT _ _ _ => true
  | .slA _ _ _ _ _ => true
  | .look _ _ _ _ _ _ => true
  | .mkI _ _ => true
  | .asI _ _ _ _ => true
  | .cBT _ => true
  | .cTT _ => true
  | .bld _ _ => true
  | _ => false

theorem get_mono {μ es : List AObj} {id : Nat} {o : AObj} (h : μ[id]? = some o) : (μ ++ es)[id]? = some o := by
  rw [List.getElem?_append_left (List.getElem?_eq_some_iff.1 h).1]; exact h

theorem place_mono {p : AV} {μ es : List AObj} {c} (h : place p μ = some c) : place p (μ ++ es) = some c := by
  cases p <;> simp only [place] at h ⊢ <;> try (first | exact h | cases h)
  split at h
  · rename_i e g' sz' rows ho
    rw [get_mono ho]
    exact h
  · cases h

theorem fa_mono {off : Nat} {p : AV} {μ es : List AObj} {r} (h : faA off p μ = some r) : faA off p (μ ++ es) = some r := by
  unfold faA at h ⊢
  split at h
  · rename_i y hp
    rw [place_mono hp]
    exact h
  · cases h

theorem okCell_mono {μ es : List AObj} {c : AV} (h : okCell μ c = true) : okCell (μ ++ es) c = true := by
  have key : ∀ (id : Nat) (o : AObj), μ[id]? = some o → (μ ++ es)[id]? = some o := fun id o ho => get_mono ho
  cases c <;> simp only [okCell] at h ⊢ <;> try (exact h)
  all_goals
    split at h
    · rename_i ho; rw [key _ _ ho]; try exact h
    · cases h

theorem bldA_mono {μ es : List AObj} : ∀ {ps : List (Nat × Nat × AV)} {cs cs' : List AV}, bldA μ cs ps = some cs' → bldA (μ ++ es) cs ps = some cs'
  | [], cs, cs', h => h
  | (off, sz, x) :: r, cs, cs', h => by
    simp only [bldA] at h ⊢
    split at h
    · rename_i hc
      rw [if_pos ⟨hc.1, hc.2.1, List.all_eq_true.2 fun c hm => okCell_mono (List.all_eq_true.1 hc.2.2 c hm)⟩]
      exact bldA_mono h
    · cases h

theorem src_mono {sz : Nat} {y : AV} {μ es : List AObj} {r} (h : srcA sz y μ = some r) : srcA sz y (μ ++ es) = some r := by
  cases y <;> simp only [srcA] at h ⊢ <;> try (first | exact h | (cases h; done))
  split at h
  · rename_i ho; rw [get_mono ho]; exact h
  · cases h

theorem isnil_mono {k : NK} {y : AV} {μ es : List AObj} {r} (h : isnilB k y μ = some r) : isnilB k y (μ ++ es) = some r := by
  unfold isnilB at h ⊢
  split at h <;> try (first | exact h | (cases h; done))
  · simp only [Option.map_eq_some_iff] at h ⊢
    obtain ⟨c, h2, h3⟩ := h
    exact ⟨c, place_mono h2, h3⟩
  · split at h
    · rename_i ho; rw [get_mono ho]; exact h
    · cases h
  · split at h
    · rename_i ho; rw [get_mono ho]; exact h
    · cases h

theorem slS_mono {sz : Nat} {y : AV} {lo hi : Option AV} {μ es : List AObj} {r} (h : slSA sz y lo hi μ = some r) : slSA sz y lo hi (μ ++ es) = some r := by
  cases y <;> simp only [slSA] at h ⊢ <;> try (first | exact h | (cases h; done))
  split at h
  · rename_i ho; rw [get_mono ho]; exact h
  · cases h

theorem look_mono {agg : Bool} {l : List (Nat × LK)} {z : AV} {ok : Bool} {m k : AV} {μ es : List AObj} {r} (h : lookA agg l z ok m k μ = some r) : lookA agg l z ok m k (μ ++ es) = some r := by
  cases m <;> simp only [lookA] at h ⊢ <;> try (first | exact h | (cases h; done))
  split at h
  · rename_i ho; rw [get_mono ho]; exact h
  · cases h

theorem withMu_some {μ : List AObj} {o : Option AV} {x : AV} (h : o = some x) : withMu μ o = some (x, μ) := by subst h; rfl

theorem quiet_mono {s : SOp} {env : List (Nat × AV)} {μ es : List AObj} {x : AV} (hq : quietK s = true) (h : sopA s env μ = some (x, μ)) : sopA s env (μ ++ es) = some (x, μ ++ es) := by
  cases s <;> simp only [quietK, Bool.false_eq_true] at hq <;> simp only [sopA] at h ⊢
  case mv y => simp only [Option.some.injEq, Prod.mk.injEq, and_true] at h ⊢; exact h
  case mkfn f fi ca => simp only [Option.some.injEq, Prod.mk.injEq, and_true] at h ⊢; exact h
  case pick c a b =>
    generalize evX env c = y at h ⊢
    cases y <;> try (cases h; done)
    rename_i t
    cases t <;> simp only [Option.some.injEq, Prod.mk.injEq, and_true] at h ⊢ <;> exact h
  case load agg sz y =>
    obtain ⟨h1, _⟩ := withMu_inv h
    refine withMu_some ?_
    unfold loadA at h1 ⊢
    split at h1
    · rename_i cs off hp; rw [place_mono hp]; exact h1
    · cases h1
  case nilchk y =>
    obtain ⟨h1, _⟩ := withMu_inv h
    refine withMu_some ?_
    unfold nilchkA at h1 ⊢
    split at h1
    · exact h1
    · simp only [Option.map_eq_some_iff] at h1 ⊢
      obtain ⟨c, h2, h3⟩ := h1
      exact ⟨c, place_mono h2, h3⟩
    · exact h1
    · cases h1
  case fa off y => exact withMu_some (fa_mono (withMu_inv h).1)
  case ixA n sz y i =>
    obtain ⟨h1, _⟩ := withMu_inv h
    refine withMu_some ?_
    unfold ixA at h1 ⊢
    split at h1
    · split at h1
      · rename_i hz; rw [if_pos hz]; exact fa_mono h1
      · cases h1
    · cases h1
  case ixS sz y i =>
    obtain ⟨h1, _⟩ := withMu_inv h
    refine withMu_some ?_
    unfold ixS at h1 ⊢
    split at h1
    · exact h1
    · split at h1
      · rename_i ho; rw [get_mono ho]; exact h1
      · cases h1
    · cases h1
  case len y =>
    obtain ⟨h1, _⟩ := withMu_inv h
    refine withMu_some ?_
    unfold lenA at h1 ⊢
    split at h1
    · exact h1
    · exact h1
    · split at h1
      · rename_i ho; rw [get_mono ho]; exact h1
      · cases h1
    · cases h1
  case isnil k neg y =>
    obtain ⟨h1, _⟩ := withMu_inv h
    refine withMu_some ?_
    unfold isnilA at h1 ⊢
    simp only [Option.map_eq_some_iff] at h1 ⊢
    obtain ⟨b, h2, h3⟩ := h1
    exact ⟨b, isnil_mono h2, h3⟩
  case slS sz y lo hi => exact withMu_some (slS_mono (withMu_inv h).1)
  case look agg l z ok m k => exact withMu_some (look_mono (withMu_inv h).1)
  case cBT y =>
    obtain ⟨h1, _⟩ := withMu_inv h
    refine withMu_some ?_
    unfold cBTA at h1 ⊢
    split at h1
    · rename_i hs; rw [src_mono hs]; exact h1
    · cases h1
  case mkI t y => simp only [Option.some.injEq, Prod.mk.injEq, and_true] at h ⊢; exact h
  case bld zero ps =>
    obtain ⟨h1, _⟩ := withMu_inv h
    refine withMu_some ?_
    simp only [Option.map_eq_some_iff] at h1 ⊢
    obtain ⟨c, h2, h3⟩ := h1
    exact ⟨c, bldA_mono h2, h3⟩
  all_goals exact withMu_some (withMu_inv h).1


/-! ### the region -/
section rules
variable {K : Ctx} {F : Fcx} {σ : St} {Q : AExit → St → Prop}

/-- One quiet operation, over the objects μ: what it comes to, whatever else was carried out. -/
def QOp (K : Ctx) (s : SOper) (env : List (Nat × AV)) (μ : List AObj) (x : AV) : Prop :=
  (wantA s.guard env = some true ∧ quietK s.op = true ∧ sopA s.op env μ = some (x, μ)) ∨
  (wantA s.guard env = some false ∧ x = .tup []) ∨
  (wantA s.guard env = some true ∧ ∃ f args, callee s.op env = some (f, args) ∧ ∀ es, ACalls K f args (μ ++ es) fun ae ν => ae = .ret x ∧ ν = μ ++ es)

/-- One new variable. -/
def BOp (s : SOper) (env : List (Nat × AV)) (μ : List AObj) (x : AV) (o : AObj) : Prop :=
  wantA s.guard env = some true ∧ ∃ e y, s.op = .box e y ∧ boxA e (evX env y) μ = some (x, μ ++ [o]) ∧ ∀ u, y ≠ .t u

def pushE (env : List (Nat × AV)) (d : Option Nat) (x : AV) : List (Nat × AV) := match d with | some d => (d, x) :: env | none => env

/-- The quiet operations in the order of the text; 'o' is the new variable's object, if there is one. -/
inductive QRun (K : Ctx) (μ : List AObj) : List SOper → List (Nat × AV) → Option AObj → List AV → List (Nat × AV) → Prop
  | nil {env} : QRun K μ [] env none [] env
  | op {s l env o x xs env'} : QOp K s env μ x → QRun K μ l (pushE env s.dst x) o xs env' → QRun K μ (s :: l) env o (x :: xs) env'
  | box {s l env b x xs env'} : BOp s env μ x b → QRun K μ l (pushE env s.dst x) none xs env' → QRun K μ (s :: l) env (some b) (x :: xs) env'

/-- The order's own conditions, by which any order that the region allows comes to the text's: m operations are quiet, the rest comes behind all. -/
def dOK (l : List SOper) (pre : List (List Nat)) (m : Nat) : Bool :=
  decide (pre.length = l.length) && decide (m ≤ l.length) &&
  (List.range l.length).all (fun i => (pre.getD i []).all fun p => decide (p < i)) &&
  (List.range m).all (fun i => (List.range m).all fun k =>
    match (l.getD k ⟨none, none, .mv (.t 0)⟩).dst with
    | none => true
    | some t =>
      if k < i then
        (bef pre k i || (!(looks (l.getD i ⟨none, none, .mv (.t 0)⟩)).contains t && !decide ((l.getD i ⟨none, none, .mv (.t 0)⟩).dst = some t)))
      else if i < k then
        (bef pre i k || (!(looks (l.getD i ⟨none, none, .mv (.t 0)⟩)).contains t && !decide ((l.getD i ⟨none, none, .mv (.t 0)⟩).dst = some t)))
      else true) &&
  (List.range l.length).all (fun i => decide (i < m) || (List.range i).all fun k => bef pre k i)
end rules
end Go.Av
set_option linter.unusedVariables false
set_option linter.unusedSimpArgs false
namespace Go.Av
open Go.RowKit

abbrev noOp : SOper := ⟨none, none, .mv (.t 0)⟩
def opAt (l : List SOper) (i : Nat) : SOper := l.getD i noOp

/-- The last of the operations in X that writes the slot. -/
def lastW (l : List SOper) (m : Nat) (X : Nat → Bool) (t : Nat) : Option Nat := ((List.range m).filter fun i => X i && decide ((opAt l i).dst = some t)).getLast?

def gX (l : List SOper) (m : Nat) (R : Nat → AV) (env : List (Nat × AV)) (X : Nat → Bool) (t : Nat) : AV :=
  match lastW l m X t with
  | some i => R i
  | none => getE env t

theorem filter_last {m : Nat} {p : Nat → Bool} {i : Nat} (hi : i < m) (h1 : p i = true) (h2 : ∀ k, i < k → k < m → p k = false) : ((List.range m).filter p).getLast? = some i := by
  induction m with
  | zero => omega
  | succ m ih =>
    rw [List.range_succ, List.filter_append]
    by_cases h : i = m
    · subst h; simp [h1]
    · have : p m = false := h2 m (by omega) (by omega)
      have hn : [m].filter p = [] := by simp [this]
      rw [hn, List.append_nil]
      exact ih (by omega) (fun k a b => h2 k a (by omega))

theorem lastW_congr {l : List SOper} {m : Nat} {X Y : Nat → Bool} {t : Nat} (h : ∀ k, k < m → (opAt l k).dst = some t → X k = Y k) : lastW l m X t = lastW l m Y t := by
  unfold lastW
  congr 1
  apply List.filter_congr
  intro k hk
  by_cases hd : (opAt l k).dst = some t
  · rw [h k (List.mem_range.1 hk) hd]
  · simp [hd]

theorem gX_congr {l m R env} {X Y : Nat → Bool} {t : Nat} (h : ∀ k, k < m → (opAt l k).dst = some t → X k = Y k) : gX l m R env X t = gX l m R env Y t := by
  unfold gX; rw [lastW_congr h]

theorem gX_put {l m R env} {X Y : Nat → Bool} {i : Nat} (hi : i < m) (hY : ∀ k, Y k = (X k || decide (k = i))) (hlate : ∀ k, i < k → k < m → (opAt l k).dst ≠ none → (opAt l k).dst = (opAt l i).dst → X k = false) (t : Nat) :
    gX l m R env Y t = if (opAt l i).dst = some t then R i else gX l m R env X t := by
  split
  · rename_i hd
    unfold gX lastW
    rw [filter_last hi (by simp [hY, hd]) (fun k h1 h2 => by
      by_cases hk : (opAt l k).dst = some t
      · have := hlate k h1 h2 (by rw [hk]; simp) (by rw [hk, hd])
        have hne : k ≠ i := by omega
        simp [hY, this, hne]
      · simp [hk])]
  · rename_i hd
    refine gX_congr fun k hk hdk => ?_
    have hne : k ≠ i := fun e => hd (e ▸ hdk)
    simp [hY, hne]

section rules
variable {K : Ctx} {F : Fcx} {σ : St} {Q : AExit → St → Prop}

/-- The facts of a text-order run, one for each operation. -/
theorem qrun_facts {μ : List AObj} {l : List SOper} {m : Nat} {env0 : List (Nat × AV)} {R : Nat → AV} : ∀ {ls : List SOper} {env : List (Nat × AV)} {o : Option AObj} {xs : List AV} {env' : List (Nat × AV)}, QRun K μ ls env o xs env' →
    ∀ j, j + ls.length = m → (∀ i, i < ls.length → ls[i]? = some (opAt l (j + i))) → (∀ i, i < ls.length → xs.getD i .dead = R (j + i)) → (∀ t, getE env t = gX l m R env0 (fun k => decide (k < j)) t) →
    xs.length = ls.length ∧ (∀ t, getE env' t = gX l m R env0 (fun k => decide (k < m)) t) ∧
    ∃ ib : Option Nat, (ib = none ↔ o = none) ∧ (∀ i, ib = some i → j ≤ i ∧ i < m) ∧ ∀ i, j ≤ i → i < m → ∃ e, (∀ t, getE e t = gX l m R env0 (fun k => decide (k < i)) t) ∧
      ((ib ≠ some i ∧ QOp K (opAt l i) e μ (R i)) ∨ (ib = some i ∧ ∃ b, o = some b ∧ BOp (opAt l i) e μ (R i) b)) := by
  intro ls env o xs env' h
  have push : ∀ (j : Nat) (s : SOper) (x : AV) (env : List (Nat × AV)), j < m → s = opAt l j → x = R j → (∀ t, getE env t = gX l m R env0 (fun k => decide (k < j)) t) → ∀ t, getE (pushE env s.dst x) t = gX l m R env0 (fun k => decide (k < j + 1)) t := by
    intro j s x env hj hs hx he t
    rw [gX_put (X := fun k => decide (k < j)) hj (fun k => by
      by_cases h1 : k < j
      · simp [h1]; omega
      · by_cases h2 : k = j
        · simp [h2]
        · simp [h1, h2]; omega) (fun k h1 _ _ _ => by simp; omega)]
    rw [← hs, ← hx]
    unfold pushE
    split
    · rename_i d hd
      rw [getE_cons, he]
      simp [hd]
    · rename_i hd
      rw [he]; simp [hd]
  induction h with
  | nil =>
    intro j hj _ _ he
    simp at hj
    subst hj
    exact ⟨rfl, he, none, by simp, by simp, fun i h1 h2 => by omega⟩
  | @op s ls env o x xs env' hop hrun ih =>
    intro j hj hls hxs he
    simp only [List.length_cons] at hj hls hxs ⊢
    have hs : s = opAt l j := by have := hls 0 (by omega); simpa using this
    have hx : x = R j := by have := hxs 0 (by omega); simpa using this
    obtain ⟨a1, a2, ib, a3, a4, a5⟩ := ih (j + 1) (by omega) (fun i hi => by have := hls (i + 1) (by omega); simpa [Nat.add_assoc, Nat.add_comm 1 i] using this)
      (fun i hi => by have := hxs (i + 1) (by omega); simpa [Nat.add_assoc, Nat.add_comm 1 i] using this) (push j s x env (by omega) hs hx he)
    refine ⟨by simp [a1], a2, ib, a3, fun i hi => ⟨by have := (a4 i hi).1; omega, (a4 i hi).2⟩, fun i h1 h2 => ?_⟩
    by_cases hij : i = j
    · subst hij
      exact ⟨env, he, .inl ⟨fun e => by have := (a4 i e).1; omega, by rw [← hs, ← hx]; exact hop⟩⟩
    · exact a5 i (by omega) h2
  | @box s ls env b x xs env' hop hrun ih =>
    intro j hj hls hxs he
    simp only [List.length_cons] at hj hls hxs ⊢
    have hs : s = opAt l j := by have := hls 0 (by omega); simpa using this
    have hx : x = R j := by have := hxs 0 (by omega); simpa using this
    obtain ⟨a1, a2, ib, a3, a4, a5⟩ := ih (j + 1) (by omega) (fun i hi => by have := hls (i + 1) (by omega); simpa [Nat.add_assoc, Nat.add_comm 1 i] using this)
      (fun i hi => by have := hxs (i + 1) (by omega); simpa [Nat.add_assoc, Nat.add_comm 1 i] using this) (push j s x env (by omega) hs hx he)
    have hib : ib = none := a3.2 rfl
    subst hib
    refine ⟨by simp [a1], a2, some j, by simp, fun i hi => ?_, fun i h1 h2 => ?_⟩
    · have : j = i := by simpa using hi
      omega
    by_cases hij : i = j
    · subst hij
      exact ⟨env, he, .inr ⟨rfl, b, rfl, by rw [← hs, ← hx]; exact hop⟩⟩
    · obtain ⟨e, e1, e2⟩ := a5 i (by omega) h2
      refine ⟨e, e1, .inl ⟨by simp; omega, ?_⟩⟩
      rcases e2 with ⟨_, e2⟩ | ⟨e2, _⟩
      · exact e2
      · cases e2

theorem QOp.congr {s : SOper} {e e' : List (Nat × AV)} {μ : List AObj} {x : AV} (h : QOp K s e μ x) (he : ∀ t ∈ looks s, getE e t = getE e' t) : QOp K s e' μ x := by
  have hg : wantA s.guard e = wantA s.guard e' := by
    unfold wantA
    split
    · rfl
    · rename_i t b hg
      rw [he t (by simp [looks, hg])]
  have ho : ∀ y ∈ opnds s.op, evX e y = evX e' y := by
    intro y hy
    cases y with
    | c _ => rfl
    | t u => exact he u (by
        simp only [looks, List.mem_append]
        exact .inr (List.mem_filterMap.2 ⟨.t u, hy, rfl⟩))
  rcases h with ⟨h1, h2, h3⟩ | ⟨h1, h2⟩ | ⟨h1, f, args, h2, h3⟩
  · exact .inl ⟨hg ▸ h1, h2, by rw [← sopA_congr ho]; exact h3⟩
  · exact .inr (.inl ⟨hg ▸ h1, h2⟩)
  · exact .inr (.inr ⟨hg ▸ h1, f, args, by rw [← callee_congr ho]; exact h2, h3⟩)

/-- A frame in which each slot stands for what it says. -/
structure GRep (K : Ctx) (F : Fcx) (ρ : Nat → Option (Nat × Nat)) (S : Nat → Prop) (g : Nat → AV) (μ : List AObj) (a : Act) (w : World) : Prop where
  mu : RepMu K ρ S μ w
  size : a.tmps.size = F.n
  defers : Marks F S w a.defers
  env : ∀ t, VR μ ρ S w (g t) (a.tmps.getD t undef)

theorem GRep.put {g g' : Nat → AV} {μ μ' a w ρ S ρ' S' w'} {d : Option Nat} {x : AV} {v : Value} (ha : GRep K F ρ S g μ a w) (hd : ∀ t, d = some t → t < F.n) (hx : VR μ' ρ' S' w' x v) (hm : RepMu K ρ' S' μ' w')
    (hst : Stab μ ρ S w μ' ρ' S' w') (hg : ∀ t, g' t = if d = some t then x else g t) : GRep K F ρ' S' g' μ' (a.put d v) w' := by
  refine ⟨hm, ?_, ?_, fun t => ?_⟩
  · cases d <;> simp [Act.put, ha.size]
  · cases d <;> exact ha.defers.stab hst
  · rw [hg]
    cases d with
    | none => simp only [reduceCtorEq, if_false]; exact (ha.env t).stab hst
    | some t0 =>
      have hlt : t0 < a.tmps.size := by rw [ha.size]; exact hd t0 rfl
      simp only [Act.put, Array.getD_eq_getD_getElem?, Option.some.injEq]
      split
      · rename_i h; subst h
        rw [Array.getElem?_setIfInBounds_self_of_lt hlt]
        exact hx
      · rename_i h
        have := (ha.env t).stab hst
        simp only [Array.getD_eq_getD_getElem?] at this
        rw [Array.getElem?_setIfInBounds_ne h]
        exact this

end rules
end Go.Av
set_option linter.unusedVariables false
set_option linter.unusedSimpArgs false
namespace Go.Av
open Go.RowKit

theorem Bef.lt {pre : List (List Nat)} (hlt : ∀ (i : Nat) ps p, pre[i]? = some ps → p ∈ ps → p < i) {k i : Nat} (h : Bef pre k i) : k < i := by
  induction h with
  | one h1 h2 => exact hlt _ _ _ h1 h2
  | step h1 h2 _ ih => have := hlt _ _ _ h1 h2; omega

theorem Bef.closed {pre : List (List Nat)} {X : Nat → Prop} (hdown : ∀ (i : Nat) ps p, X i → pre[i]? = some ps → p ∈ ps → X p) {k i : Nat} (h : Bef pre k i) : (∀ ps p, pre[i]? = some ps → p ∈ ps → X p) → X k := by
  induction h with
  | one h1 h2 => exact fun hi => hi _ _ h1 h2
  | step h1 h2 _ ih => exact fun hi => ih fun ps p a b => hdown _ _ _ (hi _ _ h1 h2) a b

theorem preOf_mem {o : Oper} {p : Nat} : p ∈ preOf o ↔ ∃ e ∈ o.after, Region.binds .any e = true ∧ e.on = p := by
  simp [preOf, List.mem_map, List.mem_filter, and_assoc]

/-- What must come behind all, comes in its order. -/
theorem tail_any {F : Fence} {P : Program} {ops : Array Oper} {Q : Exit → Act → World → Prop} {pre : List (List Nat)} {m : Nat} (hpre : ∀ (i : Nat) o, ops[i]? = some o → pre[i]? = some (preOf o))
    (hlt : ∀ (i : Nat) ps p, pre[i]? = some ps → p ∈ ps → p < i) (htail : ∀ i, m ≤ i → i < ops.size → ∀ k, k < i → Bef pre k i) :
    ∀ (d j : Nat) (listed : Array Bool) (a : Act) (w : World), j + d = ops.size → m ≤ j → listed.size = ops.size → (∀ i, i < ops.size → listed[i]? = some (decide (i < j))) → wpOpsIn F 0 P ops Q (List.range' j d) a w →
      wpAnyIn F 0 P .any ops Q d listed a w := by
  intro d
  induction d with
  | zero =>
    intro j listed a w hj hm hs hl h
    refine ⟨?_, h⟩
    apply List.eq_nil_iff_forall_not_mem.2
    intro i hi
    obtain ⟨h1, o, h2, _⟩ := mem_ready.1 hi
    have hlt' := (Array.getElem?_eq_some_iff.1 h2).1
    have := hl i hlt'
    rw [Array.getD_eq_getD_getElem?, this] at h1
    simp at h1; omega
  | succ d ih =>
    intro j listed a w hj hm hs hl h
    have hjs : j < ops.size := by omega
    have hrj : j ∈ Region.ready .any ops listed := by
      refine mem_ready.2 ⟨by rw [Array.getD_eq_getD_getElem?, hl j hjs]; simp, ops[j], Array.getElem?_eq_getElem hjs, fun e he hb => ?_⟩
      have h1 := hlt j _ e.on (hpre j _ (Array.getElem?_eq_getElem hjs)) (preOf_mem.2 ⟨e, he, hb, rfl⟩)
      rw [Array.getD_eq_getD_getElem?, hl e.on (by omega)]
      simp [h1]
    refine ⟨fun h0 => (by rw [h0] at hrj; exact absurd hrj List.not_mem_nil), fun i hi => ?_⟩
    obtain ⟨h1, o, h2, h3⟩ := mem_ready.1 hi
    have hilt := (Array.getElem?_eq_some_iff.1 h2).1
    rw [Array.getD_eq_getD_getElem?, hl i hilt] at h1
    simp at h1
    have hij : i = j := by
      rcases Nat.lt_or_eq_of_le h1 with h4 | h4
      · have hb := htail i (by omega) hilt j h4
        have := Bef.closed (X := fun k => k < j) (fun i' ps p hi' a b => by have := hlt i' ps p a b; omega) hb (fun ps p a b => by
          have a2 := (hpre i o h2).symm.trans a
          have a3 : preOf o = ps := by simpa using a2
          rw [← a3] at b
          obtain ⟨e, e1, e2, rfl⟩ := preOf_mem.1 b
          have h5 := h3 e e1 e2
          by_cases h6 : e.on < ops.size
          · rw [Array.getD_eq_getD_getElem?, hl e.on h6] at h5
            simpa using h5
          · rw [Array.getD_eq_getD_getElem?, Array.getElem?_eq_none (by omega)] at h5
            simp at h5)
        omega
      · exact h4.symm
    subst hij
    rw [List.range'_succ, wpOpsIn_cons] at h
    refine wpOpIn_mono (fun a' w' h' => ih (i + 1) _ a' w' (by omega) (by omega) (by simpa using hs) (fun k hk => ?_) h') h
    by_cases hki : i = k
    · subst hki
      rw [Array.getElem?_setIfInBounds_self_of_lt (by omega)]; simp
    · rw [Array.getElem?_setIfInBounds_ne hki, hl k hk]
      congr 1
      by_cases h7 : k < i
      · simp [h7]; omega
      · simp [h7]; omega

theorem count_prefix {a : List Bool} {N m : Nat} (hm : m ≤ N) (hs : a.length = N) (h : ∀ i, i < N → a[i]? = some (decide (i < m))) : a.count false = N - m := by
  have : a = List.replicate m true ++ List.replicate (N - m) false := by
    apply List.ext_getElem?
    intro i
    by_cases hi : i < N
    · rw [h i hi]
      by_cases h1 : i < m
      · rw [List.getElem?_append_left (by simpa using h1)]; simp [h1, List.getElem?_replicate]
      · rw [List.getElem?_append_right (by simp; omega)]; simp [h1, List.getElem?_replicate]; omega
    · rw [List.getElem?_eq_none (by omega), List.getElem?_eq_none (by simp; omega)]
  rw [this]; simp [List.count_replicate]

theorem compL_get {P : Program} {n : Nat} {all : Array Oper} : ∀ {ol : List Oper} {l : List SOper}, compL P n all ol = some l → l.length = ol.length ∧ ∀ (i : Nat) o, ol[i]? = some o → ∃ s, l[i]? = some s ∧ compOper P n all o = some s
  | [], l, h => by simp [compL] at h; subst h; simp
  | o :: ol, l, h => by
    simp only [compL] at h
    split at h <;> cases h
    rename_i s l' h1 h2
    obtain ⟨k1, k2⟩ := compL_get h2
    refine ⟨by simp [k1], fun i o' hi => ?_⟩
    match i with
    | 0 => simp at hi; subst hi; exact ⟨s, rfl, h1⟩
    | i + 1 => exact k2 i o' (by simpa using hi)

theorem compL_drop {P : Program} {n : Nat} {all : Array Oper} : ∀ {ol : List Oper} {l : List SOper} (m : Nat), compL P n all ol = some l → compL P n all (ol.drop m) = some (l.drop m)
  | ol, l, 0, h => by simpa using h
  | [], l, m + 1, h => by simp [compL] at h; subst h; simp [compL]
  | o :: ol, l, m + 1, h => by
    simp only [compL] at h
    split at h <;> cases h
    rename_i s l' h1 h2
    simpa using compL_drop m h2

section rules
variable {K : Ctx} {F : Fcx} {σ : St} {Q : AExit → St → Prop}

/-- What is carried out next, from a state in which some have been. -/
theorem step_any {ops : Array Oper} {l : List SOper} {o : Oper} {s : SOper} {i : Nat} {g g' : Nat → AV} {μ μ1 : List AObj} {x : AV} {a : Act} {w : World} {ρ S} {μ0 ρ0 S0 w0} {N : Act → World → Prop} {Q' : Exit → Act → World → Prop}
    (ho : ops[i]? = some o) (hs : compOper K.P F.n ops o = some s) (hst : SB F.b μ0 ρ0 S0 w0 μ ρ S w) (hG : GRep K F ρ S g μ a w) (hg' : ∀ t, g' t = if s.dst = some t then x else g t)
    (hop : (wantA s.guard ((looks s).map fun t => (t, g t)) = some true ∧ sopA s.op ((looks s).map fun t => (t, g t)) μ = some (x, μ1)) ∨
      (wantA s.guard ((looks s).map fun t => (t, g t)) = some false ∧ x = .tup [] ∧ μ1 = μ) ∨
      (wantA s.guard ((looks s).map fun t => (t, g t)) = some true ∧ μ1 = μ ∧ ∃ f args, callee s.op ((looks s).map fun t => (t, g t)) = some (f, args) ∧ ACalls K f args μ fun ae ν => ae = .ret x ∧ ν = μ))
    (hN : ∀ a' w' ρ' S', GRep K F ρ' S' g' μ1 a' w' → SB F.b μ0 ρ0 S0 w0 μ1 ρ' S' w' → N a' w') : wpOpIn (Fr F.r) 0 K.P ops Q' i N a w := by
  obtain ⟨c1, c2, c3, _⟩ := comp_dst hs
  -- the frame as an abstract state of the slots that are looked at
  have ha : ARep K F ρ S ⟨(looks s).map fun t => (t, g t), μ⟩ a w := ⟨hG.mu, hG.size, hG.defers, fun t => by
    show VR μ ρ S w (getE ((looks s).map fun t => (t, g t)) t) _
    rw [getE_map]
    split
    · exact hG.env t
    · exact .dead _⟩
  unfold wpOpIn
  simp only [ho]
  rcases hop with ⟨h1, h2⟩ | ⟨h1, rfl, rfl⟩ | ⟨h1, rfl, f, args, h2, h3⟩
  · rw [want_sound ha hs h1]
    simp only [if_true]
    obtain ⟨v, w', ρ', S', n1, n2, n3, n4⟩ := sop_sound ha.mu ha.eval (fun _ => rfl) c1 h2
    refine ⟨fun _ _ => trivial, ?_⟩
    rw [semAt_plain c1]
    have hn := hN (a.put o.dst v) w' ρ' S' (hG.put c3 n2 n3 n4 (fun t => by rw [hg', c2])) (hst.trans n4)
    rcases n1 with n1 | ⟨n1, rfl⟩
    · rw [n1]; exact hn
    · rw [n1]; exact hn
  · rw [want_sound ha hs h1]
    simp only [Bool.false_eq_true, if_false]
    exact ⟨fun _ _ => trivial, hN (a.put o.dst undef) w ρ S (hG.put c3 (.t (.tup [] #[] rfl (by simp))) hG.mu (Stab.refl _ _ _ _) (fun t => by rw [hg', c2])) hst⟩
  · rw [want_sound ha hs h1]
    simp only [if_true]
    refine ⟨fun _ _ => trivial, ?_⟩
    rw [semAt_plain c1]
    obtain ⟨vs, q1, q2, q3⟩ := callee_exec ha.eval c1 h2 h3.1
    rw [q1]
    have hac := h3
    refine ⟨fun h => by simp [Fr, Fence.wide] at h, callsIn_Fr ((hac.2 ρ S w vs hG.mu q2 q3).mono ?_)⟩
    rintro e w' ⟨ae, μ', ρ', S', ⟨rfl, rfl⟩, r2, r3, r4⟩
    cases e <;> simp only [EndRel] at r2
    exact hN _ w' ρ' S' (hG.put c3 r2 r3 r4 (fun t => by rw [hg', c2])) (hst.trans r4)

theorem getD_some {α : Type} {l : List α} {i : Nat} {x d : α} (h : l[i]? = some x) : l.getD i d = x := by simp [List.getD, h]

end rules
end Go.Av
set_option linter.unusedVariables false
set_option linter.unusedSimpArgs false
namespace Go.Av
open Go.RowKit

mutual
/-- The handles of one object, as trees. -/
def frzA (id g sz n : Nat) (F : Nat → List AV) : AV → AV
  | .agg cs => .agg (frzL id g sz n F cs)
  | .tup cs => .tup (frzL id g sz n F cs)
  | .fn f fi ca => .fn f (frzL id g sz n F fi) (frzL id g sz n F ca)
  | .iface t x => .iface t (frzA id g sz n F x)
  | .hsl id' g' sz' len => if id' = id then (if g' = g ∧ sz' = sz ∧ len ≤ n then .sl len F else .dead) else .hsl id' g' sz' len
  | .ptr id' g' sz' i off => if id' = id then (if g' = g ∧ sz' = sz ∧ i < n then .tptr (F i) off else .dead) else .ptr id' g' sz' i off
  | .mp id' => .mp id'
  | .yl id' => .yl id'
  | .dead => .dead
  | .int k x => .int k x
  | .bool b => .bool b
  | .str s => .str s
  | .nilp => .nilp
  | .nilfn => .nilfn
  | .nilif => .nilif
  | .nilmap => .nilmap
  | .nilsl => .nilsl
  | .sl m f => .sl m f
  | .tptr cs off => .tptr cs off
def frzL (id g sz n : Nat) (F : Nat → List AV) : List AV → List AV
  | [] => []
  | x :: r => frzA id g sz n F x :: frzL id g sz n F r
end

def frzO (id g sz n : Nat) (F : Nat → List AV) : AObj → AObj
  | .row e' g' sz' es => .row e' g' sz' (es.map (frzL id g sz n F))
  | .map es => .map (es.map fun p => (p.1, frzA id g sz n F p.2))
  | .loop c st env => .loop c st (env.map fun p => (p.1, frzA id g sz n F p.2))
  | .iter s pos ml => .iter s pos ml
  | .gone => .gone

def frzE (id g sz n : Nat) (F : Nat → List AV) (env : List (Nat × AV)) : List (Nat × AV) := env.map fun p => (p.1, frzA id g sz n F p.2)
def frzM (id g sz n : Nat) (F : Nat → List AV) (μ : List AObj) : List AObj := (μ.map (frzO id g sz n F)).set id .gone

theorem frzL_get {id g sz n F} : ∀ (l : List AV) (i : Nat), (frzL id g sz n F l)[i]? = (l[i]?).map (frzA id g sz n F)
  | [], i => by simp [frzL]
  | x :: l, 0 => by simp [frzL]
  | x :: l, i + 1 => by simpa [frzL] using frzL_get l i

theorem frzL_len {id g sz n F} : ∀ (l : List AV), (frzL id g sz n F l).length = l.length
  | [] => rfl
  | x :: l => by simp [frzL, frzL_len l]

theorem frzE_get {id g sz n F} : ∀ (env : List (Nat × AV)) (t : Nat), getE (frzE id g sz n F env) t = frzA id g sz n F (getE env t)
  | [], t => by simp [frzE, getE, frzA]
  | (k, x) :: r, t => by
    rw [show frzE id g sz n F ((k, x) :: r) = (k, frzA id g sz n F x) :: frzE id g sz n F r from rfl, getE_cons, getE_cons, frzE_get r t]
    split <;> rfl

theorem VT.frz {S w x v} {id g sz n F} (h : VT S w x v) : VT S w (frzA id g sz n F x) v := by
  induction h with
  | agg cs vs hl _ ih =>
    simp only [frzA]
    exact .agg _ _ (by rw [frzL_len]; exact hl) fun i c v a b => by
      rw [frzL_get] at a
      obtain ⟨c', a1, rfl⟩ := Option.map_eq_some_iff.1 a
      exact ih i c' v a1 b
  | tup cs vs hl _ ih =>
    simp only [frzA]
    exact .tup _ _ (by rw [frzL_len]; exact hl) fun i c v a b => by
      rw [frzL_get] at a
      obtain ⟨c', a1, rfl⟩ := Option.map_eq_some_iff.1 a
      exact ih i c' v a1 b
  | fn f fi ca vf vc h1 h2 _ _ ih1 ih2 =>
    simp only [frzA]
    exact .fn _ _ _ _ _ (by rw [frzL_len]; exact h1) (by rw [frzL_len]; exact h2) (fun i c v a b => by
      rw [frzL_get] at a
      obtain ⟨c', a1, rfl⟩ := Option.map_eq_some_iff.1 a
      exact ih1 i c' v a1 b) (fun i c v a b => by
      rw [frzL_get] at a
      obtain ⟨c', a1, rfl⟩ := Option.map_eq_some_iff.1 a
      exact ih2 i c' v a1 b)
  | iface t x v _ ih => simp only [frzA]; exact .iface _ _ _ ih
  | sl n f a cap val h1 h2 h3 h4 _ => simp only [frzA]; exact .sl n f a cap val h1 h2 h3 h4
  | tptr cs off b o val hb hc hr _ => simp only [frzA]; exact .tptr cs off b o val hb hc hr
  | int => simp only [frzA]; constructor
  | bool => simp only [frzA]; constructor
  | str => simp only [frzA]; constructor
  | nilp => simp only [frzA]; constructor
  | nilfn => simp only [frzA]; constructor
  | nilif => simp only [frzA]; constructor
  | nilmap => simp only [frzA]; constructor
  | nilsl => simp only [frzA]; constructor

section rules
variable {K : Ctx} {F : Fcx} {σ : St} {Q : AExit → St → Prop}

theorem frzM_get {id g sz n Fn} {μ : List AObj} {i : Nat} {o : AObj} (hi : μ[i]? = some o) (hne : i ≠ id) : (frzM id g sz n Fn μ)[i]? = some (frzO id g sz n Fn o) := by
  unfold frzM
  rw [List.getElem?_set_ne (Ne.symm hne), List.getElem?_map, hi]; rfl

theorem frzM_self {id g sz n Fn} {μ : List AObj} {o : AObj} (hi : μ[id]? = some o) : (frzM id g sz n Fn μ)[id]? = some .gone := by
  unfold frzM
  exact List.getElem?_set_self (by simpa using (List.getElem?_eq_some_iff.1 hi).1)

theorem VR.frz {μ ρ S w} (hm : RepMu K ρ S μ w) {id e g sz : Nat} {es : List (List AV)} {Fn : Nat → List AV} (ho : μ[id]? = some (.row e g sz es)) (hF : ∀ (i : Nat) cs, es[i]? = some cs → Fn i = cs) (ht : ∀ (i : Nat) cs, es[i]? = some cs → treeL cs = true)
    {x : AV} {v : Value} (h : VR μ ρ S w x v) : VR (frzM id g sz es.length Fn μ) ρ (fun b => S b ∨ ∃ c, ρ id = some (b, c)) w (frzA id g sz es.length Fn x) v := by
  have hor := hm.ob id _ ho
  have hlt := (List.getElem?_eq_some_iff.1 ho).1
  have row : ∀ {B cap}, ρ id = some (B, cap) → ∃ cap' cur, cap' = cap ∧ Cel w B cur e ∧ cur.size = cap' * sz ∧ es.length ≤ cap' ∧ cap' ≤ maxLen ∧
      ∀ i cs, es[i]? = some cs → cs.length = sz ∧ ∀ j c, cs[j]? = some c → ∃ v, cur[i * sz + j]? = some v ∧ VT (fun b => S b ∨ ∃ c, ρ id = some (b, c)) w c v ∧ v.oneCell' = true := fun hB => by
    rcases hor with ⟨h1, _⟩ | ⟨B', cap', cur, h1, h2, h3, h4, h5, h6, h7, h8⟩
    · rw [h1] at hB; cases hB
    · rw [h1] at hB; cases hB
      refine ⟨_, cur, rfl, h4, h5, h6, h7, fun i cs hi => ⟨(h8 i cs hi).1, fun j c hj => ?_⟩⟩
      obtain ⟨v, v1, v2, v3⟩ := (h8 i cs hi).2 j c hj
      exact ⟨v, v1, (v2.tree (treeL_get (ht i cs hi) hj)).mono (fun b hb => .inl hb) (fun _ _ => rfl), v3⟩
  have get : ∀ {i : Nat} {o : AObj}, μ[i]? = some o → i ≠ id → (frzM id g sz es.length Fn μ)[i]? = some (frzO id g sz es.length Fn o) := fun hi hne => frzM_get hi hne
  induction h with
  | t h => exact .t ((h.mono (fun b hb => .inl hb) (fun _ _ => rfl)).frz)
  | agg cs vs hl _ ih =>
    simp only [frzA]
    exact .agg _ _ (by rw [frzL_len]; exact hl) fun i c v a b => by
      rw [frzL_get] at a
      obtain ⟨c', a1, rfl⟩ := Option.map_eq_some_iff.1 a
      exact ih i c' v a1 b
  | tup cs vs hl _ ih =>
    simp only [frzA]
    exact .tup _ _ (by rw [frzL_len]; exact hl) fun i c v a b => by
      rw [frzL_get] at a
      obtain ⟨c', a1, rfl⟩ := Option.map_eq_some_iff.1 a
      exact ih i c' v a1 b
  | fn f fi ca vf vc h1 h2 _ _ ih1 ih2 =>
    simp only [frzA]
    exact .fn _ _ _ _ _ (by rw [frzL_len]; exact h1) (by rw [frzL_len]; exact h2) (fun i c v a b => by
      rw [frzL_get] at a
      obtain ⟨c', a1, rfl⟩ := Option.map_eq_some_iff.1 a
      exact ih1 i c' v a1 b) (fun i c v a b => by
      rw [frzL_get] at a
      obtain ⟨c', a1, rfl⟩ := Option.map_eq_some_iff.1 a
      exact ih2 i c' v a1 b)
  | iface t x v _ ih => simp only [frzA]; exact .iface _ _ _ ih
  | @hsl id' g' sz' len e' es' B cap h1 h2 h3 =>
    simp only [frzA]
    split
    · rename_i hid; subst hid
      rw [ho] at h1; cases h1
      rw [if_pos ⟨rfl, rfl, h2⟩]
      obtain ⟨cap', cur, rfl, r1, r2, r3, r4, r5⟩ := row h3
      refine .t (.sl len Fn _ cap' (fun i j => (cur[i * sz + j]?).getD undef) (Nat.le_trans h2 r3) r4 (fun hpos => ⟨B, 0, sz, rfl, .inr ⟨_, h3⟩, fun i hi => ?_⟩) (fun i hi j c hj => ?_))
      · have e1 : es[i]? = some es[i] := List.getElem?_eq_getElem (by omega)
        refine ⟨by rw [hF i _ e1]; exact (r5 i _ e1).1, fun j hj => ?_⟩
        have hj2 : j < es[i].length := by rw [(r5 i _ e1).1]; exact hj
        have e2 : es[i][j]? = some es[i][j] := List.getElem?_eq_getElem hj2
        obtain ⟨y, y1, y2, y3⟩ := (r5 i _ e1).2 j _ e2
        rw [Nat.zero_add, r1.cell, y1]
        exact ⟨rfl, y3⟩
      · have e1 : es[i]? = some es[i] := List.getElem?_eq_getElem (by omega)
        rw [hF i _ e1] at hj
        obtain ⟨y, y1, y2, y3⟩ := (r5 i _ e1).2 j _ hj
        rw [y1]; exact y2
    · rename_i hid
      exact .hsl (es := es'.map (frzL id g sz es.length Fn)) (get h1 hid) (by simpa using h2) h3
  | @hsl0 id' g' sz' e' es' a' h1 h3 =>
    simp only [frzA]
    split
    · rename_i hid; subst hid
      rw [ho] at h1; cases h1
      rw [if_pos ⟨rfl, rfl, Nat.zero_le _⟩]
      exact .t (.sl 0 Fn a' 0 (fun _ _ => undef) (Nat.le_refl _) (by simp) (fun h => absurd h (Nat.lt_irrefl _)) (fun i hi => absurd hi (Nat.not_lt_zero _)))
    · rename_i hid
      exact .hsl0 (get h1 hid) h3
  | @hslOld id' g' sz' len e' g2 sz2 es2 v h1 h2 =>
    simp only [frzA]
    split
    · rename_i hid; subst hid
      rw [ho] at h1; cases h1
      rw [if_neg (by omega)]; exact .dead _
    · rename_i hid
      exact .hslOld _ (get h1 hid) h2
  | @hslGone id' g' sz' len v h1 =>
    simp only [frzA]
    split
    · rename_i hid; subst hid; rw [ho] at h1; cases h1
    · rename_i hid; exact .hslGone _ (get h1 hid)
  | @ptr id' g' sz' i off e' es' B cap h1 h2 h3 =>
    simp only [frzA]
    split
    · rename_i hid; subst hid
      rw [ho] at h1; cases h1
      rw [if_pos ⟨rfl, rfl, h2⟩]
      obtain ⟨cap', cur, rfl, r1, r2, r3, r4, r5⟩ := row h3
      have e1 : es[i]? = some es[i] := List.getElem?_eq_getElem h2
      refine .t (.tptr (Fn i) off B (i * sz) (fun j => (cur[i * sz + j]?).getD undef) (.inr ⟨_, h3⟩) (fun j hj => ?_) (fun j c hj => ?_))
      · rw [hF i _ e1] at hj
        obtain ⟨y, y1, y2, y3⟩ := (r5 i _ e1).2 j _ (List.getElem?_eq_getElem hj)
        rw [r1.cell, y1]
        exact ⟨rfl, y3⟩
      · rw [hF i _ e1] at hj
        obtain ⟨y, y1, y2, y3⟩ := (r5 i _ e1).2 j _ hj
        rw [y1]; exact y2
    · rename_i hid
      exact .ptr (es := es'.map (frzL id g sz es.length Fn)) (get h1 hid) (by simpa using h2) h3
  | @ptrOld id' g' sz' i off e' g2 sz2 es2 v h1 h2 =>
    simp only [frzA]
    split
    · rename_i hid; subst hid
      rw [ho] at h1; cases h1
      rw [if_neg (by omega)]; exact .dead _
    · rename_i hid
      exact .ptrOld _ (get h1 hid) h2
  | @ptrGone id' g' sz' i off v h1 =>
    simp only [frzA]
    split
    · rename_i hid; subst hid; rw [ho] at h1; cases h1
    · rename_i hid; exact .ptrGone _ (get h1 hid)
  | @mp id' es' B cap h1 h3 =>
    simp only [frzA]
    have hid : id' ≠ id := fun e => by subst e; rw [ho] at h1; cases h1
    exact .mp (get h1 hid) h3
  | @mpI id' s pos ml B cap h1 h3 =>
    simp only [frzA]
    have hid : id' ≠ id := fun e => by subst e; rw [ho] at h1; cases h1
    exact .mpI (get h1 hid) h3
  | @mpGone id' v h1 =>
    simp only [frzA]
    have hid : id' ≠ id := fun e => by subst e; rw [ho] at h1; cases h1
    exact .mpGone _ (get h1 hid)
  | @yl id' c st env B cap h1 h3 =>
    simp only [frzA]
    have hid : id' ≠ id := fun e => by subst e; rw [ho] at h1; cases h1
    exact .yl (get h1 hid) h3
  | @ylGone id' v h1 =>
    simp only [frzA]
    have hid : id' ≠ id := fun e => by subst e; rw [ho] at h1; cases h1
    exact .ylGone _ (get h1 hid)
  | dead v => simp only [frzA]; exact .dead _

theorem RepMu.frz {μ ρ S w} (hm : RepMu K ρ S μ w) {id e g sz : Nat} {es : List (List AV)} {Fn : Nat → List AV} (ho : μ[id]? = some (.row e g sz es)) (hF : ∀ (i : Nat) cs, es[i]? = some cs → Fn i = cs) (ht : ∀ (i : Nat) cs, es[i]? = some cs → treeL cs = true) :
    RepMu K ρ (fun b => S b ∨ ∃ c, ρ id = some (b, c)) (frzM id g sz es.length Fn μ) w ∧ Stab μ ρ S w (frzM id g sz es.length Fn μ) ρ (fun b => S b ∨ ∃ c, ρ id = some (b, c)) w := by
  have hlt := (List.getElem?_eq_some_iff.1 ho).1
  have hB : ∀ {b c}, ρ id = some (b, c) → K.w0.heap.size ≤ b ∧ ¬ S b ∧ b < w.heap.size := fun h => hm.blk ho (by simp) h
  have back : ∀ {i : Nat} {o : AObj}, (frzM id g sz es.length Fn μ)[i]? = some o → (i = id ∧ o = .gone) ∨ (i ≠ id ∧ ∃ p, μ[i]? = some p ∧ o = frzO id g sz es.length Fn p) := fun {i o} hi => by
    by_cases hid : i = id
    · subst hid; rw [frzM_self ho] at hi; cases hi; exact .inl ⟨rfl, rfl⟩
    · refine .inr ⟨hid, ?_⟩
      unfold frzM at hi
      rw [List.getElem?_set_ne (Ne.symm hid), List.getElem?_map] at hi
      obtain ⟨p, p1, p2⟩ := Option.map_eq_some_iff.1 hi
      exact ⟨p, p1, p2.symm⟩
  have hgone : ∀ {p : AObj}, frzO id g sz es.length Fn p ≠ .gone → p ≠ .gone := fun h e => h (by subst e; rfl)
  refine ⟨⟨hm.below, ?_, ?_, fun i o hi => ?_, fun i i' o o' B c c' hi hi' hne hne' hb hb' => ?_⟩, ⟨fun b hb => .inl hb, fun _ _ => rfl, fun i o hi => ?_, Nat.le_refl _, fun b hb hd => ⟨hd, ?_⟩, fun b _ b1 b2 => ⟨rfl, fun h => h.elim b1 fun ⟨c, hc⟩ => b2 id _ c ho (by simp) hc, fun i o c hi hne => (back hi).elim (fun e => absurd e.2 hne) fun ⟨_, p, hp, e⟩ => b2 i p c hp (hgone (e ▸ hne))⟩⟩⟩
  · rintro b (hb | ⟨c, hc⟩)
    · exact hm.st b hb
    · exact (hB hc).2.2
  · rintro b (hb | ⟨c, hc⟩) hl
    · exact hm.own b hb hl
    · have := (hB hc).1; omega
  · rcases back hi with ⟨rfl, rfl⟩ | ⟨hid, p, hp, rfl⟩
    · trivial
    · have hns : ∀ {B c}, p ≠ .gone → ρ i = some (B, c) → ¬ (S B ∨ ∃ c, ρ id = some (B, c)) := fun hne h1 h2 => by
        rcases h2 with h2 | ⟨c', h2⟩
        · exact (hm.blk hp hne h1).2.1 h2
        · exact hid (hm.inj i id p _ _ _ _ hp ho hne (by simp) h1 h2)
      have hor := hm.ob i p hp
      cases p with
      | gone => trivial
      | row e' g' sz' es' =>
        rcases hor with ⟨h1, h2⟩ | ⟨B, cap, cur, h1, h2, h3, h4, h5, h6, h7, h8⟩
        · exact .inl ⟨h1, by simp [h2]⟩
        · refine .inr ⟨B, cap, cur, h1, h2, hns (by simp) h1, h4, h5, by simpa using h6, h7, fun k cs hk => ?_⟩
          rw [List.getElem?_map] at hk
          obtain ⟨cs', k1, rfl⟩ := Option.map_eq_some_iff.1 hk
          refine ⟨by rw [frzL_len]; exact (h8 k cs' k1).1, fun j c hj => ?_⟩
          rw [frzL_get] at hj
          obtain ⟨c', j1, rfl⟩ := Option.map_eq_some_iff.1 hj
          obtain ⟨v, v1, v2, v3⟩ := (h8 k cs' k1).2 j c' j1
          exact ⟨v, v1, v2.frz hm ho hF ht, v3⟩
      | map es' =>
        obtain ⟨B, cap, ents, clock, h1, h2, h3, h4, es2, h7, h5, h6⟩ := hor
        refine ⟨B, cap, ents, clock, h1, h2, hns (by simp) h1, h4, _, h7.map _, ⟨by simpa using h5.1, h5.2⟩, fun k a b hk => ?_⟩
        rw [List.getElem?_map] at hk
        obtain ⟨⟨a', b'⟩, k1, k2⟩ := Option.map_eq_some_iff.1 hk
        cases k2
        obtain ⟨en, e1, e2, e3⟩ := h6 k a' b' k1
        exact ⟨en, e1, e2.mono (fun b hb => .inl hb) (fun _ _ => rfl), e3.frz hm ho hF ht⟩
      | loop c st env =>
        obtain ⟨B, cap, rec, h1, h2, h3, h4, h5, h6, h7, h8, h9, h10⟩ := hor
        refine ⟨B, cap, rec, h1, h2, hns (by simp) h1, h4, h5, h6, h7, h8, h9, fun t => ?_⟩
        have := (h10 t).frz hm ho hF ht
        rw [← frzE_get] at this
        exact this
      | iter s pos ml =>
        obtain ⟨B, cap, h1, h2, h3, h4⟩ := hor
        exact ⟨B, cap, h1, h2, hns (by simp) h1, h4.keep (fun b hb => .inl hb) (fun _ _ => rfl) rfl⟩
  · rcases back hi with ⟨rfl, rfl⟩ | ⟨hid, p, hp, rfl⟩
    · exact absurd rfl hne
    · rcases back hi' with ⟨rfl, rfl⟩ | ⟨hid', p', hp', rfl⟩
      · exact absurd rfl hne'
      · exact hm.inj i i' p p' B c c' hp hp' (hgone hne) (hgone hne') hb hb'
  · by_cases hid : i = id
    · subst hid
      exact ⟨.gone, frzM_self ho, by cases o <;> trivial⟩
    · refine ⟨_, frzM_get hi hid, ?_⟩
      cases o <;> simp [frzO, ObjTo]
  · rintro (h | ⟨c, hc⟩)
    · exact hb h
    · exact hm.notdef ho (by simp) hd hc

theorem ARep.frz {a w ρ S} (ha : ARep K F ρ S σ a w) {id e g sz : Nat} {es : List (List AV)} {Fn : Nat → List AV} (ho : σ.mu[id]? = some (.row e g sz es)) (hF : ∀ (i : Nat) cs, es[i]? = some cs → Fn i = cs) (ht : ∀ (i : Nat) cs, es[i]? = some cs → treeL cs = true) :
    ARep K F ρ (fun b => S b ∨ ∃ c, ρ id = some (b, c)) ⟨frzE id g sz es.length Fn σ.env, frzM id g sz es.length Fn σ.mu⟩ a w := by
  obtain ⟨r1, r2⟩ := ha.mu.frz ho hF ht
  exact ⟨r1, ha.size, ha.defers.stab r2, fun t => by rw [frzE_get]; exact (ha.env t).frz ha.mu ho hF ht⟩

/-- An object that holds trees alone is a tree from here on. -/
theorem sem_frz {s : SCode} (id : Nat) {e g sz : Nat} {es : List (List AV)} (n : Nat) (Fn : Nat → List AV) (ho : σ.mu[id]? = some (.row e g sz es)) (hn : es.length = n) (hF : ∀ (i : Nat) cs, es[i]? = some cs → Fn i = cs) (ht : ∀ (i : Nat) cs, es[i]? = some cs → treeL cs = true)
    (h : sem K F s ⟨frzE id g sz n Fn σ.env, frzM id g sz n Fn σ.mu⟩ Q) : sem K F s σ Q := by
  subst hn
  exact fun c hc a w ρ S ha μ0 ρ0 S0 w0 hst => h c hc a w ρ _ (ha.frz ho hF ht) μ0 ρ0 S0 w0 (hst.trans (ha.mu.frz ho hF ht).2)

theorem semL_frz {l : List SOper} (id : Nat) {e g sz : Nat} {es : List (List AV)} (n : Nat) (Fn : Nat → List AV) (ho : σ.mu[id]? = some (.row e g sz es)) (hn : es.length = n) (hF : ∀ (i : Nat) cs, es[i]? = some cs → Fn i = cs) (ht : ∀ (i : Nat) cs, es[i]? = some cs → treeL cs = true)
    (h : semL K F l ⟨frzE id g sz n Fn σ.env, frzM id g sz n Fn σ.mu⟩ Q) : semL K F l σ Q := by
  subst hn
  exact fun all k ol hol hc a w ρ S ha μ0 ρ0 S0 w0 hst => h all k ol hol hc a w ρ _ (ha.frz ho hF ht) μ0 ρ0 S0 w0 (hst.trans (ha.mu.frz ho hF ht).2)

/-! ### lent for a while -/
mutual
/-- Values that name no memory. -/
def flatA : AV → Bool
  | .agg cs => flatL cs
  | .tup cs => flatL cs
  | .iface _ x => flatA x
  | .int _ _ => true
  | .bool _ => true
  | .str _ => true
  | .nilp => true
  | .nilfn => true
  | .nilif => true
  | .nilmap => true
  | .nilsl => true
  | _ => false
def flatL : List AV → Bool
  | [] => true
  | x :: r => flatA x && flatL r
end

theorem flatL_get : ∀ {l : List AV} {i : Nat} {x : AV}, flatL l = true → l[i]? = some x → flatA x = true
  | [], i, x, _, h => by simp at h
  | y :: l, 0, x, h, e => by
    simp only [flatL, Bool.and_eq_true] at h
    simp at e; subst e; exact h.1
  | y :: l, i + 1, x, h, e => by
    simp only [flatL, Bool.and_eq_true] at h
    exact flatL_get h.2 (by simpa using e)

theorem VT.flat {S S' : Nat → Prop} {w w' : World} {x v} (h : VT S w x v) (hf : flatA x = true) : VT S' w' x v := by
  induction h with
  | agg cs vs hl _ ih => simp only [flatA] at hf; exact .agg cs vs hl fun i c v a b => ih i c v a b (flatL_get hf a)
  | tup cs vs hl _ ih => simp only [flatA] at hf; exact .tup cs vs hl fun i c v a b => ih i c v a b (flatL_get hf a)
  | iface t x v _ ih => simp only [flatA] at hf; exact .iface t x v (ih hf)
  | int => constructor
  | bool => constructor
  | str => constructor
  | nilp => constructor
  | nilfn => constructor
  | nilif => constructor
  | nilmap => constructor
  | nilsl => constructor
  | _ => simp [flatA] at hf

/-- What is owned may be read by a function that takes trees, if what it returns names no memory. -/
theorem ACalls.of_lend {f : Nat} {args ts : List AV} {μ : List AObj} {x : AV} (h : Holds K.P K.G f ts x) (hl : args.length = ts.length) (ht : ∀ (i : Nat) c t, args[i]? = some c → ts[i]? = some t → Tree μ c t) (hf : flatA x = true) :
    ACalls K f args μ (fun ae μ' => ae = .ret x ∧ μ' = μ) := by
  refine ⟨h.1, fun ρ S w vs hm hlv hv => ?_⟩
  refine (h.2 w vs (fun b => S b ∨ (K.w0.heap.size ≤ b ∧ b < w.heap.size)) (K.hG w hm.below) (fun b hb => hb.elim (hm.st b) (·.2)) (hlv.trans hl) fun i t v a b => ?_).mono ?_
  · have hlt := (List.getElem?_eq_some_iff.1 a).1
    exact tree_sound hm _ (fun b hb => .inl hb) (fun b h1 h2 => .inr ⟨h1, h2⟩) (ht i _ t (List.getElem?_eq_getElem (by omega)) a) (hv i _ v (List.getElem?_eq_getElem (by omega)) b)
  · rintro e w' ⟨v, S', rfl, h1, h2, h3, h4, h5⟩
    obtain ⟨m1, m2⟩ := hm.more (S' := S) h1 (fun _ h => h) (fun b hb => Nat.lt_of_lt_of_le (hm.st b hb) h1.size) (fun _ h _ => h)
    exact ⟨.ret x, μ, ρ, S, ⟨rfl, rfl⟩, .t (h5.flat hf), m1, m2⟩

/-! ### calls of function values -/
theorem semL_dyn {g : Option (Nat × Bool)} {d : Option Nat} {f : Nat} {x : SX} {fi ca : List AV} {args : List SX} {R : AEnd → List AObj → Prop} {l : List SOper} (hg : wantA g σ.env = some true) (hx : evX σ.env x = .fn (.func f) fi ca)
    (hc : ACalls K f (fi ++ args.map (evX σ.env) ++ ca) σ.mu R) (h : ∀ ae μ, R ae μ → afterCall K F d l σ Q ae μ) : semL K F (⟨d, g, .dyn x args⟩ :: l) σ Q := by
  intro all k ol hol hcl a w ρ S ha μ0 ρ0 S0 w0 hst
  cases ol with
  | nil => simp [compL] at hcl
  | cons o ol =>
    simp only [compL] at hcl
    split at hcl <;> simp only [Option.some.injEq, List.cons.injEq, reduceCtorEq] at hcl
    rename_i s' l' h1 h2
    obtain ⟨rfl, rfl⟩ := hcl
    obtain ⟨c1, c2, c3, _⟩ := comp_dst h1
    have ho : all[k]? = some o := by have := hol 0 (by simp); simpa using this.symm
    simp only [List.length_cons, List.range'_succ, wpOpsIn, ho, want_sound ha h1 hg, if_true]
    refine ⟨fun _ _ => trivial, ?_⟩
    rw [semAt_plain c1]
    obtain ⟨c, t, k0, k1', rfl, k1⟩ := comp_dyn c1
    have hcall : execOp a.eval o = (do let d ← Deferred.ofValue (a.eval (.tmp t)) (c.args.map a.eval); invoke d.target d.args) := by
      obtain ⟨dst, op, type, pos, after, guard⟩ := o
      obtain ⟨callee, cargs, argTypes⟩ := c
      simp only at k0 k1'
      subst k0
      subst k1'
      rfl
    generalize c.args = cargs at *
    obtain ⟨l1, l2⟩ := compXs_rel ha.eval _ _ k1
    have hv := ha.eval (.tmp t) (.t t) rfl
    rw [hx] at hv
    obtain ⟨vf, vc, hvv, e1, e2, r1, r2⟩ := fn_inv hv
    rw [hcall, hvv]
    have hrun : (do let d ← Deferred.ofValue (.func (.func f) vf vc) (cargs.map a.eval); invoke d.target d.args : Sem Next).run K.P w = .ok (.enter f (vf ++ cargs.map a.eval ++ vc)) w := by
      simp [Deferred.ofValue, invoke, run_callFunc hc.1]
    rw [hrun]
    have hsz : cargs.size = args.length := by simpa using l1.symm
    refine upon_call hc h (fun i hi => by have := hol (i + 1) (by simp; omega); simpa [Nat.add_assoc, Nat.add_comm 1 i] using this) h2 c2 c3 ha hst _ (by simp; omega) (fun i y v p q => ?_)
    by_cases h3 : i < fi.length
    · rw [List.append_assoc, List.getElem?_append_left h3] at p
      rw [Array.append_assoc, Array.getElem?_append_left (by omega)] at q
      exact r1 i y v p q
    · rw [List.append_assoc, List.getElem?_append_right (by omega)] at p
      rw [Array.append_assoc, Array.getElem?_append_right (by omega), ← e1] at q
      by_cases h4 : i - fi.length < args.length
      · rw [List.getElem?_append_left (by simpa using h4)] at p
        rw [Array.getElem?_append_left (by simp; omega)] at q
        exact l2 _ y v p (by simpa using q)
      · rw [List.getElem?_append_right (by simpa using h4)] at p
        rw [Array.getElem?_append_right (by simp; omega)] at q
        simp only [List.length_map, Array.size_map, hsz] at p q
        exact r2 _ y v p q

/-- A call, of whatever kind. -/
theorem semL_callee {f : Nat} {args : List AV} {R : AEnd → List AObj → Prop} {d : Option Nat} {g : Option (Nat × Bool)} {op : SOp} {l : List SOper} (hg : wantA g σ.env = some true) (hcl : callee op σ.env = some (f, args))
    (hc : ACalls K f args σ.mu R) (h : ∀ ae μ, R ae μ → afterCall K F d l σ Q ae μ) : semL K F (⟨d, g, op⟩ :: l) σ Q := by
  intro all k ol hol hcl' a w ρ S ha μ0 ρ0 S0 w0 hst
  cases ol with
  | nil => simp [compL] at hcl'
  | cons o ol =>
    simp only [compL] at hcl'
    split at hcl' <;> simp only [Option.some.injEq, List.cons.injEq, reduceCtorEq] at hcl'
    rename_i s' l' h1 h2
    obtain ⟨rfl, rfl⟩ := hcl'
    obtain ⟨c1, c2, c3, _⟩ := comp_dst h1
    have ho : all[k]? = some o := by have := hol 0 (by simp); simpa using this.symm
    simp only [List.length_cons, List.range'_succ, wpOpsIn, ho, want_sound ha h1 hg, if_true]
    refine ⟨fun _ _ => trivial, ?_⟩
    rw [semAt_plain c1]
    obtain ⟨vs, r1, r2, r3⟩ := callee_exec ha.eval c1 hcl hc.1
    rw [r1]
    exact upon_call hc h (fun i hi => by have := hol (i + 1) (by simp; omega); simpa [Nat.add_assoc, Nat.add_comm 1 i] using this) h2 c2 c3 ha hst _ r2 r3

end rules
end Go.Av
set_option linter.unusedVariables false
set_option linter.unusedSimpArgs false
namespace Go.Av
open Go.RowKit

theorem faA_same {s : SOp} {env : List (Nat × AV)} {μ μ' : List AObj} {x : AV} (hq : quietK s = true) (h : sopA s env μ = some (x, μ')) : μ' = μ := by
  cases s <;> simp only [quietK, Bool.false_eq_true] at hq <;> simp only [sopA] at h
  case mv y => simp only [Option.some.injEq, Prod.mk.injEq] at h; exact h.2.symm
  case mkI t y => simp only [Option.some.injEq, Prod.mk.injEq] at h; exact h.2.symm
  case mkfn f fi ca => simp only [Option.some.injEq, Prod.mk.injEq] at h; exact h.2.symm
  case pick c a b =>
    split at h
    · simp only [Option.some.injEq, Prod.mk.injEq] at h; exact h.2.symm
    · simp only [Option.some.injEq, Prod.mk.injEq] at h; exact h.2.symm
    · cases h
  all_goals exact (withMu_inv h).2.symm

section rules
variable {K : Ctx} {F : Fcx} {Q : AExit → St → Prop} {μ : List AObj} {rest : List SOper}

theorem odyn {env : List (Nat × AV)} {d : Nat} {g : Option (Nat × Bool)} {x : SX} {f : Nat} {fi ca as : List AV} {args : List SX} {r : AV} {l : List SOper} (hx : evX env x = .fn (.func f) fi ca) (he : args.map (evX env) = as)
    (hc : Holds K.P K.G f (fi ++ as ++ ca) r) (ht : treeL (fi ++ as ++ ca) = true) (hg : wantA g env = some true) (h : semL K F l ⟨(d, r) :: env, μ⟩ Q) : semL K F (⟨some d, g, .dyn x args⟩ :: l) ⟨env, μ⟩ Q := by
  subst he
  exact semL_dyn hg hx (ACalls.of_holds hc ht) fun ae μ' hr => by obtain ⟨rfl, rfl⟩ := hr; exact h

/-- What is owned is lent to a function that takes trees. -/
theorem olend {env : List (Nat × AV)} {d : Nat} {g : Option (Nat × Bool)} {f : Nat} {args : List SX} {ts : List AV} {r : AV} {l : List SOper} (hc : Holds K.P K.G f ts r) (hl : (args.map (evX env)).length = ts.length)
    (ht : ∀ (i : Nat) c t, (args.map (evX env))[i]? = some c → ts[i]? = some t → Tree μ c t) (hf : flatA r = true) (hg : wantA g env = some true) (h : semL K F l ⟨(d, r) :: env, μ⟩ Q) : semL K F (⟨some d, g, .call f args⟩ :: l) ⟨env, μ⟩ Q :=
  semL_acall hg (ACalls.of_lend hc hl ht hf) fun ae μ' hr => by obtain ⟨rfl, rfl⟩ := hr; exact h

theorem treeL_append : ∀ {a b : List AV}, treeL a = true → treeL b = true → treeL (a ++ b) = true
  | [], b, _, h => h
  | x :: a, b, h1, h2 => by
    simp only [treeL, Bool.and_eq_true] at h1
    simp only [List.cons_append, treeL, Bool.and_eq_true]
    exact ⟨h1.1, treeL_append h1.2 h2⟩

/-- A variable that is never written again is a tree from here on. -/
theorem sem_frzbox {s : SCode} {env : List (Nat × AV)} (id : Nat) {e g sz : Nat} {cs : List AV} (ho : μ[id]? = some (.row e g sz [cs])) (ht : treeL cs = true) (h : sem K F s ⟨frzE id g sz 1 (fun _ => cs) env, frzM id g sz 1 (fun _ => cs) μ⟩ Q) : sem K F s ⟨env, μ⟩ Q :=
  sem_frz (σ := ⟨env, μ⟩) id 1 (fun _ => cs) ho rfl (fun i c hi => by
    match i, hi with
    | 0, hi => simpa using hi) (fun i c hi => by
    match i, hi with
    | 0, hi => simp at hi; subst hi; exact ht) h

theorem semL_frzbox {l : List SOper} {env : List (Nat × AV)} (id : Nat) {e g sz : Nat} {cs : List AV} (ho : μ[id]? = some (.row e g sz [cs])) (ht : treeL cs = true) (h : semL K F l ⟨frzE id g sz 1 (fun _ => cs) env, frzM id g sz 1 (fun _ => cs) μ⟩ Q) : semL K F l ⟨env, μ⟩ Q :=
  semL_frz (σ := ⟨env, μ⟩) id 1 (fun _ => cs) ho rfl (fun i c hi => by
    match i, hi with
    | 0, hi => simpa using hi) (fun i c hi => by
    match i, hi with
    | 0, hi => simp at hi; subst hi; exact ht) h

/-! ### ways part by themselves -/
theorem osplitG {env : List (Nat × AV)} {d : Option Nat} {t : Nat} {b : Bool} {p : Prop} [Decidable p] {op : SOp} {l : List SOper} (he : getE env t = .bool (decide p))
    (h1 : p → semL K F (⟨d, some (t, b), op⟩ :: l) ⟨(t, .bool true) :: env, μ⟩ Q) (h2 : ¬ p → semL K F (⟨d, some (t, b), op⟩ :: l) ⟨(t, .bool false) :: env, μ⟩ Q) : semL K F (⟨d, some (t, b), op⟩ :: l) ⟨env, μ⟩ Q := osplitP he h1 h2

theorem osplitB {env : List (Nat × AV)} {d : Option Nat} {t : Nat} {b c : Bool} {op : SOp} {l : List SOper} (he : getE env t = .bool c)
    (h1 : c = true → semL K F (⟨d, some (t, b), op⟩ :: l) ⟨(t, .bool true) :: env, μ⟩ Q) (h2 : c = false → semL K F (⟨d, some (t, b), op⟩ :: l) ⟨(t, .bool false) :: env, μ⟩ Q) : semL K F (⟨d, some (t, b), op⟩ :: l) ⟨env, μ⟩ Q := osplit he h1 h2

theorem ocondP {env : List (Nat × AV)} {c : SX} {x y z : SCode} {p : Prop} [Decidable p] (hc : evX env c = .bool (decide p)) (h1 : p → sem K F x ⟨env, μ⟩ (thenQ K F z Q)) (h2 : ¬ p → sem K F y ⟨env, μ⟩ (thenQ K F z Q)) :
    sem K F (.seq (.cond c x y) z) ⟨env, μ⟩ Q := sem_seq (scondP hc h1 h2)
theorem ocondB {env : List (Nat × AV)} {c : SX} {x y z : SCode} {t : Bool} (hc : evX env c = .bool t) (h1 : t = true → sem K F x ⟨env, μ⟩ (thenQ K F z Q)) (h2 : t = false → sem K F y ⟨env, μ⟩ (thenQ K F z Q)) :
    sem K F (.seq (.cond c x y) z) ⟨env, μ⟩ Q := sem_seq (sem_cond hc h1 h2)
theorem oskipb {id : Nat} {σ : St} {z : SCode} (h : sem K F z σ Q) : sem K F .skip σ (blockQ id (thenQ K F z Q)) := sem_skip h
theorem oskip {σ : St} {z : SCode} (h : sem K F z σ Q) : sem K F .skip σ (thenQ K F z Q) := sem_skip h
theorem oret {σ : St} {z : SCode} (h : Q .ret σ) : sem K F .ret σ (thenQ K F z Q) := sem_ret h
end rules
end Go.Av
set_option linter.unusedVariables false
set_option linter.unusedSimpArgs false
namespace Go.Av
open Go.RowKit

theorem VT.refs {S w x v} (h : VT S w x v) (k : Nat) : refA k x = true := by
  have all : ∀ {l : List AV}, (∀ (i : Nat) c, l[i]? = some c → refA k c = true) → refL k l = true := by
    intro l
    induction l with
    | nil => intro _; rfl
    | cons y l ih =>
      intro h
      simp only [refL, Bool.and_eq_true]
      exact ⟨h 0 y rfl, ih fun i c hi => h (i + 1) c (by simpa using hi)⟩
  induction h with
  | agg cs vs hl _ ih => 
    simp only [refA]
    exact all fun i c hi => by
      have hlt := (List.getElem?_eq_some_iff.1 hi).1
      exact ih i c _ hi (Array.getElem?_eq_getElem (by omega))
  | tup cs vs hl _ ih => 
    simp only [refA]
    exact all fun i c hi => by
      have hlt := (List.getElem?_eq_some_iff.1 hi).1
      exact ih i c _ hi (Array.getElem?_eq_getElem (by omega))
  | fn f fi ca vf vc h1 h2 _ _ ih1 ih2 =>
    simp only [refA, Bool.and_eq_true]
    exact ⟨all fun i c hi => by
      have hlt := (List.getElem?_eq_some_iff.1 hi).1
      exact ih1 i c _ hi (Array.getElem?_eq_getElem (by omega)), all fun i c hi => by
      have hlt := (List.getElem?_eq_some_iff.1 hi).1
      exact ih2 i c _ hi (Array.getElem?_eq_getElem (by omega))⟩
  | iface t x v _ ih => simp only [refA]; exact ih
  | _ => rfl

theorem VR.refs {μ ρ S w x v} (h : VR μ ρ S w x v) : refA μ.length x = true := by
  have all : ∀ {l : List AV}, (∀ (i : Nat) c, l[i]? = some c → refA μ.length c = true) → refL μ.length l = true := by
    intro l
    induction l with
    | nil => intro _; rfl
    | cons y l ih =>
      intro h
      simp only [refL, Bool.and_eq_true]
      exact ⟨h 0 y rfl, ih fun i c hi => h (i + 1) c (by simpa using hi)⟩
  have lt : ∀ {id : Nat} {o : AObj}, μ[id]? = some o → decide (id < μ.length) = true := fun h => by simpa using (List.getElem?_eq_some_iff.1 h).1
  induction h with
  | t h => exact h.refs _
  | agg cs vs hl _ ih => 
    simp only [refA]
    exact all fun i c hi => by
      have hlt := (List.getElem?_eq_some_iff.1 hi).1
      exact ih i c _ hi (Array.getElem?_eq_getElem (by omega))
  | tup cs vs hl _ ih => 
    simp only [refA]
    exact all fun i c hi => by
      have hlt := (List.getElem?_eq_some_iff.1 hi).1
      exact ih i c _ hi (Array.getElem?_eq_getElem (by omega))
  | fn f fi ca vf vc h1 h2 _ _ ih1 ih2 =>
    simp only [refA, Bool.and_eq_true]
    exact ⟨all fun i c hi => by
      have hlt := (List.getElem?_eq_some_iff.1 hi).1
      exact ih1 i c _ hi (Array.getElem?_eq_getElem (by omega)), all fun i c hi => by
      have hlt := (List.getElem?_eq_some_iff.1 hi).1
      exact ih2 i c _ hi (Array.getElem?_eq_getElem (by omega))⟩
  | iface t x v _ ih => simp only [refA]; exact ih
  | dead => rfl
  | hsl h1 => exact lt h1
  | hsl0 h1 => exact lt h1
  | hslOld _ h1 => exact lt h1
  | hslGone _ h1 => exact lt h1
  | ptr h1 => exact lt h1
  | ptrOld _ h1 => exact lt h1
  | ptrGone _ h1 => exact lt h1
  | mp h1 => exact lt h1
  | mpGone _ h1 => exact lt h1
  | mpI h1 => exact lt h1
  | yl h1 => exact lt h1
  | ylGone _ h1 => exact lt h1

theorem refM_of {k : Nat} : ∀ {l : List AObj}, (∀ (i : Nat) o, l[i]? = some o → refO k o = true) → refM k l = true
  | [], _ => rfl
  | o :: l, h => by
    simp only [refM, Bool.and_eq_true]
    exact ⟨h 0 o rfl, refM_of fun i p hp => h (i + 1) p (by simpa using hp)⟩

theorem refL_of {k : Nat} : ∀ {l : List AV}, (∀ (i : Nat) c, l[i]? = some c → refA k c = true) → refL k l = true
  | [], _ => rfl
  | x :: l, h => by
    simp only [refL, Bool.and_eq_true]
    exact ⟨h 0 x rfl, refL_of fun i p hp => h (i + 1) p (by simpa using hp)⟩

/-- What is owned names what is owned alone. -/
theorem RepMu.refM {K : Ctx} {ρ S μ w} (h : RepMu K ρ S μ w) : Av.refM μ.length μ = true := refM_of fun i o hi => by
  have hor := h.ob i o hi
  cases o with
  | gone => rfl
  | row e g sz es =>
    simp only [refO, List.all_eq_true]
    intro cs hcs
    obtain ⟨k, hk⟩ := List.getElem?_of_mem hcs
    rcases hor with ⟨h1, rfl⟩ | ⟨B, cap, cur, h1, h2, h3, h4, h5, h6, h7, h8⟩
    · simp at hcs
    · refine refL_of fun j c hj => ?_
      obtain ⟨v, v1, v2, v3⟩ := (h8 k cs hk).2 j c hj
      exact v2.refs
  | map es =>
    obtain ⟨B, cap, ents, clock, h1, h2, h3, h4, es', h7, h5, h6⟩ := hor
    simp only [refO, List.all_eq_true]
    rintro ⟨x, y⟩ hp
    obtain ⟨k, hk⟩ := List.getElem?_of_mem (h7.mem_iff.2 hp)
    obtain ⟨en, e1, e2, e3⟩ := h6 k x y hk
    exact e3.refs
  | loop c st env =>
    obtain ⟨B, cap, rec, h1, h2, h3, h4, h5, h6, h7, h8, h9, h10⟩ := hor
    simp only [refO, refE, List.all_eq_true]
    exact fun p _ => (h10 p.1).refs
  | iter s pos ml => rfl


/-- The newest object takes a slot that was laid ahead. -/
def renR (ρ : Nat → Option (Nat × Nat)) (id L : Nat) : Nat → Option (Nat × Nat) := fun i => if i = id then ρ L else ρ i

theorem VR.ren {μ ρ S w x v} {o : AObj} {n id : Nat} (h : VR (μ ++ [o]) ρ S w x v) (hr : refA n x = true) (hn : n ≤ id) (hid : id < μ.length) : VR (μ.set id o) (renR ρ id μ.length) S w x v := by
  have get : ∀ {i : Nat} {p : AObj}, i < n → (μ ++ [o])[i]? = some p → (μ.set id o)[i]? = some p := fun hi hp => by
    rw [List.getElem?_append_left (by omega)] at hp
    rw [List.getElem?_set_ne (by omega)]; exact hp
  have rr : ∀ {i : Nat}, i < n → renR ρ id μ.length i = ρ i := fun hi => by unfold renR; rw [if_neg (by omega)]
  induction h with
  | t h => exact .t h
  | agg cs vs hl _ ih => simp only [refA] at hr; exact .agg cs vs hl fun i c v a b => ih i c v a b (refL_get hr a)
  | tup cs vs hl _ ih => simp only [refA] at hr; exact .tup cs vs hl fun i c v a b => ih i c v a b (refL_get hr a)
  | fn f fi ca vf vc h1 h2 _ _ ih1 ih2 =>
    simp only [refA, Bool.and_eq_true] at hr
    exact .fn f fi ca vf vc h1 h2 (fun i c v a b => ih1 i c v a b (refL_get hr.1 a)) (fun i c v a b => ih2 i c v a b (refL_get hr.2 a))
  | iface t x v _ ih => simp only [refA] at hr; exact .iface t x v (ih hr)
  | hsl h1 h2 h3 => simp only [refA, decide_eq_true_eq] at hr; exact .hsl (get hr h1) h2 ((rr hr).trans h3)
  | hsl0 h1 h3 => simp only [refA, decide_eq_true_eq] at hr; exact .hsl0 (get hr h1) ((rr hr).trans h3)
  | hslOld v h1 h2 => simp only [refA, decide_eq_true_eq] at hr; exact .hslOld v (get hr h1) h2
  | hslGone v h1 => simp only [refA, decide_eq_true_eq] at hr; exact .hslGone v (get hr h1)
  | ptr h1 h2 h3 => simp only [refA, decide_eq_true_eq] at hr; exact .ptr (get hr h1) h2 ((rr hr).trans h3)
  | ptrOld v h1 h2 => simp only [refA, decide_eq_true_eq] at hr; exact .ptrOld v (get hr h1) h2
  | ptrGone v h1 => simp only [refA, decide_eq_true_eq] at hr; exact .ptrGone v (get hr h1)
  | mp h1 h3 => simp only [refA, decide_eq_true_eq] at hr; exact .mp (get hr h1) ((rr hr).trans h3)
  | mpI h1 h3 => simp only [refA, decide_eq_true_eq] at hr; exact .mpI (get hr h1) ((rr hr).trans h3)
  | mpGone v h1 => simp only [refA, decide_eq_true_eq] at hr; exact .mpGone v (get hr h1)
  | yl h1 h3 => simp only [refA, decide_eq_true_eq] at hr; exact .yl (get hr h1) ((rr hr).trans h3)
  | ylGone v h1 => simp only [refA, decide_eq_true_eq] at hr; exact .ylGone v (get hr h1)
  | dead v => exact .dead v

section rules
variable {K : Ctx} {F : Fcx} {Q : AExit → St → Prop}

theorem OR.ren {μ ρ S w} {o p : AObj} {n id i i' : Nat} (h : OR K ρ S (μ ++ [o]) w i p) (hr : refO n p = true) (hn : n ≤ id) (hid : id < μ.length) (hi : renR ρ id μ.length i' = ρ i) : OR K (renR ρ id μ.length) S (μ.set id o) w i' p := by
  cases p with
  | gone => trivial
  | row e g sz es =>
    rcases h with ⟨h1, h2⟩ | ⟨B, cap, cur, h1, h2, h3, h4, h5, h6, h7, h8⟩
    · exact .inl ⟨hi.trans h1, h2⟩
    · refine .inr ⟨B, cap, cur, hi.trans h1, h2, h3, h4, h5, h6, h7, fun k cs hk => ⟨(h8 k cs hk).1, fun j c hj => ?_⟩⟩
      obtain ⟨v, v1, v2, v3⟩ := (h8 k cs hk).2 j c hj
      simp only [refO] at hr
      exact ⟨v, v1, v2.ren (refL_get (List.all_eq_true.1 hr cs (List.mem_of_getElem? hk)) hj) hn hid, v3⟩
  | map es =>
    obtain ⟨B, cap, ents, clock, h1, h2, h3, h4, es', h7, h5, h6⟩ := h
    refine ⟨B, cap, ents, clock, hi.trans h1, h2, h3, h4, es', h7, h5, fun k a b hk => ?_⟩
    obtain ⟨en, e1, e2, e3⟩ := h6 k a b hk
    simp only [refO] at hr
    exact ⟨en, e1, e2, e3.ren (List.all_eq_true.1 hr (a, b) (h7.mem_iff.1 (List.mem_of_getElem? hk))) hn hid⟩
  | loop c st env =>
    obtain ⟨B, cap, rec, h1, h2, h3, h4, h5, h6, h7, h8, h9, h10⟩ := h
    exact ⟨B, cap, rec, hi.trans h1, h2, h3, h4, h5, h6, h7, h8, h9, fun t => (h10 t).ren (refE_get hr t) hn hid⟩
  | iter s pos ml =>
    obtain ⟨B, cap, h1, h2, h3, h4⟩ := h
    exact ⟨B, cap, hi.trans h1, h2, h3, h4⟩

theorem RepMu.ren {μ ρ S w} {o : AObj} {n id : Nat} (h : RepMu K ρ S (μ ++ [o]) w) (hr : ∀ (i : Nat) p, (μ ++ [o])[i]? = some p → refO n p = true) (hn : n ≤ id) (hg : μ[id]? = some .gone) : RepMu K (renR ρ id μ.length) S (μ.set id o) w := by
  have hid : id < μ.length := (List.getElem?_eq_some_iff.1 hg).1
  have hlast : (μ ++ [o])[μ.length]? = some o := by simp
  -- where an object comes from
  have src : ∀ {i : Nat} {p : AObj}, (μ.set id o)[i]? = some p → ∃ k, (μ ++ [o])[k]? = some p ∧ renR ρ id μ.length i = ρ k ∧ ((i = id ∧ k = μ.length) ∨ (i ≠ id ∧ k = i ∧ i < μ.length)) := fun {i p} hi => by
    by_cases e : i = id
    · subst e
      rw [List.getElem?_set_self hid] at hi; cases hi
      exact ⟨_, hlast, by simp [renR], .inl ⟨rfl, rfl⟩⟩
    · rw [List.getElem?_set_ne (Ne.symm e)] at hi
      have hlt := (List.getElem?_eq_some_iff.1 hi).1
      exact ⟨i, by rw [List.getElem?_append_left hlt]; exact hi, by simp [renR, e], .inr ⟨e, rfl, hlt⟩⟩
  refine ⟨h.below, h.st, h.own, fun i p hi => ?_, fun i i' p p' B c c' hi hi' hne hne' hb hb' => ?_⟩
  · obtain ⟨k, k1, k2, k3⟩ := src hi
    exact (h.ob k p k1).ren (hr k p k1) hn hid k2
  · obtain ⟨k, k1, k2, k3⟩ := src hi
    obtain ⟨k', k1', k2', k3'⟩ := src hi'
    have := h.inj k k' p p' B c c' k1 k1' hne hne' (by rw [← k2]; exact hb) (by rw [← k2']; exact hb')
    omega
end rules
end Go.Av
set_option linter.unusedVariables false
set_option linter.unusedSimpArgs false
namespace Go.Av
open Go.RowKit
section rules
variable {K : Ctx} {F : Fcx} {σ : St} {Q : AExit → St → Prop}

theorem dreg_abs {l : List SOper} {pre : List (List Nat)} {ops : Array Oper} {id : Nat} (m : Nat) (hmix : K.P.follows .mixedOrders = true) (hok : dOK l pre m = true) (hl : compL K.P F.n ops ops.toList = some l) (hpg : ops.toList.map preOf = pre)
    {env0 env' : List (Nat × AV)} {R : Nat → AV} {M : (Nat → Bool) → List AObj} (hM : ∀ X Y : Nat → Bool, (∀ k, k < m → X k = Y k) → M X = M Y) (henv : ∀ t, getE env' t = gX l m R env0 (fun k => decide (k < m)) t)
    {μ0 : List AObj} {ρ0 : Nat → Option (Nat × Nat)} {S0 : Nat → Prop} {w0 : World}
    (step : ∀ (X : Nat → Bool) (i : Nat) (o : Oper) (s : SOper) (N : Act → World → Prop) (a : Act) (w : World) (ρ : Nat → Option (Nat × Nat)) (S : Nat → Prop), i < m → ops[i]? = some o → opAt l i = s → compOper K.P F.n ops o = some s → X i = false →
      (∀ k, Bef pre k i → X k = true) → (∀ k, Bef pre i k → X k = false) → (∀ k t, k < m → k < i → (opAt l k).dst = some t → t ∈ looks s → X k = true) → (∀ k t, k < m → i < k → s.dst = some t → t ∈ looks (opAt l k) → X k = false) → (∀ t, t ∈ looks s → gX l m R env0 X t = gX l m R env0 (fun k => decide (k < i)) t) → (∀ t, gX l m R env0 (fun k => X k || decide (k = i)) t = if s.dst = some t then R i else gX l m R env0 X t) →
      GRep K F ρ S (gX l m R env0 X) (M X) a w → SB F.b μ0 ρ0 S0 w0 (M X) ρ S w →
      (∀ a' w' ρ' S', GRep K F ρ' S' (gX l m R env0 (fun k => X k || decide (k = i))) (M fun k => X k || decide (k = i)) a' w' → SB F.b μ0 ρ0 S0 w0 (M fun k => X k || decide (k = i)) ρ' S' w' → N a' w') →
      wpOpIn (Fr F.r) 0 K.P ops (Post K F μ0 ρ0 S0 w0 Q) i N a w)
    (h : semL K F (l.drop m) ⟨env', M fun k => decide (k < m)⟩ Q) {a : Act} {w : World} {ρ : Nat → Option (Nat × Nat)} {S : Nat → Prop}
    (st1 : GRep K F ρ S (gX l m R env0 fun _ => false) (M fun _ => false) a w.drew) (st2 : SB F.b μ0 ρ0 S0 w0 (M fun _ => false) ρ S w.drew) : (Code.region id ops true).wpIn (Fr F.r) 0 K.P (Post K F μ0 ρ0 S0 w0 Q) a w := by
  refine wpIn_region_any hmix ?_
  obtain ⟨g1, g2⟩ := compL_get hl
  simp only [Array.length_toList] at g1
  -- the order's conditions
  simp only [dOK, Bool.and_eq_true, decide_eq_true_eq, List.all_eq_true, List.mem_range] at hok
  obtain ⟨⟨⟨⟨k1, k2⟩, k3⟩, k4⟩, k5⟩ := hok
  have hpre : ∀ (i : Nat) o, ops[i]? = some o → (ops.toList.map preOf)[i]? = some (preOf o) := fun i o ho => by
    simp [List.getElem?_map, Array.getElem?_toList, ho]
  rw [hpg] at hpre
  have hlt : ∀ (i : Nat) ps p, pre[i]? = some ps → p ∈ ps → p < i := fun i ps p h1 h2 => by
    have hi : i < l.length := by rw [← k1]; exact (List.getElem?_eq_some_iff.1 h1).1
    exact k3 i hi p (by rw [getD_some h1]; exact h2)
  have hat : ∀ i o, ops[i]? = some o → ∃ s, l[i]? = some s ∧ opAt l i = s ∧ compOper K.P F.n ops o = some s := fun i o ho => by
    obtain ⟨s, s1, s2⟩ := g2 i o (by rw [Array.getElem?_toList]; exact ho)
    exact ⟨s, s1, getD_some s1, s2⟩
  have htail : ∀ i, m ≤ i → i < ops.size → ∀ k, k < i → Bef pre k i := fun i h1 h2 k h3 => by
    have := k5 i (by omega)
    rcases Bool.or_eq_true_iff.1 this with h4 | h4
    · simp at h4; omega
    · exact bef_sound (by simpa using List.all_eq_true.1 h4 k (List.mem_range.2 h3))
  have hconf : ∀ i k t, i < m → k < m → k ≠ i → (opAt l k).dst = some t → (t ∈ looks (opAt l i) ∨ (opAt l i).dst = some t) → (k < i → Bef pre k i) ∧ (i < k → Bef pre i k) := fun i k t hi hk hne hd ht => by
    have h1 := k4 i hi k hk
    have hd' : (l.getD k ⟨none, none, .mv (.t 0)⟩).dst = some t := hd
    simp only [hd'] at h1
    have ho1 : opAt l i = l.getD i ⟨none, none, .mv (.t 0)⟩ := rfl
    rw [ho1] at ht
    have hnot : (!(looks (l.getD i ⟨none, none, .mv (.t 0)⟩)).contains t && !decide ((l.getD i ⟨none, none, .mv (.t 0)⟩).dst = some t)) = false := by
      rcases ht with ht | ht
      · have : (looks (l.getD i ⟨none, none, .mv (.t 0)⟩)).contains t = true := List.contains_iff_mem.2 ht
        rw [this]; rfl
      · have : decide ((l.getD i ⟨none, none, .mv (.t 0)⟩).dst = some t) = true := decide_eq_true ht
        rw [this]; simp
    rw [hnot] at h1
    constructor
    · intro hki
      rw [if_pos hki] at h1
      exact bef_sound (by simpa using h1)
    · intro hik
      rw [if_neg (by omega), if_pos hik] at h1
      exact bef_sound (by simpa using h1)
  -- whatever comes up next
  have main : ∀ (fuel : Nat) (listed : Array Bool) (a : Act) (w : World), listed.size = ops.size → listed.toList.count false = fuel → (∀ i, m ≤ i → i < ops.size → listed[i]? = some false) →
      (∀ (i : Nat) ps p, listed[i]? = some true → pre[i]? = some ps → p ∈ ps → listed[p]? = some true) →
      (∃ ρ S, GRep K F ρ S (gX l m R env0 (fun k => listed.getD k false)) (M (fun k => listed.getD k false)) a w ∧ SB F.b μ0 ρ0 S0 w0 (M (fun k => listed.getD k false)) ρ S w) →
      wpAnyIn (Fr F.r) 0 K.P .any ops (Post K F μ0 ρ0 S0 w0 Q) fuel listed a w := by
    intro fuel
    induction fuel with
    | zero =>
      intro listed a w hs hcnt htl hdown hrep
      have hnone : ∀ i, i < ops.size → listed[i]? = some true := fun i hi => by
        have h1 := List.count_eq_zero.1 hcnt
        rw [Array.getElem?_eq_getElem (by omega)]
        cases hv : listed[i] with
        | true => rfl
        | false => exact absurd (by rw [← hv]; simp) h1
      have hm : m = ops.size := by
        rcases Nat.lt_or_ge m ops.size with h1 | h1
        · have := htl m (Nat.le_refl _) h1; rw [hnone m h1] at this; cases this
        · omega
      obtain ⟨ρ, S, r1, r2⟩ := hrep
      have hX : ∀ k, k < m → listed.getD k false = decide (k < m) := fun k hk => by
        rw [Array.getD_eq_getD_getElem?, hnone k (by omega)]; simp [hk]
      refine tail_any hpre hlt htail 0 m listed a w (by omega) (Nat.le_refl _) hs (fun i hi => by rw [hnone i hi]; simp; omega) ?_
      have hmu : M (fun k => listed.getD k false) = M (fun k => decide (k < m)) := hM _ _ hX
      rw [hmu] at r1 r2
      have := h ops m (ops.toList.drop m) (fun i hi => by rw [List.getElem?_drop]; simp) (compL_drop m hl) a w ρ S ⟨r1.mu, r1.size, r1.defers, fun t => by
        show VR _ ρ S w (getE env' t) _
        rw [henv t, ← gX_congr (X := fun k => listed.getD k false) fun k hk _ => hX k hk]; exact r1.env t⟩ μ0 ρ0 S0 w0 r2
      simpa [hm] using this
    | succ fuel ih =>
      intro listed a w hs hcnt htl hdown hrep
      obtain ⟨ρ, S, r1, r2⟩ := hrep
      by_cases hall : ∀ i, i < m → listed[i]? = some true
      · -- the quiet ones are through
        have hX : ∀ k, k < m → listed.getD k false = decide (k < m) := fun k hk => by
          rw [Array.getD_eq_getD_getElem?, hall k hk]; simp [hk]
        have hpf : ∀ i, i < ops.size → listed[i]? = some (decide (i < m)) := fun i hi => by
          by_cases h1 : i < m
          · rw [hall i h1]; simp [h1]
          · rw [htl i (by omega) hi]; simp [h1]
        have hf : fuel + 1 = ops.size - m := by
          rw [← hcnt]; exact count_prefix (by omega) (by simpa using hs) (fun i hi => by rw [Array.getElem?_toList]; exact hpf i hi)
        rw [hf]
        refine tail_any hpre hlt htail (ops.size - m) m listed a w (by omega) (Nat.le_refl _) hs hpf ?_
        have hmu : M (fun k => listed.getD k false) = M (fun k => decide (k < m)) := hM _ _ hX
        rw [hmu] at r1 r2
        have := h ops m (ops.toList.drop m) (fun i hi => by rw [List.getElem?_drop]; simp) (compL_drop m hl) a w ρ S ⟨r1.mu, r1.size, r1.defers, fun t => by
          show VR _ ρ S w (getE env' t) _
          rw [henv t, ← gX_congr (X := fun k => listed.getD k false) fun k hk _ => hX k hk]; exact r1.env t⟩ μ0 ρ0 S0 w0 r2
        simpa using this
      · -- one of the quiet ones is not through: the least of them may come up
        have hex : ∃ i, i < m ∧ listed[i]? ≠ some true := by
          simpa using hall
        obtain ⟨k0, hk0, hk0'⟩ := hex
        have hval : ∀ i, i < ops.size → listed[i]? ≠ some true → listed.getD i true = false := fun i hi hn => by
          rw [Array.getD_eq_getD_getElem?, Array.getElem?_eq_getElem (by omega)] at *
          cases hv : listed[i] with
          | true => rw [hv] at hn; exact absurd rfl hn
          | false => rfl
        have hne : Region.ready .any ops listed ≠ [] := by
          have : ∀ k, k < m → listed[k]? ≠ some true → ∃ i, i ∈ Region.ready .any ops listed := by
            intro k
            induction k using Nat.strongRecOn with
            | _ k ihk =>
              intro hk hn
              have hks : k < ops.size := by omega
              by_cases hp : ∀ p ∈ preOf ops[k], listed[p]? = some true
              · refine ⟨k, mem_ready.2 ⟨hval k hks hn, ops[k], Array.getElem?_eq_getElem hks, fun e he hb => ?_⟩⟩
                rw [Array.getD_eq_getD_getElem?, hp e.on (preOf_mem.2 ⟨e, he, hb, rfl⟩)]; rfl
              · have : ∃ p ∈ preOf ops[k], listed[p]? ≠ some true := by simpa using hp
                obtain ⟨p, p1, p2⟩ := this
                have hpk := hlt k _ p (hpre k _ (Array.getElem?_eq_getElem hks)) p1
                exact ihk p hpk (by omega) p2
          obtain ⟨i, hi⟩ := this k0 hk0 hk0'
          intro e; rw [e] at hi; cases hi
        refine ⟨fun h0 => absurd h0 hne, fun i hi => ?_⟩
        obtain ⟨h1, oi, h2, h3⟩ := mem_ready.1 hi
        have his := (Array.getElem?_eq_some_iff.1 h2).1
        have hif : listed[i]? = some false := by
          rw [Array.getD_eq_getD_getElem?] at h1
          rw [Array.getElem?_eq_getElem (by omega)] at h1 ⊢
          simpa using h1
        have hprei : ∀ ps p, pre[i]? = some ps → p ∈ ps → listed[p]? = some true := fun ps p a b => by
          rw [hpre i oi h2] at a; cases a
          obtain ⟨e, e1, e2, rfl⟩ := preOf_mem.1 b
          have h5 := h3 e e1 e2
          rw [Array.getD_eq_getD_getElem?] at h5
          cases hv : listed[e.on]? with
          | none => rw [hv] at h5; simp at h5
          | some y => rw [hv] at h5; simp at h5; rw [h5]
        have hcl : ∀ k, Bef pre k i → listed[k]? = some true := fun k hb => Bef.closed (X := fun k => listed[k]? = some true) hdown hb hprei
        have him : i < m := by
          rcases Nat.lt_or_ge i m with h4 | h4
          · exact h4
          · exact absurd (hcl k0 (htail i h4 his k0 (by omega))) hk0'
        obtain ⟨s, s1, s2, s3⟩ := hat i oi h2
        have hXt : ∀ k, listed[k]? = some true → listed.getD k false = true := fun k hk => by rw [Array.getD_eq_getD_getElem?, hk]; rfl
        have hXf : ∀ k, listed[k]? ≠ some true → listed.getD k false = false := fun k hk => by
          rw [Array.getD_eq_getD_getElem?]
          cases hv : listed[k]? with
          | none => rfl
          | some y => cases y with
            | true => exact absurd hv hk
            | false => rfl
        have hlater : ∀ k t, k < m → i < k → (opAt l k).dst = some t → (t ∈ looks s ∨ s.dst = some t) → listed.getD k false = false := fun k t hk hik hd ht => by
          have hb := (hconf i k t him hk (by omega) hd (by rw [s2]; exact ht)).2 hik
          refine hXf k fun hk' => ?_
          have := Bef.closed (X := fun k => listed[k]? = some true) hdown hb (fun ps p a b => hdown k ps p hk' a b)
          rw [hif] at this; cases this
        have hread : ∀ t, t ∈ looks s → gX l m R env0 (fun k => listed.getD k false) t = gX l m R env0 (fun k => decide (k < i)) t := fun t ht => by
          refine gX_congr fun k hk hd => ?_
          rcases Nat.lt_trichotomy k i with h4 | h4 | h4
          · have hb := (hconf i k t him hk (by omega) hd (.inl (by rw [s2]; exact ht))).1 h4
            rw [hXt k (hcl k hb)]; simp [h4]
          · subst h4; rw [hXf k (by rw [hif]; simp)]; simp
          · rw [hlater k t hk h4 hd (.inl ht)]; simp; omega
        have hnew : ∀ k, (listed.setIfInBounds i true).getD k false = (listed.getD k false || decide (k = i)) := fun k => by
          simp only [Array.getD_eq_getD_getElem?]
          by_cases hki : i = k
          · subst hki
            rw [Array.getElem?_setIfInBounds_self_of_lt (by omega)]; simp
          · rw [Array.getElem?_setIfInBounds_ne hki]
            have : ¬ k = i := fun e => hki e.symm
            simp [this]
        have hcount : (listed.setIfInBounds i true).toList.count false = fuel := by
          have hset : (listed.setIfInBounds i true).toList = listed.toList.set i true := by simp
          have hil : i < listed.toList.length := by simp; omega
          have hv : listed.toList[i] = false := by
            have : listed.toList[i]? = some false := by rw [Array.getElem?_toList]; exact hif
            rw [List.getElem?_eq_getElem hil] at this
            simpa using this
          rw [hset, List.count_set hil, hv]
          simp
          simp at hcnt
          omega
        have hfun : (fun k => (listed.setIfInBounds i true).getD k false) = fun k => listed.getD k false || decide (k = i) := funext hnew
        have hgnext : ∀ t, gX l m R env0 (fun k => listed.getD k false || decide (k = i)) t = if s.dst = some t then R i else gX l m R env0 (fun k => listed.getD k false) t := fun t => by
          rw [← s2]
          exact gX_put (X := fun k => listed.getD k false) (Y := fun k => listed.getD k false || decide (k = i)) him (fun _ => rfl) (fun k a b c d => by
            cases hd : (opAt l k).dst with
            | none => exact absurd hd c
            | some t' => exact hlater k t' b a hd (.inr (by rw [← s2, ← d, hd]))) t
        refine step (fun k => listed.getD k false) i oi s _ a w ρ S him h2 s2 s3 (hXf i (by rw [hif]; simp)) (fun k hk => hXt k (hcl k hk)) (fun k hb => hXf k fun hk' => by
          have := Bef.closed (X := fun k => listed[k]? = some true) hdown hb (fun ps p a b => hdown k ps p hk' a b)
          rw [hif] at this; cases this) (fun k t hk hki hd ht => hXt k (hcl k ((hconf i k t him hk (by omega) hd (.inl (by rw [s2]; exact ht))).1 hki))) (fun k t hk hik hd ht => hXf k (fun hk' => by
          have hb := (hconf k i t hk him (by omega) (by rw [s2]; exact hd) (.inl ht)).1 hik
          have := Bef.closed (X := fun k => listed[k]? = some true) hdown hb (fun ps p a b => hdown k ps p hk' a b)
          rw [hif] at this; cases this)) hread hgnext r1 r2 ?_
        intro a' w' ρ' S' hg hsb
        refine ih (listed.setIfInBounds i true) a' w' (by simpa using hs) hcount (fun j hj1 hj2 => ?_) (fun j ps p hj hps hp => ?_) ⟨ρ', S', by rw [hfun]; exact hg, by rw [hfun]; exact hsb⟩
        · rw [Array.getElem?_setIfInBounds_ne (by omega)]; exact htl j hj1 hj2
        · by_cases hij : i = j
          · subst hij
            have := hprei ps p hps hp
            have hpi : i ≠ p := by have := hlt i ps p hps hp; omega
            rw [Array.getElem?_setIfInBounds_ne hpi]; exact this
          · rw [Array.getElem?_setIfInBounds_ne hij] at hj
            have := hdown j ps p hj hps hp
            by_cases hpi : i = p
            · subst hpi; rw [hif] at this; cases this
            · rw [Array.getElem?_setIfInBounds_ne hpi]; exact this
  refine main ops.size (Array.replicate ops.size false) a { w with drawn := w.drawn + 1 } (by simp) (by simp [List.count_replicate]) (fun i _ hi => by simp [hi]) (fun i ps p hi => by
    rw [Array.getElem?_replicate] at hi
    split at hi <;> cases hi) ?_
  have hX : (fun k => (Array.replicate ops.size false).getD k false) = fun _ => false := funext fun k => by
    rw [Array.getD_eq_getD_getElem?, Array.getElem?_replicate]
    split <;> rfl
  rw [hX]
  exact ⟨ρ, S, st1, st2⟩

end rules
end Go.Av
set_option linter.unusedVariables false
set_option linter.unusedSimpArgs false
namespace Go.Av
open Go.RowKit

/-- A handle on a new object. -/
inductive HS where
  | pt (n : Nat)
  | sl (sz len : Nat)

def HS.at (k : Nat) : HS → AV
  | .pt n => .ptr k 0 n 0 0
  | .sl sz len => .hsl k 0 sz len

structure SlotR where
  ia : Nat
  d : Nat
  o : AObj
  st : Option (Nat × AObj)

def slotX (X : Nat → Bool) (r : SlotR) : AObj :=
  match r.st with
  | some (k, o') => if X k = true then o' else if X r.ia = true then r.o else .gone
  | none => if X r.ia = true then r.o else .gone

def muS (μ : List AObj) (sl : List SlotR) (X : Nat → Bool) : List AObj := μ ++ sl.map (slotX X)

theorem HS.ren {μ ρ S w v} {o : AObj} {id : Nat} {h : HS} (hv : VR (μ ++ [o]) ρ S w (h.at μ.length) v) (hid : id < μ.length) : VR (μ.set id o) (renR ρ id μ.length) S w (h.at id) v := by
  have self : (μ.set id o)[id]? = some o := List.getElem?_set_self hid
  have last : ∀ {p : AObj}, (μ ++ [o])[μ.length]? = some p → p = o := fun hp => by simp at hp; exact hp.symm
  have rr : renR ρ id μ.length id = ρ μ.length := by simp [renR]
  cases h with
  | pt n =>
    simp only [HS.at] at hv ⊢
    cases hv with
    | t h' => cases h'
    | ptr h1 h2 h3 => have := last h1; subst this; exact .ptr self h2 (rr.trans h3)
    | ptrOld v h1 h2 => have := last h1; subst this; exact .ptrOld v self h2
    | ptrGone v h1 => have := last h1; subst this; exact .ptrGone v self
  | sl sz len =>
    simp only [HS.at] at hv ⊢
    cases hv with
    | t h' => cases h'
    | hsl h1 h2 h3 => have := last h1; subst this; exact .hsl self h2 (rr.trans h3)
    | hsl0 h1 h3 => have := last h1; subst this; exact .hsl0 self (rr.trans h3)
    | hslOld v h1 h2 => have := last h1; subst this; exact .hslOld v self h2
    | hslGone v h1 => have := last h1; subst this; exact .hslGone v self

theorem HS.keep {μ ρ S w v} {o : AObj} {id k : Nat} {h : HS} (hv : VR (μ ++ [o]) ρ S w (h.at k) v) (hid : id < μ.length) (hk : k < μ.length) (hne : k ≠ id) : VR (μ.set id o) (renR ρ id μ.length) S w (h.at k) v := by
  have get : ∀ {p : AObj}, (μ ++ [o])[k]? = some p → (μ.set id o)[k]? = some p := fun hp => by
    rw [List.getElem?_append_left hk] at hp
    rw [List.getElem?_set_ne (Ne.symm hne)]; exact hp
  have rr : renR ρ id μ.length k = ρ k := by simp [renR, hne]
  cases h with
  | pt n =>
    simp only [HS.at] at hv ⊢
    cases hv with
    | t h' => cases h'
    | ptr h1 h2 h3 => exact .ptr (get h1) h2 (rr.trans h3)
    | ptrOld v h1 h2 => exact .ptrOld v (get h1) h2
    | ptrGone v h1 => exact .ptrGone v (get h1)
  | sl sz len =>
    simp only [HS.at] at hv ⊢
    cases hv with
    | t h' => cases h'
    | hsl h1 h2 h3 => exact .hsl (get h1) h2 (rr.trans h3)
    | hsl0 h1 h3 => exact .hsl0 (get h1) (rr.trans h3)
    | hslOld v h1 h2 => exact .hslOld v (get h1) h2
    | hslGone v h1 => exact .hslGone v (get h1)

section rules
variable {K : Ctx} {F : Fcx} {Q : AExit → St → Prop}

/-- What one operation of the region comes to. -/
inductive OpEv (K : Ctx) (μ : List AObj) (sl : List SlotR) (i : Nat) (s : SOper) (e : List (Nat × AV)) (x : AV) : Prop
  | q : QOp K s e μ x → refA μ.length x = true → (∀ r, r ∈ sl → r.ia ≠ i ∧ ∀ k o', r.st = some (k, o') → k ≠ i) → OpEv K μ sl i s e x
  | a (j : Nat) (r : SlotR) (h : HS) : sl[j]? = some r → r.ia = i → s.dst = some r.d → wantA s.guard e = some true → (∀ es, sopA s.op e (μ ++ es) = some (h.at (μ.length + es.length), μ ++ es ++ [r.o])) → refO μ.length r.o = true → x = h.at (μ.length + j) →
      (∀ j' r', sl[j']? = some r' → (j' ≠ j → r'.ia ≠ i) ∧ ∀ k o', r'.st = some (k, o') → k ≠ i) → OpEv K μ sl i s e x
  | st (j : Nat) (r : SlotR) (e' sz : Nat) (cs : List AV) (y : SX) : sl[j]? = some r → r.st = some (i, .row e' 0 sz [cellsOf (evX e y)]) → r.o = .row e' 0 sz [cs] → r.ia < i → s.dst = none → s.op = .store sz (.t r.d) y → x = .dead → wantA s.guard e = some true →
      getE e r.d = .ptr (μ.length + j) 0 sz 0 0 → cs.length = sz → (cellsOf (evX e y)).length = sz → (cellsOf (evX e y)).all (okCell μ) = true → refL μ.length (cellsOf (evX e y)) = true →
      (∀ j' r', sl[j']? = some r' → r'.ia ≠ i ∧ (j' ≠ j → ∀ k o', r'.st = some (k, o') → k ≠ i)) → OpEv K μ sl i s e x

theorem slotX_same {X : Nat → Bool} {i : Nat} {r : SlotR} (h1 : r.ia ≠ i) (h2 : ∀ k o', r.st = some (k, o') → k ≠ i) : slotX (fun k => X k || decide (k = i)) r = slotX X r := by
  unfold slotX
  have e1 : (X r.ia || decide (r.ia = i)) = X r.ia := by simp [h1]
  cases hst : r.st with
  | none => simp only [e1]
  | some p =>
    obtain ⟨k, o'⟩ := p
    have e2 : (X k || decide (k = i)) = X k := by simp [h2 k o' hst]
    simp only [e1, e2]

theorem muS_get {μ : List AObj} {sl : List SlotR} {X : Nat → Bool} {j : Nat} {r : SlotR} (h : sl[j]? = some r) : (muS μ sl X)[μ.length + j]? = some (slotX X r) := by
  unfold muS
  rw [List.getElem?_append_right (by omega), Nat.add_sub_cancel_left, List.getElem?_map, h]; rfl

theorem muS_set {μ : List AObj} {sl : List SlotR} {X : Nat → Bool} {i j : Nat} {r : SlotR} {o : AObj} (h : sl[j]? = some r) (ho : slotX (fun k => X k || decide (k = i)) r = o)
    (hoth : ∀ j' r', sl[j']? = some r' → j' ≠ j → slotX (fun k => X k || decide (k = i)) r' = slotX X r') : muS μ sl (fun k => X k || decide (k = i)) = (muS μ sl X).set (μ.length + j) o := by
  have hj := (List.getElem?_eq_some_iff.1 h).1
  apply List.ext_getElem?
  intro k
  by_cases hk : k = μ.length + j
  · subst hk
    rw [muS_get h, List.getElem?_set_self (by simp [muS]; omega), ho]
  · rw [List.getElem?_set_ne (Ne.symm hk)]
    unfold muS
    by_cases hlt : k < μ.length
    · rw [List.getElem?_append_left hlt, List.getElem?_append_left hlt]
    · rw [List.getElem?_append_right (by omega), List.getElem?_append_right (by omega), List.getElem?_map, List.getElem?_map]
      cases hs : sl[k - μ.length]? with
      | none => rfl
      | some r' => simp only [Option.map_some]; rw [hoth _ _ hs (by omega)]
end rules
end Go.Av
set_option linter.unusedVariables false
set_option linter.unusedSimpArgs false
namespace Go.Av
open Go.RowKit
section rules
variable {K : Ctx} {F : Fcx} {Q : AExit → St → Prop}

theorem refO_slots {μ : List AObj} {sl : List SlotR} {X : Nat → Bool} (hm : refM μ.length μ = true) (hs : ∀ (j : Nat) r, sl[j]? = some r → refO μ.length r.o = true ∧ ∀ k o', r.st = some (k, o') → refO μ.length o' = true) (i : Nat) (p : AObj) (hp : (muS μ sl X)[i]? = some p) : refO μ.length p = true := by
  unfold muS at hp
  by_cases hi : i < μ.length
  · rw [List.getElem?_append_left hi] at hp; exact refM_get hm hp
  · rw [List.getElem?_append_right (by omega), List.getElem?_map] at hp
    obtain ⟨r, r1, r2⟩ := Option.map_eq_some_iff.1 hp
    subst r2
    obtain ⟨h1, h2⟩ := hs _ r r1
    unfold slotX
    cases hst : r.st with
    | none => simp only; split <;> first | exact h1 | rfl
    | some q =>
      obtain ⟨k, o'⟩ := q
      simp only
      split
      · exact h2 k o' hst
      · split <;> first | exact h1 | rfl

theorem sem_dregM {l : List SOper} {pre : List (List Nat)} (m : Nat) {env : List (Nat × AV)} {μ : List AObj} {sl : List SlotR} {R : Nat → AV} {env' : List (Nat × AV)} (hmix : K.P.follows .mixedOrders = true) (hok : dOK l pre m = true) 
    (hsl : ∀ (j : Nat) r, sl[j]? = some r → r.ia < m ∧ (opAt l r.ia).dst = some r.d ∧ refO μ.length r.o = true ∧ ∀ k o', r.st = some (k, o') → k < m ∧ refO μ.length o' = true ∧ r.ia < k ∧ r.d ∈ looks (opAt l k))
    (hev : ∀ i, i < m → ∃ e, (∀ t, getE e t = gX l m R env (fun k => decide (k < i)) t) ∧ OpEv K μ sl i (opAt l i) e (R i)) (henv : ∀ t, getE env' t = gX l m R env (fun k => decide (k < m)) t)
    (h : semL K F (l.drop m) ⟨env', muS μ sl fun k => decide (k < m)⟩ Q) : sem K F (.dreg l pre) ⟨env, μ⟩ Q := by
  intro c hc a w ρ S ha μ0 ρ0 S0 w0 hst
  change SB F.b μ0 ρ0 S0 w0 μ ρ S w at hst
  have hm := ha.mu.refM
  change refM μ.length μ = true at hm
  obtain ⟨id, ops, rfl, hl, rfl⟩ := comp_inv hc
  obtain ⟨d1, d2⟩ := ha.mu.same (w' := w.drew) (Below.drew (Below.refl _ _)) rfl
  -- the slots are laid ahead
  have hlen0 : μ0.length ≤ μ.length := by
    rcases Nat.lt_or_ge μ.length μ0.length with h1 | h1
    · obtain ⟨o', o1, _⟩ := hst.stab.obj μ.length _ (List.getElem?_eq_getElem h1)
      have := (List.getElem?_eq_some_iff.1 o1).1
      omega
    · exact h1
  have hM0 : muS μ sl (fun _ => false) = μ ++ List.replicate sl.length .gone := by
    unfold muS
    congr 1
    apply List.ext_getElem?
    intro k
    rw [List.getElem?_map, List.getElem?_replicate]
    cases hk : sl[k]? with
    | none => rw [if_neg (by have := List.getElem?_eq_none_iff.1 hk; omega)]; rfl
    | some r =>
      rw [if_pos (List.getElem?_eq_some_iff.1 hk).1]
      simp only [Option.map_some, slotX]
      cases r.st <;> rfl
  have hlay : ∀ (es : List AObj) (w : World), (∀ o ∈ es, o = .gone) → RepMu K ρ S μ w → RepMu K ρ S (μ ++ es) w ∧ Stab μ ρ S w (μ ++ es) ρ S w := fun es w hes hr => by
    have back : ∀ {i : Nat} {o : AObj}, (μ ++ es)[i]? = some o → o = .gone ∨ μ[i]? = some o := fun {i o} hi => by
      by_cases hlt : i < μ.length
      · rw [List.getElem?_append_left hlt] at hi; exact .inr hi
      · rw [List.getElem?_append_right (by omega)] at hi; exact .inl (hes _ (List.mem_of_getElem? hi))
    have st : Stab μ ρ S w (μ ++ es) ρ S w := ⟨fun _ h => h, fun _ _ => rfl, fun id o ho => ⟨o, get_mono ho, ObjTo.refl o _⟩, Nat.le_refl _, fun _ h1 h2 => ⟨h2, h1⟩, fun b _ b1 b2 => ⟨rfl, b1, fun i o c hi hne => (back hi).elim (fun e => absurd e hne) (fun e => b2 i o c e hne)⟩⟩
    refine ⟨⟨hr.below, hr.st, hr.own, fun i o hi => ?_, fun i i' o o' B c c' hi hi' hne hne' => ?_⟩, st⟩
    · rcases back hi with rfl | hi
      · trivial
      · exact OR.stab0 (hr.ob i o hi) st.to0 rfl fun B c hB hne => ⟨(hr.blk hi hne hB).2.1, rfl⟩
    · rcases back hi with e | hi
      · exact absurd e hne
      · rcases back hi' with e | hi'
        · exact absurd e hne'
        · exact hr.inj i i' o o' B c c' hi hi' hne hne'
  obtain ⟨p1, p2⟩ := hlay (List.replicate sl.length .gone) w.drew (fun o ho => (List.mem_replicate.1 ho).2) d1
  have st12 := d2.trans p2
  have hrefE : ∀ t, refA μ.length (getE env t) = true := fun t => (ha.env t).refs
  refine dreg_abs (env0 := env) (R := R) (M := muS μ sl) m hmix hok hl rfl (fun X Y hXY => ?_) henv ?_ h (ρ := ρ) (S := S) ⟨by rw [hM0]; exact p1, ha.size, ha.defers.stab st12, fun t => ?_⟩ (by rw [hM0]; exact hst.trans st12)
  · -- the memory by what is through
    unfold muS
    congr 1
    apply List.map_congr_left
    intro r hr
    obtain ⟨j, hj⟩ := List.getElem?_of_mem hr
    obtain ⟨h1, _, _, h2⟩ := hsl j r hj
    unfold slotX
    rw [hXY _ h1]
    cases hst : r.st with
    | none => rfl
    | some q =>
      obtain ⟨k, o'⟩ := q
      simp only
      rw [hXY _ (h2 k o' hst).1]
  · -- one step
    intro X i o s N a w ρ S hi ho hs hcomp hXi hbef hbef2 hdep hafter hread hnext hG hsb hN
    obtain ⟨e, e1, ev⟩ := hev i hi
    rw [hs] at ev
    have hlook : ∀ t ∈ looks s, getE e t = getE ((looks s).map fun t => (t, gX l m R env X t)) t := fun t ht => by
      rw [getE_map, if_pos ht, hread t ht, e1]
    have hguard : ∀ {b}, wantA s.guard e = some b → wantA s.guard ((looks s).map fun t => (t, gX l m R env X t)) = some b := fun {b} hw => by
      unfold wantA at hw ⊢
      split
      · rename_i hgd
        rw [hgd] at hw
        exact hw
      · rename_i t bb hgd
        rw [hgd] at hw
        simp only at hw
        rw [hlook t (by simp [looks, hgd])] at hw
        exact hw
    have hrefs := refO_slots (X := X) hm (fun j r hj => ⟨(hsl j r hj).2.2.1, fun k o' hk => ((hsl j r hj).2.2.2 k o' hk).2.1⟩)
    cases ev with
    | q hop hx hno =>
      have hop' := hop.congr hlook
      have hmu : muS μ sl (fun k => X k || decide (k = i)) = muS μ sl X := by
        unfold muS
        congr 1
        exact List.map_congr_left fun r hr => slotX_same (hno r hr).1 (hno r hr).2
      refine step_any ho hcomp hsb hG hnext (x := R i) (μ1 := muS μ sl X) (l := l) ?_ (fun a' w' ρ' S' hg hsb' => hN a' w' ρ' S' (by rw [hmu]; exact hg) (by rw [hmu]; exact hsb'))
      rcases hop' with ⟨q1, q2, q3⟩ | ⟨q1, q2⟩ | ⟨q1, f, args, q2, q3⟩
      · exact .inl ⟨q1, quiet_mono q2 q3⟩
      · exact .inr (.inl ⟨q1, q2, rfl⟩)
      · exact .inr (.inr ⟨q1, rfl, f, args, q2, q3 (sl.map (slotX X))⟩)
    | st j r e' sz cs y hj hst' hro hlt hdst hop hx hw haddr hl1 hl2 hok2 href hno =>
      have hXa : X r.ia = true := hdep r.ia r.d (hsl j r hj).1 hlt (hsl j r hj).2.1 (by rw [looks, hop]; simp [opnds, tmpsOf])
      have hcur : slotX X r = .row e' 0 sz [cs] := by
        unfold slotX; rw [hst']; simp only [hXi, Bool.false_eq_true, if_false, hXa, if_true, hro]
      have hnew : slotX (fun k => X k || decide (k = i)) r = .row e' 0 sz [cellsOf (evX e y)] := by
        unfold slotX; rw [hst']; simp
      have hmu := muS_set (μ := μ) (X := X) (i := i) hj hnew (fun j' r' hj' hne => slotX_same (hno j' r' hj').1 ((hno j' r' hj').2 hne))
      have hd : getE ((looks s).map fun t => (t, gX l m R env X t)) r.d = .ptr (μ.length + j) 0 sz 0 0 := by
        rw [← hlook r.d (by rw [looks, hop]; simp [opnds, tmpsOf]), haddr]
      have hy : evX ((looks s).map fun t => (t, gX l m R env X t)) y = evX e y := by
        cases y with
        | c z => rfl
        | t u => exact (hlook u (by rw [looks, hop]; simp [opnds, tmpsOf])).symm
      refine step_any ho hcomp hsb hG hnext (x := R i) (μ1 := (muS μ sl X).set (μ.length + j) (.row e' 0 sz [cellsOf (evX e y)])) (l := l) (.inl ⟨hguard hw, ?_⟩) (fun a' w' ρ' S' hg hsb' => hN a' w' ρ' S' (by rw [hmu]; exact hg) (by rw [hmu]; exact hsb'))
      have hc1 : (cellsOf (evX e y)).all (okCell (muS μ sl X)) = true := List.all_eq_true.2 fun c hc => okCell_mono (List.all_eq_true.1 hok2 c hc)
      have hsto : storeA sz (.ptr (μ.length + j) 0 sz 0 0) (evX e y) (muS μ sl X) = some ((muS μ sl X).set (μ.length + j) (.row e' 0 sz [cellsOf (evX e y)])) := by
        generalize evX e y = z at hl2 hc1
        simp only [storeA]
        rw [muS_get hj, hcur]
        simp only [and_self, if_true, List.getElem?_cons_zero]
        rw [if_pos ⟨hl2, by omega, hc1⟩]
        simp [List.drop_of_length_le (show cs.length ≤ sz by omega)]
      rw [hop, hx]
      show (storeA sz (evX ((looks s).map fun t => (t, gX l m R env X t)) (.t r.d)) (evX ((looks s).map fun t => (t, gX l m R env X t)) y) (muS μ sl X)).map (fun μ' => (AV.dead, μ')) = _
      rw [hy, show evX ((looks s).map fun t => (t, gX l m R env X t)) (.t r.d) = .ptr (μ.length + j) 0 sz 0 0 from hd, hsto]
      rfl
    | a j r hh hj hia hdst hw hop hro hx hno =>
      have hn := (List.getElem?_eq_some_iff.1 hj).1
      have hlenX : (muS μ sl X).length = μ.length + sl.length := by simp [muS]
      have hcur : slotX X r = .gone := by
        unfold slotX
        cases hst : r.st with
        | none => simp only [hia, hXi, Bool.false_eq_true, if_false]
        | some q =>
          obtain ⟨k, o'⟩ := q
          obtain ⟨q1, q2, q3, q4⟩ := (hsl j r hj).2.2.2 k o' hst
          have := hafter k r.d q1 (by omega) hdst q4
          simp only [this, hia, hXi, Bool.false_eq_true, if_false]
      have hnew : slotX (fun k => X k || decide (k = i)) r = r.o := by
        unfold slotX
        cases hst : r.st with
        | none => simp only [hia]; simp
        | some q =>
          obtain ⟨k, o'⟩ := q
          obtain ⟨q1, q2, q3, q4⟩ := (hsl j r hj).2.2.2 k o' hst
          have h1 := hafter k r.d q1 (by omega) hdst q4
          have h2 : ¬ k = i := by omega
          simp only [h1, h2, hia, decide_false, Bool.or_self, Bool.false_eq_true, if_false]; simp
      have hmu := muS_set (μ := μ) (X := X) (i := i) hj hnew (fun j' r' hj' hne => slotX_same ((hno j' r' hj').1 hne) (hno j' r' hj').2)
      have hgone : (muS μ sl X)[μ.length + j]? = some .gone := by rw [muS_get hj, hcur]
      obtain ⟨c1, c2, c3, _⟩ := comp_dst hcomp
      have ha' : ARep K F ρ S ⟨(looks s).map fun t => (t, gX l m R env X t), muS μ sl X⟩ a w := ⟨hG.mu, hG.size, hG.defers, fun t => by
        show VR (muS μ sl X) ρ S w (getE ((looks s).map fun t => (t, gX l m R env X t)) t) _
        rw [getE_map]
        split
        · exact hG.env t
        · exact .dead _⟩
      have hev' : ∀ x ∈ opnds s.op, evX e x = evX ((looks s).map fun t => (t, gX l m R env X t)) x := fun x hx => by
        cases x with
        | c z => rfl
        | t u => exact hlook u (by unfold looks; exact List.mem_append_right _ (by unfold tmpsOf; exact List.mem_filterMap.2 ⟨.t u, hx, rfl⟩))
      have hop' : sopA s.op ((looks s).map fun t => (t, gX l m R env X t)) (muS μ sl X) = some (hh.at (muS μ sl X).length, muS μ sl X ++ [r.o]) := by
        have := hop (sl.map (slotX X))
        rw [sopA_congr hev'] at this
        rw [hlenX]
        simpa [muS] using this
      unfold wpOpIn
      simp only [ho]
      rw [want_sound ha' hcomp (hguard hw)]
      simp only [if_true]
      obtain ⟨v, w', ρ', S', n1, n2, n3, n4⟩ := sop_sound ha'.mu ha'.eval (fun _ => rfl) c1 hop'
      refine ⟨fun _ _ => trivial, ?_⟩
      rw [semAt_plain c1]
      have hidlt : μ.length + j < (muS μ sl X).length := by omega
      have hrefs' : ∀ (i : Nat) p, (muS μ sl X ++ [r.o])[i]? = some p → refO μ.length p = true := fun k p hp => by
        by_cases hk : k < (muS μ sl X).length
        · rw [List.getElem?_append_left hk] at hp; exact hrefs k p hp
        · rw [List.getElem?_append_right (by omega)] at hp
          have := List.mem_of_getElem? hp
          simp at this; subst this; exact hro
      have m1 := n3.ren hrefs' (Nat.le_add_right _ _) hgone
      have env1 : ∀ t, VR ((muS μ sl X).set (μ.length + j) r.o) (renR ρ' (μ.length + j) (muS μ sl X).length) S' w' (gX l m R env (fun k => X k || decide (k = i)) t) ((a.put o.dst v).tmps.getD t undef) := fun t => by
        rw [hnext, ← c2, hdst]
        by_cases ht : r.d = t
        · subst ht
          rw [if_pos rfl, hx]
          have hlt : r.d < a.tmps.size := by rw [hG.size]; exact c3 _ (by rw [← c2]; exact hdst)
          simp only [Act.put, Array.getD_eq_getD_getElem?]
          rw [Array.getElem?_setIfInBounds_self_of_lt hlt]
          exact HS.ren n2 hidlt
        · rw [if_neg (by simpa using ht)]
          have hv := (hG.env t).stab n4
          simp only [Act.put, Array.getD_eq_getD_getElem?] at hv ⊢
          rw [Array.getElem?_setIfInBounds_ne ht]
          unfold gX at hv ⊢
          cases hlw : lastW l m X t with
          | none => rw [hlw] at hv; exact hv.ren (hrefE t) (Nat.le_add_right _ _) hidlt
          | some k =>
            rw [hlw] at hv
            simp only at hv ⊢
            have hmem := List.mem_of_getLast? hlw
            simp only [List.mem_filter, List.mem_range, Bool.and_eq_true, decide_eq_true_eq] at hmem
            obtain ⟨k1, k2, k3⟩ := hmem
            have hki : k ≠ i := fun e => by subst e; rw [hXi] at k2; cases k2
            obtain ⟨e', _, ev'⟩ := hev k k1
            cases ev' with
            | q _ hx' _ => exact hv.ren hx' (Nat.le_add_right _ _) hidlt
            | a j' r' h' hj' hia' _ _ _ _ hx' _ =>
              rw [hx'] at hv ⊢
              have := (List.getElem?_eq_some_iff.1 hj').1
              refine HS.keep hv hidlt (by omega) (fun e => hki ?_)
              have : j' = j := by omega
              subst this
              rw [hj] at hj'; cases hj'
              rw [← hia', hia]
            | st _ _ _ _ _ _ _ _ _ _ hd' => rw [k3] at hd'; cases hd'
      have sb1 : SB F.b μ0 ρ0 S0 w0 ((muS μ sl X).set (μ.length + j) r.o) (renR ρ' (μ.length + j) (muS μ sl X).length) S' w' := by
        have hS := hsb.stab.trans n4
        refine ⟨hsb.len, hS.sub, hS.blk, fun id0 o0 h0 => ?_, hS.size, hS.col, fun b hlt b1 b2 => ?_⟩
        · obtain ⟨o', o1, o2⟩ := hS.obj id0 o0 h0
          have hlt := (List.getElem?_eq_some_iff.1 h0).1
          refine ⟨o', ?_, ?_⟩
          · rw [List.getElem?_append_left (by omega)] at o1
            rw [List.getElem?_set_ne (by omega)]; exact o1
          · have : renR ρ' (μ.length + j) (muS μ sl X).length id0 = ρ' id0 := by unfold renR; rw [if_neg (by omega)]
            rw [this]; exact o2
        · obtain ⟨a1, a2, a3⟩ := hS.fr b hlt b1 b2
          refine ⟨a1, a2, fun i p c hi hne => ?_⟩
          unfold renR
          by_cases hid : i = μ.length + j
          · rw [if_pos hid]
            subst hid
            rw [List.getElem?_set_self (by omega)] at hi
            cases hi
            exact a3 _ r.o c (by simp) hne
          · rw [if_neg hid]
            rw [List.getElem?_set_ne (Ne.symm hid)] at hi
            exact a3 i p c (by rw [List.getElem?_append_left (List.getElem?_eq_some_iff.1 hi).1]; exact hi) hne
      have hfin := hN (a.put o.dst v) w' (renR ρ' (μ.length + j) (muS μ sl X).length) S' ⟨by rw [hmu]; exact m1, by cases o.dst <;> simp [Act.put, hG.size], by cases o.dst <;> exact hG.defers.stab n4, fun t => by rw [hmu]; exact env1 t⟩ (by rw [hmu]; exact sb1)
      rcases n1 with n1 | ⟨n1, rfl⟩
      · rw [n1]; exact hfin
      · rw [n1]; exact hfin
  · have := (ha.env t).stab st12
    rw [← hM0] at this
    have e1 : lastW l m (fun _ => false) t = none := by simp [lastW]
    have e0 : gX l m R env (fun _ => false) t = getE env t := by unfold gX; rw [e1]
    rw [e0]; exact this
end rules
end Go.Av
set_option linter.unusedVariables false
set_option linter.unusedSimpArgs false
namespace Go.Av
open Go.RowKit
section rules
variable {K : Ctx} {F : Fcx} {Q : AExit → St → Prop}

inductive MRun (K : Ctx) (μ : List AObj) : Nat → List SOper → List (Nat × AV) → List SlotR → List AV → List (Nat × AV) → List SlotR → Prop
  | nil {j env sl} : MRun K μ j [] env sl [] env sl
  | op {j s l env sl x xs env' sl'} : QOp K s env μ x → refA μ.length x = true → MRun K μ (j + 1) l (pushE env s.dst x) sl xs env' sl' → MRun K μ j (s :: l) env sl (x :: xs) env' sl'
  | al {j d g p l env sl xs env' sl'} {h : HS} {o : AObj} : wantA g env = some true → (∀ es, sopA p env (μ ++ es) = some (h.at (μ.length + es.length), μ ++ es ++ [o])) → refO μ.length o = true →
      MRun K μ (j + 1) l ((d, h.at (μ.length + sl.length)) :: env) (sl ++ [⟨j, d, o, none⟩]) xs env' sl' → MRun K μ j (⟨some d, g, p⟩ :: l) env sl (h.at (μ.length + sl.length) :: xs) env' sl'
  | sto {j q ia d e' sz cs y g l env sl xs env' sl'} : sl[q]? = some ⟨ia, d, .row e' 0 sz [cs], none⟩ → wantA g env = some true → getE env d = .ptr (μ.length + q) 0 sz 0 0 → cs.length = sz → (cellsOf (evX env y)).length = sz →
      (cellsOf (evX env y)).all (okCell μ) = true → refL μ.length (cellsOf (evX env y)) = true →
      MRun K μ (j + 1) l env (sl.set q ⟨ia, d, .row e' 0 sz [cs], some (j, .row e' 0 sz [cellsOf (evX env y)])⟩) xs env' sl' → MRun K μ j (⟨none, g, .store sz (.t d) y⟩ :: l) env sl (.dead :: xs) env' sl'

structure SInv (μ : List AObj) (l : List SOper) (j : Nat) (sl : List SlotR) : Prop where
  one : ∀ (q : Nat) r, sl[q]? = some r → r.ia < j ∧ (opAt l r.ia).dst = some r.d ∧ refO μ.length r.o = true ∧ ∀ k o', r.st = some (k, o') → k < j ∧ refO μ.length o' = true ∧ r.ia < k ∧ r.d ∈ looks (opAt l k)
  ne : ∀ (q q' : Nat) r r', sl[q]? = some r → sl[q']? = some r' → q ≠ q' → r.ia ≠ r'.ia
  ne1 : ∀ (q q' : Nat) r r' k o' k' o'', sl[q]? = some r → sl[q']? = some r' → q ≠ q' → r.st = some (k, o') → r'.st = some (k', o'') → k ≠ k'
  ne2 : ∀ (q q' : Nat) r r' k o', sl[q]? = some r → sl[q']? = some r' → r.st = some (k, o') → k ≠ r'.ia

structure SExt (j : Nat) (sl sl' : List SlotR) : Prop where
  old : ∀ (q : Nat) r, sl[q]? = some r → ∃ r', sl'[q]? = some r' ∧ r'.ia = r.ia ∧ r'.d = r.d ∧ r'.o = r.o ∧ (r'.st = r.st ∨ (r.st = none ∧ ∃ k o', r'.st = some (k, o') ∧ j ≤ k))
  new : ∀ (q : Nat) r', sl'[q]? = some r' → (∃ r, sl[q]? = some r) ∨ j ≤ r'.ia

theorem SExt.no {j : Nat} {sl sl' : List SlotR} {μ : List AObj} {l : List SOper} {m : Nat} (h : SExt (j + 1) sl sl') (hi : SInv μ l m sl') {q : Nat} {r' : SlotR} (hq : sl'[q]? = some r') (hsl : ∀ (r : SlotR), sl[q]? = some r → r.ia ≠ j ∧ ∀ k o', r.st = some (k, o') → k ≠ j) :
    r'.ia ≠ j ∧ ∀ k o', r'.st = some (k, o') → k ≠ j := by
  rcases h.new q r' hq with ⟨r, hr⟩ | hlt
  · obtain ⟨r2, h1, h2, _, _, h5⟩ := h.old q r hr
    rw [hq] at h1; cases h1
    obtain ⟨s1, s2⟩ := hsl r hr
    refine ⟨by rw [h2]; exact s1, fun k o' hk => ?_⟩
    rcases h5 with h5 | ⟨_, k', o'', h6, h7⟩
    · exact s2 k o' (by rw [← h5]; exact hk)
    · rw [hk] at h6; cases h6; omega
  · refine ⟨by omega, fun k o' hk => ?_⟩
    have := ((hi.one q r' hq).2.2.2 k o' hk).2.2.1
    omega

theorem mrun_facts {μ : List AObj} {l : List SOper} {m : Nat} {env0 : List (Nat × AV)} {R : Nat → AV} : ∀ {j : Nat} {ls : List SOper} {env : List (Nat × AV)} {sl : List SlotR} {xs : List AV} {env' : List (Nat × AV)} {sl' : List SlotR}, MRun K μ j ls env sl xs env' sl' →
    j + ls.length = m → (∀ i, i < ls.length → ls[i]? = some (opAt l (j + i))) → (∀ i, i < ls.length → xs.getD i .dead = R (j + i)) → (∀ t, getE env t = gX l m R env0 (fun k => decide (k < j)) t) → SInv μ l j sl →
    (∀ t, getE env' t = gX l m R env0 (fun k => decide (k < m)) t) ∧ SInv μ l m sl' ∧ SExt j sl sl' ∧
    ∀ i, j ≤ i → i < m → ∃ e, (∀ t, getE e t = gX l m R env0 (fun k => decide (k < i)) t) ∧ OpEv K μ sl' i (opAt l i) e (R i) := by
  have push : ∀ (j : Nat) (s : SOper) (x : AV) (env : List (Nat × AV)), j < m → s = opAt l j → x = R j → (∀ t, getE env t = gX l m R env0 (fun k => decide (k < j)) t) → ∀ t, getE (pushE env s.dst x) t = gX l m R env0 (fun k => decide (k < j + 1)) t := by
    intro j s x env hj hs hx he t
    rw [gX_put (X := fun k => decide (k < j)) hj (fun k => by
      by_cases h1 : k < j
      · simp [h1]; omega
      · by_cases h2 : k = j
        · simp [h2]
        · simp [h1, h2]; omega) (fun k h1 _ _ _ => by simp; omega)]
    rw [← hs, ← hx]
    unfold pushE
    split
    · rename_i d hd
      rw [getE_cons, he]
      simp [hd]
    · rename_i hd
      rw [he]; simp [hd]
  intro j ls env sl xs env' sl' h
  induction h with
  | nil =>
    intro hj _ _ he hinv
    simp at hj
    subst hj
    exact ⟨he, hinv, ⟨fun q r hr => ⟨r, hr, rfl, rfl, rfl, .inl rfl⟩, fun q r' hr => .inl ⟨r', hr⟩⟩, fun i h1 h2 => by omega⟩
  | @op j s ls env sl x xs env' sl' hop hr hrun ih =>
    intro hj hls hxs he hinv
    simp only [List.length_cons] at hj hls hxs
    have hs : s = opAt l j := by have := hls 0 (by omega); simpa using this
    have hx : x = R j := by have := hxs 0 (by omega); simpa using this
    have up : SInv μ l (j + 1) sl := ⟨fun q r hq => by
      obtain ⟨a, b, c, d⟩ := hinv.one q r hq
      exact ⟨by omega, b, c, fun k o' hk => by obtain ⟨d1, d2, d3, d4⟩ := d k o' hk; exact ⟨by omega, d2, d3, d4⟩⟩, hinv.ne, hinv.ne1, hinv.ne2⟩
    obtain ⟨a1, a2, a3, a4⟩ := ih (by omega) (fun i hi => by have := hls (i + 1) (by omega); simpa [Nat.add_assoc, Nat.add_comm 1 i] using this)
      (fun i hi => by have := hxs (i + 1) (by omega); simpa [Nat.add_assoc, Nat.add_comm 1 i] using this) (push j s x env (by omega) hs hx he) up
    refine ⟨a1, a2, ⟨fun q r hq => ?_, fun q r' hq => ?_⟩, fun i h1 h2 => ?_⟩
    · obtain ⟨r', b1, b2, b3, b4, b5⟩ := a3.old q r hq
      exact ⟨r', b1, b2, b3, b4, b5.imp id fun ⟨c1, k, o', c2, c3⟩ => ⟨c1, k, o', c2, by omega⟩⟩
    · exact (a3.new q r' hq).imp id fun h => by omega
    · by_cases hij : i = j
      · subst hij
        refine ⟨env, he, ?_⟩
        rw [← hs, ← hx]
        refine .q hop hr fun r hm => ?_
        obtain ⟨q, hq⟩ := List.getElem?_of_mem hm
        exact a3.no a2 hq fun r0 h0 => by
          obtain ⟨c1, _, _, c4⟩ := hinv.one q r0 h0
          exact ⟨by omega, fun k o' hk => by have := (c4 k o' hk).1; omega⟩
      · exact a4 i (by omega) h2
  | @al j d g p ls env sl xs env' sl' hh o hw hop hro hrun ih =>
    intro hj hls hxs he hinv
    simp only [List.length_cons] at hj hls hxs
    have hs : ⟨some d, g, p⟩ = opAt l j := by have := hls 0 (by omega); simpa using this
    have hx : hh.at (μ.length + sl.length) = R j := by have := hxs 0 (by omega); simpa using this
    have get : ∀ {q : Nat} {r : SlotR}, (sl ++ [⟨j, d, o, none⟩])[q]? = some r → (q < sl.length ∧ sl[q]? = some r) ∨ (q = sl.length ∧ r = ⟨j, d, o, none⟩) := fun {q r} hq => by
      by_cases h1 : q < sl.length
      · rw [List.getElem?_append_left h1] at hq; exact .inl ⟨h1, hq⟩
      · rw [List.getElem?_append_right (by omega)] at hq
        have h2 : q = sl.length := by
          have := (List.getElem?_eq_some_iff.1 hq).1
          simp at this; omega
        subst h2; simp at hq; exact .inr ⟨rfl, hq.symm⟩
    have up : SInv μ l (j + 1) (sl ++ [⟨j, d, o, none⟩]) := by
      refine ⟨fun q r hq => ?_, fun q q' r r' hq hq' hne => ?_, fun q q' r r' k o' k' o'' hq hq' hne hk hk' => ?_, fun q q' r r' k o' hq hq' hk => ?_⟩
      · rcases get hq with ⟨_, hq⟩ | ⟨_, rfl⟩
        · obtain ⟨a, b, c, e⟩ := hinv.one q r hq
          exact ⟨by omega, b, c, fun k o' hk => by obtain ⟨d1, d2, d3, d4⟩ := e k o' hk; exact ⟨by omega, d2, d3, d4⟩⟩
        · exact ⟨Nat.lt_succ_self _, by rw [← hs], hro, fun k o' hk => by cases hk⟩
      · rcases get hq with ⟨_, hq⟩ | ⟨h1, rfl⟩ <;> rcases get hq' with ⟨_, hq'⟩ | ⟨h1', rfl⟩
        · exact hinv.ne q q' r r' hq hq' hne
        · have := (hinv.one q r hq).1; simp only; omega
        · have := (hinv.one q' r' hq').1; simp only; omega
        · omega
      · rcases get hq with ⟨_, hq⟩ | ⟨h1, rfl⟩
        · rcases get hq' with ⟨_, hq'⟩ | ⟨h1', rfl⟩
          · exact hinv.ne1 q q' r r' k o' k' o'' hq hq' hne hk hk'
          · cases hk'
        · cases hk
      · rcases get hq with ⟨_, hq⟩ | ⟨h1, rfl⟩
        · rcases get hq' with ⟨_, hq'⟩ | ⟨h1', rfl⟩
          · exact hinv.ne2 q q' r r' k o' hq hq' hk
          · have := ((hinv.one q r hq).2.2.2 k o' hk).1; simp only; omega
        · cases hk
    obtain ⟨a1, a2, a3, a4⟩ := ih (by omega) (fun i hi => by have := hls (i + 1) (by omega); simpa [Nat.add_assoc, Nat.add_comm 1 i] using this)
      (fun i hi => by have := hxs (i + 1) (by omega); simpa [Nat.add_assoc, Nat.add_comm 1 i] using this) (push j ⟨some d, g, p⟩ _ env (by omega) hs hx he) up
    refine ⟨a1, a2, ⟨fun q r hq => ?_, fun q r' hq => ?_⟩, fun i h1 h2 => ?_⟩
    · obtain ⟨r', b1, b2, b3, b4, b5⟩ := a3.old q r (by rw [List.getElem?_append_left (List.getElem?_eq_some_iff.1 hq).1]; exact hq)
      exact ⟨r', b1, b2, b3, b4, b5.imp id fun ⟨c1, k, o', c2, c3⟩ => ⟨c1, k, o', c2, by omega⟩⟩
    · rcases a3.new q r' hq with ⟨r, hr⟩ | hlt
      · rcases get hr with ⟨_, hr⟩ | ⟨h1, rfl⟩
        · exact .inl ⟨r, hr⟩
        · obtain ⟨r2, b1, b2, _⟩ := a3.old q _ hr
          rw [hq] at b1; cases b1
          exact .inr (by rw [b2]; exact Nat.le_refl _)
      · exact .inr (by omega)
    · by_cases hij : i = j
      · subst hij
        obtain ⟨r', b1, b2, b3, b4, b5⟩ := a3.old sl.length ⟨i, d, o, none⟩ (by simp)
        refine ⟨env, he, ?_⟩
        rw [← hs, ← hx]
        refine .a sl.length r' hh b1 b2 (by rw [b3]) hw (by rw [b4]; exact hop) (by rw [b4]; exact hro) rfl fun q r hq => ?_
        constructor
        · intro hne hia
          exact a2.ne q sl.length r r' hq b1 hne (by rw [hia, b2])
        · intro k o' hk hki
          exact a2.ne2 q sl.length r r' k o' hq b1 hk (by rw [hki, b2])
      · exact a4 i (by omega) h2
  | @sto j q ia d e' sz cs y g ls env sl xs env' sl' hq hw haddr hl1 hl2 hok href hrun ih =>
    intro hj hls hxs he hinv
    simp only [List.length_cons] at hj hls hxs
    have hs : ⟨none, g, .store sz (.t d) y⟩ = opAt l j := by have := hls 0 (by omega); simpa using this
    have hx : AV.dead = R j := by have := hxs 0 (by omega); simpa using this
    have hqlt := (List.getElem?_eq_some_iff.1 hq).1
    obtain ⟨i1, i2, i3, _⟩ := hinv.one q _ hq
    simp only at i1 i2 i3
    have get : ∀ {q' : Nat} {r : SlotR}, (sl.set q ⟨ia, d, .row e' 0 sz [cs], some (j, .row e' 0 sz [cellsOf (evX env y)])⟩)[q']? = some r → (q' = q ∧ r = ⟨ia, d, .row e' 0 sz [cs], some (j, .row e' 0 sz [cellsOf (evX env y)])⟩) ∨ (q' ≠ q ∧ sl[q']? = some r) := fun {q' r} h => by
      by_cases h1 : q' = q
      · subst h1; rw [List.getElem?_set_self hqlt] at h; cases h; exact .inl ⟨rfl, rfl⟩
      · rw [List.getElem?_set_ne (Ne.symm h1)] at h; exact .inr ⟨h1, h⟩
    have up : SInv μ l (j + 1) (sl.set q ⟨ia, d, .row e' 0 sz [cs], some (j, .row e' 0 sz [cellsOf (evX env y)])⟩) := by
      refine ⟨fun q1 r h1 => ?_, fun q1 q2 r r' h1 h2 hne => ?_, fun q1 q2 r r' k o' k' o'' h1 h2 hne hk hk' => ?_, fun q1 q2 r r' k o' h1 h2 hk => ?_⟩
      · rcases get h1 with ⟨_, rfl⟩ | ⟨_, h1⟩
        · refine ⟨by simp only; omega, i2, i3, fun k o' hk => ?_⟩
          simp only [Option.some.injEq, Prod.mk.injEq] at hk
          obtain ⟨rfl, rfl⟩ := hk
          exact ⟨Nat.lt_succ_self _, by simp [refO, href], i1, by rw [← hs]; simp [looks, opnds, tmpsOf]⟩
        · obtain ⟨a, b, c, e⟩ := hinv.one q1 r h1
          exact ⟨by omega, b, c, fun k o' hk => by obtain ⟨d1, d2, d3, d4⟩ := e k o' hk; exact ⟨by omega, d2, d3, d4⟩⟩
      · rcases get h1 with ⟨n1, rfl⟩ | ⟨n1, c1⟩ <;> rcases get h2 with ⟨n2, rfl⟩ | ⟨n2, c2⟩
        · omega
        · have := hinv.ne q q2 _ r' hq c2 (by omega); exact this
        · have := hinv.ne q1 q r _ c1 hq (by omega); exact this
        · exact hinv.ne q1 q2 r r' c1 c2 hne
      · rcases get h1 with ⟨n1, rfl⟩ | ⟨n1, c1⟩ <;> rcases get h2 with ⟨n2, rfl⟩ | ⟨n2, c2⟩
        · omega
        · have := ((hinv.one q2 r' c2).2.2.2 k' o'' hk').1
          simp only [Option.some.injEq, Prod.mk.injEq] at hk
          omega
        · have := ((hinv.one q1 r c1).2.2.2 k o' hk).1
          simp only [Option.some.injEq, Prod.mk.injEq] at hk'
          omega
        · exact hinv.ne1 q1 q2 r r' k o' k' o'' c1 c2 hne hk hk'
      · rcases get h1 with ⟨n1, rfl⟩ | ⟨n1, c1⟩ <;> rcases get h2 with ⟨n2, rfl⟩ | ⟨n2, c2⟩
        · simp only [Option.some.injEq, Prod.mk.injEq] at hk ⊢; omega
        · have := (hinv.one q2 r' c2).1
          simp only [Option.some.injEq, Prod.mk.injEq] at hk; omega
        · have := hinv.ne2 q1 q r _ k o' c1 hq hk; exact this
        · exact hinv.ne2 q1 q2 r r' k o' c1 c2 hk
    obtain ⟨a1, a2, a3, a4⟩ := ih (by omega) (fun i hi => by have := hls (i + 1) (by omega); simpa [Nat.add_assoc, Nat.add_comm 1 i] using this)
      (fun i hi => by have := hxs (i + 1) (by omega); simpa [Nat.add_assoc, Nat.add_comm 1 i] using this) (push j ⟨none, g, .store sz (.t d) y⟩ _ env (by omega) hs hx he) up
    refine ⟨a1, a2, ⟨fun q1 r h1 => ?_, fun q1 r' h1 => ?_⟩, fun i h1 h2 => ?_⟩
    · by_cases e1 : q1 = q
      · subst e1
        rw [hq] at h1; cases h1
        obtain ⟨r', b1, b2, b3, b4, b5⟩ := a3.old q1 _ (List.getElem?_set_self hqlt)
        refine ⟨r', b1, b2, b3, b4, .inr ⟨rfl, ?_⟩⟩
        rcases b5 with b5 | ⟨b5, _⟩
        · exact ⟨j, _, b5, Nat.le_refl _⟩
        · cases b5
      · obtain ⟨r', b1, b2, b3, b4, b5⟩ := a3.old q1 r (by rw [List.getElem?_set_ne (Ne.symm e1)]; exact h1)
        exact ⟨r', b1, b2, b3, b4, b5.imp id fun ⟨c1, k, o', c2, c3⟩ => ⟨c1, k, o', c2, by omega⟩⟩
    · rcases a3.new q1 r' h1 with ⟨r, hr⟩ | hlt
      · rcases get hr with ⟨rfl, rfl⟩ | ⟨_, hr⟩
        · exact .inl ⟨_, hq⟩
        · exact .inl ⟨r, hr⟩
      · exact .inr (by omega)
    · by_cases hij : i = j
      · subst hij
        obtain ⟨r', b1, b2, b3, b4, b5⟩ := a3.old q _ (List.getElem?_set_self hqlt)
        simp only at b2 b3 b4 b5
        have b6 : r'.st = some (i, .row e' 0 sz [cellsOf (evX env y)]) := by
          rcases b5 with b5 | ⟨b5, _⟩
          · exact b5
          · cases b5
        refine ⟨env, he, ?_⟩
        rw [← hs, ← hx]
        refine .st q r' e' sz cs y b1 b6 b4 (by rw [b2]; exact i1) rfl (by rw [b3]) rfl hw (by rw [b3]; exact haddr) hl1 hl2 hok href fun q1 r h => ⟨fun hia => ?_, fun hne k o' hk hki => ?_⟩
        · exact a2.ne2 q q1 r' r i _ b1 h b6 hia.symm
        · exact a2.ne1 q1 q r r' k o' i _ h b1 hne hk b6 hki
      · exact a4 i (by omega) h2
end rules
end Go.Av
set_option linter.unusedVariables false
set_option linter.unusedSimpArgs false
namespace Go.Av
open Go.RowKit
section rules
variable {K : Ctx} {F : Fcx} {Q : AExit → St → Prop} {μ : List AObj} {rest : List SOper}

def SlotR.fin (r : SlotR) : AObj := match r.st with | some (_, o') => o' | none => r.o

/-- A region's run, and what is asked of its end. -/
def MGoC (K : Ctx) (μ : List AObj) (C : List (Nat × AV) → List SlotR → Prop) (j : Nat) (sl : List SlotR) (l : List SOper) (env : List (Nat × AV)) : Prop :=
  ∃ xs env' sl', MRun K μ j l env sl xs env' sl' ∧ C env' sl'

abbrev MGo (K : Ctx) (F : Fcx) (Q : AExit → St → Prop) (μ : List AObj) (rest : List SOper) (j : Nat) (sl : List SlotR) (l : List SOper) (env : List (Nat × AV)) : Prop :=
  MGoC K μ (fun env' sl' => semL K F rest ⟨env', μ ++ sl'.map SlotR.fin⟩ Q) j sl l env

theorem sem_mgo {l : List SOper} {pre : List (List Nat)} {env : List (Nat × AV)} (m : Nat) (hmix : K.P.follows .mixedOrders = true) (hok : dOK l pre m = true) (h : MGo K F Q μ (l.drop m) 0 [] (l.take m) env) : sem K F (.dreg l pre) ⟨env, μ⟩ Q := by
  obtain ⟨xs, env', sl', h1, h2⟩ := h
  have hml : m ≤ l.length := by
    simp only [dOK, Bool.and_eq_true, decide_eq_true_eq] at hok
    exact hok.1.1.1.2
  have htk : (l.take m).length = m := by simp; omega
  obtain ⟨a1, a2, a3, a4⟩ := mrun_facts (l := l) (m := m) (env0 := env) (R := fun i => xs.getD i .dead) h1 (by rw [htk]; omega) (fun i hi => by
    rw [htk] at hi
    rw [List.getElem?_take, if_pos hi, Nat.zero_add, List.getElem?_eq_getElem (by omega)]
    simp [opAt, List.getD, List.getElem?_eq_getElem (show i < l.length by omega)]) (fun i hi => by simp) (fun t => by
    have : lastW l m (fun k => decide (k < 0)) t = none := by simp [lastW]
    simp only [gX, this]) ⟨fun q r h => by simp at h, fun q q' r r' h => by simp at h, fun q q' r r' k o' k' o'' h => by simp at h, fun q q' r r' k o' h => by simp at h⟩
  refine sem_dregM m hmix hok (fun j r hj => (a2.one j r hj)) (fun i hi => a4 i (Nat.zero_le _) hi) a1 ?_
  have e : muS μ sl' (fun k => decide (k < m)) = μ ++ sl'.map SlotR.fin := by
    unfold muS
    congr 1
    apply List.map_congr_left
    intro r hr
    obtain ⟨q, hq⟩ := List.getElem?_of_mem hr
    obtain ⟨b1, b2, b3, b4⟩ := a2.one q r hq
    unfold slotX SlotR.fin
    cases hst : r.st with
    | none => simp [b1]
    | some p =>
      obtain ⟨k, o'⟩ := p
      simp [(b4 k o' hst).1]
  rw [e]; exact h2

theorem mnil {j : Nat} {sl : List SlotR} {env : List (Nat × AV)} (h : semL K F rest ⟨env, μ ++ sl.map SlotR.fin⟩ Q) : MGo K F Q μ rest j sl [] env := ⟨[], env, sl, .nil, h⟩

variable {C : List (Nat × AV) → List SlotR → Prop}
theorem mop {j : Nat} {sl : List SlotR} {env : List (Nat × AV)} {g : Option (Nat × Bool)} {d : Nat} {op : SOp} {l : List SOper} (hg : wantA g env = some true) (hq : quietK op = true)
    (h : ∀ k : AV → List AObj → Prop, (∀ x μ', refA μ.length x = true → MGoC K μ C (j + 1) sl l ((d, x) :: env) → k x μ') → stepThen (sopA op env μ) k) : MGoC K μ C j sl (⟨some d, g, op⟩ :: l) env := by
  have := h (fun x μ' => refA μ.length x = true ∧ MGoC K μ C (j + 1) sl l ((d, x) :: env)) (fun x μ' h1 h2 => ⟨h1, h2⟩)
  unfold stepThen at this
  split at this
  · rename_i x μ' hs
    obtain rfl := faA_same hq hs
    obtain ⟨hr, xs, env', sl', h1, h2⟩ := this
    exact ⟨x :: xs, env', sl', .op (.inl ⟨hg, hq, hs⟩) hr h1, h2⟩
  · exact this.elim

theorem mop0 {j : Nat} {sl : List SlotR} {env : List (Nat × AV)} {g : Option (Nat × Bool)} {op : SOp} {l : List SOper} (hg : wantA g env = some true) (hq : quietK op = true)
    (h : ∀ k : AV → List AObj → Prop, (∀ x μ', refA μ.length x = true → MGoC K μ C (j + 1) sl l env → k x μ') → stepThen (sopA op env μ) k) : MGoC K μ C j sl (⟨none, g, op⟩ :: l) env := by
  have := h (fun x μ' => refA μ.length x = true ∧ MGoC K μ C (j + 1) sl l env) (fun x μ' h1 h2 => ⟨h1, h2⟩)
  unfold stepThen at this
  split at this
  · rename_i x μ' hs
    obtain rfl := faA_same hq hs
    obtain ⟨hr, xs, env', sl', h1, h2⟩ := this
    exact ⟨x :: xs, env', sl', .op (.inl ⟨hg, hq, hs⟩) hr h1, h2⟩
  · exact this.elim

theorem mno {j : Nat} {sl : List SlotR} {env : List (Nat × AV)} {g : Option (Nat × Bool)} {d : Nat} {op : SOp} {l : List SOper} (hg : wantA g env = some false) (h : MGoC K μ C (j + 1) sl l ((d, .tup []) :: env)) :
    MGoC K μ C j sl (⟨some d, g, op⟩ :: l) env := by
  obtain ⟨xs, env', sl', h1, h2⟩ := h
  exact ⟨.tup [] :: xs, env', sl', .op (.inr (.inl ⟨hg, rfl⟩)) rfl h1, h2⟩

theorem mcall {j : Nat} {sl : List SlotR} {env : List (Nat × AV)} {g : Option (Nat × Bool)} {d : Nat} {f : Nat} {args : List SX} {as : List AV} {x : AV} {l : List SOper} (he : args.map (evX env) = as) (hc : Holds K.P K.G f as x) (ht : treeL as = true) (hg : wantA g env = some true)
    (hr : refA μ.length x = true) (h : MGoC K μ C (j + 1) sl l ((d, x) :: env)) : MGoC K μ C j sl (⟨some d, g, .call f args⟩ :: l) env := by
  subst he
  obtain ⟨xs, env', sl', h1, h2⟩ := h
  exact ⟨x :: xs, env', sl', .op (.inr (.inr ⟨hg, f, _, rfl, fun es => ACalls.of_holds hc ht⟩)) hr h1, h2⟩

theorem Tree.mono {μ es : List AObj} {x t : AV} (h : Tree μ x t) : Tree (μ ++ es) x t := by
  induction h with
  | same h => exact .same h
  | agg hl _ ih => exact .agg hl ih
  | tup hl _ ih => exact .tup hl ih
  | hsl f ho hlen _ ih => exact .hsl f (get_mono ho) hlen ih
  | fn h1 h2 _ _ ih1 ih2 => exact .fn h1 h2 ih1 ih2
  | iface _ ih => exact .iface ih
  | ptr ho hi hl _ ih => exact .ptr (get_mono ho) hi hl ih

theorem mbox {j : Nat} {sl : List SlotR} {env : List (Nat × AV)} {d e : Nat} {y : SX} {x : AV} {g : Option (Nat × Bool)} {l : List SOper} (hx : evX env y = x) (hg : wantA g env = some true) (hall : (cellsOf x).all (okCell μ) = true) (hr : refL μ.length (cellsOf x) = true)
    (h : MGoC K μ C (j + 1) (sl ++ [⟨j, d, .row e 0 (cellsOf x).length [cellsOf x], none⟩]) l ((d, .ptr (μ.length + sl.length) 0 (cellsOf x).length 0 0) :: env)) : MGoC K μ C j sl (⟨some d, g, .box e y⟩ :: l) env := by
  subst hx
  obtain ⟨xs, env', sl', h1, h2⟩ := h
  refine ⟨_ :: xs, env', sl', .al (h := .pt (cellsOf (evX env y)).length) hg (fun es => ?_) (by simp [refO, hr]) h1, h2⟩
  have hall' : (cellsOf (evX env y)).all (okCell (μ ++ es)) = true := List.all_eq_true.2 fun c hc => okCell_mono (List.all_eq_true.1 hall c hc)
  show boxA e (evX env y) (μ ++ es) = _
  unfold boxA
  rw [if_pos hall', List.length_append]; rfl

theorem mbldS {j : Nat} {sl : List SlotR} {env : List (Nat × AV)} {d e sz n : Nat} {zero cs : List AV} {ps : List (Nat × Nat × SX)} {g : Option (Nat × Bool)} {l : List SOper} (hb : bldA μ zero (evParts env ps) = some cs) (hg : wantA g env = some true) (hr : (chunks sz n cs).all (refL μ.length) = true)
    (h : MGoC K μ C (j + 1) (sl ++ [⟨j, d, .row e 0 sz (chunks sz n cs), none⟩]) l ((d, .hsl (μ.length + sl.length) 0 sz n) :: env)) : MGoC K μ C j sl (⟨some d, g, .bldS e sz n zero ps⟩ :: l) env := by
  obtain ⟨xs, env', sl', h1, h2⟩ := h
  refine ⟨_ :: xs, env', sl', .al (h := .sl sz n) (o := .row e 0 sz (chunks sz n cs)) hg (fun es => ?_) hr h1, h2⟩
  simp only [sopA, bldA_mono hb, Option.map_some, List.length_append, HS.at]

theorem msto {j q ia d e' sz : Nat} {cs : List AV} {sl : List SlotR} {env : List (Nat × AV)} {y : SX} {x : AV} {g : Option (Nat × Bool)} {l : List SOper} (hx : evX env y = x) (haddr : getE env d = .ptr (μ.length + q) 0 sz 0 0) (hq : sl[q]? = some ⟨ia, d, .row e' 0 sz [cs], none⟩) (hg : wantA g env = some true)
    (hl1 : cs.length = sz) (hl2 : (cellsOf x).length = sz) (hok : (cellsOf x).all (okCell μ) = true) (hr : refL μ.length (cellsOf x) = true)
    (h : MGoC K μ C (j + 1) (sl.set q ⟨ia, d, .row e' 0 sz [cs], some (j, .row e' 0 sz [cellsOf x])⟩) l env) : MGoC K μ C j sl (⟨none, g, .store sz (.t d) y⟩ :: l) env := by
  subst hx
  obtain ⟨xs, env', sl', h1, h2⟩ := h
  exact ⟨_, env', sl', .sto hq hg haddr hl1 hl2 hok hr h1, h2⟩
end rules
end Go.Av
