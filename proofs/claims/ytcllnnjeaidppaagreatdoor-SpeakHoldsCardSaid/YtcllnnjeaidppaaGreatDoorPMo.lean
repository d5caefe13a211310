/- What a call does not know it does not touch, wherever it lies. -/
import Derived.Test.YtcllnnjeaidppaaGreatDoorPMn
import Derived.Test.YtcllnnjeaidppaaGreatDoorPMc
set_option linter.unusedVariables false
set_option linter.unusedSimpArgs false
namespace Go.Av
open Go.RowKit

mutual
/-- The object k is not named. -/
def avA (k : Nat) : AV → Bool
  | .agg cs => avL k cs
  | .tup cs => avL k cs
  | .fn _ fi ca => avL k fi && avL k ca
  | .iface _ x => avA k x
  | .hsl id _ _ _ => !decide (id = k)
  | .ptr id _ _ _ _ => !decide (id = k)
  | .mp id => !decide (id = k)
  | .yl id => !decide (id = k)
  | .dead => true
  | .int _ _ => true
  | .bool _ => true
  | .str _ => true
  | .nilp => true
  | .nilfn => true
  | .nilif => true
  | .nilmap => true
  | .nilsl => true
  | .sl _ _ => true
  | .tptr _ _ => true
def avL (k : Nat) : List AV → Bool
  | [] => true
  | x :: r => avA k x && avL k r
end

def avO (k : Nat) : AObj → Bool
  | .row _ _ _ es => es.all (avL k)
  | .map es => es.all fun p => avA k p.2
  | .loop _ _ e => e.all fun p => avA k (getE e p.1)
  | .iter _ _ _ => true
  | .gone => true

theorem avL_get {k : Nat} : ∀ {l : List AV} {i : Nat} {x : AV}, avL k l = true → l[i]? = some x → avA k x = true
  | [], i, x, _, e => by simp at e
  | y :: l, 0, x, h, e => by
    simp only [avL, Bool.and_eq_true] at h
    simp at e; subst e; exact h.1
  | y :: l, i + 1, x, h, e => by
    simp only [avL, Bool.and_eq_true] at h
    exact avL_get h.2 (by simpa using e)

theorem avE_get {k : Nat} {env : List (Nat × AV)} (h : (env.all fun p => avA k (getE env p.1)) = true) (t : Nat) : avA k (getE env t) = true := by
  rcases getE_mem env t with h2 | ⟨p, h2, h3⟩
  · rw [h2]; rfl
  · have := List.all_eq_true.1 h p h2
    rw [h3] at this
    exact this

theorem ref_av {k : Nat} : ∀ {x : AV}, refA k x = true → avA k x = true := by
  intro x
  induction x using AV.rec (motive_2 := fun l => refL k l = true → avL k l = true) with
  | agg cs ih => intro h; simp only [refA] at h; simp only [avA]; exact ih h
  | tup cs ih => intro h; simp only [refA] at h; simp only [avA]; exact ih h
  | fn f a b iha ihb => intro h; simp only [refA, Bool.and_eq_true] at h; simp only [avA, Bool.and_eq_true]; exact ⟨iha h.1, ihb h.2⟩
  | iface t x ih => intro h; simp only [refA] at h; simp only [avA]; exact ih h
  | hsl id g sz n => intro h; simp only [refA, decide_eq_true_eq] at h; simp [avA]; omega
  | ptr id g sz i o => intro h; simp only [refA, decide_eq_true_eq] at h; simp [avA]; omega
  | mp id => intro h; simp only [refA, decide_eq_true_eq] at h; simp [avA]; omega
  | yl id => intro h; simp only [refA, decide_eq_true_eq] at h; simp [avA]; omega
  | nil => rfl
  | cons a b iha ihb => rename_i h; simp only [refL, Bool.and_eq_true] at h; simp only [avL, Bool.and_eq_true]; exact ⟨iha h.1, ihb h.2⟩
  | _ => intro _; rfl

theorem VR.swap {μ μ' ρ ρ' S w x v} {k : Nat} (h : VR μ ρ S w x v) (hr : avA k x = true) (hm : ∀ id, id ≠ k → μ'[id]? = μ[id]? ∧ ρ' id = ρ id) : VR μ' ρ' S w x v := by
  induction h with
  | t h => exact .t h
  | agg cs vs hl _ ih => simp only [avA] at hr; exact .agg cs vs hl fun i c v a b => ih i c v a b (avL_get hr a)
  | tup cs vs hl _ ih => simp only [avA] at hr; exact .tup cs vs hl fun i c v a b => ih i c v a b (avL_get hr a)
  | fn f fi ca vf vc h1 h2 _ _ ih1 ih2 =>
    simp only [avA, Bool.and_eq_true] at hr
    exact .fn f fi ca vf vc h1 h2 (fun i c v a b => ih1 i c v a b (avL_get hr.1 a)) (fun i c v a b => ih2 i c v a b (avL_get hr.2 a))
  | iface t x v _ ih => simp only [avA] at hr; exact .iface t x v (ih hr)
  | hsl h1 h2 h3 => simp [avA] at hr; obtain ⟨e1, e2⟩ := hm _ hr; exact .hsl (e1.trans h1) h2 (e2.trans h3)
  | hsl0 h1 h3 => simp [avA] at hr; obtain ⟨e1, e2⟩ := hm _ hr; exact .hsl0 (e1.trans h1) (e2.trans h3)
  | hslOld v h1 h2 => simp [avA] at hr; obtain ⟨e1, e2⟩ := hm _ hr; exact .hslOld v (e1.trans h1) h2
  | hslGone v h1 => simp [avA] at hr; obtain ⟨e1, e2⟩ := hm _ hr; exact .hslGone v (e1.trans h1)
  | ptr h1 h2 h3 => simp [avA] at hr; obtain ⟨e1, e2⟩ := hm _ hr; exact .ptr (e1.trans h1) h2 (e2.trans h3)
  | ptrOld v h1 h2 => simp [avA] at hr; obtain ⟨e1, e2⟩ := hm _ hr; exact .ptrOld v (e1.trans h1) h2
  | ptrGone v h1 => simp [avA] at hr; obtain ⟨e1, e2⟩ := hm _ hr; exact .ptrGone v (e1.trans h1)
  | mp h1 h3 => simp [avA] at hr; obtain ⟨e1, e2⟩ := hm _ hr; exact .mp (e1.trans h1) (e2.trans h3)
  | mpI h1 h3 => simp [avA] at hr; obtain ⟨e1, e2⟩ := hm _ hr; exact .mpI (e1.trans h1) (e2.trans h3)
  | mpGone v h1 => simp [avA] at hr; obtain ⟨e1, e2⟩ := hm _ hr; exact .mpGone v (e1.trans h1)
  | yl h1 h3 => simp [avA] at hr; obtain ⟨e1, e2⟩ := hm _ hr; exact .yl (e1.trans h1) (e2.trans h3)
  | ylGone v h1 => simp [avA] at hr; obtain ⟨e1, e2⟩ := hm _ hr; exact .ylGone v (e1.trans h1)
  | dead v => exact .dead v

section rules
variable {K : Ctx}

theorem OR.swap {μ μ' ρ ρ' S w} {id k : Nat} {o : AObj} (h : OR K ρ S μ w id o) (hr : avO k o = true) (hid : id ≠ k) (hm : ∀ id, id ≠ k → μ'[id]? = μ[id]? ∧ ρ' id = ρ id) : OR K ρ' S μ' w id o := by
  have hρ := (hm id hid).2
  cases o with
  | gone => trivial
  | row e g sz es =>
    rcases h with h1 | ⟨B, cap, cur, h1, h2, h3, h4, h5, h6, h7, h8⟩
    · exact .inl ⟨hρ.trans h1.1, h1.2⟩
    · refine .inr ⟨B, cap, cur, hρ.trans h1, h2, h3, h4, h5, h6, h7, fun i cs hi => ⟨(h8 i cs hi).1, fun j c hj => ?_⟩⟩
      obtain ⟨v, v1, v2, v3⟩ := (h8 i cs hi).2 j c hj
      refine ⟨v, v1, v2.swap ?_ hm, v3⟩
      simp only [avO] at hr
      have := List.all_eq_true.1 hr cs (List.mem_of_getElem? hi)
      exact avL_get this hj
  | map es =>
    obtain ⟨B, cap, ents, clock, h1, h2, h3, h4, es', h7, h5, h6⟩ := h
    refine ⟨B, cap, ents, clock, hρ.trans h1, h2, h3, h4, es', h7, h5, fun i k' v hi => ?_⟩
    obtain ⟨en, e1, e2, e3⟩ := h6 i k' v hi
    refine ⟨en, e1, e2, e3.swap ?_ hm⟩
    simp only [avO] at hr
    exact List.all_eq_true.1 hr (k', v) (h7.mem_iff.1 (List.mem_of_getElem? hi))
  | loop c st env =>
    obtain ⟨B, cap, rec, h1, h2, h3, h4, h5, h6, h7, h8, h9, h10⟩ := h
    exact ⟨B, cap, rec, hρ.trans h1, h2, h3, h4, h5, h6, h7, h8, h9, fun t => (h10 t).swap (avE_get hr t) hm⟩
  | iter s pos ml =>
    obtain ⟨B, cap, h1, h2, h3, h4⟩ := h
    exact ⟨B, cap, hρ.trans h1, h2, h3, h4⟩

theorem ACalls.frameAt {f : Nat} {args : List AV} {μ ν1 ν2 : List AObj} {o : AObj} {x : AV} (h : ACalls K f args (μ ++ [.gone]) fun ae ν' => ae = .ret x ∧ ν' = ν1 ++ [.gone] ++ ν2) (hl : ν1.length = μ.length) (hmm : refM μ.length μ = true) (ho : refO 0 o = true) (ha : refL μ.length args = true)
    (hx : avA μ.length x = true) (hν : (ν1 ++ [AObj.gone] ++ ν2).all (avO μ.length) = true) : ACalls K f args (μ ++ [o]) fun ae ν' => ae = .ret x ∧ ν' = ν1 ++ [o] ++ ν2 := by
  refine ⟨h.1, fun ρ S w vs hr hlv hv => ?_⟩
  have hm := hr.refM
  have sw : ∀ id, id ≠ μ.length → (μ ++ [AObj.gone])[id]? = (μ ++ [o])[id]? := fun id hid => by
    by_cases hlt : id < μ.length
    · rw [List.getElem?_append_left hlt, List.getElem?_append_left hlt]
    · rw [List.getElem?_eq_none (by simp; omega), List.getElem?_eq_none (by simp; omega)]
  have sw2 : ∀ id, id ≠ μ.length → (ν1 ++ [o] ++ ν2)[id]? = (ν1 ++ [AObj.gone] ++ ν2)[id]? := fun id hid => by
    simp only [List.append_assoc]
    by_cases hlt : id < ν1.length
    · rw [List.getElem?_append_left hlt, List.getElem?_append_left hlt]
    · rw [List.getElem?_append_right (l₁ := ν1) (by omega), List.getElem?_append_right (l₁ := ν1) (by omega), show id - ν1.length = (id - ν1.length - 1) + 1 by omega]
      simp
  have at1 : (μ ++ [o])[μ.length]? = some o := by simp
  have at2 : (ν1 ++ [o] ++ ν2)[μ.length]? = some o := by rw [List.append_assoc, List.getElem?_append_right (by omega), hl, Nat.sub_self]; rfl
  have gone_or : ∀ {id : Nat} {p : AObj}, (μ ++ [AObj.gone])[id]? = some p → p ≠ .gone → id ≠ μ.length ∧ (μ ++ [o])[id]? = some p := fun {id p} hi hne => by
    by_cases hid : id = μ.length
    · subst hid; simp at hi; exact absurd hi.symm hne
    · exact ⟨hid, by rw [← sw id hid]; exact hi⟩
  -- without the object
  have hr1 : RepMu K ρ S μ w := by
    have := hr.take (k := μ.length) (by simp) (by simpa using hmm)
    simpa using this
  have k1 : Stab0 μ ρ S w (μ ++ [AObj.gone]) ρ S w := ⟨fun _ h => h, fun _ _ => rfl, fun id p hp => ⟨p, get_mono hp, ObjTo.refl p _⟩⟩
  have hr0 : RepMu K ρ S (μ ++ [.gone]) w := by
    refine ⟨hr.below, hr.st, hr.own, fun id p hi => ?_, fun id id' p p' B c c' hi hi' hne hne' hB hB' => ?_⟩
    · by_cases hg : p = .gone
      · subst hg; trivial
      · obtain ⟨hid, hi'⟩ := gone_or hi hg
        have hlt : id < μ.length := by have := (List.getElem?_eq_some_iff.1 hi').1; simp at this; omega
        rw [List.getElem?_append_left hlt] at hi
        exact (hr1.ob id p hi).stab0 k1 rfl fun B c hB hne => ⟨(hr1.blk hi hne hB).2.1, rfl⟩
    · exact hr.inj id id' p p' B c c' (gone_or hi hne).2 (gone_or hi' hne').2 hne hne' hB hB'
  refine (h.2 ρ S w vs hr0 hlv (fun i y v a b => (hv i y v a b).swap (ref_av (refL_get ha a)) fun id hid => ⟨sw id hid, rfl⟩)).mono ?_
  rintro en w' ⟨ae, ν', ρ', S', ⟨rfl, rfl⟩, h2, h3, h4⟩
  obtain ⟨ρ2, hρ2⟩ : ∃ ρ2 : Nat → Option (Nat × Nat), ρ2 = fun i => if i = μ.length then ρ i else ρ' i := ⟨_, rfl⟩
  have r1 : ∀ i, i ≠ μ.length → ρ2 i = ρ' i := fun i hi => by rw [hρ2]; simp [hi]
  have r2 : ρ2 μ.length = ρ μ.length := by rw [hρ2]; simp
  have gone_or2 : ∀ {id : Nat} {p : AObj}, (ν1 ++ [o] ++ ν2)[id]? = some p → id ≠ μ.length → (ν1 ++ [AObj.gone] ++ ν2)[id]? = some p := fun {id p} hi hid => by rw [← sw2 id hid]; exact hi
  have hfr : ∀ B c, o ≠ .gone → ρ μ.length = some (B, c) → w'.heap[B]? = w.heap[B]? ∧ ¬ S' B ∧ NoOwn (ν1 ++ [AObj.gone] ++ ν2) ρ' B := fun B c hne hB => by
    obtain ⟨b1, b2, b3⟩ := hr.blk at1 hne hB
    refine h4.fr B b3 b2 fun i' o' c' hi' hne' hB' => ?_
    obtain ⟨hid, hi2⟩ := gone_or hi' hne'
    exact hid (hr.inj _ _ o' o B c' c hi2 at1 hne' hne hB' hB)
  have swr : ∀ id, id ≠ μ.length → (ν1 ++ [o] ++ ν2)[id]? = (ν1 ++ [AObj.gone] ++ ν2)[id]? ∧ ρ2 id = ρ' id := fun id hid => ⟨sw2 id hid, r1 id hid⟩
  refine ⟨.ret x, ν1 ++ [o] ++ ν2, ρ2, S', ⟨rfl, rfl⟩, ?_, ⟨h3.below, h3.st, h3.own, fun i p hi => ?_, fun i i' p p' B c c' hi hi' hne hne' hB hB' => ?_⟩, ⟨h4.sub, h4.blk, fun id p hp => ?_, h4.size, h4.col, fun b hlt b1 b2 => ?_⟩⟩
  · cases en <;> simp only [EndRel] at h2 ⊢
    exact h2.swap hx swr
  · by_cases hid : i = μ.length
    · subst hid
      rw [at2] at hi; cases hi
      have hor := (hr.ob _ _ at1).take ho
      simp only [List.take_zero] at hor
      have k2 : Stab0 [] ρ S w (ν1 ++ [o] ++ ν2) ρ2 S' w' := ⟨h4.sub, h4.blk, fun id p hp => by simp at hp⟩
      exact hor.stab0 k2 r2 fun B c hB hne => ⟨(hfr B c hne hB).2.1, (hfr B c hne hB).1⟩
    · have hi' := gone_or2 hi hid
      exact (h3.ob i p hi').swap (List.all_eq_true.1 hν p (List.mem_of_getElem? hi')) hid swr
  · by_cases hid : i = μ.length <;> by_cases hid' : i' = μ.length
    · rw [hid, hid']
    · subst hid
      rw [at2] at hi; cases hi
      rw [r2] at hB; rw [r1 i' hid'] at hB'
      exact absurd hB' ((hfr B c hne hB).2.2 i' p' c' (gone_or2 hi' hid') hne')
    · subst hid'
      rw [at2] at hi'; cases hi'
      rw [r1 i hid] at hB; rw [r2] at hB'
      exact absurd hB ((hfr B c' hne' hB').2.2 i p c (gone_or2 hi hid) hne)
    · rw [r1 i hid] at hB; rw [r1 i' hid'] at hB'
      exact h3.inj i i' p p' B c c' (gone_or2 hi hid) (gone_or2 hi' hid') hne hne' hB hB'
  · by_cases hid : id = μ.length
    · subst hid
      rw [at1] at hp; cases hp
      exact ⟨o, at2, by rw [r2]; exact ObjTo.refl o _⟩
    · obtain ⟨o', o1, o2⟩ := h4.obj id p (by rw [sw id hid]; exact hp)
      exact ⟨o', by rw [sw2 id hid]; exact o1, by rw [r1 id hid]; exact o2⟩
  · have hn : NoOwn (μ ++ [AObj.gone]) ρ b := fun i p c hi hne => b2 i p c (gone_or hi hne).2 hne
    obtain ⟨a1, a2, a3⟩ := h4.fr b hlt b1 hn
    refine ⟨a1, a2, fun i p c hi hne => ?_⟩
    by_cases hid : i = μ.length
    · subst hid
      rw [at2] at hi; cases hi
      rw [r2]; exact b2 _ _ c at1 hne
    · rw [r1 i hid]; exact a3 i p c (gone_or2 hi hid) hne
end rules
end Go.Av
set_option linter.unusedVariables false
set_option linter.unusedSimpArgs false
namespace Go.Av
open Go.RowKit

/-- A region's call of a function that takes trees. -/
def retTree (o : Option Out) : Option AV :=
  match o with
  | some (.en (.ret x) μ) => treeOf μ 40 x
  | _ => none

/-- What stands behind a call in a list. -/
def behind (o : Option Out) (env : List (Nat × AV)) (k : AV → List AObj → Option Out) : Option Out :=
  match o with
  | some (.en (.ret x) μ) => k x μ
  | some (.en (.panic x) μ) => some (.ex (.panic x) ⟨env, μ⟩)
  | _ => none

/-- A box of one element, with trees alone, that is sliced. -/
def frzAt (op : SOp) (env : List (Nat × AV)) (μ : List AObj) : Option (Nat × Nat × Nat × List AV) :=
  match op with
  | .slA _ _ x _ _ =>
    match evX env x with
    | .ptr id _ _ _ _ =>
      match μ[id]? with
      | some (.row _ g sz [cs]) => if treeL cs = true then some (id, g, sz, cs) else none
      | _ => none
    | _ => none
  | _ => none

mutual
/-- The rows that a value names. -/
def hslA : AV → List Nat
  | .hsl id _ _ _ => [id]
  | .agg cs => hslL cs
  | .tup cs => hslL cs
  | .fn _ fi ca => hslL fi ++ hslL ca
  | .iface _ x => hslA x
  | _ => []
def hslL : List AV → List Nat
  | [] => []
  | x :: r => hslA x ++ hslL r
end

def frzPick (μ : List AObj) : List Nat → Option (Nat × Nat × Nat × List (List AV))
  | [] => none
  | id :: r =>
    match μ[id]? with
    | some (.row _ g sz es) => if es.all treeL = true then some (id, g, sz, es) else frzPick μ r
    | _ => frzPick μ r

theorem frzPick_sound {μ : List AObj} : ∀ {l : List Nat} {id g sz : Nat} {es : List (List AV)}, frzPick μ l = some (id, g, sz, es) → ∃ e, μ[id]? = some (.row e g sz es) ∧ es.all treeL = true
  | [], _, _, _, _, h => by simp [frzPick] at h
  | i :: r, id, g, sz, es, h => by
    simp only [frzPick] at h
    split at h
    · rename_i e' g' sz' es' ho
      split at h
      · rename_i hc; cases h; exact ⟨_, ho, hc⟩
      · exact frzPick_sound h
    · exact frzPick_sound h

/-- A row, with trees alone, that is named. -/
def frzCand (env : List (Nat × AV)) (μ : List AObj) : Option (Nat × Nat × Nat × List (List AV)) :=
  frzPick μ (env.flatMap (fun p => hslA p.2) ++ μ.flatMap fun o => match o with | .row _ _ _ es => es.flatMap hslL | _ => [])

/-- A variable whose array is sliced in the region. -/
def frzSl (l : List SOper) (env : List (Nat × AV)) (μ : List AObj) : Option (Nat × Nat × Nat × List (List AV)) :=
  if l.any (fun s => match s.op with | .slA _ _ _ _ _ => true | _ => false) = true then
    frzPick μ (l.flatMap fun s => match s.op with | .fa _ (.t v) => (match getE env v with | .ptr id _ _ _ _ => [id] | _ => []) | _ => [])
  else none

/-- The operation of a region that may turn what is owned. -/
def effIdx (l : List SOper) (pre : List (List Nat)) (k : Nat) : Option Nat :=
  (List.range k).find? fun i => (match (opAt l i).op with | .dyn _ _ => true | .call _ _ => true | .inv _ _ _ => true | _ => false) && effOK l pre k i

mutual
/-- Are they the same? (No, for slices that are trees.) -/
def beqA : AV → AV → Bool
  | .int k n, .int k' n' => decide (k = k') && decide (n = n')
  | .bool a, .bool b => a == b
  | .str a, .str b => decide (a = b)
  | .nilp, .nilp => true
  | .nilfn, .nilfn => true
  | .nilif, .nilif => true
  | .nilmap, .nilmap => true
  | .nilsl, .nilsl => true
  | .agg a, .agg b => beqL a b
  | .tup a, .tup b => beqL a b
  | .fn (.func f) a b, .fn (.func g) a' b' => decide (f = g) && beqL a a' && beqL b b'
  | .iface t x, .iface u y => decide (t = u) && beqA x y
  | .tptr a o, .tptr b o' => beqL a b && decide (o = o')
  | .hsl i g s n, .hsl i' g' s' n' => decide (i = i') && decide (g = g') && decide (s = s') && decide (n = n')
  | .ptr i g s a o, .ptr i' g' s' a' o' => decide (i = i') && decide (g = g') && decide (s = s') && decide (a = a') && decide (o = o')
  | .mp i, .mp j => decide (i = j)
  | .yl i, .yl j => decide (i = j)
  | .dead, .dead => true
  | _, _ => false
def beqL : List AV → List AV → Bool
  | [], [] => true
  | x :: l, y :: r => beqA x y && beqL l r
  | _, _ => false
end

theorem beqA_eq : ∀ {x y : AV}, beqA x y = true → x = y := by
  intro x
  induction x using AV.rec (motive_2 := fun l => ∀ r, beqL l r = true → l = r) with
  | agg a ih => intro y h; cases y <;> simp only [beqA, Bool.false_eq_true] at h; rw [ih _ h]
  | tup a ih => intro y h; cases y <;> simp only [beqA, Bool.false_eq_true] at h; rw [ih _ h]
  | fn f a b iha ihb =>
    intro y h
    cases y with
    | fn f' a' b' =>
      cases f with
      | func n =>
        cases f' with
        | func n' =>
          simp only [beqA, Bool.and_eq_true, decide_eq_true_eq] at h
          rw [h.1.1, iha _ h.1.2, ihb _ h.2]
        | _ => simp [beqA] at h
      | _ => simp [beqA] at h
    | _ => simp [beqA] at h
  | iface t x ih => intro y h; cases y <;> simp only [beqA, Bool.false_eq_true, Bool.and_eq_true, decide_eq_true_eq] at h; rw [h.1, ih h.2]
  | tptr a o ih => intro y h; cases y <;> simp only [beqA, Bool.false_eq_true, Bool.and_eq_true, decide_eq_true_eq] at h; rw [ih _ h.1, h.2]
  | sl n f _ => intro y h; cases y <;> simp [beqA] at h
  | nil => rename_i r h; cases r <;> simp only [beqL, Bool.false_eq_true] at h; rfl
  | cons a l iha ihl => rename_i r h; cases r <;> simp only [beqL, Bool.false_eq_true, Bool.and_eq_true] at h; rw [iha h.1, ihl _ h.2]
  | _ => intro y h; cases y <;> simp_all [beqA]

section evaluator
variable (T : Nat → Option Ent) (X : Nat → List AV → Option AV) (rec : Task → Option Out)

/-- An operation's continuation in a list. -/
def goOn (r : Bool) (m : Nat) (l : List SOper) (env : List (Nat × AV)) (d : Option Nat) (x : AV) (μ : List AObj) : Option Out := rec (.list r m l ⟨putE env d x, μ⟩)

/-- Which task a call is. -/
def taskOf (op : SOp) (env : List (Nat × AV)) (μ : List AObj) : Option Task :=
  match callee op env with
  | some (f, args) => some (.call f args μ)
  | none =>
    match op with
    | .dyn y args => match evX env y with | .yl id => some (.yld id (args.map (evX env)) μ) | _ => none
    | _ => none

def evOp (r : Bool) (m : Nat) (s : SOper) (l : List SOper) (σ : St) : Option Out :=
  match frzAt s.op σ.env σ.mu with
  | some (id, g, sz, cs) => rec (.list r m (s :: l) ⟨frzE id g sz 1 (fun _ => cs) σ.env, frzM id g sz 1 (fun _ => cs) σ.mu⟩)
  | none =>
    match taskOf s.op σ.env σ.mu with
    | some t => behind (rec t) σ.env (goOn rec r m l σ.env s.dst)
    | none =>
      match sopA s.op σ.env σ.mu with
      | some (x, μ) => goOn rec r m l σ.env s.dst x μ
      | none =>
        match s.op with
        | .pan y => match evX σ.env y with | .iface t z => some (.ex (.panic (.iface t z)) σ) | _ => none
        | _ => none

def evList (r : Bool) (m : Nat) (l : List SOper) (σ : St) : Option Out :=
  match l with
  | [] => some (.ex .normal σ)
  | s :: l =>
    match wantA s.guard σ.env with
    | some false => goOn rec r m l σ.env s.dst (.tup []) σ.mu
    | some true => evOp rec r m s l σ
    | none => none

def evEff (r : Bool) (m : Nat) (l : List SOper) (pre : List (List Nat)) (k p : Nat) (σ : St) : Option Out :=
  match rec (.mrun (l.take p) σ.env [] 0 σ.mu) with
  | some (.mr envp slp) =>
    match callee (opAt l p).op envp with
    | some (f, args) =>
      match rec (.call f args σ.mu) with
      | some (.en (.ret x) ν) =>
        if effOK l pre k p = true ∧ refL σ.mu.length args = true ∧ ν.length = σ.mu.length ∧ refA σ.mu.length x = true ∧ refM σ.mu.length ν = true then
          match rec (.mrun ((l.take k).drop (p + 1)) (pushE envp (opAt l p).dst x) slp (p + 1) σ.mu) with
          | some (.mr env' sl') => if sl'.all (fun r => r.st.isNone) = true then rec (.list r m (l.drop k) ⟨env', ν ++ sl'.map SlotR.fin⟩) else none
          | _ => none
        else none
      | _ => none
    | none => none
  | _ => none

def evFrz (r : Bool) (m : Nat) (s : SCode) (σ : St) (c : Option (Nat × Nat × Nat × List (List AV))) : Option Out :=
  match c with
  | some (id, g, sz, es) => rec (.code r m s ⟨frzE id g sz es.length (fun i => es.getD i []) σ.env, frzM id g sz es.length (fun i => es.getD i []) σ.mu⟩)
  | none => none

def evDreg (r : Bool) (m : Nat) (l : List SOper) (pre : List (List Nat)) (k : Nat) (σ : St) : Option Out :=
  if dOK l pre k = true then
    match rec (.mrun (l.take k) σ.env [] 0 σ.mu) with
    | some (.mr env' sl') => rec (.list r m (l.drop k) ⟨env', σ.mu ++ sl'.map SlotR.fin⟩)
    | _ =>
      match frzSl l σ.env σ.mu with
      | some c => evFrz rec r m (.dreg l pre) σ (some c)
      | none =>
        match effIdx l pre k with
        | some p => evEff rec r m l pre k p σ
        | none => evFrz rec r m (.dreg l pre) σ (frzCand σ.env σ.mu)
  else none

/-- Where a region may be cut: all that is ahead comes ahead of all that is behind. -/
def cutAt (masks : List Nat) (c : Nat) : Bool := (masks.drop c).all fun k => Nat.beq (k &&& (2 ^ c - 1)) (2 ^ c - 1)

/-- The windows of a region: where each ends, and if it comes in its order. -/
def wins : Nat → List Nat → List (Nat × Bool)
  | _, [] => []
  | c, d :: r =>
    match wins d r with
    | (e, true) :: s => bif Nat.beq d (c + 1) then (e, true) :: s else (d, false) :: (e, true) :: s
    | s => (d, Nat.beq d (c + 1)) :: s
def winsOf (pre : List (List Nat)) (n : Nat) : List (Nat × Bool) := wins 0 (((List.range n).map (· + 1)).filter (cutAt (befT [] pre)))

/-- A call of a function that takes trees, or is lent what is owned. -/
def callT (f : Nat) (as : List AV) (μ : List AObj) : Option AV :=
  bif treeL as then retTree (rec (.call f as []))
  else
    match mapO (treeOf μ 40) as with
    | some ts => match retTree (rec (.call f ts [])) with
      | some t => bif flatA t then some t else none
      | none => none
    | none => none

/-- What a quiet operation comes to. -/
def evV (μ : List AObj) (s : SOper) (env : List (Nat × AV)) : Option AV :=
  match wantA s.guard env with
  | some false => some (.tup [])
  | some true =>
    bif quietK s.op then (sopA s.op env μ).map (·.1) else (match callee s.op env with | some (f, as) => callT rec f as μ | none => none)
  | none => none

/-- Operations that leave the memory as it is. -/
def evQ (μ : List AObj) : List SOper → List (Nat × AV) → Option (List (Nat × AV))
  | [], env => some env
  | s :: l, env =>
    match evV rec μ s env with
    | some x => evQ μ l (pushE env s.dst x)
    | none => none

def isTrue : Option Bool → Bool
  | some b => b
  | none => false

/-- What one operation leaves. -/
def evOne (op : SOp) (env : List (Nat × AV)) (μ : List AObj) : Option (AV × List AObj) :=
  match sopA op env μ with
  | some r => some r
  | none =>
    match callee op env with
    | some (f, args) => match rec (.call f args μ) with | some (.en (.ret x) ν) => some (x, ν) | _ => none
    | none => none

/-- How an operation lies to the one that turns the memory: ahead of it, behind it, beside it; or it is that one. -/
def clsOf (pre : List (List Nat)) (p i : Nat) : Nat := bif Nat.beq i p then 3 else bif bef pre i p then 0 else bif bef pre p i then 1 else 2

def same2 (fr : Bool) (a b : Option AV) : Option AV :=
  match a, b with
  | some x, some y => bif fr || beqA x y then some x else none
  | _, _ => none

def evCls (μ ν : List AObj) (x : AV) (k : Nat) (s : SOper) (env : List (Nat × AV)) : Option AV :=
  match k with
  | 0 => evV rec μ s env
  | 1 => evV rec ν s env
  | 3 => some x
  | _ => same2 (freeK s.op) (evV rec μ s env) (evV rec ν s env)

def evPass (μ ν : List AObj) (x : AV) : List (Nat × SOper) → List (Nat × AV) → Option (List AV × List (Nat × AV))
  | [], env => some ([], env)
  | (k, s) :: l, env =>
    match evCls rec μ ν x k s env with
    | some y => match evPass μ ν x l (pushE env s.dst y) with
      | some (ys, env') => some (y :: ys, env')
      | none => none
    | none => none

def clsL (l : List SOper) (pre : List (List Nat)) (p a n : Nat) : List (Nat × SOper) := (List.range' a n).map fun i => (clsOf pre p i, opAt l i)

/-- A window in which one operation turns the memory. -/
def evEff2 (l : List SOper) (pre : List (List Nat)) (c d : Nat) (σ : St) (p : Option Nat) : Option St :=
  match p with
  | none => none
  | some p =>
    if c ≤ p ∧ p < d ∧ ((clsL l pre p c (p - c)).all fun q => Nat.beq q.1 0 || Nat.beq q.1 2) = true then
      match evQ rec σ.mu ((clsL l pre p c (p - c)).map (·.2)) σ.env with
      | some envp =>
        bif isTrue (wantA (opAt l p).guard envp) then
          match evOne rec (opAt l p).op envp σ.mu with
          | some (x, ν) =>
            match evPass rec σ.mu ν x (clsL l pre p c (p - c)) σ.env with
            | some (xa, ep) => (evPass rec σ.mu ν x (clsL l pre p p (d - p)) ep).map fun r => ⟨r.2, ν⟩
            | none => none
          | none => none
        else none
      | none => none
    else none

/-- The one that turns the memory: it is not quiet. -/
def find0 (l : List SOper) (pre : List (List Nat)) (c d : Nat) : Option Nat :=
  match (List.range' c (d - c)).find? fun p => match (opAt l p).op with | .call _ _ => false | op => !quietK op with
  | some p => some p
  | none => ((List.range' c (d - c)).reverse).find? fun p => match (opAt l p).op with | .call _ _ => true | _ => false

/-- Does the operation leave the memory alone, as far as can be seen? -/
def calmS (s : SOper) (env : List (Nat × AV)) : Bool :=
  match wantA s.guard env with
  | some true => bif quietK s.op then true else match callee s.op env with
    | some (f, as) => bif treeL as then true else (match T f with | some e => e.pure | none => false)
    | none => false
  | _ => true
/-- Does it come to the same in whatever memory? -/
def floatS (s : SOper) (env : List (Nat × AV)) : Bool :=
  match wantA s.guard env with
  | some true => bif freeK s.op then true else match callee s.op env with
    | some (_, as) => treeL as
    | none => false
  | _ => true
/-- A window in the order of its text: what each operation comes to, which turn the memory, and to what. -/
def evP1 (l : List SOper) : List Nat → List (Nat × AV) → List AObj → Option (List AV × List Nat × List (List AObj) × List (Nat × AV))
  | [], env, μ => some ([], [], [], env)
  | i :: is, env, μ =>
    match (bif calmS T (opAt l i) env then evV rec μ (opAt l i) env else none) with
    | some x => match evP1 l is (pushE env (opAt l i).dst x) μ with
      | some (xs, ps, ν, e) => some (x :: xs, ps, ν, e)
      | none => none
    | none => bif isTrue (wantA (opAt l i).guard env) then
      match evOne rec (opAt l i).op env μ with
      | some (x, μ') => match evP1 l is (pushE env (opAt l i).dst x) μ' with
        | some (xs, ps, ν, e) => some (x :: xs, i :: ps, μ' :: ν, e)
        | none => none
      | none => none
    else none
/-- May the operation i be carried out when j of those in ps have been? -/
def mayAt (pre : List (List Nat)) (ps : List Nat) (i j : Nat) : Bool := (List.range ps.length).all fun k => (!bef pre (ps.getD k 0) i || Nat.blt k j) && (!bef pre i (ps.getD k 0) || Nat.ble j k)
def isV (o : Option AV) (x : AV) : Bool := match o with | some y => beqA y x | none => false
/-- Each of the others comes to the same whenever it may be carried out. -/
def evP2 (l : List SOper) (pre : List (List Nat)) (ps : List Nat) (ν : List (List AObj)) : List Nat → List (Nat × AV) → List AV → Bool
  | [], _, _ => true
  | i :: is, env, xs =>
    match xs with
    | [] => false
    | x :: xs => (bif ps.contains i then true else bif floatS (opAt l i) env then true else (List.range (ps.length + 1)).all fun j => !mayAt pre ps i j || isV (evV rec (ν.getD j []) (opAt l i) env) x) && evP2 l pre ps ν is (pushE env (opAt l i).dst x) xs
/-- A window in which some operations turn the memory. -/
def evEffN (l : List SOper) (pre : List (List Nat)) (c d : Nat) (σ : St) : Option St :=
  match evP1 T rec l (List.range' c (d - c)) σ.env σ.mu with
  | some (xs, ps, ν, e) => bif effsOK pre c d ps && evP2 rec l pre ps (σ.mu :: ν) (List.range' c (d - c)) σ.env xs then some ⟨e, (σ.mu :: ν).getD ps.length []⟩ else none
  | none => none

/-- The operations that lay a map and fill it; the others float. -/
def evPP (l : List SOper) (nn d0 p0 : Nat) (agg : Bool) (lk : List (Nat × LK)) : List Nat → List (Nat × AV) → Option (List AV × List (Nat × AV × AV) × List (Nat × AV))
  | [], env => some ([], [], env)
  | i :: is, env =>
    bif Nat.beq i p0 then
      match evPP l nn d0 p0 agg lk is ((d0, .mp nn) :: env) with
      | some (xs, kvs, e) => some (.mp nn :: xs, kvs, e)
      | none => none
    else
      match opAt l i with
      | ⟨none, none, .putM agg' lk' (.t t) a b⟩ =>
        if (Nat.beq t d0 = true ∧ beqA (getE env d0) (.mp nn) = true) ∧ agg' = agg ∧ lk' = lk then
          match evPP l nn d0 p0 agg lk is env with
          | some (xs, kvs, e) => some (.dead :: xs, (i, evX env a, evX env b) :: kvs, e)
          | none => none
        else none
      | s =>
        match evV rec [] s env with
        | some x => match evPP l nn d0 p0 agg lk is (pushE env s.dst x) with
          | some (xs, kvs, e) => some (x :: xs, kvs, e)
          | none => none
        | none => none
def disK (lk : List (Nat × LK)) : List (Nat × AV × AV) → Bool
  | [] => true
  | q :: r => (r.all fun p => decide (eqA lk (cellsOf q.2.1) (cellsOf p.2.1) = some false) && decide (eqA lk (cellsOf p.2.1) (cellsOf q.2.1) = some false)) && disK lk r
def putOf (l : List SOper) (is : List Nat) : Option (Bool × List (Nat × LK)) := is.findSome? fun i => match (opAt l i).op with | .putM agg lk _ _ _ => some (agg, lk) | _ => none
def mkmOf (l : List SOper) (is : List Nat) : Option (Nat × Nat) := is.findSome? fun i => match opAt l i with | ⟨some d, none, .mkM⟩ => some (i, d) | _ => none
def evPuts (l : List SOper) (pre : List (List Nat)) (c d : Nat) (σ : St) : Option St :=
  match mkmOf l (List.range' c (d - c)), putOf l (List.range' c (d - c)) with
  | some (p0, d0), some (agg, lk) =>
    match evPP rec l σ.mu.length d0 p0 agg lk (List.range' c (d - c)) σ.env with
    | some (xs, kvs, e) => bif (kvs.all fun q => bef pre p0 q.1 && keyOK agg lk q.2.1) && disK lk kvs then some ⟨e, σ.mu ++ [.map (kvs.map (·.2))]⟩ else none
    | none => none
  | _, _ => none

def evSeg (r : Bool) (m : Nat) (l : List SOper) (pre : List (List Nat)) : Nat → List (Nat × Bool) → St → Option Out
  | c, [], σ => if l.length = c then some (.ex .normal σ) else none
  | c, (d, true) :: s, σ =>
    if seqOK l pre c d = true then
      match rec (.list r m ((l.take d).drop c) σ) with
      | some (.ex .normal σ') => evSeg r m l pre d s σ'
      | some (.ex e σ') => some (.ex e σ')
      | _ => none
    else none
  | c, (d, false) :: s, σ =>
    if winOK l pre c d = true then
      match rec (.mrun ((l.take d).drop c) σ.env [] c σ.mu) with
      | some (.mr env' sl') => evSeg r m l pre d s ⟨env', σ.mu ++ sl'.map SlotR.fin⟩
      | _ => match evEff2 rec l pre c d σ (find0 l pre c d) with
        | some σ' => evSeg r m l pre d s σ'
        | none => match evPuts rec l pre c d σ with
          | some σ' => evSeg r m l pre d s σ'
          | none => match evEffN T rec l pre c d σ with
            | some σ' => evSeg r m l pre d s σ'
            | none => none
    else none

def evDreg2 (r : Bool) (m : Nat) (l : List SOper) (pre : List (List Nat)) (k : Nat) (σ : St) (w : List (Nat × Bool)) : Option Out :=
  match evSeg T rec r m l pre 0 w σ with
  | some o => some o
  | none => evDreg rec r m l pre k σ

def oneCellA : AV → Bool
  | .agg _ => false
  | _ => true

def isPtr (k : Nat) : AV → Bool
  | .ptr a 1 1 0 0 => Nat.beq a k
  | _ => false

def isGone : Option AObj → Bool
  | some .gone => true
  | _ => false

def evEff1c (r : Bool) (m : Nat) (l : List SOper) (pre : List (List Nat)) (n p i0 k0 d0 e0 : Nat) (c0 : AV) (y : SX) (x : AV) (envp : List (Nat × AV)) (μ ν : List AObj) : Option Out :=
  match evQ rec μ (((fake1 l p i0 k0 x (.ptr μ.length 1 1 0 0)).take k0).drop p) envp with
  | some envk =>
    match evQ rec μ (((fake1 l p i0 k0 x (.ptr μ.length 1 1 0 0)).take n).drop k0) envk with
    | some env' =>
      bif oneCellA (evX envk y) && okCell (ν.take μ.length ++ [.row e0 1 1 [[c0]]] ++ ν.drop (μ.length + 1)) (evX envk y) && isPtr μ.length (getE envk d0) then
        evSeg T rec r m l pre n (wins n (((List.range l.length).map (· + 1)).filter fun c => Nat.blt n c && cutAt (befT [] pre) c)) ⟨env', ν.take μ.length ++ [.row e0 1 1 [[evX envk y]]] ++ ν.drop (μ.length + 1)⟩
      else none
    | none => none
  | none => none

def evEff1b (r : Bool) (m : Nat) (l : List SOper) (pre : List (List Nat)) (n p i0 k0 d0 e0 : Nat) (c0 : AV) (y : SX) (env : List (Nat × AV)) (μ : List AObj) : Option Out :=
  match evQ rec μ ((fake1 l p i0 k0 .dead (.ptr μ.length 1 1 0 0)).take p) env with
  | some envp =>
    match callee (opAt l p).op envp with
    | some (f, args) =>
      match rec (.call f args (μ ++ [.gone])) with
      | some (.en (.ret x) ν) =>
        if refL μ.length args = true ∧ avA μ.length x = true ∧ ν.all (avO μ.length) = true ∧ isGone ν[μ.length]? = true ∧ refM μ.length μ = true then
          evEff1c T rec r m l pre n p i0 k0 d0 e0 c0 y x envp μ ν
        else none
      | _ => none
    | none => none
  | none => none

def evEff1 (r : Bool) (m : Nat) (l : List SOper) (pre : List (List Nat)) (n p i0 k0 : Nat) (σ : St) : Option Out :=
  match opAt l i0, opAt l k0 with
  | ⟨some d0, none, .box e0 (.c c0)⟩, ⟨none, none, .store 1 (.t d1) y⟩ =>
    if winOK l pre 0 n = true ∧ eff1OK l pre n p i0 k0 = true ∧ leafC c0 = true ∧ d1 = d0 then evEff1b T rec r m l pre n p i0 k0 d0 e0 c0 y σ.env σ.mu else none
  | _, _ => none

/-- Where such an operation and such a variable may lie. -/
def find1 (l : List SOper) (pre : List (List Nat)) : Option (Nat × Nat × Nat × Nat) :=
  match (List.range l.length).find? fun i => match opAt l i with | ⟨some _, none, .box _ (.c c)⟩ => leafC c | _ => false with
  | none => none
  | some i0 =>
    match (opAt l i0).dst with
    | none => none
    | some d0 =>
      match (List.range l.length).find? fun k => match opAt l k with | ⟨none, none, .store 1 (.t d) _⟩ => Nat.beq d d0 | _ => false with
      | none => none
      | some k0 =>
        match (List.range (l.length + 1)).find? fun c => Nat.blt k0 c && cutAt (befT [] pre) c with
        | none => none
        | some n =>
          match (List.range n).find? fun p => (match (opAt l p).op with | .call _ _ => true | .dyn _ _ => true | .inv _ _ _ => true | _ => false) && eff1OK l pre n p i0 k0 with
          | none => none
          | some p => some (n, p, i0, k0)

def evRng (m : Nat) (x : SX) (ps : List Nat) (sa sb : SCode) (σ : St) : Option Out :=
  match evX σ.env x with
  | .fn (.func gf) [] ca =>
    match rec (.call gf (.yl σ.mu.length :: ca) (σ.mu ++ [.loop ⟨ps, sa, sb, m⟩ .ready σ.env])) with
    | some (.en (.ret _) μ') =>
      match μ'[σ.mu.length]? with
      | some (.loop _ .ready _) => some (.ex .normal ⟨σ.env, μ'.set σ.mu.length .gone⟩)
      | some (.loop _ (.done .ret) _) => some (.ex .ret ⟨σ.env, μ'.set σ.mu.length .gone⟩)
      | some (.loop _ (.done (.exit k)) _) => some (.ex (.exit k) ⟨σ.env, μ'.set σ.mu.length .gone⟩)
      | _ => none
    | _ => none
  | _ => none

def evDreg3 (r : Bool) (m : Nat) (l : List SOper) (pre : List (List Nat)) (σ : St) (q : Option (Nat × Nat × Nat × Nat)) : Option Out :=
  match q with
  | none => evDreg2 T rec r m l pre (splitM (befT [] pre) l.length) σ (winsOf pre l.length)
  | some (n, p, i0, k0) =>
    match evEff1 T rec r m l pre n p i0 k0 σ with
    | some o => some o
    | none => evDreg2 T rec r m l pre (splitM (befT [] pre) l.length) σ (winsOf pre l.length)

def shortE (e : List (Nat × AV)) : List (Nat × AV) := bif Nat.blt 120 e.length then normE e else e

def evCode (r : Bool) (m : Nat) (s : SCode) (σ : St) : Option Out :=
  match s with
  | .skip => some (.ex .normal σ)
  | .ret => some (.ex .ret σ)
  | .exit id => some (.ex (.exit id) σ)
  | .reg l => rec (.list r m l σ)
  | .dreg l pre => evDreg3 T rec r m l pre σ (find1 l pre)
  | .seq a b =>
    match rec (.code r m a σ) with
    | some (.ex .normal σ') => rec (.code r m b σ')
    | some (.ex e σ') => some (.ex e σ')
    | _ => none
  | .cond c a b =>
    match evX σ.env c with
    | .bool true => rec (.code r m a σ)
    | .bool false => rec (.code r m b σ)
    | _ => none
  | .block id a =>
    match rec (.code r m a σ) with
    | some (.ex (.exit i) σ') => some (.ex (if i = id then .normal else .exit i) σ')
    | some (.ex e σ') => some (.ex e σ')
    | _ => none
  | .loop a =>
    match rec (.code r m a σ) with
    | some (.ex .normal σ') => rec (.code r m (.loop a) ⟨shortE σ'.env, σ'.mu⟩)
    | some (.ex e σ') => some (.ex e σ')
    | _ => none
  | .scope a => rec (.code r m a σ)
  | .rng x ps sa sb => bif r then evRng rec m x ps sa sb σ else none

def evBody (e : Ent) (args : List AV) (μ : List AObj) : Option Out :=
  if args.length ≤ e.m then
    match rec (.code true e.m e.s ⟨enterEnv args, μ⟩) with
    | some (.ex .normal σ') => (resA σ' e.rs).map fun x => .en (.ret x) (gcA μ.length x σ'.mu)
    | some (.ex .ret σ') => (resA σ' e.rs).map fun x => .en (.ret x) (gcA μ.length x σ'.mu)
    | some (.ex (.panic x) σ') => some (.en (.panic x) σ'.mu)
    | _ => none
  else none

/-- A function that only reads, and whose result names no memory, over what it is lent. -/
def evLend (f : Nat) (args : List AV) (μ : List AObj) : Option Out :=
  match mapO (treeOf μ 40) args with
  | some ts =>
    match rec (.call f ts []) with
    | some (.en (.ret x) _) => if flatA x = true then some (.en (.ret x) μ) else none
    | _ => none
  | none => none

/-- Code that may defer. -/
def evDc (m : Nat) : DCode → DV → St → Option (DV × AExit × St)
  | .base s, dv, σ => match rec (.code dv.isSome m s σ) with | some (.ex e σ') => some (dv, e, σ') | _ => none
  | .seq x y, dv, σ => match evDc m x dv σ with | some (dv', .normal, σ') => evDc m y dv' σ' | r => r
  | .dfr l f, none, σ => match rec (.list false m l σ) with
    | some (.ex .normal σ') => match evX σ'.env f with | .fn (.func g) [] ca => some (some (g, ca, σ'.mu.length), .normal, σ') | _ => none
    | some (.ex e σ') => some (none, e, σ')
    | _ => none
  | .dfr _ _, some _, _ => none

def evLeave (e : Ent) (len g : Nat) (ca : List AV) (md : Option AV) (σ : St) : Option Out :=
  match T g with
  | some ⟨m, s, _, _, .rcv t⟩ =>
    if ca.length ≤ m then
      match rec (.code false m s ⟨(t, md.getD .nilif) :: enterEnv ca, σ.mu⟩) with
      | some (.ex .normal σ2) => (resA ⟨σ.env, σ2.mu⟩ e.rs).map fun x => .en (.ret x) (gcA len x σ2.mu)
      | some (.ex .ret σ2) => (resA ⟨σ.env, σ2.mu⟩ e.rs).map fun x => .en (.ret x) (gcA len x σ2.mu)
      | _ => none
    else none
  | _ => none

def evDef (e : Ent) (d : DCode) (args : List AV) (μ : List AObj) : Option Out :=
  if args.length ≤ e.m then
    match evDc rec e.m d none ⟨enterEnv args, μ⟩ with
    | some (none, .normal, σ') => (resA σ' e.rs).map fun x => .en (.ret x) (gcA μ.length x σ'.mu)
    | some (none, .ret, σ') => (resA σ' e.rs).map fun x => .en (.ret x) (gcA μ.length x σ'.mu)
    | some (none, .panic x, σ') => some (.en (.panic x) σ'.mu)
    | some (some (g, ca, _), .normal, σ') => evLeave T rec e μ.length g ca none σ'
    | some (some (g, ca, _), .ret, σ') => evLeave T rec e μ.length g ca none σ'
    | some (some (g, ca, _), .panic y, σ') => evLeave T rec e μ.length g ca (some y) σ'
    | _ => none
  else none

def evCall (f : Nat) (args : List AV) (μ : List AObj) : Option Out :=
  match X f args with
  | some r => if treeL args = true then some (.en (.ret r) μ) else none
  | none =>
    match T f with
    | none => none
    | some e =>
      match e.k with
      | .plain => bif e.pure && !μ.isEmpty then evLend rec f args μ else evBody rec e args μ
      | .dfr d => evDef T rec e d args μ
      | .rcv _ => none

def evEnd (id : Nat) (o : Option Out) : Option Out :=
  match o with
  | some (.ex .normal σ2) => match σ2.mu[id]? with
    | some (.loop c2 .busy e2) => some (.en (.ret (.bool true)) (σ2.mu.set id (.loop c2 .ready e2)))
    | _ => none
  | some (.ex .ret σ2) => match σ2.mu[id]? with
    | some (.loop c2 .busy e2) => some (.en (.ret (.bool false)) (σ2.mu.set id (.loop c2 (.done .ret) e2)))
    | _ => none
  | some (.ex (.exit k) σ2) => match σ2.mu[id]? with
    | some (.loop c2 .busy e2) => some (.en (.ret (.bool false)) (σ2.mu.set id (.loop c2 (.done (.exit k)) e2)))
    | _ => none
  | _ => none

def evYld (id : Nat) (args : List AV) (μ : List AObj) : Option Out :=
  match μ[id]? with
  | some (.loop c .ready e0) =>
    if c.ps.length = args.length ∧ c.ps.all (fun p => decide (p < c.n)) = true then
      match rec (.code false c.n c.sa ⟨bindPs c.ps args e0, μ⟩) with
      | some (.ex .normal σ1) =>
        match σ1.mu[id]? with
        | some (.loop c1 .ready e1) => evEnd id (rec (.code false c.n c.sb ⟨σ1.env, σ1.mu.set id (.loop c1 .busy e1)⟩))
        | _ => none
      | _ => none
    else none
  | _ => none

/-- The kinds of a region's operations. -/
inductive MK where
  | call (f : Nat) (args : List SX) (d : Nat)
  | box (e : Nat) (y : SX) (d : Nat)
  | bldS (e sz k : Nat) (zero : List AV) (ps : List (Nat × Nat × SX)) (d : Nat)
  | store (sz d : Nat) (y : SX)
  | other

def mkind (s : SOper) : MK :=
  match s.op, s.dst with
  | .call f args, some d => .call f args d
  | .box e y, some d => .box e y d
  | .bldS e sz k zero ps, some d => .bldS e sz k zero ps d
  | .store sz (.t d) y, none => .store sz d y
  | _, _ => .other

def mCall (f : Nat) (as : List AV) (d : Nat) (l : List SOper) (env : List (Nat × AV)) (sl : List SlotR) (j : Nat) (μ : List AObj) : Option Out :=
  if treeL as = true then
    match retTree (rec (.call f as [])) with
    | some t => if refA μ.length t = true then rec (.mrun l ((d, t) :: env) sl (j + 1) μ) else none
    | none => none
  else
    match mapO (treeOf μ 40) as with
    | some ts =>
      match retTree (rec (.call f ts [])) with
      | some t => if refA μ.length t = true ∧ flatA t = true then rec (.mrun l ((d, t) :: env) sl (j + 1) μ) else none
      | none => none
    | none => none

def mBox (e : Nat) (x : AV) (d : Nat) (l : List SOper) (env : List (Nat × AV)) (sl : List SlotR) (j : Nat) (μ : List AObj) : Option Out :=
  if (cellsOf x).all (okCell μ) = true ∧ refL μ.length (cellsOf x) = true then
    rec (.mrun l ((d, .ptr (μ.length + sl.length) 0 (cellsOf x).length 0 0) :: env) (sl ++ [⟨j, d, .row e 0 (cellsOf x).length [cellsOf x], none⟩]) (j + 1) μ)
  else none

def mBldS (e sz k : Nat) (cs : Option (List AV)) (d : Nat) (l : List SOper) (env : List (Nat × AV)) (sl : List SlotR) (j : Nat) (μ : List AObj) : Option Out :=
  match cs with
  | some cs => if (chunks sz k cs).all (refL μ.length) = true then
      rec (.mrun l ((d, .hsl (μ.length + sl.length) 0 sz k) :: env) (sl ++ [⟨j, d, .row e 0 sz (chunks sz k cs), none⟩]) (j + 1) μ)
    else none
  | none => none

def mStore (sz d : Nat) (x : AV) (l : List SOper) (env : List (Nat × AV)) (sl : List SlotR) (j : Nat) (μ : List AObj) : Option Out :=
  match getE env d with
  | .ptr id 0 sz' 0 0 =>
    match sl[id - μ.length]? with
    | some ⟨ia, d', .row e' 0 sz'' [cs], none⟩ =>
      if μ.length ≤ id ∧ sz' = sz ∧ sz'' = sz ∧ d' = d ∧ cs.length = sz ∧ (cellsOf x).length = sz ∧ (cellsOf x).all (okCell μ) = true ∧ refL μ.length (cellsOf x) = true then
        rec (.mrun l env (sl.set (id - μ.length) ⟨ia, d, .row e' 0 sz [cs], some (j, .row e' 0 sz [cellsOf x])⟩) (j + 1) μ)
      else none
    | _ => none
  | _ => none

def mOther (s : SOper) (l : List SOper) (env : List (Nat × AV)) (sl : List SlotR) (j : Nat) (μ : List AObj) : Option Out :=
  bif quietK s.op then
    match sopA s.op env μ with
    | some (x, _) => bif refA μ.length x then rec (.mrun l (pushE env s.dst x) sl (j + 1) μ) else none
    | none => none
  else none

def evM (l : List SOper) (env : List (Nat × AV)) (sl : List SlotR) (j : Nat) (μ : List AObj) : Option Out :=
  match l with
  | [] => some (.mr env sl)
  | s :: l =>
    match wantA s.guard env with
    | some false => match s.dst with
      | some d => rec (.mrun l ((d, .tup []) :: env) sl (j + 1) μ)
      | none => none
    | some true =>
      match mkind s with
      | .call f args d => mCall rec f (args.map (evX env)) d l env sl j μ
      | .box e y d => mBox rec e (evX env y) d l env sl j μ
      | .bldS e sz k zero ps d => mBldS rec e sz k (bldA μ zero (evParts env ps)) d l env sl j μ
      | .store sz d y => mStore rec sz d (evX env y) l env sl j μ
      | .other => mOther rec s l env sl j μ
    | none => none

def evT (t : Task) : Option Out :=
  match t with
  | .code r m s σ => evCode T rec r m s σ
  | .list r m l σ => evList rec r m l σ
  | .call f args μ => evCall T X rec f args μ
  | .yld id args μ => evYld rec id args μ
  | .mrun l env sl j μ => evM rec l env sl j μ

end evaluator

def ev (T : Nat → Option Ent) (X : Nat → List AV → Option AV) : Nat → Task → Option Out
  | 0, _ => none
  | n + 1, t => evT T X (ev T X n) t

/-- What is asked of the surroundings. -/
def EntOK (P : Program) (f : Nat) (e : Ent) : Prop :=
  match e.k with
  | .plain => FnIs P f e.m e.s e.rs
  | .dfr d => FnIsD P f e.m d e.rs
  | .rcv t => GnIs P f e.m t e.s

theorem EntOK.fn {P : Program} {f : Nat} {e : Ent} (h : EntOK P f e) : FnOK P f := by
  unfold EntOK at h
  split at h
  · obtain ⟨fn, c, h1, h2, h3, _⟩ := h; exact ⟨fn, h1, h2, by rw [h3]; rfl⟩
  · obtain ⟨fn, c, h1, h2, h3, _⟩ := h; exact ⟨fn, h1, h2, by rw [h3]; rfl⟩
  · obtain ⟨fn, i, o, rc, c, h1, h2, h3, _⟩ := h; exact ⟨fn, h1, h2, by rw [h3]; rfl⟩

def KOK (T : Nat → Option Ent) (X : Nat → List AV → Option AV) (K : Ctx) : Prop :=
  (∀ f e, T f = some e → EntOK K.P f e) ∧ K.P.follows .mixedOrders = true ∧ (∀ w w', K.G w → Below w.heap.size w w' → K.G w') ∧ ∀ f args r, X f args = some r → Holds K.P K.G f args r

def Right (T : Nat → Option Ent) (X : Nat → List AV → Option AV) : Task → Out → Prop
  | .code r m s σ, .ex e σ' => ∀ K F Q, KOK T X K → F.n = m → (r = true → F.r = none ∧ F.tl.isSome = true) → Q e σ' → sem K F s σ Q
  | .list r m l σ, .ex e σ' => ∀ K F Q, KOK T X K → F.n = m → (r = true → F.r = none ∧ F.tl.isSome = true) → Q e σ' → semL K F l σ Q
  | .call f args μ, .en e μ' => ∀ K, KOK T X K → ACalls K f args μ fun ae ν => ae = e ∧ ν = μ'
  | .yld id args μ, .en e μ' => ∀ K, KOK T X K → YCalls K id args μ fun ae ν => ae = e ∧ ν = μ'
  | .mrun l env sl j μ, .mr env' sl' => ∀ K, KOK T X K → ∃ xs, MRun K μ j l env sl xs env' sl'
  | _, _ => False

theorem gc_sound {K : Ctx} {f : Nat} {args : List AV} {μ ν : List AObj} {x : AV} (h : ACalls K f args μ fun ae ν' => ae = .ret x ∧ ν' = ν) : ACalls K f args μ fun ae ν' => ae = .ret x ∧ ν' = gcA μ.length x ν := by
  unfold gcA
  split
  · rename_i hc
    obtain ⟨c1, c2, c3⟩ := hc
    refine ⟨h.1, fun ρ S w vs hm hl hv => (h.2 ρ S w vs hm hl hv).mono ?_⟩
    rintro e w' ⟨ae, μ', ρ', S', ⟨rfl, rfl⟩, h2, h3, h4⟩
    refine ⟨.ret x, μ'.take μ.length, ρ', S', ⟨rfl, rfl⟩, ?_, h3.take c1 c3, h4.sub, h4.blk, fun id o ho => ?_, h4.size, h4.col, fun b hlt b1 b2 => let ⟨a1, a2, a3⟩ := h4.fr b hlt b1 b2; ⟨a1, a2, a3.take⟩⟩
    · cases e <;> simp only [EndRel] at h2 ⊢
      exact h2.take c2
    · obtain ⟨o', o1, o2⟩ := h4.obj id o ho
      have := (List.getElem?_eq_some_iff.1 ho).1
      exact ⟨o', by rw [List.getElem?_take, if_pos this]; exact o1, o2⟩
  · exact h

theorem holds_of_ev {T : Nat → Option Ent} {X : Nat → List AV → Option AV} {P : Program} {G : World → Prop} {f : Nat} {args : List AV} {x t : AV} {ν : List AObj} (hK : ∀ K : Ctx, K.P = P → K.G = G → KOK T X K) (hG : ∀ w w', G w → Below w.heap.size w w' → G w')
    (h : ∀ K, KOK T X K → ACalls K f args [] fun ae μ => ae = .ret x ∧ μ = ν) (hf : FnOK P f) (hx : Tree ν x t) : Holds P G f args t := by
  refine ⟨hf, fun w vs S hGw hS hl hv => ?_⟩
  let K : Ctx := ⟨P, w, S, G, fun w' hb => hG w w' hGw hb⟩
  have ha := h K (hK K rfl rfl)
  have hm : RepMu K (fun _ => none) S [] w := ⟨Below.refl _ _, hS, fun b hb _ => hb, by simp, by simp⟩
  refine (ha.2 (fun _ => none) S w vs hm hl (fun i x v a b => .t (hv i x v a b))).mono ?_
  rintro e w' ⟨ae, μ', ρ', S', ⟨rfl, rfl⟩, h2, h3, h4⟩
  cases e <;> simp only [EndRel] at h2
  refine ⟨_, fun b => S' b ∨ (w.heap.size ≤ b ∧ b < w'.heap.size), rfl, h3.below, fun b hb => .inl (h4.sub b hb), ?_, ?_, tree_sound h3 _ (fun b hb => .inl hb) (fun b h1 h2 => .inr ⟨h1, h2⟩) hx h2⟩
  · rintro b (hb | hb)
    · exact h3.st b hb
    · exact hb.2
  · rintro b (hb | hb) hlt
    · exact h3.own b hb hlt
    · omega

theorem behind_inv {o : Option Out} {env : List (Nat × AV)} {k : AV → List AObj → Option Out} {r : Out} (h : behind o env k = some r) :
    (∃ x μ, o = some (.en (.ret x) μ) ∧ k x μ = some r) ∨ ∃ x μ, o = some (.en (.panic x) μ) ∧ r = .ex (.panic x) ⟨env, μ⟩ := by
  unfold behind at h
  split at h
  · exact .inl ⟨_, _, rfl, h⟩
  · cases h; exact .inr ⟨_, _, rfl, rfl⟩
  · cases h

theorem rbox {K : Ctx} {μ : List AObj} {j : Nat} {sl sl' : List SlotR} {env env' : List (Nat × AV)} {d e : Nat} {y : SX} {g : Option (Nat × Bool)} {l : List SOper} {xs : List AV} (hg : wantA g env = some true) (hall : (cellsOf (evX env y)).all (okCell μ) = true)
    (hr : refL μ.length (cellsOf (evX env y)) = true)
    (h : MRun K μ (j + 1) l ((d, .ptr (μ.length + sl.length) 0 (cellsOf (evX env y)).length 0 0) :: env) (sl ++ [⟨j, d, .row e 0 (cellsOf (evX env y)).length [cellsOf (evX env y)], none⟩]) xs env' sl') :
    ∃ xs, MRun K μ j (⟨some d, g, .box e y⟩ :: l) env sl xs env' sl' := by
  refine ⟨_ :: xs, .al (h := .pt (cellsOf (evX env y)).length) hg (fun es => ?_) (by simp [refO, hr]) h⟩
  have hall' : (cellsOf (evX env y)).all (okCell (μ ++ es)) = true := List.all_eq_true.2 fun c hc => okCell_mono (List.all_eq_true.1 hall c hc)
  show boxA e (evX env y) (μ ++ es) = _
  unfold boxA
  rw [if_pos hall', List.length_append]; rfl

theorem rbldS {K : Ctx} {μ : List AObj} {j : Nat} {sl sl' : List SlotR} {env env' : List (Nat × AV)} {d e sz n : Nat} {zero cs : List AV} {ps : List (Nat × Nat × SX)} {g : Option (Nat × Bool)} {l : List SOper} {xs : List AV} (hb : bldA μ zero (evParts env ps) = some cs) (hg : wantA g env = some true)
    (hr : (chunks sz n cs).all (refL μ.length) = true) (h : MRun K μ (j + 1) l ((d, .hsl (μ.length + sl.length) 0 sz n) :: env) (sl ++ [⟨j, d, .row e 0 sz (chunks sz n cs), none⟩]) xs env' sl') :
    ∃ xs, MRun K μ j (⟨some d, g, .bldS e sz n zero ps⟩ :: l) env sl xs env' sl' := by
  refine ⟨_ :: xs, .al (h := .sl sz n) (o := .row e 0 sz (chunks sz n cs)) hg (fun es => ?_) hr h⟩
  simp only [sopA, bldA_mono hb, Option.map_some, List.length_append, HS.at]

theorem flat_tree : ∀ {x : AV}, flatA x = true → treeA x = true := by
  intro x
  induction x using AV.rec (motive_2 := fun l => flatL l = true → treeL l = true) with
  | agg cs ih => intro h; simp only [flatA] at h; simp only [treeA]; exact ih h
  | tup cs ih => intro h; simp only [flatA] at h; simp only [treeA]; exact ih h
  | iface t x ih => intro h; simp only [flatA] at h; simp only [treeA]; exact ih h
  | nil => rfl
  | cons a b iha ihb =>
    rename_i h
    simp only [flatL, Bool.and_eq_true] at h
    simp only [treeL, Bool.and_eq_true]
    exact ⟨iha h.1, ihb h.2⟩
  | _ => intro h; first | rfl | (simp [flatA] at h)

section sound
variable {T : Nat → Option Ent} {X : Nat → List AV → Option AV} {K : Ctx} {F : Fcx} {Q : AExit → St → Prop} {rec : Task → Option Out}

/-- Behind a call, for the list's soundness. -/
theorem after_sound {σ : St} {d : Option Nat} {l : List SOper} {e : AExit} {σ' : St} {ae : AEnd} {ν : List AObj} {k : AV → List AObj → Option Out} {o : Option Out}
    (ho : o = some (.en ae ν)) (h : behind o σ.env k = some (.ex e σ')) (hQ : Q e σ') (hrest : ∀ x, ae = .ret x → k x ν = some (.ex e σ') → semL K F l ⟨putE σ.env d x, ν⟩ Q) : afterCall K F d l σ Q ae ν := by
  rcases behind_inv h with ⟨x, μ, h1, h2⟩ | ⟨x, μ, h1, h2⟩
  · rw [ho] at h1; cases h1
    exact semL_env (τ := ⟨putE σ.env d x, ν⟩) (fun u => putE_get σ d x ν u) rfl (hrest x rfl h2)
  · rw [ho] at h1; cases h1
    cases h2
    exact hQ

variable (IH : ∀ t o, rec t = some o → Right T X t o)
include IH

theorem evList_sound {r : Bool} {m : Nat} {l : List SOper} {σ : St} {o : Out} (hyl : ∀ id args μ o, rec (.yld id args μ) = some o → ∃ c st e, μ[id]? = some (.loop c st e)) (h : evList rec r m l σ = some o) : Right T X (.list r m l σ) o := by
  cases l with
  | nil => simp only [evList, Option.some.injEq] at h; subst h; exact fun K F Q _ _ _ hq => semL_nil hq
  | cons s l =>
    simp only [evList] at h
    split at h
    · rename_i hw
      have h1 := IH _ _ h
      cases o <;> simp only [Right] at h1 ⊢
      exact fun K F Q a b c d => semL_no hw (semL_env (τ := ⟨putE σ.env s.dst (.tup []), σ.mu⟩) (fun u => putE_get σ s.dst (.tup []) σ.mu u) rfl (h1 K F Q a b c d))
    · rename_i hw
      unfold evOp at h
      split at h
      · rename_i id g sz cs hfr
        have h1 := IH _ _ h
        cases o <;> simp only [Right] at h1 ⊢
        unfold frzAt at hfr
        split at hfr
        · split at hfr
          · split at hfr
            · rename_i hμ
              split at hfr
              · rename_i ht
                cases hfr
                exact fun K F Q a b c d => semL_frzbox (env := σ.env) (μ := σ.mu) _ hμ ht (h1 K F Q a b c d)
              · cases hfr
            · cases hfr
          · cases hfr
        · cases hfr
      · obtain ⟨dst, g, op⟩ := s
        split at h
        · rename_i t ht
          have calls : ∀ (e : AExit) (σ' : St), o = .ex e σ' → ∀ K F Q, KOK T X K → F.n = m → (r = true → F.r = none ∧ F.tl.isSome = true) → Q e σ' →
              ∀ ae ν, rec t = some (.en ae ν) → afterCall K F dst l σ Q ae ν := by
            intro e σ' ho K F Q a b c d ae ν hres
            subst ho
            refine after_sound hres h d fun x hx hk => ?_
            exact IH _ _ hk K F Q a b c d
          have outs : (∃ e σ', o = .ex e σ') ∧ ∃ ae ν, rec t = some (.en ae ν) := by
            rcases behind_inv h with ⟨x, μ, q1, q2⟩ | ⟨x, μ, q1, q2⟩
            · have := IH _ _ q2
              cases o <;> simp only [Right] at this
              exact ⟨⟨_, _, rfl⟩, _, _, q1⟩
            · subst q2; exact ⟨⟨_, _, rfl⟩, _, _, q1⟩
          obtain ⟨⟨e, σ', rfl⟩, ae, ν, hres⟩ := outs
          have hc := IH _ _ hres
          unfold taskOf at ht
          split at ht
          · rename_i f args hcl
            cases ht
            simp only [Right] at hc
            intro K F Q a b c d
            exact semL_callee hw hcl (hc K a) fun ae' ν' hr => by obtain ⟨rfl, rfl⟩ := hr; exact calls _ _ rfl K F Q a b c d _ _ hres
          · split at ht
            · rename_i y args hop'
              split at ht
              · rename_i id hy
                cases ht
                simp only [Right] at hc
                simp only at hop' hw
                subst hop'
                intro K F Q a b c d
                obtain ⟨c0, st, e0, hμ⟩ := hyl _ _ _ _ hres
                exact semL_yield hw hy hμ (hc K a) fun ae' ν' hr => by obtain ⟨rfl, rfl⟩ := hr; exact calls _ _ rfl K F Q a b c d _ _ hres
              · cases ht
            · cases ht
        · split at h
          · rename_i x ν hs
            have h1 := IH _ _ h
            cases o <;> simp only [Right] at h1 ⊢
            exact fun K F Q a b c d => semL_op (s := ⟨dst, g, op⟩) hw hs (semL_env (τ := ⟨putE σ.env dst x, ν⟩) (fun u => putE_get σ dst x ν u) rfl (h1 K F Q a b c d))
          · split at h
            · rename_i y hop'
              split at h
              · rename_i t z hz
                cases h
                simp only at hop' hw
                subst hop'
                exact fun K F Q a b c d => semL_pan hw hz d
              · cases h
            · cases h
    · cases h

theorem evFrz_sound {r : Bool} {m : Nat} {s : SCode} {σ : St} {o : Out} {c : Option (Nat × Nat × Nat × List (List AV))} (hc : ∀ id g sz es, c = some (id, g, sz, es) → ∃ e, σ.mu[id]? = some (.row e g sz es) ∧ es.all treeL = true) (h : evFrz rec r m s σ c = some o) : Right T X (.code r m s σ) o := by
  unfold evFrz at h
  split at h
  · rename_i id g sz es
    obtain ⟨e, hμ, hall⟩ := hc _ _ _ _ rfl
    have h2 := IH _ _ h
    cases o <;> simp only [Right] at h2 ⊢
    exact fun K F Q a b c d => sem_frz (σ := σ) id es.length _ hμ rfl (fun i cs hi => by simp [List.getD, hi]) (fun i cs hi => List.all_eq_true.1 hall cs (List.mem_of_getElem? hi)) (h2 K F Q a b c d)
  · cases h

theorem evDreg_sound {r : Bool} {m k : Nat} {l : List SOper} {pre : List (List Nat)} {σ : St} {o : Out} (h : evDreg rec r m l pre k σ = some o) : Right T X (.code r m (.dreg l pre) σ) o := by
  unfold evDreg at h
  split at h
  · rename_i hok
    split at h
    · rename_i env' sl' hm
      have h1 := IH _ _ hm
      have h2 := IH _ _ h
      cases o <;> simp only [Right] at h1 h2 ⊢
      refine fun K F Q a b c d => ?_
      obtain ⟨xs, hrun⟩ := h1 K a
      exact sem_mgo (μ := σ.mu) (env := σ.env) _ a.2.1 hok ⟨xs, env', sl', hrun, h2 K F Q a b c d⟩
    · split at h
      · rename_i c hcand
        refine evFrz_sound IH (fun id g sz es e => ?_) h
        cases e
        unfold frzSl at hcand
        split at hcand
        · exact frzPick_sound hcand
        · cases hcand
      · split at h
        · rename_i p hidx
          unfold evEff at h
          split at h
          · rename_i envp slp hm1
            split at h
            · rename_i f args hcl
              split at h
              · rename_i x ν hcall
                split at h
                · rename_i hcond
                  obtain ⟨q1, q2, q3, q4, q5⟩ := hcond
                  split at h
                  · rename_i env' sl' hm2
                    split at h
                    · rename_i hst
                      have h1 := IH _ _ hm1
                      have h2 := IH _ _ hm2
                      have h3 := IH _ _ hcall
                      have h4 := IH _ _ h
                      cases o <;> simp only [Right] at h1 h2 h3 h4 ⊢
                      refine fun K F Q a b c d => ?_
                      obtain ⟨xs, hr1⟩ := h1 K a
                      obtain ⟨xs', hr2⟩ := h2 K a
                      exact sem_effgo (μ := σ.mu) (env := σ.env) _ p a.2.1 hok q5 q3 q1 hr1 hcl q2 q4 (h3 K a) hr2 hst (h4 K F Q a b c d)
                    · cases h
                  · cases h
                · cases h
              · cases h
            · cases h
          · cases h
        · exact evFrz_sound IH (fun id g sz es e => frzPick_sound (by unfold frzCand at e; exact e)) h
  · cases h

theorem evRng_sound {m : Nat} {x : SX} {ps : List Nat} {sa sb : SCode} {σ : St} {o : Out} (h : evRng rec m x ps sa sb σ = some o) : Right T X (.code true m (.rng x ps sa sb) σ) o := by
  unfold evRng at h
  split at h
  · rename_i gf ca hx
    split at h
    · rename_i y μ' h1
      have h1 := IH _ _ h1
      simp only [Right] at h1
      have go : ∀ K F Q, KOK T X K → F.n = m → (true = true → F.r = none ∧ F.tl.isSome = true) → rngQ σ.env σ.mu.length Q (.ret y) μ' → sem K F (.rng x ps sa sb) σ Q := fun K F Q a b c d =>
        sem_rng (c rfl).1 hx (fun _ => by rw [b]; exact h1 K a) (fun ae μ hr => by obtain ⟨rfl, rfl⟩ := hr; exact d) (c rfl).2
      split at h
      · rename_i c1 e1 hμ
        cases h
        exact fun K F Q a b c d => go K F Q a b c ⟨c1, .ready, e1, hμ, d⟩
      · rename_i c1 e1 hμ
        cases h
        exact fun K F Q a b c d => go K F Q a b c ⟨c1, .done .ret, e1, hμ, .inl ⟨rfl, d⟩⟩
      · rename_i c1 k e1 hμ
        cases h
        exact fun K F Q a b c d => go K F Q a b c ⟨c1, .done (.exit k), e1, hμ, .inr ⟨k, rfl, d⟩⟩
      · cases h
    · cases h
  · cases h

theorem retTree_holds {f : Nat} {ts : List AV} {t : AV} {K : Ctx} (hK : KOK T X K) (hrt : retTree (rec (.call f ts [])) = some t) : Holds K.P K.G f ts t := by
  unfold retTree at hrt
  split at hrt
  · rename_i x ν hev
    have hc := IH _ _ hev
    simp only [Right] at hc
    exact holds_of_ev (T := T) (X := X) (fun K' hP hG => ⟨fun f e he => by rw [hP]; exact hK.1 f e he, by rw [hP]; exact hK.2.1, by rw [hG]; exact hK.2.2.1, by rw [hP, hG]; exact hK.2.2.2⟩) hK.2.2.1 hc (hc K hK).1 (treeOf_sound 40 _ _ hrt)
  · cases hrt

theorem callT_sound {f : Nat} {as : List AV} {μ : List AObj} {x : AV} (h : callT rec f as μ = some x) (K : Ctx) (hK : KOK T X K) (es : List AObj) : ACalls K f as (μ ++ es) fun ae ν => ae = .ret x ∧ ν = μ ++ es := by
  unfold callT at h
  cases ht : treeL as with
  | true =>
    rw [ht] at h
    exact ACalls.of_holds (retTree_holds IH hK h) ht
  | false =>
    rw [ht] at h
    simp only [cond_false] at h
    split at h
    · rename_i ts hts
      split at h
      · rename_i t hrt
        cases hf : flatA t with
        | true =>
          rw [hf] at h
          cases h
          obtain ⟨m1, m2⟩ := mapO_get hts
          exact ACalls.of_lend (ts := ts) (retTree_holds IH hK hrt) m1 (fun i c t a b => (treeOf_sound 40 _ _ (m2 i c t a b)).mono) hf
        | false => rw [hf] at h; cases h
      · cases h
    · cases h

theorem evV_sound {μ : List AObj} {s : SOper} {env : List (Nat × AV)} {x : AV} (h : evV rec μ s env = some x) (K : Ctx) (hK : KOK T X K) : QOp K s env μ x := by
  unfold evV at h
  split at h
  · rename_i hw; cases h; exact .inr (.inl ⟨hw, rfl⟩)
  · rename_i hw
    cases hq : quietK s.op with
    | true =>
      rw [hq] at h
      simp only [cond_true, Option.map_eq_some_iff] at h
      obtain ⟨⟨x', μ'⟩, hs, rfl⟩ := h
      exact .inl ⟨hw, hq, by have := faA_same hq hs; rw [this] at hs; exact hs⟩
    | false =>
      rw [hq] at h
      simp only [cond_false] at h
      split at h
      · rename_i f as hcl; exact .inr (.inr ⟨hw, f, as, hcl, callT_sound IH h K hK⟩)
      · cases h
  · cases h

theorem evQ_sound {μ : List AObj} (K : Ctx) (hK : KOK T X K) : ∀ (l : List SOper) (env env' : List (Nat × AV)), evQ rec μ l env = some env' → ∃ xs, QRun K μ l env none xs env'
  | [], env, env', h => by simp only [evQ, Option.some.injEq] at h; subst h; exact ⟨[], .nil⟩
  | s :: l, env, env', h => by
    simp only [evQ] at h
    split at h
    · rename_i x hx
      obtain ⟨xs, hr⟩ := evQ_sound K hK l _ _ h
      exact ⟨_, .op (evV_sound IH hx K hK) hr⟩
    · cases h

theorem evOne_sound {op : SOp} {env : List (Nat × AV)} {μ ν : List AObj} {x : AV} (h : evOne rec op env μ = some (x, ν)) (K : Ctx) (hK : KOK T X K) :
    sopA op env μ = some (x, ν) ∨ ∃ f args, callee op env = some (f, args) ∧ ACalls K f args μ fun ae ν' => ae = .ret x ∧ ν' = ν := by
  unfold evOne at h
  split at h
  · rename_i r hr; cases h; exact .inl hr
  · split at h
    · rename_i f args hcl
      split at h
      · rename_i x' ν' hev
        cases h
        have := IH _ _ hev
        simp only [Right] at this
        exact .inr ⟨f, args, hcl, this K hK⟩
      · cases h
    · cases h

omit IH in
theorem same2_inv {fr : Bool} {a b : Option AV} {x : AV} (h : same2 fr a b = some x) : a = some x ∧ ∃ y, b = some y ∧ (fr = true ∨ y = x) := by
  unfold same2 at h
  split at h
  · rename_i x' y
    cases hc : fr || beqA x' y with
    | false => rw [hc] at h; cases h
    | true =>
      rw [hc] at h
      cases h
      refine ⟨rfl, y, rfl, ?_⟩
      rcases Bool.or_eq_true_iff.1 hc with h1 | h1
      · exact .inl h1
      · exact .inr (beqA_eq h1).symm
  · cases h

/-- The pass comes to runs on either side. -/
theorem evPass_sound {l : List SOper} {pre : List (List Nat)} {p : Nat} {μ ν : List AObj} {x : AV} (R : Nat → AV) (K : Ctx) (hK : KOK T X K) : ∀ (n a : Nat) (env env' : List (Nat × AV)) (xs : List AV), evPass rec μ ν x (clsL l pre p a n) env = some (xs, env') →
    (∀ i, i < n → xs.getD i .dead = R (a + i)) → QRun K μ (fkL (fkA l pre p R) a n) env none xs env' ∧ QRun K ν (fkL (fkB l pre p R) a n) env none xs env'
  | 0, a, env, env', xs, h, hR => by
    simp only [clsL, List.range'_zero, List.map_nil, evPass, Option.some.injEq, Prod.mk.injEq] at h
    obtain ⟨rfl, rfl⟩ := h
    exact ⟨.nil, .nil⟩
  | n + 1, a, env, env', xs, h, hR => by
    simp only [clsL, List.range'_succ, List.map_cons, evPass] at h
    split at h
    · rename_i y hy
      split at h
      · rename_i ys e2 hys
        simp only [Option.some.injEq, Prod.mk.injEq] at h
        obtain ⟨rfl, rfl⟩ := h
        obtain ⟨r1, r2⟩ := evPass_sound R K hK n (a + 1) _ _ _ hys (fun i hi => by
          have := hR (i + 1) (by omega)
          rw [show a + (i + 1) = a + 1 + i by omega] at this
          simpa using this)
        have hRa : R a = y := by have := hR 0 (by omega); simpa using this.symm
        have con : ∀ β, QOp K ⟨(opAt l a).dst, none, .mv (.c (R a))⟩ env β y := fun β => .inl ⟨rfl, rfl, by rw [hRa]; rfl⟩
        have dA : (fkA l pre p R a).dst = (opAt l a).dst := by unfold fkA; split <;> rfl
        have dB : (fkB l pre p R a).dst = (opAt l a).dst := by unfold fkB; split <;> rfl
        have key : (a = p ∨ bef pre p a = true ∨ QOp K (opAt l a) env μ y) ∧ (a = p ∨ bef pre a p = true ∨ QOp K (opAt l a) env ν y) := by
          unfold evCls at hy
          split at hy
          · rename_i hk
            have hb : bef pre a p = true := by
              unfold clsOf at hk
              cases h1 : Nat.beq a p <;> rw [h1] at hk
              · cases h2 : bef pre a p <;> rw [h2] at hk
                · cases h3 : bef pre p a <;> rw [h3] at hk <;> cases hk
              · cases hk
            exact ⟨.inr (.inr (evV_sound IH hy K hK)), .inr (.inl hb)⟩
          · rename_i hk
            have hb : bef pre p a = true := by
              unfold clsOf at hk
              cases h1 : Nat.beq a p <;> rw [h1] at hk
              · cases h2 : bef pre a p <;> rw [h2] at hk
                · cases h3 : bef pre p a <;> rw [h3] at hk
                  · cases hk
                · cases hk
              · cases hk
            exact ⟨.inr (.inl hb), .inr (.inr (evV_sound IH hy K hK))⟩
          · rename_i hk
            have hb : a = p := by
              unfold clsOf at hk
              cases h1 : Nat.beq a p <;> rw [h1] at hk
              · cases h2 : bef pre a p <;> rw [h2] at hk
                · cases h3 : bef pre p a <;> rw [h3] at hk <;> cases hk
                · cases hk
              · exact Nat.eq_of_beq_eq_true h1
            exact ⟨.inl hb, .inl hb⟩
          · obtain ⟨q1, z, q2, q3⟩ := same2_inv hy
            have s1 := evV_sound IH q1 K hK
            have s2 := evV_sound IH q2 K hK
            refine ⟨.inr (.inr s1), .inr (.inr ?_)⟩
            rcases q3 with hf | rfl
            · rcases s1 with ⟨w1, w2, w3⟩ | ⟨w1, w2⟩ | ⟨w1, f, as, w2, w3⟩
              · exact .inl ⟨w1, w2, free_any hf w3⟩
              · exact .inr (.inl ⟨w1, w2⟩)
              · exact (free_callee hf w2).elim
            · exact s2
        refine ⟨?_, ?_⟩
        · unfold fkL
          rw [List.range'_succ, List.map_cons]
          refine .op ?_ (by rw [dA]; exact r1)
          unfold fkA
          split
          · exact con μ
          · rename_i hn
            rcases key.1 with h1 | h1 | h1
            · exact absurd (.inl h1) hn
            · exact absurd (.inr h1) hn
            · exact h1
        · unfold fkL
          rw [List.range'_succ, List.map_cons]
          refine .op ?_ (by rw [dB]; exact r2)
          unfold fkB
          split
          · exact con ν
          · rename_i hn
            rcases key.2 with h1 | h1 | h1
            · exact absurd (.inl h1) hn
            · exact absurd (.inr h1) hn
            · exact h1
      · cases h
    · cases h

omit IH in
theorem evPass_evQ {μ ν : List AObj} {x : AV} : ∀ (L : List (Nat × SOper)) (env env' : List (Nat × AV)) (xs : List AV), (L.all fun q => Nat.beq q.1 0 || Nat.beq q.1 2) = true → evPass rec μ ν x L env = some (xs, env') → evQ rec μ (L.map (·.2)) env = some env'
  | [], env, env', xs, _, h => by simp only [evPass, Option.some.injEq, Prod.mk.injEq] at h; simp [evQ, h.2]
  | (k, s) :: L, env, env', xs, hc, h => by
    simp only [List.all_cons, Bool.and_eq_true] at hc
    simp only [evPass] at h
    split at h
    · rename_i y hy
      split at h
      · rename_i ys e2 hys
        simp only [Option.some.injEq, Prod.mk.injEq] at h
        obtain ⟨rfl, rfl⟩ := h
        have := evPass_evQ L _ _ _ hc.2 hys
        have hv : evV rec μ s env = some y := by
          rcases Bool.or_eq_true_iff.1 hc.1 with h1 | h1
          · have : k = 0 := Nat.eq_of_beq_eq_true h1
            subst this
            exact hy
          · have : k = 2 := Nat.eq_of_beq_eq_true h1
            subst this
            exact (same2_inv hy).1
        simp only [List.map_cons, evQ, hv]
        exact this
      · cases h
    · cases h

omit IH in
theorem evPass_len {μ ν : List AObj} {x : AV} : ∀ (L : List (Nat × SOper)) (env env' : List (Nat × AV)) (xs : List AV), evPass rec μ ν x L env = some (xs, env') → xs.length = L.length
  | [], env, env', xs, h => by simp only [evPass, Option.some.injEq, Prod.mk.injEq] at h; simp [← h.1]
  | (k, s) :: L, env, env', xs, h => by
    simp only [evPass] at h
    split at h
    · split at h
      · rename_i ys e2 hys
        simp only [Option.some.injEq, Prod.mk.injEq] at h
        rw [← h.1]
        simp [evPass_len L _ _ _ hys]
      · cases h
    · cases h

theorem evEff2_sound {l : List SOper} {pre : List (List Nat)} {c d : Nat} {σ σ' : St} {q : Option Nat} (h : evEff2 rec l pre c d σ q = some σ') (K : Ctx) (F : Fcx) (Q : AExit → St → Prop) (hK : KOK T X K) (hok : winOK l pre c d = true)
    (hn : AnyC K F Q l pre d σ') : AnyC K F Q l pre c σ := by
  unfold evEff2 at h
  split at h
  · cases h
  · rename_i p
    split at h
    · rename_i hc
      obtain ⟨hcp, hpd, hall⟩ := hc
      split at h
      · rename_i envp hqp
        cases hg : isTrue (wantA (opAt l p).guard envp) with
        | false => rw [hg] at h; cases h
        | true =>
          rw [hg] at h
          simp only [cond_true] at h
          have hg' : wantA (opAt l p).guard envp = some true := by
            unfold isTrue at hg
            split at hg
            · rename_i b hb; rw [hb, hg]
            · cases hg
          split at h
          · rename_i x ν ho
            split at h
            · rename_i xa ep h1
              simp only [Option.map_eq_some_iff] at h
              obtain ⟨⟨xb, env'⟩, h2, rfl⟩ := h
              have he := evPass_evQ _ _ _ _ hall h1
              rw [hqp] at he
              cases he
              obtain ⟨R, hR⟩ : ∃ R : Nat → AV, R = fun i => (xa ++ xb).getD (i - c) .dead := ⟨_, rfl⟩
              have la := evPass_len _ _ _ _ h1
              have lb := evPass_len _ _ _ _ h2
              simp only [clsL, List.length_map, List.length_range'] at la lb
              have ra : ∀ i, i < p - c → xa.getD i .dead = R (c + i) := fun i hi => by
                rw [hR]
                simp only [List.getD_eq_getElem?_getD, Nat.add_sub_cancel_left]
                rw [List.getElem?_append_left (show i < xa.length by omega)]
              have rb : ∀ i, i < d - p → xb.getD i .dead = R (p + i) := fun i hi => by
                rw [hR]
                simp only [List.getD_eq_getElem?_getD]
                rw [List.getElem?_append_right (show xa.length ≤ p + i - c by omega), show p + i - c - xa.length = i by omega]
              obtain ⟨a1, a2⟩ := evPass_sound IH R K hK _ _ _ _ _ h1 ra
              obtain ⟨b1, b2⟩ := evPass_sound IH R K hK _ _ _ _ _ h2 rb
              have hx : R p = x := by
                have h3 := rb 0 (by omega)
                simp only [Nat.add_zero] at h3
                rw [← h3]
                obtain ⟨k, hk⟩ : ∃ k, d - p = k + 1 := ⟨d - p - 1, by omega⟩
                rw [hk] at h2
                simp only [clsL, List.range'_succ, List.map_cons, evPass] at h2
                split at h2
                · rename_i y hy
                  have hc3 : clsOf pre p p = 3 := by unfold clsOf; simp
                  rw [hc3] at hy
                  simp only [evCls, Option.some.injEq] at hy
                  split at h2
                  · simp only [Option.some.injEq, Prod.mk.injEq] at h2
                    rw [← h2.1, ← hy]; rfl
                  · cases h2
                · cases h2
              have hjoin : fkL (fkB l pre p R) c (p - c) ++ fkL (fkB l pre p R) p (d - p) = fkL (fkB l pre p R) c (d - c) := by
                unfold fkL
                rw [← List.map_append]
                congr 1
                have := List.range'_append_1 (s := c) (m := p - c) (n := d - p)
                rw [show c + (p - c) = p by omega, show p - c + (d - p) = d - c by omega] at this
                exact this
              have hcv := a2.append b2
              rw [hjoin] at hcv
              refine any_eff2 (env := σ.env) (μ := σ.mu) c d p R hok hcp hpd a1 b1 hcv ra rb (fun i hi => ?_) hg' (by rw [hx]; exact evOne_sound IH ho K hK) hn
              rw [hR]
              simp
            · cases h
          · cases h
      · cases h
    · cases h

omit IH in
theorem quiet_callee {op : SOp} {env : List (Nat × AV)} {q : Nat × List AV} (h : quietK op = true) (h2 : callee op env = some q) : False := by
  cases op <;> simp only [callee, reduceCtorEq] at h2 <;> simp only [quietK, Bool.false_eq_true] at h
omit IH in
theorem evV_float {s : SOper} {env : List (Nat × AV)} {x : AV} {μ : List AObj} (h : evV rec μ s env = some x) (hf : floatS s env = true) (β : List AObj) : evV rec β s env = some x := by
  have hct : ∀ (f : Nat) (as : List AV), treeL as = true → callT rec f as β = callT rec f as μ := fun f as ht => by unfold callT; simp only [ht, cond_true]
  unfold floatS at hf
  unfold evV at h ⊢
  generalize wantA s.guard env = g at *
  match g with
  | none => cases h
  | some false => exact h
  | some true =>
    simp only at h hf ⊢
    cases hk : freeK s.op with
    | true =>
      cases hq : quietK s.op with
      | true =>
        rw [hq] at h
        simp only [cond_true, Option.map_eq_some_iff] at h ⊢
        obtain ⟨⟨x', μ'⟩, hs, rfl⟩ := h
        have e := faA_same hq hs
        subst e
        exact ⟨(x', β), free_any hk hs, rfl⟩
      | false =>
        rw [hq] at h
        simp only [cond_false] at h
        cases hcl : callee s.op env with
        | none => rw [hcl] at h; cases h
        | some q => exact (free_callee hk hcl).elim
    | false =>
      rw [hk] at hf
      simp only [cond_false] at hf
      cases hcl : callee s.op env with
      | none => rw [hcl] at hf; cases hf
      | some q =>
        obtain ⟨f, as⟩ := q
        rw [hcl] at hf h
        simp only at hf h ⊢
        cases hq : quietK s.op with
        | true => exact (quiet_callee hq hcl).elim
        | false =>
          rw [hq] at h
          simp only [cond_false] at h ⊢
          rw [hct _ _ hf]; exact h
theorem evP1_sound {l : List SOper} {c : Nat} {R : Nat → AV} {env0 : List (Nat × AV)} (K : Ctx) (hK : KOK T X K) : ∀ (n a : Nat) (env : List (Nat × AV)) (μ : List AObj) (xs : List AV) (ps : List Nat) (ν : List (List AObj)) (e : List (Nat × AV)), c ≤ a →
    evP1 T rec l (List.range' a n) env μ = some (xs, ps, ν, e) → env = envAt (befN l c) R env0 a → (∀ t, t < n → xs.getD t .dead = R (a + t)) →
    xs.length = n ∧ e = envAt (befN l c) R env0 (a + n) ∧ ν.length = ps.length ∧
      (∀ k, k < ps.length → EOp K (opAt l (ps.getD k 0)) (envAt (befN l c) R env0 (ps.getD k 0)) ((μ :: ν).getD k []) (R (ps.getD k 0)) (ν.getD k [])) ∧
      (∀ i, a ≤ i → i < a + n → i ∉ ps → ∃ β, evV rec β (opAt l i) (envAt (befN l c) R env0 i) = some (R i)) ∧ ∀ p ∈ ps, a ≤ p
  | 0, a, env, μ, xs, ps, ν, e, hc, h, he, hR => by
    simp only [List.range'_zero, evP1, Option.some.injEq, Prod.mk.injEq] at h
    obtain ⟨rfl, rfl, rfl, rfl⟩ := h
    exact ⟨rfl, he, rfl, fun k hk => by simp at hk, fun i h1 h2 => by omega, fun p hp => by cases hp⟩
  | n + 1, a, env, μ, xs, ps, ν, e, hc, h, he, hR => by
    rw [List.range'_succ] at h
    simp only [evP1] at h
    have next : ∀ x, x = R a → pushE env (opAt l a).dst x = envAt (befN l c) R env0 (a + 1) := fun x hx => by
      show _ = pushE (envAt (befN l c) R env0 a) (opAt (befN l c) a).dst (R a)
      rw [befN_at, if_neg (by omega), he, hx]
    split at h
    · rename_i x hx0
      have hx : evV rec μ (opAt l a) env = some x := by
        cases hcal : calmS T (opAt l a) env with
        | true => rw [hcal] at hx0; exact hx0
        | false => rw [hcal] at hx0; cases hx0
      split at h
      · rename_i xs' ps' ν' e' h1
        cases h
        have hxa : x = R a := by have := hR 0 (by omega); simpa using this
        obtain ⟨g1, g2, g3, g4, g5, g6⟩ := evP1_sound K hK n (a + 1) _ μ xs' ps ν e (by omega) h1 (next x hxa) fun t ht => by
          have := hR (t + 1) (by omega)
          rw [show a + 1 + t = a + (t + 1) by omega, ← this]; simp
        refine ⟨by simp [g1], by rw [g2]; congr 1; omega, g3, g4, fun i h1 h2 h3 => ?_, fun p hp => by have := g6 p hp; omega⟩
        by_cases hia : i = a
        · subst hia
          exact ⟨μ, by rw [← he, ← hxa]; exact hx⟩
        · exact g5 i (by omega) (by omega) h3
      · cases h
    · clear next
      have next : ∀ x, x = R a → pushE env (opAt l a).dst x = envAt (befN l c) R env0 (a + 1) := fun x hx => by
        show _ = pushE (envAt (befN l c) R env0 a) (opAt (befN l c) a).dst (R a)
        rw [befN_at, if_neg (by omega), he, hx]
      cases hg : isTrue (wantA (opAt l a).guard env) with
      | false => rw [hg] at h; cases h
      | true =>
        rw [hg] at h
        simp only [cond_true] at h
        have hg' : wantA (opAt l a).guard env = some true := by
          unfold isTrue at hg
          split at hg
          · rename_i b hb; rw [hb, hg]
          · cases hg
        split at h
        · rename_i x μ1 hx
          split at h
          · rename_i xs' ps' ν' e' h1
            cases h
            have hxa : x = R a := by have := hR 0 (by omega); simpa using this
            obtain ⟨g1, g2, g3, g4, g5, g6⟩ := evP1_sound K hK n (a + 1) _ μ1 xs' ps' ν' e (by omega) h1 (next x hxa) fun t ht => by
              have := hR (t + 1) (by omega)
              rw [show a + 1 + t = a + (t + 1) by omega, ← this]; simp
            refine ⟨by simp [g1], by rw [g2]; congr 1; omega, by simp [g3], fun k hk => ?_, fun i h1 h2 h3 => ?_, fun p hp => ?_⟩
            · match k, hk with
              | 0, _ =>
                have q : EOp K (opAt l a) env μ x μ1 := ⟨hg', evOne_sound IH hx K hK⟩
                rw [he, hxa] at q
                exact q
              | k + 1, hk => exact g4 k (by simpa using hk)
            · refine g5 i ?_ (by omega) fun q => h3 (List.mem_cons_of_mem _ q)
              have : i ≠ a := fun q => h3 (q ▸ List.mem_cons_self)
              omega
            · rcases List.mem_cons.1 hp with rfl | hp
              · exact Nat.le_refl _
              · have := g6 p hp; omega
          · cases h
        · cases h
theorem evP2_sound {l : List SOper} {pre : List (List Nat)} {ps : List Nat} {ν : List (List AObj)} {c : Nat} {R : Nat → AV} {env0 : List (Nat × AV)} (K : Ctx) (hK : KOK T X K) : ∀ (n a : Nat) (env : List (Nat × AV)) (xs : List AV), c ≤ a →
    evP2 rec l pre ps ν (List.range' a n) env xs = true → env = envAt (befN l c) R env0 a → (∀ t, t < n → xs.getD t .dead = R (a + t)) → xs.length = n →
    ∀ i, a ≤ i → i < a + n → i ∉ ps → (∃ β, evV rec β (opAt l i) (envAt (befN l c) R env0 i) = some (R i)) → ∀ j, j ≤ ps.length → mayAt pre ps i j = true → QOp K (opAt l i) (envAt (befN l c) R env0 i) (ν.getD j []) (R i)
  | 0, a, env, xs, hc, h, he, hR, hl, i, h1, h2 => by omega
  | n + 1, a, env, [], hc, h, he, hR, hl, i, h1, h2 => by simp at hl
  | n + 1, a, env, x :: xs, hc, h, he, hR, hl, i, h1, h2 => by
    intro h3 h4 j hj hm
    rw [List.range'_succ] at h
    simp only [evP2, Bool.and_eq_true] at h
    obtain ⟨k1, k2⟩ := h
    have hxa : x = R a := by have := hR 0 (by omega); simpa using this
    by_cases hia : i = a
    · subst hia
      rw [← he, ← hxa] at h4 ⊢
      have hnc : ps.contains i = false := by rw [Bool.eq_false_iff]; intro q; exact h3 (by simpa using q)
      rw [hnc] at k1
      simp only [cond_false] at k1
      cases hf : floatS (opAt l i) env with
      | true =>
        obtain ⟨β, hβ⟩ := h4
        exact evV_sound IH (evV_float hβ hf _) K hK
      | false =>
        rw [hf] at k1
        simp only [cond_false, List.all_eq_true, List.mem_range] at k1
        have := k1 j (by omega)
        rw [hm] at this
        simp only [Bool.not_true, Bool.false_or, isV] at this
        split at this
        · rename_i y hy
          rw [beqA_eq this] at hy
          exact evV_sound IH hy K hK
        · cases this
    · refine evP2_sound K hK n (a + 1) _ xs (by omega) k2 ?_ (fun t ht => ?_) (by simpa using hl) i (by omega) (by omega) h3 h4 j hj hm
      · show _ = pushE (envAt (befN l c) R env0 a) (opAt (befN l c) a).dst (R a)
        rw [befN_at, if_neg (by omega), he, hxa]
      · have := hR (t + 1) (by omega)
        rw [show a + 1 + t = a + (t + 1) by omega, ← this]; simp
theorem evEffN_sound {l : List SOper} {pre : List (List Nat)} {c d : Nat} {σ σ' : St} (h : evEffN T rec l pre c d σ = some σ') (K : Ctx) (F : Fcx) (Q : AExit → St → Prop) (hK : KOK T X K) (hok : winOK l pre c d = true)
    (hn : AnyC K F Q l pre d σ') : AnyC K F Q l pre c σ := by
  have hcd : c ≤ d := by
    have := hok
    simp only [winOK, Bool.and_eq_true, decide_eq_true_eq] at this
    exact this.1.1.1.2
  unfold evEffN at h
  split at h
  · rename_i xs ps ν e h1
    cases hb : effsOK pre c d ps && evP2 rec l pre ps (σ.mu :: ν) (List.range' c (d - c)) σ.env xs with
    | false => rw [hb] at h; cases h
    | true =>
      rw [hb] at h
      cases h
      rw [Bool.and_eq_true] at hb
      obtain ⟨R, hR⟩ : ∃ R : Nat → AV, R = fun i => xs.getD (i - c) .dead := ⟨_, rfl⟩
      have hRt : ∀ t, t < d - c → xs.getD t .dead = R (c + t) := fun t _ => by rw [hR]; simp
      have hs0 : σ.env = envAt (befN l c) R σ.env c := (envAt_skip c (Nat.le_refl _)).symm
      obtain ⟨g1, g2, g3, g4, g5, g6⟩ := evP1_sound IH (c := c) (R := R) (env0 := σ.env) K hK (d - c) c σ.env σ.mu xs ps ν e (Nat.le_refl _) h1 hs0 hRt
      have g7 := evP2_sound IH (c := c) (R := R) (env0 := σ.env) K hK (d - c) c σ.env xs (Nat.le_refl _) hb.2 hs0 hRt g1
      refine any_effN (env := σ.env) c d ps (fun k => (σ.mu :: ν).getD k []) R hok hb.1 (fun i hci hi hip j hj k1 k2 => ?_) (fun k hk => ?_) ?_
      · refine g7 i hci (by omega) hip (g5 i hci (by omega) hip) j hj ?_
        unfold mayAt
        rw [List.all_eq_true]
        intro k hk
        rw [List.mem_range] at hk
        rw [Bool.and_eq_true]
        constructor
        · cases hbf : bef pre (ps.getD k 0) i with
          | false => rfl
          | true => simpa [Nat.blt_eq] using k1 k hk hbf
        · cases hbf : bef pre i (ps.getD k 0) with
          | false => rfl
          | true => simpa using k2 k hk hbf
      · have := g4 k hk
        simpa using this
      · rw [show d = c + (d - c) by omega, ← g2]
        rw [show c + (d - c) = d by omega]
        exact hn
  · cases h

omit IH in
theorem QOp.grow {K : Ctx} {s : SOper} {env : List (Nat × AV)} {x : AV} (h : QOp K s env [] x) (β : List AObj) : QOp K s env β x := by
  rcases h with ⟨h1, h2, h3⟩ | ⟨h1, h2⟩ | ⟨h1, f, args, h2, h3⟩
  · exact .inl ⟨h1, h2, quiet_mono h2 h3⟩
  · exact .inr (.inl ⟨h1, h2⟩)
  · exact .inr (.inr ⟨h1, f, args, h2, fun es => h3 (β ++ es)⟩)
theorem evPP_sound {l : List SOper} {c nn d0 p0 : Nat} {agg : Bool} {lk : List (Nat × LK)} {R : Nat → AV} {env0 : List (Nat × AV)} (h0 : opAt l p0 = ⟨some d0, none, .mkM⟩) (K : Ctx) (hK : KOK T X K) : ∀ (n a : Nat) (env : List (Nat × AV)) (xs : List AV) (kvs : List (Nat × AV × AV)) (e : List (Nat × AV)), c ≤ a →
    evPP rec l nn d0 p0 agg lk (List.range' a n) env = some (xs, kvs, e) → env = envAt (befN l c) R env0 a → (∀ t, t < n → xs.getD t .dead = R (a + t)) →
    xs.length = n ∧ e = envAt (befN l c) R env0 (a + n) ∧ ((kvs.map (·.1)).Pairwise (· < ·) ∧ (∀ q ∈ kvs, a ≤ q.1 ∧ q.1 < a + n)) ∧ (a ≤ p0 → p0 < a + n → R p0 = .mp nn) ∧
      (∀ q ∈ kvs, ∃ x y, opAt l q.1 = ⟨none, none, .putM agg lk (.t d0) x y⟩ ∧ evX (envAt (befN l c) R env0 q.1) (.t d0) = .mp nn ∧ evX (envAt (befN l c) R env0 q.1) x = q.2.1 ∧ evX (envAt (befN l c) R env0 q.1) y = q.2.2 ∧ R q.1 = .dead) ∧
      ∀ i, a ≤ i → i < a + n → i ≠ p0 → i ∉ kvs.map (·.1) → ∀ β, QOp K (opAt l i) (envAt (befN l c) R env0 i) β (R i)
  | 0, a, env, xs, kvs, e, hc, h, he, hR => by
    simp only [List.range'_zero, evPP, Option.some.injEq, Prod.mk.injEq] at h
    obtain ⟨rfl, rfl, rfl⟩ := h
    exact ⟨rfl, he, ⟨.nil, fun q hq => (nomatch hq)⟩, fun h1 h2 => absurd h2 (by omega), fun q hq => (nomatch hq), fun i h1 h2 => absurd h2 (by omega)⟩
  | n + 1, a, env, xs, kvs, e, hc, h, he, hR => by
    rw [List.range'_succ] at h
    simp only [evPP] at h
    have next : ∀ x, x = R a → pushE env (opAt l a).dst x = envAt (befN l c) R env0 (a + 1) := fun x hx => by
      show _ = pushE (envAt (befN l c) R env0 a) (opAt (befN l c) a).dst (R a)
      rw [befN_at, if_neg (by omega), he, hx]
    cases hb : Nat.beq a p0 with
    | true =>
      rw [hb] at h
      simp only [cond_true] at h
      obtain rfl := Nat.eq_of_beq_eq_true hb
      split at h
      · rename_i xs' kvs' e' h1
        cases h
        have hxa : AV.mp nn = R a := by have := hR 0 (by omega); simpa using this
        obtain ⟨g1, g2, ⟨g3, g3'⟩, g4, g5, g6⟩ := evPP_sound (c := c) (R := R) (env0 := env0) h0 K hK n (a + 1) _ xs' kvs e (by omega) h1 (by
          have := next (.mp nn) hxa
          rw [h0] at this
          exact this) fun t ht => by
          have := hR (t + 1) (by omega)
          rw [show a + 1 + t = a + (t + 1) by omega, ← this]; simp
        exact ⟨by simp [g1], by rw [g2]; congr 1; omega, ⟨g3, fun q hq => by have := g3' q hq; omega⟩, fun _ _ => hxa.symm, g5, fun i h1 h2 h3 h4 => g6 i (by have := h1; have := h3; omega) (by have := h2; omega) h3 h4⟩
      · cases h
    | false =>
      rw [hb] at h
      simp only [cond_false] at h
      have hne : a ≠ p0 := fun q => by rw [q, Nat.beq_refl] at hb; cases hb
      split at h
      · rename_i agg' lk' t x y hop
        split at h
        · rename_i hcnd
          obtain ⟨⟨hc1, hc2⟩, rfl, rfl⟩ := hcnd
          obtain rfl := Nat.eq_of_beq_eq_true hc1
          split at h
          · rename_i xs' kvs' e' h1
            cases h
            have hxa : AV.dead = R a := by have := hR 0 (by omega); simpa using this
            obtain ⟨g1, g2, ⟨g3, g3'⟩, g4, g5, g6⟩ := evPP_sound (c := c) (R := R) (env0 := env0) h0 K hK n (a + 1) _ xs' kvs' e (by omega) h1 (by
              have := next .dead hxa
              rw [hop] at this
              exact this) fun t ht => by
              have := hR (t + 1) (by omega)
              rw [show a + 1 + t = a + (t + 1) by omega, ← this]; simp
            refine ⟨by simp [g1], by rw [g2]; congr 1; omega, ⟨?_, ?_⟩, fun h1 h2 => g4 (by omega) (by omega), ?_, fun i h1 h2 h3 h4 => ?_⟩
            · rw [List.map_cons, List.pairwise_cons]
              exact ⟨fun b hb => by
                obtain ⟨q, hq, rfl⟩ := List.mem_map.1 hb
                have := g3' q hq; omega, g3⟩
            · intro q hq
              rcases List.mem_cons.1 hq with rfl | hq
              · exact ⟨Nat.le_refl _, by omega⟩
              · have := g3' q hq; omega
            · intro q hq
              rcases List.mem_cons.1 hq with rfl | hq
              · exact ⟨x, y, hop, by rw [← he]; exact beqA_eq hc2, by rw [← he], by rw [← he], hxa.symm⟩
              · exact g5 q hq
            · have : i ≠ a := fun q => h4 (by rw [q]; simp)
              exact g6 i (by omega) (by omega) h3 fun q => h4 (by simp at q ⊢; exact .inr q)
          · cases h
        · cases h
      · split at h
        · rename_i x hx
          split at h
          · rename_i xs' kvs' e' h1
            cases h
            have hxa : x = R a := by have := hR 0 (by omega); simpa using this
            obtain ⟨g1, g2, ⟨g3, g3'⟩, g4, g5, g6⟩ := evPP_sound (c := c) (R := R) (env0 := env0) h0 K hK n (a + 1) _ xs' kvs e (by omega) h1 (next x hxa) fun t ht => by
              have := hR (t + 1) (by omega)
              rw [show a + 1 + t = a + (t + 1) by omega, ← this]; simp
            refine ⟨by simp [g1], by rw [g2]; congr 1; omega, ⟨g3, fun q hq => by have := g3' q hq; omega⟩, fun h1 h2 => g4 (by omega) (by omega), g5, fun i h1 h2 h3 h4 β => ?_⟩
            by_cases hia : i = a
            · subst hia
              rw [← he, ← hxa]
              exact (evV_sound IH hx K hK).grow β
            · exact g6 i (by omega) (by omega) h3 h4 β
          · cases h
        · cases h
omit IH in
theorem disK_get {lk : List (Nat × LK)} : ∀ {kvs : List (Nat × AV × AV)}, disK lk kvs = true → (kvs.map (·.1)).Pairwise (· < ·) → ∀ p ∈ kvs, ∀ q ∈ kvs, p.1 ≠ q.1 → eqA lk (cellsOf p.2.1) (cellsOf q.2.1) = some false
  | [], _, _, p, hp, _, _, _ => by cases hp
  | r :: kvs, h, hw, p, hp, q, hq, hne => by
    simp only [disK, Bool.and_eq_true, List.all_eq_true, decide_eq_true_eq] at h
    rw [List.map_cons, List.pairwise_cons] at hw
    rcases List.mem_cons.1 hp with rfl | hp' <;> rcases List.mem_cons.1 hq with rfl | hq'
    · exact absurd rfl hne
    · exact (h.1 q hq').1
    · exact (h.1 p hp').2
    · exact disK_get h.2 hw.2 p hp' q hq' hne
theorem evPuts_sound {l : List SOper} {pre : List (List Nat)} {c d : Nat} {σ σ' : St} (h : evPuts rec l pre c d σ = some σ') (K : Ctx) (F : Fcx) (Q : AExit → St → Prop) (hK : KOK T X K) (hok : winOK l pre c d = true)
    (hn : AnyC K F Q l pre d σ') : AnyC K F Q l pre c σ := by
  have hcd : c ≤ d := by
    have := hok
    simp only [winOK, Bool.and_eq_true, decide_eq_true_eq] at this
    exact this.1.1.1.2
  unfold evPuts at h
  split at h
  · rename_i p0 d0 agg lk hm hp
    split at h
    · rename_i xs kvs e h1
      cases hb : (kvs.all fun q => bef pre p0 q.1 && keyOK agg lk q.2.1) && disK lk kvs with
      | false => rw [hb] at h; cases h
      | true =>
        rw [hb] at h
        cases h
        rw [Bool.and_eq_true, List.all_eq_true] at hb
        obtain ⟨hb1, hb2⟩ := hb
        have hm0 : (c ≤ p0 ∧ p0 < d) ∧ opAt l p0 = ⟨some d0, none, .mkM⟩ := by
          unfold mkmOf at hm
          obtain ⟨i, hi, hx⟩ := List.exists_of_findSome?_eq_some hm
          rw [List.mem_range'_1] at hi
          split at hx
          · rename_i d' hop
            cases hx
            exact ⟨by omega, hop⟩
          · cases hx
        obtain ⟨R, hR⟩ : ∃ R : Nat → AV, R = fun i => xs.getD (i - c) .dead := ⟨_, rfl⟩
        have hRt : ∀ t, t < d - c → xs.getD t .dead = R (c + t) := fun t _ => by rw [hR]; simp
        have hs0 : σ.env = envAt (befN l c) R σ.env c := (envAt_skip c (Nat.le_refl _)).symm
        obtain ⟨g1, g2, ⟨g3, g3'⟩, g4, g5, g6⟩ := evPP_sound IH (c := c) (R := R) (env0 := σ.env) hm0.2 K hK (d - c) c σ.env xs kvs e (Nat.le_refl _) h1 hs0 hRt
        obtain ⟨kv, hkv⟩ : ∃ kv : Nat → AV × AV, ∀ q ∈ kvs, kv q.1 = q.2 := by
          refine ⟨fun i => ((kvs.find? fun q => q.1 == i).map (·.2)).getD (.dead, .dead), fun q hq => ?_⟩
          have key : ∀ {ks : List (Nat × AV × AV)}, (ks.map (·.1)).Pairwise (· < ·) → ∀ q ∈ ks, (ks.find? fun p => p.1 == q.1) = some q := by
            intro ks
            induction ks with
            | nil => intro _ q hq; cases hq
            | cons r ks ih =>
              intro hw q hq
              rw [List.map_cons, List.pairwise_cons] at hw
              rcases List.mem_cons.1 hq with rfl | hq
              · simp
              · have := hw.1 q.1 (List.mem_map.2 ⟨q, hq, rfl⟩)
                rw [List.find?_cons, show (r.1 == q.1) = false by simp; omega]
                exact ih hw.2 q hq
          simp only [key g3 q hq]
          rfl
        have hmap : kvs.map (·.2) = (kvs.map (·.1)).map kv := by
          rw [List.map_map]
          exact List.map_congr_left fun q hq => (hkv q hq).symm
        have hmem : ∀ i ∈ kvs.map (·.1), ∃ q ∈ kvs, q.1 = i ∧ kv i = q.2 := fun i hi => by
          obtain ⟨q, hq, rfl⟩ := List.mem_map.1 hi
          exact ⟨q, hq, rfl, hkv q hq⟩
        refine any_puts (env := σ.env) (μ := σ.mu) c d p0 d0 (kvs.map (·.1)) kv agg lk R hok hm0.1.1 hm0.1.2 (fun i hi => ?_) (show (kvs.map (·.1)).Nodup from List.Pairwise.imp (fun hab => Nat.ne_of_lt hab) g3) hm0.2 (g4 hm0.1.1 (by omega)) (fun i hi => ?_) (fun i hi => ?_) (fun i hi j hj hij => ?_) (fun i hci hi hip hips β => g6 i hci (by omega) hip hips β) ?_
        · obtain ⟨q, hq, rfl, _⟩ := hmem i hi
          have := g3' q hq
          have h3 := hb1 q hq
          rw [Bool.and_eq_true] at h3
          exact ⟨by omega, h3.1⟩
        · obtain ⟨q, hq, rfl, hk⟩ := hmem i hi
          rw [hk]
          exact g5 q hq
        · obtain ⟨q, hq, rfl, hk⟩ := hmem i hi
          have h3 := hb1 q hq
          rw [Bool.and_eq_true] at h3
          rw [hk]; exact h3.2
        · obtain ⟨q, hq, rfl, hk⟩ := hmem i hi
          obtain ⟨q', hq', rfl, hk'⟩ := hmem j hj
          rw [hk, hk']
          exact disK_get hb2 g3 q hq q' hq' hij
        · rw [← hmap, show d = c + (d - c) by omega, ← g2]
          rw [show c + (d - c) = d by omega]
          exact hn
    · cases h
  · cases h

theorem evSeg_sound {r : Bool} {m : Nat} {l : List SOper} {pre : List (List Nat)} : ∀ (s : List (Nat × Bool)) (c : Nat) (σ : St) (o : Out), evSeg T rec r m l pre c s σ = some o →
    ∃ e σ', o = .ex e σ' ∧ ∀ K F Q, KOK T X K → F.n = m → (r = true → F.r = none ∧ F.tl.isSome = true) → Q e σ' → AnyC K F Q l pre c σ
  | [], c, σ, o, h => by
    simp only [evSeg] at h
    split at h
    · rename_i hn; cases h; exact ⟨_, _, rfl, fun K F Q _ _ _ hQ => any_end c hn hQ⟩
    · cases h
  | (d, true) :: s, c, σ, o, h => by
    simp only [evSeg] at h
    split at h
    · rename_i hok
      split at h
      · rename_i σ1 h1
        obtain ⟨e, σ', rfl, h2⟩ := evSeg_sound s d σ1 o h
        exact ⟨e, σ', rfl, fun K F Q a b c' hQ => any_seq c d hok (IH _ _ h1 K F _ a b c' (h2 K F Q a b c' hQ))⟩
      · rename_i e1 σ1 hne h1
        cases h
        refine ⟨_, _, rfl, fun K F Q a b c' hQ => any_seq c d hok (IH _ _ h1 K F _ a b c' ?_)⟩
        cases e1 <;> first | exact hQ | exact (hne rfl).elim
      · cases h
    · cases h
  | (d, false) :: s, c, σ, o, h => by
    simp only [evSeg] at h
    split at h
    · rename_i hok
      split at h
      · rename_i env' sl' h1
        obtain ⟨e, σ', rfl, h2⟩ := evSeg_sound s d _ o h
        refine ⟨e, σ', rfl, fun K F Q a b c' hQ => ?_⟩
        obtain ⟨xs, hrun⟩ := IH _ _ h1 K a
        exact any_win (env := σ.env) (μ := σ.mu) c d hok ⟨xs, env', sl', hrun, h2 K F Q a b c' hQ⟩
      · split at h
        · rename_i σ1 h1
          obtain ⟨e, σ', rfl, h2⟩ := evSeg_sound s d _ o h
          exact ⟨e, σ', rfl, fun K F Q a b c' hQ => evEff2_sound IH h1 K F Q a hok (h2 K F Q a b c' hQ)⟩
        · split at h
          · rename_i σ1 h1
            obtain ⟨e, σ', rfl, h2⟩ := evSeg_sound s d _ o h
            exact ⟨e, σ', rfl, fun K F Q a b c' hQ => evPuts_sound IH h1 K F Q a hok (h2 K F Q a b c' hQ)⟩
          · split at h
            · rename_i σ1 h1
              obtain ⟨e, σ', rfl, h2⟩ := evSeg_sound s d _ o h
              exact ⟨e, σ', rfl, fun K F Q a b c' hQ => evEffN_sound IH h1 K F Q a hok (h2 K F Q a b c' hQ)⟩
            · cases h
    · cases h

theorem evDreg2_sound {r : Bool} {m k : Nat} {l : List SOper} {pre : List (List Nat)} {σ : St} {w : List (Nat × Bool)} {o : Out} (h : evDreg2 T rec r m l pre k σ w = some o) : Right T X (.code r m (.dreg l pre) σ) o := by
  have seg : ∀ o, evSeg T rec r m l pre 0 w σ = some o → Right T X (.code r m (.dreg l pre) σ) o := fun o h => by
    obtain ⟨e, σ', rfl, h2⟩ := evSeg_sound IH w 0 σ o h
    exact fun K F Q a b c d => any_start (env := σ.env) (μ := σ.mu) a.2.1 (h2 K F Q a b c d)
  unfold evDreg2 at h
  split at h
  · rename_i hs; cases h; exact seg _ hs
  · exact evDreg_sound IH h

omit IH in
theorem fake1_take {l : List SOper} {p i0 k0 : Nat} {x x' y : AV} : (fake1 l p i0 k0 x y).take p = (fake1 l p i0 k0 x' y).take p := by
  unfold fake1
  simp only [List.take_set]
  have e : ∀ z : SOper, (l.take p).set p z = l.take p := fun z => List.set_eq_of_length_le (by simp; omega)
  rw [e, e]

theorem evEff1_sound {r : Bool} {m n p i0 k0 : Nat} {l : List SOper} {pre : List (List Nat)} {σ : St} {o : Out} (h : evEff1 T rec r m l pre n p i0 k0 σ = some o) : Right T X (.code r m (.dreg l pre) σ) o := by
  unfold evEff1 at h
  split at h
  · rename_i d0 e0 c0 d1 y hb0 hk0
    split at h
    · rename_i hc
      obtain ⟨hw, he, hc0, rfl⟩ := hc
      unfold evEff1b at h
      split at h
      · rename_i envp hqp
        split at h
        · rename_i f args hcl
          split at h
          · rename_i x ν hcall
            split at h
            · rename_i hcs
              obtain ⟨h1, h2, h3, h4, h5⟩ := hcs
              have hν : ν = ν.take σ.mu.length ++ [.gone] ++ ν.drop (σ.mu.length + 1) := by
                unfold isGone at h4
                split at h4
                · rename_i hg
                  obtain ⟨hlt, hg2⟩ := List.getElem?_eq_some_iff.1 hg
                  conv => lhs; rw [← List.take_append_drop σ.mu.length ν, List.drop_eq_getElem_cons hlt, hg2]
                  simp
                · cases h4
              have hlen : (ν.take σ.mu.length).length = σ.mu.length := by
                have := congrArg List.length hν
                simp at this ⊢
                omega
              unfold evEff1c at h
              split at h
              · rename_i envk hqk
                split at h
                · rename_i env' hq'
                  cases hfin : oneCellA (evX envk y) && okCell (ν.take σ.mu.length ++ [.row e0 1 1 [[c0]]] ++ ν.drop (σ.mu.length + 1)) (evX envk y) && isPtr σ.mu.length (getE envk d1) with
                  | false => rw [hfin] at h; cases h
                  | true =>
                    rw [hfin] at h
                    simp only [cond_true] at h
                    simp only [Bool.and_eq_true] at hfin
                    obtain ⟨⟨f1, f2⟩, f3⟩ := hfin
                    obtain ⟨e, σ', rfl, hseg⟩ := evSeg_sound (T := T) (X := X) IH _ _ _ _ h
                    refine fun K F Q a b c d => any_start (env := σ.env) (μ := σ.mu) a.2.1 ?_
                    obtain ⟨xa, ha⟩ := evQ_sound IH K a _ _ _ hqp
                    obtain ⟨xb, hb⟩ := evQ_sound IH K a _ _ _ hqk
                    obtain ⟨xc, hc⟩ := evQ_sound IH K a _ _ _ hq'
                    rw [fake1_take (x' := x)] at ha
                    have hac := IH _ _ hcall
                    simp only [Right] at hac
                    have hac := hac K a
                    refine any_eff1 n p i0 k0 hw he hb0 hc0 hk0 ha hb hc hcl hlen (fun o ho => ?_) ?_ f2 ?_ (hseg K F Q a b c d)
                    · rw [hν] at hac h3
                      have hro : refO 0 o = true := by
                        rcases ho with rfl | rfl
                        · rfl
                        · cases c0 <;> first | rfl | (simp [leafC] at hc0)
                      have := ACalls.frameAt (o := o) (ν1 := ν.take σ.mu.length) (ν2 := ν.drop (σ.mu.length + 1)) hac hlen h5 hro h1 h2 h3
                      exact this
                    · cases hz : evX envk y <;> rw [hz] at f1 <;> first | rfl | (cases f1)
                    · unfold isPtr at f3
                      split at f3
                      · rename_i a' hz; rw [hz, Nat.eq_of_beq_eq_true f3]
                      · cases f3
                · cases h
              · cases h
            · cases h
          · cases h
        · cases h
      · cases h
    · cases h
  · cases h

theorem evDreg3_sound {r : Bool} {m : Nat} {l : List SOper} {pre : List (List Nat)} {σ : St} {q : Option (Nat × Nat × Nat × Nat)} {o : Out} (h : evDreg3 T rec r m l pre σ q = some o) : Right T X (.code r m (.dreg l pre) σ) o := by
  unfold evDreg3 at h
  split at h
  · exact evDreg2_sound IH h
  · split at h
    · rename_i hs; cases h; exact evEff1_sound IH hs
    · exact evDreg2_sound IH h

theorem evDc_sound {m : Nat} (hK : KOK T X K) {b0 : Nat} : ∀ (d : DCode) {dv dv' : DV} {σ σ' : St} {e : AExit} {Q : DV → AExit → St → Prop}, evDc rec m d dv σ = some (dv', e, σ') → Q dv' e σ' → runD K m b0 d dv σ Q
  | .base s, dv, dv', σ, σ', e, Q, h, hQ => by
    simp only [evDc] at h
    split at h
    · rename_i e1 σ1 h1
      cases h
      intro D tl
      exact IH _ _ h1 K _ _ hK rfl (fun hs => ⟨rfl, by cases dv <;> first | (cases hs; done) | rfl⟩) hQ
    · cases h
  | .seq x y, dv, dv', σ, σ', e, Q, h, hQ => by
    simp only [evDc] at h
    split at h
    · rename_i dv1 σ1 h1
      exact evDc_sound hK x h1 (evDc_sound hK y h hQ)
    · rename_i hne
      refine evDc_sound hK x h ?_
      cases e <;> first | exact hQ | exact (hne _ _ h).elim
  | .dfr l f, none, dv', σ, σ', e, Q, h, hQ => by
    simp only [evDc] at h
    split at h
    · rename_i σ1 h1
      split at h
      · rename_i g ca hx
        cases h
        exact ⟨rfl, fun D => IH _ _ h1 K _ _ hK rfl (fun hs => by cases hs) ⟨g, ca, hx, hQ⟩⟩
      · cases h
    · rename_i e1 σ1 hne h1
      cases h
      refine ⟨rfl, fun D => IH _ _ h1 K _ _ hK rfl (fun hs => by cases hs) ?_⟩
      cases e <;> first | exact hQ | exact (hne rfl).elim
    · cases h
  | .dfr l f, some _, dv', σ, σ', e, Q, h, hQ => by
    simp only [evDc] at h
    cases h

theorem evLeave_sound {en : Ent} {len g : Nat} {ca : List AV} {md : Option AV} {σ : St} {o : Out} (h : evLeave T rec en len g ca md σ = some o) :
    ∃ x ν, o = .en (.ret x) (gcA len x ν) ∧ ∀ K, KOK T X K → endD K en.rs (fun ae ν' => ae = .ret x ∧ ν' = ν) g ca md σ := by
  unfold evLeave at h
  split at h
  · rename_i m s rs pu t hT
    split at h
    · rename_i hn
      have go : ∀ ex σ2 x, rec (.code false m s ⟨(t, md.getD .nilif) :: enterEnv ca, σ.mu⟩) = some (.ex ex σ2) → (ex = .normal ∨ ex = .ret) → resA ⟨σ.env, σ2.mu⟩ en.rs = some x → ∀ K, KOK T X K → endD K en.rs (fun ae ν' => ae = .ret x ∧ ν' = σ2.mu) g ca md σ :=
        fun ex σ2 x hev hex hx K hK => ⟨fun μ' => μ' = σ2.mu, dcalls_of_sem (hK.1 g _ hT) hn fun D => IH _ _ hev K _ _ hK rfl (fun hs => by cases hs) ⟨hex, rfl⟩, fun μ' hμ => by subst hμ; exact ⟨x, hx, rfl, rfl⟩⟩
      split at h
      · rename_i σ2 hev
        simp only [Option.map_eq_some_iff] at h
        obtain ⟨x, hx, rfl⟩ := h
        exact ⟨x, σ2.mu, rfl, go _ _ _ hev (.inl rfl) hx⟩
      · rename_i σ2 hev
        simp only [Option.map_eq_some_iff] at h
        obtain ⟨x, hx, rfl⟩ := h
        exact ⟨x, σ2.mu, rfl, go _ _ _ hev (.inr rfl) hx⟩
      · cases h
    · cases h
  · cases h

theorem evDef_sound {f : Nat} {en : Ent} {d : DCode} {args : List AV} {μ : List AObj} {o : Out} (hf : ∀ K, KOK T X K → FnIsD K.P f en.m d en.rs) (h : evDef T rec en d args μ = some o) : Right T X (.call f args μ) o := by
  unfold evDef at h
  split at h
  · rename_i hn
    have go : ∀ dv ex σ', evDc rec en.m d none ⟨enterEnv args, μ⟩ = some (dv, ex, σ') → ∀ K, KOK T X K → ∀ R, bodyD K en.rs R dv ex σ' → ACalls K f args μ R := fun dv ex σ' hev K hK R hb =>
      acalls_of_runD (hf K hK) hn (evDc_sound IH hK d hev hb)
    split at h
    · rename_i σ' hev
      simp only [Option.map_eq_some_iff] at h
      obtain ⟨x, hx, rfl⟩ := h
      exact fun K hK => gc_sound (go _ _ _ hev K hK _ ⟨x, hx, rfl, rfl⟩)
    · rename_i σ' hev
      simp only [Option.map_eq_some_iff] at h
      obtain ⟨x, hx, rfl⟩ := h
      exact fun K hK => gc_sound (go _ _ _ hev K hK _ ⟨x, hx, rfl, rfl⟩)
    · rename_i x σ' hev
      cases h
      exact fun K hK => go _ _ _ hev K hK _ ⟨rfl, rfl⟩
    · rename_i g ca b σ' hev
      obtain ⟨x, ν, rfl, h2⟩ := evLeave_sound IH h
      exact fun K hK => gc_sound (go _ _ _ hev K hK _ (h2 K hK))
    · rename_i g ca b σ' hev
      obtain ⟨x, ν, rfl, h2⟩ := evLeave_sound IH h
      exact fun K hK => gc_sound (go _ _ _ hev K hK _ (h2 K hK))
    · rename_i g ca b y σ' hev
      obtain ⟨x, ν, rfl, h2⟩ := evLeave_sound IH h
      exact fun K hK => gc_sound (go _ _ _ hev K hK _ (h2 K hK))
    · cases h
  · cases h

theorem evCall_sound {f : Nat} {args : List AV} {μ : List AObj} {o : Out} (h : evCall T X rec f args μ = some o) : Right T X (.call f args μ) o := by
  unfold evCall at h
  split at h
  · rename_i r hX
    split at h
    · rename_i ht
      cases h
      exact fun K hK => ACalls.of_holds (hK.2.2.2 f args r hX) ht
    · cases h
  split at h
  · cases h
  · rename_i e he
    split at h
    rotate_left
    · rename_i d hd
      exact evDef_sound IH (fun K hK => by have := hK.1 f e he; unfold EntOK at this; rw [hd] at this; exact this) h
    · cases h
    rename_i hplain
    cases hb : e.pure && !μ.isEmpty with
    | true =>
      rw [hb] at h
      simp only [cond_true, evLend] at h
      split at h
      · rename_i ts hts
        split at h
        · rename_i x ν hev
          split at h
          · rename_i hf
            cases h
            have hc := IH _ _ hev
            simp only [Right] at hc
            obtain ⟨m1, m2⟩ := mapO_get hts
            refine fun K hK => ACalls.of_lend (ts := ts) ?_ m1 (fun i c t a b => treeOf_sound 40 _ _ (m2 i c t a b)) hf
            refine holds_of_ev (T := T) (X := X) (fun K' hP hG => ⟨fun f e he => by rw [hP]; exact hK.1 f e he, by rw [hP]; exact hK.2.1, by rw [hG]; exact hK.2.2.1, by rw [hP, hG]; exact hK.2.2.2⟩) hK.2.2.1 hc (hc K hK).1 (.same ?_)
            exact flat_tree hf
          · cases h
        · cases h
      · cases h
    | false =>
      rw [hb] at h
      simp only [cond_false, evBody] at h
      split at h
      · rename_i hn
        have go : ∀ ex σ', rec (.code true e.m e.s ⟨enterEnv args, μ⟩) = some (.ex ex σ') → ∀ K, KOK T X K → ∀ R, bodyQ e.rs R ex σ' → ACalls K f args μ R := fun ex σ' hev K hK R hb =>
          acalls_of_sem (by have := hK.1 f e he; unfold EntOK at this; rw [hplain] at this; exact this) hn fun D => IH _ _ hev K _ _ hK rfl (fun _ => ⟨rfl, rfl⟩) hb
        split at h
        · rename_i σ' hev
          simp only [Option.map_eq_some_iff] at h
          obtain ⟨x, hx, rfl⟩ := h
          exact fun K hK => gc_sound (go _ _ hev K hK _ ⟨x, hx, rfl, rfl⟩)
        · rename_i σ' hev
          simp only [Option.map_eq_some_iff] at h
          obtain ⟨x, hx, rfl⟩ := h
          exact fun K hK => gc_sound (go _ _ hev K hK _ ⟨x, hx, rfl, rfl⟩)
        · rename_i x σ' hev
          cases h
          exact fun K hK => go _ _ hev K hK _ ⟨rfl, rfl⟩
        · cases h
      · cases h

theorem evYld_sound {id : Nat} {args : List AV} {μ : List AObj} {o : Out} (h : evYld rec id args μ = some o) : Right T X (.yld id args μ) o := by
  unfold evYld at h
  split at h
  · rename_i c e0 hμ
    split at h
    · rename_i hc
      obtain ⟨hc1, hc2⟩ := hc
      have hc2 : ∀ p ∈ c.ps, p < c.n := fun p hp => by simpa using List.all_eq_true.1 hc2 p hp
      split at h
      · rename_i σ1 hev1
        split at h
        · rename_i c1 e1 hμ1
          have go : ∀ ex σ2, rec (.code false c.n c.sb ⟨σ1.env, σ1.mu.set id (.loop c1 .busy e1)⟩) = some (.ex ex σ2) → ∀ K, KOK T X K → ∀ R, roundQ id R ex σ2 → YCalls K id args μ R := fun ex σ2 hev2 K hK R hb =>
            ycalls_of_sem hμ hc1 hc2 fun l => IH _ _ hev1 K _ _ hK rfl (fun e => by cases e) ⟨c1, e1, hμ1, IH _ _ hev2 K _ _ hK rfl (fun e => by cases e) hb⟩
          generalize hres : rec (.code false c.n c.sb ⟨σ1.env, σ1.mu.set id (.loop c1 .busy e1)⟩) = res at h
          unfold evEnd at h
          split at h
          · rename_i σ2
            split at h
            · rename_i c2 e2 hμ2
              cases h
              exact fun K hK => go _ _ hres K hK _ ⟨c2, e2, hμ2, rfl, rfl⟩
            · cases h
          · rename_i σ2
            split at h
            · rename_i c2 e2 hμ2
              cases h
              exact fun K hK => go _ _ hres K hK _ ⟨c2, e2, hμ2, rfl, rfl⟩
            · cases h
          · rename_i k σ2
            split at h
            · rename_i c2 e2 hμ2
              cases h
              exact fun K hK => go _ _ hres K hK _ ⟨c2, e2, hμ2, rfl, rfl⟩
            · cases h
          · cases h
        · cases h
      · cases h
    · cases h
  · cases h

theorem evM_sound {l : List SOper} {env : List (Nat × AV)} {sl : List SlotR} {j : Nat} {μ : List AObj} {o : Out} (h : evM rec l env sl j μ = some o) : Right T X (.mrun l env sl j μ) o := by
  cases l with
  | nil =>
    simp only [evM, Option.some.injEq] at h
    subst h
    exact fun K hK => ⟨[], .nil⟩
  | cons s l =>
    simp only [evM] at h
    split at h
    · rename_i hw
      split at h
      · rename_i d hd
        have h1 := IH _ _ h
        cases o <;> simp only [Right] at h1 ⊢
        exact fun K hK => let ⟨xs, hr⟩ := h1 K hK; ⟨_, .op (.inr (.inl ⟨hw, rfl⟩)) rfl (by rw [hd]; exact hr)⟩
      · cases h
    · rename_i hw
      have holds : ∀ {f : Nat} {ts : List AV} {t : AV} {K : Ctx}, KOK T X K → retTree (rec (.call f ts [])) = some t → Holds K.P K.G f ts t := by
        intro f ts t K hK hrt
        unfold retTree at hrt
        split at hrt
        · rename_i x ν hev
          have hc := IH _ _ hev
          simp only [Right] at hc
          exact holds_of_ev (T := T) (X := X) (fun K' hP hG => ⟨fun f e he => by rw [hP]; exact hK.1 f e he, by rw [hP]; exact hK.2.1, by rw [hG]; exact hK.2.2.1, by rw [hP, hG]; exact hK.2.2.2⟩) hK.2.2.1 hc (hc K hK).1 (treeOf_sound 40 _ _ hrt)
        · cases hrt
      obtain ⟨dst, g, op⟩ := s
      generalize hmk : mkind ⟨dst, g, op⟩ = mk at h
      unfold mkind at hmk
      split at hmk
      · rename_i f args d ho hd
        subst hmk
        simp only at ho hd hw
        subst ho; subst hd
        simp only [mCall] at h
        split at h
        · rename_i ht
          split at h
          · rename_i t hrt
            split at h
            · rename_i hr
              have h1 := IH _ _ h
              cases o <;> simp only [Right] at h1 ⊢
              exact fun K hK => let ⟨xs, hr'⟩ := h1 K hK; ⟨_, .op (.inr (.inr ⟨hw, f, _, rfl, fun es => ACalls.of_holds (holds hK hrt) ht⟩)) hr hr'⟩
            · cases h
          · cases h
        · split at h
          · rename_i ts hts
            split at h
            · rename_i t hrt
              split at h
              · rename_i hr
                have h1 := IH _ _ h
                cases o <;> simp only [Right] at h1 ⊢
                obtain ⟨m1, m2⟩ := mapO_get hts
                exact fun K hK => let ⟨xs, hr'⟩ := h1 K hK; ⟨_, .op (.inr (.inr ⟨hw, f, _, rfl, fun es => ACalls.of_lend (ts := ts) (holds hK hrt) m1 (fun i c t a b => (treeOf_sound 40 _ _ (m2 i c t a b)).mono) hr.2⟩)) hr.1 hr'⟩
              · cases h
            · cases h
          · cases h
      · rename_i e y d ho hd
        subst hmk
        simp only at ho hd hw
        subst ho; subst hd
        simp only [mBox] at h
        split at h
        · rename_i hc
          have h1 := IH _ _ h
          cases o <;> simp only [Right] at h1 ⊢
          exact fun K hK => let ⟨xs, hr⟩ := h1 K hK; rbox hw hc.1 hc.2 hr
        · cases h
      · rename_i e sz k zero ps d ho hd
        subst hmk
        simp only at ho hd hw
        subst ho; subst hd
        simp only [mBldS] at h
        split at h
        · rename_i cs hb
          split at h
          · rename_i hc
            have h1 := IH _ _ h
            cases o <;> simp only [Right] at h1 ⊢
            exact fun K hK => let ⟨xs, hr⟩ := h1 K hK; rbldS hb hw hc hr
          · cases h
        · cases h
      · rename_i sz d y ho hd
        subst hmk
        simp only at ho hd hw
        subst ho; subst hd
        simp only [mStore] at h
        split at h
        · rename_i id sz' haddr
          split at h
          · rename_i ia d' e' sz'' cs hsl
            split at h
            · rename_i hc
              obtain ⟨c1, rfl, rfl, rfl, c2, c3, c4, c5⟩ := hc
              have h1 := IH _ _ h
              cases o <;> simp only [Right] at h1 ⊢
              exact fun K hK => let ⟨xs, hr⟩ := h1 K hK; ⟨_, .sto hsl hw (by rw [haddr]; congr 1; omega) c2 c3 c4 c5 hr⟩
            · cases h
          · cases h
        · cases h
      · subst hmk
        simp only [mOther] at h
        cases hq : quietK op with
        | false => rw [hq] at h; cases h
        | true =>
          rw [hq] at h
          simp only [cond_true] at h
          split at h
          · rename_i x ν hs
            cases hr : refA μ.length x with
            | false => rw [hr] at h; cases h
            | true =>
              rw [hr] at h
              simp only [cond_true] at h
              have h1 := IH _ _ h
              cases o <;> simp only [Right] at h1 ⊢
              obtain rfl := faA_same hq hs
              exact fun K hK => let ⟨xs, hr'⟩ := h1 K hK; ⟨_, .op (.inl ⟨hw, hq, hs⟩) hr hr'⟩
          · cases h
    · cases h

omit IH in
theorem ev_yl {n : Nat} {id : Nat} {args : List AV} {μ : List AObj} {o : Out} (h : ev T X n (.yld id args μ) = some o) : ∃ c st e, μ[id]? = some (.loop c st e) := by
  cases n with
  | zero => simp [ev] at h
  | succ n =>
    simp only [ev, evT, evYld] at h
    split at h
    · rename_i c0 e0 hμ; exact ⟨_, _, _, hμ⟩
    · cases h

omit IH in
theorem ev_sound : ∀ (n : Nat) (t : Task) (o : Out), ev T X n t = some o → Right T X t o := by
  intro n
  induction n using Nat.strongRecOn with
  | ind n IH =>
  intro t o h
  cases n with
  | zero => simp [ev] at h
  | succ n =>
  have IH' : ∀ t o, ev T X n t = some o → Right T X t o := IH n (Nat.lt_succ_self n)
  cases t with
  | list r m l σ => exact evList_sound IH' (fun id args μ o h => ev_yl h) h
  | call f args μ => exact evCall_sound IH' h
  | yld id args μ => exact evYld_sound IH' h
  | mrun l env sl j μ => exact evM_sound IH' h
  | code r m s σ =>
    cases s with
    | skip => simp only [ev, evT, evCode, Option.some.injEq] at h; subst h; exact fun K F Q _ _ _ hq => sem_skip hq
    | ret => simp only [ev, evT, evCode, Option.some.injEq] at h; subst h; exact fun K F Q _ _ _ hq => sem_ret hq
    | exit id => simp only [ev, evT, evCode, Option.some.injEq] at h; subst h; exact fun K F Q _ _ _ hq => sem_exit hq
    | reg l =>
      simp only [ev, evT, evCode] at h
      have := IH' _ _ h
      cases o <;> simp only [Right] at this ⊢
      exact fun K F Q a b c d => sem_reg (this K F Q a b c d)
    | dreg l pre => exact evDreg3_sound IH' h
    | seq a b =>
      simp only [ev, evT, evCode] at h
      split at h
      · rename_i σ1 h1
        have h1 := IH' _ _ h1
        have h2 := IH' _ _ h
        cases o <;> simp only [Right] at h1 h2 ⊢
        exact fun K F Q a b c d => sem_seq (h1 K F _ a b c (h2 K F Q a b c d))
      · rename_i e σ1 hne h1
        cases h
        have h1 := IH' _ _ h1
        simp only [Right] at h1 ⊢
        refine fun K F Q a b c d => sem_seq (h1 K F _ a b c ?_)
        cases e <;> first | exact d | exact (hne rfl).elim
      · cases h
    | cond c a b =>
      simp only [ev, evT, evCode] at h
      split at h
      · rename_i hc
        have h1 := IH' _ _ h
        cases o <;> simp only [Right] at h1 ⊢
        exact fun K F Q a b c d => sem_cond hc (fun _ => h1 K F Q a b c d) (fun e => by cases e)
      · rename_i hc
        have h1 := IH' _ _ h
        cases o <;> simp only [Right] at h1 ⊢
        exact fun K F Q a b c d => sem_cond hc (fun e => by cases e) (fun _ => h1 K F Q a b c d)
      · cases h
    | block id a =>
      simp only [ev, evT, evCode] at h
      split at h
      · rename_i i σ1 h1
        cases h
        have h1 := IH' _ _ h1
        simp only [Right] at h1 ⊢
        refine fun K F Q a b c d => sem_block (h1 K F _ a b c ?_)
        simp only [blockQ]
        split <;> rename_i hi <;> simp only [hi, if_true, if_false] at d <;> exact d
      · rename_i e σ1 hne h1
        cases h
        have h1 := IH' _ _ h1
        simp only [Right] at h1 ⊢
        refine fun K F Q a b c d => sem_block (h1 K F _ a b c ?_)
        cases e <;> first | exact d | exact (hne _ rfl).elim
      · cases h
    | scope a =>
      simp only [ev, evT, evCode] at h
      have h1 := IH' _ _ h
      cases o <;> simp only [Right] at h1 ⊢
      exact fun K F Q a b c d => sem_scope (h1 K F Q a b c d)
    | loop a =>
      have hex : ∃ e σ', o = .ex e σ' := by
        clear IH'
        have : ∀ k, k ≤ n + 1 → ∀ τ o, ev T X k (.code r m (.loop a) τ) = some o → ∃ e σ', o = .ex e σ' := by
          intro k
          induction k with
          | zero => intro _ τ o h; simp [ev] at h
          | succ k ih =>
            intro hk τ o h
            simp only [ev, evT, evCode] at h
            split at h
            · exact ih (by omega) _ _ h
            · cases h; exact ⟨_, _, rfl⟩
            · cases h
        exact this (n + 1) (Nat.le_refl _) _ _ h
      obtain ⟨e, σ', rfl⟩ := hex
      intro K F Q hK hF hr hQ
      refine sem_loop (α := Nat × St) (fun p => p.2) (fun p => p.1 ≤ n + 1 ∧ ev T X p.1 (.code r m (.loop a) p.2) = some (.ex e σ')) (fun p => p.1) (n + 1, σ) ⟨Nat.le_refl _, h⟩ (Le.refl _) ?_
      rintro ⟨k, τ⟩ ⟨hk, hev⟩
      cases k with
      | zero => simp [ev] at hev
      | succ k =>
        simp only [ev, evT, evCode] at hev
        split at hev
        · rename_i τ1 h1
          have h1 := IH k (by omega) _ _ h1
          refine h1 K F _ hK hF hr ⟨(k, ⟨shortE τ1.env, τ1.mu⟩), ⟨by omega, hev⟩, Nat.lt_succ_self k, ⟨fun t => .inr ?_, .inl rfl⟩⟩
          show getE (shortE τ1.env) t = getE τ1.env t
          unfold shortE
          cases Nat.blt 120 τ1.env.length
          · rfl
          · exact normE_get _ _
        · rename_i e1 τ1 hne h1
          cases hev
          have h1 := IH k (by omega) _ _ h1
          refine h1 K F _ hK hF hr ?_
          cases e <;> first | exact hQ | exact (hne rfl).elim
        · cases hev
    | rng x ps sa sb =>
      simp only [ev, evT, evCode] at h
      cases r with
      | false => cases h
      | true => exact evRng_sound IH' h

end sound
end Go.Av
set_option linter.unusedVariables false
set_option linter.unusedSimpArgs false
namespace Go.Av
open Go.RowKit

theorem VT.nil_sl {S : Nat → Prop} {w : World} {v : Value} (f : Nat → List AV) (h : VT S w .nilsl v) : VT S w (.sl 0 f) v := by
  cases h
  exact .sl 0 f none 0 (fun _ _ => undef) (Nat.le_refl _) (Nat.zero_le _) (fun h => absurd h (Nat.lt_irrefl _)) (fun i hi => absurd hi (Nat.not_lt_zero _))
theorem VT.sl_weak {S : Nat → Prop} {w : World} {n : Nat} {f g : Nat → List AV} {v : Value} (h : VT S w (.sl n f) v) (hl : ∀ i, i < n → (g i).length = (f i).length)
    (he : ∀ i, i < n → ∀ (j : Nat) c c', (f i)[j]? = some c → (g i)[j]? = some c' → ∀ u, VT S w c u → VT S w c' u) : VT S w (.sl n g) v := by
  cases h with
  | sl n f a cap val h1 h2 h3 h4 =>
    refine .sl n g a cap val h1 h2 (fun hn => ?_) (fun i hi j c hj => ?_)
    · obtain ⟨b, o, sz, e1, e2, e3⟩ := h3 hn
      exact ⟨b, o, sz, e1, e2, fun i hi => ⟨by rw [hl i hi]; exact (e3 i hi).1, (e3 i hi).2⟩⟩
    · have hlt : j < (f i).length := by rw [← hl i hi]; exact (List.getElem?_eq_some_iff.1 hj).1
      exact he i hi j _ c (List.getElem?_eq_getElem hlt) hj _ (h4 i hi j _ (List.getElem?_eq_getElem hlt))
theorem Holds.convR {P : Program} {G : World → Prop} {f : Nat} {args : List AV} {r r' : AV} (h : Holds P G f args r) (hc : ∀ S w v, VT S w r v → VT S w r' v) : Holds P G f args r' :=
  ⟨h.1, fun w vs S hG hS hs hv => (h.2 w vs S hG hS hs hv).mono fun e w' ⟨v, S', h1, h2, h3, h4, h5, h6⟩ => ⟨v, S', h1, h2, h3, h4, h5, hc _ _ _ h6⟩⟩

/-- Do two trees say the same? -/
def eqT : Nat → AV → AV → Bool
  | 0, _, _ => false
  | n + 1, x, t =>
    match x, t with
    | .agg cs, .agg ts => Nat.beq cs.length ts.length && (cs.zip ts).all fun p => eqT n p.1 p.2
    | .tup cs, .tup ts => Nat.beq cs.length ts.length && (cs.zip ts).all fun p => eqT n p.1 p.2
    | .iface a x, .iface b y => Nat.beq a b && eqT n x y
    | .sl k f, .sl m g => Nat.beq k m && (List.range k).all fun i => Nat.beq (g i).length (f i).length && ((f i).zip (g i)).all fun p => eqT n p.1 p.2
    | .nilsl, .sl 0 g => true
    | x, t => beqA x t

theorem zip_all {α β : Type} {p : α × β → Bool} {l : List α} {r : List β} (h : (l.zip r).all p = true) {i : Nat} {a : α} {b : β} (ha : l[i]? = some a) (hb : r[i]? = some b) : p (a, b) = true :=
  List.all_eq_true.1 h _ (List.mem_of_getElem? (i := i) (by rw [List.getElem?_zip_eq_some]; exact ⟨ha, hb⟩))

theorem eqT_sound : ∀ (n : Nat) (x t : AV), eqT n x t = true → ∀ S w v, VT S w x v → VT S w t v
  | 0, x, t, h => by simp [eqT] at h
  | n + 1, x, t, h => by
    unfold eqT at h
    split at h
    · simp only [Bool.and_eq_true] at h
      intro S w v hv
      cases hv with
      | agg cs vs hl hr =>
        have e := Nat.eq_of_beq_eq_true h.1
        refine .agg _ _ (e.symm.trans hl) fun i c v a b => ?_
        have hlt := (List.getElem?_eq_some_iff.1 a).1
        exact eqT_sound n _ _ (zip_all h.2 (List.getElem?_eq_getElem (by omega)) a) S w v (hr i _ v (List.getElem?_eq_getElem (by omega)) b)
    · simp only [Bool.and_eq_true] at h
      intro S w v hv
      cases hv with
      | tup cs vs hl hr =>
        have e := Nat.eq_of_beq_eq_true h.1
        refine .tup _ _ (e.symm.trans hl) fun i c v a b => ?_
        have hlt := (List.getElem?_eq_some_iff.1 a).1
        exact eqT_sound n _ _ (zip_all h.2 (List.getElem?_eq_getElem (by omega)) a) S w v (hr i _ v (List.getElem?_eq_getElem (by omega)) b)
    · simp only [Bool.and_eq_true] at h
      intro S w v hv
      have e := Nat.eq_of_beq_eq_true h.1
      subst e
      cases hv with
      | iface _ _ v hr => exact .iface _ _ _ (eqT_sound n _ _ h.2 S w v hr)
    · simp only [Bool.and_eq_true] at h
      intro S w v hv
      have e := Nat.eq_of_beq_eq_true h.1
      subst e
      have key := fun i (hi : i < _) => by
        have := List.all_eq_true.1 h.2 i (List.mem_range.2 hi)
        simp only [Bool.and_eq_true] at this
        exact this
      exact hv.sl_weak (fun i hi => Nat.eq_of_beq_eq_true (key i hi).1) fun i hi j c c' hc hc' u hu => eqT_sound n _ _ (zip_all (key i hi).2 hc hc') S w u hu
    · intro S w v hv
      exact hv.nil_sl _
    · have := beqA_eq h
      subst this
      exact fun S w v hv => hv

def isRetM (o : Option Out) (t : AV) : Bool := match o with | some (.en (.ret x) μ) => (match treeOf μ 40 x with | some t0 => eqT 40 t0 t | none => false) | _ => false

/-- A closed call, reckoned. -/
theorem holds_match {T : Nat → Option Ent} {X : Nat → List AV → Option AV} {P : Program} {G : World → Prop} (hK : ∀ K : Ctx, K.P = P → K.G = G → KOK T X K) (hG : ∀ w w', G w → Below w.heap.size w w' → G w') {f n : Nat} {args : List AV} {t : AV} (hf : FnOK P f)
    (h : isRetM (ev T X n (.call f args [])) t = true) : Holds P G f args t := by
  unfold isRetM at h
  split at h
  · rename_i x μ hev
    split at h
    · rename_i t0 ht
      have hc := ev_sound _ _ _ hev
      simp only [Right] at hc
      exact (holds_of_ev hK hG hc hf (treeOf_sound 40 _ _ ht)).convR (eqT_sound 40 _ _ h)
    · cases h
  · cases h
end Go.Av
set_option linter.unusedVariables false
set_option linter.unusedSimpArgs false
set_option maxRecDepth 8000
namespace Go.Av
open Go.RowKit
theorem msplit {K : Ctx} {F : Fcx} {Q : AExit → St → Prop} {μ : List AObj} {rest : List SOper} {j : Nat} {sl : List SlotR} {env : List (Nat × AV)} {d : Option Nat} {t : Nat} {b c : Bool} {op : SOp} {l : List SOper} (he : getE env t = .bool c)
    (h1 : c = true → MGo K F Q μ rest j sl (⟨d, some (t, b), op⟩ :: l) env) (h2 : c = false → MGo K F Q μ rest j sl (⟨d, some (t, b), op⟩ :: l) env) : MGo K F Q μ rest j sl (⟨d, some (t, b), op⟩ :: l) env := by
  cases c
  · exact h2 rfl
  · exact h1 rfl
theorem sem_ghost {K : Ctx} {F : Fcx} {Q : AExit → St → Prop} {s : SCode} {env : List (Nat × AV)} {μ : List AObj} (t e sz : Nat) (hn : getE env t = .nilsl) (h : sem K F s ⟨(t, .hsl μ.length 0 sz 0) :: env, μ ++ [.row e 0 sz []]⟩ Q) : sem K F s ⟨env, μ⟩ Q := by
  intro c hc a w ρ S ha μ0 ρ0 S0 w0 hst
  obtain ⟨a1, k⟩ := ha.mu.addNil e sz
  refine h c hc a w _ S ⟨a1, ha.size, ha.defers, fun u => ?_⟩ μ0 ρ0 S0 w0 (hst.trans k)
  have hv := ha.env u
  show VR _ _ _ _ (getE ((t, .hsl μ.length 0 sz 0) :: env) u) _
  rw [getE_cons]
  split
  · rename_i htu
    subst htu
    rw [show getE env t = AV.nilsl from hn] at hv
    generalize a.tmps.getD t undef = v at hv
    cases hv with
    | t h' => cases h'; exact .hsl0 (e := e) (es := []) (by simp) (by simp)
  · exact hv.stab k
end Go.Av
namespace Go.Tk
open Go Go.Av
theorem frz_sl {α : Type} [Inhabited α] (enc : α → List AV) (l : List α) (id g sz n : Nat) (F : Nat → List AV) : frzA id g sz n F (slOf enc l) = slOf enc l := rfl
/-- A row by its elements. -/
def rowF {α : Type} (enc : α → List AV) (n : Nat) (f : Nat → α) : List (List AV) := (List.range n).map fun i => enc (f i)
section
variable {α : Type} {enc : α → List AV} {n i : Nat} {f g : Nat → α}
theorem rowF_get (h : i < n) : (rowF enc n f)[i]? = some (enc (f i)) := by simp [rowF, h]
theorem range_getD [Inhabited α] (l : List α) : (List.range l.length).map (fun i => l.getD i default) = l := by
  apply List.ext_getElem?
  intro k
  by_cases hk : k < l.length
  · simp [hk, List.getD]
  · simp [hk]
theorem getD_range [Inhabited α] (h : i < n) : ((List.range n).map f).getD i default = f i := by simp [List.getD, h]
theorem tree_rowF [Inhabited α] {μ : List AObj} {id e gn sz : Nat} (ho : μ[id]? = some (.row e gn sz (rowF enc n f))) (hsz : ∀ a, (enc a).length = sz) (ht : ∀ a, treeL (enc a) = true) : Tree μ (.hsl id gn sz n) (slOf enc ((List.range n).map f)) := by
  unfold slOf
  rw [show ((List.range n).map f).length = n by simp]
  refine .hsl _ ho (fun i hi => hsz _) fun i j cs c t hi hcs hc hct => ?_
  rw [rowF_get hi] at hcs
  cases hcs
  rw [getD_range hi] at hct
  rw [hc] at hct
  cases hct
  exact .same (treeL_get (ht _) hc)
theorem tree_row [Inhabited α] {μ : List AObj} {id e gn sz : Nat} (l : List α) (ho : μ[id]? = some (.row e gn sz (rowF enc l.length fun i => l.getD i default))) (hsz : ∀ a, (enc a).length = sz) (ht : ∀ a, treeL (enc a) = true) : Tree μ (.hsl id gn sz l.length) (slOf enc l) := by
  have := tree_rowF ho hsz ht
  rw [range_getD] at this
  exact this
end
section
variable {α : Type} [Inhabited α] {enc : α → List AV} {n : Nat} {f : Nat → α}
end
section
variable {α : Type} [Inhabited α] {enc : α → List AV} {n : Nat} {f : Nat → α}
end
/-- A row by a list. -/
def rowL {α : Type} (enc : α → List AV) (l : List α) : List (List AV) := l.map enc
section
variable {α : Type} {enc : α → List AV} {l : List α}
theorem rowL_snoc {a : α} : rowL enc l ++ [enc a] = rowL enc (l ++ [a]) := by simp [rowL]
theorem rowL_len : (rowL enc l).length = l.length := by simp [rowL]
theorem rowL_take : (rowL enc l).take l.length = rowL enc l := List.take_of_length_le (by rw [rowL_len]; exact Nat.le_refl _)
theorem rowL_all {k : Nat} (h : ∀ k a, refL k (enc a) = true) : (rowL enc l).all (refL k) = true := List.all_eq_true.2 fun x hx => by
  obtain ⟨i, _, rfl⟩ := List.mem_map.1 hx
  exact h _ _
theorem frz_rowL {id g sz m : Nat} {F : Nat → List AV} (h : ∀ a, frzL id g sz m F (enc a) = enc a) : (rowL enc l).map (frzL id g sz m F) = rowL enc l := by
  unfold rowL
  rw [List.map_map]
  exact List.map_congr_left fun i _ => h _
variable [Inhabited α]
theorem rowL_F : rowL enc l = rowF enc l.length fun i => l.getD i default := by
  unfold rowL rowF
  conv => lhs; rw [← range_getD l]
  rw [List.map_map]; rfl
theorem tree_rowL {μ : List AObj} {id e gn sz : Nat} (ho : μ[id]? = some (.row e gn sz (rowL enc l))) (hsz : ∀ a, (enc a).length = sz) (ht : ∀ a, treeL (enc a) = true) : Tree μ (.hsl id gn sz l.length) (slOf enc l) :=
  tree_row l (by rw [← rowL_F]; exact ho) hsz ht
theorem rowL_get {i : Nat} (h : i < l.length) : (rowL enc l)[i]? = some (enc (l.getD i default)) := by simp [rowL, List.getElem?_map, h, getD_lt h]
theorem sem_frzlist {K : Ctx} {F : Fcx} {Q : AExit → St → Prop} {s : SCode} {env : List (Nat × AV)} {μ : List AObj} (id : Nat) {e g sz : Nat} (ho : μ[id]? = some (.row e g sz (rowL enc l))) (ht : ∀ a, treeL (enc a) = true)
    (h : sem K F s ⟨frzE id g sz l.length (fun i => enc (l.getD i default)) env, frzM id g sz l.length (fun i => enc (l.getD i default)) μ⟩ Q) : sem K F s ⟨env, μ⟩ Q := by
  have hk : ∀ (i : Nat) cs, (rowL enc l)[i]? = some cs → cs = enc (l.getD i default) := fun i cs hi => by
    have hlt : i < l.length := by have := (List.getElem?_eq_some_iff.1 hi).1; rw [rowL_len] at this; exact this
    rw [rowL_get hlt] at hi; cases hi; rfl
  exact sem_frz id l.length _ ho rowL_len (fun i cs hi => (hk i cs hi).symm) (fun i cs hi => by rw [hk i cs hi]; exact ht _) h
end
end Go.Tk
