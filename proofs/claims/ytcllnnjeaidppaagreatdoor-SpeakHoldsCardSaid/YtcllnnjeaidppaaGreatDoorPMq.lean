/- A call's contract over the objects it knows, placed anywhere in its caller's memory. -/
import Derived.Test.YtcllnnjeaidppaaGreatDoorPMo
set_option linter.unusedVariables false
set_option linter.unusedSimpArgs false
namespace Go.Av
open Go.RowKit

mutual
/-- The objects renamed. -/
def renA (g : Nat → Nat) : AV → AV
  | .agg cs => .agg (renL g cs)
  | .tup cs => .tup (renL g cs)
  | .fn f fi ca => .fn f (renL g fi) (renL g ca)
  | .iface t x => .iface t (renA g x)
  | .hsl id gn sz len => .hsl (g id) gn sz len
  | .ptr id gn sz i off => .ptr (g id) gn sz i off
  | .mp id => .mp (g id)
  | .yl id => .yl (g id)
  | .dead => .dead
  | .int k n => .int k n
  | .bool b => .bool b
  | .str s => .str s
  | .nilp => .nilp
  | .nilfn => .nilfn
  | .nilif => .nilif
  | .nilmap => .nilmap
  | .nilsl => .nilsl
  | .sl n f => .sl n f
  | .tptr cs off => .tptr cs off
def renL (g : Nat → Nat) : List AV → List AV
  | [] => []
  | x :: r => renA g x :: renL g r
end
def renE (g : Nat → Nat) (env : List (Nat × AV)) : List (Nat × AV) := env.map fun p => (p.1, renA g p.2)
def renO (g : Nat → Nat) : AObj → AObj
  | .row e gn sz es => .row e gn sz (es.map (renL g))
  | .map es => .map (es.map fun p => (p.1, renA g p.2))
  | .loop c st env => .loop c st (renE g env)
  | .iter s pos ml => .iter s pos ml
  | .gone => .gone
mutual
/-- Only such objects are named. -/
def inA (p : Nat → Bool) : AV → Bool
  | .agg cs => inL p cs
  | .tup cs => inL p cs
  | .fn _ fi ca => inL p fi && inL p ca
  | .iface _ x => inA p x
  | .hsl id _ _ _ => p id
  | .ptr id _ _ _ _ => p id
  | .mp id => p id
  | .yl id => p id
  | .dead => true
  | .int _ _ => true
  | .bool _ => true
  | .str _ => true
  | .nilp => true
  | .nilfn => true
  | .nilif => true
  | .nilmap => true
  | .nilsl => true
  | .sl _ _ => true
  | .tptr _ _ => true
def inL (p : Nat → Bool) : List AV → Bool
  | [] => true
  | x :: r => inA p x && inL p r
end
def inO (p : Nat → Bool) : AObj → Bool
  | .row _ _ _ es => es.all (inL p)
  | .map es => es.all fun q => inA p q.2
  | .loop _ _ env => env.all fun q => inA p (getE env q.1)
  | .iter _ _ _ => true
  | .gone => true
theorem inL_get {p : Nat → Bool} : ∀ {l : List AV} {i : Nat} {x : AV}, inL p l = true → l[i]? = some x → inA p x = true
  | [], i, x, _, h => by simp at h
  | y :: r, 0, x, hl, h => by simp only [inL, Bool.and_eq_true] at hl; simp at h; subst h; exact hl.1
  | y :: r, i + 1, x, hl, h => by simp only [inL, Bool.and_eq_true] at hl; simp at h; exact inL_get hl.2 h
theorem inE_get {p : Nat → Bool} {env : List (Nat × AV)} (h : (env.all fun q => inA p (getE env q.1)) = true) (t : Nat) : inA p (getE env t) = true := by
  by_cases hm : ∃ q ∈ env, q.1 = t
  · obtain ⟨q, hq, rfl⟩ := hm
    exact List.all_eq_true.1 h q hq
  · have : getE env t = .dead := by
      clear h
      induction env with
      | nil => rfl
      | cons q r ih =>
        obtain ⟨a, b⟩ := q
        rw [getE_cons]
        split
        · rename_i e; exact absurd ⟨(a, b), List.mem_cons_self, e⟩ hm
        · exact ih fun ⟨q, hq, e⟩ => hm ⟨q, List.mem_cons_of_mem _ hq, e⟩
    rw [this]; rfl
theorem renL_get {g : Nat → Nat} : ∀ (l : List AV) (i : Nat), (renL g l)[i]? = (l[i]?).map (renA g)
  | [], i => by simp [renL]
  | x :: l, 0 => by simp [renL]
  | x :: l, i + 1 => by simpa [renL] using renL_get l i
theorem renL_len {g : Nat → Nat} : ∀ (l : List AV), (renL g l).length = l.length
  | [] => rfl
  | x :: l => by simp [renL, renL_len l]
theorem renE_get {g : Nat → Nat} : ∀ (env : List (Nat × AV)) (t : Nat), getE (renE g env) t = renA g (getE env t)
  | [], t => by simp [renE, getE, renA]
  | (k, x) :: r, t => by
    rw [show renE g ((k, x) :: r) = (k, renA g x) :: renE g r from rfl, getE_cons, getE_cons, renE_get r t]
    split <;> rfl
theorem VT.ren {S w x v} {g : Nat → Nat} (h : VT S w x v) : VT S w (renA g x) v := by
  induction h with
  | agg cs vs hl _ ih =>
    refine .agg _ _ (by rw [renL_len]; exact hl) fun i c v a b => ?_
    rw [renL_get] at a
    obtain ⟨c', h1, rfl⟩ := Option.map_eq_some_iff.1 a
    exact ih i c' v h1 b
  | tup cs vs hl _ ih =>
    refine .tup _ _ (by rw [renL_len]; exact hl) fun i c v a b => ?_
    rw [renL_get] at a
    obtain ⟨c', h1, rfl⟩ := Option.map_eq_some_iff.1 a
    exact ih i c' v h1 b
  | fn f fi ca vf vc h1 h2 _ _ ih1 ih2 =>
    refine .fn _ _ _ _ _ (by rw [renL_len]; exact h1) (by rw [renL_len]; exact h2) (fun i c v a b => ?_) fun i c v a b => ?_
    · rw [renL_get] at a
      obtain ⟨c', h1, rfl⟩ := Option.map_eq_some_iff.1 a
      exact ih1 i c' v h1 b
    · rw [renL_get] at a
      obtain ⟨c', h1, rfl⟩ := Option.map_eq_some_iff.1 a
      exact ih2 i c' v h1 b
  | iface t x v _ ih => exact .iface _ _ _ ih
  | sl n f a cap val h1 h2 h3 h4 _ => exact .sl n f a cap val h1 h2 h3 h4
  | tptr cs off b o val hb hc hr _ => exact .tptr cs off b o val hb hc hr
  | _ => first | exact .int _ _ | exact .bool _ | exact .str _ | exact .nilp | exact .nilfn | exact .nilif | exact .nilmap | exact .nilsl
theorem renO_gone {g : Nat → Nat} {o : AObj} : renO g o = .gone ↔ o = .gone := by cases o <;> simp [renO]

theorem VR.rename {μ μ' ρ ρ' S w x v} {p : Nat → Bool} {g : Nat → Nat} (h : VR μ ρ S w x v) (hr : inA p x = true) (hm : ∀ id o, p id = true → μ[id]? = some o → μ'[g id]? = some (renO g o) ∧ ρ' (g id) = ρ id) : VR μ' ρ' S w (renA g x) v := by
  induction h with
  | t h => exact .t h.ren
  | agg cs vs hl _ ih =>
    simp only [inA] at hr
    refine .agg _ vs (by rw [renL_len]; exact hl) fun i c v a b => ?_
    rw [renL_get] at a
    obtain ⟨c', h1, rfl⟩ := Option.map_eq_some_iff.1 a
    exact ih i c' v h1 b (inL_get hr h1)
  | tup cs vs hl _ ih =>
    simp only [inA] at hr
    refine .tup _ vs (by rw [renL_len]; exact hl) fun i c v a b => ?_
    rw [renL_get] at a
    obtain ⟨c', h1, rfl⟩ := Option.map_eq_some_iff.1 a
    exact ih i c' v h1 b (inL_get hr h1)
  | fn f fi ca vf vc h1 h2 _ _ ih1 ih2 =>
    simp only [inA, Bool.and_eq_true] at hr
    refine .fn _ _ _ vf vc (by rw [renL_len]; exact h1) (by rw [renL_len]; exact h2) (fun i c v a b => ?_) fun i c v a b => ?_
    · rw [renL_get] at a
      obtain ⟨c', h1, rfl⟩ := Option.map_eq_some_iff.1 a
      exact ih1 i c' v h1 b (inL_get hr.1 h1)
    · rw [renL_get] at a
      obtain ⟨c', h1, rfl⟩ := Option.map_eq_some_iff.1 a
      exact ih2 i c' v h1 b (inL_get hr.2 h1)
  | iface t x v _ ih => simp only [inA] at hr; exact .iface t _ v (ih hr)
  | hsl h1 h2 h3 => simp only [inA] at hr; obtain ⟨e1, e2⟩ := hm _ _ hr h1; exact .hsl e1 (by simpa using h2) (e2.trans h3)
  | hsl0 h1 h3 => simp only [inA] at hr; obtain ⟨e1, e2⟩ := hm _ _ hr h1; exact .hsl0 e1 (e2.trans h3)
  | hslOld v h1 h2 => simp only [inA] at hr; obtain ⟨e1, e2⟩ := hm _ _ hr h1; exact .hslOld v e1 h2
  | hslGone v h1 => simp only [inA] at hr; obtain ⟨e1, e2⟩ := hm _ _ hr h1; exact .hslGone v e1
  | ptr h1 h2 h3 => simp only [inA] at hr; obtain ⟨e1, e2⟩ := hm _ _ hr h1; exact .ptr e1 (by simpa using h2) (e2.trans h3)
  | ptrOld v h1 h2 => simp only [inA] at hr; obtain ⟨e1, e2⟩ := hm _ _ hr h1; exact .ptrOld v e1 h2
  | ptrGone v h1 => simp only [inA] at hr; obtain ⟨e1, e2⟩ := hm _ _ hr h1; exact .ptrGone v e1
  | mp h1 h3 => simp only [inA] at hr; obtain ⟨e1, e2⟩ := hm _ _ hr h1; exact .mp e1 (e2.trans h3)
  | mpI h1 h3 => simp only [inA] at hr; obtain ⟨e1, e2⟩ := hm _ _ hr h1; exact .mpI e1 (e2.trans h3)
  | mpGone v h1 => simp only [inA] at hr; obtain ⟨e1, e2⟩ := hm _ _ hr h1; exact .mpGone v e1
  | yl h1 h3 => simp only [inA] at hr; obtain ⟨e1, e2⟩ := hm _ _ hr h1; exact .yl e1 (e2.trans h3)
  | ylGone v h1 => simp only [inA] at hr; obtain ⟨e1, e2⟩ := hm _ _ hr h1; exact .ylGone v e1
  | dead v => exact .dead v

section rules
variable {K : Ctx}
theorem OR.rename {μ μ' ρ ρ' S w} {p : Nat → Bool} {g : Nat → Nat} {id id' : Nat} {o : AObj} (h : OR K ρ S μ w id o) (hr : inO p o = true) (hid : ρ' id' = ρ id) (hm : ∀ id o, p id = true → μ[id]? = some o → μ'[g id]? = some (renO g o) ∧ ρ' (g id) = ρ id) : OR K ρ' S μ' w id' (renO g o) := by
  cases o with
  | gone => trivial
  | row e gn sz es =>
    rcases h with h1 | ⟨B, cap, cur, h1, h2, h3, h4, h5, h6, h7, h8⟩
    · exact .inl ⟨hid.trans h1.1, by rw [h1.2]; rfl⟩
    · refine .inr ⟨B, cap, cur, hid.trans h1, h2, h3, h4, h5, by simpa using h6, h7, fun i cs hi => ?_⟩
      rw [List.getElem?_map] at hi
      obtain ⟨cs', i1, rfl⟩ := Option.map_eq_some_iff.1 hi
      refine ⟨by rw [renL_len]; exact (h8 i cs' i1).1, fun j c hj => ?_⟩
      rw [renL_get] at hj
      obtain ⟨c', j1, rfl⟩ := Option.map_eq_some_iff.1 hj
      obtain ⟨v, v1, v2, v3⟩ := (h8 i cs' i1).2 j c' j1
      refine ⟨v, v1, v2.rename ?_ hm, v3⟩
      simp only [inO] at hr
      exact inL_get (List.all_eq_true.1 hr cs' (List.mem_of_getElem? i1)) j1
  | map es =>
    obtain ⟨B, cap, ents, clock, h1, h2, h3, h4, es', h7, h5, h6⟩ := h
    refine ⟨B, cap, ents, clock, hid.trans h1, h2, h3, h4, _, h7.map _, ⟨by simpa using h5.1, h5.2⟩, fun i k' v hi => ?_⟩
    rw [List.getElem?_map] at hi
    obtain ⟨q, i1, i2⟩ := Option.map_eq_some_iff.1 hi
    obtain ⟨k0, v0⟩ := q
    cases i2
    obtain ⟨en, e1, e2, e3⟩ := h6 i k0 v0 i1
    refine ⟨en, e1, e2, e3.rename ?_ hm⟩
    simp only [inO] at hr
    exact List.all_eq_true.1 hr (k0, v0) (h7.mem_iff.1 (List.mem_of_getElem? i1))
  | loop c st env =>
    obtain ⟨B, cap, rec, h1, h2, h3, h4, h5, h6, h7, h8, h9, h10⟩ := h
    refine ⟨B, cap, rec, hid.trans h1, h2, h3, h4, h5, h6, h7, h8, h9, fun t => ?_⟩
    rw [renE_get]
    simp only [inO] at hr
    exact (h10 t).rename (inE_get hr t) hm
  | iter s pos ml =>
    obtain ⟨B, cap, h1, h2, h3, h4⟩ := h
    exact ⟨B, cap, hid.trans h1, h2, h3, h4⟩

mutual
theorem inA_ref {k : Nat} : ∀ {x : AV}, refA k x = true → inA (fun i => decide (i < k)) x = true := by
  intro x h
  cases x <;> simp only [refA, inA, Bool.and_eq_true, decide_eq_true_eq] at * <;> first | exact inL_ref h | exact ⟨inL_ref h.1, inL_ref h.2⟩ | exact inA_ref h | exact h | trivial
theorem inL_ref {k : Nat} : ∀ {l : List AV}, refL k l = true → inL (fun i => decide (i < k)) l = true := by
  intro l h
  cases l with
  | nil => rfl
  | cons x r => simp only [refL, inL, Bool.and_eq_true] at *; exact ⟨inA_ref h.1, inL_ref h.2⟩
end
theorem inO_ref {k : Nat} {o : AObj} (h : refO k o = true) : inO (fun i => decide (i < k)) o = true := by
  cases o with
  | gone => rfl
  | row e g sz es => simp only [refO, inO] at *; exact List.all_eq_true.2 fun x hx => inL_ref (List.all_eq_true.1 h x hx)
  | map es => simp only [refO, inO] at *; exact List.all_eq_true.2 fun x hx => inA_ref (List.all_eq_true.1 h x hx)
  | loop c st env => simp only [refO, refE, inO] at *; exact List.all_eq_true.2 fun x hx => inA_ref (List.all_eq_true.1 h x hx)
  | iter s pos ml => rfl

/-- Where the objects that the callee knows lie. -/
def posOf (el : List Nat) (n i : Nat) : Nat := match el[i]? with | some j => j | none => n + (i - el.length)
def backOf (el : List Nat) (j : Nat) : Nat := el.idxOf j
def renEnd (g : Nat → Nat) : AEnd → AEnd
  | .ret x => .ret (renA g x)
  | .panic x => .panic (renA g x)
/-- The caller's memory behind the call. -/
def putL (el : List Nat) (μ2 ν : List AObj) : List AObj :=
  ((List.range μ2.length).map fun j => if el.contains j then renO (posOf el μ2.length) (ν.getD (backOf el j) .gone) else μ2.getD j .gone) ++ (ν.drop el.length).map (renO (posOf el μ2.length))
theorem objTo_ren {a b : AObj} {r r' : Option (Nat × Nat)} {g g' : Nat → Nat} (h : ObjTo (renO g a) b r r') : ObjTo a (renO g' b) r r' := by
  cases a <;> cases b <;> simp only [renO, ObjTo, List.length_map] at * <;> exact h
theorem back_get {el : List Nat} {j : Nat} (h : j ∈ el) : el[backOf el j]? = some j := by
  unfold backOf
  have hl := List.idxOf_lt_length_of_mem h
  rw [List.getElem?_eq_getElem hl, List.getElem_idxOf hl]
theorem back_of {el : List Nat} {i j : Nat} (hnd : el.Nodup) (h : el[i]? = some j) : backOf el j = i := by
  have h2 := back_get (List.mem_of_getElem? h)
  have l1 := (List.getElem?_eq_some_iff.1 h2).1
  have l2 := (List.getElem?_eq_some_iff.1 h).1
  exact (List.getElem?_inj l1 hnd).1 (h2.trans h.symm)

/-- Which of the callee's objects lie where. -/
def placeOK (el : List Nat) (μ2 : List AObj) : Bool := (decide el.Nodup && el.all fun j => decide (j < μ2.length)) && el.all fun j => inO (fun i => el.contains i) (μ2.getD j .gone)

theorem ACalls.place {f : Nat} {args args2 : List AV} {μ μ2 : List AObj} {R : AEnd → List AObj → Prop} (el : List Nat) (h : ACalls K f args μ R) (hnd : el.Nodup) (hlt : ∀ j ∈ el, j < μ2.length)
    (hμ : el.map (fun j => renO (backOf el) (μ2.getD j .gone)) = μ) (hin : ∀ j ∈ el, inO (fun i => el.contains i) (μ2.getD j .gone) = true) (ha : renL (backOf el) args2 = args) (hain : inL (fun i => el.contains i) args2 = true) :
    ACalls K f args2 μ2 fun ae ν2 => ∃ ae1 ν, R ae1 ν ∧ ae = renEnd (posOf el μ2.length) ae1 ∧ ν2 = putL el μ2 ν := by
  refine ⟨h.1, fun ρ2 S w vs hr hlv hv => ?_⟩
  obtain ⟨ρ1, hρ1⟩ : ∃ ρ1 : Nat → Option (Nat × Nat), ρ1 = fun i => match el[i]? with | some j => ρ2 j | none => none := ⟨_, rfl⟩
  have r1 : ∀ {i j : Nat}, el[i]? = some j → ρ1 i = ρ2 j := fun {i j} hi => by rw [hρ1]; simp only [hi]
  have getD2 : ∀ {j : Nat} {o : AObj}, μ2[j]? = some o → μ2.getD j .gone = o := fun hj => by simp [List.getD, hj]
  have hml : μ.length = el.length := by rw [← hμ]; simp
  have hμg : ∀ {i : Nat} {o : AObj}, μ[i]? = some o → ∃ j o2, el[i]? = some j ∧ μ2[j]? = some o2 ∧ o = renO (backOf el) o2 := fun {i o} hi => by
    rw [← hμ, List.getElem?_map] at hi
    obtain ⟨j, j1, rfl⟩ := Option.map_eq_some_iff.1 hi
    have hj := hlt j (List.mem_of_getElem? j1)
    exact ⟨j, _, j1, List.getElem?_eq_getElem hj, by rw [getD2 (List.getElem?_eq_getElem hj)]⟩
  have hm1 : ∀ id o, el.contains id = true → μ2[id]? = some o → μ[backOf el id]? = some (renO (backOf el) o) ∧ ρ1 (backOf el id) = ρ2 id := fun id o hc hi => by
    have hmem : id ∈ el := by simpa using hc
    have hb := back_get hmem
    refine ⟨?_, r1 hb⟩
    rw [← hμ, List.getElem?_map, hb]
    simp only [Option.map_some, getD2 hi]
  have hr1 : RepMu K ρ1 S μ w := by
    refine ⟨hr.below, hr.st, hr.own, fun i o hi => ?_, fun i i' o o' B c c' hi hi' hne hne' hB hB' => ?_⟩
    · obtain ⟨j, o2, j1, j2, rfl⟩ := hμg hi
      have := hin j (List.mem_of_getElem? j1)
      rw [getD2 j2] at this
      exact (hr.ob j o2 j2).rename this (r1 j1) hm1
    · obtain ⟨j, o2, j1, j2, rfl⟩ := hμg hi
      obtain ⟨j', o2', j1', j2', rfl⟩ := hμg hi'
      rw [r1 j1] at hB; rw [r1 j1'] at hB'
      have e := hr.inj j j' o2 o2' B c c' j2 j2' (fun h => hne (renO_gone.2 h)) (fun h => hne' (renO_gone.2 h)) hB hB'
      subst e
      exact (back_of hnd j1).symm.trans (back_of hnd j1')
  have hla : args.length = args2.length := by rw [← ha, renL_len]
  refine (h.2 ρ1 S w vs hr1 (hlv.trans hla.symm) (fun i x v a b => by
    rw [← ha, renL_get] at a
    obtain ⟨x2, a1, rfl⟩ := Option.map_eq_some_iff.1 a
    exact (hv i x2 v a1 b).rename (inL_get hain a1) hm1)).mono ?_
  rintro en w' ⟨ae1, ν, ρ', S', hR, hE, hr', hst⟩
  have hνl : el.length ≤ ν.length := by
    rw [← hml]
    by_cases h0 : μ.length = 0
    · omega
    · obtain ⟨o', h1, -⟩ := hst.obj (μ.length - 1) _ (List.getElem?_eq_getElem (by omega))
      have := (List.getElem?_eq_some_iff.1 h1).1
      omega
  obtain ⟨pos, hposd⟩ : ∃ pos, pos = posOf el μ2.length := ⟨_, rfl⟩
  have p1 : ∀ {i j : Nat}, el[i]? = some j → pos i = j := fun {i j} hi => by rw [hposd]; unfold posOf; simp only [hi]
  have p2 : ∀ {i : Nat}, el.length ≤ i → pos i = μ2.length + (i - el.length) := fun {i} hi => by rw [hposd]; unfold posOf; simp only [List.getElem?_eq_none hi]
  obtain ⟨ρ3, hρ3⟩ : ∃ ρ3 : Nat → Option (Nat × Nat), ρ3 = fun j => if el.contains j = true then ρ' (backOf el j) else if j < μ2.length then ρ2 j else ρ' (el.length + (j - μ2.length)) := ⟨_, rfl⟩
  have hnc : ∀ {j : Nat}, μ2.length ≤ j → ¬ el.contains j = true := fun {j} hj hc => by
    have := hlt j (by simpa using hc); omega
  have r3 : ∀ i, ρ3 (pos i) = ρ' i := fun i => by
    by_cases hi : i < el.length
    · have h1 : el[i]? = some el[i] := List.getElem?_eq_getElem hi
      rw [p1 h1, hρ3]
      have hc : el.contains el[i] = true := by simp
      simp only [hc, if_true, back_of hnd h1]
    · rw [p2 (by omega), hρ3]
      have hc := hnc (j := μ2.length + (i - el.length)) (by omega)
      show (if _ then _ else _) = _
      rw [if_neg hc]
      show (if _ then _ else _) = _
      rw [if_neg (by omega)]
      congr 1; omega
  have r3o : ∀ {j : Nat}, j < μ2.length → ¬ el.contains j = true → ρ3 j = ρ2 j := fun {j} h1 h2 => by rw [hρ3]; show (if _ then _ else _) = _; rw [if_neg h2]; show (if _ then _ else _) = _; rw [if_pos h1]
  obtain ⟨ν2, hν2⟩ : ∃ ν2, ν2 = putL el μ2 ν := ⟨_, rfl⟩
  have g1 : ∀ {j : Nat}, j < μ2.length → ν2[j]? = some (if el.contains j then renO pos (ν.getD (backOf el j) .gone) else μ2.getD j .gone) := fun {j} hj => by
    rw [hν2, hposd]; unfold putL
    rw [List.getElem?_append_left (by simpa using hj), List.getElem?_map, List.getElem?_range hj]
    rfl
  have g2 : ∀ {i : Nat}, el.length ≤ i → ν2[μ2.length + (i - el.length)]? = (ν[i]?).map (renO pos) := fun {i} hi => by
    rw [hν2, hposd]; unfold putL
    rw [List.getElem?_append_right (by simp), List.getElem?_map, List.getElem?_drop]
    congr 2
    simp; omega
  have gp : ∀ i o, ν[i]? = some o → ν2[pos i]? = some (renO pos o) := fun i o hi => by
    by_cases hl : i < el.length
    · have h1 : el[i]? = some el[i] := List.getElem?_eq_getElem hl
      rw [p1 h1, g1 (hlt _ (List.getElem_mem hl))]
      have hc : el.contains el[i] = true := by simp
      rw [if_pos hc, back_of hnd h1]
      simp [List.getD, hi]
    · rw [p2 (by omega), g2 (by omega), hi]; rfl
  have cls : ∀ i o, ν2[i]? = some o → (∃ id o', i = pos id ∧ ν[id]? = some o' ∧ o = renO pos o') ∨ (i < μ2.length ∧ ¬ el.contains i = true ∧ μ2[i]? = some o) := fun i o hi => by
    by_cases hl : i < μ2.length
    · rw [g1 hl] at hi
      by_cases hc : el.contains i = true
      · rw [if_pos hc] at hi
        cases hi
        have hb := back_get (show i ∈ el by simpa using hc)
        have hbl := (List.getElem?_eq_some_iff.1 hb).1
        have hν : ν[backOf el i]? = some ν[backOf el i] := List.getElem?_eq_getElem (by omega)
        exact .inl ⟨backOf el i, _, (p1 hb).symm, hν, by simp [List.getD, hν]⟩
      · rw [if_neg hc] at hi
        cases hi
        exact .inr ⟨hl, hc, by rw [List.getElem?_eq_getElem hl, getD2 (List.getElem?_eq_getElem hl)]⟩
    · have e : i = μ2.length + (el.length + (i - μ2.length) - el.length) := by omega
      rw [e, g2 (by omega)] at hi
      obtain ⟨o', o1, rfl⟩ := Option.map_eq_some_iff.1 hi
      exact .inl ⟨el.length + (i - μ2.length), o', by rw [p2 (by omega)]; omega, o1, rfl⟩
  have hm2 : ∀ id o, (decide (id < ν.length)) = true → ν[id]? = some o → ν2[pos id]? = some (renO pos o) ∧ ρ3 (pos id) = ρ' id := fun id o _ hi => ⟨gp id o hi, r3 id⟩
  have k : Stab0 μ2 ρ2 S w ν2 ρ3 S' w' := by
    refine ⟨hst.sub, hst.blk, fun id o ho => ?_⟩
    have hl := (List.getElem?_eq_some_iff.1 ho).1
    by_cases hc : el.contains id = true
    · obtain ⟨a1, a2⟩ := hm1 id o hc ho
      obtain ⟨o', b1, b2⟩ := hst.obj _ _ a1
      have hb := back_get (show id ∈ el by simpa using hc)
      refine ⟨renO pos o', by rw [← p1 hb]; exact gp _ _ b1, ?_⟩
      have e3 : ρ3 id = ρ' (backOf el id) := by rw [← r3, p1 hb]
      rw [e3, ← a2]
      exact objTo_ren b2
    · exact ⟨o, by rw [g1 hl, if_neg hc, getD2 ho], by rw [r3o hl hc]; exact ObjTo.refl o _⟩
  have hfr : ∀ (i : Nat) o B c, μ2[i]? = some o → ¬ el.contains i = true → o ≠ .gone → ρ2 i = some (B, c) → w'.heap[B]? = w.heap[B]? ∧ ¬ S' B ∧ NoOwn ν ρ' B := fun i o B c hi hc hne hB => by
    obtain ⟨b1, b2, b3⟩ := hr.blk hi hne hB
    refine hst.fr B b3 b2 fun i' o' c' hi' hne' hB' => ?_
    obtain ⟨j, o2, j1, j2, rfl⟩ := hμg hi'
    rw [r1 j1] at hB'
    have := hr.inj i j o o2 B c c' hi j2 hne (fun h => hne' (renO_gone.2 h)) hB hB'
    subst this
    exact hc (by simpa using List.mem_of_getElem? j1)
  have hrefM := hr'.refM
  refine ⟨renEnd pos ae1, ν2, ρ3, S', ⟨ae1, ν, hR, by rw [hposd], hν2⟩, ?_, ⟨hr'.below, hr'.st, hr'.own, fun i o hi => ?_, fun i i' o o' B c c' hi hi' hne hne' hB hB' => ?_⟩, ⟨hst.sub, hst.blk, k.obj, hst.size, hst.col, fun b hlt' b1 b2 => ?_⟩⟩
  · cases ae1 <;> cases en <;> simp only [EndRel, renEnd] at hE ⊢
    · exact hE.rename (inA_ref hE.refs) hm2
    · rename_i x chain
      match chain, hE with
      | [⟨v, false, false⟩], hE => exact VR.rename hE (inA_ref (VR.refs hE)) hm2
  · rcases cls i o hi with ⟨id, o', rfl, h1, rfl⟩ | ⟨h1, h2, h3⟩
    · refine (hr'.ob id o' h1).rename (inO_ref ?_) (r3 id) hm2
      exact refM_get hrefM h1
    · exact (hr.ob i o h3).stab0 k (r3o h1 h2) fun B c hB hne => ⟨(hfr i o B c h3 h2 hne hB).2.1, (hfr i o B c h3 h2 hne hB).1⟩
  · rcases cls i o hi with ⟨id, o1, rfl, h1, rfl⟩ | ⟨h1, h2, h3⟩ <;> rcases cls i' o' hi' with ⟨id', o1', rfl, h1', rfl⟩ | ⟨h1', h2', h3'⟩
    · rw [r3] at hB hB'
      rw [hr'.inj id id' o1 o1' B c c' h1 h1' (fun h => hne (renO_gone.2 h)) (fun h => hne' (renO_gone.2 h)) hB hB']
    · rw [r3] at hB; rw [r3o h1' h2'] at hB'
      exact absurd hB ((hfr i' o' B c' h3' h2' hne' hB').2.2 id o1 c h1 (fun h => hne (renO_gone.2 h)))
    · rw [r3] at hB'; rw [r3o h1 h2] at hB
      exact absurd hB' ((hfr i o B c h3 h2 hne hB).2.2 id' o1' c' h1' (fun h => hne' (renO_gone.2 h)))
    · rw [r3o h1 h2] at hB; rw [r3o h1' h2'] at hB'
      exact hr.inj i i' o o' B c c' h3 h3' hne hne' hB hB'
  · obtain ⟨a1, a2, a3⟩ := hst.fr b hlt' b1 fun i o c hi hne => by
      obtain ⟨j, o2, j1, j2, rfl⟩ := hμg hi
      rw [r1 j1]
      exact b2 j o2 c j2 fun h => hne (renO_gone.2 h)
    refine ⟨a1, a2, fun i o c hi hne => ?_⟩
    rcases cls i o hi with ⟨id, o1, rfl, h1, rfl⟩ | ⟨h1, h2, h3⟩
    · rw [r3]; exact a3 id o1 c h1 fun h => hne (renO_gone.2 h)
    · rw [r3o h1 h2]; exact b2 i o c h3 hne
theorem ACalls.placed {f : Nat} {args args2 : List AV} {μ μ2 : List AObj} {R : AEnd → List AObj → Prop} (el : List Nat) (h : ACalls K f args μ R) (hok : placeOK el μ2 = true)
    (hμ : el.map (fun j => renO (backOf el) (μ2.getD j .gone)) = μ) (ha : renL (backOf el) args2 = args) (hain : inL (fun i => el.contains i) args2 = true) :
    ACalls K f args2 μ2 fun ae ν2 => ∃ ae1 ν, R ae1 ν ∧ ae = renEnd (posOf el μ2.length) ae1 ∧ ν2 = putL el μ2 ν := by
  simp only [placeOK, Bool.and_eq_true, decide_eq_true_eq] at hok
  obtain ⟨⟨h1, h2⟩, h3⟩ := hok
  exact h.place el h1 (fun j hj => by simpa using List.all_eq_true.1 h2 j hj) hμ (fun j hj => List.all_eq_true.1 h3 j hj) ha hain
end rules
end Go.Av
set_option linter.unusedVariables false
set_option linter.unusedSimpArgs false
namespace Go.Av
open Go.RowKit
section rules
variable {K : Ctx}
theorem RepMu.recell {ρ S μ w} (h : RepMu K ρ S μ w) {id e g sz : Nat} {es es' : List (List AV)} (ho : μ[id]? = some (.row e g sz es)) (hl : es'.length = es.length)
    (hc : ∀ (i : Nat) cs', es'[i]? = some cs' → ∃ cs, es[i]? = some cs ∧ cs'.length = cs.length ∧ ∀ (j : Nat) c', cs'[j]? = some c' → ∃ c, cs[j]? = some c ∧ ∀ v, VR μ ρ S w c v → VR μ ρ S w c' v) :
    RepMu K ρ S (μ.set id (.row e g sz es')) w ∧ Stab μ ρ S w (μ.set id (.row e g sz es')) ρ S w := by
  have hlt := (List.getElem?_eq_some_iff.1 ho).1
  have k : Stab μ ρ S w (μ.set id (.row e g sz es')) ρ S w := by
    refine ⟨fun _ h => h, fun b hb' => rfl, fun i o hi => ?_, Nat.le_refl _, fun _ h1 h2 => ⟨h2, h1⟩, fun b hlt h1 h2 => ⟨rfl, h1, fun i p c hi hne => ?_⟩⟩
    · by_cases hid : i = id
      · subst hid
        rw [ho] at hi; cases hi
        exact ⟨_, List.getElem?_set_self hlt, .inr ⟨rfl, rfl, rfl, by omega, rfl⟩⟩
      · exact ⟨o, by rw [List.getElem?_set_ne (Ne.symm hid)]; exact hi, ObjTo.refl o _⟩
    · by_cases hid : i = id
      · subst hid
        exact h2 i _ c ho (by intro h; cases h)
      · rw [List.getElem?_set_ne (Ne.symm hid)] at hi
        exact h2 i p c hi hne
  refine ⟨h.next h.below h.st h.own k (fun i o hi => ?_) ?_, k⟩
  · by_cases hid : i = id
    · subst hid
      rw [List.getElem?_set_self hlt] at hi
      cases hi
      refine .inr ?_
      rcases h.ob i _ ho with ⟨a1, rfl⟩ | ⟨B, cap, cur, h1, h2, h3, h4, h5, h6, h7, h8⟩
      · exact .inl ⟨a1, List.eq_nil_of_length_eq_zero (by simpa using hl)⟩
      · refine .inr ⟨B, cap, cur, h1, h2, h3, h4, h5, by omega, h7, fun i' cs' hi' => ?_⟩
        obtain ⟨cs, b1, b2, b3⟩ := hc i' cs' hi'
        refine ⟨by rw [b2]; exact (h8 i' cs b1).1, fun j c' hj => ?_⟩
        obtain ⟨c, c1, c2⟩ := b3 j c' hj
        obtain ⟨v, v1, v2, v3⟩ := (h8 i' cs b1).2 j c c1
        exact ⟨v, v1, (c2 v v2).stab k, v3⟩
    · rw [List.getElem?_set_ne (Ne.symm hid)] at hi
      exact .inl ⟨hi, rfl, fun B c hB hne => ⟨(h.blk hi hne hB).2.1, rfl⟩⟩
  · intro i i' o o' B c c' hi hi' hne hne' hB hB'
    have q : ∀ (i : Nat) o, (μ.set id (.row e g sz es'))[i]? = some o → o ≠ .gone → ∃ o2, μ[i]? = some o2 ∧ o2 ≠ .gone := fun i o hi hne => by
      by_cases hid : i = id
      · subst hid; exact ⟨_, ho, by intro h; cases h⟩
      · rw [List.getElem?_set_ne (Ne.symm hid)] at hi; exact ⟨o, hi, hne⟩
    obtain ⟨o2, a1, a2⟩ := q i o hi hne
    obtain ⟨o2', b1, b2⟩ := q i' o' hi' hne'
    exact h.inj i i' o2 o2' B c c' a1 b1 a2 b2 hB hB'

/-- The memory in which the nil slice in a cell is an owned row. -/
def ghC (μ : List AObj) (id i j e' sz' : Nat) : List AObj :=
  match μ[id]? with
  | some (.row e g sz es) => (μ ++ [AObj.row e' 0 sz' []]).set id (.row e g sz (es.set i ((es.getD i []).set j (.hsl μ.length 0 sz' 0))))
  | _ => μ
end rules
end Go.Av
set_option linter.unusedVariables false
set_option linter.unusedSimpArgs false
namespace Go.Av
open Go.RowKit
/-- A quiet run. -/
def qval : List SOper → List (Nat × AV) → List AObj → Option (List AV × List (Nat × AV))
  | [], env, _ => some ([], env)
  | s :: l, env, μ =>
    if wantA s.guard env = some true ∧ quietK s.op = true then
      match sopA s.op env μ with
      | some (x, _) => (match qval l (pushE env s.dst x) μ with | some (xs, e) => some (x :: xs, e) | none => none)
      | none => none
    else none
section rules
variable {K : Ctx} {F : Fcx} {Q : AExit → St → Prop}
theorem qval_sound {μ : List AObj} : ∀ {l : List SOper} {env env' : List (Nat × AV)} {xs : List AV}, qval l env μ = some (xs, env') → QRun K μ l env none xs env'
  | [], env, env', xs, h => by
    simp only [qval, Option.some.injEq, Prod.mk.injEq] at h
    obtain ⟨rfl, rfl⟩ := h
    exact .nil
  | s :: l, env, env', xs, h => by
    simp only [qval] at h
    split at h
    · rename_i hg
      split at h
      · rename_i x μ' hx
        split at h
        · rename_i ys e hq
          simp only [Option.some.injEq, Prod.mk.injEq] at h
          obtain ⟨rfl, rfl⟩ := h
          obtain rfl := faA_same hg.2 hx
          exact .op (.inl ⟨hg.1, hg.2, hx⟩) (qval_sound hq)
        · cases h
      · cases h
    · cases h
end rules
end Go.Av
