/- From the row's readings to trees, and back. -/
import Derived.Test.YtcllnnjeaidppaaGreatDoorPMc
import Derived.ProofKit
import Derived.Deep.Slices
import Derived.LaidLaws
import Derived.LaidHandle
import Derived.MakeChecks
set_option linter.unusedVariables false
set_option linter.unusedSimpArgs false
namespace Go.Tk
open Go Go.Av Go.RowKit Go.ChangeShapes Go.WideShapes

/-- Cells that read as these trees. -/
def VTs (w : World) (xs : List AV) (cs : List Value) : Prop := xs.length = cs.length ∧ ∀ (i : Nat) x v, xs[i]? = some x → cs[i]? = some v → VT (· < w.heap.size) w x v ∧ v.oneCell' = true

/-- Whatever reads at this type is such a tree. -/
def Rd {H : Type} (enc : TypeId × Value → H) (P : Program) (w : World) (t : TypeId) {α : Type} (ok : α → Prop) (en : α → List AV) : Prop :=
  ∀ fuel cs x, DataW.trod enc P w 0 (fun _ => true) true fuel t cs = some x → ∃ a : α, ok a ∧ VTs w (en a) cs

section
variable {H : Type} {enc : TypeId × Value → H} {P : Program} {w : World}

theorem VTs.one {x : AV} {v : Value} (h : VT (· < w.heap.size) w x v) (ho : v.oneCell' = true) : VTs w [x] [v] := by
  refine ⟨rfl, fun i y u hy hu => ?_⟩
  cases i with
  | zero => simp at hy hu; subst hy; subst hu; exact ⟨h, ho⟩
  | succ i => simp at hy

theorem VTs.append {xs ys : List AV} {cs ds : List Value} (h1 : VTs w xs cs) (h2 : VTs w ys ds) : VTs w (xs ++ ys) (cs ++ ds) := by
  refine ⟨by simp [h1.1, h2.1], fun i x v hx hv => ?_⟩
  by_cases hi : i < xs.length
  · rw [List.getElem?_append_left hi] at hx
    rw [List.getElem?_append_left (by rw [← h1.1]; exact hi)] at hv
    exact h1.2 i x v hx hv
  · rw [List.getElem?_append_right (by omega)] at hx
    rw [List.getElem?_append_right (by rw [← h1.1]; omega), ← h1.1] at hv
    exact h2.2 _ x v hx hv

abbrev i64 (n : Int) : Prop := -9223372036854775808 ≤ n ∧ n ≤ 9223372036854775807

theorem rd_int {t : TypeId} (ht : P.underlying t = some (.int .i64)) : Rd enc P w t i64 (fun n => [AV.int .i64 n]) := by
  intro fuel cs x h
  obtain ⟨n, rfl, -, hw⟩ := DataW.trod_int ht h
  refine ⟨n, ?_, VTs.one (.int _ _) rfl⟩
  have e1 : IntKind.i64.min = -9223372036854775808 := by decide
  have e2 : IntKind.i64.max = 9223372036854775807 := by decide
  simp only [Lit.wf, e1, e2, Bool.and_eq_true, decide_eq_true_eq] at hw
  unfold i64
  omega

theorem cell_spot {a : Addr} {v : Value} (h : w.cell? a = some v) : a.spot = none ∧ a.block < w.heap.size := by
  unfold World.cell? at h
  split at h
  · rename_i c t fr hb
    refine ⟨?_, (Array.getElem?_eq_some_iff.1 hb).1⟩
    cases hs : a.spot with
    | none => rfl
    | some s => simp [hs] at h
  · cases h

theorem cells_get {a : Addr} {n : Nat} {cs : List Value} (h : w.cells? 0 a n = some cs) : cs.length = n ∧ ∀ j, j < n → ∃ v, cs[j]? = some v ∧ w.cell? (a.add j) = some v := by
  unfold World.cells? at h
  split at h
  · have hl := mapM_some_length h
    simp at hl
    refine ⟨hl, fun j hj => ?_⟩
    have := mapM_some_get h j j (by simp [hj])
    rw [List.getElem?_eq_getElem (by omega)] at this
    exact ⟨_, List.getElem?_eq_getElem (by omega), this⟩
  · cases h

theorem addr_add (b o i : Nat) : (⟨b, o, none⟩ : Addr).add i = ⟨b, o + i, none⟩ := by
  unfold Addr.add
  split
  · rename_i h; subst h; rfl
  · rfl

theorem rd_slice {t e sz : Nat} (ht : P.underlying t = some (.slice e)) (hsz : P.cellsOf e = sz) (h0 : 0 < sz) {α : Type} [Inhabited α] {ok : α → Prop} {en : α → List AV} (r : Rd enc P w e ok en) :
    Rd enc P w t (fun l : List α => l.length ≤ maxLen ∧ ∀ a ∈ l, ok a) (fun l => [slOf en l]) := by
  intro fuel cs x h
  rcases Go.Deep.open_slice ht h with ⟨rfl, -⟩ | ⟨a, len, cap, m, n, D, Pl, rfl, -, hl, hm, hme, -, hel⟩
  · exact ⟨[], ⟨by simp, by simp⟩, VTs.one (.sl 0 _ none 0 (fun _ _ => .nilFunc) (Nat.le_refl _) (Nat.zero_le _) (fun h => absurd h (Nat.lt_irrefl _)) (fun i hi => absurd hi (Nat.not_lt_zero _))) rfl⟩
  · simp only [if_true] at hme
    subst hme
    have hex : ∀ i, i < len → ∃ p : α × List Value, ok p.1 ∧ w.cells? 0 (a.add (i * sz)) sz = some p.2 ∧ VTs w (en p.1) p.2 := by
      intro i hi
      obtain ⟨cs', h1, h2⟩ := hel i (by omega)
      rw [hsz] at h1
      obtain ⟨y, hy, hv⟩ := r _ _ _ h2
      exact ⟨⟨y, cs'⟩, hy, h1, hv⟩
    obtain ⟨f, hf⟩ := Go.Deep.choose_lt hex
    have hget : ∀ i, i < len → ((List.range len).map fun i => (f i).1).getD i default = (f i).1 := fun i hi => by simp [List.getD, hi]
    refine ⟨(List.range len).map fun i => (f i).1, ⟨by simp; omega, fun y hy => ?_⟩, VTs.one ?_ rfl⟩
    · obtain ⟨i, hi, rfl⟩ := List.mem_map.1 hy
      exact (hf i (List.mem_range.1 hi)).1
    · unfold slOf
      rw [show ((List.range len).map fun i => (f i).1).length = len by simp]
      refine .sl len _ (some a) _ (fun i j => ((f i).2.getD j .nilFunc)) hl hm (fun hn => ?_) (fun i hi j c hc => ?_)
      · obtain ⟨-, c0, v0⟩ := hf 0 hn
        obtain ⟨l0, g0⟩ := cells_get c0
        obtain ⟨v, -, hv⟩ := g0 0 h0
        have hs := cell_spot hv
        obtain ⟨b, o, sp⟩ := a
        have hsp : sp = none := by simpa [Addr.add] using hs.1
        subst hsp
        refine ⟨b, o, sz, rfl, ?_, fun i hi => ?_⟩
        · simpa [addr_add] using hs.2
        · obtain ⟨-, ci, vi⟩ := hf i hi
          obtain ⟨li, gi⟩ := cells_get ci
          refine ⟨by rw [hget i hi, vi.1, li], fun j hj => ?_⟩
          obtain ⟨v, hv1, hv2⟩ := gi j hj
          have e : (f i).2.getD j .nilFunc = v := by simp [List.getD, hv1]
          rw [addr_add, addr_add, Nat.add_assoc] at hv2
          rw [e]
          have hx : (en (f i).1)[j]? = some ((en (f i).1)[j]'(by rw [vi.1, li]; exact hj)) := List.getElem?_eq_getElem _
          exact ⟨hv2, (vi.2 j _ _ hx hv1).2⟩
      · obtain ⟨-, ci, vi⟩ := hf i hi
        rw [hget i hi] at hc
        have hj : j < (f i).2.length := by rw [← vi.1]; exact (List.getElem?_eq_some_iff.1 hc).1
        have hv : (f i).2[j]? = some ((f i).2[j]) := List.getElem?_eq_getElem hj
        have e : (f i).2.getD j .nilFunc = (f i).2[j] := by simp [List.getD, hv]
        rw [e]
        exact (vi.2 j _ _ hc hv).1

/-- A struct's fields, each by its own reading. -/
theorem rd_fields {t : TypeId} {fs : Array Field} {fuel : Nat} {cs : List Value} {x : DataW H × List MemPlace} (ht : P.underlying t = some (.struct fs)) (h : DataW.trod enc P w 0 (fun _ => true) true fuel t cs = some x) :
    cs.length = P.cellsOf t ∧ ∃ n, ∀ f ∈ fs.toList, ∃ y, DataW.trod enc P w 0 (fun _ => true) true n f.type ((cs.drop f.offset).take (P.cellsOf f.type)) = some y := by
  obtain ⟨xs, n, -, -, hl, hx, hf⟩ := DataW.trod_struct ht h
  refine ⟨hl, n, fun f hm => ?_⟩
  obtain ⟨i, hi⟩ := List.getElem?_of_mem hm
  have hi' : fs[i]? = some f := by simpa using hi
  have hlt := (Array.getElem?_eq_some_iff.1 hi').1
  have := hf i f hi'
  rw [List.getElem?_eq_getElem (by omega)] at this
  exact ⟨_, this⟩

/-- .. one cell. -/
theorem arg_one {t : TypeId} {v : Value} {d : DataW H} {ps : List MemPlace} (hv : v.cells = #[v]) (h : DataW.Trod enc P w 0 (fun _ => true) true t v d ps)
    {α : Type} {ok : α → Prop} {en : α → AV} (rd : Rd enc P w t ok (fun a => [en a])) : ∃ a : α, ok a ∧ VT (· < w.heap.size) w (en a) v := by
  obtain ⟨fuel, hf⟩ := h
  obtain ⟨a, ha, hvt⟩ := rd _ _ _ hf
  rw [hv] at hvt
  exact ⟨a, ha, (hvt.2 0 _ _ rfl rfl).1⟩

theorem trodAll_below {ts : List TypeId} (hl : laidOutB P = true) (hr : ∀ t ∈ ts, P.readableRec t = true ∧ t < P.types.size) {W W' : World} (hb : Below W.heap.size W W') :
    ∀ {vs : List Value} {ds : List (DataW H)} {ps : List MemPlace}, DataW.TrodAll enc P W 0 (fun _ => true) true ts vs ds ps → (∀ x ∈ ps, x.block < W.heap.size) → DataW.TrodAll enc P W' 0 (fun b => decide (b < W.heap.size)) true ts vs ds ps := by
  induction ts with
  | nil => intro vs ds ps h _; cases vs <;> cases ds <;> first | exact h | exact h.elim
  | cons t ts ih =>
    intro vs ds ps h hps
    cases vs with
    | nil => cases ds <;> exact h.elim
    | cons v vs =>
      cases ds with
      | nil => exact h.elim
      | cons d ds =>
        obtain ⟨p, q, h1, h2, rfl⟩ := h
        refine ⟨p, q, ?_, ih (fun t ht => hr t (List.mem_cons_of_mem _ ht)) h2 (fun x hx => hps x (List.mem_append_right _ hx)), rfl⟩
        exact Below.trod hl (hr t List.mem_cons_self).1 (hr t List.mem_cons_self).2 h1 hb (fun x hx => hps x (List.mem_append_left _ hx))

/-- A law has answered true, and nothing that was there has turned. -/
theorem post_law {fn : Func} {s : ChangeSpec} {W W' : World} {args : Array Value} {ds gs : List (DataW H)} {before : List MemPlace} {tb : TypeId}
    (hW : DataW.Whole enc P fn.params.toList s.vars false W args.toList ds gs before) (hvars : s.vars = []) (hres : (s.fn H (ds ++ gs)).results = [.lit (.bool true)]) (hargs : (s.fn H (ds ++ gs)).args = ds) (hgs : (s.fn H (ds ++ gs)).vars = [])
    (hrt : fn.resultTypes = #[tb]) (htb : P.underlying tb = some .bool) (hb : Below W.heap.size W W') (hl : laidOutB P = true) (hr : ∀ t ∈ fn.params.toList, P.readableRec t = true ∧ t < P.types.size) :
    s.post enc P fn false true false false W args (.bool true) W' := by
  have hlt : ∀ p ∈ before, p.block < W.heap.size := hW.lt
  have hW' := hW
  obtain ⟨p, q, hA, hV, rfl, hz, hn⟩ := hW'
  have hgs0 : gs = [] := by
    rw [hvars] at hV
    cases gs with
    | nil => rfl
    | cons => exact hV.elim
  refine ⟨ds, gs, p ++ q, [], p, [], hW, ?_, ?_, ?_, hb.frame _, fun h => by cases h⟩
  · rw [hres, hrt]
    exact trodAll_mk1 (shut_bool htb true)
  · rw [hargs]
    exact trodAll_below hl hr hb hA (fun x hx => hlt x (List.mem_append_left _ hx))
  · rw [hgs, hvars]; rfl
end
end Go.Tk
