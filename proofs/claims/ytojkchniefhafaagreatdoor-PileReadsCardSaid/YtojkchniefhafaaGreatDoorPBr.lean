/- From the row's readings to trees, and back. -/
import Derived.Test.YtojkchniefhafaaGreatDoorPMc
import Derived.ProofKit
import Derived.Deep.Slices
import Derived.LaidLaws
import Derived.LaidHandle
import Derived.MakeChecks
set_option linter.unusedVariables false
set_option linter.unusedSimpArgs false
namespace Go.Tk
open Go Go.Av Go.RowKit Go.ChangeShapes Go.WideShapes

/-- Cells that read as these trees. -/
def VTs (w : World) (xs : List AV) (cs : List Value) : Prop := xs.length = cs.length ∧ ∀ (i : Nat) x v, xs[i]? = some x → cs[i]? = some v → VT (· < w.heap.size) w x v ∧ v.oneCell' = true

/-- Whatever reads at this type is such a tree. -/
def Rd {H : Type} (enc : TypeId × Value → H) (P : Program) (w : World) (t : TypeId) {α : Type} (ok : α → Prop) (en : α → List AV) : Prop :=
  ∀ fuel cs x, DataW.trod enc P w 0 (fun _ => true) true fuel t cs = some x → ∃ a : α, ok a ∧ VTs w (en a) cs

section
variable {H : Type} {enc : TypeId × Value → H} {P : Program} {w : World}

theorem VTs.one {x : AV} {v : Value} (h : VT (· < w.heap.size) w x v) (ho : v.oneCell' = true) : VTs w [x] [v] := by
  refine ⟨rfl, fun i y u hy hu => ?_⟩
  cases i with
  | zero => simp at hy hu; subst hy; subst hu; exact ⟨h, ho⟩
  | succ i => simp at hy

theorem VTs.append {xs ys : List AV} {cs ds : List Value} (h1 : VTs w xs cs) (h2 : VTs w ys ds) : VTs w (xs ++ ys) (cs ++ ds) := by
  refine ⟨by simp [h1.1, h2.1], fun i x v hx hv => ?_⟩
  by_cases hi : i < xs.length
  · rw [List.getElem?_append_left hi] at hx
    rw [List.getElem?_append_left (by rw [← h1.1]; exact hi)] at hv
    exact h1.2 i x v hx hv
  · rw [List.getElem?_append_right (by omega)] at hx
    rw [List.getElem?_append_right (by rw [← h1.1]; omega), ← h1.1] at hv
    exact h2.2 _ x v hx hv

abbrev i64 (n : Int) : Prop := -9223372036854775808 ≤ n ∧ n ≤ 9223372036854775807

theorem rd_string {t : TypeId} (ht : P.underlying t = some .string) : Rd enc P w t (fun s : ByteArray => s.size ≤ maxLen) (fun s => [AV.str s]) := by
  intro fuel cs x h
  obtain ⟨s, rfl, -, hs⟩ := DataW.trod_string ht h
  exact ⟨s, hs, VTs.one (.str _) rfl⟩

/-- .. one cell. -/
theorem arg_one {t : TypeId} {v : Value} {d : DataW H} {ps : List MemPlace} (hv : v.cells = #[v]) (h : DataW.Trod enc P w 0 (fun _ => true) true t v d ps)
    {α : Type} {ok : α → Prop} {en : α → AV} (rd : Rd enc P w t ok (fun a => [en a])) : ∃ a : α, ok a ∧ VT (· < w.heap.size) w (en a) v := by
  obtain ⟨fuel, hf⟩ := h
  obtain ⟨a, ha, hvt⟩ := rd _ _ _ hf
  rw [hv] at hvt
  exact ⟨a, ha, (hvt.2 0 _ _ rfl rfl).1⟩

theorem trodAll_below {ts : List TypeId} (hl : laidOutB P = true) (hr : ∀ t ∈ ts, P.readableRec t = true ∧ t < P.types.size) {W W' : World} (hb : Below W.heap.size W W') :
    ∀ {vs : List Value} {ds : List (DataW H)} {ps : List MemPlace}, DataW.TrodAll enc P W 0 (fun _ => true) true ts vs ds ps → (∀ x ∈ ps, x.block < W.heap.size) → DataW.TrodAll enc P W' 0 (fun b => decide (b < W.heap.size)) true ts vs ds ps := by
  induction ts with
  | nil => intro vs ds ps h _; cases vs <;> cases ds <;> first | exact h | exact h.elim
  | cons t ts ih =>
    intro vs ds ps h hps
    cases vs with
    | nil => cases ds <;> exact h.elim
    | cons v vs =>
      cases ds with
      | nil => exact h.elim
      | cons d ds =>
        obtain ⟨p, q, h1, h2, rfl⟩ := h
        refine ⟨p, q, ?_, ih (fun t ht => hr t (List.mem_cons_of_mem _ ht)) h2 (fun x hx => hps x (List.mem_append_right _ hx)), rfl⟩
        exact Below.trod hl (hr t List.mem_cons_self).1 (hr t List.mem_cons_self).2 h1 hb (fun x hx => hps x (List.mem_append_left _ hx))

/-- A law has answered true, and nothing that was there has turned. -/
theorem post_law {fn : Func} {s : ChangeSpec} {W W' : World} {args : Array Value} {ds gs : List (DataW H)} {before : List MemPlace} {tb : TypeId}
    (hW : DataW.Whole enc P fn.params.toList s.vars false W args.toList ds gs before) (hvars : s.vars = []) (hres : (s.fn H (ds ++ gs)).results = [.lit (.bool true)]) (hargs : (s.fn H (ds ++ gs)).args = ds) (hgs : (s.fn H (ds ++ gs)).vars = [])
    (hrt : fn.resultTypes = #[tb]) (htb : P.underlying tb = some .bool) (hb : Below W.heap.size W W') (hl : laidOutB P = true) (hr : ∀ t ∈ fn.params.toList, P.readableRec t = true ∧ t < P.types.size) :
    s.post enc P fn false true false false W args (.bool true) W' := by
  have hlt : ∀ p ∈ before, p.block < W.heap.size := hW.lt
  have hW' := hW
  obtain ⟨p, q, hA, hV, rfl, hz, hn⟩ := hW'
  have hgs0 : gs = [] := by
    rw [hvars] at hV
    cases gs with
    | nil => rfl
    | cons => exact hV.elim
  refine ⟨ds, gs, p ++ q, [], p, [], hW, ?_, ?_, ?_, hb.frame _, fun h => by cases h⟩
  · rw [hres, hrt]
    exact trodAll_mk1 (shut_bool htb true)
  · rw [hargs]
    exact trodAll_below hl hr hb hA (fun x hx => hlt x (List.mem_append_left _ hx))
  · rw [hgs, hvars]; rfl
end
end Go.Tk
