/- Plain: what is left when the greatest fail; whether a house is surely level with failures. -/
import Derived.Test.YtnempffajbdneaaPC19
import Derived.Test.YtnempffajbdneaaPC21
set_option linter.unusedVariables false
set_option linter.unusedSimpArgs false
set_option maxRecDepth 8000
namespace Go.Tk
open Go Go.Av
theorem sumL_nonneg : ∀ {l : List Int}, (∀ x ∈ l, 0 ≤ x) → 0 ≤ sumL l
  | [], _ => Int.le_refl _
  | x :: l, h => by
    have := sumL_nonneg (l := l) fun y hy => h y (List.mem_cons_of_mem _ hy)
    have := h x List.mem_cons_self
    simp only [sumL]; omega
theorem nodup_len : ∀ {l r : List Int}, l.Nodup → (∀ x ∈ l, x ∈ r) → l.length ≤ r.length
  | [], r, _, _ => Nat.zero_le _
  | x :: l, r, hn, hs => by
    rw [List.nodup_cons] at hn
    have hx := hs x List.mem_cons_self
    have := nodup_len (l := l) (r := r.erase x) hn.2 fun y hy => by
      have : y ≠ x := fun e => hn.1 (e ▸ hy)
      exact (List.mem_erase_of_ne this).2 (hs y (List.mem_cons_of_mem _ hy))
    rw [List.length_erase_of_mem hx] at this
    have := List.length_pos_of_mem hx
    simp only [List.length_cons]
    omega
theorem up_nodup {l : List Int} (h : l.Pairwise (· < ·)) : l.Nodup := h.imp fun h e => by omega
theorem sumL_le {w : List Int} {g h : Int → Int} (hw : ∀ i ∈ w, g i ≤ h i) : sumL (w.map g) ≤ sumL (w.map h) := by
  induction w with
  | nil => exact Int.le_refl _
  | cons x w ih =>
    have h1 := hw x List.mem_cons_self
    have h2 := ih fun i hi => hw i (List.mem_cons_of_mem _ hi)
    simp only [List.map_cons, sumL]; omega
theorem coolersOk_of {n : Nat} {l : List Int} (hu : l.Pairwise (· < ·)) (hb : ∀ x ∈ l, 0 ≤ x ∧ x < n) : coolersOk n l := fun i hi => by
  have h1 := hb (l.getD i default) (by rw [getD_lt hi]; exact List.getElem_mem _)
  refine ⟨⟨h1.1, by omega⟩, fun h0 => ?_⟩
  rw [getD_lt hi, getD_lt (show i - 1 < l.length by omega)]
  exact List.pairwise_iff_getElem.1 hu _ _ _ _ (by omega)
theorem coolersOk.without {n : Nat} {b f : List Int} (hb : coolersOk n b) : coolersOk n (withoutL b f) := coolersOk_of (without_up hb.up) fun x hx => hb.mem x (mem_without.1 hx).1
section
variable {t : CoolTown} (ht : t.ok) {b : List Int} (hb : coolersOk t.sites.length b)
include ht hb
end
/-- In truth a house is given at least as much as in the worst truth. -/
theorem over_worst {t : CoolTown} {x : CoolTruth} (hx : truthOk t x) {w : List Int} (hw : ∀ i ∈ w, 0 ≤ i ∧ i < t.sites.length) {y : Nat} (hy : y < t.houses.length) : over1 (worstT t) w y ≤ over1 x w y := by
  rw [over_low hy hw]
  unfold over1
  obtain ⟨-, -, h3, h4⟩ := hx
  have h1 := (h3 y hy).2
  have h2 := sumL_le (w := w) (g := lowOf t y) (h := giveOf x y) fun i hi => by
    obtain ⟨a, b⟩ := hw i hi
    have := ((h4 i.toNat (by omega)).2 y hy).1
    exact this
  omega
end Go.Tk
