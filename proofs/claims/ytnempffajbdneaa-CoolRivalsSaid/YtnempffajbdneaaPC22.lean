/- Plain: what is left when the greatest fail; whether a house is surely level with failures. -/
import Derived.Test.YtnempffajbdneaaPC18
import Derived.Test.YtnempffajbdneaaPC21
set_option linter.unusedVariables false
set_option linter.unusedSimpArgs false
set_option maxRecDepth 8000
namespace Go.Tk
open Go Go.Av
theorem filter_perm_append {α : Type} (p : α → Bool) (l : List α) : l.Perm (l.filter p ++ l.filter fun x => !p x) := (List.filter_append_perm p l).symm
theorem nodup_len : ∀ {l r : List Int}, l.Nodup → (∀ x ∈ l, x ∈ r) → l.length ≤ r.length
  | [], r, _, _ => Nat.zero_le _
  | x :: l, r, hn, hs => by
    rw [List.nodup_cons] at hn
    have hx := hs x List.mem_cons_self
    have := nodup_len (l := l) (r := r.erase x) hn.2 fun y hy => by
      have : y ≠ x := fun e => hn.1 (e ▸ hy)
      exact (List.mem_erase_of_ne this).2 (hs y (List.mem_cons_of_mem _ hy))
    rw [List.length_erase_of_mem hx] at this
    have := List.length_pos_of_mem hx
    simp only [List.length_cons]
    omega
theorem up_nodup {l : List Int} (h : l.Pairwise (· < ·)) : l.Nodup := h.imp fun h e => by omega
theorem coolersOk_of {n : Nat} {l : List Int} (hu : l.Pairwise (· < ·)) (hb : ∀ x ∈ l, 0 ≤ x ∧ x < n) : coolersOk n l := fun i hi => by
  have h1 := hb (l.getD i default) (by rw [getD_lt hi]; exact List.getElem_mem _)
  refine ⟨⟨h1.1, by omega⟩, fun h0 => ?_⟩
  rw [getD_lt hi, getD_lt (show i - 1 < l.length by omega)]
  exact List.pairwise_iff_getElem.1 hu _ _ _ _ (by omega)
theorem coolersOk.without {n : Nat} {b f : List Int} (hb : coolersOk n b) : coolersOk n (withoutL b f) := coolersOk_of (without_up hb.up) fun x hx => hb.mem x (mem_without.1 hx).1
section
variable {t : CoolTown} (ht : t.ok) {b : List Int} (hb : coolersOk t.sites.length b)
include ht hb
theorem lev_def {y f : Nat} : levM t y f (setB b) = decide ((t.houses.getD y default).need.high ≤ sumL ((sortD (b.map (lowOf t y))).drop f)) := by
  unfold levM coldsL
  rw [hb.list ht.2.1.2]
end
theorem brk_iff {t : CoolTown} {f c n : Nat} : brk t f c n = none ↔ ∀ y, y < n → levM t y f c = true := by
  unfold brk
  rw [List.find?_range_eq_none]
  constructor
  · intro h y hy
    have := h y hy
    simpa using this
  · intro h y hy
    rw [h y hy]; rfl
end Go.Tk
