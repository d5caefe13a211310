/- Plain: what is left when the greatest fail; whether a house is surely level with failures. -/
import Derived.Test.YtnempffajbdneaaPC18
import Derived.Test.YtnempffajbdneaaPC21
set_option linter.unusedVariables false
set_option linter.unusedSimpArgs false
set_option maxRecDepth 8000
namespace Go.Tk
open Go Go.Av
theorem sumL_drop_le : ∀ {l : List Int} {n : Nat}, (∀ x ∈ l, 0 ≤ x) → sumL (l.drop n) ≤ sumL l
  | [], n, _ => by simp [sumL]
  | x :: l, 0, _ => Int.le_refl _
  | x :: l, n + 1, h => by
    have := sumL_drop_le (l := l) (n := n) fun y hy => h y (List.mem_cons_of_mem _ hy)
    have := h x List.mem_cons_self
    simp only [sumL, List.drop_succ_cons]; omega
/-- Of what is left when some are taken, least is left when the greatest are. -/
theorem drop_least : ∀ (S p q : List Int) (f : Nat), S.Pairwise (fun a b => b ≤ a) → (∀ x ∈ S, 0 ≤ x) → S.Perm (p ++ q) → p.length ≤ f → sumL (S.drop f) ≤ sumL q
  | [], p, q, f, _, _, hp, _ => by
    have := hp.length_eq
    simp only [List.length_nil, List.length_append] at this
    have hq : q = [] := List.eq_nil_of_length_eq_zero (by omega)
    subst hq
    simp
  | a :: S, p, q, 0, hs, hn, hp, hf => by
    have hp0 : p = [] := List.eq_nil_of_length_eq_zero (by omega)
    subst hp0
    rw [List.drop_zero, sumL_perm hp]
    exact Int.le_refl _
  | a :: S, p, q, f + 1, hs, hn, hp, hf => by
    rw [List.pairwise_cons] at hs
    rw [List.drop_succ_cons]
    have hnS : ∀ x ∈ S, 0 ≤ x := fun x hx => hn x (List.mem_cons_of_mem _ hx)
    have hm : a ∈ p ++ q := hp.mem_iff.1 List.mem_cons_self
    rcases List.mem_append.1 hm with hm | hm
    · have e1 : p.Perm (a :: p.erase a) := List.perm_cons_erase hm
      have e2 : S.Perm (p.erase a ++ q) := by
        have : (a :: S).Perm (a :: (p.erase a ++ q)) := hp.trans (e1.append_right q)
        exact this.cons_inv
      refine drop_least S _ q f hs.2 hnS e2 ?_
      have := e1.length_eq
      simp only [List.length_cons] at this
      omega
    · have e1 : q.Perm (a :: q.erase a) := List.perm_cons_erase hm
      have e2 : S.Perm (p ++ q.erase a) := by
        have : (a :: S).Perm (a :: (p ++ q.erase a)) := hp.trans ((e1.append_left p).trans List.perm_middle)
        exact this.cons_inv
      have hq : sumL q = a + sumL (q.erase a) := by rw [sumL_perm e1]; rfl
      match p, hf, e2 with
      | [], _, e2 =>
        have h1 := sumL_drop_le (n := f) hnS
        have h2 := sumL_perm e2
        have h3 := hn a List.mem_cons_self
        simp only [List.nil_append] at h2
        omega
      | x :: p', hf, e2 =>
        have hx : x ≤ a := hs.1 x (e2.mem_iff.2 (by simp))
        have e3 : S.Perm (p' ++ x :: q.erase a) := e2.trans (by
          rw [List.cons_append]
          exact List.perm_middle.symm)
        have := drop_least S p' (x :: q.erase a) f hs.2 hnS e3 (by simpa using hf)
        simp only [sumL] at this
        omega
theorem filter_perm_append {α : Type} (p : α → Bool) (l : List α) : l.Perm (l.filter p ++ l.filter fun x => !p x) := (List.filter_append_perm p l).symm
theorem sumL_le {w : List Int} {g h : Int → Int} (hw : ∀ i ∈ w, g i ≤ h i) : sumL (w.map g) ≤ sumL (w.map h) := by
  induction w with
  | nil => exact Int.le_refl _
  | cons x w ih =>
    have h1 := hw x List.mem_cons_self
    have h2 := ih fun i hi => hw i (List.mem_cons_of_mem _ hi)
    simp only [List.map_cons, sumL]; omega
theorem coolersOk_of {n : Nat} {l : List Int} (hu : l.Pairwise (· < ·)) (hb : ∀ x ∈ l, 0 ≤ x ∧ x < n) : coolersOk n l := fun i hi => by
  have h1 := hb (l.getD i default) (by rw [getD_lt hi]; exact List.getElem_mem _)
  refine ⟨⟨h1.1, by omega⟩, fun h0 => ?_⟩
  rw [getD_lt hi, getD_lt (show i - 1 < l.length by omega)]
  exact List.pairwise_iff_getElem.1 hu _ _ _ _ (by omega)
theorem coolersOk.without {n : Nat} {b f : List Int} (hb : coolersOk n b) : coolersOk n (withoutL b f) := coolersOk_of (without_up hb.up) fun x hx => hb.mem x (mem_without.1 hx).1
section
variable {t : CoolTown} (ht : t.ok) {b : List Int} (hb : coolersOk t.sites.length b)
include ht hb
theorem lows_pos {y : Nat} (hy : y < t.houses.length) : ∀ i ∈ b, 0 ≤ lowOf t y i := fun i hi => (lowOf_bound ht hy (hb.mem i hi)).1
theorem lev_def {y f : Nat} : levM t y f (setB b) = decide ((t.houses.getD y default).need.high ≤ sumL ((sortD (b.map (lowOf t y))).drop f)) := by
  unfold levM coldsL
  rw [hb.list ht.2.1.2]
/-- Surely level: level whichever fail, if no more do. -/
theorem lev_all {y f : Nat} (hy : y < t.houses.length) (h : levM t y f (setB b) = true) {r : List Int} (hr : b.length - (withoutL b r).length ≤ f) : levelB t (withoutL b r) y = true := by
  rw [lev_def ht hb, decide_eq_true_iff] at h
  unfold levelB
  rw [decide_eq_true_iff, over_low hy fun i hi => hb.mem i (mem_without.1 hi).1]
  have := drop_least (sortD (b.map (lowOf t y))) ((b.filter fun x => decide (x ∈ r)).map (lowOf t y)) ((withoutL b r).map (lowOf t y)) f (sortD_sorted _) (fun x hx => by
    obtain ⟨i, hi, rfl⟩ := List.mem_map.1 ((sortD_perm _).mem_iff.1 hx)
    exact lows_pos ht hb hy i hi) (by
    rw [← List.map_append]
    exact (sortD_perm _).trans ((filter_perm_append (fun x => decide (x ∈ r)) b).map _)) (by
    have hl := (filter_perm_append (fun x => decide (x ∈ r)) b).length_eq
    rw [List.length_append] at hl
    change b.length = _ + (withoutL b r).length at hl
    rw [List.length_map]
    omega)
  omega
theorem lev_mono {y f f' : Nat} (hy : y < t.houses.length) (hff : f ≤ f') (h : levM t y f' (setB b) = true) : levM t y f (setB b) = true := by
  rw [lev_def ht hb, decide_eq_true_iff] at h ⊢
  obtain ⟨d, rfl⟩ := Nat.exists_eq_add_of_le hff
  have := sumL_drop_le (l := (sortD (b.map (lowOf t y))).drop f) (n := d) fun x hx => by
    obtain ⟨i, hi, rfl⟩ := List.mem_map.1 ((sortD_perm _).mem_iff.1 (List.mem_of_mem_drop hx))
    exact lows_pos ht hb hy i hi
  rw [List.drop_drop] at this
  omega
end
theorem brk_iff {t : CoolTown} {f c n : Nat} : brk t f c n = none ↔ ∀ y, y < n → levM t y f c = true := by
  unfold brk
  rw [List.find?_range_eq_none]
  constructor
  · intro h y hy
    have := h y hy
    simpa using this
  · intro h y hy
    rw [h y hy]; rfl
/-- In truth a house is given at least as much as in the worst truth. -/
theorem over_worst {t : CoolTown} {x : CoolTruth} (hx : truthOk t x) {w : List Int} (hw : ∀ i ∈ w, 0 ≤ i ∧ i < t.sites.length) {y : Nat} (hy : y < t.houses.length) : over1 (worstT t) w y ≤ over1 x w y := by
  rw [over_low hy hw]
  unfold over1
  obtain ⟨-, -, h3, h4⟩ := hx
  have h1 := (h3 y hy).2
  have h2 := sumL_le (w := w) (g := lowOf t y) (h := giveOf x y) fun i hi => by
    obtain ⟨a, b⟩ := hw i hi
    have := ((h4 i.toNat (by omega)).2 y hy).1
    exact this
  omega
end Go.Tk
