/- Plain: what is left when the greatest fail; whether a house is surely level with failures. -/
import Derived.Test.YtnempffajbdneaaPC19
import Derived.Test.YtnempffajbdneaaPC21
set_option linter.unusedVariables false
set_option linter.unusedSimpArgs false
set_option maxRecDepth 8000
namespace Go.Tk
open Go Go.Av
theorem sumL_drop_le : ∀ {l : List Int} {n : Nat}, (∀ x ∈ l, 0 ≤ x) → sumL (l.drop n) ≤ sumL l
  | [], n, _ => by simp [sumL]
  | x :: l, 0, _ => Int.le_refl _
  | x :: l, n + 1, h => by
    have := sumL_drop_le (l := l) (n := n) fun y hy => h y (List.mem_cons_of_mem _ hy)
    have := h x List.mem_cons_self
    simp only [sumL, List.drop_succ_cons]; omega
/-- Of what is left when some are taken, least is left when the greatest are. -/
theorem drop_least : ∀ (S p q : List Int) (f : Nat), S.Pairwise (fun a b => b ≤ a) → (∀ x ∈ S, 0 ≤ x) → S.Perm (p ++ q) → p.length ≤ f → sumL (S.drop f) ≤ sumL q
  | [], p, q, f, _, _, hp, _ => by
    have := hp.length_eq
    simp only [List.length_nil, List.length_append] at this
    have hq : q = [] := List.eq_nil_of_length_eq_zero (by omega)
    subst hq
    simp
  | a :: S, p, q, 0, hs, hn, hp, hf => by
    have hp0 : p = [] := List.eq_nil_of_length_eq_zero (by omega)
    subst hp0
    rw [List.drop_zero, sumL_perm hp]
    exact Int.le_refl _
  | a :: S, p, q, f + 1, hs, hn, hp, hf => by
    rw [List.pairwise_cons] at hs
    rw [List.drop_succ_cons]
    have hnS : ∀ x ∈ S, 0 ≤ x := fun x hx => hn x (List.mem_cons_of_mem _ hx)
    have hm : a ∈ p ++ q := hp.mem_iff.1 List.mem_cons_self
    rcases List.mem_append.1 hm with hm | hm
    · have e1 : p.Perm (a :: p.erase a) := List.perm_cons_erase hm
      have e2 : S.Perm (p.erase a ++ q) := by
        have : (a :: S).Perm (a :: (p.erase a ++ q)) := hp.trans (e1.append_right q)
        exact this.cons_inv
      refine drop_least S _ q f hs.2 hnS e2 ?_
      have := e1.length_eq
      simp only [List.length_cons] at this
      omega
    · have e1 : q.Perm (a :: q.erase a) := List.perm_cons_erase hm
      have e2 : S.Perm (p ++ q.erase a) := by
        have : (a :: S).Perm (a :: (p ++ q.erase a)) := hp.trans ((e1.append_left p).trans List.perm_middle)
        exact this.cons_inv
      have hq : sumL q = a + sumL (q.erase a) := by rw [sumL_perm e1]; rfl
      match p, hf, e2 with
      | [], _, e2 =>
        have h1 := sumL_drop_le (n := f) hnS
        have h2 := sumL_perm e2
        have h3 := hn a List.mem_cons_self
        simp only [List.nil_append] at h2
        omega
      | x :: p', hf, e2 =>
        have hx : x ≤ a := hs.1 x (e2.mem_iff.2 (by simp))
        have e3 : S.Perm (p' ++ x :: q.erase a) := e2.trans (by
          rw [List.cons_append]
          exact List.perm_middle.symm)
        have := drop_least S p' (x :: q.erase a) f hs.2 hnS e3 (by simpa using hf)
        simp only [sumL] at this
        omega
theorem filter_perm_append {α : Type} (p : α → Bool) (l : List α) : l.Perm (l.filter p ++ l.filter fun x => !p x) := (List.filter_append_perm p l).symm
theorem nodup_len : ∀ {l r : List Int}, l.Nodup → (∀ x ∈ l, x ∈ r) → l.length ≤ r.length
  | [], r, _, _ => Nat.zero_le _
  | x :: l, r, hn, hs => by
    rw [List.nodup_cons] at hn
    have hx := hs x List.mem_cons_self
    have := nodup_len (l := l) (r := r.erase x) hn.2 fun y hy => by
      have : y ≠ x := fun e => hn.1 (e ▸ hy)
      exact (List.mem_erase_of_ne this).2 (hs y (List.mem_cons_of_mem _ hy))
    rw [List.length_erase_of_mem hx] at this
    have := List.length_pos_of_mem hx
    simp only [List.length_cons]
    omega
/-- What is taken from a list, at most as much as is proposed. -/
theorem taken_len {l r : List Int} (hl : l.Nodup) : (l.filter fun x => decide (x ∈ r)).length ≤ r.length :=
  nodup_len (hl.filter _) fun x hx => by simpa using (List.mem_filter.1 hx).2
theorem up_nodup {l : List Int} (h : l.Pairwise (· < ·)) : l.Nodup := h.imp fun h e => by omega
/-- Some whose taking leaves just that. -/
theorem rest_worst {b : List Int} {g : Int → Int} (hb : b.Nodup) (f : Nat) : ∃ r : List Int, r.Sublist b ∧ r.length ≤ f ∧ sumL ((withoutL b r).map g) = sumL ((sortD (b.map g)).drop f) := by
  let b' := b.mergeSort fun x y => decide (g y ≤ g x)
  have hp : b'.Perm b := List.mergeSort_perm _ _
  have hs : (b'.map g).Pairwise fun x y => y ≤ x := by
    have := List.pairwise_mergeSort (le := fun x y : Int => decide (g y ≤ g x)) (fun a b c h1 h2 => by simp only [decide_eq_true_eq] at *; omega) (fun a b => by simp only [Bool.or_eq_true, decide_eq_true_eq]; omega) b
    exact List.pairwise_map.2 (this.imp fun h => by simpa using h)
  have he : b'.map g = sortD (b.map g) := sortD_eq (hp.map g) hs
  have hn' : b'.Nodup := hp.nodup_iff.2 hb
  refine ⟨b.filter fun x => decide (x ∈ b'.take f), List.filter_sublist, Nat.le_trans (taken_len hb) (by rw [List.length_take]; omega), ?_⟩
  rw [← he, ← List.map_drop]
  refine sumL_perm (List.Perm.map g ?_)
  have h1 : withoutL b (b.filter fun x => decide (x ∈ b'.take f)) = b.filter fun x => !decide (x ∈ b'.take f) := by
    unfold withoutL
    refine List.filter_congr fun x hx => ?_
    simp [List.mem_filter, hx]
  rw [h1]
  refine (hp.symm.filter _).trans ?_
  have h2 : b'.filter (fun x => !decide (x ∈ b'.take f)) = b'.drop f := by
    conv => lhs; rw [← List.take_append_drop f b']
    rw [List.filter_append]
    have hd : (b'.take f ++ b'.drop f).Nodup := by rw [List.take_append_drop]; exact hn'
    rw [List.nodup_append] at hd
    rw [List.take_append_drop]
    rw [List.filter_eq_nil_iff.2 fun x hx => by simp [hx], List.nil_append, List.filter_eq_self.2 fun x hx => ?_]
    have : x ∉ b'.take f := fun hx' => hd.2.2 x hx' x hx rfl
    simp [this]
  rw [h2]

theorem coolersOk_of {n : Nat} {l : List Int} (hu : l.Pairwise (· < ·)) (hb : ∀ x ∈ l, 0 ≤ x ∧ x < n) : coolersOk n l := fun i hi => by
  have h1 := hb (l.getD i default) (by rw [getD_lt hi]; exact List.getElem_mem _)
  refine ⟨⟨h1.1, by omega⟩, fun h0 => ?_⟩
  rw [getD_lt hi, getD_lt (show i - 1 < l.length by omega)]
  exact List.pairwise_iff_getElem.1 hu _ _ _ _ (by omega)
theorem coolersOk.without {n : Nat} {b f : List Int} (hb : coolersOk n b) : coolersOk n (withoutL b f) := coolersOk_of (without_up hb.up) fun x hx => hb.mem x (mem_without.1 hx).1
section
variable {t : CoolTown} (ht : t.ok) {b : List Int} (hb : coolersOk t.sites.length b)
include ht hb
theorem lows_pos {y : Nat} (hy : y < t.houses.length) : ∀ i ∈ b, 0 ≤ lowOf t y i := fun i hi => (lowOf_bound ht hy (hb.mem i hi)).1
theorem lev_def {y f : Nat} : levM t y f (setB b) = decide ((t.houses.getD y default).need.high ≤ sumL ((sortD (b.map (lowOf t y))).drop f)) := by
  unfold levM coldsL
  rw [hb.list ht.2.1.2]
/-- Surely level: level whichever fail, if no more do. -/
theorem lev_all {y f : Nat} (hy : y < t.houses.length) (h : levM t y f (setB b) = true) {r : List Int} (hr : b.length - (withoutL b r).length ≤ f) : levelB t (withoutL b r) y = true := by
  rw [lev_def ht hb, decide_eq_true_iff] at h
  unfold levelB
  rw [decide_eq_true_iff, over_low hy fun i hi => hb.mem i (mem_without.1 hi).1]
  have := drop_least (sortD (b.map (lowOf t y))) ((b.filter fun x => decide (x ∈ r)).map (lowOf t y)) ((withoutL b r).map (lowOf t y)) f (sortD_sorted _) (fun x hx => by
    obtain ⟨i, hi, rfl⟩ := List.mem_map.1 ((sortD_perm _).mem_iff.1 hx)
    exact lows_pos ht hb hy i hi) (by
    rw [← List.map_append]
    exact (sortD_perm _).trans ((filter_perm_append (fun x => decide (x ∈ r)) b).map _)) (by
    have hl := (filter_perm_append (fun x => decide (x ∈ r)) b).length_eq
    rw [List.length_append] at hl
    change b.length = _ + (withoutL b r).length at hl
    rw [List.length_map]
    omega)
  omega
theorem lev_len {y f : Nat} (hy : y < t.houses.length) (h : levM t y f (setB b) = true) {r : List Int} (hr : r.length ≤ f) : levelB t (withoutL b r) y = true := by
  refine lev_all ht hb hy h (Nat.le_trans ?_ hr)
  have hl := (filter_perm_append (fun x => decide (x ∈ r)) b).length_eq
  rw [List.length_append] at hl
  change b.length = _ + (withoutL b r).length at hl
  have := taken_len (r := r) (up_nodup hb.up)
  omega
/-- Not surely level: some that may fail, after which it is not level. -/
theorem lev_not {y f : Nat} (hy : y < t.houses.length) (h : levM t y f (setB b) = false) : ∃ r : List Int, r.Sublist b ∧ r.length ≤ f ∧ levelB t (withoutL b r) y = false := by
  rw [lev_def ht hb, decide_eq_false_iff_not] at h
  obtain ⟨r, r1, r2, r3⟩ := rest_worst (g := lowOf t y) (up_nodup hb.up) f
  refine ⟨r, r1, r2, ?_⟩
  unfold levelB
  rw [decide_eq_false_iff_not, over_low hy fun i hi => hb.mem i (mem_without.1 hi).1]
  omega
end
theorem brk_iff {t : CoolTown} {f c n : Nat} : brk t f c n = none ↔ ∀ y, y < n → levM t y f c = true := by
  unfold brk
  rw [List.find?_range_eq_none]
  constructor
  · intro h y hy
    have := h y hy
    simpa using this
  · intro h y hy
    rw [h y hy]; rfl
end Go.Tk
