/- Plain: the break is the first of the fewest. -/
import Derived.Test.YtnempffajbdneaaPC33
import Derived.Test.YtnempffajbdneaaPC30
set_option linter.unusedVariables false
set_option linter.unusedSimpArgs false
set_option linter.unusedSectionVars false
set_option maxRecDepth 8000
namespace Go.Tk
open Go Go.Av
theorem sets_sorted : ∀ {l : List Int} {k : Nat}, l.Pairwise (· < ·) → (setsL l k).Pairwise fun a b => before a b = true
  | l, 0, _ => by simp [setsL]
  | [], k + 1, _ => by simp [setsL]
  | x :: l, k + 1, h => by
    rw [List.pairwise_cons] at h
    simp only [setsL]
    rw [List.pairwise_append]
    refine ⟨List.pairwise_map.2 ((sets_sorted (l := l) (k := k) h.2).imp fun hab => by simp only [before, if_pos]; exact hab), sets_sorted h.2, fun a ha b hb => ?_⟩
    obtain ⟨a', _, rfl⟩ := List.mem_map.1 ha
    obtain ⟨hb1, hb2⟩ := mem_sets.1 hb
    cases b with
    | nil => simp at hb2
    | cons z b =>
      have hz := h.1 z (hb1.subset List.mem_cons_self)
      simp only [before]
      rw [if_neg (by omega)]
      exact decide_eq_true hz
/-- The first set that fells the loop: it does, none before does, and it is one of the list. -/
theorem firstW_some {bad : Nat → Bool} {L : List (List Int)} {w : Nat} (hL : L.Pairwise fun a b => before a b = true) (h : firstW bad 0 L = some w) : ∃ s ∈ L, w = setB s ∧ bad (setB s) = true ∧ ∀ s' ∈ L, bad (setB s') = true → before s' s = false := by
  unfold firstW at h
  rw [List.find?_map] at h
  obtain ⟨s, hs, rfl⟩ := Option.map_eq_some_iff.1 h
  rw [List.find?_eq_some_iff_append] at hs
  obtain ⟨hb, l1, l2, rfl, hl1⟩ := hs
  simp only [Function.comp, Nat.zero_or] at hb hl1 ⊢
  refine ⟨s, by simp, rfl, hb, fun s' hs' hb' => ?_⟩
  rw [List.pairwise_append, List.pairwise_cons] at hL
  rcases List.mem_append.1 hs' with h1 | h1
  · have := hl1 s' h1
    rw [hb'] at this
    cases this
  · rcases List.mem_cons.1 h1 with rfl | h1
    · exact before_irrefl _
    · have h2 := hL.2.1.1 s' h1
      cases h3 : before s' s with
      | false => rfl
      | true =>
        have := before_trans h2 h3
        rw [before_irrefl] at this
        cases this
theorem firstW_none {bad : Nat → Bool} {L : List (List Int)} (h : firstW bad 0 L = none) : ∀ s ∈ L, bad (setB s) = false := fun s hs => by
  unfold firstW at h
  rw [List.find?_eq_none] at h
  have := h (0 ||| setB s) (List.mem_map.2 ⟨s, hs, rfl⟩)
  rw [Nat.zero_or] at this
  simpa using this
section
variable {t : CoolTown} (ht : t.ok) {b : List Int} (hb : coolersOk t.sites.length b)
include ht hb
theorem sub_ok {s : List Int} (hs : s.Sublist b) : coolersOk t.sites.length s := coolersOk_of (hb.up.sublist hs) fun x hx => hb.mem x (hs.subset hx)
theorem bad_iff {y : Nat} (hy : y < t.houses.length) {s : List Int} (hs : coolersOk t.sites.length s) : badW t (setB b) y (setB s) = !levelB t (withoutL b s) y := by
  have hlt : setB b < 2 ^ 64 := Nat.lt_of_lt_of_le (setB_lt hb.mem) (Nat.pow_le_pow_right (by omega) (by have := ht.2.1; omega))
  have hl : listB (diffN (setB b) (setB s)) = withoutL b s := listB_ext ht.2.1.2 (without_up hb.up) (fun x hx => hb.mem x (mem_without.1 hx).1) fun j => by
    rw [diffN_bit hlt, mem_without, Bool.and_eq_true, setB_has hb, Bool.not_eq_true', ← Bool.not_eq_true, setB_has hs]
  unfold badW
  rw [lev_level hy hl fun x hx => hb.mem x (mem_without.1 hx).1]
/-- What is told of a break. -/
theorem brk_told {y f : Nat} (hy : y < t.houses.length) (hl : levM t y f (setB b) = false) : ∃ l, brkW t b f y = some (setB l) ∧ l.Sublist b ∧ l.length ≤ f ∧ levelB t (withoutL b l) y = false ∧
    ∀ o : List Int, o.Sublist b → o.length ≤ f → levelB t (withoutL b o) y = false → l.length < o.length ∨ l.length = o.length ∧ before o l = false := by
  have hex : brkW t b f y ≠ none := fun hn => by
    unfold brkW at hn
    rw [List.findSome?_eq_none_iff] at hn
    obtain ⟨r, r1, r2, r3⟩ := lev_not ht hb hy hl
    have := firstW_none (hn r.length (List.mem_range.2 (by omega))) r (mem_sets.2 ⟨r1, rfl⟩)
    rw [bad_iff ht hb hy (sub_ok ht hb r1), r3] at this
    cases this
  cases hw : brkW t b f y with
  | none => exact absurd hw hex
  | some w =>
    unfold brkW at hw
    rw [List.findSome?_eq_some_iff] at hw
    obtain ⟨l1, k, l2, e, hf, hl1⟩ := hw
    have hk : l1.length = k := by
      have := congrArg (fun l => l[l1.length]?) e
      simp only [List.getElem?_append_right (Nat.le_refl _), Nat.sub_self, List.getElem?_cons_zero] at this
      rw [List.getElem?_eq_some_iff] at this
      obtain ⟨h1, h2⟩ := this
      simpa using h2
    have hkf : k ≤ f := by
      have := congrArg List.length e
      simp at this
      omega
    have hlow : ∀ j, j < k → firstW (badW t (setB b) y) 0 (setsL b j) = none := fun j hj => by
      have hm : j ∈ l1 := by
        have := congrArg (fun l => l[j]?) e
        simp only [List.getElem?_range (show j < f + 1 by omega), List.getElem?_append_left (show j < l1.length by omega)] at this
        exact List.mem_of_getElem? this.symm
      exact hl1 j hm
    obtain ⟨s, hs, rfl, hb1, hmin⟩ := firstW_some (sets_sorted hb.up) hf
    obtain ⟨hs1, hs2⟩ := mem_sets.1 hs
    rw [bad_iff ht hb hy (sub_ok ht hb hs1)] at hb1
    refine ⟨s, rfl, hs1, by omega, by simpa using hb1, fun o ho1 ho2 ho3 => ?_⟩
    have hbo : badW t (setB b) y (setB o) = true := by rw [bad_iff ht hb hy (sub_ok ht hb ho1), ho3]; rfl
    rcases Nat.lt_trichotomy s.length o.length with h | h | h
    · exact .inl h
    · exact .inr ⟨h, hmin o (mem_sets.2 ⟨ho1, by omega⟩) hbo⟩
    · have := firstW_none (hlow o.length (by omega)) o (mem_sets.2 ⟨ho1, rfl⟩)
      rw [hbo] at this
      cases this
end
end Go.Tk
