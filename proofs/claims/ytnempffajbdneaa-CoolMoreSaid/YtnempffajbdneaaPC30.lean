/- Plain: a cooler more, a house that needs less. -/
import Derived.Test.YtnempffajbdneaaPC28
set_option linter.unusedVariables false
set_option linter.unusedSimpArgs false
set_option maxRecDepth 8000
namespace Go.Tk
open Go Go.Av
def lessH (h : CoolHouse) (d : Int) : CoolHouse := ⟨⟨h.need.low, mnmx true h.need.low (h.need.high - d)⟩, h.grace⟩
def lessT (t : CoolTown) (y : Nat) (d : Int) : CoolTown := ⟨t.houses.set y (lessH (t.houses.getD y default) d), t.sites⟩
def allL (b : List Int) (s : Int) (n : Nat) : List Int := (sitesL n).filter fun i => decide (i = s) || decide (i ∈ b)
theorem allL_succ (b : List Int) (s : Int) (n : Nat) : allL b s (n + 1) = if decide ((n : Int) = s) || decide ((n : Int) ∈ b) then allL b s n ++ [(n : Int)] else allL b s n := by
  unfold allL
  rw [sitesL_succ, List.filter_append]
  cases h : (decide ((n : Int) = s) || decide ((n : Int) ∈ b)) <;> simp [h]
theorem allL_len (b : List Int) (s : Int) (n : Nat) : (allL b s n).length ≤ n := by
  have := List.length_filter_le (fun i => decide (i = s) || decide (i ∈ b)) (sitesL n)
  rw [sitesL_len] at this
  exact this
theorem allL_ok {b : List Int} {s : Int} {n : Nat} : coolersOk n (allL b s n) := by
  refine coolersOk_of ?_ fun x hx => ?_
  · have : (sitesL n).Pairwise (· < ·) := by
      unfold sitesL
      exact List.pairwise_map.2 (List.pairwise_lt_range.imp fun h => by omega)
    exact this.filter _
  · obtain ⟨k, hk, rfl⟩ := List.mem_map.1 (List.mem_filter.1 hx).1
    have := List.mem_range.1 hk
    omega
theorem lessH_need {h : CoolHouse} (hh : h.ok) {d : Int} (hd : 0 ≤ d) : (lessH h d).ok ∧ (lessH h d).need.high ≤ h.need.high := by
  obtain ⟨⟨a, b, c⟩, e⟩ := hh
  unfold lessH mnmx
  simp only [if_true]
  refine ⟨⟨⟨a, ?_, ?_⟩, e⟩, ?_⟩ <;> (split <;> (try dsimp only) <;> omega)
theorem lessT_get {t : CoolTown} {y z : Nat} {d : Int} : (lessT t y d).houses.getD z default = if z = y ∧ y < t.houses.length then lessH (t.houses.getD y default) d else t.houses.getD z default := by
  unfold lessT
  simp only [List.getD_eq_getElem?_getD, List.getElem?_set]
  by_cases e : y = z
  · subst e
    by_cases h : y < t.houses.length
    · simp [h]
    · simp [h]
  · simp [e, Ne.symm e]
theorem lessT_len {t : CoolTown} {y : Nat} {d : Int} : (lessT t y d).houses.length = t.houses.length := by simp [lessT]
theorem lessT_ok {t : CoolTown} (ht : t.ok) {y : Nat} {d : Int} (hd : 0 ≤ d) : (lessT t y d).ok := by
  obtain ⟨h1, h2, h3, h4⟩ := ht
  refine ⟨by rw [lessT_len]; exact h1, h2, all_getD.2 fun i hi => ?_, by rw [lessT_len]; exact h4⟩
  rw [lessT_len] at hi
  rw [lessT_get]
  split
  · rename_i h
    exact (lessH_need (all_getD.1 h3 y h.2) hd).1
  · exact all_getD.1 h3 i hi
theorem lessT_short {t : CoolTown} (ht : t.short) {y : Nat} {d : Int} : (lessT t y d).short := by
  obtain ⟨h1, h2, h3⟩ := ht
  exact ⟨by rw [lessT_len]; exact h1, h2, h3⟩
theorem lessT_need {t : CoolTown} (ht : t.ok) {y : Nat} {d : Int} (hd : 0 ≤ d) {z : Nat} (hz : z < t.houses.length) : ((lessT t y d).houses.getD z default).need.high ≤ (t.houses.getD z default).need.high := by
  rw [lessT_get]
  split
  · rename_i h
    rw [h.1]
    exact (lessH_need (all_getD.1 ht.2.2.1 y h.2) hd).2
  · exact Int.le_refl _
theorem brk_less {t : CoolTown} (ht : t.ok) {y : Nat} {d : Int} (hd : 0 ≤ d) {f c : Nat} (h : brk t f c t.houses.length = none) : brk (lessT t y d) f c (lessT t y d).houses.length = none := by
  rw [lessT_len]
  rw [brk_iff] at *
  intro z hz
  have := h z hz
  unfold levM at *
  rw [decide_eq_true_iff] at *
  have h2 := lessT_need ht (y := y) hd hz
  have h3 : coldsL (lessT t y d) z c = coldsL t z c := rfl
  rw [h3]
  omega
theorem best_less {t : CoolTown} (ht : t.ok) {y : Nat} {d : Int} (hd : 0 ≤ d) {f b : Nat} (h : bestF t f (2 ^ t.sites.length) = some b) : ∃ b', bestF (lessT t y d) f (2 ^ t.sites.length) = some b' ∧ costL (lessT t y d) (listB b') ≤ costL t (listB b) := by
  have h1 := bestF_spec (t := t) (f := f) (2 ^ t.sites.length)
  rw [h] at h1
  obtain ⟨s1, s2, s3⟩ := h1
  have h2 := bestF_spec (t := lessT t y d) (f := f) (2 ^ t.sites.length)
  have hk := brk_less ht (y := y) hd s2
  cases hb : bestF (lessT t y d) f (2 ^ t.sites.length) with
  | none =>
    rw [hb] at h2
    exact absurd hk (h2 b s1)
  | some b' =>
    rw [hb] at h2
    obtain ⟨r1, r2, r3⟩ := h2
    refine ⟨b', rfl, ?_⟩
    have := r3 b s1 hk
    have hc : costL (lessT t y d) (listB b) = costL t (listB b) := rfl
    unfold chS beforeC at this
    rw [hc] at this
    simp only at this
    split at this
    · omega
    · rw [decide_eq_false_iff_not] at this
      omega
theorem keeps_less {t : CoolTown} (ht : t.ok) {y : Nat} {d : Int} (hd : 0 ≤ d) {f : Nat} {b : List Int} (h : keepsB t b f = true) : keepsB (lessT t y d) b f = true := by
  unfold keepsB at *
  rw [decide_eq_true_iff] at *
  exact brk_less ht hd h
theorem sumL_sub {g : Int → Int} : ∀ {l m : List Int}, l.Sublist m → (∀ x ∈ m, 0 ≤ g x) → sumL (l.map g) ≤ sumL (m.map g)
  | _, _, .slnil, _ => Int.le_refl _
  | _, _, .cons a h, hm => by
    have := sumL_sub h fun x hx => hm x (List.mem_cons_of_mem _ hx)
    have := hm a List.mem_cons_self
    simp only [List.map_cons, sumL]; omega
  | _, _, .cons_cons a h, hm => by
    have := sumL_sub h fun x hx => hm x (List.mem_cons_of_mem _ hx)
    simp only [List.map_cons, sumL]; omega
theorem up_sub : ∀ {l m : List Int}, l.Pairwise (· < ·) → m.Pairwise (· < ·) → (∀ x ∈ l, x ∈ m) → l.Sublist m
  | [], _, _, _, _ => List.nil_sublist _
  | x :: l, [], _, _, h => by have := h x List.mem_cons_self; cases this
  | x :: l, y :: m, hl, hm, h => by
    have hl' := List.pairwise_cons.1 hl
    have hm' := List.pairwise_cons.1 hm
    by_cases e : x = y
    · subst e
      refine (up_sub hl'.2 hm'.2 fun z hz => ?_).cons_cons x
      have := h z (List.mem_cons_of_mem _ hz)
      rcases List.mem_cons.1 this with rfl | h2
      · exact absurd (hl'.1 z hz) (by omega)
      · exact h2
    · refine (up_sub hl hm'.2 fun z hz => ?_).cons y
      have h1 := h z hz
      rcases List.mem_cons.1 h1 with rfl | h2
      · rcases List.mem_cons.1 hz with rfl | hz
        · exact absurd rfl e
        · have hx := h x List.mem_cons_self
          have := hl'.1 z hz
          rcases List.mem_cons.1 hx with rfl | hx
          · exact absurd rfl e
          · have := hm'.1 x hx
            omega
      · exact h2
theorem keeps_more {t : CoolTown} (ht : t.ok) {b : List Int} (hb : coolersOk t.sites.length b) {s : Int} {f : Nat} (h : keepsB t b f = true) : keepsB t (allL b s t.sites.length) f = true := by
  rw [keeps_iff] at *
  intro y hy
  have hA : coolersOk t.sites.length (allL b s t.sites.length) := allL_ok
  cases hl : levM t y f (setB (allL b s t.sites.length)) with
  | true => rfl
  | false =>
    obtain ⟨r, r1, r2, r3⟩ := lev_not ht hA hy hl
    have h1 := lev_len ht hb hy (h y hy) r2
    unfold levelB at h1 r3
    rw [decide_eq_true_iff, over_low hy fun i hi => hb.mem i (mem_without.1 hi).1] at h1
    rw [decide_eq_false_iff_not, over_low hy fun i hi => hA.mem i (mem_without.1 hi).1] at r3
    have h2 := sumL_sub (g := lowOf t y) (l := withoutL b r) (m := withoutL (allL b s t.sites.length) r) (up_sub (without_up hb.up) (without_up hA.up) fun x hx => by
      obtain ⟨x1, x2⟩ := mem_without.1 hx
      refine mem_without.2 ⟨?_, x2⟩
      obtain ⟨h1, h2⟩ := hb.mem x x1
      obtain ⟨k, rfl⟩ := Int.eq_ofNat_of_zero_le h1
      exact List.mem_filter.2 ⟨List.mem_map.2 ⟨k, List.mem_range.2 (by omega), rfl⟩, by simp [x1]⟩) fun x hx => lows_pos ht hA hy x (mem_without.1 hx).1
    omega
end Go.Tk
