/- Plain: which coolers are best; the floor is a bound. -/
import Derived.Test.YtnempffajbdneaaPC27
set_option linter.unusedVariables false
set_option linter.unusedSimpArgs false
set_option maxRecDepth 8000
namespace Go.Tk
open Go Go.Av
theorem before_trans : ∀ {a b c : List Int}, before a b = true → before b c = true → before a c = true
  | [], _, _, h, _ => by simp [before] at h
  | _ :: _, [], _, h, _ => by simp [before] at h
  | _ :: _, _ :: _, [], _, h => by simp [before] at h
  | x :: a, y :: b, z :: c, h1, h2 => by
    simp only [before] at *
    by_cases e1 : x = y
    · subst e1
      rw [if_pos rfl] at h1
      by_cases e2 : x = z
      · subst e2
        rw [if_pos rfl] at h2 ⊢
        exact before_trans h1 h2
      · rw [if_neg e2] at h2 ⊢
        exact h2
    · rw [if_neg e1, decide_eq_true_iff] at h1
      by_cases e2 : y = z
      · subst e2
        rw [if_neg e1]
        exact decide_eq_true h1
      · rw [if_neg e2, decide_eq_true_iff] at h2
        rw [if_neg (by omega)]
        exact decide_eq_true (by omega)
theorem before_irrefl : ∀ a : List Int, before a a = false
  | [] => rfl
  | x :: a => by simp only [before, if_pos]; exact before_irrefl a
theorem beforeC_trans {a b c : Int × List Int} (h1 : beforeC a b = true) (h2 : beforeC b c = true) : beforeC a c = true := by
  unfold beforeC at *
  by_cases e1 : a.1 = b.1
  · rw [if_pos e1] at h1
    by_cases e2 : b.1 = c.1
    · rw [if_pos e2] at h2
      rw [if_pos (by omega)]
      by_cases l1 : a.2.length = b.2.length
      · rw [if_pos l1] at h1
        by_cases l2 : b.2.length = c.2.length
        · rw [if_pos l2] at h2
          rw [if_pos (by omega)]
          exact before_trans h1 h2
        · rw [if_neg l2, decide_eq_true_iff] at h2
          rw [if_neg (by omega)]
          exact decide_eq_true (by omega)
      · rw [if_neg l1, decide_eq_true_iff] at h1
        by_cases l2 : b.2.length = c.2.length
        · rw [if_neg (by omega)]
          exact decide_eq_true (by omega)
        · rw [if_neg l2, decide_eq_true_iff] at h2
          rw [if_neg (by omega)]
          exact decide_eq_true (by omega)
    · rw [if_neg e2, decide_eq_true_iff] at h2
      rw [if_neg (by omega)]
      exact decide_eq_true (by omega)
  · rw [if_neg e1, decide_eq_true_iff] at h1
    by_cases e2 : b.1 = c.1
    · rw [if_neg (by omega)]
      exact decide_eq_true (by omega)
    · rw [if_neg e2, decide_eq_true_iff] at h2
      rw [if_neg (by omega)]
      exact decide_eq_true (by omega)
theorem beforeC_irrefl (a : Int × List Int) : beforeC a a = false := by
  unfold beforeC
  rw [if_pos rfl, if_pos rfl]
  exact before_irrefl _
/-- Of more numbers the greatest are at least as great. -/
theorem dom : ∀ (T S R : List Int) (f : Nat), S.Pairwise (fun a b => b ≤ a) → T.Pairwise (fun a b => b ≤ a) → S.Perm (T ++ R) → sumL (T.drop f) ≤ sumL ((S.take T.length).drop f)
  | [], S, R, f, _, _, _ => by simp
  | x :: T, [], R, f, _, _, hp => by
    have := hp.length_eq
    simp at this
  | x :: T, a :: S, R, f, hs, ht, hp => by
    rw [List.pairwise_cons] at hs ht
    have hx : x ∈ a :: S := hp.mem_iff.2 (by simp)
    have hxa : x ≤ a := by
      rcases List.mem_cons.1 hx with rfl | h
      · exact Int.le_refl _
      · exact hs.1 x h
    have hR : ∃ R', S.Perm (T ++ R') := by
      by_cases e : a = x
      · subst e
        exact ⟨R, List.Perm.cons_inv (a := a) (by simpa using hp)⟩
      · have ha : a ∈ (x :: T) ++ R := hp.mem_iff.1 List.mem_cons_self
        rcases List.mem_append.1 ha with ha | ha
        · rcases List.mem_cons.1 ha with ha | ha
          · exact absurd ha e
          · have := ht.1 a ha
            exact absurd (by omega) e
        · refine ⟨x :: R.erase a, ?_⟩
          have e1 : R.Perm (a :: R.erase a) := List.perm_cons_erase ha
          have e2 : (a :: S).Perm (a :: (T ++ x :: R.erase a)) := by
            refine hp.trans ?_
            refine (e1.append_left (x :: T)).trans ?_
            refine List.perm_middle.trans (List.Perm.cons a ?_)
            rw [List.cons_append]
            exact List.perm_middle.symm
          exact e2.cons_inv
    obtain ⟨R', hR'⟩ := hR
    simp only [List.length_cons, List.take_succ_cons]
    cases f with
    | zero =>
      have := dom T S R' 0 hs.2 ht.2 hR'
      simp only [List.drop_zero, sumL] at *
      omega
    | succ f =>
      simp only [List.drop_succ_cons]
      exact dom T S R' f hs.2 ht.2 hR'

theorem bestF_spec {t : CoolTown} {f : Nat} : ∀ S, match bestF t f S with
    | none => ∀ s, s < S → brk t f s t.houses.length ≠ none
    | some b => b < S ∧ brk t f b t.houses.length = none ∧ ∀ s, s < S → brk t f s t.houses.length = none → beforeC (chS t s) (chS t b) = false
  | 0 => fun s hs => absurd hs (Nat.not_lt_zero _)
  | S + 1 => by
    have ih := bestF_spec (t := t) (f := f) S
    cases hb : bestF t f S with
    | none =>
      rw [hb] at ih
      simp only at ih
      by_cases hk : brk t f S t.houses.length = none
      · have e : bestF t f (S + 1) = some S := by simp only [bestF, hb]; rw [if_pos hk]
        rw [e]
        refine ⟨Nat.lt_succ_self _, hk, fun s hs hks => ?_⟩
        by_cases e2 : s = S
        · subst e2; exact beforeC_irrefl _
        · exact absurd hks (ih s (by omega))
      · have e : bestF t f (S + 1) = none := by simp only [bestF, hb]; rw [if_neg hk]
        rw [e]
        intro s hs
        by_cases e2 : s = S
        · subst e2; exact hk
        · exact ih s (by omega)
    | some b =>
      rw [hb] at ih
      obtain ⟨i1, i2, i3⟩ := ih
      by_cases hk : beforeC (chS t S) (chS t b) = true ∧ brk t f S t.houses.length = none
      · have e : bestF t f (S + 1) = some S := by simp only [bestF, hb]; rw [if_pos hk]
        rw [e]
        refine ⟨Nat.lt_succ_self _, hk.2, fun s hs hks => ?_⟩
        by_cases e2 : s = S
        · subst e2; exact beforeC_irrefl _
        · have h1 := i3 s (by omega) hks
          cases h2 : beforeC (chS t s) (chS t S) with
          | false => rfl
          | true => rw [beforeC_trans h2 hk.1] at h1; cases h1
      · have e : bestF t f (S + 1) = some b := by simp only [bestF, hb]; rw [if_neg hk]
        rw [e]
        refine ⟨by omega, i2, fun s hs hks => ?_⟩
        by_cases e2 : s = S
        · subst e2
          cases h2 : beforeC (chS t s) (chS t b) with
          | false => rfl
          | true => exact absurd ⟨h2, hks⟩ hk
        · exact i3 s (by omega) hks
theorem setB_listB {n c : Nat} (hn : n ≤ 10) (hc : c < 2 ^ n) : setB (listB c) = c := by
  apply Nat.eq_of_testBit_eq
  intro i
  rw [Bool.eq_iff_iff, setB_bit fun x hx => (listB_lt hc x hx).1, listB_mem]
  constructor
  · rintro ⟨j, e, _, h⟩
    have : j = i := by omega
    subst this; exact h
  · intro h
    exact ⟨i, rfl, by have := bit_lt hc h; omega, h⟩
theorem coolers_listB {n c : Nat} (hc : c < 2 ^ n) : coolersOk n (listB c) := coolersOk_of (listB_up c) (listB_lt hc)
theorem keeps_iff {t : CoolTown} {b : List Int} {f : Nat} : keepsB t b f = true ↔ ∀ y, y < t.houses.length → levM t y f (setB b) = true := by
  unfold keepsB
  rw [decide_eq_true_iff, brk_iff]
/-- Coolers that keep a town are at least as many as the floor. -/
theorem floor_le {t : CoolTown} (ht : t.ok) {b : List Int} (hb : coolersOk t.sites.length b) {f : Nat} (h : keepsB t b f = true) : ∃ m, floorF t f = some m ∧ m ≤ b.length := by
  rw [keeps_iff] at h
  have hlen : b.length ≤ t.sites.length := by
    have := nodup_len (l := b) (r := sitesL t.sites.length) (up_nodup hb.up) fun x hx => by
      obtain ⟨h1, h2⟩ := hb.mem x hx
      obtain ⟨k, rfl⟩ := Int.eq_ofNat_of_zero_le h1
      exact List.mem_map.2 ⟨k, List.mem_range.2 (by omega), rfl⟩
    rwa [sitesL_len] at this
  have hfl : floorB t f b.length = true := by
    unfold floorB
    rw [List.all_eq_true]
    intro y hy
    have hy' := List.mem_range.1 hy
    have hl := h y hy'
    rw [lev_def ht hb, decide_eq_true_iff] at hl
    unfold enough
    rw [decide_eq_true_iff]
    have hperm : (sitesL t.sites.length).Perm (b ++ (sitesL t.sites.length).filter fun x => !decide (x ∈ b)) := by
      have h1 := filter_perm_append (fun x => decide (x ∈ b)) (sitesL t.sites.length)
      refine h1.trans (List.Perm.append_right _ ?_)
      have hup : (sitesL t.sites.length).Pairwise (· < ·) := by
        unfold sitesL
        exact List.pairwise_map.2 (List.pairwise_lt_range.imp fun h => by omega)
      have : (sitesL t.sites.length).filter (fun x => decide (x ∈ b)) = b := up_ext (hup.filter _) hb.up fun x => by
        rw [List.mem_filter, decide_eq_true_iff]
        constructor
        · exact fun h => h.2
        · intro hx
          obtain ⟨h1, h2⟩ := hb.mem x hx
          obtain ⟨k, rfl⟩ := Int.eq_ofNat_of_zero_le h1
          exact ⟨List.mem_map.2 ⟨k, List.mem_range.2 (by omega), rfl⟩, hx⟩
      rw [this]
    have hd := dom (sortD (b.map (lowOf t y))) (coldsL t y (allS t)) (((sitesL t.sites.length).filter fun x => !decide (x ∈ b)).map (lowOf t y)) f (by unfold coldsL; exact sortD_sorted _) (sortD_sorted _) (by
      unfold coldsL
      rw [all_list ht]
      refine (sortD_perm _).trans ((hperm.map _).trans ?_)
      rw [List.map_append]
      exact (sortD_perm _).symm.append_right _)
    rw [(sortD_perm _).length_eq, List.length_map] at hd
    omega
  have : floorF t f ≠ none := fun hn => by
    unfold floorF at hn
    rw [List.find?_range_eq_none] at hn
    have := hn b.length (by omega)
    rw [hfl] at this
    cases this
  cases hff : floorF t f with
  | none => exact absurd hff this
  | some m =>
    refine ⟨m, rfl, ?_⟩
    unfold floorF at hff
    rw [List.find?_range_eq_some] at hff
    rcases Nat.lt_or_ge b.length m with hlt | hge
    · have := hff.2.2 b.length hlt
      rw [hfl] at this
      cases this
    · exact hge
end Go.Tk
