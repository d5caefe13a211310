import Derived.Test.YtibgfmhddcibcaaDoorMi
set_option linter.unusedVariables false
set_option linter.unusedSimpArgs false
set_option maxRecDepth 8000
/- Deeper thaw and more load: rows that settle more. -/
namespace Go.Tk
open Go Go.Av Go.Proofs.YtibgfmhddcibcaaDoor
theorem asked_of_planned {s : PileSite} {th : List (List Span)} {plan : List Int} (h : plannedE s th plan = 0) : askedE s th = 0 := by
  obtain ⟨a, b, c, d⟩ := planned_0 h
  unfold askedE
  rw [if_neg (by omega), if_pos ⟨a, b⟩]
theorem rows_le {s : PileSite} (hs : s.ok) : ∀ i j, i ≤ j → j < s.rows.length → (s.rows.getD i default).use ≤ (s.rows.getD j default).use ∧ (s.rows.getD i default).settle.low ≤ (s.rows.getD j default).settle.low ∧ (s.rows.getD i default).settle.high ≤ (s.rows.getD j default).settle.high := by
  intro i j hij
  induction j with
  | zero =>
    intro _
    obtain rfl : i = 0 := by omega
    exact ⟨Int.le_refl _, Int.le_refl _, Int.le_refl _⟩
  | succ j ih =>
    intro hj
    by_cases e : i = j + 1
    · subst e; exact ⟨Int.le_refl _, Int.le_refl _, Int.le_refl _⟩
    · have h1 := ih (by omega) (by omega)
      have h2 := (hs.1 (j + 1) _ (List.getElem?_eq_getElem hj)).2 _ (by omega) (List.getElem?_eq_getElem (show j + 1 - 1 < s.rows.length by omega))
      rw [getD_lt hj]
      rw [getD_lt (show j < s.rows.length by omega)] at h1
      simp only [Nat.add_sub_cancel] at h2
      omega
theorem needs_le {A c m : Int} (hc : 0 < c) : (A + c - 1) / c ≤ m ↔ A ≤ m * c := by
  have h := @Int.ediv_lt_iff_lt_mul (A + c - 1) (m + 1) c hc
  rw [Int.add_mul, Int.one_mul] at h
  constructor
  · intro h1; have := h.1 (by omega); omega
  · intro h1; have := h.2 (by omega); omega
theorem needs_mono {p : Pile} {t t' load load' : Int} (hc : carr p t' ≤ carr p t) (hl : load ≤ load') (h0 : 0 < carr p t') (hl0 : 0 ≤ load) : needs p t load ≤ needs p t' load' := by
  have h1 : 0 ≤ needs p t' load' := Int.ediv_nonneg (by omega) (by omega)
  have h2 : 1000 * load' ≤ needs p t' load' * carr p t' := (needs_le h0).1 (Int.le_refl _)
  have h3 : needs p t' load' * carr p t' ≤ needs p t' load' * carr p t := Int.mul_le_mul_of_nonneg_left hc h1
  exact (needs_le (by omega)).2 (by omega)
theorem find_idx {l : List PileRow} {p : PileRow → Bool} {r : PileRow} (h : l.find? p = some r) : ∃ i, i < l.length ∧ l.getD i default = r ∧ p r = true ∧ ∀ j, j < i → p (l.getD j default) = false := by
  rw [List.find?_eq_some_iff_getElem] at h
  obtain ⟨h1, i, hi, h2, h3⟩ := h
  refine ⟨i, hi, by rw [getD_lt hi, h2], h1, fun j hj => ?_⟩
  have := h3 j hj
  rw [getD_lt (by omega)]
  simpa using this
theorem row_idx {s : PileSite} (hs : s.ok) (p : Pile) (t load : Int) : ∃ i, i < s.rows.length ∧ (rowOf s p t load).1 = s.rows.getD i default ∧ ((rowOf s p t load).2 = false → 0 < carr p t ∧ needs p t load ≤ (s.rows.getD i default).use) ∧ ((rowOf s p t load).2 = true → i = s.rows.length - 1) ∧
    ∀ j, j < i → 0 < carr p t → (s.rows.getD j default).use < needs p t load := by
  have hrl : 1 ≤ s.rows.length ∧ s.rows.length ≤ 6 := hs.2.2.2.1
  unfold rowOf
  by_cases hc : 0 < carr p t
  · rw [if_pos hc]
    split
    · rename_i r hr
      obtain ⟨i, h1, h2, h3, h4⟩ := find_idx hr
      refine ⟨i, h1, h2.symm, fun _ => ⟨hc, ?_⟩, (fun h => by cases h), fun j hj _ => ?_⟩
      · rw [h2]; simpa using h3
      · have := h4 j hj; simpa using this
    · rename_i hr
      refine ⟨s.rows.length - 1, by omega, rfl, (fun h => by cases h), fun _ => rfl, fun j hj _ => ?_⟩
      have h1 := List.find?_eq_none.1 hr (s.rows.getD j default) (by rw [getD_lt (show j < s.rows.length by omega)]; exact List.getElem_mem _)
      simpa using h1
  · rw [if_neg hc]
    exact ⟨s.rows.length - 1, by omega, rfl, (fun h => by cases h), fun _ => rfl, fun j hj h => absurd h hc⟩
theorem rowOf_mono {s : PileSite} (hs : s.ok) (p : Pile) {t t' load load' : Int} (hc : carr p t' ≤ carr p t) (hl : load ≤ load') (hl0 : 0 ≤ load) :
    (rowOf s p t load).1.settle.low ≤ (rowOf s p t' load').1.settle.low ∧ (rowOf s p t load).1.settle.high ≤ (rowOf s p t' load').1.settle.high ∧ ((rowOf s p t load).2 = true → (rowOf s p t' load').2 = true) := by
  obtain ⟨i, i1, i2, i3, i4, i5⟩ := row_idx hs p t load
  obtain ⟨j, j1, j2, j3, j4, j5⟩ := row_idx hs p t' load'
  have hij : i ≤ j := by
    refine Nat.le_of_not_lt fun hlt => ?_
    cases hb : (rowOf s p t' load').2 with
    | true => have := j4 hb; omega
    | false =>
      obtain ⟨k1, k2⟩ := j3 hb
      have := i5 j hlt (by omega)
      have := needs_mono hc hl k1 hl0
      omega
  have h := rows_le hs i j hij j1
  rw [i2, j2]
  refine ⟨h.2.1, h.2.2, fun hb => ?_⟩
  cases hb' : (rowOf s p t' load').2 with
  | true => rfl
  | false =>
    obtain ⟨k1, k2⟩ := j3 hb'
    have hf := rowOf_fails hs p t load
    rw [hb] at hf
    have hlast : (lastRow s).use < needs p t load := by
      have h0 : decide (0 < carr p t) = true := decide_eq_true (by omega)
      rw [h0] at hf
      simpa using hf.symm
    have hjl := (rows_le hs j (s.rows.length - 1) (by omega) (by omega)).1
    have := needs_mono hc hl k1 hl0
    unfold lastRow at hlast
    omega
theorem carr_anti {p : Pile} (hp : p.ok) {t t' : Int} (h : t ≤ t') : carr p t' ≤ carr p t := by
  have h1 : 0 ≤ p.skin ∧ p.skin ≤ 10000 := hp.2.2.1
  have h2 : p.skin * max 0 (p.depth - t') ≤ p.skin * max 0 (p.depth - t) := Int.mul_le_mul_of_nonneg_left (by omega) h1.1
  unfold carr
  omega
theorem headAt_mono {st st' : Nat → Nat → Int} {pl : Nat → Int} {k : Nat} : ∀ y, (∀ z, z < y → st' z k ≤ st z k) → headAt st pl y k ≤ headAt st' pl y k
  | 0, _ => Int.le_refl _
  | y + 1, h => by
    have h1 := headAt_mono (pl := pl) y (fun z hz => h z (by omega))
    have h2 := h y (by omega)
    simp only [headAt]
    split <;> omega
end Go.Tk
