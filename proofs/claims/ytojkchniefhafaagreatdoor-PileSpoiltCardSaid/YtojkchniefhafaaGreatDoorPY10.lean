/- Plain: what each line of a text tells of the whole. -/
import Derived.Test.YtojkchniefhafaaGreatDoorPY8
set_option linter.unusedVariables false
set_option linter.unusedSimpArgs false
set_option linter.unusedSectionVars false
set_option maxRecDepth 8000
namespace Go.Tk
open Go Go.Av
theorem splitL_len (c : UInt8) : ∀ l : Bts, (splitL c l).length ≤ l.length + 1
  | [] => by simp [splitL]
  | b :: l => by
    have ih := splitL_len c l
    unfold splitL
    split
    · simp; omega
    · split
      · rename_i w r h; rw [h] at ih; simp at ih ⊢; omega
      · simp
theorem split_word (c : UInt8) : ∀ l : Bts, ∀ w ∈ splitL c l, w.length ≤ l.length
  | [], w, h => by
    have : w = [] := by simpa [splitL] using h
    subst this; simp
  | b :: l, w, h => by
    have ih := split_word c l
    unfold splitL at h
    split at h
    · rcases List.mem_cons.1 h with rfl | h
      · simp
      · have := ih w h; simp; omega
    · split at h
      · rename_i v r hs
        rcases List.mem_cons.1 h with rfl | h
        · have := ih v (by rw [hs]; exact List.mem_cons_self); simp; omega
        · have := ih w (by rw [hs]; exact List.mem_cons_of_mem _ h); simp; omega
      · have : w = [b] := by simpa using h
        subst this; simp
theorem suffix_no {T : Bts} (h : Lib.hasSuffix T [10] = false) : ∀ l p, ¬ validT T l p := fun l p hv => by
  obtain ⟨body, hb, -⟩ := valid_lines hv
  subst hb
  have : Lib.hasSuffix (body ++ [10]) [10] = true := by
    unfold Lib.hasSuffix
    exact List.isSuffixOf_iff_suffix.2 ⟨body, rfl⟩
  rw [this] at h; cases h
theorem suffix_yes {T : Bts} (h : Lib.hasSuffix T [10] = true) : ∃ body, T = body ++ [10] ∧ Lib.trimSuffix T [10] = body := by
  have h' := h
  unfold Lib.hasSuffix at h
  obtain ⟨body, hb⟩ := List.isSuffixOf_iff_suffix.1 h
  refine ⟨body, hb.symm, ?_⟩
  unfold Lib.trimSuffix
  rw [if_pos h', ← hb]
  simp
theorem few_no {T body : Bts} (hT : T = body ++ [10]) (h : (splitL 10 body).length < 2) : ∀ l p, ¬ validT T l p := fun l p hv => by
  obtain ⟨b2, hb, hs⟩ := valid_lines hv
  have : b2 = body := by rw [hT] at hb; exact (List.append_cancel_right hb).symm
  subst this
  rw [hs, lines_len] at h
  omega
section
variable {T body : Bts} (hT : T = body ++ [10]) {i Y p : Nat} {L : List (List Int)} (hr : readT (splitL 10 body) i Y p L) (hi : i + 1 < (splitL 10 body).length)
include hT
theorem body_eq {b2 : Bts} (h : T = b2 ++ [10]) : b2 = body := by rw [hT] at h; exact (List.append_cancel_right h).symm
def kindW (i : Nat) : Bts := if i = 0 then headW else yearW
include hr hi
theorem bad_word {w : Bts} {r : List Bts} (hs : splitL 32 ((splitL 10 body).getD i default) = w :: r) (hw : w ≠ kindW i) : ∀ l p, ¬ validT T l p := fun l q hv => by
  obtain ⟨b2, hb, hs2⟩ := valid_lines hv
  have := body_eq hT hb
  subst this
  unfold kindW at hw
  by_cases h0 : i = 0
  · subst h0
    have := (line_head hv hs2).1
    rw [hs] at this
    injection this with h1 h2
    exact hw (by rw [if_pos rfl]; exact h1)
  · obtain ⟨row, h1, h2⟩ := line_year hv hs2 hr (by omega) hi
    rw [hs] at h1
    injection h1 with h3 h4
    exact hw (by rw [if_neg h0]; exact h3)
theorem bad_head {w : Bts} {r : List Bts} (h0 : i = 0) (hs : splitL 32 ((splitL 10 body).getD i default) = w :: r) (hn : headOf r = none) : ∀ l p, ¬ validT T l p := fun l q hv => by
  obtain ⟨b2, hb, hs2⟩ := valid_lines hv
  have := body_eq hT hb
  subst this
  subst h0
  have := line_head hv hs2
  rw [hs] at this
  injection this.1 with h1 h2
  rw [h2, this.2] at hn
  cases hn
theorem bad_year {w : Bts} {r : List Bts} (h0 : 0 < i) (hs : splitL 32 ((splitL 10 body).getD i default) = w :: r) (hn : yearOf r p L.length = none) : ∀ l p, ¬ validT T l p := fun l q hv => by
  obtain ⟨b2, hb, hs2⟩ := valid_lines hv
  have := body_eq hT hb
  subst this
  obtain ⟨row, h1, h2⟩ := line_year hv hs2 hr h0 hi
  rw [hs] at h1
  injection h1 with h3 h4
  rw [h4, h2] at hn
  cases hn
theorem good_head {r : List Bts} {A B : Int} (h0 : i = 0) (hs : splitL 32 ((splitL 10 body).getD i default) = headW :: r) (hn : headOf r = some (A, B)) : ∃ Y' p' : Nat, A = Y' ∧ B = p' ∧ readT (splitL 10 body) (i + 1) Y' p' [] := by
  subst h0
  obtain ⟨h1, h2, h3⟩ := head_iff.1 hn
  subst h1
  refine ⟨A.toNat, B.toNat, by omega, by omega, read_head (by omega) (by omega) ?_⟩
  rw [split_eq hs, show ((A.toNat : Nat) : Int) = A by omega, show ((B.toNat : Nat) : Int) = B by omega]
  rfl
theorem good_year {r : List Bts} {row : List Int} (hL : L.length ≤ 999999999) (h0 : 0 < i) (hs : splitL 32 ((splitL 10 body).getD i default) = yearW :: r) (hn : yearOf r p L.length = some row) : readT (splitL 10 body) (i + 1) Y p (L ++ [row]) ∧ row.length + 1 = r.length := by
  obtain ⟨h1, h2, h3⟩ := (year_iff hL).1 hn
  refine ⟨read_year hr h0 h2 h3 ?_, by rw [h1]; simp⟩
  rw [split_eq hs, h1]
  rfl
end
end Go.Tk
