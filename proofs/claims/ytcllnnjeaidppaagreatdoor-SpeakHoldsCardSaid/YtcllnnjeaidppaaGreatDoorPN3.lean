/- Plain: what the library's Split does at a separator of one byte. -/
import Derived.Test.YtcllnnjeaidppaaGreatDoorPN2
import Derived.Lib.Split
set_option linter.unusedVariables false
set_option linter.unusedSimpArgs false
namespace Go.Tk
open Go
theorem index_no {c : UInt8} : ∀ {s : Bts}, c ∉ s → Lib.index s [c] = -1
  | [], _ => by unfold Lib.index; rfl
  | b :: l, h => by
    have hb : ¬ c = b := fun e => h (by rw [e]; exact List.mem_cons_self)
    have ih := index_no (c := c) (s := l) fun q => h (List.mem_cons_of_mem _ q)
    unfold Lib.index
    rw [if_neg (by simp [List.isPrefixOf, hb]), ih]
    rfl
theorem index_at {c : UInt8} : ∀ {w s : Bts}, c ∉ w → Lib.index (w ++ c :: s) [c] = w.length
  | [], s, _ => by
    rw [List.nil_append]
    unfold Lib.index
    rw [if_pos (by simp [List.isPrefixOf])]
    rfl
  | b :: w, s, h => by
    have hb : ¬ c = b := fun e => h (by rw [e]; exact List.mem_cons_self)
    have ih := index_at (c := c) (w := w) (s := s) fun q => h (List.mem_cons_of_mem _ q)
    rw [List.cons_append]
    unfold Lib.index
    rw [if_neg (by simp [List.isPrefixOf, hb]), ih, if_neg (by simp)]
    simp
/-- A text is one piece, or a piece, the byte, and the rest. -/
theorem split_cases (c : UInt8) : ∀ s : Bts, c ∉ s ∨ ∃ w r, s = w ++ c :: r ∧ c ∉ w
  | [] => .inl (by simp)
  | b :: s => by
    by_cases hb : b = c
    · subst hb; exact .inr ⟨[], s, rfl, by simp⟩
    · rcases split_cases c s with h | ⟨w, r, rfl, h⟩
      · exact .inl fun q => (List.mem_cons.1 q).elim (fun e => hb e.symm) h
      · exact .inr ⟨b :: w, r, rfl, fun q => (List.mem_cons.1 q).elim (fun e => hb e.symm) h⟩
theorem splitK_eq {c : UInt8} : ∀ (n : Nat) (s : Bts), s.length ≤ n → Lib.splitK [c] 0 (Lib.count s [c]) s = splitL c s := fun n => by
  induction n with
  | zero =>
    intro s h
    have : s = [] := List.eq_nil_of_length_eq_zero (by omega)
    subst this
    rw [Lib.count_miss (index_no (by simp))]
    rfl
  | succ n ih =>
    intro s h
    rcases split_cases c s with hs | ⟨w, r, rfl, hw⟩
    · rw [Lib.count_miss (index_no hs), split_self hs]; rfl
    · have hi := index_at (s := r) hw
      rw [Lib.count_hit (by simp) hi, split_cons hw, Nat.add_comm 1]
      have hd : (w ++ c :: r).drop (w.length + [c].length) = r := by
        rw [List.length_singleton, List.drop_append]
        simp
      rw [hd]
      unfold Lib.splitK
      rw [if_neg (by rw [hi]; simp), hi, Int.toNat_natCast, hd, ih r (by simp at h; omega)]
      simp
def strB (l : Bts) : ByteArray := ⟨l.toArray⟩
theorem strB_list (l : Bts) : (strB l).data.toList = l := by simp [strB]
theorem strB_size (l : Bts) : (strB l).size = l.length := by
  show l.toArray.size = _
  simp
theorem ba_ext {a b : ByteArray} (h : a.data.toList = b.data.toList) : a = b := by
  obtain ⟨a⟩ := a
  obtain ⟨b⟩ := b
  congr 1
  exact Array.ext' h
theorem strB_of (s : ByteArray) : strB s.data.toList = s := ba_ext (strB_list _)
/-- The pieces that the library lays. -/
theorem splitB_eq (c : UInt8) (s : Bts) : Lib.splitB (strB [c]) 0 (Lib.countB (strB s) (strB [c])) (strB s) = (splitL c s).map strB := by
  have h := Lib.splitB_data (strB [c]) 0 (Lib.countB (strB s) (strB [c])) (strB s)
  unfold Lib.countB at h ⊢
  simp only [strB_list] at h ⊢
  rw [splitK_eq s.length s (Nat.le_refl _)] at h
  rw [← h, List.map_map]
  have hf : (strB ∘ fun x : ByteArray => x.data.toList) = id := funext strB_of
  rw [hf, List.map_id]
theorem countB_len (c : UInt8) (s : Bts) : Lib.countB (strB s) (strB [c]) + 1 = (splitL c s).length := by
  have h : ∀ (n : Nat) (s : Bts), s.length ≤ n → Lib.count s [c] + 1 = (splitL c s).length := fun n => by
    induction n with
    | zero =>
      intro s h
      have : s = [] := List.eq_nil_of_length_eq_zero (by omega)
      subst this
      rw [Lib.count_miss (index_no (by simp))]; rfl
    | succ n ih =>
      intro s h
      rcases split_cases c s with hs | ⟨w, r, rfl, hw⟩
      · rw [Lib.count_miss (index_no hs), split_self hs]; rfl
      · have hi := index_at (s := r) hw
        have hd : (w ++ c :: r).drop (w.length + [c].length) = r := by
          rw [List.length_singleton, List.drop_append]
          simp
        rw [Lib.count_hit (by simp) hi, split_cons hw, hd, List.length_cons, ← ih r (by simp at h; omega)]
        omega
  unfold Lib.countB
  simp only [strB_list]
  exact h s.length s (Nat.le_refl _)
end Go.Tk
