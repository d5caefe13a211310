/- The laws PileBooks and PileReads. -/
import Derived.Test.YtojkchniefhafaaGreatDoorPY15
import Derived.Test.YtojkchniefhafaaGreatDoorPKo
set_option linter.unusedVariables false
set_option linter.unusedSimpArgs false
set_option linter.unusedSectionVars false
set_option maxRecDepth 8000
set_option maxHeartbeats 4000000
namespace Go.Tk
open Go Go.Av
theorem book_row {l : List (List Int)} (h : bookOk l) {y : Nat} (hy : y < l.length) : (l.getD y default).length = (l.getD 0 default).length ∧ ∀ n ∈ l.getD y default, n.natAbs ≤ 999999999 := by
  obtain ⟨h1, h2⟩ := h.2.2 _ (mem_getD hy)
  exact ⟨h1, fun n hn => by have := h2 n hn; unfold levOk at this; omega⟩
theorem book_valid {l : List (List Int)} (h : bookOk l) : validT (bookB l (l.getD 0 default).length) l (l.getD 0 default).length :=
  ⟨rfl, fun y hy => book_row h hy, by have := h.2.1; omega, by have := h.1; omega⟩
theorem book_len {l : List (List Int)} (h : bookOk l) : (bookB l (l.getD 0 default).length).length ≤ 20000 := by
  obtain ⟨⟨a1, a2⟩, ⟨b1, b2⟩, -⟩ := id h
  have key : ∀ y, y ≤ l.length → (bookP l (l.getD 0 default).length y).length ≤ 100 + 300 * y := fun y => by
    induction y with
    | zero =>
      intro _
      have : bookP l (l.getD 0 default).length 0 = wordsL headW [(l.length : Int), ((l.getD 0 default).length : Int)] ++ [10] := by simp [bookP]
      rw [this]
      have := words_len headW (ns := [(l.length : Int), ((l.getD 0 default).length : Int)]) (fun n hn => by
        rcases List.mem_cons.1 hn with rfl | hn
        · omega
        · have : n = ((l.getD 0 default).length : Int) := by simpa using hn
          omega)
      simp only [List.length_append, List.length_cons, List.length_nil, headW] at this ⊢
      omega
    | succ y ih =>
      intro hy
      have h1 := ih (by omega)
      obtain ⟨r1, r2⟩ := book_row h (y := y) (by omega)
      rw [bookP_succ]
      have := words_len yearW (ns := (y : Int) :: l.getD y default) (fun n hn => by
        rcases List.mem_cons.1 hn with rfl | hn
        · omega
        · have := r2 n hn
          omega)
      unfold yearV
      simp only [List.length_append, List.length_cons, List.length_nil, yearW] at this ⊢
      omega
  have h1 := key l.length (Nat.le_refl _)
  have h2 := end_len (sumAll_lt l l.length)
  rw [bookP_end]
  simp only [List.length_append, List.length_cons, List.length_nil, sumB] at h2 ⊢
  omega
end Go.Tk
namespace Go.Proofs.YtojkchniefhafaaGreatDoor
open Go Go.Av Go.Tk
attribute [local irreducible] Holds sem semL ACalls FnIs strB
variable {G : World → Prop} (hG : ∀ w w', G w → RowKit.Below w.heap.size w w' → G w') (hT : ∀ w, G w → GB w)
include hG hT
end Go.Proofs.YtojkchniefhafaaGreatDoor
