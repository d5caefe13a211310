/- Votes counted: the program. -/
import Derived.Test.YtcllnnjeaidppaaGreatDoorPW5
set_option linter.unusedVariables false
set_option linter.unusedSimpArgs false
set_option linter.unusedSectionVars false
set_option maxRecDepth 8000
set_option maxHeartbeats 8000000
namespace Go.Tk
open Go Go.Av
def byCs (s : ByteArray) : List AV := [.str s]
def Council.negOf (c : Council) (l : Int) : Bool := if l = 0 then c.n0 else if l = 1 then c.n1 else c.n2
def mnOf (c : Council) (ws : List ByteArray) (j : Nat) : Int := meansM ⟨c.langs.getD j default, ws.getD j default, c.negOf (c.langs.getD j default)⟩
def cntM (f : Nat → Int) (n : Int) (k : Nat) : Nat := (List.range k).countP fun j => decide (f j = n)
def grpM (g f : Nat → Int) (l n : Int) (k : Nat) : Nat := (List.range k).countP fun j => decide (g j = l ∧ f j = n)
theorem cntM_succ {f : Nat → Int} {n : Int} {k : Nat} : cntM f n (k + 1) = if f k = n then cntM f n k + 1 else cntM f n k := by
  unfold cntM
  rw [List.range_succ, List.countP_append, List.countP_cons, List.countP_nil]
  by_cases h : f k = n <;> simp [h]
theorem grpM_succ {g f : Nat → Int} {l n : Int} {k : Nat} : grpM g f l n (k + 1) = if g k = l ∧ f k = n then grpM g f l n k + 1 else grpM g f l n k := by
  unfold grpM
  rw [List.range_succ, List.countP_append, List.countP_cons, List.countP_nil]
  by_cases h : g k = l ∧ f k = n <;> simp [h]
theorem cntM_le {f : Nat → Int} {n : Int} {k : Nat} : cntM f n k ≤ k := by
  have := List.countP_le_length (p := fun j => decide (f j = n)) (l := List.range k)
  simpa [cntM] using this
theorem grpM_le {g f : Nat → Int} {l n : Int} {k : Nat} : grpM g f l n k ≤ k := by
  have := List.countP_le_length (p := fun j => decide (g j = l ∧ f j = n)) (l := List.range k)
  simpa [grpM] using this
def votesR (g f : Nat → Int) (k : Nat) : List AV := [I (cntM f 0 k), I (cntM f 1 k), I (cntM f 2 k), I (cntM f 3 k), I (grpM g f 0 0 k), I (grpM g f 0 1 k), I (grpM g f 0 2 k), I (grpM g f 0 3 k), I (grpM g f 1 0 k), I (grpM g f 1 1 k), I (grpM g f 1 2 k), I (grpM g f 1 3 k), I (grpM g f 2 0 k), I (grpM g f 2 1 k), I (grpM g f 2 2 k), I (grpM g f 2 3 k)]
theorem votesR_zero (g f : Nat → Int) : votesR g f 0 = [I 0, I 0, I 0, I 0, I 0, I 0, I 0, I 0, I 0, I 0, I 0, I 0, I 0, I 0, I 0, I 0] := by simp [votesR, cntM, grpM]
theorem means_bd (s : Sd) : 0 ≤ meansM s ∧ meansM s ≤ 3 := by
  unfold meansM
  split
  · omega
  · have h : ∀ p ∈ tabM, 1 ≤ p.2 ∧ p.2 ≤ 2 := by decide +kernel
    have g : ∀ (es : List (Sd × Int)), (∀ p ∈ es, 1 ≤ p.2 ∧ p.2 ≤ 2) → 1 ≤ (es.lookup s).getD 3 ∧ (es.lookup s).getD 3 ≤ 3 := by
      intro es
      induction es with
      | nil => intro _; simp [List.lookup]
      | cons p es ih =>
        intro hp
        obtain ⟨p1, p2⟩ := p
        have h1 := hp (p1, p2) List.mem_cons_self
        simp only at h1
        simp only [List.lookup]
        split
        · simp; omega
        · exact ih fun q hq => hp q (List.mem_cons_of_mem _ hq)
    have := g tabM h
    omega
end Go.Tk
