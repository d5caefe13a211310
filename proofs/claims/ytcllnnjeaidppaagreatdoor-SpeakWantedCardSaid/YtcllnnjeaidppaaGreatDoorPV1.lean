/- Plain: votes by words are the votes that are wanted. -/
import Derived.Test.YtcllnnjeaidppaaGreatDoorPW8
import Derived.Test.YtcllnnjeaidppaaGreatDoorPW9
set_option linter.unusedVariables false
set_option linter.unusedSimpArgs false
set_option maxRecDepth 100000
namespace Go.Tk
open Go Go.Av
def wantOk (v : Int) : Prop := 0 ≤ v ∧ v ≤ 3
instance (v : Int) : Decidable (wantOk v) := by unfold wantOk; infer_instance
/-- The word of somebody who wants something. -/
def wordC (l : Int) (neg : Bool) (v : Int) : ByteArray := if v = 0 then wNil else wordR l neg v
theorem wordR_some {l v : Int} {neg : Bool} (hl : langOk l) (hv : 1 ≤ v ∧ v ≤ 3) : wordR l neg v ≠ wNil := by
  rcases (show l = 0 ∨ l = 1 ∨ l = 2 by unfold langOk at hl; omega) with rfl | rfl | rfl <;> rcases (show v = 1 ∨ v = 2 ∨ v = 3 by omega) with rfl | rfl | rfl <;> cases neg <;> decide
theorem means_word {l v : Int} {neg : Bool} (hl : langOk l) (hv : wantOk v) : meansM ⟨l, wordC l neg v, neg⟩ = v := by
  rcases (show l = 0 ∨ l = 1 ∨ l = 2 by unfold langOk at hl; omega) with rfl | rfl | rfl <;> rcases (show v = 0 ∨ v = 1 ∨ v = 2 ∨ v = 3 by unfold wantOk at hv; omega) with rfl | rfl | rfl | rfl <;> cases neg <;> decide +kernel
theorem cntM_congr {f g : Nat → Int} {n : Int} {k : Nat} (h : ∀ j, j < k → f j = g j) : cntM f n k = cntM g n k := by
  unfold cntM
  refine List.countP_congr fun j hj => ?_
  rw [h j (List.mem_range.1 hj)]
theorem grpM_congr {g f f' : Nat → Int} {l n : Int} {k : Nat} (h : ∀ j, j < k → f j = f' j) : grpM g f l n k = grpM g f' l n k := by
  unfold grpM
  refine List.countP_congr fun j hj => ?_
  rw [h j (List.mem_range.1 hj)]
theorem resOf_congr {q rule : Int} {g f f' : Nat → Int} {k : Nat} (h : ∀ j, j < k → f j = f' j) : resOf q rule g f k = resOf q rule g f' k := by
  unfold resOf vtsOf
  simp only [cntM_congr h, grpM_congr h]
/-- The words by which members say what they want. -/
def wordsC (c : Council) (w : List Int) (k : Nat) : List ByteArray := (List.range k).map fun j => wordC (langF c j) (c.negOf (langF c j)) (w.getD j default)
theorem wordsC_succ (c : Council) (w : List Int) (k : Nat) : wordsC c w (k + 1) = wordsC c w k ++ [wordC (langF c k) (c.negOf (langF c k)) (w.getD k default)] := by
  unfold wordsC
  rw [List.range_succ, List.map_append]; rfl
theorem wordsC_len (c : Council) (w : List Int) (k : Nat) : (wordsC c w k).length = k := by simp [wordsC]
def wantF (w : List Int) (j : Nat) : Int := w.getD j default
theorem count_words {c : Council} (hok : c.ok) {w : List Int} (hw : ∀ v ∈ w, wantOk v) (hl : w.length = c.langs.length) : countV c (wordsC c w w.length) = resOf c.quorum c.rule (langF c) (wantF w) c.langs.length := by
  unfold countV
  refine resOf_congr fun j hj => ?_
  unfold mnOf wantF
  have e : (wordsC c w w.length).getD j default = wordC (langF c j) (c.negOf (langF c j)) (w.getD j default) := by
    rw [getD_lt (by rw [wordsC_len]; omega)]
    simp [wordsC]
  rw [e]
  exact means_word (hok.1 _ (mem_getD hj)) (hw _ (mem_getD (by omega)))
theorem passV_all {v v' : Vts} {rule : Int} (h : v.all = v'.all) (hr : rule = 1 ∨ rule = 2) : passV v rule = passV v' rule := by
  unfold passV
  rcases hr with rfl | rfl <;> simp [h]
/-- What SpeakWanted asks of a result. -/
theorem passed_simple {q : Int} {g f : Nat → Int} {k : Nat} : (resOf q 1 g f k).passed = ((decide (q ≤ (k : Int) - cntM f 0 k) && decide (0 < (cntM f 1 k : Int))) && decide ((cntM f 2 k : Int) < cntM f 1 k)) := by
  simp [resOf, passV, vtsOf]
theorem passed_thirds {q : Int} {g f : Nat → Int} {k : Nat} : (resOf q 2 g f k).passed = ((decide (q ≤ (k : Int) - cntM f 0 k) && decide (0 < (cntM f 1 k : Int))) && decide (2 * (cntM f 2 k : Int) ≤ cntM f 1 k)) := by
  simp only [resOf, passV, vtsOf]
  rw [if_neg (by decide), if_pos trivial]
  congr 1
  refine decide_eq_decide.2 ?_
  omega
theorem passed_other {q rule : Int} {g g' f : Nat → Int} {k : Nat} (hr : rule = 1 ∨ rule = 2) : (resOf q rule g f k).passed = (resOf q rule g' f k).passed := by
  unfold resOf
  simp only
  rw [passV_all (v := vtsOf g f k) (v' := vtsOf g' f k) rfl hr]
end Go.Tk
