/- Plain: lines that are read, and the text that they make. -/
import Derived.Test.YtojkchniefhafaaGreatDoorPY7
set_option linter.unusedVariables false
set_option linter.unusedSimpArgs false
set_option linter.unusedSectionVars false
set_option maxRecDepth 8000
namespace Go.Tk
open Go Go.Av
theorem nums_iff : ∀ {ws : List Bts} {ns : List Int}, numsOf ws = some ns ↔ ws = ns.map Lib.itoa ∧ ∀ n ∈ ns, n.natAbs ≤ 999999999
  | [], ns => by
    simp only [numsOf]
    constructor
    · intro h; cases h; exact ⟨rfl, fun n hn => by cases hn⟩
    · rintro ⟨h, -⟩
      cases ns with
      | nil => rfl
      | cons n ns => simp at h
  | w :: ws, ns => by
    simp only [numsOf]
    constructor
    · intro h
      cases hw : numOf w with
      | none => rw [hw] at h; cases h
      | some n =>
        cases hr : numsOf ws with
        | none => rw [hw, hr] at h; cases h
        | some ms =>
          rw [hw, hr] at h
          cases h
          obtain ⟨a1, a2⟩ := numOf_iff.1 hw
          obtain ⟨b1, b2⟩ := nums_iff.1 hr
          refine ⟨by rw [List.map_cons, ← a1, ← b1], fun m hm => ?_⟩
          rcases List.mem_cons.1 hm with rfl | hm
          · exact a2
          · exact b2 m hm
    · rintro ⟨h, hb⟩
      cases ns with
      | nil => simp at h
      | cons n ns =>
        rw [List.map_cons] at h
        injection h with h1 h2
        rw [numOf_iff.2 ⟨h1, hb n List.mem_cons_self⟩, nums_iff.2 ⟨h2, fun m hm => hb m (List.mem_cons_of_mem _ hm)⟩]
theorem head_iff {ws : List Bts} {A B : Int} : headOf ws = some (A, B) ↔ ws = [Lib.itoa A, Lib.itoa B] ∧ (0 ≤ A ∧ A ≤ 999999999) ∧ 0 ≤ B ∧ B ≤ 999999999 := by
  constructor
  · intro h
    unfold headOf at h
    split at h
    · rename_i a b
      cases ha : amtOf a with
      | none => rw [ha] at h; cases h
      | some x =>
        cases hb : amtOf b with
        | none => rw [ha, hb] at h; cases h
        | some y =>
          rw [ha, hb] at h
          cases h
          obtain ⟨a1, a2⟩ := amt_some.1 ha
          obtain ⟨b1, b2⟩ := amt_some.1 hb
          obtain ⟨c1, c2⟩ := numOf_iff.1 a1
          obtain ⟨d1, d2⟩ := numOf_iff.1 b1
          exact ⟨by rw [c1, d1], ⟨a2, by omega⟩, b2, by omega⟩
    · cases h
  · rintro ⟨rfl, h1, h2⟩
    have ha : amtOf (Lib.itoa A) = some A := amt_some.2 ⟨numOf_iff.2 ⟨rfl, by omega⟩, h1.1⟩
    have hb : amtOf (Lib.itoa B) = some B := amt_some.2 ⟨numOf_iff.2 ⟨rfl, by omega⟩, h2.1⟩
    simp only [headOf, ha, hb]
theorem year_iff {ws : List Bts} {p y : Nat} (hy : y ≤ 999999999) {row : List Int} : yearOf ws p y = some row ↔ ws = ((y : Int) :: row).map Lib.itoa ∧ row.length = p ∧ ∀ n ∈ row, n.natAbs ≤ 999999999 := by
  unfold yearOf
  constructor
  · intro h
    split at h
    · rename_i hl
      split at h
      · rename_i w r
        split at h
        · rename_i ha
          obtain ⟨a1, a2⟩ := amt_some.1 ha
          obtain ⟨c1, c2⟩ := numOf_iff.1 a1
          obtain ⟨b1, b2⟩ := nums_iff.1 h
          refine ⟨by rw [List.map_cons, ← c1, ← b1], ?_, b2⟩
          rw [b1] at hl
          simpa using hl
        · cases h
      · cases h
    · cases h
  · rintro ⟨rfl, hl, hb⟩
    rw [if_pos (by simp [hl])]
    rw [List.map_cons]
    dsimp only
    rw [if_pos (amt_some.2 ⟨numOf_iff.2 ⟨rfl, by omega⟩, by omega⟩)]
    exact nums_iff.2 ⟨rfl, hb⟩
theorem map_itoa_inj : ∀ {a b : List Int}, a.map Lib.itoa = b.map Lib.itoa → a = b
  | [], [], _ => rfl
  | [], _ :: _, h => by simp at h
  | _ :: _, [], h => by simp at h
  | x :: a, y :: b, h => by
    rw [List.map_cons, List.map_cons] at h
    injection h with h1 h2
    rw [itoa_inj h1, map_itoa_inj h2]
theorem words_inj {w : Bts} (hw : (32 : UInt8) ∉ w) {a b : List Int} (h : wordsL w a = wordsL w b) : a = b := by
  have := congrArg (splitL 32) h
  rw [words_split hw, words_split hw] at this
  injection this with _ h2
  exact map_itoa_inj h2
theorem lines_head (l : List (List Int)) (p : Nat) : (linesL l p).getD 0 default = wordsL headW [(l.length : Int), (p : Int)] := rfl
/-- The lines of a text that is a book. -/
theorem valid_lines {T : Bts} {l : List (List Int)} {p : Nat} (h : validT T l p) : ∃ body, T = body ++ [10] ∧ splitL 10 body = linesL l p := ⟨_, h.eq, lines_split l p⟩
/-- The first lines of a text, as they have been read. -/
structure readT (ls : List Bts) (i Y p : Nat) (L : List (List Int)) : Prop where
  zero : i = 0 → Y = 0 ∧ p = 0 ∧ L = []
  len : L.length = i - 1
  head : 0 < i → ls.getD 0 default = wordsL headW [(Y : Int), (p : Int)]
  hp : p ≤ 999999999
  hY : Y ≤ 999999999
  row : ∀ y, y < L.length → ls.getD (y + 1) default = yearV L y ∧ (L.getD y default).length = p ∧ ∀ n ∈ L.getD y default, n.natAbs ≤ 999999999
theorem read_start (ls : List Bts) : readT ls 0 0 0 [] := ⟨fun _ => ⟨rfl, rfl, rfl⟩, rfl, fun h => absurd h (by omega), by omega, by omega, fun y hy => absurd hy (Nat.not_lt_zero _)⟩
theorem yearV_app {L : List (List Int)} {row : List Int} {y : Nat} (hy : y < L.length) : yearV (L ++ [row]) y = yearV L y := by
  unfold yearV
  rw [getD_lt hy, getD_lt (by simp; omega), List.getElem_append_left hy]
theorem yearV_last (L : List (List Int)) (row : List Int) : yearV (L ++ [row]) L.length = wordsL yearW ((L.length : Int) :: row) := by
  unfold yearV
  rw [getD_lt (by simp), List.getElem_append_right (Nat.le_refl _)]
  simp
theorem read_head {ls : List Bts} {A B : Nat} (hA : A ≤ 999999999) (hB : B ≤ 999999999) (h : ls.getD 0 default = wordsL headW [(A : Int), (B : Int)]) : readT ls 1 A B [] :=
  ⟨fun h => absurd h (by omega), rfl, fun _ => h, hB, hA, fun y hy => absurd hy (Nat.not_lt_zero _)⟩
theorem read_year {ls : List Bts} {i Y p : Nat} {L : List (List Int)} (h : readT ls i Y p L) (hi : 0 < i) {row : List Int} (hl : row.length = p) (hb : ∀ n ∈ row, n.natAbs ≤ 999999999) (he : ls.getD i default = wordsL yearW ((L.length : Int) :: row)) : readT ls (i + 1) Y p (L ++ [row]) := by
  have hlen := h.len
  refine ⟨fun q => absurd q (by omega), by simp; omega, fun _ => h.head hi, h.hp, h.hY, fun y hy => ?_⟩
  rw [List.length_append, List.length_singleton] at hy
  by_cases e : y = L.length
  · subst e
    rw [yearV_last, show L.length + 1 = i by omega, he]
    have : (L ++ [row]).getD L.length default = row := by rw [getD_lt (by simp), List.getElem_append_right (Nat.le_refl _)]; simp
    rw [this]
    exact ⟨rfl, hl, hb⟩
  · have hy' : y < L.length := by omega
    obtain ⟨r1, r2, r3⟩ := h.row y hy'
    have : (L ++ [row]).getD y default = L.getD y default := by rw [getD_lt hy', getD_lt (by simp; omega), List.getElem_append_left hy']
    rw [yearV_app hy', this]
    exact ⟨r1, r2, r3⟩
/-- If a text is a book, each of its lines is as it must be. -/
theorem line_head {ls : List Bts} {l : List (List Int)} {p : Nat} {T : Bts} (h : validT T l p) (hs : ls = linesL l p) : splitL 32 (ls.getD 0 default) = headW :: [Lib.itoa (l.length : Int), Lib.itoa (p : Int)] ∧ headOf [Lib.itoa (l.length : Int), Lib.itoa (p : Int)] = some ((l.length : Int), (p : Int)) := by
  rw [hs, lines_head]
  exact ⟨words_split (by decide) _, head_iff.2 ⟨rfl, ⟨by omega, by have := h.hl; omega⟩, by omega, by have := h.hp; omega⟩⟩
theorem line_year {ls : List Bts} {l : List (List Int)} {p : Nat} {T : Bts} (h : validT T l p) (hs : ls = linesL l p) {i Y q : Nat} {L : List (List Int)} (hr : readT ls i Y q L) (hi : 0 < i) (hi2 : i + 1 < ls.length) :
    ∃ row, splitL 32 (ls.getD i default) = yearW :: ((L.length : Int) :: row).map Lib.itoa ∧ yearOf (((L.length : Int) :: row).map Lib.itoa) q L.length = some row := by
  have hlen := hr.len
  have hhead := hr.head hi
  rw [hs, lines_len] at hi2
  have hq : q = p := by
    rw [hs, lines_head] at hhead
    have := words_inj (w := headW) (by decide) hhead
    simp only [List.cons.injEq, and_true] at this
    omega
  have hy : L.length < l.length := by omega
  refine ⟨l.getD L.length default, ?_, ?_⟩
  · rw [hs, show i = L.length + 1 by omega, lines_year l p hy]
    exact words_split (by decide) _
  · obtain ⟨r1, r2⟩ := h.row _ hy
    exact (year_iff (by have := h.hl; omega)).2 ⟨rfl, by rw [r1, hq], r2⟩
/-- All lines read: the text is a book just if the last of them is as it must be. -/
theorem read_end {T body : Bts} {Y p : Nat} {L : List (List Int)} (hT : T = body ++ [10]) (hn : 2 ≤ (splitL 10 body).length) (hr : readT (splitL 10 body) ((splitL 10 body).length - 1) Y p L) (hb : T.length ≤ 100000) :
    (Y = L.length ∧ (splitL 10 body).getD (L.length + 1) default = endV (sumB L) → validT T L p) ∧ (¬ (Y = L.length ∧ (splitL 10 body).getD (L.length + 1) default = endV (sumB L)) → ∀ l q, ¬ validT T l q) := by
  have hlen := hr.len
  have hhead := hr.head (by omega)
  constructor
  · rintro ⟨h1, h2⟩
    refine ⟨?_, fun y hy => (hr.row y hy).2, hr.hp, by rw [← h1]; exact hr.hY⟩
    have hls : splitL 10 body = linesL L p := by
      apply List.ext_getElem
      · rw [lines_len]; omega
      · intro j g1 g2
        rw [← getD_lt g1, ← getD_lt g2]
        by_cases e0 : j = 0
        · subst e0; rw [hhead, lines_head, h1]
        · by_cases e1 : j = L.length + 1
          · subst e1; rw [h2, lines_end]
          · rw [lines_len] at g2
            obtain ⟨y, rfl⟩ : ∃ y, j = y + 1 := ⟨j - 1, by omega⟩
            rw [(hr.row y (by omega)).1, lines_year L p (by omega)]
    rw [hT, ← join_split (c := 10) body, hls]
    rfl
  · intro hno l q hv
    obtain ⟨body', hb', hs⟩ := valid_lines hv
    have : body' = body := by
      rw [hT] at hb'
      exact (List.append_cancel_right hb').symm
    subst this
    rw [hs] at hno hr hhead hlen hn
    rw [lines_head] at hhead
    rw [lines_len] at hlen
    have hw := words_inj (w := headW) (by decide) hhead
    simp only [List.cons.injEq, and_true] at hw
    refine hno ⟨by omega, ?_⟩
    have hLl : L = l := by
      apply List.ext_getElem
      · omega
      · intro j g1 g2
        have h1 := (hr.row j g1).1
        rw [lines_year l q g2] at h1
        unfold yearV at h1
        have := words_inj (w := yearW) (by decide) h1
        simp only [List.cons.injEq, true_and] at this
        rw [← getD_lt g1, ← getD_lt g2]
        exact this.symm
    rw [hLl, lines_end]
end Go.Tk
