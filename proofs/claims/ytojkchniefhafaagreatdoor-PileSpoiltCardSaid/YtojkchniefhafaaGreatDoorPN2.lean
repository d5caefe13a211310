/- Plain: texts that are split and joined; the text of a level book. -/
import Derived.Test.YtojkchniefhafaaGreatDoorPN1
set_option linter.unusedVariables false
set_option linter.unusedSimpArgs false
namespace Go.Tk
open Go
def splitL (c : UInt8) : Bts → List Bts
  | [] => [[]]
  | b :: l => if b = c then [] :: splitL c l else match splitL c l with
    | w :: r => (b :: w) :: r
    | [] => [[b]]
def joinL (c : UInt8) : List Bts → Bts
  | [] => []
  | [w] => w
  | w :: v :: r => w ++ c :: joinL c (v :: r)
theorem split_ne (c : UInt8) : ∀ l : Bts, splitL c l ≠ []
  | [] => by simp [splitL]
  | b :: l => by
    unfold splitL
    split
    · simp
    · split <;> simp
theorem split_self {c : UInt8} : ∀ {w : Bts}, c ∉ w → splitL c w = [w]
  | [], _ => rfl
  | b :: w, h => by
    have hb : b ≠ c := fun e => h (by rw [e]; exact List.mem_cons_self)
    have ih := split_self (c := c) (w := w) fun q => h (List.mem_cons_of_mem _ q)
    unfold splitL
    rw [if_neg hb, ih]
theorem split_cons {c : UInt8} : ∀ {w : Bts} {s : Bts}, c ∉ w → splitL c (w ++ c :: s) = w :: splitL c s
  | [], s, _ => by
    rw [List.nil_append]
    conv => lhs; unfold splitL
    rw [if_pos rfl]
  | b :: w, s, h => by
    have hb : b ≠ c := fun e => h (by rw [e]; exact List.mem_cons_self)
    have ih := split_cons (c := c) (w := w) (s := s) fun q => h (List.mem_cons_of_mem _ q)
    rw [List.cons_append]
    conv => lhs; unfold splitL
    rw [if_neg hb, ih]
theorem split_join {c : UInt8} : ∀ {ws : List Bts}, ws ≠ [] → (∀ w ∈ ws, c ∉ w) → splitL c (joinL c ws) = ws
  | [], h, _ => absurd rfl h
  | [w], _, h => split_self (h w List.mem_cons_self)
  | w :: v :: r, _, h => by
    show splitL c (w ++ c :: joinL c (v :: r)) = _
    rw [split_cons (h w List.mem_cons_self), split_join (by simp) fun x hx => h x (List.mem_cons_of_mem _ hx)]
theorem join_cons {c : UInt8} {w : Bts} {r : List Bts} (h : r ≠ []) : joinL c (w :: r) = w ++ c :: joinL c r := by
  cases r with
  | nil => exact absurd rfl h
  | cons v r => rfl
theorem join_split {c : UInt8} : ∀ l : Bts, joinL c (splitL c l) = l
  | [] => rfl
  | b :: l => by
    have ih := join_split (c := c) l
    have hne := split_ne c l
    unfold splitL
    by_cases hb : b = c
    · subst hb
      rw [if_pos rfl, join_cons hne, ih]; rfl
    · rw [if_neg hb]
      cases hs : splitL c l with
      | nil => exact absurd hs hne
      | cons w r =>
        rw [hs] at ih
        dsimp only
        cases r with
        | nil =>
          show b :: w = b :: l
          rw [← ih]; rfl
        | cons v r =>
          show (b :: w) ++ c :: joinL c (v :: r) = b :: l
          rw [← ih]; rfl
theorem split_eq {c : UInt8} {l : Bts} {ws : List Bts} (h : splitL c l = ws) : l = joinL c ws := by rw [← h, join_split]
theorem mem_join {c : UInt8} : ∀ {ws : List Bts} {b : UInt8}, b ∈ joinL c ws → b = c ∨ ∃ w ∈ ws, b ∈ w
  | [], b, h => by simp [joinL] at h
  | [w], b, h => .inr ⟨w, List.mem_cons_self, h⟩
  | w :: v :: r, b, h => by
    have h' : b ∈ w ++ c :: joinL c (v :: r) := h
    rcases List.mem_append.1 h' with h' | h'
    · exact .inr ⟨w, List.mem_cons_self, h'⟩
    · rcases List.mem_cons.1 h' with h' | h'
      · exact .inl h'
      · rcases mem_join h' with h' | ⟨x, hx, hb⟩
        · exact .inl h'
        · exact .inr ⟨x, List.mem_cons_of_mem _ hx, hb⟩
/-! ### the text of a level book -/
def headW : Bts := [108, 101, 118, 101, 108, 115]
def yearW : Bts := [121, 101, 97, 114]
def endW : Bts := [101, 110, 100]
def wordsL (w : Bts) (ns : List Int) : Bts := joinL 32 (w :: ns.map Lib.itoa)
def kN (n : Int) : Nat := if n < 0 then 2 * n.natAbs + 1 else 2 * n.natAbs
def stepS (y s i : Nat) (n : Int) : Nat := (s + kN n % 997 * (i + 1) % 997 * (y + 1)) % 997
def sumTo (y s : Nat) (row : List Int) (i : Nat) : Nat := (List.range i).foldl (fun s i => stepS y s i (row.getD i default)) s
def sumAll (l : List (List Int)) (y : Nat) : Nat := (List.range y).foldl (fun s y => sumTo y s (l.getD y default) (l.getD y default).length) 0
def sumB (l : List (List Int)) : Nat := sumAll l l.length
def endV (s : Nat) : Bts := endW ++ 32 :: (Lib.itoa ((s / 100 : Nat) : Int) ++ Lib.itoa ((s / 10 % 10 : Nat) : Int) ++ Lib.itoa ((s % 10 : Nat) : Int))
def yearV (l : List (List Int)) (y : Nat) : Bts := wordsL yearW ((y : Int) :: l.getD y default)
def linesL (l : List (List Int)) (p : Nat) : List Bts := wordsL headW [(l.length : Int), (p : Int)] :: ((List.range l.length).map (yearV l) ++ [endV (sumB l)])
def bookB (l : List (List Int)) (p : Nat) : Bts := joinL 10 (linesL l p) ++ [10]
/-- A text is the book of levels. -/
structure validT (T : Bts) (l : List (List Int)) (p : Nat) : Prop where
  eq : T = bookB l p
  row : ∀ y, y < l.length → (l.getD y default).length = p ∧ ∀ n ∈ l.getD y default, n.natAbs ≤ 999999999
  hp : p ≤ 999999999
  hl : l.length ≤ 999999999
theorem itoa_no32 (n : Int) : (32 : UInt8) ∉ Lib.itoa n := fun h => by
  rcases itoa_chars n _ h with e | e <;> exact absurd e (by decide)
theorem itoa_no10 (n : Int) : (10 : UInt8) ∉ Lib.itoa n := fun h => by
  rcases itoa_chars n _ h with e | e <;> exact absurd e (by decide)
theorem words_split {w : Bts} (hw : (32 : UInt8) ∉ w) (ns : List Int) : splitL 32 (wordsL w ns) = w :: ns.map Lib.itoa := by
  refine split_join (by simp) fun x hx => ?_
  rcases List.mem_cons.1 hx with rfl | hx
  · exact hw
  · obtain ⟨n, _, rfl⟩ := List.mem_map.1 hx
    exact itoa_no32 n
theorem words_no10 {w : Bts} (hw : (10 : UInt8) ∉ w) (ns : List Int) : (10 : UInt8) ∉ wordsL w ns := fun h => by
  rcases mem_join h with h | ⟨x, hx, hb⟩
  · exact absurd h (by decide)
  · rcases List.mem_cons.1 hx with rfl | hx
    · exact hw hb
    · obtain ⟨n, _, rfl⟩ := List.mem_map.1 hx
      exact itoa_no10 n hb
theorem end_no10 (s : Nat) : (10 : UInt8) ∉ endV s := fun h => by
  unfold endV at h
  rcases List.mem_append.1 h with h | h
  · exact absurd h (by decide)
  · rcases List.mem_cons.1 h with h | h
    · exact absurd h (by decide)
    · rcases List.mem_append.1 h with h | h
      · rcases List.mem_append.1 h with h | h
        · exact itoa_no10 _ h
        · exact itoa_no10 _ h
      · exact itoa_no10 _ h
theorem lines_split (l : List (List Int)) (p : Nat) : splitL 10 (joinL 10 (linesL l p)) = linesL l p := by
  refine split_join (by simp [linesL]) fun x hx => ?_
  unfold linesL at hx
  rcases List.mem_cons.1 hx with rfl | hx
  · exact words_no10 (by decide) _
  · rcases List.mem_append.1 hx with hx | hx
    · obtain ⟨y, _, rfl⟩ := List.mem_map.1 hx
      exact words_no10 (by decide) _
    · have : x = endV (sumB l) := by simpa using hx
      subst this
      exact end_no10 _
theorem lines_len (l : List (List Int)) (p : Nat) : (linesL l p).length = l.length + 2 := by simp [linesL]
theorem lines_year (l : List (List Int)) (p : Nat) {y : Nat} (hy : y < l.length) : (linesL l p).getD (y + 1) default = yearV l y := by
  unfold linesL
  rw [List.getD_cons_succ]
  simp [List.getD, List.getElem?_append_left, hy]
theorem lines_end (l : List (List Int)) (p : Nat) : (linesL l p).getD (l.length + 1) default = endV (sumB l) := by
  unfold linesL
  rw [List.getD_cons_succ]
  simp [List.getD]
end Go.Tk
