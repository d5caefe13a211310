/- Plain: texts that are split and joined; the text of a level book. -/
import Derived.Test.YtcllnnjeaidppaaGreatDoorPN1
set_option linter.unusedVariables false
set_option linter.unusedSimpArgs false
namespace Go.Tk
open Go
def splitL (c : UInt8) : Bts → List Bts
  | [] => [[]]
  | b :: l => if b = c then [] :: splitL c l else match splitL c l with
    | w :: r => (b :: w) :: r
    | [] => [[b]]
def joinL (c : UInt8) : List Bts → Bts
  | [] => []
  | [w] => w
  | w :: v :: r => w ++ c :: joinL c (v :: r)
theorem split_self {c : UInt8} : ∀ {w : Bts}, c ∉ w → splitL c w = [w]
  | [], _ => rfl
  | b :: w, h => by
    have hb : b ≠ c := fun e => h (by rw [e]; exact List.mem_cons_self)
    have ih := split_self (c := c) (w := w) fun q => h (List.mem_cons_of_mem _ q)
    unfold splitL
    rw [if_neg hb, ih]
theorem split_cons {c : UInt8} : ∀ {w : Bts} {s : Bts}, c ∉ w → splitL c (w ++ c :: s) = w :: splitL c s
  | [], s, _ => by
    rw [List.nil_append]
    conv => lhs; unfold splitL
    rw [if_pos rfl]
  | b :: w, s, h => by
    have hb : b ≠ c := fun e => h (by rw [e]; exact List.mem_cons_self)
    have ih := split_cons (c := c) (w := w) (s := s) fun q => h (List.mem_cons_of_mem _ q)
    rw [List.cons_append]
    conv => lhs; unfold splitL
    rw [if_neg hb, ih]
/-! ### the text of a level book -/
def headW : Bts := [108, 101, 118, 101, 108, 115]
def yearW : Bts := [121, 101, 97, 114]
def endW : Bts := [101, 110, 100]
def wordsL (w : Bts) (ns : List Int) : Bts := joinL 32 (w :: ns.map Lib.itoa)
def kN (n : Int) : Nat := if n < 0 then 2 * n.natAbs + 1 else 2 * n.natAbs
def stepS (y s i : Nat) (n : Int) : Nat := (s + kN n % 997 * (i + 1) % 997 * (y + 1)) % 997
def sumTo (y s : Nat) (row : List Int) (i : Nat) : Nat := (List.range i).foldl (fun s i => stepS y s i (row.getD i default)) s
def sumAll (l : List (List Int)) (y : Nat) : Nat := (List.range y).foldl (fun s y => sumTo y s (l.getD y default) (l.getD y default).length) 0
def sumB (l : List (List Int)) : Nat := sumAll l l.length
def endV (s : Nat) : Bts := endW ++ 32 :: (Lib.itoa ((s / 100 : Nat) : Int) ++ Lib.itoa ((s / 10 % 10 : Nat) : Int) ++ Lib.itoa ((s % 10 : Nat) : Int))
def yearV (l : List (List Int)) (y : Nat) : Bts := wordsL yearW ((y : Int) :: l.getD y default)
def linesL (l : List (List Int)) (p : Nat) : List Bts := wordsL headW [(l.length : Int), (p : Int)] :: ((List.range l.length).map (yearV l) ++ [endV (sumB l)])
def bookB (l : List (List Int)) (p : Nat) : Bts := joinL 10 (linesL l p) ++ [10]
/-- A text is the book of levels. -/
structure validT (T : Bts) (l : List (List Int)) (p : Nat) : Prop where
  eq : T = bookB l p
  row : ∀ y, y < l.length → (l.getD y default).length = p ∧ ∀ n ∈ l.getD y default, n.natAbs ≤ 999999999
  hp : p ≤ 999999999
  hl : l.length ≤ 999999999
end Go.Tk
