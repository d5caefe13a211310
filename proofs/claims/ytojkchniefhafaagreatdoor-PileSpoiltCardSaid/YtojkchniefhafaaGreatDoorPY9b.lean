/- The lines of a book, read beside the table. -/
import Derived.Test.YtojkchniefhafaaGreatDoorPY9
set_option linter.unusedVariables false
set_option linter.unusedSimpArgs false
set_option linter.unusedSectionVars false
set_option maxRecDepth 8000
set_option maxHeartbeats 4000000
namespace Go.Tk
open Go Go.Av
theorem rowL_ren {α : Type} {enc : α → List AV} {g : Nat → Nat} (h : ∀ a, renL g (enc a) = enc a) {l : List α} : (rowL enc l).map (renL g) = rowL enc l := by
  unfold rowL
  rw [List.map_map]
  exact List.map_congr_left fun a _ => h a
theorem rowL_in {α : Type} {enc : α → List AV} {p : Nat → Bool} (h : ∀ a, inL p (enc a) = true) {l : List α} : (rowL enc l).all (inL p) = true := List.all_eq_true.2 fun x hx => by
  unfold rowL at hx
  obtain ⟨a, _, rfl⟩ := List.mem_map.1 hx
  exact h a
theorem putL2 (a b c x y : AObj) : putL [0, 1] [a, b, c] [x, y] = [renO (posOf [0, 1] 3) x, renO (posOf [0, 1] 3) y, c] := rfl
/-- What is owned while a text is read. -/
abbrev bkR (Y p : Int) (L : List (List Int)) : List AObj := [.row 113 0 3 [[I Y, I p, .hsl 1 L.length 1 L.length]], .row 23 L.length 1 (rowL intsCs L)]
theorem bkR_in (L : List (List Int)) (g : Nat → Bool) : (rowL intsCs L).all (inL g) = true := rowL_in (enc := intsCs) (fun _ => rfl)
theorem bkR_ren (L : List (List Int)) (g : Nat → Nat) : (rowL intsCs L).map (renL g) = rowL intsCs L := rowL_ren (enc := intsCs) (fun _ => rfl)
end Go.Tk
namespace Go.Proofs.YtojkchniefhafaaGreatDoor
open Go Go.Av Go.Tk
attribute [local irreducible] Holds sem semL ACalls FnIs strB
variable {K : Ctx} (hP : K.P = Tryz.prog) (hGK : ∀ w w', K.G w → RowKit.Below w.heap.size w w' → K.G w') (hT : ∀ w, K.G w → GB w)
include hP hGK hT
theorem head_3 (ws : List Bts) (hw : ∀ w ∈ ws, w.length ≤ 100000) (hl : ws.length ≤ 100000) (y p : Int) (M : List (AV × AV)) : ACalls K F.pile_book_head [.ptr 0 0 3 0 0, slOf strCs ws] [.row 113 0 3 [[I y, I p, .hsl 1 0 1 0]], .row 23 0 1 [], .map M] fun ae ν => match headOf ws with
    | some (A, B) => ae = .ret (.tup []) ∧ ν = [.row 113 0 3 [[I A, I B, .hsl 1 0 1 0]], .row 23 0 1 [], .map M]
    | none => wrongE ae ∧ ν = [.row 113 0 3 [[I y, I p, .hsl 1 0 1 0]], .row 23 0 1 [], .map M] := by
  refine ((head_2 hP hGK hT ws hw hl y p).placed (μ2 := [.row 113 0 3 [[I y, I p, .hsl 1 0 1 0]], .row 23 0 1 [], .map M]) (args2 := [.ptr 0 0 3 0 0, slOf strCs ws]) [0, 1] rfl rfl rfl rfl).imp fun ae ν hr => ?_
  obtain ⟨ae1, ν1, h1, rfl, rfl⟩ := hr
  cases hh : headOf ws with
  | none =>
    rw [hh] at h1
    obtain ⟨h1, rfl⟩ := h1
    exact ⟨h1.ren _, rfl⟩
  | some x =>
    obtain ⟨A, B'⟩ := x
    rw [hh] at h1
    obtain ⟨rfl, rfl⟩ := h1
    exact ⟨rfl, rfl⟩
theorem year_3 (ws : List Bts) (hw : ∀ w ∈ ws, w.length ≤ 100000) (hl : ws.length ≤ 100000) (y p : Nat) (hp : p ≤ 999999999) (L : List (List Int)) (hL : L.length ≤ 100000) (M : List (AV × AV)) : ACalls K F.pile_book_year [.ptr 0 0 3 0 0, slOf strCs ws] (bkR y p L ++ [.map M]) fun ae ν => match yearOf ws p L.length with
    | some row => ae = .ret (.tup []) ∧ ν = bkR y p (L ++ [row]) ++ [.map M]
    | none => wrongE ae ∧ ν = bkR y p L ++ [.map M] := by
  refine ((year_1 hP hGK hT ws hw hl y p hp L hL).placed (μ2 := bkR y p L ++ [.map M]) (args2 := [.ptr 0 0 3 0 0, slOf strCs ws]) [0, 1] ?_ ?_ rfl rfl).imp fun ae ν hr => ?_
  · simp only [placeOK, List.cons_append, List.nil_append, List.all_cons, List.all_nil, List.getD_cons_succ, List.getD_cons_zero, inO, bkR_in, inL, inA, slOf]
    rfl
  · simp only [List.map_cons, List.map_nil, List.cons_append, List.nil_append, List.getD_cons_succ, List.getD_cons_zero, renO, bkR_ren, renL, renA, slOf]
    rfl
  · obtain ⟨ae1, ν1, h1, rfl, rfl⟩ := hr
    cases hh : yearOf ws p L.length with
    | none =>
      rw [hh] at h1
      obtain ⟨h1, rfl⟩ := h1
      refine ⟨h1.ren _, ?_⟩
      refine (putL2 _ _ _ _ _).trans ?_
      simp only [renO, bkR_ren, List.map_cons, List.map_nil, renL, renA, slOf]
      rfl
    | some row =>
      rw [hh] at h1
      obtain ⟨rfl, rfl⟩ := h1
      refine ⟨rfl, ?_⟩
      refine (putL2 _ _ _ _ _).trans ?_
      simp only [renO, bkR_ren, List.map_cons, List.map_nil, renL, renA, slOf]
      rfl
end Go.Proofs.YtojkchniefhafaaGreatDoor
