import Derived.Test.YtibgfmhddcibcaaDoorMda
import Derived.Test.YtibgfmhddcibcaaDoorMdb
import Derived.Test.YtibgfmhddcibcaaDoorMdc
import Derived.Test.YtibgfmhddcibcaaDoorMdd
import Derived.Test.YtibgfmhddcibcaaDoorMc


namespace Go.Av
open Go.RowKit
theorem msplit {K : Ctx} {F : Fcx} {Q : AExit → St → Prop} {μ : List AObj} {rest : List SOper} {j : Nat} {sl : List SlotR} {env : List (Nat × AV)} {d : Option Nat} {t : Nat} {b c : Bool} {op : SOp} {l : List SOper} (he : getE env t = .bool c)
    (h1 : c = true → MGo K F Q μ rest j sl (⟨d, some (t, b), op⟩ :: l) env) (h2 : c = false → MGo K F Q μ rest j sl (⟨d, some (t, b), op⟩ :: l) env) : MGo K F Q μ rest j sl (⟨d, some (t, b), op⟩ :: l) env := by
  cases c
  · exact h2 rfl
  · exact h1 rfl
end Go.Av
namespace Go.Tk
open Go Go.Av
theorem frz_sl {α : Type} [Inhabited α] (enc : α → List AV) (l : List α) (id g sz n : Nat) (F : Nat → List AV) : frzA id g sz n F (slOf enc l) = slOf enc l := rfl
theorem frz_span (s : Span) (id g sz n : Nat) (F : Nat → List AV) : frzL id g sz n F s.cs = s.cs := rfl
theorem frz_pile (s : Pile) (id g sz n : Nat) (F : Nat → List AV) : frzL id g sz n F s.cs = s.cs := rfl
theorem frz_row (s : PileRow) (id g sz n : Nat) (F : Nat → List AV) : frzL id g sz n F s.cs = s.cs := rfl
theorem frz_pair (s : PilePair) (id g sz n : Nat) (F : Nat → List AV) : frzL id g sz n F s.cs = s.cs := rfl
theorem frz_site (s : PileSite) (id g sz n : Nat) (F : Nat → List AV) : frzL id g sz n F s.cs = s.cs := rfl
/-- A site with its thaws, as the program lays it. -/
def siteCs (s : PileSite) (th : List (List Span)) : List AV := [slOf Pile.cs s.piles, slOf PilePair.cs s.pairs, slOf PileRow.cs s.rows, .int .i64 s.may, .int .i64 s.sink, .int .i64 s.tilt, slOf spansCs th]
theorem frz_siteCs (s : PileSite) (th : List (List Span)) (id g sz n : Nat) (F : Nat → List AV) : frzL id g sz n F (siteCs s th) = siteCs s th := rfl
end Go.Tk
namespace Go.Proofs.YtibgfmhddcibcaaDoor
open Go Go.Av Go.Tk
theorem hmix : Tryd.prog.follows .mixedOrders = true := by kernel_rfl
end Go.Proofs.YtibgfmhddcibcaaDoor
