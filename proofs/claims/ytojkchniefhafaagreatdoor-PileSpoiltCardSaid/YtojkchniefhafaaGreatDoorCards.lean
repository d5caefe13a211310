/-
  DERIVED. GIVEN WITH THE SEED: THE CARDS: each row of YtojkchniefhafaaGreatDoorRows.lean that lists a variable, with what it lists TIED to the program's text (the seventh form; the later family's looks); each row that meets fmt, with fmt's text TOLD by the authors' own Lean function (tested against real Go, not proved from fmt's source: count such statements apart). THE CARD IS WHAT COUNTS. Prove the row's statement (the work); the ties are given (YtojkchniefhafaaGreatDoorTie.lean); close each card by the builder's one call (the guide's Derived/Test/ToyasCard.lean, 'card_holds'). Laid BY PROGRAM, IN A SANDBOX (cutbox-door.mjs). By AI agents, Wed Nov 11 2026. No macro, syntax, notation, axiom, sorry.
-/
import Derived.Test.YtojkchniefhafaaGreatDoorRows
import GoSem.ClaimSeven
namespace Go.Proofs.YtojkchniefhafaaGreatDoor
namespace Rows

/-- THE TIED CARD OF 'taliklaw02.PileBooks'. -/
def pileBooksCard : Claim7 := { stood := { row := pileBooksRow, standIns := [], harness := (true, "2ad6fa0df98c363e870db255fa14f13d134ddadc0ea8c329db5fa63b80537f0b"), looks := true }, kinds := [], alts := [], laidByText := true, laidKinds := [.data, .data, .data, .data, .sentinel, .sentinel, .pinned], laidTests := true, laidLooks := .later }
def PileBooksCardSaid : Prop := Claim7.holds Tryz.pinned (.plain (OpenSpec.ofChange pileBooksSpec)) pileBooksCard

/-- THE TIED CARD OF 'taliklaw02.PileReads'. -/
def pileReadsCard : Claim7 := { stood := { row := pileReadsRow, standIns := [], harness := (true, "2ad6fa0df98c363e870db255fa14f13d134ddadc0ea8c329db5fa63b80537f0b"), looks := true }, kinds := [], alts := [], laidByText := true, laidKinds := [.data, .data, .data, .data, .sentinel, .sentinel, .pinned], laidTests := true, laidLooks := .later }
def PileReadsCardSaid : Prop := Claim7.holds Tryz.pinned (.plain (OpenSpec.ofChange pileReadsSpec)) pileReadsCard

/-- THE TIED CARD OF 'taliklaw02.PileSpoilt'. -/
def pileSpoiltCard : Claim7 := { stood := { row := pileSpoiltRow, standIns := [], harness := (true, "2ad6fa0df98c363e870db255fa14f13d134ddadc0ea8c329db5fa63b80537f0b"), looks := true }, kinds := [], alts := [], laidByText := true, laidKinds := [.data, .data, .data, .data, .sentinel, .sentinel, .pinned], laidTests := true, laidLooks := .later }
def PileSpoiltCardSaid : Prop := Claim7.holds Tryz.pinned (.plain (OpenSpec.ofChange pileSpoiltSpec)) pileSpoiltCard

/-- THE SECOND FORM's CARD OF 'taliklaw02.PileBooks'. -/
def pileBooksUptoCard : Claim7 := { stood := { row := pileBooksUptoRow, standIns := [], harness := (true, "2ad6fa0df98c363e870db255fa14f13d134ddadc0ea8c329db5fa63b80537f0b"), looks := true }, kinds := [], alts := [], laidByText := true, laidKinds := [.data, .data, .data, .data, .sentinel, .sentinel, .pinned], laidTests := true, laidLooks := .later }
def PileBooksUptoCardSaid : Prop := Claim7.holds Tryz.pinned (.plain (OpenSpec.upto pileBooksSpec)) pileBooksUptoCard

/-- THE SECOND FORM's CARD OF 'taliklaw02.PileReads'. -/
def pileReadsUptoCard : Claim7 := { stood := { row := pileReadsUptoRow, standIns := [], harness := (true, "2ad6fa0df98c363e870db255fa14f13d134ddadc0ea8c329db5fa63b80537f0b"), looks := true }, kinds := [], alts := [], laidByText := true, laidKinds := [.data, .data, .data, .data, .sentinel, .sentinel, .pinned], laidTests := true, laidLooks := .later }
def PileReadsUptoCardSaid : Prop := Claim7.holds Tryz.pinned (.plain (OpenSpec.upto pileReadsSpec)) pileReadsUptoCard

/-- THE SECOND FORM's CARD OF 'taliklaw02.PileSpoilt'. -/
def pileSpoiltUptoCard : Claim7 := { stood := { row := pileSpoiltUptoRow, standIns := [], harness := (true, "2ad6fa0df98c363e870db255fa14f13d134ddadc0ea8c329db5fa63b80537f0b"), looks := true }, kinds := [], alts := [], laidByText := true, laidKinds := [.data, .data, .data, .data, .sentinel, .sentinel, .pinned], laidTests := true, laidLooks := .later }
def PileSpoiltUptoCardSaid : Prop := Claim7.holds Tryz.pinned (.plain (OpenSpec.upto pileSpoiltSpec)) pileSpoiltUptoCard
end Rows
end Go.Proofs.YtojkchniefhafaaGreatDoor
