/-
  DERIVED. GIVEN WITH THE SEED: THE CARDS: each row of YtibgfmhddcibcaaDoorRows.lean that lists a variable, with what it lists TIED to the program's text (the seventh form; the later family's looks); each row that meets fmt, with fmt's text TOLD by the authors' own Lean function (tested against real Go, not proved from fmt's source: count such statements apart). THE CARD IS WHAT COUNTS. Prove the row's statement (the work); the ties are given (YtibgfmhddcibcaaDoorTie.lean); close each card by the builder's one call (the guide's Derived/Test/ToyasCard.lean, 'card_holds'). Laid BY PROGRAM, IN A SANDBOX (cutbox-door.mjs). By AI agents, Wed Nov 11 2026. No macro, syntax, notation, axiom, sorry.
-/
import Derived.Test.YtibgfmhddcibcaaDoorRows
import GoSem.ClaimSeven
namespace Go.Proofs.YtibgfmhddcibcaaDoor
namespace Rows

/-- THE TIED CARD OF 'taliklaw02.PileLevels'. -/
def pileLevelsCard : Claim7 := { stood := { row := pileLevelsRow, standIns := [], harness := (true, "e5053c3ba15709018db175d6c4a0f2355b15ac48fde4860c915a9c882c22c3be"), looks := false }, kinds := [], alts := [], laidByText := true, laidKinds := [.data, .data, .data], laidTests := true, laidLooks := .later }
def PileLevelsCardSaid : Prop := Claim7.holds Tryd.pinned (.plain (OpenSpec.ofChange pileLevelsSpec)) pileLevelsCard

/-- THE TIED CARD OF 'taliklaw02.PileFaults'. -/
def pileFaultsCard : Claim7 := { stood := { row := pileFaultsRow, standIns := [], harness := (true, "e5053c3ba15709018db175d6c4a0f2355b15ac48fde4860c915a9c882c22c3be"), looks := false }, kinds := [], alts := [], laidByText := true, laidKinds := [.data, .data, .data], laidTests := true, laidLooks := .later }
def PileFaultsCardSaid : Prop := Claim7.holds Tryd.pinned (.plain (OpenSpec.ofChange pileFaultsSpec)) pileFaultsCard

/-- THE TIED CARD OF 'taliklaw02.PileBests'. -/
def pileBestsCard : Claim7 := { stood := { row := pileBestsRow, standIns := [], harness := (true, "e5053c3ba15709018db175d6c4a0f2355b15ac48fde4860c915a9c882c22c3be"), looks := false }, kinds := [], alts := [], laidByText := true, laidKinds := [.data, .data, .data], laidTests := true, laidLooks := .later }
def PileBestsCardSaid : Prop := Claim7.holds Tryd.pinned (.plain (OpenSpec.ofChange pileBestsSpec)) pileBestsCard

/-- THE TIED CARD OF 'taliklaw02.PileRivals'. -/
def pileRivalsCard : Claim7 := { stood := { row := pileRivalsRow, standIns := [], harness := (true, "e5053c3ba15709018db175d6c4a0f2355b15ac48fde4860c915a9c882c22c3be"), looks := false }, kinds := [], alts := [], laidByText := true, laidKinds := [.data, .data, .data], laidTests := true, laidLooks := .later }
def PileRivalsCardSaid : Prop := Claim7.holds Tryd.pinned (.plain (OpenSpec.ofChange pileRivalsSpec)) pileRivalsCard

/-- THE TIED CARD OF 'taliklaw02.PileReadies'. -/
def pileReadiesCard : Claim7 := { stood := { row := pileReadiesRow, standIns := [], harness := (true, "e5053c3ba15709018db175d6c4a0f2355b15ac48fde4860c915a9c882c22c3be"), looks := false }, kinds := [], alts := [], laidByText := true, laidKinds := [.data, .data, .data], laidTests := true, laidLooks := .later }
def PileReadiesCardSaid : Prop := Claim7.holds Tryd.pinned (.plain (OpenSpec.ofChange pileReadiesSpec)) pileReadiesCard

/-- THE TIED CARD OF 'taliklaw02.PileCured'. -/
def pileCuredCard : Claim7 := { stood := { row := pileCuredRow, standIns := [], harness := (true, "e5053c3ba15709018db175d6c4a0f2355b15ac48fde4860c915a9c882c22c3be"), looks := false }, kinds := [], alts := [], laidByText := true, laidKinds := [.data, .data, .data], laidTests := true, laidLooks := .later }
def PileCuredCardSaid : Prop := Claim7.holds Tryd.pinned (.plain (OpenSpec.ofChange pileCuredSpec)) pileCuredCard

/-- THE TIED CARD OF 'taliklaw02.PileMore'. -/
def pileMoreCard : Claim7 := { stood := { row := pileMoreRow, standIns := [], harness := (true, "e5053c3ba15709018db175d6c4a0f2355b15ac48fde4860c915a9c882c22c3be"), looks := false }, kinds := [], alts := [], laidByText := true, laidKinds := [.data, .data, .data], laidTests := true, laidLooks := .later }
def PileMoreCardSaid : Prop := Claim7.holds Tryd.pinned (.plain (OpenSpec.ofChange pileMoreSpec)) pileMoreCard

/-- THE TIED CARD OF 'taliklaw02.PilePlays'. -/
def pilePlaysCard : Claim7 := { stood := { row := pilePlaysRow, standIns := [], harness := (true, "e5053c3ba15709018db175d6c4a0f2355b15ac48fde4860c915a9c882c22c3be"), looks := false }, kinds := [], alts := [], laidByText := true, laidKinds := [.data, .data, .data], laidTests := true, laidLooks := .later }
def PilePlaysCardSaid : Prop := Claim7.holds Tryd.pinned (.plain (OpenSpec.ofChange pilePlaysSpec)) pilePlaysCard

/-- THE TIED CARD OF 'taliklaw02.PileSharp'. -/
def pileSharpCard : Claim7 := { stood := { row := pileSharpRow, standIns := [], harness := (true, "e5053c3ba15709018db175d6c4a0f2355b15ac48fde4860c915a9c882c22c3be"), looks := false }, kinds := [], alts := [], laidByText := true, laidKinds := [.data, .data, .data], laidTests := true, laidLooks := .later }
def PileSharpCardSaid : Prop := Claim7.holds Tryd.pinned (.plain (OpenSpec.ofChange pileSharpSpec)) pileSharpCard

/-- THE TIED CARD OF 'taliklaw02.PileBlamed'. -/
def pileBlamedCard : Claim7 := { stood := { row := pileBlamedRow, standIns := [], harness := (true, "e5053c3ba15709018db175d6c4a0f2355b15ac48fde4860c915a9c882c22c3be"), looks := false }, kinds := [], alts := [], laidByText := true, laidKinds := [.data, .data, .data], laidTests := true, laidLooks := .later }
def PileBlamedCardSaid : Prop := Claim7.holds Tryd.pinned (.plain (OpenSpec.ofChange pileBlamedSpec)) pileBlamedCard

/-- THE TIED CARD OF 'taliklaw02.PileChecks'. -/
def pileChecksCard : Claim7 := { stood := { row := pileChecksRow, standIns := [], harness := (true, "e5053c3ba15709018db175d6c4a0f2355b15ac48fde4860c915a9c882c22c3be"), looks := false }, kinds := [], alts := [], laidByText := true, laidKinds := [.data, .data, .data], laidTests := true, laidLooks := .later }
def PileChecksCardSaid : Prop := Claim7.holds Tryd.pinned (.plain (OpenSpec.ofChange pileChecksSpec)) pileChecksCard

/-- THE TIED CARD OF 'taliklaw02.PileTrue'. -/
def pileTrueCard : Claim7 := { stood := { row := pileTrueRow, standIns := [], harness := (true, "e5053c3ba15709018db175d6c4a0f2355b15ac48fde4860c915a9c882c22c3be"), looks := false }, kinds := [], alts := [], laidByText := true, laidKinds := [.data, .data, .data], laidTests := true, laidLooks := .later }
def PileTrueCardSaid : Prop := Claim7.holds Tryd.pinned (.plain (OpenSpec.ofChange pileTrueSpec)) pileTrueCard

/-- THE SECOND FORM's CARD OF 'taliklaw02.PileLevels'. -/
def pileLevelsUptoCard : Claim7 := { stood := { row := pileLevelsUptoRow, standIns := [], harness := (true, "e5053c3ba15709018db175d6c4a0f2355b15ac48fde4860c915a9c882c22c3be"), looks := false }, kinds := [], alts := [], laidByText := true, laidKinds := [.data, .data, .data], laidTests := true, laidLooks := .later }
def PileLevelsUptoCardSaid : Prop := Claim7.holds Tryd.pinned (.plain (OpenSpec.upto pileLevelsSpec)) pileLevelsUptoCard

/-- THE SECOND FORM's CARD OF 'taliklaw02.PileFaults'. -/
def pileFaultsUptoCard : Claim7 := { stood := { row := pileFaultsUptoRow, standIns := [], harness := (true, "e5053c3ba15709018db175d6c4a0f2355b15ac48fde4860c915a9c882c22c3be"), looks := false }, kinds := [], alts := [], laidByText := true, laidKinds := [.data, .data, .data], laidTests := true, laidLooks := .later }
def PileFaultsUptoCardSaid : Prop := Claim7.holds Tryd.pinned (.plain (OpenSpec.upto pileFaultsSpec)) pileFaultsUptoCard

/-- THE SECOND FORM's CARD OF 'taliklaw02.PileBests'. -/
def pileBestsUptoCard : Claim7 := { stood := { row := pileBestsUptoRow, standIns := [], harness := (true, "e5053c3ba15709018db175d6c4a0f2355b15ac48fde4860c915a9c882c22c3be"), looks := false }, kinds := [], alts := [], laidByText := true, laidKinds := [.data, .data, .data], laidTests := true, laidLooks := .later }
def PileBestsUptoCardSaid : Prop := Claim7.holds Tryd.pinned (.plain (OpenSpec.upto pileBestsSpec)) pileBestsUptoCard

/-- THE SECOND FORM's CARD OF 'taliklaw02.PileRivals'. -/
def pileRivalsUptoCard : Claim7 := { stood := { row := pileRivalsUptoRow, standIns := [], harness := (true, "e5053c3ba15709018db175d6c4a0f2355b15ac48fde4860c915a9c882c22c3be"), looks := false }, kinds := [], alts := [], laidByText := true, laidKinds := [.data, .data, .data], laidTests := true, laidLooks := .later }
def PileRivalsUptoCardSaid : Prop := Claim7.holds Tryd.pinned (.plain (OpenSpec.upto pileRivalsSpec)) pileRivalsUptoCard

/-- THE SECOND FORM's CARD OF 'taliklaw02.PileReadies'. -/
def pileReadiesUptoCard : Claim7 := { stood := { row := pileReadiesUptoRow, standIns := [], harness := (true, "e5053c3ba15709018db175d6c4a0f2355b15ac48fde4860c915a9c882c22c3be"), looks := false }, kinds := [], alts := [], laidByText := true, laidKinds := [.data, .data, .data], laidTests := true, laidLooks := .later }
def PileReadiesUptoCardSaid : Prop := Claim7.holds Tryd.pinned (.plain (OpenSpec.upto pileReadiesSpec)) pileReadiesUptoCard

/-- THE SECOND FORM's CARD OF 'taliklaw02.PileCured'. -/
def pileCuredUptoCard : Claim7 := { stood := { row := pileCuredUptoRow, standIns := [], harness := (true, "e5053c3ba15709018db175d6c4a0f2355b15ac48fde4860c915a9c882c22c3be"), looks := false }, kinds := [], alts := [], laidByText := true, laidKinds := [.data, .data, .data], laidTests := true, laidLooks := .later }
def PileCuredUptoCardSaid : Prop := Claim7.holds Tryd.pinned (.plain (OpenSpec.upto pileCuredSpec)) pileCuredUptoCard

/-- THE SECOND FORM's CARD OF 'taliklaw02.PileMore'. -/
def pileMoreUptoCard : Claim7 := { stood := { row := pileMoreUptoRow, standIns := [], harness := (true, "e5053c3ba15709018db175d6c4a0f2355b15ac48fde4860c915a9c882c22c3be"), looks := false }, kinds := [], alts := [], laidByText := true, laidKinds := [.data, .data, .data], laidTests := true, laidLooks := .later }
def PileMoreUptoCardSaid : Prop := Claim7.holds Tryd.pinned (.plain (OpenSpec.upto pileMoreSpec)) pileMoreUptoCard

/-- THE SECOND FORM's CARD OF 'taliklaw02.PilePlays'. -/
def pilePlaysUptoCard : Claim7 := { stood := { row := pilePlaysUptoRow, standIns := [], harness := (true, "e5053c3ba15709018db175d6c4a0f2355b15ac48fde4860c915a9c882c22c3be"), looks := false }, kinds := [], alts := [], laidByText := true, laidKinds := [.data, .data, .data], laidTests := true, laidLooks := .later }
def PilePlaysUptoCardSaid : Prop := Claim7.holds Tryd.pinned (.plain (OpenSpec.upto pilePlaysSpec)) pilePlaysUptoCard

/-- THE SECOND FORM's CARD OF 'taliklaw02.PileSharp'. -/
def pileSharpUptoCard : Claim7 := { stood := { row := pileSharpUptoRow, standIns := [], harness := (true, "e5053c3ba15709018db175d6c4a0f2355b15ac48fde4860c915a9c882c22c3be"), looks := false }, kinds := [], alts := [], laidByText := true, laidKinds := [.data, .data, .data], laidTests := true, laidLooks := .later }
def PileSharpUptoCardSaid : Prop := Claim7.holds Tryd.pinned (.plain (OpenSpec.upto pileSharpSpec)) pileSharpUptoCard

/-- THE SECOND FORM's CARD OF 'taliklaw02.PileBlamed'. -/
def pileBlamedUptoCard : Claim7 := { stood := { row := pileBlamedUptoRow, standIns := [], harness := (true, "e5053c3ba15709018db175d6c4a0f2355b15ac48fde4860c915a9c882c22c3be"), looks := false }, kinds := [], alts := [], laidByText := true, laidKinds := [.data, .data, .data], laidTests := true, laidLooks := .later }
def PileBlamedUptoCardSaid : Prop := Claim7.holds Tryd.pinned (.plain (OpenSpec.upto pileBlamedSpec)) pileBlamedUptoCard

/-- THE SECOND FORM's CARD OF 'taliklaw02.PileChecks'. -/
def pileChecksUptoCard : Claim7 := { stood := { row := pileChecksUptoRow, standIns := [], harness := (true, "e5053c3ba15709018db175d6c4a0f2355b15ac48fde4860c915a9c882c22c3be"), looks := false }, kinds := [], alts := [], laidByText := true, laidKinds := [.data, .data, .data], laidTests := true, laidLooks := .later }
def PileChecksUptoCardSaid : Prop := Claim7.holds Tryd.pinned (.plain (OpenSpec.upto pileChecksSpec)) pileChecksUptoCard

/-- THE SECOND FORM's CARD OF 'taliklaw02.PileTrue'. -/
def pileTrueUptoCard : Claim7 := { stood := { row := pileTrueUptoRow, standIns := [], harness := (true, "e5053c3ba15709018db175d6c4a0f2355b15ac48fde4860c915a9c882c22c3be"), looks := false }, kinds := [], alts := [], laidByText := true, laidKinds := [.data, .data, .data], laidTests := true, laidLooks := .later }
def PileTrueUptoCardSaid : Prop := Claim7.holds Tryd.pinned (.plain (OpenSpec.upto pileTrueSpec)) pileTrueUptoCard
end Rows
end Go.Proofs.YtibgfmhddcibcaaDoor
