/-
  DERIVED. GIVEN WITH THE SEED: THE CARDS: each row of YtcllnnjeaidppaaGreatDoorRows.lean that lists a variable, with what it lists TIED to the program's text (the seventh form; the later family's looks); each row that meets fmt, with fmt's text TOLD by the authors' own Lean function (tested against real Go, not proved from fmt's source: count such statements apart). THE CARD IS WHAT COUNTS. Prove the row's statement (the work); the ties are given (YtcllnnjeaidppaaGreatDoorTie.lean); close each card by the builder's one call (the guide's Derived/Test/ToyasCard.lean, 'card_holds'). Laid BY PROGRAM, IN A SANDBOX (cutbox-door.mjs). By AI agents, Wed Nov 11 2026. No macro, syntax, notation, axiom, sorry.
-/
import Derived.Test.YtcllnnjeaidppaaGreatDoorRows
import GoSem.ClaimSeven
namespace Go.Proofs.YtcllnnjeaidppaaGreatDoor
namespace Rows

/-- THE TIED CARD OF 'taliklaw09.SpeakAparts'. -/
def speakApartsCard : Claim7 := { stood := { row := speakApartsRow, standIns := [], harness := (true, "8ab000e3e4ff83b86ea8dca09de4e4a5868dd298be9e4b2d334429a1c81081c3"), looks := true }, kinds := [], alts := [], laidByText := true, laidKinds := [.data, .pinned], laidTests := true, laidLooks := .later }
def SpeakApartsCardSaid : Prop := Claim7.holds Tryz.pinned (.plain (OpenSpec.ofChange speakApartsSpec)) speakApartsCard

/-- THE TIED CARD OF 'taliklaw09.SpeakMeant'. -/
def speakMeantCard : Claim7 := { stood := { row := speakMeantRow, standIns := [], harness := (true, "8ab000e3e4ff83b86ea8dca09de4e4a5868dd298be9e4b2d334429a1c81081c3"), looks := true }, kinds := [], alts := [], laidByText := true, laidKinds := [.data, .pinned], laidTests := true, laidLooks := .later }
def SpeakMeantCardSaid : Prop := Claim7.holds Tryz.pinned (.plain (OpenSpec.ofChange speakMeantSpec)) speakMeantCard

/-- THE TIED CARD OF 'taliklaw09.SpeakTexts'. -/
def speakTextsCard : Claim7 := { stood := { row := speakTextsRow, standIns := [], harness := (true, "8ab000e3e4ff83b86ea8dca09de4e4a5868dd298be9e4b2d334429a1c81081c3"), looks := true }, kinds := [], alts := [], laidByText := true, laidKinds := [.data, .pinned], laidTests := true, laidLooks := .later }
def SpeakTextsCardSaid : Prop := Claim7.holds Tryz.pinned (.plain (OpenSpec.ofChange speakTextsSpec)) speakTextsCard

/-- THE TIED CARD OF 'taliklaw09.SpeakReads'. -/
def speakReadsCard : Claim7 := { stood := { row := speakReadsRow, standIns := [], harness := (true, "8ab000e3e4ff83b86ea8dca09de4e4a5868dd298be9e4b2d334429a1c81081c3"), looks := true }, kinds := [], alts := [], laidByText := true, laidKinds := [.data, .pinned], laidTests := true, laidLooks := .later }
def SpeakReadsCardSaid : Prop := Claim7.holds Tryz.pinned (.plain (OpenSpec.ofChange speakReadsSpec)) speakReadsCard

/-- THE TIED CARD OF 'taliklaw09.SpeakTranslates'. -/
def speakTranslatesCard : Claim7 := { stood := { row := speakTranslatesRow, standIns := [], harness := (true, "8ab000e3e4ff83b86ea8dca09de4e4a5868dd298be9e4b2d334429a1c81081c3"), looks := true }, kinds := [], alts := [], laidByText := true, laidKinds := [.data, .pinned], laidTests := true, laidLooks := .later }
def SpeakTranslatesCardSaid : Prop := Claim7.holds Tryz.pinned (.plain (OpenSpec.ofChange speakTranslatesSpec)) speakTranslatesCard

/-- THE TIED CARD OF 'taliklaw09.SpeakRefuses'. -/
def speakRefusesCard : Claim7 := { stood := { row := speakRefusesRow, standIns := [], harness := (true, "8ab000e3e4ff83b86ea8dca09de4e4a5868dd298be9e4b2d334429a1c81081c3"), looks := true }, kinds := [], alts := [], laidByText := true, laidKinds := [.data, .pinned], laidTests := true, laidLooks := .later }
def SpeakRefusesCardSaid : Prop := Claim7.holds Tryz.pinned (.plain (OpenSpec.ofChange speakRefusesSpec)) speakRefusesCard

/-- THE TIED CARD OF 'taliklaw09.SpeakFinds'. -/
def speakFindsCard : Claim7 := { stood := { row := speakFindsRow, standIns := [], harness := (true, "8ab000e3e4ff83b86ea8dca09de4e4a5868dd298be9e4b2d334429a1c81081c3"), looks := true }, kinds := [], alts := [], laidByText := true, laidKinds := [.data, .pinned], laidTests := true, laidLooks := .later }
def SpeakFindsCardSaid : Prop := Claim7.holds Tryz.pinned (.plain (OpenSpec.ofChange speakFindsSpec)) speakFindsCard

/-- THE TIED CARD OF 'taliklaw09.SpeakGone'. -/
def speakGoneCard : Claim7 := { stood := { row := speakGoneRow, standIns := [], harness := (true, "8ab000e3e4ff83b86ea8dca09de4e4a5868dd298be9e4b2d334429a1c81081c3"), looks := true }, kinds := [], alts := [], laidByText := true, laidKinds := [.data, .pinned], laidTests := true, laidLooks := .later }
def SpeakGoneCardSaid : Prop := Claim7.holds Tryz.pinned (.plain (OpenSpec.ofChange speakGoneSpec)) speakGoneCard

/-- THE TIED CARD OF 'taliklaw09.SpeakHolds'. -/
def speakHoldsCard : Claim7 := { stood := { row := speakHoldsRow, standIns := [], harness := (true, "8ab000e3e4ff83b86ea8dca09de4e4a5868dd298be9e4b2d334429a1c81081c3"), looks := true }, kinds := [], alts := [], laidByText := true, laidKinds := [.data, .pinned], laidTests := true, laidLooks := .later }
def SpeakHoldsCardSaid : Prop := Claim7.holds Tryz.pinned (.plain (OpenSpec.ofChange speakHoldsSpec)) speakHoldsCard

/-- THE TIED CARD OF 'taliklaw09.SpeakCounts'. -/
def speakCountsCard : Claim7 := { stood := { row := speakCountsRow, standIns := [], harness := (true, "8ab000e3e4ff83b86ea8dca09de4e4a5868dd298be9e4b2d334429a1c81081c3"), looks := true }, kinds := [], alts := [], laidByText := true, laidKinds := [.data, .pinned], laidTests := true, laidLooks := .later }
def SpeakCountsCardSaid : Prop := Claim7.holds Tryz.pinned (.plain (OpenSpec.ofChange speakCountsSpec)) speakCountsCard

/-- THE TIED CARD OF 'taliklaw09.SpeakWanted'. -/
def speakWantedCard : Claim7 := { stood := { row := speakWantedRow, standIns := [], harness := (true, "8ab000e3e4ff83b86ea8dca09de4e4a5868dd298be9e4b2d334429a1c81081c3"), looks := true }, kinds := [], alts := [], laidByText := true, laidKinds := [.data, .pinned], laidTests := true, laidLooks := .later }
def SpeakWantedCardSaid : Prop := Claim7.holds Tryz.pinned (.plain (OpenSpec.ofChange speakWantedSpec)) speakWantedCard

/-- THE TIED CARD OF 'taliklaw09.SpeakMore'. -/
def speakMoreCard : Claim7 := { stood := { row := speakMoreRow, standIns := [], harness := (true, "8ab000e3e4ff83b86ea8dca09de4e4a5868dd298be9e4b2d334429a1c81081c3"), looks := true }, kinds := [], alts := [], laidByText := true, laidKinds := [.data, .pinned], laidTests := true, laidLooks := .later }
def SpeakMoreCardSaid : Prop := Claim7.holds Tryz.pinned (.plain (OpenSpec.ofChange speakMoreSpec)) speakMoreCard

/-- THE SECOND FORM's CARD OF 'taliklaw09.SpeakAparts'. -/
def speakApartsUptoCard : Claim7 := { stood := { row := speakApartsUptoRow, standIns := [], harness := (true, "8ab000e3e4ff83b86ea8dca09de4e4a5868dd298be9e4b2d334429a1c81081c3"), looks := true }, kinds := [], alts := [], laidByText := true, laidKinds := [.data, .pinned], laidTests := true, laidLooks := .later }
def SpeakApartsUptoCardSaid : Prop := Claim7.holds Tryz.pinned (.plain (OpenSpec.upto speakApartsSpec)) speakApartsUptoCard

/-- THE SECOND FORM's CARD OF 'taliklaw09.SpeakMeant'. -/
def speakMeantUptoCard : Claim7 := { stood := { row := speakMeantUptoRow, standIns := [], harness := (true, "8ab000e3e4ff83b86ea8dca09de4e4a5868dd298be9e4b2d334429a1c81081c3"), looks := true }, kinds := [], alts := [], laidByText := true, laidKinds := [.data, .pinned], laidTests := true, laidLooks := .later }
def SpeakMeantUptoCardSaid : Prop := Claim7.holds Tryz.pinned (.plain (OpenSpec.upto speakMeantSpec)) speakMeantUptoCard

/-- THE SECOND FORM's CARD OF 'taliklaw09.SpeakTexts'. -/
def speakTextsUptoCard : Claim7 := { stood := { row := speakTextsUptoRow, standIns := [], harness := (true, "8ab000e3e4ff83b86ea8dca09de4e4a5868dd298be9e4b2d334429a1c81081c3"), looks := true }, kinds := [], alts := [], laidByText := true, laidKinds := [.data, .pinned], laidTests := true, laidLooks := .later }
def SpeakTextsUptoCardSaid : Prop := Claim7.holds Tryz.pinned (.plain (OpenSpec.upto speakTextsSpec)) speakTextsUptoCard

/-- THE SECOND FORM's CARD OF 'taliklaw09.SpeakReads'. -/
def speakReadsUptoCard : Claim7 := { stood := { row := speakReadsUptoRow, standIns := [], harness := (true, "8ab000e3e4ff83b86ea8dca09de4e4a5868dd298be9e4b2d334429a1c81081c3"), looks := true }, kinds := [], alts := [], laidByText := true, laidKinds := [.data, .pinned], laidTests := true, laidLooks := .later }
def SpeakReadsUptoCardSaid : Prop := Claim7.holds Tryz.pinned (.plain (OpenSpec.upto speakReadsSpec)) speakReadsUptoCard

/-- THE SECOND FORM's CARD OF 'taliklaw09.SpeakTranslates'. -/
def speakTranslatesUptoCard : Claim7 := { stood := { row := speakTranslatesUptoRow, standIns := [], harness := (true, "8ab000e3e4ff83b86ea8dca09de4e4a5868dd298be9e4b2d334429a1c81081c3"), looks := true }, kinds := [], alts := [], laidByText := true, laidKinds := [.data, .pinned], laidTests := true, laidLooks := .later }
def SpeakTranslatesUptoCardSaid : Prop := Claim7.holds Tryz.pinned (.plain (OpenSpec.upto speakTranslatesSpec)) speakTranslatesUptoCard

/-- THE SECOND FORM's CARD OF 'taliklaw09.SpeakRefuses'. -/
def speakRefusesUptoCard : Claim7 := { stood := { row := speakRefusesUptoRow, standIns := [], harness := (true, "8ab000e3e4ff83b86ea8dca09de4e4a5868dd298be9e4b2d334429a1c81081c3"), looks := true }, kinds := [], alts := [], laidByText := true, laidKinds := [.data, .pinned], laidTests := true, laidLooks := .later }
def SpeakRefusesUptoCardSaid : Prop := Claim7.holds Tryz.pinned (.plain (OpenSpec.upto speakRefusesSpec)) speakRefusesUptoCard

/-- THE SECOND FORM's CARD OF 'taliklaw09.SpeakFinds'. -/
def speakFindsUptoCard : Claim7 := { stood := { row := speakFindsUptoRow, standIns := [], harness := (true, "8ab000e3e4ff83b86ea8dca09de4e4a5868dd298be9e4b2d334429a1c81081c3"), looks := true }, kinds := [], alts := [], laidByText := true, laidKinds := [.data, .pinned], laidTests := true, laidLooks := .later }
def SpeakFindsUptoCardSaid : Prop := Claim7.holds Tryz.pinned (.plain (OpenSpec.upto speakFindsSpec)) speakFindsUptoCard

/-- THE SECOND FORM's CARD OF 'taliklaw09.SpeakGone'. -/
def speakGoneUptoCard : Claim7 := { stood := { row := speakGoneUptoRow, standIns := [], harness := (true, "8ab000e3e4ff83b86ea8dca09de4e4a5868dd298be9e4b2d334429a1c81081c3"), looks := true }, kinds := [], alts := [], laidByText := true, laidKinds := [.data, .pinned], laidTests := true, laidLooks := .later }
def SpeakGoneUptoCardSaid : Prop := Claim7.holds Tryz.pinned (.plain (OpenSpec.upto speakGoneSpec)) speakGoneUptoCard

/-- THE SECOND FORM's CARD OF 'taliklaw09.SpeakHolds'. -/
def speakHoldsUptoCard : Claim7 := { stood := { row := speakHoldsUptoRow, standIns := [], harness := (true, "8ab000e3e4ff83b86ea8dca09de4e4a5868dd298be9e4b2d334429a1c81081c3"), looks := true }, kinds := [], alts := [], laidByText := true, laidKinds := [.data, .pinned], laidTests := true, laidLooks := .later }
def SpeakHoldsUptoCardSaid : Prop := Claim7.holds Tryz.pinned (.plain (OpenSpec.upto speakHoldsSpec)) speakHoldsUptoCard

/-- THE SECOND FORM's CARD OF 'taliklaw09.SpeakCounts'. -/
def speakCountsUptoCard : Claim7 := { stood := { row := speakCountsUptoRow, standIns := [], harness := (true, "8ab000e3e4ff83b86ea8dca09de4e4a5868dd298be9e4b2d334429a1c81081c3"), looks := true }, kinds := [], alts := [], laidByText := true, laidKinds := [.data, .pinned], laidTests := true, laidLooks := .later }
def SpeakCountsUptoCardSaid : Prop := Claim7.holds Tryz.pinned (.plain (OpenSpec.upto speakCountsSpec)) speakCountsUptoCard

/-- THE SECOND FORM's CARD OF 'taliklaw09.SpeakWanted'. -/
def speakWantedUptoCard : Claim7 := { stood := { row := speakWantedUptoRow, standIns := [], harness := (true, "8ab000e3e4ff83b86ea8dca09de4e4a5868dd298be9e4b2d334429a1c81081c3"), looks := true }, kinds := [], alts := [], laidByText := true, laidKinds := [.data, .pinned], laidTests := true, laidLooks := .later }
def SpeakWantedUptoCardSaid : Prop := Claim7.holds Tryz.pinned (.plain (OpenSpec.upto speakWantedSpec)) speakWantedUptoCard

/-- THE SECOND FORM's CARD OF 'taliklaw09.SpeakMore'. -/
def speakMoreUptoCard : Claim7 := { stood := { row := speakMoreUptoRow, standIns := [], harness := (true, "8ab000e3e4ff83b86ea8dca09de4e4a5868dd298be9e4b2d334429a1c81081c3"), looks := true }, kinds := [], alts := [], laidByText := true, laidKinds := [.data, .pinned], laidTests := true, laidLooks := .later }
def SpeakMoreUptoCardSaid : Prop := Claim7.holds Tryz.pinned (.plain (OpenSpec.upto speakMoreSpec)) speakMoreUptoCard
end Rows
end Go.Proofs.YtcllnnjeaidppaaGreatDoor
