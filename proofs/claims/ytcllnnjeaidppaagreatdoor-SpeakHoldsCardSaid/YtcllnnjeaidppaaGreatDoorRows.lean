/-
  NARROWER THAN 'FOR EVERY INPUT', by the rows' own cells (each row's printed sentence says how): SpeakAparts: laid · SpeakMeant: laid · SpeakTexts: laid · SpeakReads: laid · SpeakTranslates: laid · SpeakRefuses: laid · SpeakFinds: laid · SpeakGone: laid · SpeakHolds: laid · SpeakCounts: laid · SpeakWanted: laid · SpeakMore: laid.
  DERIVED. THE GIVEN ROWS OF THIS SEAT. 12 by the template 'for every input the law returns true; each argument reads behind the call as it read before'; 0 by the template 'total and deterministic' (their statements: YtcllnnjeaidppaaGreatDoorTotals.lean).
  GIVEN WITH THE SEED: the statements are not yours to turn. If you find one false, say at which input.
  Laid BY PROGRAM, IN A SANDBOX (cutbox-rows.mjs): the forced cells as the released guide's own fill.sh prints them over the translation 5a97299540bcb70f… (all of the seat's roots in one cut). By AI agents, Wed Nov 11 2026. No macro, syntax, notation, axiom, sorry.
-/
import Derived.Test.YtcllnnjeaidppaaGreatDoorChecked
import GoSem.PinnedTables
import GoSem.Claim
import GoSem.ClaimJoined
import GoSem.ClaimMapViews
import Derived.JoinedTies
import Derived.KernelRfl
namespace Go.Proofs.YtcllnnjeaidppaaGreatDoor
/- THE CELL 'sum', in the pinned program and in every row, IS THE sha256 OF THE DUMP (.gsa) THAT YtcllnnjeaidppaaGreatDoorProg.lean LOADS. Nothing in Lean hashes anything: it is a label: what it is worth is what the hold of that sum in a sandbox is worth. -/
noncomputable def Tryz.pinned : Pinned := { name := "ytcllnnjeaidppaagreatdoor", sum := "5a97299540bcb70ff16ed681e2433854d195e29799bf71b5ed9d1fec7ff43b07", checked := Tryz.checked }
namespace Rows
def none {H : Type} : Left H := { results := [], args := [] }

/- WHAT THE LISTED PACKAGE-LEVEL VARIABLES READ AS WHEN THE CALL BEGINS. Each datum BY PROGRAM (the guide's laid-datum.mjs) off the statement by which the dump's own 'gosem.cut.vars' lays the variable. In a bare row this is a premise. The card (YtcllnnjeaidppaaGreatDoorCards.lean) ties it to the program's text. -/
def laid_unicode_utf8_acceptRanges {H : Type} : DataW H := .agg [.agg [.lit (.int .u8 128), .lit (.int .u8 191)], .agg [.lit (.int .u8 160), .lit (.int .u8 191)], .agg [.lit (.int .u8 128), .lit (.int .u8 159)], .agg [.lit (.int .u8 144), .lit (.int .u8 191)], .agg [.lit (.int .u8 128), .lit (.int .u8 143)], .agg [.lit (.int .u8 0), .lit (.int .u8 0)], .agg [.lit (.int .u8 0), .lit (.int .u8 0)], .agg [.lit (.int .u8 0), .lit (.int .u8 0)], .agg [.lit (.int .u8 0), .lit (.int .u8 0)], .agg [.lit (.int .u8 0), .lit (.int .u8 0)], .agg [.lit (.int .u8 0), .lit (.int .u8 0)], .agg [.lit (.int .u8 0), .lit (.int .u8 0)], .agg [.lit (.int .u8 0), .lit (.int .u8 0)], .agg [.lit (.int .u8 0), .lit (.int .u8 0)], .agg [.lit (.int .u8 0), .lit (.int .u8 0)], .agg [.lit (.int .u8 0), .lit (.int .u8 0)]]
/-- One of Go's own tables, pinned by name: the form's constant. -/
def laid_unicode_utf8_first : DataW Unit := Go.Pinned.utf8First

/-- 'taliklaw09.SpeakAparts': WHATEVER THE INPUT: true; the input reads as it did. -/
def speakApartsSpec : ChangeSpec := { name := "speakAparts", fn := fun _ => fun
  | [d1, d2] => { results := [.lit (.bool true)], args := [d1, d2] }
  | _ => none }
def speakApartsRow : OpenClaim := { program := "ytcllnnjeaidppaagreatdoor", sum := "5a97299540bcb70ff16ed681e2433854d195e29799bf71b5ed9d1fec7ff43b07", func := "talik/taliklaw09.SpeakAparts", spec := "speakAparts", inPlace := ["internal/bytealg.CountString", "internal/bytealg.IndexByteString", "internal/bytealg.IndexString"], unfollowed := true, recurses := true, named := ["unicode/utf8.first", "unicode/utf8.acceptRanges", "internal/bytealg.MaxLen"], plainKeys := false, apart := false, laid := [("unicode/utf8.acceptRanges", laid_unicode_utf8_acceptRanges), ("unicode/utf8.first", laid_unicode_utf8_first)] }
def SpeakApartsSaid : Prop := speakApartsRow.holds Tryz.pinned (OpenSpec.ofChange speakApartsSpec)

/-- ITS FALSE NEIGHBOUR: 'it returns false'. Refute it at one input. -/
def speakApartsWrong : ChangeSpec := { name := "speakAparts", fn := fun _ => fun
  | [d1, d2] => { results := [.lit (.bool false)], args := [d1, d2] }
  | _ => none }
def SpeakApartsWrongFalsely : Prop := speakApartsRow.holds Tryz.pinned (OpenSpec.ofChange speakApartsWrong)

/-- 'taliklaw09.SpeakMeant': WHATEVER THE INPUT: true; the input reads as it did. -/
def speakMeantSpec : ChangeSpec := { name := "speakMeant", fn := fun _ => fun
  | [d1, d2, d3] => { results := [.lit (.bool true)], args := [d1, d2, d3] }
  | _ => none }
def speakMeantRow : OpenClaim := { program := "ytcllnnjeaidppaagreatdoor", sum := "5a97299540bcb70ff16ed681e2433854d195e29799bf71b5ed9d1fec7ff43b07", func := "talik/taliklaw09.SpeakMeant", spec := "speakMeant", inPlace := ["internal/bytealg.CountString", "internal/bytealg.IndexByteString", "internal/bytealg.IndexString"], unfollowed := true, recurses := true, named := ["unicode/utf8.first", "unicode/utf8.acceptRanges", "internal/bytealg.MaxLen"], plainKeys := false, apart := false, laid := [("unicode/utf8.acceptRanges", laid_unicode_utf8_acceptRanges), ("unicode/utf8.first", laid_unicode_utf8_first)] }
def SpeakMeantSaid : Prop := speakMeantRow.holds Tryz.pinned (OpenSpec.ofChange speakMeantSpec)

/-- ITS FALSE NEIGHBOUR: 'it returns false'. Refute it at one input. -/
def speakMeantWrong : ChangeSpec := { name := "speakMeant", fn := fun _ => fun
  | [d1, d2, d3] => { results := [.lit (.bool false)], args := [d1, d2, d3] }
  | _ => none }
def SpeakMeantWrongFalsely : Prop := speakMeantRow.holds Tryz.pinned (OpenSpec.ofChange speakMeantWrong)

/-- 'taliklaw09.SpeakTexts': WHATEVER THE INPUT: true; the input reads as it did. -/
def speakTextsSpec : ChangeSpec := { name := "speakTexts", fn := fun _ => fun
  | [d1, d2] => { results := [.lit (.bool true)], args := [d1, d2] }
  | _ => none }
def speakTextsRow : OpenClaim := { program := "ytcllnnjeaidppaagreatdoor", sum := "5a97299540bcb70ff16ed681e2433854d195e29799bf71b5ed9d1fec7ff43b07", func := "talik/taliklaw09.SpeakTexts", spec := "speakTexts", inPlace := ["internal/bytealg.CountString", "internal/bytealg.IndexByteString", "internal/bytealg.IndexString"], unfollowed := true, recurses := true, named := ["unicode/utf8.first", "unicode/utf8.acceptRanges", "internal/bytealg.MaxLen"], plainKeys := false, apart := false, laid := [("unicode/utf8.acceptRanges", laid_unicode_utf8_acceptRanges), ("unicode/utf8.first", laid_unicode_utf8_first)] }
def SpeakTextsSaid : Prop := speakTextsRow.holds Tryz.pinned (OpenSpec.ofChange speakTextsSpec)

/-- ITS FALSE NEIGHBOUR: 'it returns false'. Refute it at one input. -/
def speakTextsWrong : ChangeSpec := { name := "speakTexts", fn := fun _ => fun
  | [d1, d2] => { results := [.lit (.bool false)], args := [d1, d2] }
  | _ => none }
def SpeakTextsWrongFalsely : Prop := speakTextsRow.holds Tryz.pinned (OpenSpec.ofChange speakTextsWrong)

/-- 'taliklaw09.SpeakReads': WHATEVER THE INPUT: true; the input reads as it did. -/
def speakReadsSpec : ChangeSpec := { name := "speakReads", fn := fun _ => fun
  | [d1, d2] => { results := [.lit (.bool true)], args := [d1, d2] }
  | _ => none }
def speakReadsRow : OpenClaim := { program := "ytcllnnjeaidppaagreatdoor", sum := "5a97299540bcb70ff16ed681e2433854d195e29799bf71b5ed9d1fec7ff43b07", func := "talik/taliklaw09.SpeakReads", spec := "speakReads", inPlace := ["internal/bytealg.CountString", "internal/bytealg.IndexByteString", "internal/bytealg.IndexString"], unfollowed := true, recurses := true, named := ["unicode/utf8.first", "unicode/utf8.acceptRanges", "internal/bytealg.MaxLen"], plainKeys := false, apart := false, laid := [("unicode/utf8.acceptRanges", laid_unicode_utf8_acceptRanges), ("unicode/utf8.first", laid_unicode_utf8_first)] }
def SpeakReadsSaid : Prop := speakReadsRow.holds Tryz.pinned (OpenSpec.ofChange speakReadsSpec)

/-- ITS FALSE NEIGHBOUR: 'it returns false'. Refute it at one input. -/
def speakReadsWrong : ChangeSpec := { name := "speakReads", fn := fun _ => fun
  | [d1, d2] => { results := [.lit (.bool false)], args := [d1, d2] }
  | _ => none }
def SpeakReadsWrongFalsely : Prop := speakReadsRow.holds Tryz.pinned (OpenSpec.ofChange speakReadsWrong)

/-- 'taliklaw09.SpeakTranslates': WHATEVER THE INPUT: true; the input reads as it did. -/
def speakTranslatesSpec : ChangeSpec := { name := "speakTranslates", fn := fun _ => fun
  | [d1, d2, d3, d4, d5] => { results := [.lit (.bool true)], args := [d1, d2, d3, d4, d5] }
  | _ => none }
def speakTranslatesRow : OpenClaim := { program := "ytcllnnjeaidppaagreatdoor", sum := "5a97299540bcb70ff16ed681e2433854d195e29799bf71b5ed9d1fec7ff43b07", func := "talik/taliklaw09.SpeakTranslates", spec := "speakTranslates", inPlace := ["internal/bytealg.CountString", "internal/bytealg.IndexByteString", "internal/bytealg.IndexString"], unfollowed := true, recurses := true, named := ["unicode/utf8.first", "unicode/utf8.acceptRanges", "internal/bytealg.MaxLen"], plainKeys := false, apart := false, laid := [("unicode/utf8.acceptRanges", laid_unicode_utf8_acceptRanges), ("unicode/utf8.first", laid_unicode_utf8_first)] }
def SpeakTranslatesSaid : Prop := speakTranslatesRow.holds Tryz.pinned (OpenSpec.ofChange speakTranslatesSpec)

/-- ITS FALSE NEIGHBOUR: 'it returns false'. Refute it at one input. -/
def speakTranslatesWrong : ChangeSpec := { name := "speakTranslates", fn := fun _ => fun
  | [d1, d2, d3, d4, d5] => { results := [.lit (.bool false)], args := [d1, d2, d3, d4, d5] }
  | _ => none }
def SpeakTranslatesWrongFalsely : Prop := speakTranslatesRow.holds Tryz.pinned (OpenSpec.ofChange speakTranslatesWrong)

/-- 'taliklaw09.SpeakRefuses': WHATEVER THE INPUT: true; the input reads as it did. -/
def speakRefusesSpec : ChangeSpec := { name := "speakRefuses", fn := fun _ => fun
  | [d1, d2, d3] => { results := [.lit (.bool true)], args := [d1, d2, d3] }
  | _ => none }
def speakRefusesRow : OpenClaim := { program := "ytcllnnjeaidppaagreatdoor", sum := "5a97299540bcb70ff16ed681e2433854d195e29799bf71b5ed9d1fec7ff43b07", func := "talik/taliklaw09.SpeakRefuses", spec := "speakRefuses", inPlace := ["internal/bytealg.CountString", "internal/bytealg.IndexByteString", "internal/bytealg.IndexString"], unfollowed := true, recurses := true, named := ["unicode/utf8.first", "unicode/utf8.acceptRanges", "internal/bytealg.MaxLen"], plainKeys := false, apart := false, laid := [("unicode/utf8.acceptRanges", laid_unicode_utf8_acceptRanges), ("unicode/utf8.first", laid_unicode_utf8_first)] }
def SpeakRefusesSaid : Prop := speakRefusesRow.holds Tryz.pinned (OpenSpec.ofChange speakRefusesSpec)

/-- ITS FALSE NEIGHBOUR: 'it returns false'. Refute it at one input. -/
def speakRefusesWrong : ChangeSpec := { name := "speakRefuses", fn := fun _ => fun
  | [d1, d2, d3] => { results := [.lit (.bool false)], args := [d1, d2, d3] }
  | _ => none }
def SpeakRefusesWrongFalsely : Prop := speakRefusesRow.holds Tryz.pinned (OpenSpec.ofChange speakRefusesWrong)

/-- 'taliklaw09.SpeakFinds': WHATEVER THE INPUT: true; the input reads as it did. -/
def speakFindsSpec : ChangeSpec := { name := "speakFinds", fn := fun _ => fun
  | [d1, d2, d3] => { results := [.lit (.bool true)], args := [d1, d2, d3] }
  | _ => none }
def speakFindsRow : OpenClaim := { program := "ytcllnnjeaidppaagreatdoor", sum := "5a97299540bcb70ff16ed681e2433854d195e29799bf71b5ed9d1fec7ff43b07", func := "talik/taliklaw09.SpeakFinds", spec := "speakFinds", inPlace := ["internal/bytealg.CountString", "internal/bytealg.IndexByteString", "internal/bytealg.IndexString"], unfollowed := true, recurses := true, named := ["unicode/utf8.first", "unicode/utf8.acceptRanges", "internal/bytealg.MaxLen"], plainKeys := false, apart := false, laid := [("unicode/utf8.acceptRanges", laid_unicode_utf8_acceptRanges), ("unicode/utf8.first", laid_unicode_utf8_first)] }
def SpeakFindsSaid : Prop := speakFindsRow.holds Tryz.pinned (OpenSpec.ofChange speakFindsSpec)

/-- ITS FALSE NEIGHBOUR: 'it returns false'. Refute it at one input. -/
def speakFindsWrong : ChangeSpec := { name := "speakFinds", fn := fun _ => fun
  | [d1, d2, d3] => { results := [.lit (.bool false)], args := [d1, d2, d3] }
  | _ => none }
def SpeakFindsWrongFalsely : Prop := speakFindsRow.holds Tryz.pinned (OpenSpec.ofChange speakFindsWrong)

/-- 'taliklaw09.SpeakGone': WHATEVER THE INPUT: true; the input reads as it did. -/
def speakGoneSpec : ChangeSpec := { name := "speakGone", fn := fun _ => fun
  | [d1, d2, d3, d4] => { results := [.lit (.bool true)], args := [d1, d2, d3, d4] }
  | _ => none }
def speakGoneRow : OpenClaim := { program := "ytcllnnjeaidppaagreatdoor", sum := "5a97299540bcb70ff16ed681e2433854d195e29799bf71b5ed9d1fec7ff43b07", func := "talik/taliklaw09.SpeakGone", spec := "speakGone", inPlace := ["internal/bytealg.CountString", "internal/bytealg.IndexByteString", "internal/bytealg.IndexString"], unfollowed := true, recurses := true, named := ["unicode/utf8.first", "unicode/utf8.acceptRanges", "internal/bytealg.MaxLen"], plainKeys := false, apart := false, laid := [("unicode/utf8.acceptRanges", laid_unicode_utf8_acceptRanges), ("unicode/utf8.first", laid_unicode_utf8_first)] }
def SpeakGoneSaid : Prop := speakGoneRow.holds Tryz.pinned (OpenSpec.ofChange speakGoneSpec)

/-- ITS FALSE NEIGHBOUR: 'it returns false'. Refute it at one input. -/
def speakGoneWrong : ChangeSpec := { name := "speakGone", fn := fun _ => fun
  | [d1, d2, d3, d4] => { results := [.lit (.bool false)], args := [d1, d2, d3, d4] }
  | _ => none }
def SpeakGoneWrongFalsely : Prop := speakGoneRow.holds Tryz.pinned (OpenSpec.ofChange speakGoneWrong)

/-- 'taliklaw09.SpeakHolds': WHATEVER THE INPUT: true; the input reads as it did. -/
def speakHoldsSpec : ChangeSpec := { name := "speakHolds", fn := fun _ => fun
  | [d1, d2] => { results := [.lit (.bool true)], args := [d1, d2] }
  | _ => none }
def speakHoldsRow : OpenClaim := { program := "ytcllnnjeaidppaagreatdoor", sum := "5a97299540bcb70ff16ed681e2433854d195e29799bf71b5ed9d1fec7ff43b07", func := "talik/taliklaw09.SpeakHolds", spec := "speakHolds", inPlace := ["internal/bytealg.CountString", "internal/bytealg.IndexByteString", "internal/bytealg.IndexString"], unfollowed := true, recurses := true, named := ["unicode/utf8.first", "unicode/utf8.acceptRanges", "internal/bytealg.MaxLen"], plainKeys := false, apart := false, laid := [("unicode/utf8.acceptRanges", laid_unicode_utf8_acceptRanges), ("unicode/utf8.first", laid_unicode_utf8_first)] }
def SpeakHoldsSaid : Prop := speakHoldsRow.holds Tryz.pinned (OpenSpec.ofChange speakHoldsSpec)

/-- ITS FALSE NEIGHBOUR: 'it returns false'. Refute it at one input. -/
def speakHoldsWrong : ChangeSpec := { name := "speakHolds", fn := fun _ => fun
  | [d1, d2] => { results := [.lit (.bool false)], args := [d1, d2] }
  | _ => none }
def SpeakHoldsWrongFalsely : Prop := speakHoldsRow.holds Tryz.pinned (OpenSpec.ofChange speakHoldsWrong)

/-- 'taliklaw09.SpeakCounts': WHATEVER THE INPUT: true; the input reads as it did. -/
def speakCountsSpec : ChangeSpec := { name := "speakCounts", fn := fun _ => fun
  | [d1, d2, d3, d4, d5] => { results := [.lit (.bool true)], args := [d1, d2, d3, d4, d5] }
  | _ => none }
def speakCountsRow : OpenClaim := { program := "ytcllnnjeaidppaagreatdoor", sum := "5a97299540bcb70ff16ed681e2433854d195e29799bf71b5ed9d1fec7ff43b07", func := "talik/taliklaw09.SpeakCounts", spec := "speakCounts", inPlace := ["internal/bytealg.CountString", "internal/bytealg.IndexByteString", "internal/bytealg.IndexString"], unfollowed := true, recurses := true, named := ["unicode/utf8.first", "unicode/utf8.acceptRanges", "internal/bytealg.MaxLen"], plainKeys := false, apart := false, laid := [("unicode/utf8.acceptRanges", laid_unicode_utf8_acceptRanges), ("unicode/utf8.first", laid_unicode_utf8_first)] }
def SpeakCountsSaid : Prop := speakCountsRow.holds Tryz.pinned (OpenSpec.ofChange speakCountsSpec)

/-- ITS FALSE NEIGHBOUR: 'it returns false'. Refute it at one input. -/
def speakCountsWrong : ChangeSpec := { name := "speakCounts", fn := fun _ => fun
  | [d1, d2, d3, d4, d5] => { results := [.lit (.bool false)], args := [d1, d2, d3, d4, d5] }
  | _ => none }
def SpeakCountsWrongFalsely : Prop := speakCountsRow.holds Tryz.pinned (OpenSpec.ofChange speakCountsWrong)

/-- 'taliklaw09.SpeakWanted': WHATEVER THE INPUT: true; the input reads as it did. -/
def speakWantedSpec : ChangeSpec := { name := "speakWanted", fn := fun _ => fun
  | [d1, d2, d3, d4] => { results := [.lit (.bool true)], args := [d1, d2, d3, d4] }
  | _ => none }
def speakWantedRow : OpenClaim := { program := "ytcllnnjeaidppaagreatdoor", sum := "5a97299540bcb70ff16ed681e2433854d195e29799bf71b5ed9d1fec7ff43b07", func := "talik/taliklaw09.SpeakWanted", spec := "speakWanted", inPlace := ["internal/bytealg.CountString", "internal/bytealg.IndexByteString", "internal/bytealg.IndexString"], unfollowed := true, recurses := true, named := ["unicode/utf8.first", "unicode/utf8.acceptRanges", "internal/bytealg.MaxLen"], plainKeys := false, apart := false, laid := [("unicode/utf8.acceptRanges", laid_unicode_utf8_acceptRanges), ("unicode/utf8.first", laid_unicode_utf8_first)] }
def SpeakWantedSaid : Prop := speakWantedRow.holds Tryz.pinned (OpenSpec.ofChange speakWantedSpec)

/-- ITS FALSE NEIGHBOUR: 'it returns false'. Refute it at one input. -/
def speakWantedWrong : ChangeSpec := { name := "speakWanted", fn := fun _ => fun
  | [d1, d2, d3, d4] => { results := [.lit (.bool false)], args := [d1, d2, d3, d4] }
  | _ => none }
def SpeakWantedWrongFalsely : Prop := speakWantedRow.holds Tryz.pinned (OpenSpec.ofChange speakWantedWrong)

/-- 'taliklaw09.SpeakMore': WHATEVER THE INPUT: true; the input reads as it did. -/
def speakMoreSpec : ChangeSpec := { name := "speakMore", fn := fun _ => fun
  | [d1, d2, d3, d4, d5, d6] => { results := [.lit (.bool true)], args := [d1, d2, d3, d4, d5, d6] }
  | _ => none }
def speakMoreRow : OpenClaim := { program := "ytcllnnjeaidppaagreatdoor", sum := "5a97299540bcb70ff16ed681e2433854d195e29799bf71b5ed9d1fec7ff43b07", func := "talik/taliklaw09.SpeakMore", spec := "speakMore", inPlace := ["internal/bytealg.CountString", "internal/bytealg.IndexByteString", "internal/bytealg.IndexString"], unfollowed := true, recurses := true, named := ["unicode/utf8.first", "unicode/utf8.acceptRanges", "internal/bytealg.MaxLen"], plainKeys := false, apart := false, laid := [("unicode/utf8.acceptRanges", laid_unicode_utf8_acceptRanges), ("unicode/utf8.first", laid_unicode_utf8_first)] }
def SpeakMoreSaid : Prop := speakMoreRow.holds Tryz.pinned (OpenSpec.ofChange speakMoreSpec)

/-- ITS FALSE NEIGHBOUR: 'it returns false'. Refute it at one input. -/
def speakMoreWrong : ChangeSpec := { name := "speakMore", fn := fun _ => fun
  | [d1, d2, d3, d4, d5, d6] => { results := [.lit (.bool false)], args := [d1, d2, d3, d4, d5, d6] }
  | _ => none }
def SpeakMoreWrongFalsely : Prop := speakMoreRow.holds Tryz.pinned (OpenSpec.ofChange speakMoreWrong)

/- THE SECOND FORM. 'bulk': how many values and letters a reading holds, each counted each time it is reached (what is shared counts as often as it is met; a slice's spare places count too). A statement '..UptoSaid' is the law's where the arguments, and the package variables that the reading takes, are together of bulk at most 1048576: NARROWER than '..Said'. Prove '..Said' where nothing that the law and all that it calls make is longer than what came in: it says more and counts as full. Else prove '..UptoSaid'. A law counts once. -/
mutual
def uptoBulk {H : Type} : DataW H → Nat
  | .lit (.string bytes) => bytes.length + 1
  | .lit _ => 1
  | .nil => 1
  | .ptr d => uptoBulk d + 1
  | .slice elems spare => uptoBulkAll elems + uptoBulkAll spare + 1
  | .agg parts => uptoBulkAll parts + 1
  | .iface _ d => uptoBulk d + 1
  | .map entries => uptoBulkEntries entries + 1
  | .held _ => 1
def uptoBulkAll {H : Type} : List (DataW H) → Nat
  | [] => 0
  | d :: r => uptoBulk d + uptoBulkAll r
def uptoBulkEntries {H : Type} : List (Lit × DataW H) → Nat
  | [] => 0
  | x :: r => uptoBulkEntry x + uptoBulkEntries r
def uptoBulkEntry {H : Type} : Lit × DataW H → Nat
  | (.string bytes, d) => bytes.length + uptoBulk d + 1
  | (_, d) => uptoBulk d + 1
 end
def uptoSmall : (H : Type) → List (DataW H) → Bool := fun _ ds => decide (uptoBulkAll ds ≤ 1048576)
def OpenSpec.upto (s : _root_.Go.ChangeSpec) : _root_.Go.OpenSpec := { _root_.Go.OpenSpec.ofChange s with cond := some uptoSmall }

/-- 'taliklaw09.SpeakAparts', WHERE WHAT IT READS IS OF BULK AT MOST 1048576: true; the input reads as it did. -/
def speakApartsUptoRow : OpenClaim := { program := "ytcllnnjeaidppaagreatdoor", sum := "5a97299540bcb70ff16ed681e2433854d195e29799bf71b5ed9d1fec7ff43b07", func := "talik/taliklaw09.SpeakAparts", spec := "speakAparts", inPlace := ["internal/bytealg.CountString", "internal/bytealg.IndexByteString", "internal/bytealg.IndexString"], unfollowed := true, recurses := true, named := ["unicode/utf8.first", "unicode/utf8.acceptRanges", "internal/bytealg.MaxLen"], plainKeys := false, apart := false, laid := [("unicode/utf8.acceptRanges", laid_unicode_utf8_acceptRanges), ("unicode/utf8.first", laid_unicode_utf8_first)], narrowed := true }
def SpeakApartsUptoSaid : Prop := speakApartsUptoRow.holds Tryz.pinned (OpenSpec.upto speakApartsSpec)

/-- 'taliklaw09.SpeakMeant', WHERE WHAT IT READS IS OF BULK AT MOST 1048576: true; the input reads as it did. -/
def speakMeantUptoRow : OpenClaim := { program := "ytcllnnjeaidppaagreatdoor", sum := "5a97299540bcb70ff16ed681e2433854d195e29799bf71b5ed9d1fec7ff43b07", func := "talik/taliklaw09.SpeakMeant", spec := "speakMeant", inPlace := ["internal/bytealg.CountString", "internal/bytealg.IndexByteString", "internal/bytealg.IndexString"], unfollowed := true, recurses := true, named := ["unicode/utf8.first", "unicode/utf8.acceptRanges", "internal/bytealg.MaxLen"], plainKeys := false, apart := false, laid := [("unicode/utf8.acceptRanges", laid_unicode_utf8_acceptRanges), ("unicode/utf8.first", laid_unicode_utf8_first)], narrowed := true }
def SpeakMeantUptoSaid : Prop := speakMeantUptoRow.holds Tryz.pinned (OpenSpec.upto speakMeantSpec)

/-- 'taliklaw09.SpeakTexts', WHERE WHAT IT READS IS OF BULK AT MOST 1048576: true; the input reads as it did. -/
def speakTextsUptoRow : OpenClaim := { program := "ytcllnnjeaidppaagreatdoor", sum := "5a97299540bcb70ff16ed681e2433854d195e29799bf71b5ed9d1fec7ff43b07", func := "talik/taliklaw09.SpeakTexts", spec := "speakTexts", inPlace := ["internal/bytealg.CountString", "internal/bytealg.IndexByteString", "internal/bytealg.IndexString"], unfollowed := true, recurses := true, named := ["unicode/utf8.first", "unicode/utf8.acceptRanges", "internal/bytealg.MaxLen"], plainKeys := false, apart := false, laid := [("unicode/utf8.acceptRanges", laid_unicode_utf8_acceptRanges), ("unicode/utf8.first", laid_unicode_utf8_first)], narrowed := true }
def SpeakTextsUptoSaid : Prop := speakTextsUptoRow.holds Tryz.pinned (OpenSpec.upto speakTextsSpec)

/-- 'taliklaw09.SpeakReads', WHERE WHAT IT READS IS OF BULK AT MOST 1048576: true; the input reads as it did. -/
def speakReadsUptoRow : OpenClaim := { program := "ytcllnnjeaidppaagreatdoor", sum := "5a97299540bcb70ff16ed681e2433854d195e29799bf71b5ed9d1fec7ff43b07", func := "talik/taliklaw09.SpeakReads", spec := "speakReads", inPlace := ["internal/bytealg.CountString", "internal/bytealg.IndexByteString", "internal/bytealg.IndexString"], unfollowed := true, recurses := true, named := ["unicode/utf8.first", "unicode/utf8.acceptRanges", "internal/bytealg.MaxLen"], plainKeys := false, apart := false, laid := [("unicode/utf8.acceptRanges", laid_unicode_utf8_acceptRanges), ("unicode/utf8.first", laid_unicode_utf8_first)], narrowed := true }
def SpeakReadsUptoSaid : Prop := speakReadsUptoRow.holds Tryz.pinned (OpenSpec.upto speakReadsSpec)

/-- 'taliklaw09.SpeakTranslates', WHERE WHAT IT READS IS OF BULK AT MOST 1048576: true; the input reads as it did. -/
def speakTranslatesUptoRow : OpenClaim := { program := "ytcllnnjeaidppaagreatdoor", sum := "5a97299540bcb70ff16ed681e2433854d195e29799bf71b5ed9d1fec7ff43b07", func := "talik/taliklaw09.SpeakTranslates", spec := "speakTranslates", inPlace := ["internal/bytealg.CountString", "internal/bytealg.IndexByteString", "internal/bytealg.IndexString"], unfollowed := true, recurses := true, named := ["unicode/utf8.first", "unicode/utf8.acceptRanges", "internal/bytealg.MaxLen"], plainKeys := false, apart := false, laid := [("unicode/utf8.acceptRanges", laid_unicode_utf8_acceptRanges), ("unicode/utf8.first", laid_unicode_utf8_first)], narrowed := true }
def SpeakTranslatesUptoSaid : Prop := speakTranslatesUptoRow.holds Tryz.pinned (OpenSpec.upto speakTranslatesSpec)

/-- 'taliklaw09.SpeakRefuses', WHERE WHAT IT READS IS OF BULK AT MOST 1048576: true; the input reads as it did. -/
def speakRefusesUptoRow : OpenClaim := { program := "ytcllnnjeaidppaagreatdoor", sum := "5a97299540bcb70ff16ed681e2433854d195e29799bf71b5ed9d1fec7ff43b07", func := "talik/taliklaw09.SpeakRefuses", spec := "speakRefuses", inPlace := ["internal/bytealg.CountString", "internal/bytealg.IndexByteString", "internal/bytealg.IndexString"], unfollowed := true, recurses := true, named := ["unicode/utf8.first", "unicode/utf8.acceptRanges", "internal/bytealg.MaxLen"], plainKeys := false, apart := false, laid := [("unicode/utf8.acceptRanges", laid_unicode_utf8_acceptRanges), ("unicode/utf8.first", laid_unicode_utf8_first)], narrowed := true }
def SpeakRefusesUptoSaid : Prop := speakRefusesUptoRow.holds Tryz.pinned (OpenSpec.upto speakRefusesSpec)

/-- 'taliklaw09.SpeakFinds', WHERE WHAT IT READS IS OF BULK AT MOST 1048576: true; the input reads as it did. -/
def speakFindsUptoRow : OpenClaim := { program := "ytcllnnjeaidppaagreatdoor", sum := "5a97299540bcb70ff16ed681e2433854d195e29799bf71b5ed9d1fec7ff43b07", func := "talik/taliklaw09.SpeakFinds", spec := "speakFinds", inPlace := ["internal/bytealg.CountString", "internal/bytealg.IndexByteString", "internal/bytealg.IndexString"], unfollowed := true, recurses := true, named := ["unicode/utf8.first", "unicode/utf8.acceptRanges", "internal/bytealg.MaxLen"], plainKeys := false, apart := false, laid := [("unicode/utf8.acceptRanges", laid_unicode_utf8_acceptRanges), ("unicode/utf8.first", laid_unicode_utf8_first)], narrowed := true }
def SpeakFindsUptoSaid : Prop := speakFindsUptoRow.holds Tryz.pinned (OpenSpec.upto speakFindsSpec)

/-- 'taliklaw09.SpeakGone', WHERE WHAT IT READS IS OF BULK AT MOST 1048576: true; the input reads as it did. -/
def speakGoneUptoRow : OpenClaim := { program := "ytcllnnjeaidppaagreatdoor", sum := "5a97299540bcb70ff16ed681e2433854d195e29799bf71b5ed9d1fec7ff43b07", func := "talik/taliklaw09.SpeakGone", spec := "speakGone", inPlace := ["internal/bytealg.CountString", "internal/bytealg.IndexByteString", "internal/bytealg.IndexString"], unfollowed := true, recurses := true, named := ["unicode/utf8.first", "unicode/utf8.acceptRanges", "internal/bytealg.MaxLen"], plainKeys := false, apart := false, laid := [("unicode/utf8.acceptRanges", laid_unicode_utf8_acceptRanges), ("unicode/utf8.first", laid_unicode_utf8_first)], narrowed := true }
def SpeakGoneUptoSaid : Prop := speakGoneUptoRow.holds Tryz.pinned (OpenSpec.upto speakGoneSpec)

/-- 'taliklaw09.SpeakHolds', WHERE WHAT IT READS IS OF BULK AT MOST 1048576: true; the input reads as it did. -/
def speakHoldsUptoRow : OpenClaim := { program := "ytcllnnjeaidppaagreatdoor", sum := "5a97299540bcb70ff16ed681e2433854d195e29799bf71b5ed9d1fec7ff43b07", func := "talik/taliklaw09.SpeakHolds", spec := "speakHolds", inPlace := ["internal/bytealg.CountString", "internal/bytealg.IndexByteString", "internal/bytealg.IndexString"], unfollowed := true, recurses := true, named := ["unicode/utf8.first", "unicode/utf8.acceptRanges", "internal/bytealg.MaxLen"], plainKeys := false, apart := false, laid := [("unicode/utf8.acceptRanges", laid_unicode_utf8_acceptRanges), ("unicode/utf8.first", laid_unicode_utf8_first)], narrowed := true }
def SpeakHoldsUptoSaid : Prop := speakHoldsUptoRow.holds Tryz.pinned (OpenSpec.upto speakHoldsSpec)

/-- 'taliklaw09.SpeakCounts', WHERE WHAT IT READS IS OF BULK AT MOST 1048576: true; the input reads as it did. -/
def speakCountsUptoRow : OpenClaim := { program := "ytcllnnjeaidppaagreatdoor", sum := "5a97299540bcb70ff16ed681e2433854d195e29799bf71b5ed9d1fec7ff43b07", func := "talik/taliklaw09.SpeakCounts", spec := "speakCounts", inPlace := ["internal/bytealg.CountString", "internal/bytealg.IndexByteString", "internal/bytealg.IndexString"], unfollowed := true, recurses := true, named := ["unicode/utf8.first", "unicode/utf8.acceptRanges", "internal/bytealg.MaxLen"], plainKeys := false, apart := false, laid := [("unicode/utf8.acceptRanges", laid_unicode_utf8_acceptRanges), ("unicode/utf8.first", laid_unicode_utf8_first)], narrowed := true }
def SpeakCountsUptoSaid : Prop := speakCountsUptoRow.holds Tryz.pinned (OpenSpec.upto speakCountsSpec)

/-- 'taliklaw09.SpeakWanted', WHERE WHAT IT READS IS OF BULK AT MOST 1048576: true; the input reads as it did. -/
def speakWantedUptoRow : OpenClaim := { program := "ytcllnnjeaidppaagreatdoor", sum := "5a97299540bcb70ff16ed681e2433854d195e29799bf71b5ed9d1fec7ff43b07", func := "talik/taliklaw09.SpeakWanted", spec := "speakWanted", inPlace := ["internal/bytealg.CountString", "internal/bytealg.IndexByteString", "internal/bytealg.IndexString"], unfollowed := true, recurses := true, named := ["unicode/utf8.first", "unicode/utf8.acceptRanges", "internal/bytealg.MaxLen"], plainKeys := false, apart := false, laid := [("unicode/utf8.acceptRanges", laid_unicode_utf8_acceptRanges), ("unicode/utf8.first", laid_unicode_utf8_first)], narrowed := true }
def SpeakWantedUptoSaid : Prop := speakWantedUptoRow.holds Tryz.pinned (OpenSpec.upto speakWantedSpec)

/-- 'taliklaw09.SpeakMore', WHERE WHAT IT READS IS OF BULK AT MOST 1048576: true; the input reads as it did. -/
def speakMoreUptoRow : OpenClaim := { program := "ytcllnnjeaidppaagreatdoor", sum := "5a97299540bcb70ff16ed681e2433854d195e29799bf71b5ed9d1fec7ff43b07", func := "talik/taliklaw09.SpeakMore", spec := "speakMore", inPlace := ["internal/bytealg.CountString", "internal/bytealg.IndexByteString", "internal/bytealg.IndexString"], unfollowed := true, recurses := true, named := ["unicode/utf8.first", "unicode/utf8.acceptRanges", "internal/bytealg.MaxLen"], plainKeys := false, apart := false, laid := [("unicode/utf8.acceptRanges", laid_unicode_utf8_acceptRanges), ("unicode/utf8.first", laid_unicode_utf8_first)], narrowed := true }
def SpeakMoreUptoSaid : Prop := speakMoreUptoRow.holds Tryz.pinned (OpenSpec.upto speakMoreSpec)

end Rows
end Go.Proofs.YtcllnnjeaidppaaGreatDoor
