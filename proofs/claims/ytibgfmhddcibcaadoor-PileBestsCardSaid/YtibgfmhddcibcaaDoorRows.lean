/-
  NARROWER THAN 'FOR EVERY INPUT', by the rows' own cells (each row's printed sentence says how): PileLevels: laid · PileFaults: laid · PileBests: laid · PileRivals: laid · PileReadies: laid · PileCured: laid · PileMore: laid · PilePlays: laid · PileSharp: laid · PileBlamed: laid · PileChecks: laid · PileTrue: laid.
  DERIVED. THE GIVEN ROWS OF THIS SEAT. 12 by the template 'for every input the law returns true; each argument reads behind the call as it read before'; 0 by the template 'total and deterministic' (their statements: YtibgfmhddcibcaaDoorTotals.lean).
  GIVEN WITH THE SEED: the statements are not yours to turn. If you find one false, say at which input.
  Laid BY PROGRAM, IN A SANDBOX (cutbox-rows.mjs): the forced cells as the released guide's own fill.sh prints them over the translation e71c90ff4dbf5765… (all of the seat's roots in one cut). By AI agents, Wed Nov 11 2026. No macro, syntax, notation, axiom, sorry.
-/
import Derived.Test.YtibgfmhddcibcaaDoorChecked
import GoSem.Claim
import GoSem.ClaimJoined
import GoSem.ClaimMapViews
import Derived.JoinedTies
import Derived.KernelRfl
namespace Go.Proofs.YtibgfmhddcibcaaDoor
/- THE CELL 'sum', in the pinned program and in every row, IS THE sha256 OF THE DUMP (.gsa) THAT YtibgfmhddcibcaaDoorProg.lean LOADS. Nothing in Lean hashes anything: it is a label: what it is worth is what the hold of that sum in a sandbox is worth. -/
noncomputable def Tryd.pinned : Pinned := { name := "ytibgfmhddcibcaadoor", sum := "e71c90ff4dbf57651a5fbb895ea5e5bce5f5d9bc8cb7affae7089acbe67ca55f", checked := Tryd.checked }
namespace Rows
def none {H : Type} : Left H := { results := [], args := [] }

/- WHAT THE LISTED PACKAGE-LEVEL VARIABLES READ AS WHEN THE CALL BEGINS. Each datum BY PROGRAM (the guide's laid-datum.mjs) off the statement by which the dump's own 'gosem.cut.vars' lays the variable. In a bare row this is a premise. The card (YtibgfmhddcibcaaDoorCards.lean) ties it to the program's text. -/
def laid_math_bits_deBruijn32tab {H : Type} : DataW H := .agg [.lit (.int .u8 0), .lit (.int .u8 1), .lit (.int .u8 28), .lit (.int .u8 2), .lit (.int .u8 29), .lit (.int .u8 14), .lit (.int .u8 24), .lit (.int .u8 3), .lit (.int .u8 30), .lit (.int .u8 22), .lit (.int .u8 20), .lit (.int .u8 15), .lit (.int .u8 25), .lit (.int .u8 17), .lit (.int .u8 4), .lit (.int .u8 8), .lit (.int .u8 31), .lit (.int .u8 27), .lit (.int .u8 13), .lit (.int .u8 23), .lit (.int .u8 21), .lit (.int .u8 19), .lit (.int .u8 16), .lit (.int .u8 7), .lit (.int .u8 26), .lit (.int .u8 12), .lit (.int .u8 18), .lit (.int .u8 6), .lit (.int .u8 11), .lit (.int .u8 5), .lit (.int .u8 10), .lit (.int .u8 9)]
def laid_math_bits_deBruijn64tab {H : Type} : DataW H := .agg [.lit (.int .u8 0), .lit (.int .u8 1), .lit (.int .u8 56), .lit (.int .u8 2), .lit (.int .u8 57), .lit (.int .u8 49), .lit (.int .u8 28), .lit (.int .u8 3), .lit (.int .u8 61), .lit (.int .u8 58), .lit (.int .u8 42), .lit (.int .u8 50), .lit (.int .u8 38), .lit (.int .u8 29), .lit (.int .u8 17), .lit (.int .u8 4), .lit (.int .u8 62), .lit (.int .u8 47), .lit (.int .u8 59), .lit (.int .u8 36), .lit (.int .u8 45), .lit (.int .u8 43), .lit (.int .u8 51), .lit (.int .u8 22), .lit (.int .u8 53), .lit (.int .u8 39), .lit (.int .u8 33), .lit (.int .u8 30), .lit (.int .u8 24), .lit (.int .u8 18), .lit (.int .u8 12), .lit (.int .u8 5), .lit (.int .u8 63), .lit (.int .u8 55), .lit (.int .u8 48), .lit (.int .u8 27), .lit (.int .u8 60), .lit (.int .u8 41), .lit (.int .u8 37), .lit (.int .u8 16), .lit (.int .u8 46), .lit (.int .u8 35), .lit (.int .u8 44), .lit (.int .u8 21), .lit (.int .u8 52), .lit (.int .u8 32), .lit (.int .u8 23), .lit (.int .u8 11), .lit (.int .u8 54), .lit (.int .u8 26), .lit (.int .u8 40), .lit (.int .u8 15), .lit (.int .u8 34), .lit (.int .u8 20), .lit (.int .u8 31), .lit (.int .u8 10), .lit (.int .u8 25), .lit (.int .u8 14), .lit (.int .u8 19), .lit (.int .u8 9), .lit (.int .u8 13), .lit (.int .u8 8), .lit (.int .u8 7), .lit (.int .u8 6)]
def laid_internal_strconv_uint64pow10 {H : Type} : DataW H := .agg [.lit (.int .u64 1), .lit (.int .u64 10), .lit (.int .u64 100), .lit (.int .u64 1000), .lit (.int .u64 10000), .lit (.int .u64 100000), .lit (.int .u64 1000000), .lit (.int .u64 10000000), .lit (.int .u64 100000000), .lit (.int .u64 1000000000), .lit (.int .u64 10000000000), .lit (.int .u64 100000000000), .lit (.int .u64 1000000000000), .lit (.int .u64 10000000000000), .lit (.int .u64 100000000000000), .lit (.int .u64 1000000000000000), .lit (.int .u64 10000000000000000), .lit (.int .u64 100000000000000000), .lit (.int .u64 1000000000000000000), .lit (.int .u64 10000000000000000000)]

/-- 'taliklaw02.PileLevels': WHATEVER THE INPUT: true; the input reads as it did. -/
def pileLevelsSpec : ChangeSpec := { name := "pileLevels", fn := fun _ => fun
  | [d1, d2, d3] => { results := [.lit (.bool true)], args := [d1, d2, d3] }
  | _ => none }
def pileLevelsRow : OpenClaim := { program := "ytibgfmhddcibcaadoor", sum := "e71c90ff4dbf57651a5fbb895ea5e5bce5f5d9bc8cb7affae7089acbe67ca55f", func := "talik/taliklaw02.PileLevels", spec := "pileLevels", unfollowed := true, recurses := true, named := ["internal/strconv.uint64pow10", "math/bits.deBruijn32tab", "math/bits.deBruijn64tab"], plainKeys := false, apart := false, laid := [("math/bits.deBruijn32tab", laid_math_bits_deBruijn32tab), ("math/bits.deBruijn64tab", laid_math_bits_deBruijn64tab), ("internal/strconv.uint64pow10", laid_internal_strconv_uint64pow10)] }
def PileLevelsSaid : Prop := pileLevelsRow.holds Tryd.pinned (OpenSpec.ofChange pileLevelsSpec)

/-- ITS FALSE NEIGHBOUR: 'it returns false'. Refute it at one input. -/
def pileLevelsWrong : ChangeSpec := { name := "pileLevels", fn := fun _ => fun
  | [d1, d2, d3] => { results := [.lit (.bool false)], args := [d1, d2, d3] }
  | _ => none }
def PileLevelsWrongFalsely : Prop := pileLevelsRow.holds Tryd.pinned (OpenSpec.ofChange pileLevelsWrong)

/-- 'taliklaw02.PileFaults': WHATEVER THE INPUT: true; the input reads as it did. -/
def pileFaultsSpec : ChangeSpec := { name := "pileFaults", fn := fun _ => fun
  | [d1, d2, d3] => { results := [.lit (.bool true)], args := [d1, d2, d3] }
  | _ => none }
def pileFaultsRow : OpenClaim := { program := "ytibgfmhddcibcaadoor", sum := "e71c90ff4dbf57651a5fbb895ea5e5bce5f5d9bc8cb7affae7089acbe67ca55f", func := "talik/taliklaw02.PileFaults", spec := "pileFaults", unfollowed := true, recurses := true, named := ["internal/strconv.uint64pow10", "math/bits.deBruijn32tab", "math/bits.deBruijn64tab"], plainKeys := false, apart := false, laid := [("math/bits.deBruijn32tab", laid_math_bits_deBruijn32tab), ("math/bits.deBruijn64tab", laid_math_bits_deBruijn64tab), ("internal/strconv.uint64pow10", laid_internal_strconv_uint64pow10)] }
def PileFaultsSaid : Prop := pileFaultsRow.holds Tryd.pinned (OpenSpec.ofChange pileFaultsSpec)

/-- ITS FALSE NEIGHBOUR: 'it returns false'. Refute it at one input. -/
def pileFaultsWrong : ChangeSpec := { name := "pileFaults", fn := fun _ => fun
  | [d1, d2, d3] => { results := [.lit (.bool false)], args := [d1, d2, d3] }
  | _ => none }
def PileFaultsWrongFalsely : Prop := pileFaultsRow.holds Tryd.pinned (OpenSpec.ofChange pileFaultsWrong)

/-- 'taliklaw02.PileBests': WHATEVER THE INPUT: true; the input reads as it did. -/
def pileBestsSpec : ChangeSpec := { name := "pileBests", fn := fun _ => fun
  | [d1, d2] => { results := [.lit (.bool true)], args := [d1, d2] }
  | _ => none }
def pileBestsRow : OpenClaim := { program := "ytibgfmhddcibcaadoor", sum := "e71c90ff4dbf57651a5fbb895ea5e5bce5f5d9bc8cb7affae7089acbe67ca55f", func := "talik/taliklaw02.PileBests", spec := "pileBests", unfollowed := true, recurses := true, named := ["internal/strconv.uint64pow10", "math/bits.deBruijn32tab", "math/bits.deBruijn64tab"], plainKeys := false, apart := false, laid := [("math/bits.deBruijn32tab", laid_math_bits_deBruijn32tab), ("math/bits.deBruijn64tab", laid_math_bits_deBruijn64tab), ("internal/strconv.uint64pow10", laid_internal_strconv_uint64pow10)] }
def PileBestsSaid : Prop := pileBestsRow.holds Tryd.pinned (OpenSpec.ofChange pileBestsSpec)

/-- ITS FALSE NEIGHBOUR: 'it returns false'. Refute it at one input. -/
def pileBestsWrong : ChangeSpec := { name := "pileBests", fn := fun _ => fun
  | [d1, d2] => { results := [.lit (.bool false)], args := [d1, d2] }
  | _ => none }
def PileBestsWrongFalsely : Prop := pileBestsRow.holds Tryd.pinned (OpenSpec.ofChange pileBestsWrong)

/-- 'taliklaw02.PileRivals': WHATEVER THE INPUT: true; the input reads as it did. -/
def pileRivalsSpec : ChangeSpec := { name := "pileRivals", fn := fun _ => fun
  | [d1, d2, d3] => { results := [.lit (.bool true)], args := [d1, d2, d3] }
  | _ => none }
def pileRivalsRow : OpenClaim := { program := "ytibgfmhddcibcaadoor", sum := "e71c90ff4dbf57651a5fbb895ea5e5bce5f5d9bc8cb7affae7089acbe67ca55f", func := "talik/taliklaw02.PileRivals", spec := "pileRivals", unfollowed := true, recurses := true, named := ["internal/strconv.uint64pow10", "math/bits.deBruijn32tab", "math/bits.deBruijn64tab"], plainKeys := false, apart := false, laid := [("math/bits.deBruijn32tab", laid_math_bits_deBruijn32tab), ("math/bits.deBruijn64tab", laid_math_bits_deBruijn64tab), ("internal/strconv.uint64pow10", laid_internal_strconv_uint64pow10)] }
def PileRivalsSaid : Prop := pileRivalsRow.holds Tryd.pinned (OpenSpec.ofChange pileRivalsSpec)

/-- ITS FALSE NEIGHBOUR: 'it returns false'. Refute it at one input. -/
def pileRivalsWrong : ChangeSpec := { name := "pileRivals", fn := fun _ => fun
  | [d1, d2, d3] => { results := [.lit (.bool false)], args := [d1, d2, d3] }
  | _ => none }
def PileRivalsWrongFalsely : Prop := pileRivalsRow.holds Tryd.pinned (OpenSpec.ofChange pileRivalsWrong)

/-- 'taliklaw02.PileReadies': WHATEVER THE INPUT: true; the input reads as it did. -/
def pileReadiesSpec : ChangeSpec := { name := "pileReadies", fn := fun _ => fun
  | [d1, d2, d3] => { results := [.lit (.bool true)], args := [d1, d2, d3] }
  | _ => none }
def pileReadiesRow : OpenClaim := { program := "ytibgfmhddcibcaadoor", sum := "e71c90ff4dbf57651a5fbb895ea5e5bce5f5d9bc8cb7affae7089acbe67ca55f", func := "talik/taliklaw02.PileReadies", spec := "pileReadies", unfollowed := true, recurses := true, named := ["internal/strconv.uint64pow10", "math/bits.deBruijn32tab", "math/bits.deBruijn64tab"], plainKeys := false, apart := false, laid := [("math/bits.deBruijn32tab", laid_math_bits_deBruijn32tab), ("math/bits.deBruijn64tab", laid_math_bits_deBruijn64tab), ("internal/strconv.uint64pow10", laid_internal_strconv_uint64pow10)] }
def PileReadiesSaid : Prop := pileReadiesRow.holds Tryd.pinned (OpenSpec.ofChange pileReadiesSpec)

/-- ITS FALSE NEIGHBOUR: 'it returns false'. Refute it at one input. -/
def pileReadiesWrong : ChangeSpec := { name := "pileReadies", fn := fun _ => fun
  | [d1, d2, d3] => { results := [.lit (.bool false)], args := [d1, d2, d3] }
  | _ => none }
def PileReadiesWrongFalsely : Prop := pileReadiesRow.holds Tryd.pinned (OpenSpec.ofChange pileReadiesWrong)

/-- 'taliklaw02.PileCured': WHATEVER THE INPUT: true; the input reads as it did. -/
def pileCuredSpec : ChangeSpec := { name := "pileCured", fn := fun _ => fun
  | [d1, d2, d3, d4, d5, d6] => { results := [.lit (.bool true)], args := [d1, d2, d3, d4, d5, d6] }
  | _ => none }
def pileCuredRow : OpenClaim := { program := "ytibgfmhddcibcaadoor", sum := "e71c90ff4dbf57651a5fbb895ea5e5bce5f5d9bc8cb7affae7089acbe67ca55f", func := "talik/taliklaw02.PileCured", spec := "pileCured", unfollowed := true, recurses := true, named := ["internal/strconv.uint64pow10", "math/bits.deBruijn32tab", "math/bits.deBruijn64tab"], plainKeys := false, apart := false, laid := [("math/bits.deBruijn32tab", laid_math_bits_deBruijn32tab), ("math/bits.deBruijn64tab", laid_math_bits_deBruijn64tab), ("internal/strconv.uint64pow10", laid_internal_strconv_uint64pow10)] }
def PileCuredSaid : Prop := pileCuredRow.holds Tryd.pinned (OpenSpec.ofChange pileCuredSpec)

/-- ITS FALSE NEIGHBOUR: 'it returns false'. Refute it at one input. -/
def pileCuredWrong : ChangeSpec := { name := "pileCured", fn := fun _ => fun
  | [d1, d2, d3, d4, d5, d6] => { results := [.lit (.bool false)], args := [d1, d2, d3, d4, d5, d6] }
  | _ => none }
def PileCuredWrongFalsely : Prop := pileCuredRow.holds Tryd.pinned (OpenSpec.ofChange pileCuredWrong)

/-- 'taliklaw02.PileMore': WHATEVER THE INPUT: true; the input reads as it did. -/
def pileMoreSpec : ChangeSpec := { name := "pileMore", fn := fun _ => fun
  | [d1, d2, d3, d4, d5, d6, d7, d8] => { results := [.lit (.bool true)], args := [d1, d2, d3, d4, d5, d6, d7, d8] }
  | _ => none }
def pileMoreRow : OpenClaim := { program := "ytibgfmhddcibcaadoor", sum := "e71c90ff4dbf57651a5fbb895ea5e5bce5f5d9bc8cb7affae7089acbe67ca55f", func := "talik/taliklaw02.PileMore", spec := "pileMore", unfollowed := true, recurses := true, named := ["internal/strconv.uint64pow10", "math/bits.deBruijn32tab", "math/bits.deBruijn64tab"], plainKeys := false, apart := false, laid := [("math/bits.deBruijn32tab", laid_math_bits_deBruijn32tab), ("math/bits.deBruijn64tab", laid_math_bits_deBruijn64tab), ("internal/strconv.uint64pow10", laid_internal_strconv_uint64pow10)] }
def PileMoreSaid : Prop := pileMoreRow.holds Tryd.pinned (OpenSpec.ofChange pileMoreSpec)

/-- ITS FALSE NEIGHBOUR: 'it returns false'. Refute it at one input. -/
def pileMoreWrong : ChangeSpec := { name := "pileMore", fn := fun _ => fun
  | [d1, d2, d3, d4, d5, d6, d7, d8] => { results := [.lit (.bool false)], args := [d1, d2, d3, d4, d5, d6, d7, d8] }
  | _ => none }
def PileMoreWrongFalsely : Prop := pileMoreRow.holds Tryd.pinned (OpenSpec.ofChange pileMoreWrong)

/-- 'taliklaw02.PilePlays': WHATEVER THE INPUT: true; the input reads as it did. -/
def pilePlaysSpec : ChangeSpec := { name := "pilePlays", fn := fun _ => fun
  | [d1, d2, d3, d4] => { results := [.lit (.bool true)], args := [d1, d2, d3, d4] }
  | _ => none }
def pilePlaysRow : OpenClaim := { program := "ytibgfmhddcibcaadoor", sum := "e71c90ff4dbf57651a5fbb895ea5e5bce5f5d9bc8cb7affae7089acbe67ca55f", func := "talik/taliklaw02.PilePlays", spec := "pilePlays", unfollowed := true, recurses := true, named := ["internal/strconv.uint64pow10", "math/bits.deBruijn32tab", "math/bits.deBruijn64tab"], plainKeys := false, apart := false, laid := [("math/bits.deBruijn32tab", laid_math_bits_deBruijn32tab), ("math/bits.deBruijn64tab", laid_math_bits_deBruijn64tab), ("internal/strconv.uint64pow10", laid_internal_strconv_uint64pow10)] }
def PilePlaysSaid : Prop := pilePlaysRow.holds Tryd.pinned (OpenSpec.ofChange pilePlaysSpec)

/-- ITS FALSE NEIGHBOUR: 'it returns false'. Refute it at one input. -/
def pilePlaysWrong : ChangeSpec := { name := "pilePlays", fn := fun _ => fun
  | [d1, d2, d3, d4] => { results := [.lit (.bool false)], args := [d1, d2, d3, d4] }
  | _ => none }
def PilePlaysWrongFalsely : Prop := pilePlaysRow.holds Tryd.pinned (OpenSpec.ofChange pilePlaysWrong)

/-- 'taliklaw02.PileSharp': WHATEVER THE INPUT: true; the input reads as it did. -/
def pileSharpSpec : ChangeSpec := { name := "pileSharp", fn := fun _ => fun
  | [d1, d2, d3] => { results := [.lit (.bool true)], args := [d1, d2, d3] }
  | _ => none }
def pileSharpRow : OpenClaim := { program := "ytibgfmhddcibcaadoor", sum := "e71c90ff4dbf57651a5fbb895ea5e5bce5f5d9bc8cb7affae7089acbe67ca55f", func := "talik/taliklaw02.PileSharp", spec := "pileSharp", unfollowed := true, recurses := true, named := ["internal/strconv.uint64pow10", "math/bits.deBruijn32tab", "math/bits.deBruijn64tab"], plainKeys := false, apart := false, laid := [("math/bits.deBruijn32tab", laid_math_bits_deBruijn32tab), ("math/bits.deBruijn64tab", laid_math_bits_deBruijn64tab), ("internal/strconv.uint64pow10", laid_internal_strconv_uint64pow10)] }
def PileSharpSaid : Prop := pileSharpRow.holds Tryd.pinned (OpenSpec.ofChange pileSharpSpec)

/-- ITS FALSE NEIGHBOUR: 'it returns false'. Refute it at one input. -/
def pileSharpWrong : ChangeSpec := { name := "pileSharp", fn := fun _ => fun
  | [d1, d2, d3] => { results := [.lit (.bool false)], args := [d1, d2, d3] }
  | _ => none }
def PileSharpWrongFalsely : Prop := pileSharpRow.holds Tryd.pinned (OpenSpec.ofChange pileSharpWrong)

/-- 'taliklaw02.PileBlamed': WHATEVER THE INPUT: true; the input reads as it did. -/
def pileBlamedSpec : ChangeSpec := { name := "pileBlamed", fn := fun _ => fun
  | [d1, d2, d3] => { results := [.lit (.bool true)], args := [d1, d2, d3] }
  | _ => none }
def pileBlamedRow : OpenClaim := { program := "ytibgfmhddcibcaadoor", sum := "e71c90ff4dbf57651a5fbb895ea5e5bce5f5d9bc8cb7affae7089acbe67ca55f", func := "talik/taliklaw02.PileBlamed", spec := "pileBlamed", unfollowed := true, recurses := true, named := ["internal/strconv.uint64pow10", "math/bits.deBruijn32tab", "math/bits.deBruijn64tab"], plainKeys := false, apart := false, laid := [("math/bits.deBruijn32tab", laid_math_bits_deBruijn32tab), ("math/bits.deBruijn64tab", laid_math_bits_deBruijn64tab), ("internal/strconv.uint64pow10", laid_internal_strconv_uint64pow10)] }
def PileBlamedSaid : Prop := pileBlamedRow.holds Tryd.pinned (OpenSpec.ofChange pileBlamedSpec)

/-- ITS FALSE NEIGHBOUR: 'it returns false'. Refute it at one input. -/
def pileBlamedWrong : ChangeSpec := { name := "pileBlamed", fn := fun _ => fun
  | [d1, d2, d3] => { results := [.lit (.bool false)], args := [d1, d2, d3] }
  | _ => none }
def PileBlamedWrongFalsely : Prop := pileBlamedRow.holds Tryd.pinned (OpenSpec.ofChange pileBlamedWrong)

/-- 'taliklaw02.PileChecks': WHATEVER THE INPUT: true; the input reads as it did. -/
def pileChecksSpec : ChangeSpec := { name := "pileChecks", fn := fun _ => fun
  | [d1, d2] => { results := [.lit (.bool true)], args := [d1, d2] }
  | _ => none }
def pileChecksRow : OpenClaim := { program := "ytibgfmhddcibcaadoor", sum := "e71c90ff4dbf57651a5fbb895ea5e5bce5f5d9bc8cb7affae7089acbe67ca55f", func := "talik/taliklaw02.PileChecks", spec := "pileChecks", unfollowed := true, recurses := true, named := ["internal/strconv.uint64pow10", "math/bits.deBruijn32tab", "math/bits.deBruijn64tab"], plainKeys := false, apart := false, laid := [("math/bits.deBruijn32tab", laid_math_bits_deBruijn32tab), ("math/bits.deBruijn64tab", laid_math_bits_deBruijn64tab), ("internal/strconv.uint64pow10", laid_internal_strconv_uint64pow10)] }
def PileChecksSaid : Prop := pileChecksRow.holds Tryd.pinned (OpenSpec.ofChange pileChecksSpec)

/-- ITS FALSE NEIGHBOUR: 'it returns false'. Refute it at one input. -/
def pileChecksWrong : ChangeSpec := { name := "pileChecks", fn := fun _ => fun
  | [d1, d2] => { results := [.lit (.bool false)], args := [d1, d2] }
  | _ => none }
def PileChecksWrongFalsely : Prop := pileChecksRow.holds Tryd.pinned (OpenSpec.ofChange pileChecksWrong)

/-- 'taliklaw02.PileTrue': WHATEVER THE INPUT: true; the input reads as it did. -/
def pileTrueSpec : ChangeSpec := { name := "pileTrue", fn := fun _ => fun
  | [d1, d2, d3, d4] => { results := [.lit (.bool true)], args := [d1, d2, d3, d4] }
  | _ => none }
def pileTrueRow : OpenClaim := { program := "ytibgfmhddcibcaadoor", sum := "e71c90ff4dbf57651a5fbb895ea5e5bce5f5d9bc8cb7affae7089acbe67ca55f", func := "talik/taliklaw02.PileTrue", spec := "pileTrue", unfollowed := true, recurses := true, named := ["internal/strconv.uint64pow10", "math/bits.deBruijn32tab", "math/bits.deBruijn64tab"], plainKeys := false, apart := false, laid := [("math/bits.deBruijn32tab", laid_math_bits_deBruijn32tab), ("math/bits.deBruijn64tab", laid_math_bits_deBruijn64tab), ("internal/strconv.uint64pow10", laid_internal_strconv_uint64pow10)] }
def PileTrueSaid : Prop := pileTrueRow.holds Tryd.pinned (OpenSpec.ofChange pileTrueSpec)

/-- ITS FALSE NEIGHBOUR: 'it returns false'. Refute it at one input. -/
def pileTrueWrong : ChangeSpec := { name := "pileTrue", fn := fun _ => fun
  | [d1, d2, d3, d4] => { results := [.lit (.bool false)], args := [d1, d2, d3, d4] }
  | _ => none }
def PileTrueWrongFalsely : Prop := pileTrueRow.holds Tryd.pinned (OpenSpec.ofChange pileTrueWrong)

/- THE SECOND FORM. 'bulk': how many values and letters a reading holds, each counted each time it is reached (what is shared counts as often as it is met; a slice's spare places count too). A statement '..UptoSaid' is the law's where the arguments, and the package variables that the reading takes, are together of bulk at most 1048576: NARROWER than '..Said'. Prove '..Said' where nothing that the law and all that it calls make is longer than what came in: it says more and counts as full. Else prove '..UptoSaid'. A law counts once. -/
mutual
def uptoBulk {H : Type} : DataW H → Nat
  | .lit (.string bytes) => bytes.length + 1
  | .lit _ => 1
  | .nil => 1
  | .ptr d => uptoBulk d + 1
  | .slice elems spare => uptoBulkAll elems + uptoBulkAll spare + 1
  | .agg parts => uptoBulkAll parts + 1
  | .iface _ d => uptoBulk d + 1
  | .map entries => uptoBulkEntries entries + 1
  | .held _ => 1
def uptoBulkAll {H : Type} : List (DataW H) → Nat
  | [] => 0
  | d :: r => uptoBulk d + uptoBulkAll r
def uptoBulkEntries {H : Type} : List (Lit × DataW H) → Nat
  | [] => 0
  | x :: r => uptoBulkEntry x + uptoBulkEntries r
def uptoBulkEntry {H : Type} : Lit × DataW H → Nat
  | (.string bytes, d) => bytes.length + uptoBulk d + 1
  | (_, d) => uptoBulk d + 1
 end
def uptoSmall : (H : Type) → List (DataW H) → Bool := fun _ ds => decide (uptoBulkAll ds ≤ 1048576)
def OpenSpec.upto (s : _root_.Go.ChangeSpec) : _root_.Go.OpenSpec := { _root_.Go.OpenSpec.ofChange s with cond := some uptoSmall }

/-- 'taliklaw02.PileLevels', WHERE WHAT IT READS IS OF BULK AT MOST 1048576: true; the input reads as it did. -/
def pileLevelsUptoRow : OpenClaim := { program := "ytibgfmhddcibcaadoor", sum := "e71c90ff4dbf57651a5fbb895ea5e5bce5f5d9bc8cb7affae7089acbe67ca55f", func := "talik/taliklaw02.PileLevels", spec := "pileLevels", unfollowed := true, recurses := true, named := ["internal/strconv.uint64pow10", "math/bits.deBruijn32tab", "math/bits.deBruijn64tab"], plainKeys := false, apart := false, laid := [("math/bits.deBruijn32tab", laid_math_bits_deBruijn32tab), ("math/bits.deBruijn64tab", laid_math_bits_deBruijn64tab), ("internal/strconv.uint64pow10", laid_internal_strconv_uint64pow10)], narrowed := true }
def PileLevelsUptoSaid : Prop := pileLevelsUptoRow.holds Tryd.pinned (OpenSpec.upto pileLevelsSpec)

/-- 'taliklaw02.PileFaults', WHERE WHAT IT READS IS OF BULK AT MOST 1048576: true; the input reads as it did. -/
def pileFaultsUptoRow : OpenClaim := { program := "ytibgfmhddcibcaadoor", sum := "e71c90ff4dbf57651a5fbb895ea5e5bce5f5d9bc8cb7affae7089acbe67ca55f", func := "talik/taliklaw02.PileFaults", spec := "pileFaults", unfollowed := true, recurses := true, named := ["internal/strconv.uint64pow10", "math/bits.deBruijn32tab", "math/bits.deBruijn64tab"], plainKeys := false, apart := false, laid := [("math/bits.deBruijn32tab", laid_math_bits_deBruijn32tab), ("math/bits.deBruijn64tab", laid_math_bits_deBruijn64tab), ("internal/strconv.uint64pow10", laid_internal_strconv_uint64pow10)], narrowed := true }
def PileFaultsUptoSaid : Prop := pileFaultsUptoRow.holds Tryd.pinned (OpenSpec.upto pileFaultsSpec)

/-- 'taliklaw02.PileBests', WHERE WHAT IT READS IS OF BULK AT MOST 1048576: true; the input reads as it did. -/
def pileBestsUptoRow : OpenClaim := { program := "ytibgfmhddcibcaadoor", sum := "e71c90ff4dbf57651a5fbb895ea5e5bce5f5d9bc8cb7affae7089acbe67ca55f", func := "talik/taliklaw02.PileBests", spec := "pileBests", unfollowed := true, recurses := true, named := ["internal/strconv.uint64pow10", "math/bits.deBruijn32tab", "math/bits.deBruijn64tab"], plainKeys := false, apart := false, laid := [("math/bits.deBruijn32tab", laid_math_bits_deBruijn32tab), ("math/bits.deBruijn64tab", laid_math_bits_deBruijn64tab), ("internal/strconv.uint64pow10", laid_internal_strconv_uint64pow10)], narrowed := true }
def PileBestsUptoSaid : Prop := pileBestsUptoRow.holds Tryd.pinned (OpenSpec.upto pileBestsSpec)

/-- 'taliklaw02.PileRivals', WHERE WHAT IT READS IS OF BULK AT MOST 1048576: true; the input reads as it did. -/
def pileRivalsUptoRow : OpenClaim := { program := "ytibgfmhddcibcaadoor", sum := "e71c90ff4dbf57651a5fbb895ea5e5bce5f5d9bc8cb7affae7089acbe67ca55f", func := "talik/taliklaw02.PileRivals", spec := "pileRivals", unfollowed := true, recurses := true, named := ["internal/strconv.uint64pow10", "math/bits.deBruijn32tab", "math/bits.deBruijn64tab"], plainKeys := false, apart := false, laid := [("math/bits.deBruijn32tab", laid_math_bits_deBruijn32tab), ("math/bits.deBruijn64tab", laid_math_bits_deBruijn64tab), ("internal/strconv.uint64pow10", laid_internal_strconv_uint64pow10)], narrowed := true }
def PileRivalsUptoSaid : Prop := pileRivalsUptoRow.holds Tryd.pinned (OpenSpec.upto pileRivalsSpec)

/-- 'taliklaw02.PileReadies', WHERE WHAT IT READS IS OF BULK AT MOST 1048576: true; the input reads as it did. -/
def pileReadiesUptoRow : OpenClaim := { program := "ytibgfmhddcibcaadoor", sum := "e71c90ff4dbf57651a5fbb895ea5e5bce5f5d9bc8cb7affae7089acbe67ca55f", func := "talik/taliklaw02.PileReadies", spec := "pileReadies", unfollowed := true, recurses := true, named := ["internal/strconv.uint64pow10", "math/bits.deBruijn32tab", "math/bits.deBruijn64tab"], plainKeys := false, apart := false, laid := [("math/bits.deBruijn32tab", laid_math_bits_deBruijn32tab), ("math/bits.deBruijn64tab", laid_math_bits_deBruijn64tab), ("internal/strconv.uint64pow10", laid_internal_strconv_uint64pow10)], narrowed := true }
def PileReadiesUptoSaid : Prop := pileReadiesUptoRow.holds Tryd.pinned (OpenSpec.upto pileReadiesSpec)

/-- 'taliklaw02.PileCured', WHERE WHAT IT READS IS OF BULK AT MOST 1048576: true; the input reads as it did. -/
def pileCuredUptoRow : OpenClaim := { program := "ytibgfmhddcibcaadoor", sum := "e71c90ff4dbf57651a5fbb895ea5e5bce5f5d9bc8cb7affae7089acbe67ca55f", func := "talik/taliklaw02.PileCured", spec := "pileCured", unfollowed := true, recurses := true, named := ["internal/strconv.uint64pow10", "math/bits.deBruijn32tab", "math/bits.deBruijn64tab"], plainKeys := false, apart := false, laid := [("math/bits.deBruijn32tab", laid_math_bits_deBruijn32tab), ("math/bits.deBruijn64tab", laid_math_bits_deBruijn64tab), ("internal/strconv.uint64pow10", laid_internal_strconv_uint64pow10)], narrowed := true }
def PileCuredUptoSaid : Prop := pileCuredUptoRow.holds Tryd.pinned (OpenSpec.upto pileCuredSpec)

/-- 'taliklaw02.PileMore', WHERE WHAT IT READS IS OF BULK AT MOST 1048576: true; the input reads as it did. -/
def pileMoreUptoRow : OpenClaim := { program := "ytibgfmhddcibcaadoor", sum := "e71c90ff4dbf57651a5fbb895ea5e5bce5f5d9bc8cb7affae7089acbe67ca55f", func := "talik/taliklaw02.PileMore", spec := "pileMore", unfollowed := true, recurses := true, named := ["internal/strconv.uint64pow10", "math/bits.deBruijn32tab", "math/bits.deBruijn64tab"], plainKeys := false, apart := false, laid := [("math/bits.deBruijn32tab", laid_math_bits_deBruijn32tab), ("math/bits.deBruijn64tab", laid_math_bits_deBruijn64tab), ("internal/strconv.uint64pow10", laid_internal_strconv_uint64pow10)], narrowed := true }
def PileMoreUptoSaid : Prop := pileMoreUptoRow.holds Tryd.pinned (OpenSpec.upto pileMoreSpec)

/-- 'taliklaw02.PilePlays', WHERE WHAT IT READS IS OF BULK AT MOST 1048576: true; the input reads as it did. -/
def pilePlaysUptoRow : OpenClaim := { program := "ytibgfmhddcibcaadoor", sum := "e71c90ff4dbf57651a5fbb895ea5e5bce5f5d9bc8cb7affae7089acbe67ca55f", func := "talik/taliklaw02.PilePlays", spec := "pilePlays", unfollowed := true, recurses := true, named := ["internal/strconv.uint64pow10", "math/bits.deBruijn32tab", "math/bits.deBruijn64tab"], plainKeys := false, apart := false, laid := [("math/bits.deBruijn32tab", laid_math_bits_deBruijn32tab), ("math/bits.deBruijn64tab", laid_math_bits_deBruijn64tab), ("internal/strconv.uint64pow10", laid_internal_strconv_uint64pow10)], narrowed := true }
def PilePlaysUptoSaid : Prop := pilePlaysUptoRow.holds Tryd.pinned (OpenSpec.upto pilePlaysSpec)

/-- 'taliklaw02.PileSharp', WHERE WHAT IT READS IS OF BULK AT MOST 1048576: true; the input reads as it did. -/
def pileSharpUptoRow : OpenClaim := { program := "ytibgfmhddcibcaadoor", sum := "e71c90ff4dbf57651a5fbb895ea5e5bce5f5d9bc8cb7affae7089acbe67ca55f", func := "talik/taliklaw02.PileSharp", spec := "pileSharp", unfollowed := true, recurses := true, named := ["internal/strconv.uint64pow10", "math/bits.deBruijn32tab", "math/bits.deBruijn64tab"], plainKeys := false, apart := false, laid := [("math/bits.deBruijn32tab", laid_math_bits_deBruijn32tab), ("math/bits.deBruijn64tab", laid_math_bits_deBruijn64tab), ("internal/strconv.uint64pow10", laid_internal_strconv_uint64pow10)], narrowed := true }
def PileSharpUptoSaid : Prop := pileSharpUptoRow.holds Tryd.pinned (OpenSpec.upto pileSharpSpec)

/-- 'taliklaw02.PileBlamed', WHERE WHAT IT READS IS OF BULK AT MOST 1048576: true; the input reads as it did. -/
def pileBlamedUptoRow : OpenClaim := { program := "ytibgfmhddcibcaadoor", sum := "e71c90ff4dbf57651a5fbb895ea5e5bce5f5d9bc8cb7affae7089acbe67ca55f", func := "talik/taliklaw02.PileBlamed", spec := "pileBlamed", unfollowed := true, recurses := true, named := ["internal/strconv.uint64pow10", "math/bits.deBruijn32tab", "math/bits.deBruijn64tab"], plainKeys := false, apart := false, laid := [("math/bits.deBruijn32tab", laid_math_bits_deBruijn32tab), ("math/bits.deBruijn64tab", laid_math_bits_deBruijn64tab), ("internal/strconv.uint64pow10", laid_internal_strconv_uint64pow10)], narrowed := true }
def PileBlamedUptoSaid : Prop := pileBlamedUptoRow.holds Tryd.pinned (OpenSpec.upto pileBlamedSpec)

/-- 'taliklaw02.PileChecks', WHERE WHAT IT READS IS OF BULK AT MOST 1048576: true; the input reads as it did. -/
def pileChecksUptoRow : OpenClaim := { program := "ytibgfmhddcibcaadoor", sum := "e71c90ff4dbf57651a5fbb895ea5e5bce5f5d9bc8cb7affae7089acbe67ca55f", func := "talik/taliklaw02.PileChecks", spec := "pileChecks", unfollowed := true, recurses := true, named := ["internal/strconv.uint64pow10", "math/bits.deBruijn32tab", "math/bits.deBruijn64tab"], plainKeys := false, apart := false, laid := [("math/bits.deBruijn32tab", laid_math_bits_deBruijn32tab), ("math/bits.deBruijn64tab", laid_math_bits_deBruijn64tab), ("internal/strconv.uint64pow10", laid_internal_strconv_uint64pow10)], narrowed := true }
def PileChecksUptoSaid : Prop := pileChecksUptoRow.holds Tryd.pinned (OpenSpec.upto pileChecksSpec)

/-- 'taliklaw02.PileTrue', WHERE WHAT IT READS IS OF BULK AT MOST 1048576: true; the input reads as it did. -/
def pileTrueUptoRow : OpenClaim := { program := "ytibgfmhddcibcaadoor", sum := "e71c90ff4dbf57651a5fbb895ea5e5bce5f5d9bc8cb7affae7089acbe67ca55f", func := "talik/taliklaw02.PileTrue", spec := "pileTrue", unfollowed := true, recurses := true, named := ["internal/strconv.uint64pow10", "math/bits.deBruijn32tab", "math/bits.deBruijn64tab"], plainKeys := false, apart := false, laid := [("math/bits.deBruijn32tab", laid_math_bits_deBruijn32tab), ("math/bits.deBruijn64tab", laid_math_bits_deBruijn64tab), ("internal/strconv.uint64pow10", laid_internal_strconv_uint64pow10)], narrowed := true }
def PileTrueUptoSaid : Prop := pileTrueUptoRow.holds Tryd.pinned (OpenSpec.upto pileTrueSpec)

end Rows
end Go.Proofs.YtibgfmhddcibcaaDoor
