/-
  No cell of these rows narrows 'for every input' (looked for: loops, veiled, ifaces, maps, wideKeys, modest, calm, conditions, laid).
  DERIVED. THE GIVEN ROWS OF THIS SEAT. 10 by the template 'for every input the law returns true; each argument reads behind the call as it read before'; 0 by the template 'total and deterministic' (their statements: YtnempffajbdneaaTotals.lean).
  GIVEN WITH THE SEED: the statements are not yours to turn. If you find one false, say at which input.
  Laid BY PROGRAM, IN A SANDBOX (cutbox-rows.mjs): the forced cells as the released guide's own fill.sh prints them over the translation 9f341cf364257e76… (all of the seat's roots in one cut). By AI agents, Wed Nov 11 2026. No macro, syntax, notation, axiom, sorry.
-/
import Derived.Test.YtnempffajbdneaaChecked
import GoSem.Claim
import GoSem.ClaimJoined
import GoSem.ClaimMapViews
import Derived.JoinedTies
import Derived.KernelRfl
namespace Go.Proofs.Ytnempffajbdneaa
/- THE CELL 'sum', in the pinned program and in every row, IS THE sha256 OF THE DUMP (.gsa) THAT YtnempffajbdneaaProg.lean LOADS. Nothing in Lean hashes anything: it is a label: what it is worth is what the hold of that sum in a sandbox is worth. -/
noncomputable def Try.pinned : Pinned := { name := "ytnempffajbdneaa", sum := "9f341cf364257e767db3bc35d65216f27c5034491d58aa114dd6242647be9cd7", checked := Try.checked }
namespace Rows
def none {H : Type} : Left H := { results := [], args := [] }

/-- 'taliklaw03.CoolBests': WHATEVER THE INPUT: true; the input reads as it did. -/
def coolBestsSpec : ChangeSpec := { name := "coolBests", fn := fun _ => fun
  | [d1, d2] => { results := [.lit (.bool true)], args := [d1, d2] }
  | _ => none }
def coolBestsRow : OpenClaim := { program := "ytnempffajbdneaa", sum := "9f341cf364257e767db3bc35d65216f27c5034491d58aa114dd6242647be9cd7", func := "talik/taliklaw03.CoolBests", spec := "coolBests", unfollowed := true, recurses := true, plainKeys := false, apart := false }
def CoolBestsSaid : Prop := coolBestsRow.holds Try.pinned (OpenSpec.ofChange coolBestsSpec)

/-- ITS FALSE NEIGHBOUR: 'it returns false'. Refute it at one input. -/
def coolBestsWrong : ChangeSpec := { name := "coolBests", fn := fun _ => fun
  | [d1, d2] => { results := [.lit (.bool false)], args := [d1, d2] }
  | _ => none }
def CoolBestsWrongFalsely : Prop := coolBestsRow.holds Try.pinned (OpenSpec.ofChange coolBestsWrong)

/-- 'taliklaw03.CoolRivals': WHATEVER THE INPUT: true; the input reads as it did. -/
def coolRivalsSpec : ChangeSpec := { name := "coolRivals", fn := fun _ => fun
  | [d1, d2, d3] => { results := [.lit (.bool true)], args := [d1, d2, d3] }
  | _ => none }
def coolRivalsRow : OpenClaim := { program := "ytnempffajbdneaa", sum := "9f341cf364257e767db3bc35d65216f27c5034491d58aa114dd6242647be9cd7", func := "talik/taliklaw03.CoolRivals", spec := "coolRivals", unfollowed := true, recurses := true, plainKeys := false, apart := false }
def CoolRivalsSaid : Prop := coolRivalsRow.holds Try.pinned (OpenSpec.ofChange coolRivalsSpec)

/-- ITS FALSE NEIGHBOUR: 'it returns false'. Refute it at one input. -/
def coolRivalsWrong : ChangeSpec := { name := "coolRivals", fn := fun _ => fun
  | [d1, d2, d3] => { results := [.lit (.bool false)], args := [d1, d2, d3] }
  | _ => none }
def CoolRivalsWrongFalsely : Prop := coolRivalsRow.holds Try.pinned (OpenSpec.ofChange coolRivalsWrong)

/-- 'taliklaw03.CoolAgains': WHATEVER THE INPUT: true; the input reads as it did. -/
def coolAgainsSpec : ChangeSpec := { name := "coolAgains", fn := fun _ => fun
  | [d1, d2, d3] => { results := [.lit (.bool true)], args := [d1, d2, d3] }
  | _ => none }
def coolAgainsRow : OpenClaim := { program := "ytnempffajbdneaa", sum := "9f341cf364257e767db3bc35d65216f27c5034491d58aa114dd6242647be9cd7", func := "talik/taliklaw03.CoolAgains", spec := "coolAgains", unfollowed := true, recurses := true, plainKeys := false, apart := false }
def CoolAgainsSaid : Prop := coolAgainsRow.holds Try.pinned (OpenSpec.ofChange coolAgainsSpec)

/-- ITS FALSE NEIGHBOUR: 'it returns false'. Refute it at one input. -/
def coolAgainsWrong : ChangeSpec := { name := "coolAgains", fn := fun _ => fun
  | [d1, d2, d3] => { results := [.lit (.bool false)], args := [d1, d2, d3] }
  | _ => none }
def CoolAgainsWrongFalsely : Prop := coolAgainsRow.holds Try.pinned (OpenSpec.ofChange coolAgainsWrong)

/-- 'taliklaw03.CoolRepairs': WHATEVER THE INPUT: true; the input reads as it did. -/
def coolRepairsSpec : ChangeSpec := { name := "coolRepairs", fn := fun _ => fun
  | [d1, d2, d3] => { results := [.lit (.bool true)], args := [d1, d2, d3] }
  | _ => none }
def coolRepairsRow : OpenClaim := { program := "ytnempffajbdneaa", sum := "9f341cf364257e767db3bc35d65216f27c5034491d58aa114dd6242647be9cd7", func := "talik/taliklaw03.CoolRepairs", spec := "coolRepairs", unfollowed := true, recurses := true, plainKeys := false, apart := false }
def CoolRepairsSaid : Prop := coolRepairsRow.holds Try.pinned (OpenSpec.ofChange coolRepairsSpec)

/-- ITS FALSE NEIGHBOUR: 'it returns false'. Refute it at one input. -/
def coolRepairsWrong : ChangeSpec := { name := "coolRepairs", fn := fun _ => fun
  | [d1, d2, d3] => { results := [.lit (.bool false)], args := [d1, d2, d3] }
  | _ => none }
def CoolRepairsWrongFalsely : Prop := coolRepairsRow.holds Try.pinned (OpenSpec.ofChange coolRepairsWrong)

/-- 'taliklaw03.CoolMended': WHATEVER THE INPUT: true; the input reads as it did. -/
def coolMendedSpec : ChangeSpec := { name := "coolMended", fn := fun _ => fun
  | [d1, d2, d3, d4] => { results := [.lit (.bool true)], args := [d1, d2, d3, d4] }
  | _ => none }
def coolMendedRow : OpenClaim := { program := "ytnempffajbdneaa", sum := "9f341cf364257e767db3bc35d65216f27c5034491d58aa114dd6242647be9cd7", func := "talik/taliklaw03.CoolMended", spec := "coolMended", unfollowed := true, recurses := true, plainKeys := false, apart := false }
def CoolMendedSaid : Prop := coolMendedRow.holds Try.pinned (OpenSpec.ofChange coolMendedSpec)

/-- ITS FALSE NEIGHBOUR: 'it returns false'. Refute it at one input. -/
def coolMendedWrong : ChangeSpec := { name := "coolMended", fn := fun _ => fun
  | [d1, d2, d3, d4] => { results := [.lit (.bool false)], args := [d1, d2, d3, d4] }
  | _ => none }
def CoolMendedWrongFalsely : Prop := coolMendedRow.holds Try.pinned (OpenSpec.ofChange coolMendedWrong)

/-- 'taliklaw03.CoolMore': WHATEVER THE INPUT: true; the input reads as it did. -/
def coolMoreSpec : ChangeSpec := { name := "coolMore", fn := fun _ => fun
  | [d1, d2, d3, d4, d5, d6] => { results := [.lit (.bool true)], args := [d1, d2, d3, d4, d5, d6] }
  | _ => none }
def coolMoreRow : OpenClaim := { program := "ytnempffajbdneaa", sum := "9f341cf364257e767db3bc35d65216f27c5034491d58aa114dd6242647be9cd7", func := "talik/taliklaw03.CoolMore", spec := "coolMore", unfollowed := true, recurses := true, plainKeys := false, apart := false }
def CoolMoreSaid : Prop := coolMoreRow.holds Try.pinned (OpenSpec.ofChange coolMoreSpec)

/-- ITS FALSE NEIGHBOUR: 'it returns false'. Refute it at one input. -/
def coolMoreWrong : ChangeSpec := { name := "coolMore", fn := fun _ => fun
  | [d1, d2, d3, d4, d5, d6] => { results := [.lit (.bool false)], args := [d1, d2, d3, d4, d5, d6] }
  | _ => none }
def CoolMoreWrongFalsely : Prop := coolMoreRow.holds Try.pinned (OpenSpec.ofChange coolMoreWrong)

/-- 'taliklaw03.CoolKeeps': WHATEVER THE INPUT: true; the input reads as it did. -/
def coolKeepsSpec : ChangeSpec := { name := "coolKeeps", fn := fun _ => fun
  | [d1, d2, d3] => { results := [.lit (.bool true)], args := [d1, d2, d3] }
  | _ => none }
def coolKeepsRow : OpenClaim := { program := "ytnempffajbdneaa", sum := "9f341cf364257e767db3bc35d65216f27c5034491d58aa114dd6242647be9cd7", func := "talik/taliklaw03.CoolKeeps", spec := "coolKeeps", unfollowed := true, recurses := true, plainKeys := false, apart := false }
def CoolKeepsSaid : Prop := coolKeepsRow.holds Try.pinned (OpenSpec.ofChange coolKeepsSpec)

/-- ITS FALSE NEIGHBOUR: 'it returns false'. Refute it at one input. -/
def coolKeepsWrong : ChangeSpec := { name := "coolKeeps", fn := fun _ => fun
  | [d1, d2, d3] => { results := [.lit (.bool false)], args := [d1, d2, d3] }
  | _ => none }
def CoolKeepsWrongFalsely : Prop := coolKeepsRow.holds Try.pinned (OpenSpec.ofChange coolKeepsWrong)

/-- 'taliklaw03.CoolPlays': WHATEVER THE INPUT: true; the input reads as it did. -/
def coolPlaysSpec : ChangeSpec := { name := "coolPlays", fn := fun _ => fun
  | [d1, d2, d3] => { results := [.lit (.bool true)], args := [d1, d2, d3] }
  | _ => none }
def coolPlaysRow : OpenClaim := { program := "ytnempffajbdneaa", sum := "9f341cf364257e767db3bc35d65216f27c5034491d58aa114dd6242647be9cd7", func := "talik/taliklaw03.CoolPlays", spec := "coolPlays", unfollowed := true, recurses := true, plainKeys := false, apart := false }
def CoolPlaysSaid : Prop := coolPlaysRow.holds Try.pinned (OpenSpec.ofChange coolPlaysSpec)

/-- ITS FALSE NEIGHBOUR: 'it returns false'. Refute it at one input. -/
def coolPlaysWrong : ChangeSpec := { name := "coolPlays", fn := fun _ => fun
  | [d1, d2, d3] => { results := [.lit (.bool false)], args := [d1, d2, d3] }
  | _ => none }
def CoolPlaysWrongFalsely : Prop := coolPlaysRow.holds Try.pinned (OpenSpec.ofChange coolPlaysWrong)

/-- 'taliklaw03.CoolTrue': WHATEVER THE INPUT: true; the input reads as it did. -/
def coolTrueSpec : ChangeSpec := { name := "coolTrue", fn := fun _ => fun
  | [d1, d2, d3, d4, d5] => { results := [.lit (.bool true)], args := [d1, d2, d3, d4, d5] }
  | _ => none }
def coolTrueRow : OpenClaim := { program := "ytnempffajbdneaa", sum := "9f341cf364257e767db3bc35d65216f27c5034491d58aa114dd6242647be9cd7", func := "talik/taliklaw03.CoolTrue", spec := "coolTrue", unfollowed := true, recurses := true, plainKeys := false, apart := false }
def CoolTrueSaid : Prop := coolTrueRow.holds Try.pinned (OpenSpec.ofChange coolTrueSpec)

/-- ITS FALSE NEIGHBOUR: 'it returns false'. Refute it at one input. -/
def coolTrueWrong : ChangeSpec := { name := "coolTrue", fn := fun _ => fun
  | [d1, d2, d3, d4, d5] => { results := [.lit (.bool false)], args := [d1, d2, d3, d4, d5] }
  | _ => none }
def CoolTrueWrongFalsely : Prop := coolTrueRow.holds Try.pinned (OpenSpec.ofChange coolTrueWrong)

/-- 'taliklaw03.CoolBroken': WHATEVER THE INPUT: true; the input reads as it did. -/
def coolBrokenSpec : ChangeSpec := { name := "coolBroken", fn := fun _ => fun
  | [d1, d2, d3, d4] => { results := [.lit (.bool true)], args := [d1, d2, d3, d4] }
  | _ => none }
def coolBrokenRow : OpenClaim := { program := "ytnempffajbdneaa", sum := "9f341cf364257e767db3bc35d65216f27c5034491d58aa114dd6242647be9cd7", func := "talik/taliklaw03.CoolBroken", spec := "coolBroken", unfollowed := true, recurses := true, plainKeys := false, apart := false }
def CoolBrokenSaid : Prop := coolBrokenRow.holds Try.pinned (OpenSpec.ofChange coolBrokenSpec)

/-- ITS FALSE NEIGHBOUR: 'it returns false'. Refute it at one input. -/
def coolBrokenWrong : ChangeSpec := { name := "coolBroken", fn := fun _ => fun
  | [d1, d2, d3, d4] => { results := [.lit (.bool false)], args := [d1, d2, d3, d4] }
  | _ => none }
def CoolBrokenWrongFalsely : Prop := coolBrokenRow.holds Try.pinned (OpenSpec.ofChange coolBrokenWrong)

/- THE SECOND FORM. 'bulk': how many values and letters a reading holds, each counted each time it is reached (what is shared counts as often as it is met; a slice's spare places count too). A statement '..UptoSaid' is the law's where the arguments, and the package variables that the reading takes, are together of bulk at most 1048576: NARROWER than '..Said'. Prove '..Said' where nothing that the law and all that it calls make is longer than what came in: it says more and counts as full. Else prove '..UptoSaid'. A law counts once. -/
mutual
def uptoBulk {H : Type} : DataW H → Nat
  | .lit (.string bytes) => bytes.length + 1
  | .lit _ => 1
  | .nil => 1
  | .ptr d => uptoBulk d + 1
  | .slice elems spare => uptoBulkAll elems + uptoBulkAll spare + 1
  | .agg parts => uptoBulkAll parts + 1
  | .iface _ d => uptoBulk d + 1
  | .map entries => uptoBulkEntries entries + 1
  | .held _ => 1
def uptoBulkAll {H : Type} : List (DataW H) → Nat
  | [] => 0
  | d :: r => uptoBulk d + uptoBulkAll r
def uptoBulkEntries {H : Type} : List (Lit × DataW H) → Nat
  | [] => 0
  | x :: r => uptoBulkEntry x + uptoBulkEntries r
def uptoBulkEntry {H : Type} : Lit × DataW H → Nat
  | (.string bytes, d) => bytes.length + uptoBulk d + 1
  | (_, d) => uptoBulk d + 1
 end
def uptoSmall : (H : Type) → List (DataW H) → Bool := fun _ ds => decide (uptoBulkAll ds ≤ 1048576)
def OpenSpec.upto (s : _root_.Go.ChangeSpec) : _root_.Go.OpenSpec := { _root_.Go.OpenSpec.ofChange s with cond := some uptoSmall }

/-- 'taliklaw03.CoolBests', WHERE WHAT IT READS IS OF BULK AT MOST 1048576: true; the input reads as it did. -/
def coolBestsUptoRow : OpenClaim := { program := "ytnempffajbdneaa", sum := "9f341cf364257e767db3bc35d65216f27c5034491d58aa114dd6242647be9cd7", func := "talik/taliklaw03.CoolBests", spec := "coolBests", unfollowed := true, recurses := true, plainKeys := false, apart := false, narrowed := true }
def CoolBestsUptoSaid : Prop := coolBestsUptoRow.holds Try.pinned (OpenSpec.upto coolBestsSpec)

/-- 'taliklaw03.CoolRivals', WHERE WHAT IT READS IS OF BULK AT MOST 1048576: true; the input reads as it did. -/
def coolRivalsUptoRow : OpenClaim := { program := "ytnempffajbdneaa", sum := "9f341cf364257e767db3bc35d65216f27c5034491d58aa114dd6242647be9cd7", func := "talik/taliklaw03.CoolRivals", spec := "coolRivals", unfollowed := true, recurses := true, plainKeys := false, apart := false, narrowed := true }
def CoolRivalsUptoSaid : Prop := coolRivalsUptoRow.holds Try.pinned (OpenSpec.upto coolRivalsSpec)

/-- 'taliklaw03.CoolAgains', WHERE WHAT IT READS IS OF BULK AT MOST 1048576: true; the input reads as it did. -/
def coolAgainsUptoRow : OpenClaim := { program := "ytnempffajbdneaa", sum := "9f341cf364257e767db3bc35d65216f27c5034491d58aa114dd6242647be9cd7", func := "talik/taliklaw03.CoolAgains", spec := "coolAgains", unfollowed := true, recurses := true, plainKeys := false, apart := false, narrowed := true }
def CoolAgainsUptoSaid : Prop := coolAgainsUptoRow.holds Try.pinned (OpenSpec.upto coolAgainsSpec)

/-- 'taliklaw03.CoolRepairs', WHERE WHAT IT READS IS OF BULK AT MOST 1048576: true; the input reads as it did. -/
def coolRepairsUptoRow : OpenClaim := { program := "ytnempffajbdneaa", sum := "9f341cf364257e767db3bc35d65216f27c5034491d58aa114dd6242647be9cd7", func := "talik/taliklaw03.CoolRepairs", spec := "coolRepairs", unfollowed := true, recurses := true, plainKeys := false, apart := false, narrowed := true }
def CoolRepairsUptoSaid : Prop := coolRepairsUptoRow.holds Try.pinned (OpenSpec.upto coolRepairsSpec)

/-- 'taliklaw03.CoolMended', WHERE WHAT IT READS IS OF BULK AT MOST 1048576: true; the input reads as it did. -/
def coolMendedUptoRow : OpenClaim := { program := "ytnempffajbdneaa", sum := "9f341cf364257e767db3bc35d65216f27c5034491d58aa114dd6242647be9cd7", func := "talik/taliklaw03.CoolMended", spec := "coolMended", unfollowed := true, recurses := true, plainKeys := false, apart := false, narrowed := true }
def CoolMendedUptoSaid : Prop := coolMendedUptoRow.holds Try.pinned (OpenSpec.upto coolMendedSpec)

/-- 'taliklaw03.CoolMore', WHERE WHAT IT READS IS OF BULK AT MOST 1048576: true; the input reads as it did. -/
def coolMoreUptoRow : OpenClaim := { program := "ytnempffajbdneaa", sum := "9f341cf364257e767db3bc35d65216f27c5034491d58aa114dd6242647be9cd7", func := "talik/taliklaw03.CoolMore", spec := "coolMore", unfollowed := true, recurses := true, plainKeys := false, apart := false, narrowed := true }
def CoolMoreUptoSaid : Prop := coolMoreUptoRow.holds Try.pinned (OpenSpec.upto coolMoreSpec)

/-- 'taliklaw03.CoolKeeps', WHERE WHAT IT READS IS OF BULK AT MOST 1048576: true; the input reads as it did. -/
def coolKeepsUptoRow : OpenClaim := { program := "ytnempffajbdneaa", sum := "9f341cf364257e767db3bc35d65216f27c5034491d58aa114dd6242647be9cd7", func := "talik/taliklaw03.CoolKeeps", spec := "coolKeeps", unfollowed := true, recurses := true, plainKeys := false, apart := false, narrowed := true }
def CoolKeepsUptoSaid : Prop := coolKeepsUptoRow.holds Try.pinned (OpenSpec.upto coolKeepsSpec)

/-- 'taliklaw03.CoolPlays', WHERE WHAT IT READS IS OF BULK AT MOST 1048576: true; the input reads as it did. -/
def coolPlaysUptoRow : OpenClaim := { program := "ytnempffajbdneaa", sum := "9f341cf364257e767db3bc35d65216f27c5034491d58aa114dd6242647be9cd7", func := "talik/taliklaw03.CoolPlays", spec := "coolPlays", unfollowed := true, recurses := true, plainKeys := false, apart := false, narrowed := true }
def CoolPlaysUptoSaid : Prop := coolPlaysUptoRow.holds Try.pinned (OpenSpec.upto coolPlaysSpec)

/-- 'taliklaw03.CoolTrue', WHERE WHAT IT READS IS OF BULK AT MOST 1048576: true; the input reads as it did. -/
def coolTrueUptoRow : OpenClaim := { program := "ytnempffajbdneaa", sum := "9f341cf364257e767db3bc35d65216f27c5034491d58aa114dd6242647be9cd7", func := "talik/taliklaw03.CoolTrue", spec := "coolTrue", unfollowed := true, recurses := true, plainKeys := false, apart := false, narrowed := true }
def CoolTrueUptoSaid : Prop := coolTrueUptoRow.holds Try.pinned (OpenSpec.upto coolTrueSpec)

/-- 'taliklaw03.CoolBroken', WHERE WHAT IT READS IS OF BULK AT MOST 1048576: true; the input reads as it did. -/
def coolBrokenUptoRow : OpenClaim := { program := "ytnempffajbdneaa", sum := "9f341cf364257e767db3bc35d65216f27c5034491d58aa114dd6242647be9cd7", func := "talik/taliklaw03.CoolBroken", spec := "coolBroken", unfollowed := true, recurses := true, plainKeys := false, apart := false, narrowed := true }
def CoolBrokenUptoSaid : Prop := coolBrokenUptoRow.holds Try.pinned (OpenSpec.upto coolBrokenSpec)

end Rows
end Go.Proofs.Ytnempffajbdneaa
