/- The readings of the seat's types. -/
import Derived.Test.YtcllnnjeaidppaaGreatDoorPBr
import Derived.Test.YtcllnnjeaidppaaGreatDoorPE
import Derived.Test.YtcllnnjeaidppaaGreatDoorRows
set_option linter.unusedVariables false
set_option linter.unusedSimpArgs false
set_option maxRecDepth 8000
namespace Go.Proofs.YtcllnnjeaidppaaGreatDoor
open Go Go.Av Go.Tk

def wf_Part (s : Part) : Prop := i64 s.kind ∧ i64 s.act ∧ i64 s.number ∧ i64 s.thing
theorem rd_Part {H : Type} {enc : TypeId × Value → H} {w : World} : Rd enc Tryz.prog w 90 wf_Part Part.cs := by
  intro fuel cs x h
  obtain ⟨hl, n, hf⟩ := rd_fields Tryz.underlying90 h
  rw [show Tryz.prog.cellsOf 90 = 4 by kernel_rfl] at hl
  match cs, hl with
  | [c0, c1, c2, c3], _ =>
    have k3 : Tryz.prog.cellsOf 3 = 1 := by kernel_rfl
    have k88 : Tryz.prog.cellsOf 88 = 1 := by kernel_rfl
    simp only [List.forall_mem_cons, List.forall_mem_nil, List.not_mem_nil, false_implies, implies_true, and_true, k3, k88, List.drop_zero, List.drop_succ_cons, List.take_zero, List.take_succ_cons, List.take_nil, List.drop_nil] at hf
    obtain ⟨⟨y0, h0⟩, ⟨y1, h1⟩, ⟨y2, h2⟩, ⟨y3, h3⟩⟩ := hf
    obtain ⟨a0, o0, v0⟩ := (rd_int Tryz.underlying88) _ _ _ h0
    obtain ⟨a1, o1, v1⟩ := (rd_int Tryz.underlying3) _ _ _ h1
    obtain ⟨a2, o2, v2⟩ := (rd_int Tryz.underlying3) _ _ _ h2
    obtain ⟨a3, o3, v3⟩ := (rd_int Tryz.underlying3) _ _ _ h3
    exact ⟨⟨a0, a1, a2, a3⟩, ⟨o0, o1, o2, o3⟩, v0.append (v1.append (v2.append (v3)))⟩
def wf_Deed (s : Deed) : Prop := i64 s.act ∧ i64 s.number ∧ i64 s.thing
theorem rd_Deed {H : Type} {enc : TypeId × Value → H} {w : World} : Rd enc Tryz.prog w 94 wf_Deed Deed.cs := by
  intro fuel cs x h
  obtain ⟨hl, n, hf⟩ := rd_fields Tryz.underlying94 h
  rw [show Tryz.prog.cellsOf 94 = 3 by kernel_rfl] at hl
  match cs, hl with
  | [c0, c1, c2], _ =>
    have k3 : Tryz.prog.cellsOf 3 = 1 := by kernel_rfl
    simp only [List.forall_mem_cons, List.forall_mem_nil, List.not_mem_nil, false_implies, implies_true, and_true, k3, List.drop_zero, List.drop_succ_cons, List.take_zero, List.take_succ_cons, List.take_nil, List.drop_nil] at hf
    obtain ⟨⟨y0, h0⟩, ⟨y1, h1⟩, ⟨y2, h2⟩⟩ := hf
    obtain ⟨a0, o0, v0⟩ := (rd_int Tryz.underlying3) _ _ _ h0
    obtain ⟨a1, o1, v1⟩ := (rd_int Tryz.underlying3) _ _ _ h1
    obtain ⟨a2, o2, v2⟩ := (rd_int Tryz.underlying3) _ _ _ h2
    exact ⟨⟨a0, a1, a2⟩, ⟨o0, o1, o2⟩, v0.append (v1.append (v2))⟩
def wf_SlPart (l : List Part) : Prop := l.length ≤ maxLen ∧ ∀ a ∈ l, wf_Part a
theorem rd_SlPart {H : Type} {enc : TypeId × Value → H} {w : World} : Rd enc Tryz.prog w 22 wf_SlPart (fun l => [slOf Part.cs l]) := rd_slice (sz := 4) Tryz.underlying22 (by kernel_rfl) (by decide) (rd_Part)
def wf_SlDeed (l : List Deed) : Prop := l.length ≤ maxLen ∧ ∀ a ∈ l, wf_Deed a
theorem rd_SlDeed {H : Type} {enc : TypeId × Value → H} {w : World} : Rd enc Tryz.prog w 24 wf_SlDeed (fun l => [slOf Deed.cs l]) := rd_slice (sz := 3) Tryz.underlying24 (by kernel_rfl) (by decide) (rd_Deed)
end Go.Proofs.YtcllnnjeaidppaaGreatDoor
