/- The readings of the seat's types. -/
import Derived.Test.YtcllnnjeaidppaaGreatDoorPBr
import Derived.Test.YtcllnnjeaidppaaGreatDoorPE
import Derived.Test.YtcllnnjeaidppaaGreatDoorRows
set_option linter.unusedVariables false
set_option linter.unusedSimpArgs false
set_option maxRecDepth 8000
namespace Go.Proofs.YtcllnnjeaidppaaGreatDoor
open Go Go.Av Go.Tk

def wf_Spot (s : Spot) : Prop := i64 s.kind ∧ (fun _ : Bool => True) s.left
theorem rd_Spot {H : Type} {enc : TypeId × Value → H} {w : World} : Rd enc Tryz.prog w 64 wf_Spot Spot.cs := by
  intro fuel cs x h
  obtain ⟨hl, n, hf⟩ := rd_fields Tryz.underlying64 h
  rw [show Tryz.prog.cellsOf 64 = 2 by kernel_rfl] at hl
  match cs, hl with
  | [c0, c1], _ =>
    have k3 : Tryz.prog.cellsOf 3 = 1 := by kernel_rfl
    have k4 : Tryz.prog.cellsOf 4 = 1 := by kernel_rfl
    simp only [List.forall_mem_cons, List.forall_mem_nil, List.not_mem_nil, false_implies, implies_true, and_true, k3, k4, List.drop_zero, List.drop_succ_cons, List.take_zero, List.take_succ_cons, List.take_nil, List.drop_nil] at hf
    obtain ⟨⟨y0, h0⟩, ⟨y1, h1⟩⟩ := hf
    obtain ⟨a0, o0, v0⟩ := (rd_int Tryz.underlying3) _ _ _ h0
    obtain ⟨a1, o1, v1⟩ := (rd_bool Tryz.underlying4) _ _ _ h1
    exact ⟨⟨a0, a1⟩, ⟨o0, o1⟩, v0.append (v1)⟩
def wf_Stp (s : Stp) : Prop := i64 s.count ∧ i64 s.kind ∧ (fun _ : Bool => True) s.up ∧ i64 s.bank
theorem rd_Stp {H : Type} {enc : TypeId × Value → H} {w : World} : Rd enc Tryz.prog w 99 wf_Stp Stp.cs := by
  intro fuel cs x h
  obtain ⟨hl, n, hf⟩ := rd_fields Tryz.underlying99 h
  rw [show Tryz.prog.cellsOf 99 = 4 by kernel_rfl] at hl
  match cs, hl with
  | [c0, c1, c2, c3], _ =>
    have k3 : Tryz.prog.cellsOf 3 = 1 := by kernel_rfl
    have k4 : Tryz.prog.cellsOf 4 = 1 := by kernel_rfl
    simp only [List.forall_mem_cons, List.forall_mem_nil, List.not_mem_nil, false_implies, implies_true, and_true, k3, k4, List.drop_zero, List.drop_succ_cons, List.take_zero, List.take_succ_cons, List.take_nil, List.drop_nil] at hf
    obtain ⟨⟨y0, h0⟩, ⟨y1, h1⟩, ⟨y2, h2⟩, ⟨y3, h3⟩⟩ := hf
    obtain ⟨a0, o0, v0⟩ := (rd_int Tryz.underlying3) _ _ _ h0
    obtain ⟨a1, o1, v1⟩ := (rd_int Tryz.underlying3) _ _ _ h1
    obtain ⟨a2, o2, v2⟩ := (rd_bool Tryz.underlying4) _ _ _ h2
    obtain ⟨a3, o3, v3⟩ := (rd_int Tryz.underlying3) _ _ _ h3
    exact ⟨⟨a0, a1, a2, a3⟩, ⟨o0, o1, o2, o3⟩, v0.append (v1.append (v2.append (v3)))⟩
def wf_SlSpot (l : List Spot) : Prop := l.length ≤ maxLen ∧ ∀ a ∈ l, wf_Spot a
theorem rd_SlSpot {H : Type} {enc : TypeId × Value → H} {w : World} : Rd enc Tryz.prog w 52 wf_SlSpot (fun l => [slOf Spot.cs l]) := rd_slice (sz := 2) Tryz.underlying52 (by kernel_rfl) (by decide) (rd_Spot)
def wf_SlStp (l : List Stp) : Prop := l.length ≤ maxLen ∧ ∀ a ∈ l, wf_Stp a
theorem rd_SlStp {H : Type} {enc : TypeId × Value → H} {w : World} : Rd enc Tryz.prog w 53 wf_SlStp (fun l => [slOf Stp.cs l]) := rd_slice (sz := 4) Tryz.underlying53 (by kernel_rfl) (by decide) (rd_Stp)
end Go.Proofs.YtcllnnjeaidppaaGreatDoor
