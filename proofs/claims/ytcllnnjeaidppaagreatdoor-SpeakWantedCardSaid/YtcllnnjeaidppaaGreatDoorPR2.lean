/- The readings of a council and of words. -/
import Derived.Test.YtcllnnjeaidppaaGreatDoorPR
import Derived.Test.YtcllnnjeaidppaaGreatDoorPW6
import Derived.OpenShut
set_option linter.unusedVariables false
set_option linter.unusedSimpArgs false
set_option maxRecDepth 8000
namespace Go.Proofs.YtcllnnjeaidppaaGreatDoor
open Go Go.Av Go.Tk
theorem rd_Neg3 {H : Type} {enc : TypeId × Value → H} {w : World} : Rd enc Tryz.prog w 70 (fun _ : Bool × Bool × Bool => True) (fun b => [B b.1, B b.2.1, B b.2.2]) := by
  intro fuel cs x h
  obtain ⟨xs, m, -, -, hl, hx, hf⟩ := DataW.trod_array Tryz.underlying70 h
  rw [show Tryz.prog.cellsOf 70 = 3 by kernel_rfl] at hl
  have k4 : Tryz.prog.cellsOf 4 = 1 := by kernel_rfl
  match cs, hl with
  | [c0, c1, c2], _ =>
    have f0 := hf 0 (by decide)
    have f1 := hf 1 (by decide)
    have f2 := hf 2 (by decide)
    rw [k4] at f0 f1 f2
    rw [List.getElem?_eq_getElem (by omega)] at f0 f1 f2
    simp only [Nat.zero_mul, Nat.one_mul, Nat.mul_one, List.drop_zero, List.drop_succ_cons, List.take_zero, List.take_succ_cons, List.take_nil, List.drop_nil] at f0 f1 f2
    obtain ⟨a0, -, v0⟩ := (rd_bool Tryz.underlying4) _ _ _ f0
    obtain ⟨a1, -, v1⟩ := (rd_bool Tryz.underlying4) _ _ _ f1
    obtain ⟨a2, -, v2⟩ := (rd_bool Tryz.underlying4) _ _ _ f2
    exact ⟨(a0, a1, a2), trivial, v0.append (v1.append v2)⟩
def wf_Council (s : Council) : Prop := wf_SlInt s.langs ∧ i64 s.quorum ∧ i64 s.rule
theorem rd_Council {H : Type} {enc : TypeId × Value → H} {w : World} : Rd enc Tryz.prog w 72 wf_Council Council.cs := by
  intro fuel cs x h
  obtain ⟨hl, n, hf⟩ := rd_fields Tryz.underlying72 h
  rw [show Tryz.prog.cellsOf 72 = 6 by kernel_rfl] at hl
  match cs, hl with
  | [c0, c1, c2, c3, c4, c5], _ =>
    have k3 : Tryz.prog.cellsOf 3 = 1 := by kernel_rfl
    have k54 : Tryz.prog.cellsOf 54 = 1 := by kernel_rfl
    have k69 : Tryz.prog.cellsOf 69 = 1 := by kernel_rfl
    have k70 : Tryz.prog.cellsOf 70 = 3 := by kernel_rfl
    simp only [List.forall_mem_cons, List.forall_mem_nil, List.not_mem_nil, false_implies, implies_true, and_true, k3, k54, k69, k70, List.drop_zero, List.drop_succ_cons, List.take_zero, List.take_succ_cons, List.take_nil, List.drop_nil] at hf
    obtain ⟨⟨y0, h0⟩, ⟨y1, h1⟩, ⟨y2, h2⟩, ⟨y3, h3⟩⟩ := hf
    obtain ⟨a0, o0, v0⟩ := rd_SlInt _ _ _ h0
    obtain ⟨a1, o1, v1⟩ := (rd_int Tryz.underlying3) _ _ _ h1
    obtain ⟨a2, o2, v2⟩ := (rd_int Tryz.underlying69) _ _ _ h2
    obtain ⟨a3, o3, v3⟩ := rd_Neg3 _ _ _ h3
    exact ⟨⟨a0, a1, a2, a3.1, a3.2.1, a3.2.2⟩, ⟨o0, o1, o2⟩, v0.append (v1.append (v2.append v3))⟩
end Go.Proofs.YtcllnnjeaidppaaGreatDoor
