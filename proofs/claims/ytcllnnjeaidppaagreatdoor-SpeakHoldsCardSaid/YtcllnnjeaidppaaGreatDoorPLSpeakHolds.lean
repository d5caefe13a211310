/- The law SpeakHolds answers true for every input, and each argument reads as it read: the row, and its tied card. Conditions: the tables of the library that the row lists lie as the program's text lays them. -/
import Derived.Test.YtcllnnjeaidppaaGreatDoorPH7
import Derived.Test.YtcllnnjeaidppaaGreatDoorPDoor
namespace Go.Proofs.YtcllnnjeaidppaaGreatDoor
open Go Go.Av Go.Tk Go.ChangeShapes Go.WideShapes Go.ChangeAt Go.RowKit

set_option maxRecDepth 100000 in
theorem speakHolds_lifted (os : Os) (started : os.Started) (H : Type) (enc : TypeId × Value → H) :
    ReturnsInHanded {} Tryz.checked os 11 .any (fun w args => (Rows.speakHoldsSpec.pre enc Tryz.prog Tryz.f11 [] false w args ∧ laidMetH Tryz.prog Rows.speakHoldsRow.laid w) ∧ sizedMet enc Tryz.prog Tryz.f11 (OpenSpec.ofChange Rows.speakHoldsSpec) false w args)
      (Rows.speakHoldsSpec.post enc Tryz.prog Tryz.f11 false true false false) := by
  refine returnsInHanded_of_change_and_shape (C := Tryz.checked) (X := fun w _ => laidMetH Tryz.prog Rows.speakHoldsRow.laid w) (fun _ _ _ hh h => h.of_heap hh) rowOwn started (by kernel_rfl) Tryz.func11
    (ChangeSpec.witness_shaped (enc := enc) (C := Tryz.checked) (os := os) (X := fun w _ => laidMetH Tryz.prog Rows.speakHoldsRow.laid w) false (World.laidAll Tryz.prog os laid2) #[.slice none 0 0, .slice none 0 0] 8 (World.laidAll_os _ _ _) (World.shaped_of_ZipB (by kernel_rfl) (by kernel_rfl)) (by kernel_rfl) (by kernel_rfl) (by kernel_rfl)
      (by show laidMetH Tryz.prog laid2 _; rw [MakeChecks.laidMetH_plain _ _ _ (by kernel_rfl)]; exact laidMet_laidAll _ (by kernel_rfl) (by kernel_rfl))) ?_
  intro W base args ds gs before hval0 hW hL hsh
  have hval : ∀ (j : Nat) t v, Tryz.f11.params[j]? = some t → args[j]? = some v → Value.okWide Tryz.prog W .any base t v := hval0
  have hg := gb_of_laid hL hsh
  have hW' := hW
  obtain ⟨p, q, hA0, hV, rfl, hfz, hnd⟩ := hW
  have hA : DataW.TrodAll enc Tryz.prog W 0 (fun _ => true) true Tryz.f11.params.toList args.toList ds p := hA0
  rw [Tryz.params11] at hA hval
  obtain ⟨rfl, rfl⟩ := trodVars_none hV
  obtain ⟨v0, vs0, d0, ds0, p0, q0, hargs, rfl, rfl, h0, r0⟩ := trodAll_cons hA
  obtain ⟨v1, vs1, d1, ds1, p1, q1, rfl, rfl, rfl, h1, r1⟩ := trodAll_cons r0
  obtain ⟨rfl, rfl, rfl⟩ := trodAll_nil r1
  have eargs : args = #[v0, v1] := by cases args; simp_all
  subst eargs
  have e0 : v0.cells = #[v0] := by obtain ⟨_, _, _, rfl⟩ := okWide_slice Tryz.underlying22 (hval 0 22 v0 rfl rfl); rfl
  obtain ⟨a0, o0, t0⟩ := arg_one e0 h0 rd_SlPart
  have e1 : v1.cells = #[v1] := by obtain ⟨_, _, _, rfl⟩ := okWide_slice Tryz.underlying24 (hval 1 24 v1 rfl rfl); rfl
  obtain ⟨a1, o1, t1⟩ := arg_one e1 h1 rd_SlDeed
  have call : Holds Tryz.prog GB 11 [slOf Part.cs a0, slOf Deed.cs a1] (B true) := law09_SpeakHolds (G := GB) hGB (fun _ h => h) a0 a1
  refine (call.2 W #[v0, v1] (· < W.heap.size) hg (fun b h => h) rfl (fun i x v hx hv => ?_)).mono fun e W' ⟨v, S', he, hb, _, _, _, ht⟩ => ?_
  · match i, hx, hv with
    | 0, hx, hv => simp at hx hv; subst hx; subst hv; exact t0
    | 1, hx, hv => simp at hx hv; subst hx; subst hv; exact t1
    | i + 2, hx, hv => simp at hx
  · subst he
    have hv : v = .bool true := by generalize hx : B true = x at ht; cases ht <;> cases hx; rfl
    subst hv
    exact ⟨_, rfl, post_law hW' rfl rfl rfl rfl (by rfl) Tryz.underlying4 hb (by kernel_rfl) (by rw [Tryz.params11]; decide +kernel)⟩

set_option maxRecDepth 100000 in
theorem speakHolds_row : Rows.SpeakHoldsSaid :=
  OpenClaim.holds_of_wide 11 Tryz.f11 rfl rfl rfl rfl rfl rfl rfl ⟨rfl, rfl, rfl, rfl, rfl⟩ rfl rfl rfl rfl rfl (by kernel_rfl) Tryz.func11 (by kernel_rfl)
    (of_decide_eq_true (by kernel_rfl)) (by unfold Func.isWrapper; first | (rw [if_pos (by decide +kernel)]; kernel_rfl) | (rw [if_neg (by decide +kernel)]; exact ⟨rfl, rfl⟩))
    (fun os started H enc _ => speakHolds_lifted os started H enc)

theorem speakHolds_holds : Rows.SpeakHoldsCardSaid :=
  Claim7.holds_tied_plain_at .later [] [.data, .pinned] true (true, "8ab000e3e4ff83b86ea8dca09de4e4a5868dd298be9e4b2d334429a1c81081c3") true
    speakHolds_row (fun _ h => by cases h) (by kernel_rfl) (fun _ h => by cases h) speakHolds_row_tie rfl ⟨rfl, rfl⟩ (by kernel_rfl) rfl
    (fun f fn hf hfn => by
      obtain rfl : f = 11 := Option.some.inj ((show Tryz.prog.funcNamed "talik/taliklaw09.SpeakHolds" = some 11 by kernel_rfl).symm.trans hf) |>.symm
      obtain rfl : fn = Tryz.f11 := (Option.some.inj (Tryz.func11.symm.trans hfn)).symm
      exact ⟨by kernel_rfl, fun j t ht => by
        rw [Tryz.params11] at ht
        have hm : t ∈ [22, 24] := by simpa using Array.mem_of_getElem? ht
        have hall : ([22, 24].all fun u => !Tryz.prog.wantsStandIn u) = true := by kernel_rfl
        exact (show Tryz.prog.wantsStandIn t = false by simpa using List.all_eq_true.1 hall t hm)⟩)
    (by kernel_rfl)
end Go.Proofs.YtcllnnjeaidppaaGreatDoor
