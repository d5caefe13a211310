/- The law SpeakWanted answers true for every input, and each argument reads as it read: the row, and its tied card. Conditions: the tables of the library that the row lists lie as the program's text lays them. -/
import Derived.Test.YtcllnnjeaidppaaGreatDoorPV3
import Derived.Test.YtcllnnjeaidppaaGreatDoorPR2
import Derived.Test.YtcllnnjeaidppaaGreatDoorPR4
import Derived.Test.YtcllnnjeaidppaaGreatDoorPDoor
namespace Go.Proofs.YtcllnnjeaidppaaGreatDoor
open Go Go.Av Go.Tk Go.ChangeShapes Go.WideShapes Go.ChangeAt Go.RowKit

set_option maxRecDepth 100000 in
theorem speakWanted_lifted (os : Os) (started : os.Started) (H : Type) (enc : TypeId × Value → H) :
    ReturnsInHanded {} Tryz.checked os 13 .any (fun w args => (Rows.speakWantedSpec.pre enc Tryz.prog Tryz.f13 [] false w args ∧ laidMetH Tryz.prog Rows.speakWantedRow.laid w) ∧ sizedMet enc Tryz.prog Tryz.f13 (OpenSpec.ofChange Rows.speakWantedSpec) false w args)
      (Rows.speakWantedSpec.post enc Tryz.prog Tryz.f13 false true false false) := by
  refine returnsInHanded_of_change_and_shape (C := Tryz.checked) (X := fun w _ => laidMetH Tryz.prog Rows.speakWantedRow.laid w) (fun _ _ _ hh h => h.of_heap hh) rowOwn started (by kernel_rfl) Tryz.func13
    (ChangeSpec.witness_shaped (enc := enc) (C := Tryz.checked) (os := os) (X := fun w _ => laidMetH Tryz.prog Rows.speakWantedRow.laid w) false (World.laidAll Tryz.prog os laid2) #[.agg #[.slice none 0 0, .int .i64 0, .int .i64 0, .bool false, .bool false, .bool false], .slice none 0 0, .slice none 0 0, .agg #[.bool false, .bool false, .bool false]] 8 (World.laidAll_os _ _ _) (World.shaped_of_ZipB (by kernel_rfl) (by kernel_rfl)) (by kernel_rfl) (by kernel_rfl) (by kernel_rfl)
      (by show laidMetH Tryz.prog laid2 _; rw [MakeChecks.laidMetH_plain _ _ _ (by kernel_rfl)]; exact laidMet_laidAll _ (by kernel_rfl) (by kernel_rfl))) ?_
  intro W base args ds gs before hval0 hW hL hsh
  have hval : ∀ (j : Nat) t v, Tryz.f13.params[j]? = some t → args[j]? = some v → Value.okWide Tryz.prog W .any base t v := hval0
  have hg := gb_of_laid hL hsh
  have hW' := hW
  obtain ⟨p, q, hA0, hV, rfl, hfz, hnd⟩ := hW
  have hA : DataW.TrodAll enc Tryz.prog W 0 (fun _ => true) true Tryz.f13.params.toList args.toList ds p := hA0
  rw [Tryz.params13] at hA hval
  obtain ⟨rfl, rfl⟩ := trodVars_none hV
  obtain ⟨v0, vs0, d0, ds0, p0, q0, hargs, rfl, rfl, h0, r0⟩ := trodAll_cons hA
  obtain ⟨v1, vs1, d1, ds1, p1, q1, rfl, rfl, rfl, h1, r1⟩ := trodAll_cons r0
  obtain ⟨v2, vs2, d2, ds2, p2, q2, rfl, rfl, rfl, h2, r2⟩ := trodAll_cons r1
  obtain ⟨v3, vs3, d3, ds3, p3, q3, rfl, rfl, rfl, h3, r3⟩ := trodAll_cons r2
  obtain ⟨rfl, rfl, rfl⟩ := trodAll_nil r3
  have eargs : args = #[v0, v1, v2, v3] := by cases args; simp_all
  subst eargs
  obtain ⟨a0, o0, t0⟩ := arg_struct Tryz.underlying72 (hval 0 72 v0 rfl rfl) h0 rd_Council
  have e1 : v1.cells = #[v1] := by obtain ⟨_, _, _, rfl⟩ := okWide_slice Tryz.underlying85 (hval 1 85 v1 rfl rfl); rfl
  obtain ⟨a1, o1, t1⟩ := arg_one e1 h1 rd_SlVote
  have e2 : v2.cells = #[v2] := by obtain ⟨_, _, _, rfl⟩ := okWide_slice Tryz.underlying54 (hval 2 54 v2 rfl rfl); rfl
  obtain ⟨a2, o2, t2⟩ := arg_one e2 h2 rd_SlInt
  obtain ⟨a3, o3, t3⟩ := arg_array Tryz.underlying70 (hval 3 70 v3 rfl rfl) h3 rd_Neg3
  have call : Holds Tryz.prog GB 13 [.agg a0.cs, slOf intCs a1, slOf intCs a2, .agg [B a3.1, B a3.2.1, B a3.2.2]] (B true) := law09_SpeakWanted (G := GB) hGB (fun _ h => h) a0 a1 a2 a3
  refine (call.2 W #[v0, v1, v2, v3] (· < W.heap.size) hg (fun b h => h) rfl (fun i x v hx hv => ?_)).mono fun e W' ⟨v, S', he, hb, _, _, _, ht⟩ => ?_
  · match i, hx, hv with
    | 0, hx, hv => simp at hx hv; subst hx; subst hv; exact t0
    | 1, hx, hv => simp at hx hv; subst hx; subst hv; exact t1
    | 2, hx, hv => simp at hx hv; subst hx; subst hv; exact t2
    | 3, hx, hv => simp at hx hv; subst hx; subst hv; exact t3
    | i + 4, hx, hv => simp at hx
  · subst he
    have hv : v = .bool true := by generalize hx : B true = x at ht; cases ht <;> cases hx; rfl
    subst hv
    exact ⟨_, rfl, post_law hW' rfl rfl rfl rfl (by rfl) Tryz.underlying4 hb (by kernel_rfl) (by rw [Tryz.params13]; decide +kernel)⟩

set_option maxRecDepth 100000 in
theorem speakWanted_row : Rows.SpeakWantedSaid :=
  OpenClaim.holds_of_wide 13 Tryz.f13 rfl rfl rfl rfl rfl rfl rfl ⟨rfl, rfl, rfl, rfl, rfl⟩ rfl rfl rfl rfl rfl (by kernel_rfl) Tryz.func13 (by kernel_rfl)
    (of_decide_eq_true (by kernel_rfl)) (by unfold Func.isWrapper; first | (rw [if_pos (by decide +kernel)]; kernel_rfl) | (rw [if_neg (by decide +kernel)]; exact ⟨rfl, rfl⟩))
    (fun os started H enc _ => speakWanted_lifted os started H enc)

theorem speakWanted_holds : Rows.SpeakWantedCardSaid :=
  Claim7.holds_tied_plain_at .later [] [.data, .pinned] true (true, "8ab000e3e4ff83b86ea8dca09de4e4a5868dd298be9e4b2d334429a1c81081c3") true
    speakWanted_row (fun _ h => by cases h) (by kernel_rfl) (fun _ h => by cases h) speakWanted_row_tie rfl ⟨rfl, rfl⟩ (by kernel_rfl) rfl
    (fun f fn hf hfn => by
      obtain rfl : f = 13 := Option.some.inj ((show Tryz.prog.funcNamed "talik/taliklaw09.SpeakWanted" = some 13 by kernel_rfl).symm.trans hf) |>.symm
      obtain rfl : fn = Tryz.f13 := (Option.some.inj (Tryz.func13.symm.trans hfn)).symm
      exact ⟨by kernel_rfl, fun j t ht => by
        rw [Tryz.params13] at ht
        have hm : t ∈ [72, 85, 54, 70] := by simpa using Array.mem_of_getElem? ht
        have hall : ([72, 85, 54, 70].all fun u => !Tryz.prog.wantsStandIn u) = true := by kernel_rfl
        exact (show Tryz.prog.wantsStandIn t = false by simpa using List.all_eq_true.1 hall t hm)⟩)
    (by kernel_rfl)
end Go.Proofs.YtcllnnjeaidppaaGreatDoor
