/- The law PileReads answers true for every input, and each argument reads as it read: the row, and its tied card. Conditions: the tables of the library that the row lists lie as the program's text lays them. -/
import Derived.Test.YtojkchniefhafaaGreatDoorPY16
import Derived.Test.YtojkchniefhafaaGreatDoorPDoor
namespace Go.Proofs.YtojkchniefhafaaGreatDoor
open Go Go.Av Go.Tk Go.ChangeShapes Go.WideShapes Go.ChangeAt Go.RowKit

set_option maxRecDepth 100000 in
theorem pileReads_lifted (os : Os) (started : os.Started) (H : Type) (enc : TypeId × Value → H) :
    ReturnsInHanded {} Tryz.checked os 4 .any (fun w args => (Rows.pileReadsSpec.pre enc Tryz.prog Tryz.f4 [] false w args ∧ laidMetH Tryz.prog Rows.pileReadsRow.laid w) ∧ sizedMet enc Tryz.prog Tryz.f4 (OpenSpec.ofChange Rows.pileReadsSpec) false w args)
      (Rows.pileReadsSpec.post enc Tryz.prog Tryz.f4 false true false false) := by
  refine returnsInHanded_of_change_and_shape (C := Tryz.checked) (X := fun w _ => laidMetH Tryz.prog Rows.pileReadsRow.laid w) (fun _ _ _ hh h => h.of_heap hh) rowOwn started (by kernel_rfl) Tryz.func4
    (ChangeSpec.witness_shaped (enc := enc) (C := Tryz.checked) (os := os) (X := fun w _ => laidMetH Tryz.prog Rows.pileReadsRow.laid w) false (World.laidAll Tryz.prog os laid7) #[.string ByteArray.empty] 8 (World.laidAll_os _ _ _) (World.shaped_of_ZipB (by kernel_rfl) (by kernel_rfl)) (by kernel_rfl) (by kernel_rfl) (by kernel_rfl)
      (by show laidMetH Tryz.prog laid7 _; rw [MakeChecks.laidMetH_plain _ _ _ (by kernel_rfl)]; exact laidMet_laidAll _ (by kernel_rfl) (by kernel_rfl))) ?_
  intro W base args ds gs before hval0 hW hL hsh
  have hval : ∀ (j : Nat) t v, Tryz.f4.params[j]? = some t → args[j]? = some v → Value.okWide Tryz.prog W .any base t v := hval0
  have hg := gb_of_laid hL hsh
  have hW' := hW
  obtain ⟨p, q, hA0, hV, rfl, hfz, hnd⟩ := hW
  have hA : DataW.TrodAll enc Tryz.prog W 0 (fun _ => true) true Tryz.f4.params.toList args.toList ds p := hA0
  rw [Tryz.params4] at hA hval
  obtain ⟨rfl, rfl⟩ := trodVars_none hV
  obtain ⟨v0, vs0, d0, ds0, p0, q0, hargs, rfl, rfl, h0, r0⟩ := trodAll_cons hA
  obtain ⟨rfl, rfl, rfl⟩ := trodAll_nil r0
  have eargs : args = #[v0] := by cases args; simp_all
  subst eargs
  obtain ⟨z0, e0, -, -⟩ := Go.ChangeMaps.open_string Tryz.underlying9 (hval 0 9 v0 rfl rfl) h0
  obtain ⟨a0, o0, t0⟩ := arg_one (show v0.cells = #[v0] by rw [e0]; rfl) h0 (rd_string Tryz.underlying9)
  have call : Holds Tryz.prog GB 4 [.str a0] (B true) := by
    have h := law02_PileReads (G := GB) hGB (fun _ h => h) a0.data.toList (by have := o0; rw [← strB_of a0, strB_size] at this; unfold maxLen at this; omega)
    rwa [strB_of] at h
  refine (call.2 W #[v0] (· < W.heap.size) hg (fun b h => h) rfl (fun i x v hx hv => ?_)).mono fun e W' ⟨v, S', he, hb, _, _, _, ht⟩ => ?_
  · match i, hx, hv with
    | 0, hx, hv => simp at hx hv; subst hx; subst hv; exact t0
    | i + 1, hx, hv => simp at hx
  · subst he
    have hv : v = .bool true := by generalize hx : B true = x at ht; cases ht <;> cases hx; rfl
    subst hv
    exact ⟨_, rfl, post_law hW' rfl rfl rfl rfl (by rfl) Tryz.underlying4 hb (by kernel_rfl) (by rw [Tryz.params4]; decide +kernel)⟩

set_option maxRecDepth 100000 in
theorem pileReads_row : Rows.PileReadsSaid :=
  OpenClaim.holds_of_wide 4 Tryz.f4 rfl rfl rfl rfl rfl rfl rfl ⟨rfl, rfl, rfl, rfl, rfl⟩ rfl rfl rfl rfl rfl (by kernel_rfl) Tryz.func4 (by kernel_rfl)
    (of_decide_eq_true (by kernel_rfl)) (by unfold Func.isWrapper; first | (rw [if_pos (by decide +kernel)]; kernel_rfl) | (rw [if_neg (by decide +kernel)]; exact ⟨rfl, rfl⟩))
    (fun os started H enc _ => pileReads_lifted os started H enc)

theorem pileReads_holds : Rows.PileReadsCardSaid :=
  Claim7.holds_tied_plain_at .later [] [.data, .data, .data, .data, .sentinel, .sentinel, .pinned] true (true, "2ad6fa0df98c363e870db255fa14f13d134ddadc0ea8c329db5fa63b80537f0b") true
    pileReads_row (fun _ h => by cases h) (by kernel_rfl) (fun _ h => by cases h) pileReads_row_tie rfl ⟨rfl, rfl⟩ (by kernel_rfl) rfl
    (fun f fn hf hfn => by
      obtain rfl : f = 4 := Option.some.inj ((show Tryz.prog.funcNamed "talik/taliklaw02.PileReads" = some 4 by kernel_rfl).symm.trans hf) |>.symm
      obtain rfl : fn = Tryz.f4 := (Option.some.inj (Tryz.func4.symm.trans hfn)).symm
      exact ⟨by kernel_rfl, fun j t ht => by
        rw [Tryz.params4] at ht
        have hm : t ∈ [9] := by simpa using Array.mem_of_getElem? ht
        have hall : ([9].all fun u => !Tryz.prog.wantsStandIn u) = true := by kernel_rfl
        exact (show Tryz.prog.wantsStandIn t = false by simpa using List.all_eq_true.1 hall t hm)⟩)
    (by kernel_rfl)
end Go.Proofs.YtojkchniefhafaaGreatDoor
