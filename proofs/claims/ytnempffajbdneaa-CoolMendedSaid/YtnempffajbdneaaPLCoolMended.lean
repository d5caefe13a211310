/- The law CoolMended answers true for every input, and each argument reads as it read: the row. -/
import Derived.Test.YtnempffajbdneaaPC49
import Derived.Test.YtnempffajbdneaaPMr

namespace Go.Proofs.Ytnempffajbdneaa
open Go Go.Av Go.Tk Go.ChangeShapes Go.WideShapes Go.ChangeAt Go.RowKit

set_option maxRecDepth 100000 in
theorem coolMended_lifted (os : Os) (started : os.Started) (H : Type) (enc : TypeId × Value → H) :
    ReturnsInHanded {} Try.checked os 7 .any (fun w args => Rows.coolMendedSpec.pre enc Try.prog Try.f7 [] false w args ∧ sizedMet enc Try.prog Try.f7 (OpenSpec.ofChange Rows.coolMendedSpec) false w args)
      (Rows.coolMendedSpec.post enc Try.prog Try.f7 false true false false) := by
  rw [show (fun w args => Rows.coolMendedSpec.pre enc Try.prog Try.f7 [] false w args ∧ sizedMet enc Try.prog Try.f7 (OpenSpec.ofChange Rows.coolMendedSpec) false w args) = (fun w args => (Rows.coolMendedSpec.pre enc Try.prog Try.f7 [] false w args ∧ True) ∧ sizedMet enc Try.prog Try.f7 (OpenSpec.ofChange Rows.coolMendedSpec) false w args) from by funext w args; rw [and_true]]
  refine returnsInHanded_of_change_and (C := Try.checked) (X := fun _ _ => True) (fun _ _ _ _ h => h) rowOwn started (by kernel_rfl) Try.func7
    (ChangeSpec.witness_shaped (enc := enc) (C := Try.checked) (os := os) (X := fun _ _ => True) false (World.doorLaid Try.prog 4000 os) #[.agg #[.slice none 0 0, .slice none 0 0], .slice none 0 0, .slice none 0 0, .agg #[.slice none 0 0, .slice none 0 0]] 8 rfl (World.shaped_of_RefB (by kernel_rfl) (by kernel_rfl)) (by kernel_rfl) (by kernel_rfl) (by kernel_rfl) trivial) ?_
  intro W base args ds gs before hval0 hW _ _ hL _
  have hval : ∀ (j : Nat) t v, Try.f7.params[j]? = some t → args[j]? = some v → Value.okWide Try.prog W .any base t v := hval0
  have hg : GT0 W := trivial
  have hW' := hW
  obtain ⟨p, q, hA0, hV, rfl, hfz, hnd⟩ := hW
  have hA : DataW.TrodAll enc Try.prog W 0 (fun _ => true) true Try.f7.params.toList args.toList ds p := hA0
  rw [Try.params7] at hA hval
  obtain ⟨rfl, rfl⟩ := trodVars_none hV
  obtain ⟨v0, vs0, d0, ds0, p0, q0, hargs, rfl, rfl, h0, r0⟩ := trodAll_cons hA
  obtain ⟨v1, vs1, d1, ds1, p1, q1, rfl, rfl, rfl, h1, r1⟩ := trodAll_cons r0
  obtain ⟨v2, vs2, d2, ds2, p2, q2, rfl, rfl, rfl, h2, r2⟩ := trodAll_cons r1
  obtain ⟨v3, vs3, d3, ds3, p3, q3, rfl, rfl, rfl, h3, r3⟩ := trodAll_cons r2
  obtain ⟨rfl, rfl, rfl⟩ := trodAll_nil r3
  have eargs : args = #[v0, v1, v2, v3] := by cases args; simp_all
  subst eargs
  obtain ⟨a0, o0, t0⟩ := arg_struct Try.underlying25 (hval 0 25 v0 rfl rfl) h0 rd_CoolTown
  have e1 : v1.cells = #[v1] := by obtain ⟨_, _, _, rfl⟩ := okWide_slice Try.underlying28 (hval 1 28 v1 rfl rfl); rfl
  obtain ⟨a1, o1, t1⟩ := arg_one e1 h1 rd_SlInt
  have e2 : v2.cells = #[v2] := by obtain ⟨_, _, _, rfl⟩ := okWide_slice Try.underlying28 (hval 2 28 v2 rfl rfl); rfl
  obtain ⟨a2, o2, t2⟩ := arg_one e2 h2 rd_SlInt
  obtain ⟨a3, o3, t3⟩ := arg_struct Try.underlying53 (hval 3 53 v3 rfl rfl) h3 rd_CoolTruth
  have call : Holds Try.prog GT0 7 [.agg a0.cs, slOf intCs a1, slOf intCs a2, .agg a3.cs] (B true) := law03_CoolMended (G := GT0) hGT0 a0 a1 a2 a3
  refine (call.2 W #[v0, v1, v2, v3] (· < W.heap.size) hg (fun b h => h) rfl (fun i x v hx hv => ?_)).mono fun e W' ⟨v, S', he, hb, _, _, _, ht⟩ => ?_
  · match i, hx, hv with
    | 0, hx, hv => simp at hx hv; subst hx; subst hv; exact t0
    | 1, hx, hv => simp at hx hv; subst hx; subst hv; exact t1
    | 2, hx, hv => simp at hx hv; subst hx; subst hv; exact t2
    | 3, hx, hv => simp at hx hv; subst hx; subst hv; exact t3
    | i + 4, hx, hv => simp at hx
  · subst he
    have hv : v = .bool true := by generalize hx : B true = x at ht; cases ht <;> cases hx; rfl
    subst hv
    exact ⟨_, rfl, post_law hW' rfl rfl rfl rfl (by rfl) Try.underlying4 hb (by kernel_rfl) (by rw [Try.params7]; decide +kernel)⟩

set_option maxRecDepth 100000 in
theorem coolMended_holds : Rows.CoolMendedSaid :=
  OpenClaim.holds_of_wide 7 Try.f7 rfl rfl rfl rfl rfl rfl rfl ⟨rfl, rfl, rfl, rfl, rfl⟩ rfl rfl rfl rfl rfl (by kernel_rfl) Try.func7 (by kernel_rfl)
    (of_decide_eq_true (by kernel_rfl)) (by unfold Func.isWrapper; first | (rw [if_pos (by decide +kernel)]; kernel_rfl) | (rw [if_neg (by decide +kernel)]; exact ⟨rfl, rfl⟩))
    (fun os started H enc _ => coolMended_lifted os started H enc)

end Go.Proofs.Ytnempffajbdneaa
