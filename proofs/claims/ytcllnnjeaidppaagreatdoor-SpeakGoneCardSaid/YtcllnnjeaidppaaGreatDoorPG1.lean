/- A river: somebody who goes step by step. -/
import Derived.Test.YtcllnnjeaidppaaGreatDoorPF6
set_option linter.unusedVariables false
set_option linter.unusedSimpArgs false
set_option linter.unusedSectionVars false
set_option maxRecDepth 8000
set_option maxHeartbeats 4000000
namespace Go.Tk
open Go Go.Av
theorem dirL_up {riv : List Spot} {f : Nat} {s : Stp} (hu : s.up = true) : (f + 1 < riv.length → dirL riv f s = (f + 1) :: dirL riv (f + 1) s) ∧ (¬ f + 1 < riv.length → dirL riv f s = []) := by
  unfold dirL
  rw [if_pos hu, if_pos hu]
  unfold upL
  refine ⟨fun h => ?_, fun h => ?_⟩
  · rw [show riv.length - (f + 1) = (riv.length - (f + 1 + 1)) + 1 by omega, List.range_succ_eq_map, List.map_cons, List.map_map]
    congr 1
    apply List.map_congr_left
    intro i _
    simp only [Function.comp]
    omega
  · rw [show riv.length - (f + 1) = 0 by omega]; rfl
theorem dirL_down {riv : List Spot} {f : Nat} {s : Stp} (hu : s.up = false) : dirL riv (f + 1) s = f :: dirL riv f s ∧ dirL riv 0 s = [] := by
  unfold dirL
  rw [if_neg (by simp [hu]), if_neg (by simp [hu]), if_neg (by simp [hu])]
  unfold downL
  rw [List.range_succ, List.reverse_append]
  exact ⟨rfl, rfl⟩
/-- Where somebody is who goes the first k steps. -/
def walkTo (riv : List Spot) (steps : List Stp) (f : Nat) (k : Nat) : Option Nat := (steps.take k).foldl (fun o s => o.bind fun a => goesO riv a s) (some f)
theorem walkTo_succ {riv : List Spot} {steps : List Stp} {f k : Nat} (hk : k < steps.length) : walkTo riv steps f (k + 1) = (walkTo riv steps f k).bind fun a => goesO riv a (steps.getD k default) := by
  conv => lhs; unfold walkTo
  rw [take_snoc hk, List.foldl_append]; rfl
theorem walkTo_none {riv : List Spot} {steps : List Stp} {f k : Nat} (h : walkTo riv steps f k = none) : ∀ d, k + d ≤ steps.length → walkTo riv steps f (k + d) = none
  | 0, _ => h
  | d + 1, hd => by
    rw [← Nat.add_assoc, walkTo_succ (by omega), walkTo_none h d (by omega)]; rfl
theorem walkTo_lt {riv : List Spot} {steps : List Stp} {f : Nat} (hf : f < riv.length) : ∀ {k a : Nat}, k ≤ steps.length → walkTo riv steps f k = some a → a < riv.length
  | 0, a, _, h => by simp [walkTo] at h; omega
  | k + 1, a, hk, h => by
    rw [walkTo_succ (by omega)] at h
    cases hw : walkTo riv steps f k with
    | none => rw [hw] at h; cases h
    | some b =>
      rw [hw] at h
      exact goesO_lt (walkTo_lt hf (by omega) hw) h
theorem mem_nowTo {riv : List Spot} {kind : Int} {steps : List Stp} {j : Nat} : ∀ {k : Nat}, k ≤ steps.length → (j ∈ nowTo riv kind steps k ↔ ∃ i, i < riv.length ∧ (riv.getD i default).kind = kind ∧ walkTo riv steps i k = some j)
  | 0, _ => by
    have : nowTo riv kind steps 0 = kindTo riv kind riv.length := by simp [nowTo]
    rw [this]
    simp only [kindTo, List.mem_filter, List.mem_range, decide_eq_true_eq, walkTo, List.take_zero, List.foldl_nil, Option.some.injEq]
    constructor
    · rintro ⟨h1, h2⟩; exact ⟨j, h1, h2, rfl⟩
    · rintro ⟨i, h1, h2, rfl⟩; exact ⟨h1, h2⟩
  | k + 1, hk => by
    have ih := fun j => mem_nowTo (riv := riv) (kind := kind) (steps := steps) (j := j) (k := k) (by omega)
    rw [nowTo_succ (by omega), mem_moveTo (Nat.le_refl _)]
    constructor
    · rintro ⟨t, h1, h2⟩
      obtain ⟨i, q1, q2, q3⟩ := (ih _).1 (mem_getD h1)
      exact ⟨i, q1, q2, by rw [walkTo_succ (by omega), q3]; exact h2⟩
    · rintro ⟨i, q1, q2, q3⟩
      rw [walkTo_succ (by omega)] at q3
      cases hw : walkTo riv steps i k with
      | none => rw [hw] at q3; cases q3
      | some b =>
        rw [hw] at q3
        obtain ⟨t, ht, hb⟩ := List.mem_iff_getElem.1 ((ih b).2 ⟨i, q1, q2, hw⟩)
        exact ⟨t, ht, by rw [getD_lt ht, hb]; exact q3⟩
theorem bank_no {s : Stp} {x : Spot} (h : s.ok) : bankOk s x = !((decide (s.bank = 1) && !x.left) || (decide (s.bank = 2) && x.left)) := by
  have h3 := h.2.2
  unfold bankOk
  rcases (show s.bank = 0 ∨ s.bank = 1 ∨ s.bank = 2 by omega) with e | e | e <;> rw [e] <;> cases x.left <;> decide
end Go.Tk
namespace Go.Proofs.YtcllnnjeaidppaaGreatDoor
open Go Go.Av Go.Tk
attribute [local irreducible] Holds sem semL ACalls FnIs
variable {G : World → Prop} (hG : ∀ w w', G w → RowKit.Below w.heap.size w w' → G w')
include hG
theorem law09_walked (riv : List Spot) (f : Nat) (steps : List Stp) (hl : riv.length ≤ 100000) (hls : steps.length ≤ 100000) (hf : f < riv.length) (hs : ∀ s ∈ steps, s.ok) : Holds Tryz.prog G F.law09_walked [slOf Spot.cs riv, I f, slOf Stp.cs steps] (I (goesI (walkTo riv steps f steps.length))) := by
  have hwl := fun k a => walkTo_lt (riv := riv) (steps := steps) (k := k) (a := a) hf
  (refine holds_of_sem hG fn_law09_walked (by simp) fun w0 S0 hG0 D0 => ?_; unfold c_law09_walked cval enterEnv; simp only [List.zipIdx_cons, List.zipIdx_nil, List.map_cons, List.map_nil, Nat.zero_add, Nat.reduceAdd])
  repeat' (first | ((first | refine o1 rfl ?_ | refine o0 rfl ?_); intro k hk; simp (disch := omega) only [ev0, sl_cells, simprocAttr]; refine hk _ _ ?_; clear hk k) | refine ono rfl ?_ | ((first | refine osplitG rfl (fun h => ?_) (fun h => ?_) | refine osplitB rfl (fun h => ?_) (fun h => ?_)) <;> (fail_if_success (simp only [eq_self, reduceCtorEq] at h))) | refine onx ?_ | refine onb ?_ | refine sreg ?_ | refine qT rfl ?_ | refine qF rfl ?_ | refine scondT rfl ?_ | refine scondF rfl ?_ | refine ocondP rfl (fun h => ?_) (fun h => ?_) | refine ocondB rfl (fun h => ?_) (fun h => ?_) | refine scondP rfl (fun h => ?_) (fun h => ?_) | refine scond rfl (fun h => ?_) (fun h => ?_) | refine oskip ?_ | refine oskipb ?_ | refine oret ?_ | refine sem_ret ?_ | refine sem_seq ?_ | refine sreg1 ?_)
  refine sem_block ?_
  
  refine sem_loop (α := Nat × Nat) (fun x => ⟨[(0, slOf Spot.cs riv), (1, I x.2), (2, slOf Stp.cs steps), (7, I x.1)], []⟩) (fun x => x.1 ≤ steps.length ∧ walkTo riv steps f x.1 = some x.2) (fun x => steps.length - x.1) (0, f) ⟨Nat.zero_le _, by simp [walkTo]⟩ ?_ ?_
  · (refine Le.same ?_; simp only [List.forall_mem_cons, List.forall_mem_nil, getE, selE, Nat.reduceBEq, List.not_mem_nil, false_implies, implies_true, and_true, true_and, and_self])
    simp [slOf]
  · rintro ⟨k, a⟩ ⟨h1, h2⟩
    simp only at h1 h2
    have hal := hwl k a h1 h2
    have hnx := walkTo_succ (riv := riv) (steps := steps) (f := f) (k := k)
    rw [h2] at hnx
    simp only [Option.bind_some] at hnx
    have hno := walkTo_none (riv := riv) (steps := steps) (f := f) (k := k + 1)
    repeat' (first | ((first | refine o1 rfl ?_ | refine o0 rfl ?_); intro k hk; simp (disch := omega) only [ev0, sl_cells, simprocAttr, slOf]; refine hk _ _ ?_; clear hk k) | refine ono rfl ?_ | ((first | refine osplitG rfl (fun h => ?_) (fun h => ?_) | refine osplitB rfl (fun h => ?_) (fun h => ?_)) <;> (fail_if_success (simp only [eq_self, reduceCtorEq] at h))) | refine onx ?_ | refine onb ?_ | refine sreg ?_ | refine qT rfl ?_ | refine qF rfl ?_ | refine scondT rfl ?_ | refine scondF rfl ?_ | refine ocondP rfl (fun h => ?_) (fun h => ?_) | refine ocondB rfl (fun h => ?_) (fun h => ?_) | refine scondP rfl (fun h => ?_) (fun h => ?_) | refine scond rfl (fun h => ?_) (fun h => ?_) | refine oskip ?_ | refine oskipb ?_ | refine oret ?_ | refine sem_ret ?_ | refine sem_seq ?_ | refine sreg1 ?_)
    · have hk' : k < steps.length := by omega
      have hso := hs _ (mem_getD hk')
      have hnx := hnx hk'
      have hno : goesO riv a (steps.getD k default) = none → walkTo riv steps f steps.length = none := fun q => by
        have := hno (by rw [hnx, q]) (steps.length - (k + 1)) (by omega)
        rwa [show k + 1 + (steps.length - (k + 1)) = steps.length by omega] at this
      generalize hst2 : steps.getD k default = st at *
      have hbk := fun x => bank_no (x := x) hso
      obtain ⟨g1, g2, g3⟩ := hso
      refine sem_block ?_
      repeat' (first | ((first | refine o1 rfl ?_ | refine o0 rfl ?_); intro k hk; simp (disch := omega) only [ev0, sl_cells, simprocAttr, slOf, Stp.cs, hst2]; refine hk _ _ ?_; clear hk k) | refine ono rfl ?_ | ((first | refine osplitG rfl (fun h => ?_) (fun h => ?_) | refine osplitB rfl (fun h => ?_) (fun h => ?_)) <;> (fail_if_success (simp only [eq_self, reduceCtorEq] at h))) | refine onx ?_ | refine onb ?_ | refine sreg ?_ | refine qT rfl ?_ | refine qF rfl ?_ | refine scondT rfl ?_ | refine scondF rfl ?_ | refine ocondP rfl (fun h => ?_) (fun h => ?_) | refine ocondB rfl (fun h => ?_) (fun h => ?_) | refine scondP rfl (fun h => ?_) (fun h => ?_) | refine scond rfl (fun h => ?_) (fun h => ?_) | refine oskip ?_ | refine oskipb ?_ | refine oret ?_ | refine sem_ret ?_ | refine sem_seq ?_ | refine sreg1 ?_)
      refine sem_block ?_
      
      refine sem_loop (α := Nat × Int) (fun x => ⟨[(0, slOf Spot.cs riv), (1, I x.1), (2, slOf Stp.cs steps), (7, I k), (8, .ptr 0 0 4 0 0), (9, I x.2)], [.row 99 0 4 [st.cs]]⟩) (fun x => x.1 < riv.length ∧ (0 ≤ x.2 ∧ x.2 ≤ 9) ∧ (0 < x.2 → hitL riv st.kind (dirL riv x.1 st) x.2 = hitL riv st.kind (dirL riv a st) st.count) ∧ (x.2 = 0 → hitL riv st.kind (dirL riv a st) st.count = some x.1)) (fun x => if st.up then riv.length - x.1 else x.1 + 1) (a, st.count) ⟨hal, by simp only; omega, fun _ => rfl, fun q => by simp only at q; omega⟩ ?_ ?_
      · (refine Le.same ?_; simp only [List.forall_mem_cons, List.forall_mem_nil, getE, selE, Nat.reduceBEq, List.not_mem_nil, false_implies, implies_true, and_true, true_and, and_self])
        all_goals simp [slOf, Stp.cs]
      · rintro ⟨b, c⟩ ⟨w1, w2, w3, w4⟩
        simp only at w1 w2 w3 w4
        generalize hR : hitL riv st.kind (dirL riv a st) st.count = R at *
        have hgo : goesO riv a st = R.bind fun i => if bankOk st (riv.getD i default) then some i else none := by
          unfold goesO; rw [hR]; cases R <;> rfl
        have hdu := dirL_up (riv := riv) (f := b) (s := st)
        have hdd0 : st.up = false → dirL riv 0 st = [] := fun q => (dirL_down (f := 0) q).2
        have hdd := fun b => dirL_down (riv := riv) (f := b) (s := st)
        have hsup : st.up = true ∨ st.up = false := by cases st.up <;> simp
        repeat' (first | ((first | refine o1 rfl ?_ | refine o0 rfl ?_); intro k hk; simp (disch := omega) only [ev0, sl_cells, simprocAttr, slOf]; refine hk _ _ ?_; clear hk k) | refine ono rfl ?_ | ((first | refine osplitG rfl (fun h => ?_) (fun h => ?_) | refine osplitB rfl (fun h => ?_) (fun h => ?_)) <;> (fail_if_success (simp only [eq_self, reduceCtorEq] at h))) | refine onx ?_ | refine onb ?_ | refine sreg ?_ | refine qT rfl ?_ | refine qF rfl ?_ | refine scondT rfl ?_ | refine scondF rfl ?_ | refine ocondP rfl (fun h => ?_) (fun h => ?_) | refine ocondB rfl (fun h => ?_) (fun h => ?_) | refine scondP rfl (fun h => ?_) (fun h => ?_) | refine scond rfl (fun h => ?_) (fun h => ?_) | refine oskip ?_ | refine oskipb ?_ | refine oret ?_ | refine sem_ret ?_ | refine sem_seq ?_ | refine sreg1 ?_)
        · have hc : 0 < c := by omega
          have w3 := w3 hc
          refine sem_block ?_
          rcases hsup with hup | hup
          · have hcs : [I st.count, I st.kind, B true, I st.bank] = st.cs := by simp [Stp.cs, hup]
            have hb1 : (b : Int) + 1 = ((b + 1 : Nat) : Int) := by omega
            by_cases hin : b + 1 < riv.length
            · rw [(hdu hup).1 hin] at w3
              simp only [hitL] at w3
              generalize hsp : riv.getD (b + 1) default = sp at *
              have hbb1 : ((((b + 1) : Nat) : Int) < 0) = False := eq_false (by omega)
              have hbb2 : ((riv.length : Int) ≤ (((b + 1) : Nat) : Int)) = False := eq_false (by omega)
              by_cases hk2 : sp.kind = st.kind
              · have hkk : (sp.kind = st.kind) = True := eq_true hk2
                rw [if_pos hk2] at w3
                repeat' (first | ((first | refine o1 rfl ?_ | refine o0 rfl ?_); intro k hk; simp (disch := omega) only [ev0, sl_cells, simprocAttr, slOf, Stp.cs, Spot.cs, hup, hb1, hbb1, hbb2, decide_true, decide_false]; refine hk _ _ ?_; clear hk k) | refine ono rfl ?_ | ((first | refine osplitG rfl (fun h => ?_) (fun h => ?_) | refine osplitB rfl (fun h => ?_) (fun h => ?_)) <;> (fail_if_success (simp only [eq_self, reduceCtorEq] at h))) | refine onx ?_ | refine onb ?_ | refine sreg ?_ | refine qT rfl ?_ | refine qF rfl ?_ | refine scondT rfl ?_ | refine scondF rfl ?_ | refine ocondP rfl (fun h => ?_) (fun h => ?_) | refine ocondB rfl (fun h => ?_) (fun h => ?_) | refine scondP rfl (fun h => ?_) (fun h => ?_) | refine scond rfl (fun h => ?_) (fun h => ?_) | refine oskip ?_ | refine oskipb ?_ | refine oret ?_ | refine sem_ret ?_ | refine sem_seq ?_ | refine sreg1 ?_)
                ((refine sem_mgo 7 hmix (by kernel_rfl) ?_; simp only [nt]); (repeat' (first | ((first | apply mop | apply mop0); (case hg => rfl); (case hq => rfl); intro k hk; simp (disch := omega) only [ev0, sl_cells, simprocAttr, slOf, Spot.cs, Stp.cs, hsp, hkk, decide_true]; refine hk _ _ rfl ?_; clear hk k) | (apply mno; (case hg => rfl)) | (apply mbox; (case hx => (simp only [wv, simprocAttr] <;> rfl)); (case hg => rfl); (case hall => rfl); (case hr => rfl); simp only [nm, Nat.reduceAdd]) | (apply mbldS; (case hb => (simp (disch := omega) only [ev0, sl_cells, simprocAttr] <;> rfl)); (case hg => rfl); (case hr => rfl); simp only [nm, Nat.reduceAdd]) | ((first | (apply msto (q := 0); (case hq => rfl)) | (apply msto (q := 1); (case hq => rfl)) | (apply msto (q := 2); (case hq => rfl)) | (apply msto (q := 3); (case hq => rfl))); (case hx => (simp only [wv, simprocAttr] <;> rfl)); (case haddr => (simp only [wv, simprocAttr] <;> rfl)); (case hg => rfl); (case hl1 => rfl); (case hl2 => rfl); (case hok => rfl); (case hr => rfl); simp only [nm, Nat.reduceAdd]) | (apply mnil; simp only [SlotR.fin, ns]) | (refine msplit rfl (fun h => ?_) (fun h => ?_) <;> simp only [h] <;> (try simp only [nb] at h)))) <;> (repeat' (first | ((first | refine o1 rfl ?_ | refine o0 rfl ?_); intro k hk; simp (disch := omega) only [ev0, sl_cells, simprocAttr, slOf, Spot.cs, Stp.cs, hsp, hkk, decide_true]; refine hk _ _ ?_; clear hk k) | refine ono rfl ?_ | ((first | refine osplitG rfl (fun h => ?_) (fun h => ?_) | refine osplitB rfl (fun h => ?_) (fun h => ?_)) <;> (fail_if_success (simp only [eq_self, reduceCtorEq] at h))) | refine onx ?_ | refine onb ?_ | refine sreg ?_ | refine qT rfl ?_ | refine qF rfl ?_ | refine scondT rfl ?_ | refine scondF rfl ?_ | refine ocondP rfl (fun h => ?_) (fun h => ?_) | refine ocondB rfl (fun h => ?_) (fun h => ?_) | refine scondP rfl (fun h => ?_) (fun h => ?_) | refine scond rfl (fun h => ?_) (fun h => ?_) | refine oskip ?_ | refine oskipb ?_ | refine oret ?_ | refine sem_ret ?_ | refine sem_seq ?_ | refine sreg1 ?_)))
                refine onil ?_
                simp only [blockQ]
                refine (lnext ((b + 1), c - 1) ⟨by simp only; omega, by simp only; omega, fun q => by
                  simp only at q ⊢
                  rwa [if_neg (by omega)] at w3, fun q => by
                  simp only at q ⊢
                  rw [if_pos (by omega)] at w3
                  exact w3.symm⟩ (by simp only [hup, if_true, Bool.false_eq_true, if_false]; omega) ?_)
                rw [hcs]
                (refine Le.same ?_; simp only [List.forall_mem_cons, List.forall_mem_nil, getE, selE, Nat.reduceBEq, List.not_mem_nil, false_implies, implies_true, and_true, true_and, and_self])
              · have hkk : (sp.kind = st.kind) = False := eq_false hk2
                rw [if_neg hk2] at w3
                repeat' (first | ((first | refine o1 rfl ?_ | refine o0 rfl ?_); intro k hk; simp (disch := omega) only [ev0, sl_cells, simprocAttr, slOf, Stp.cs, Spot.cs, hup, hb1, hbb1, hbb2, decide_true, decide_false]; refine hk _ _ ?_; clear hk k) | refine ono rfl ?_ | ((first | refine osplitG rfl (fun h => ?_) (fun h => ?_) | refine osplitB rfl (fun h => ?_) (fun h => ?_)) <;> (fail_if_success (simp only [eq_self, reduceCtorEq] at h))) | refine onx ?_ | refine onb ?_ | refine sreg ?_ | refine qT rfl ?_ | refine qF rfl ?_ | refine scondT rfl ?_ | refine scondF rfl ?_ | refine ocondP rfl (fun h => ?_) (fun h => ?_) | refine ocondB rfl (fun h => ?_) (fun h => ?_) | refine scondP rfl (fun h => ?_) (fun h => ?_) | refine scond rfl (fun h => ?_) (fun h => ?_) | refine oskip ?_ | refine oskipb ?_ | refine oret ?_ | refine sem_ret ?_ | refine sem_seq ?_ | refine sreg1 ?_)
                ((refine sem_mgo 7 hmix (by kernel_rfl) ?_; simp only [nt]); (repeat' (first | ((first | apply mop | apply mop0); (case hg => rfl); (case hq => rfl); intro k hk; simp (disch := omega) only [ev0, sl_cells, simprocAttr, slOf, Spot.cs, Stp.cs, hsp, hkk, decide_false]; refine hk _ _ rfl ?_; clear hk k) | (apply mno; (case hg => rfl)) | (apply mbox; (case hx => (simp only [wv, simprocAttr] <;> rfl)); (case hg => rfl); (case hall => rfl); (case hr => rfl); simp only [nm, Nat.reduceAdd]) | (apply mbldS; (case hb => (simp (disch := omega) only [ev0, sl_cells, simprocAttr] <;> rfl)); (case hg => rfl); (case hr => rfl); simp only [nm, Nat.reduceAdd]) | ((first | (apply msto (q := 0); (case hq => rfl)) | (apply msto (q := 1); (case hq => rfl)) | (apply msto (q := 2); (case hq => rfl)) | (apply msto (q := 3); (case hq => rfl))); (case hx => (simp only [wv, simprocAttr] <;> rfl)); (case haddr => (simp only [wv, simprocAttr] <;> rfl)); (case hg => rfl); (case hl1 => rfl); (case hl2 => rfl); (case hok => rfl); (case hr => rfl); simp only [nm, Nat.reduceAdd]) | (apply mnil; simp only [SlotR.fin, ns]) | (refine msplit rfl (fun h => ?_) (fun h => ?_) <;> simp only [h] <;> (try simp only [nb] at h)))) <;> (repeat' (first | ((first | refine o1 rfl ?_ | refine o0 rfl ?_); intro k hk; simp (disch := omega) only [ev0, sl_cells, simprocAttr, slOf, Spot.cs, Stp.cs, hsp, hkk, decide_false]; refine hk _ _ ?_; clear hk k) | refine ono rfl ?_ | ((first | refine osplitG rfl (fun h => ?_) (fun h => ?_) | refine osplitB rfl (fun h => ?_) (fun h => ?_)) <;> (fail_if_success (simp only [eq_self, reduceCtorEq] at h))) | refine onx ?_ | refine onb ?_ | refine sreg ?_ | refine qT rfl ?_ | refine qF rfl ?_ | refine scondT rfl ?_ | refine scondF rfl ?_ | refine ocondP rfl (fun h => ?_) (fun h => ?_) | refine ocondB rfl (fun h => ?_) (fun h => ?_) | refine scondP rfl (fun h => ?_) (fun h => ?_) | refine scond rfl (fun h => ?_) (fun h => ?_) | refine oskip ?_ | refine oskipb ?_ | refine oret ?_ | refine sem_ret ?_ | refine sem_seq ?_ | refine sreg1 ?_)))
                refine sem_skip ?_
                simp only [blockQ]
                refine (lnext ((b + 1), c) ⟨by simp only; omega, by simp only; omega, fun q => w3, fun q => by
                  simp only at q
                  omega⟩ (by simp only [hup, if_true, Bool.false_eq_true, if_false]; omega) ?_)
                rw [hcs]
                (refine Le.same ?_; simp only [List.forall_mem_cons, List.forall_mem_nil, getE, selE, Nat.reduceBEq, List.not_mem_nil, false_implies, implies_true, and_true, true_and, and_self])
            · rw [(hdu hup).2 hin] at w3
              rw [show hitL riv st.kind [] c = none from rfl] at w3
              rw [← w3] at hgo
              rw [hno hgo]
              have hbb1 : (((b + 1 : Nat) : Int) < 0) = False := eq_false (by omega); have hbb2 : ((riv.length : Int) ≤ ((b + 1 : Nat) : Int)) = True := eq_true (by omega)
              repeat' (first | ((first | refine o1 rfl ?_ | refine o0 rfl ?_); intro k hk; simp (disch := omega) only [ev0, sl_cells, simprocAttr, slOf, Stp.cs, Spot.cs, hup, hb1, hbb1, hbb2, decide_true, decide_false, goesI]; refine hk _ _ ?_; clear hk k) | refine ono rfl ?_ | ((first | refine osplitG rfl (fun h => ?_) (fun h => ?_) | refine osplitB rfl (fun h => ?_) (fun h => ?_)) <;> (fail_if_success (simp only [eq_self, reduceCtorEq] at h))) | refine onx ?_ | refine onb ?_ | refine sreg ?_ | refine qT rfl ?_ | refine qF rfl ?_ | refine scondT rfl ?_ | refine scondF rfl ?_ | refine ocondP rfl (fun h => ?_) (fun h => ?_) | refine ocondB rfl (fun h => ?_) (fun h => ?_) | refine scondP rfl (fun h => ?_) (fun h => ?_) | refine scond rfl (fun h => ?_) (fun h => ?_) | refine oskip ?_ | refine oskipb ?_ | refine oret ?_ | refine sem_ret ?_ | refine sem_seq ?_ | refine sreg1 ?_)
              exact ⟨_, rfl, _, rfl, tree_eq rfl rfl⟩
          · have hcs : [I st.count, I st.kind, B false, I st.bank] = st.cs := by simp [Stp.cs, hup]
            cases b with
            | zero =>
              rw [hdd0 hup] at w3
              rw [show hitL riv st.kind [] c = none from rfl] at w3
              rw [← w3] at hgo
              rw [hno hgo]
              have hb1 : ((0 : Nat) : Int) - 1 = -1 := (by omega); have hbb1 : ((-1 : Int) < 0) = True := eq_true (by omega); have hbb2 : ((riv.length : Int) ≤ -1) = False := eq_false (by omega)
              repeat' (first | ((first | refine o1 rfl ?_ | refine o0 rfl ?_); intro k hk; simp (disch := omega) only [ev0, sl_cells, simprocAttr, slOf, Stp.cs, Spot.cs, hup, hb1, hbb1, hbb2, decide_true, decide_false, goesI]; refine hk _ _ ?_; clear hk k) | refine ono rfl ?_ | ((first | refine osplitG rfl (fun h => ?_) (fun h => ?_) | refine osplitB rfl (fun h => ?_) (fun h => ?_)) <;> (fail_if_success (simp only [eq_self, reduceCtorEq] at h))) | refine onx ?_ | refine onb ?_ | refine sreg ?_ | refine qT rfl ?_ | refine qF rfl ?_ | refine scondT rfl ?_ | refine scondF rfl ?_ | refine ocondP rfl (fun h => ?_) (fun h => ?_) | refine ocondB rfl (fun h => ?_) (fun h => ?_) | refine scondP rfl (fun h => ?_) (fun h => ?_) | refine scond rfl (fun h => ?_) (fun h => ?_) | refine oskip ?_ | refine oskipb ?_ | refine oret ?_ | refine sem_ret ?_ | refine sem_seq ?_ | refine sreg1 ?_)
              exact ⟨_, rfl, _, rfl, tree_eq rfl rfl⟩
            | succ b =>
              have hb1 : ((b + 1 : Nat) : Int) - 1 = ((b : Nat) : Int) := by omega
              rw [(hdd b hup).1] at w3
              simp only [hitL] at w3
              generalize hsp : riv.getD b default = sp at *
              have hbb1 : (((b : Nat) : Int) < 0) = False := eq_false (by omega)
              have hbb2 : ((riv.length : Int) ≤ ((b : Nat) : Int)) = False := eq_false (by omega)
              by_cases hk2 : sp.kind = st.kind
              · have hkk : (sp.kind = st.kind) = True := eq_true hk2
                rw [if_pos hk2] at w3
                repeat' (first | ((first | refine o1 rfl ?_ | refine o0 rfl ?_); intro k hk; simp (disch := omega) only [ev0, sl_cells, simprocAttr, slOf, Stp.cs, Spot.cs, hup, hb1, hbb1, hbb2, decide_true, decide_false]; refine hk _ _ ?_; clear hk k) | refine ono rfl ?_ | ((first | refine osplitG rfl (fun h => ?_) (fun h => ?_) | refine osplitB rfl (fun h => ?_) (fun h => ?_)) <;> (fail_if_success (simp only [eq_self, reduceCtorEq] at h))) | refine onx ?_ | refine onb ?_ | refine sreg ?_ | refine qT rfl ?_ | refine qF rfl ?_ | refine scondT rfl ?_ | refine scondF rfl ?_ | refine ocondP rfl (fun h => ?_) (fun h => ?_) | refine ocondB rfl (fun h => ?_) (fun h => ?_) | refine scondP rfl (fun h => ?_) (fun h => ?_) | refine scond rfl (fun h => ?_) (fun h => ?_) | refine oskip ?_ | refine oskipb ?_ | refine oret ?_ | refine sem_ret ?_ | refine sem_seq ?_ | refine sreg1 ?_)
                ((refine sem_mgo 7 hmix (by kernel_rfl) ?_; simp only [nt]); (repeat' (first | ((first | apply mop | apply mop0); (case hg => rfl); (case hq => rfl); intro k hk; simp (disch := omega) only [ev0, sl_cells, simprocAttr, slOf, Spot.cs, Stp.cs, hsp, hkk, decide_true]; refine hk _ _ rfl ?_; clear hk k) | (apply mno; (case hg => rfl)) | (apply mbox; (case hx => (simp only [wv, simprocAttr] <;> rfl)); (case hg => rfl); (case hall => rfl); (case hr => rfl); simp only [nm, Nat.reduceAdd]) | (apply mbldS; (case hb => (simp (disch := omega) only [ev0, sl_cells, simprocAttr] <;> rfl)); (case hg => rfl); (case hr => rfl); simp only [nm, Nat.reduceAdd]) | ((first | (apply msto (q := 0); (case hq => rfl)) | (apply msto (q := 1); (case hq => rfl)) | (apply msto (q := 2); (case hq => rfl)) | (apply msto (q := 3); (case hq => rfl))); (case hx => (simp only [wv, simprocAttr] <;> rfl)); (case haddr => (simp only [wv, simprocAttr] <;> rfl)); (case hg => rfl); (case hl1 => rfl); (case hl2 => rfl); (case hok => rfl); (case hr => rfl); simp only [nm, Nat.reduceAdd]) | (apply mnil; simp only [SlotR.fin, ns]) | (refine msplit rfl (fun h => ?_) (fun h => ?_) <;> simp only [h] <;> (try simp only [nb] at h)))) <;> (repeat' (first | ((first | refine o1 rfl ?_ | refine o0 rfl ?_); intro k hk; simp (disch := omega) only [ev0, sl_cells, simprocAttr, slOf, Spot.cs, Stp.cs, hsp, hkk, decide_true]; refine hk _ _ ?_; clear hk k) | refine ono rfl ?_ | ((first | refine osplitG rfl (fun h => ?_) (fun h => ?_) | refine osplitB rfl (fun h => ?_) (fun h => ?_)) <;> (fail_if_success (simp only [eq_self, reduceCtorEq] at h))) | refine onx ?_ | refine onb ?_ | refine sreg ?_ | refine qT rfl ?_ | refine qF rfl ?_ | refine scondT rfl ?_ | refine scondF rfl ?_ | refine ocondP rfl (fun h => ?_) (fun h => ?_) | refine ocondB rfl (fun h => ?_) (fun h => ?_) | refine scondP rfl (fun h => ?_) (fun h => ?_) | refine scond rfl (fun h => ?_) (fun h => ?_) | refine oskip ?_ | refine oskipb ?_ | refine oret ?_ | refine sem_ret ?_ | refine sem_seq ?_ | refine sreg1 ?_)))
                refine onil ?_
                simp only [blockQ]
                refine (lnext (b, c - 1) ⟨by simp only; omega, by simp only; omega, fun q => by
                  simp only at q ⊢
                  rwa [if_neg (by omega)] at w3, fun q => by
                  simp only at q ⊢
                  rw [if_pos (by omega)] at w3
                  exact w3.symm⟩ (by simp only [hup, if_true, Bool.false_eq_true, if_false]; omega) ?_)
                rw [hcs]
                (refine Le.same ?_; simp only [List.forall_mem_cons, List.forall_mem_nil, getE, selE, Nat.reduceBEq, List.not_mem_nil, false_implies, implies_true, and_true, true_and, and_self])
              · have hkk : (sp.kind = st.kind) = False := eq_false hk2
                rw [if_neg hk2] at w3
                repeat' (first | ((first | refine o1 rfl ?_ | refine o0 rfl ?_); intro k hk; simp (disch := omega) only [ev0, sl_cells, simprocAttr, slOf, Stp.cs, Spot.cs, hup, hb1, hbb1, hbb2, decide_true, decide_false]; refine hk _ _ ?_; clear hk k) | refine ono rfl ?_ | ((first | refine osplitG rfl (fun h => ?_) (fun h => ?_) | refine osplitB rfl (fun h => ?_) (fun h => ?_)) <;> (fail_if_success (simp only [eq_self, reduceCtorEq] at h))) | refine onx ?_ | refine onb ?_ | refine sreg ?_ | refine qT rfl ?_ | refine qF rfl ?_ | refine scondT rfl ?_ | refine scondF rfl ?_ | refine ocondP rfl (fun h => ?_) (fun h => ?_) | refine ocondB rfl (fun h => ?_) (fun h => ?_) | refine scondP rfl (fun h => ?_) (fun h => ?_) | refine scond rfl (fun h => ?_) (fun h => ?_) | refine oskip ?_ | refine oskipb ?_ | refine oret ?_ | refine sem_ret ?_ | refine sem_seq ?_ | refine sreg1 ?_)
                ((refine sem_mgo 7 hmix (by kernel_rfl) ?_; simp only [nt]); (repeat' (first | ((first | apply mop | apply mop0); (case hg => rfl); (case hq => rfl); intro k hk; simp (disch := omega) only [ev0, sl_cells, simprocAttr, slOf, Spot.cs, Stp.cs, hsp, hkk, decide_false]; refine hk _ _ rfl ?_; clear hk k) | (apply mno; (case hg => rfl)) | (apply mbox; (case hx => (simp only [wv, simprocAttr] <;> rfl)); (case hg => rfl); (case hall => rfl); (case hr => rfl); simp only [nm, Nat.reduceAdd]) | (apply mbldS; (case hb => (simp (disch := omega) only [ev0, sl_cells, simprocAttr] <;> rfl)); (case hg => rfl); (case hr => rfl); simp only [nm, Nat.reduceAdd]) | ((first | (apply msto (q := 0); (case hq => rfl)) | (apply msto (q := 1); (case hq => rfl)) | (apply msto (q := 2); (case hq => rfl)) | (apply msto (q := 3); (case hq => rfl))); (case hx => (simp only [wv, simprocAttr] <;> rfl)); (case haddr => (simp only [wv, simprocAttr] <;> rfl)); (case hg => rfl); (case hl1 => rfl); (case hl2 => rfl); (case hok => rfl); (case hr => rfl); simp only [nm, Nat.reduceAdd]) | (apply mnil; simp only [SlotR.fin, ns]) | (refine msplit rfl (fun h => ?_) (fun h => ?_) <;> simp only [h] <;> (try simp only [nb] at h)))) <;> (repeat' (first | ((first | refine o1 rfl ?_ | refine o0 rfl ?_); intro k hk; simp (disch := omega) only [ev0, sl_cells, simprocAttr, slOf, Spot.cs, Stp.cs, hsp, hkk, decide_false]; refine hk _ _ ?_; clear hk k) | refine ono rfl ?_ | ((first | refine osplitG rfl (fun h => ?_) (fun h => ?_) | refine osplitB rfl (fun h => ?_) (fun h => ?_)) <;> (fail_if_success (simp only [eq_self, reduceCtorEq] at h))) | refine onx ?_ | refine onb ?_ | refine sreg ?_ | refine qT rfl ?_ | refine qF rfl ?_ | refine scondT rfl ?_ | refine scondF rfl ?_ | refine ocondP rfl (fun h => ?_) (fun h => ?_) | refine ocondB rfl (fun h => ?_) (fun h => ?_) | refine scondP rfl (fun h => ?_) (fun h => ?_) | refine scond rfl (fun h => ?_) (fun h => ?_) | refine oskip ?_ | refine oskipb ?_ | refine oret ?_ | refine sem_ret ?_ | refine sem_seq ?_ | refine sreg1 ?_)))
                refine sem_skip ?_
                simp only [blockQ]
                refine (lnext (b, c) ⟨by simp only; omega, by simp only; omega, fun q => w3, fun q => by
                  simp only at q
                  omega⟩ (by simp only [hup, if_true, Bool.false_eq_true, if_false]; omega) ?_)
                rw [hcs]
                (refine Le.same ?_; simp only [List.forall_mem_cons, List.forall_mem_nil, getE, selE, Nat.reduceBEq, List.not_mem_nil, false_implies, implies_true, and_true, true_and, and_self])
        · have hc : c = 0 := by omega
          have w4 := w4 hc
          rw [w4] at hgo
          simp only [Option.bind_some] at hgo
          generalize hsp : riv.getD b default = sp at *
          rw [hbk sp] at hgo
          (refine sem_exit ?_; change sem _ _ _ _ _)
          by_cases e1 : st.bank = 1
          · have e11 : (st.bank = 1) = True := eq_true e1
            cases hlf : sp.left
            · simp [hlf, e1] at hgo
              rw [hno hgo]
              repeat' (first | ((first | refine o1 rfl ?_ | refine o0 rfl ?_); intro k hk; simp (disch := omega) only [ev0, sl_cells, simprocAttr, slOf, Stp.cs, Spot.cs, hsp, e11, hlf, decide_true, Bool.not_false, goesI]; refine hk _ _ ?_; clear hk k) | refine ono rfl ?_ | ((first | refine osplitG rfl (fun h => ?_) (fun h => ?_) | refine osplitB rfl (fun h => ?_) (fun h => ?_)) <;> (fail_if_success (simp only [eq_self, reduceCtorEq] at h))) | refine onx ?_ | refine onb ?_ | refine sreg ?_ | refine qT rfl ?_ | refine qF rfl ?_ | refine scondT rfl ?_ | refine scondF rfl ?_ | refine ocondP rfl (fun h => ?_) (fun h => ?_) | refine ocondB rfl (fun h => ?_) (fun h => ?_) | refine scondP rfl (fun h => ?_) (fun h => ?_) | refine scond rfl (fun h => ?_) (fun h => ?_) | refine oskip ?_ | refine oskipb ?_ | refine oret ?_ | refine sem_ret ?_ | refine sem_seq ?_ | refine sreg1 ?_)
              exact ⟨_, rfl, _, rfl, tree_eq rfl rfl⟩
            · have e22 : (st.bank = 2) = False := eq_false (by omega)
              simp [hlf, e1] at hgo
              repeat' (first | ((first | refine o1 rfl ?_ | refine o0 rfl ?_); intro k hk; simp (disch := omega) only [ev0, sl_cells, simprocAttr, slOf, Stp.cs, Spot.cs, hsp, e11, e22, hlf, decide_true, decide_false, Bool.not_true]; refine hk _ _ ?_; clear hk k) | refine ono rfl ?_ | ((first | refine osplitG rfl (fun h => ?_) (fun h => ?_) | refine osplitB rfl (fun h => ?_) (fun h => ?_)) <;> (fail_if_success (simp only [eq_self, reduceCtorEq] at h))) | refine onx ?_ | refine onb ?_ | refine sreg ?_ | refine qT rfl ?_ | refine qF rfl ?_ | refine scondT rfl ?_ | refine scondF rfl ?_ | refine ocondP rfl (fun h => ?_) (fun h => ?_) | refine ocondB rfl (fun h => ?_) (fun h => ?_) | refine scondP rfl (fun h => ?_) (fun h => ?_) | refine scond rfl (fun h => ?_) (fun h => ?_) | refine oskip ?_ | refine oskipb ?_ | refine oret ?_ | refine sem_ret ?_ | refine sem_seq ?_ | refine sreg1 ?_)
              refine onil (lnext (k + 1, b) ⟨by simp only; omega, by simp only; rw [hnx, hgo]⟩ (by simp only; omega) ?_)
              (refine Le.drop ?_ rfl (by simp) rfl (by simp only [refM, refO, List.all_cons, List.all_nil, Bool.and_true, Bool.true_and, ]; first | done | rfl) ; simp only [List.forall_mem_cons, List.forall_mem_nil, getE, selE, Nat.reduceBEq, List.not_mem_nil, false_implies, implies_true, and_true, true_and, and_self])
              all_goals simp [slOf]
          · have e11 : (st.bank = 1) = False := eq_false e1
            by_cases e2 : st.bank = 2
            · have e22 : (st.bank = 2) = True := eq_true e2
              cases hlf : sp.left
              · simp [hlf, e1] at hgo
                repeat' (first | ((first | refine o1 rfl ?_ | refine o0 rfl ?_); intro k hk; simp (disch := omega) only [ev0, sl_cells, simprocAttr, slOf, Stp.cs, Spot.cs, hsp, e11, e22, hlf, decide_true, decide_false, Bool.not_true]; refine hk _ _ ?_; clear hk k) | refine ono rfl ?_ | ((first | refine osplitG rfl (fun h => ?_) (fun h => ?_) | refine osplitB rfl (fun h => ?_) (fun h => ?_)) <;> (fail_if_success (simp only [eq_self, reduceCtorEq] at h))) | refine onx ?_ | refine onb ?_ | refine sreg ?_ | refine qT rfl ?_ | refine qF rfl ?_ | refine scondT rfl ?_ | refine scondF rfl ?_ | refine ocondP rfl (fun h => ?_) (fun h => ?_) | refine ocondB rfl (fun h => ?_) (fun h => ?_) | refine scondP rfl (fun h => ?_) (fun h => ?_) | refine scond rfl (fun h => ?_) (fun h => ?_) | refine oskip ?_ | refine oskipb ?_ | refine oret ?_ | refine sem_ret ?_ | refine sem_seq ?_ | refine sreg1 ?_)
                refine onil (lnext (k + 1, b) ⟨by simp only; omega, by simp only; rw [hnx, hgo]⟩ (by simp only; omega) ?_)
                (refine Le.drop ?_ rfl (by simp) rfl (by simp only [refM, refO, List.all_cons, List.all_nil, Bool.and_true, Bool.true_and, ]; first | done | rfl) ; simp only [List.forall_mem_cons, List.forall_mem_nil, getE, selE, Nat.reduceBEq, List.not_mem_nil, false_implies, implies_true, and_true, true_and, and_self])
                all_goals simp [slOf]
              · simp [hlf, e2] at hgo
                rw [hno hgo]
                repeat' (first | ((first | refine o1 rfl ?_ | refine o0 rfl ?_); intro k hk; simp (disch := omega) only [ev0, sl_cells, simprocAttr, slOf, Stp.cs, Spot.cs, hsp, e11, e22, hlf, decide_true, decide_false, Bool.not_false, goesI]; refine hk _ _ ?_; clear hk k) | refine ono rfl ?_ | ((first | refine osplitG rfl (fun h => ?_) (fun h => ?_) | refine osplitB rfl (fun h => ?_) (fun h => ?_)) <;> (fail_if_success (simp only [eq_self, reduceCtorEq] at h))) | refine onx ?_ | refine onb ?_ | refine sreg ?_ | refine qT rfl ?_ | refine qF rfl ?_ | refine scondT rfl ?_ | refine scondF rfl ?_ | refine ocondP rfl (fun h => ?_) (fun h => ?_) | refine ocondB rfl (fun h => ?_) (fun h => ?_) | refine scondP rfl (fun h => ?_) (fun h => ?_) | refine scond rfl (fun h => ?_) (fun h => ?_) | refine oskip ?_ | refine oskipb ?_ | refine oret ?_ | refine sem_ret ?_ | refine sem_seq ?_ | refine sreg1 ?_)
                exact ⟨_, rfl, _, rfl, tree_eq rfl rfl⟩
            · have e22 : (st.bank = 2) = False := eq_false e2
              simp [e1, e2] at hgo
              repeat' (first | ((first | refine o1 rfl ?_ | refine o0 rfl ?_); intro k hk; simp (disch := omega) only [ev0, sl_cells, simprocAttr, slOf, Stp.cs, Spot.cs, hsp, e11, e22, decide_true, decide_false, Bool.not_true]; refine hk _ _ ?_; clear hk k) | refine ono rfl ?_ | ((first | refine osplitG rfl (fun h => ?_) (fun h => ?_) | refine osplitB rfl (fun h => ?_) (fun h => ?_)) <;> (fail_if_success (simp only [eq_self, reduceCtorEq] at h))) | refine onx ?_ | refine onb ?_ | refine sreg ?_ | refine qT rfl ?_ | refine qF rfl ?_ | refine scondT rfl ?_ | refine scondF rfl ?_ | refine ocondP rfl (fun h => ?_) (fun h => ?_) | refine ocondB rfl (fun h => ?_) (fun h => ?_) | refine scondP rfl (fun h => ?_) (fun h => ?_) | refine scond rfl (fun h => ?_) (fun h => ?_) | refine oskip ?_ | refine oskipb ?_ | refine oret ?_ | refine sem_ret ?_ | refine sem_seq ?_ | refine sreg1 ?_)
              refine onil (lnext (k + 1, b) ⟨by simp only; omega, by simp only; rw [hnx, hgo]⟩ (by simp only; omega) ?_)
              (refine Le.drop ?_ rfl (by simp) rfl (by simp only [refM, refO, List.all_cons, List.all_nil, Bool.and_true, Bool.true_and, ]; first | done | rfl) ; simp only [List.forall_mem_cons, List.forall_mem_nil, getE, selE, Nat.reduceBEq, List.not_mem_nil, false_implies, implies_true, and_true, true_and, and_self])
              all_goals simp [slOf]
    · have hk' : k = steps.length := by omega
      subst hk'
      rw [h2]
      (refine sem_exit ?_; change sem _ _ _ _ _)
      repeat' (first | ((first | refine o1 rfl ?_ | refine o0 rfl ?_); intro k hk; simp (disch := omega) only [ev0, sl_cells, simprocAttr, goesI]; refine hk _ _ ?_; clear hk k) | refine ono rfl ?_ | ((first | refine osplitG rfl (fun h => ?_) (fun h => ?_) | refine osplitB rfl (fun h => ?_) (fun h => ?_)) <;> (fail_if_success (simp only [eq_self, reduceCtorEq] at h))) | refine onx ?_ | refine onb ?_ | refine sreg ?_ | refine qT rfl ?_ | refine qF rfl ?_ | refine scondT rfl ?_ | refine scondF rfl ?_ | refine ocondP rfl (fun h => ?_) (fun h => ?_) | refine ocondB rfl (fun h => ?_) (fun h => ?_) | refine scondP rfl (fun h => ?_) (fun h => ?_) | refine scond rfl (fun h => ?_) (fun h => ?_) | refine oskip ?_ | refine oskipb ?_ | refine oret ?_ | refine sem_ret ?_ | refine sem_seq ?_ | refine sreg1 ?_)
      exact ⟨_, rfl, _, rfl, tree_eq rfl rfl⟩
end Go.Proofs.YtcllnnjeaidppaaGreatDoor
