/- All places that a report allows: the program. -/
import Derived.Test.YtcllnnjeaidppaaGreatDoorPF3
set_option linter.unusedVariables false
set_option linter.unusedSimpArgs false
set_option linter.unusedSectionVars false
set_option maxRecDepth 8000
set_option maxHeartbeats 4000000
namespace Go.Tk
open Go Go.Av
/-- What speak.Find answers. -/
def placesV (riv : List Spot) (kind : Int) (steps : List Stp) : AV :=
  if 20 < riv.length ∨ 5 < steps.length then .tup [.nilsl, I 3] else
  if ¬ ((1 ≤ kind ∧ kind ≤ 4) ∧ (∀ s ∈ riv, s.ok) ∧ ∀ s ∈ steps, s.ok) then .tup [.nilsl, I 2] else
  if nowTo riv kind steps steps.length = [] then .tup [.nilsl, I 5] else .tup [slOf intCs (sortA ((nowTo riv kind steps steps.length).map fun n : Nat => (n : Int))), I 0]
theorem any_not {α : Type} {l : List α} {p : α → Prop} [DecidablePred p] : (l.any fun x => !decide (p x)) = !decide (∀ x ∈ l, p x) := by
  rw [Bool.eq_iff_iff]
  simp
theorem natCs_map (l : List Nat) : rowL natCs l = rowL intCs (l.map fun n : Nat => (n : Int)) := by simp [rowL, natCs, intCs]
end Go.Tk
namespace Go.Proofs.YtcllnnjeaidppaaGreatDoor
open Go Go.Av Go.Tk
attribute [local irreducible] Holds sem semL ACalls FnIs
variable {G : World → Prop} (hG : ∀ w w', G w → RowKit.Below w.heap.size w w' → G w')
include hG
theorem speak_Find (riv : List Spot) (kind : Int) (steps : List Stp) (hl : riv.length ≤ 100000) (hls : steps.length ≤ 100000) : Holds Tryz.prog G F.speak_Find [slOf Spot.cs riv, I kind, slOf Stp.cs steps] (placesV riv kind steps) := by
  have hin := speak_in hG kind 1 4
  have hsp := spots_any hG riv hl
  have hst := steps_any hG steps hls
  rw [any_not] at hsp hst
  by_cases hlong : 20 < riv.length ∨ 5 < steps.length
  · have hr : placesV riv kind steps = .tup [.nilsl, I 3] := by unfold placesV; rw [if_pos hlong]
    rw [hr]
    (refine holds_of_sem hG fn_speak_Find (by simp) fun w0 S0 hG0 D0 => ?_; unfold c_speak_Find cval enterEnv; simp only [List.zipIdx_cons, List.zipIdx_nil, List.map_cons, List.map_nil, Nat.zero_add, Nat.reduceAdd])
    repeat' (first | ((first | refine o1 rfl ?_ | refine o0 rfl ?_); intro k hk; simp (disch := omega) only [ev0, sl_cells, simprocAttr, slOf]; refine hk _ _ ?_; clear hk k) | refine ono rfl ?_ | ((first | refine osplitG rfl (fun h => ?_) (fun h => ?_) | refine osplitB rfl (fun h => ?_) (fun h => ?_)) <;> (fail_if_success (simp only [eq_self, reduceCtorEq] at h))) | refine onx ?_ | refine onb ?_ | refine sreg ?_ | refine qT rfl ?_ | refine qF rfl ?_ | refine scondT rfl ?_ | refine scondF rfl ?_ | refine ocondP rfl (fun h => ?_) (fun h => ?_) | refine ocondB rfl (fun h => ?_) (fun h => ?_) | refine scondP rfl (fun h => ?_) (fun h => ?_) | refine scond rfl (fun h => ?_) (fun h => ?_) | refine oskip ?_ | refine oskipb ?_ | refine oret ?_ | refine sem_ret ?_ | refine sem_seq ?_ | refine sreg1 ?_)
    all_goals first | (exfalso; omega) | exact ⟨_, rfl, _, rfl, tree_eq rfl rfl⟩
  · by_cases hok : (1 ≤ kind ∧ kind ≤ 4) ∧ (∀ s ∈ riv, s.ok) ∧ ∀ s ∈ steps, s.ok
    rotate_left
    · have hr : placesV riv kind steps = .tup [.nilsl, I 2] := by unfold placesV; rw [if_neg hlong, if_pos hok]
      rw [hr]
      have hd : (decide (1 ≤ kind ∧ kind ≤ 4) = false) ∨ (decide (1 ≤ kind ∧ kind ≤ 4) = true ∧ decide (∀ s ∈ riv, s.ok) = false) ∨ (decide (1 ≤ kind ∧ kind ≤ 4) = true ∧ decide (∀ s ∈ riv, s.ok) = true ∧ decide (∀ s ∈ steps, s.ok) = false) := by
        simp only [decide_eq_true_eq, decide_eq_false_iff_not]
        by_cases a : 1 ≤ kind ∧ kind ≤ 4
        · by_cases b : ∀ s ∈ riv, s.ok
          · exact .inr (.inr ⟨a, b, fun c => hok ⟨a, b, c⟩⟩)
          · exact .inr (.inl ⟨a, b⟩)
        · exact .inl a
      have h1 : (20 < (riv.length : Int)) = False := eq_false (by omega)
      have h2 : (5 < (steps.length : Int)) = False := eq_false (by omega)
      rcases hd with e1 | ⟨e1, e2⟩ | ⟨e1, e2, e3⟩
      · rw [e1] at hin
        (refine holds_of_sem hG fn_speak_Find (by simp) fun w0 S0 hG0 D0 => ?_; unfold c_speak_Find cval enterEnv; simp only [List.zipIdx_cons, List.zipIdx_nil, List.map_cons, List.map_nil, Nat.zero_add, Nat.reduceAdd])
        repeat' (first | ((first | refine o1 rfl ?_ | refine o0 rfl ?_); intro k hk; simp (disch := omega) only [ev0, sl_cells, simprocAttr, slOf, h1, h2, decide_false, Bool.not_false]; refine hk _ _ ?_; clear hk k) | refine ono rfl ?_ | (apply ocall; (case he => (simp only [ev0, sl_cells, simprocAttr] <;> rfl)); (case hc => first | exact hin | exact hsp | exact hst); (case ht => rfl); (case hg => rfl)) | ((first | refine osplitG rfl (fun h => ?_) (fun h => ?_) | refine osplitB rfl (fun h => ?_) (fun h => ?_)) <;> (fail_if_success (simp only [eq_self, reduceCtorEq] at h))) | refine onx ?_ | refine onb ?_ | refine sreg ?_ | refine qT rfl ?_ | refine qF rfl ?_ | refine scondT rfl ?_ | refine scondF rfl ?_ | refine ocondP rfl (fun h => ?_) (fun h => ?_) | refine ocondB rfl (fun h => ?_) (fun h => ?_) | refine scondP rfl (fun h => ?_) (fun h => ?_) | refine scond rfl (fun h => ?_) (fun h => ?_) | refine oskip ?_ | refine oskipb ?_ | refine oret ?_ | refine sem_ret ?_ | refine sem_seq ?_ | refine sreg1 ?_)
        exact ⟨_, rfl, _, rfl, tree_eq rfl rfl⟩
      · rw [e1] at hin
        rw [e2] at hsp
        (refine holds_of_sem hG fn_speak_Find (by simp) fun w0 S0 hG0 D0 => ?_; unfold c_speak_Find cval enterEnv; simp only [List.zipIdx_cons, List.zipIdx_nil, List.map_cons, List.map_nil, Nat.zero_add, Nat.reduceAdd])
        repeat' (first | ((first | refine o1 rfl ?_ | refine o0 rfl ?_); intro k hk; simp (disch := omega) only [ev0, sl_cells, simprocAttr, slOf, h1, h2, decide_false, Bool.not_false, Bool.not_true]; refine hk _ _ ?_; clear hk k) | refine ono rfl ?_ | (apply ocall; (case he => (simp only [ev0, sl_cells, simprocAttr] <;> rfl)); (case hc => first | exact hin | exact hsp | exact hst); (case ht => rfl); (case hg => rfl)) | ((first | refine osplitG rfl (fun h => ?_) (fun h => ?_) | refine osplitB rfl (fun h => ?_) (fun h => ?_)) <;> (fail_if_success (simp only [eq_self, reduceCtorEq] at h))) | refine onx ?_ | refine onb ?_ | refine sreg ?_ | refine qT rfl ?_ | refine qF rfl ?_ | refine scondT rfl ?_ | refine scondF rfl ?_ | refine ocondP rfl (fun h => ?_) (fun h => ?_) | refine ocondB rfl (fun h => ?_) (fun h => ?_) | refine scondP rfl (fun h => ?_) (fun h => ?_) | refine scond rfl (fun h => ?_) (fun h => ?_) | refine oskip ?_ | refine oskipb ?_ | refine oret ?_ | refine sem_ret ?_ | refine sem_seq ?_ | refine sreg1 ?_)
        exact ⟨_, rfl, _, rfl, tree_eq rfl rfl⟩
      · rw [e1] at hin
        rw [e2] at hsp
        rw [e3] at hst
        (refine holds_of_sem hG fn_speak_Find (by simp) fun w0 S0 hG0 D0 => ?_; unfold c_speak_Find cval enterEnv; simp only [List.zipIdx_cons, List.zipIdx_nil, List.map_cons, List.map_nil, Nat.zero_add, Nat.reduceAdd])
        repeat' (first | ((first | refine o1 rfl ?_ | refine o0 rfl ?_); intro k hk; simp (disch := omega) only [ev0, sl_cells, simprocAttr, slOf, h1, h2, decide_false, Bool.not_false, Bool.not_true]; refine hk _ _ ?_; clear hk k) | refine ono rfl ?_ | (apply ocall; (case he => (simp only [ev0, sl_cells, simprocAttr] <;> rfl)); (case hc => first | exact hin | exact hsp | exact hst); (case ht => rfl); (case hg => rfl)) | ((first | refine osplitG rfl (fun h => ?_) (fun h => ?_) | refine osplitB rfl (fun h => ?_) (fun h => ?_)) <;> (fail_if_success (simp only [eq_self, reduceCtorEq] at h))) | refine onx ?_ | refine onb ?_ | refine sreg ?_ | refine qT rfl ?_ | refine qF rfl ?_ | refine scondT rfl ?_ | refine scondF rfl ?_ | refine ocondP rfl (fun h => ?_) (fun h => ?_) | refine ocondB rfl (fun h => ?_) (fun h => ?_) | refine scondP rfl (fun h => ?_) (fun h => ?_) | refine scond rfl (fun h => ?_) (fun h => ?_) | refine oskip ?_ | refine oskipb ?_ | refine oret ?_ | refine sem_ret ?_ | refine sem_seq ?_ | refine sreg1 ?_)
        exact ⟨_, rfl, _, rfl, tree_eq rfl rfl⟩
    · obtain ⟨z1, z2, z3⟩ := hok
      have h1 : (20 < (riv.length : Int)) = False := eq_false (by omega)
      have h2 : (5 < (steps.length : Int)) = False := eq_false (by omega)
      rw [decide_eq_true z1] at hin
      rw [decide_eq_true z2] at hsp
      rw [decide_eq_true z3] at hst
      have hr : placesV riv kind steps = if nowTo riv kind steps steps.length = [] then .tup [.nilsl, I 5] else .tup [slOf intCs (sortA ((nowTo riv kind steps steps.length).map fun n : Nat => (n : Int))), I 0] := by
        unfold placesV; rw [if_neg hlong, if_neg (fun q => q ⟨z1, z2, z3⟩)]
      generalize placesV riv kind steps = res at *
      (refine holds_of_sem hG fn_speak_Find (by simp) fun w0 S0 hG0 D0 => ?_; unfold c_speak_Find cval enterEnv; simp only [List.zipIdx_cons, List.zipIdx_nil, List.map_cons, List.map_nil, Nat.zero_add, Nat.reduceAdd])
      repeat' (first | ((first | refine o1 rfl ?_ | refine o0 rfl ?_); intro k hk; simp (disch := omega) only [ev0, sl_cells, simprocAttr, slOf, h1, h2, decide_false, Bool.not_false, Bool.not_true]; refine hk _ _ ?_; clear hk k) | refine ono rfl ?_ | (apply ocall; (case he => (simp only [ev0, sl_cells, simprocAttr] <;> rfl)); (case hc => first | exact hin | exact hsp | exact hst); (case ht => rfl); (case hg => rfl)) | ((first | refine osplitG rfl (fun h => ?_) (fun h => ?_) | refine osplitB rfl (fun h => ?_) (fun h => ?_)) <;> (fail_if_success (simp only [eq_self, reduceCtorEq] at h))) | refine onx ?_ | refine onb ?_ | refine sreg ?_ | refine qT rfl ?_ | refine qF rfl ?_ | refine scondT rfl ?_ | refine scondF rfl ?_ | refine ocondP rfl (fun h => ?_) (fun h => ?_) | refine ocondB rfl (fun h => ?_) (fun h => ?_) | refine scondP rfl (fun h => ?_) (fun h => ?_) | refine scond rfl (fun h => ?_) (fun h => ?_) | refine oskip ?_ | refine oskipb ?_ | refine oret ?_ | refine sem_ret ?_ | refine sem_seq ?_ | refine sreg1 ?_)
      refine sem_block ?_
      (refine sem_ghost 9 3 1 rfl ?_; simp only [List.length_cons, List.length_nil, Nat.reduceAdd, Nat.zero_add, List.cons_append, List.nil_append])
      
      refine sem_loop (α := Nat) (fun i => ⟨[(1, I kind), (2, slOf Stp.cs steps), (8, .ptr 0 0 1 0 0), (9, .hsl 1 (kindTo riv kind i).length 1 (kindTo riv kind i).length), (40, slOf Spot.cs riv), (41, I riv.length), (42, I i)], [.row 141 0 1 [[slOf Spot.cs riv]], .row 3 (kindTo riv kind i).length 1 (rowL natCs (kindTo riv kind i))]⟩) (fun i => i ≤ riv.length) (fun i => riv.length - i) 0 (Nat.zero_le _) ?_ ?_
      · (refine Le.same ?_; simp only [List.forall_mem_cons, List.forall_mem_nil, getE, selE, Nat.reduceBEq, List.not_mem_nil, false_implies, implies_true, and_true, true_and, and_self])
        simp [slOf, kindTo, rowL]
      · intro i hi
        have hkl := spots_le (kindTo_ok (kind := kind) hi)
        have hks := kindTo_succ (riv := riv) (kind := kind) (i := i)
        repeat' (first | ((first | refine o1 rfl ?_ | refine o0 rfl ?_); intro k hk; simp (disch := omega) only [ev0, sl_cells, simprocAttr, slOf]; refine hk _ _ ?_; clear hk k) | refine ono rfl ?_ | ((first | refine osplitG rfl (fun h => ?_) (fun h => ?_) | refine osplitB rfl (fun h => ?_) (fun h => ?_)) <;> (fail_if_success (simp only [eq_self, reduceCtorEq] at h))) | refine onx ?_ | refine onb ?_ | refine sreg ?_ | refine qT rfl ?_ | refine qF rfl ?_ | refine scondT rfl ?_ | refine scondF rfl ?_ | refine ocondP rfl (fun h => ?_) (fun h => ?_) | refine ocondB rfl (fun h => ?_) (fun h => ?_) | refine scondP rfl (fun h => ?_) (fun h => ?_) | refine scond rfl (fun h => ?_) (fun h => ?_) | refine oskip ?_ | refine oskipb ?_ | refine oret ?_ | refine sem_ret ?_ | refine sem_seq ?_ | refine sreg1 ?_)
        · have hi' : i < riv.length := by omega
          refine sem_block ?_
          generalize hsp : riv.getD i default = sp at *
          by_cases hk : sp.kind = kind
          · have hkk : (sp.kind = kind) = True := eq_true hk
            rw [if_pos hk] at hks
            have e1 := rowL_take (enc := natCs) (l := kindTo riv kind i)
            repeat' (first | ((first | refine o1 rfl ?_ | refine o0 rfl ?_); intro k hk; simp (disch := omega) only [ev0, sl_cells, simprocAttr, slOf, Spot.cs, hsp, hkk, decide_true, e1]; refine hk _ _ ?_; clear hk k) | refine ono rfl ?_ | ((first | refine osplitG rfl (fun h => ?_) (fun h => ?_) | refine osplitB rfl (fun h => ?_) (fun h => ?_)) <;> (fail_if_success (simp only [eq_self, reduceCtorEq] at h))) | refine onx ?_ | refine onb ?_ | refine sreg ?_ | refine qT rfl ?_ | refine qF rfl ?_ | refine scondT rfl ?_ | refine scondF rfl ?_ | refine ocondP rfl (fun h => ?_) (fun h => ?_) | refine ocondB rfl (fun h => ?_) (fun h => ?_) | refine scondP rfl (fun h => ?_) (fun h => ?_) | refine scond rfl (fun h => ?_) (fun h => ?_) | refine oskip ?_ | refine oskipb ?_ | refine oret ?_ | refine sem_ret ?_ | refine sem_seq ?_ | refine sreg1 ?_)
            refine onil (lnext (i + 1) (by omega) (by omega) ?_)
            rw [show [[AV.int .i64 (i : Int)]] = [natCs i] from rfl, rowL_snoc, hks, List.length_append]
            (refine Le.drop ?_ rfl (by simp) rfl (by simp only [refM, refO, List.all_cons, List.all_nil, Bool.and_true, Bool.true_and, rowL_all (enc := natCs) (fun _ _ => rfl)]; first | done | rfl) ; simp only [List.forall_mem_cons, List.forall_mem_nil, getE, selE, Nat.reduceBEq, List.not_mem_nil, false_implies, implies_true, and_true, true_and, and_self])
            simp [slOf]
          · have hkk : (sp.kind = kind) = False := eq_false hk
            rw [if_neg hk] at hks
            repeat' (first | ((first | refine o1 rfl ?_ | refine o0 rfl ?_); intro k hk; simp (disch := omega) only [ev0, sl_cells, simprocAttr, slOf, Spot.cs, hsp, hkk, decide_false]; refine hk _ _ ?_; clear hk k) | refine ono rfl ?_ | ((first | refine osplitG rfl (fun h => ?_) (fun h => ?_) | refine osplitB rfl (fun h => ?_) (fun h => ?_)) <;> (fail_if_success (simp only [eq_self, reduceCtorEq] at h))) | refine onx ?_ | refine onb ?_ | refine sreg ?_ | refine qT rfl ?_ | refine qF rfl ?_ | refine scondT rfl ?_ | refine scondF rfl ?_ | refine ocondP rfl (fun h => ?_) (fun h => ?_) | refine ocondB rfl (fun h => ?_) (fun h => ?_) | refine scondP rfl (fun h => ?_) (fun h => ?_) | refine scond rfl (fun h => ?_) (fun h => ?_) | refine oskip ?_ | refine oskipb ?_ | refine oret ?_ | refine sem_ret ?_ | refine sem_seq ?_ | refine sreg1 ?_)
            refine onil (lnext (i + 1) (by omega) (by omega) ?_)
            rw [hks]
            (refine Le.drop ?_ rfl (by simp) rfl (by simp only [refM, refO, List.all_cons, List.all_nil, Bool.and_true, Bool.true_and, rowL_all (enc := natCs) (fun _ _ => rfl)]; first | done | rfl) ; simp only [List.forall_mem_cons, List.forall_mem_nil, getE, selE, Nat.reduceBEq, List.not_mem_nil, false_implies, implies_true, and_true, true_and, and_self])
            simp [slOf]
        · have hi' : i = riv.length := by omega
          subst hi'
          have hk0 := kindTo_ok (kind := kind) (Nat.le_refl riv.length)
          have hn0 : kindTo riv kind riv.length = nowTo riv kind steps 0 := by simp [nowTo]
          rw [hn0] at hk0 hkl ⊢
          (refine sem_exit ?_; change sem _ _ _ _ _)
          repeat' (first | ((first | refine o1 rfl ?_ | refine o0 rfl ?_); intro k hk; simp (disch := omega) only [ev0, sl_cells, simprocAttr, slOf]; refine hk _ _ ?_; clear hk k) | refine ono rfl ?_ | ((first | refine osplitG rfl (fun h => ?_) (fun h => ?_) | refine osplitB rfl (fun h => ?_) (fun h => ?_)) <;> (fail_if_success (simp only [eq_self, reduceCtorEq] at h))) | refine onx ?_ | refine onb ?_ | refine sreg ?_ | refine qT rfl ?_ | refine qF rfl ?_ | refine scondT rfl ?_ | refine scondF rfl ?_ | refine ocondP rfl (fun h => ?_) (fun h => ?_) | refine ocondB rfl (fun h => ?_) (fun h => ?_) | refine scondP rfl (fun h => ?_) (fun h => ?_) | refine scond rfl (fun h => ?_) (fun h => ?_) | refine oskip ?_ | refine oskipb ?_ | refine oret ?_ | refine sem_ret ?_ | refine sem_seq ?_ | refine sreg1 ?_)
          refine sem_block ?_
          
          refine sem_loop (α := Nat × Nat) (fun x => ⟨[(8, .ptr 0 0 1 0 0), (9, .hsl 1 x.2 1 (nowTo riv kind steps x.1).length), (56, slOf Stp.cs steps), (57, I steps.length), (58, I x.1)], [.row 141 0 1 [[slOf Spot.cs riv]], .row 3 x.2 1 (rowL natCs (nowTo riv kind steps x.1))]⟩) (fun x => x.1 ≤ steps.length) (fun x => steps.length - x.1) (0, (nowTo riv kind steps 0).length) (Nat.zero_le _) ?_ ?_
          · (refine Le.same ?_; simp only [List.forall_mem_cons, List.forall_mem_nil, getE, selE, Nat.reduceBEq, List.not_mem_nil, false_implies, implies_true, and_true, true_and, and_self])
            simp [slOf]
          · rintro ⟨k, g⟩ hk
            simp only at hk
            have hnk := nowTo_ok (riv := riv) (kind := kind) hk
            have hnl := spots_le hnk
            have hsk := nowTo_succ (riv := riv) (kind := kind) (steps := steps) (k := k)
            repeat' (first | ((first | refine o1 rfl ?_ | refine o0 rfl ?_); intro k hk; simp (disch := omega) only [ev0, sl_cells, simprocAttr, slOf]; refine hk _ _ ?_; clear hk k) | refine ono rfl ?_ | ((first | refine osplitG rfl (fun h => ?_) (fun h => ?_) | refine osplitB rfl (fun h => ?_) (fun h => ?_)) <;> (fail_if_success (simp only [eq_self, reduceCtorEq] at h))) | refine onx ?_ | refine onb ?_ | refine sreg ?_ | refine qT rfl ?_ | refine qF rfl ?_ | refine scondT rfl ?_ | refine scondF rfl ?_ | refine ocondP rfl (fun h => ?_) (fun h => ?_) | refine ocondB rfl (fun h => ?_) (fun h => ?_) | refine scondP rfl (fun h => ?_) (fun h => ?_) | refine scond rfl (fun h => ?_) (fun h => ?_) | refine oskip ?_ | refine oskipb ?_ | refine oret ?_ | refine sem_ret ?_ | refine sem_seq ?_ | refine sreg1 ?_)
            · have hk' : k < steps.length := by omega
              have hsk := hsk hk'
              have hso := z3 _ (mem_getD hk')
              refine sem_block ?_
              generalize hst2 : steps.getD k default = st at *
              generalize nowTo riv kind steps k = now at *
              repeat' (first | ((first | refine o1 rfl ?_ | refine o0 rfl ?_); intro k hk; simp (disch := omega) only [ev0, sl_cells, simprocAttr, slOf, Stp.cs, hst2]; refine hk _ _ ?_; clear hk k) | refine ono rfl ?_ | ((first | refine osplitG rfl (fun h => ?_) (fun h => ?_) | refine osplitB rfl (fun h => ?_) (fun h => ?_)) <;> (fail_if_success (simp only [eq_self, reduceCtorEq] at h))) | refine onx ?_ | refine onb ?_ | refine sreg ?_ | refine qT rfl ?_ | refine qF rfl ?_ | refine scondT rfl ?_ | refine scondF rfl ?_ | refine ocondP rfl (fun h => ?_) (fun h => ?_) | refine ocondB rfl (fun h => ?_) (fun h => ?_) | refine scondP rfl (fun h => ?_) (fun h => ?_) | refine scond rfl (fun h => ?_) (fun h => ?_) | refine oskip ?_ | refine oskipb ?_ | refine oret ?_ | refine sem_ret ?_ | refine sem_seq ?_ | refine sreg1 ?_)
              refine sem_block ?_
              (refine sem_ghost 14 3 1 rfl ?_; simp only [List.length_cons, List.length_nil, Nat.reduceAdd, Nat.zero_add, List.cons_append, List.nil_append])
              
              refine sem_loop (α := Nat) (fun i => ⟨[(8, .ptr 0 0 1 0 0), (13, .ptr 2 0 4 0 0), (14, .hsl 3 (moveTo riv st now i).length 1 (moveTo riv st now i).length), (56, slOf Stp.cs steps), (57, I steps.length), (58, I k), (62, .hsl 1 g 1 now.length), (63, I now.length), (64, I i)], [.row 141 0 1 [[slOf Spot.cs riv]], .row 3 g 1 (rowL natCs now), .row 99 0 4 [st.cs], .row 3 (moveTo riv st now i).length 1 (rowL natCs (moveTo riv st now i))]⟩) (fun i => i ≤ now.length) (fun i => now.length - i) 0 (Nat.zero_le _) ?_ ?_
              · (refine Le.same ?_; simp only [List.forall_mem_cons, List.forall_mem_nil, getE, selE, Nat.reduceBEq, List.not_mem_nil, false_implies, implies_true, and_true, true_and, and_self])
                simp [slOf, moveTo, rowL, Stp.cs]
              · intro i hi
                have hml := spots_le (moveTo_ok hnk hi (s := st))
                have hms := moveTo_succ (riv := riv) (s := st) (now := now) (i := i)
                repeat' (first | ((first | refine o1 rfl ?_ | refine o0 rfl ?_); intro k hk; simp (disch := omega) only [ev0, sl_cells, simprocAttr, slOf]; refine hk _ _ ?_; clear hk k) | refine ono rfl ?_ | ((first | refine osplitG rfl (fun h => ?_) (fun h => ?_) | refine osplitB rfl (fun h => ?_) (fun h => ?_)) <;> (fail_if_success (simp only [eq_self, reduceCtorEq] at h))) | refine onx ?_ | refine onb ?_ | refine sreg ?_ | refine qT rfl ?_ | refine qF rfl ?_ | refine scondT rfl ?_ | refine scondF rfl ?_ | refine ocondP rfl (fun h => ?_) (fun h => ?_) | refine ocondB rfl (fun h => ?_) (fun h => ?_) | refine scondP rfl (fun h => ?_) (fun h => ?_) | refine scond rfl (fun h => ?_) (fun h => ?_) | refine oskip ?_ | refine oskipb ?_ | refine oret ?_ | refine sem_ret ?_ | refine sem_seq ?_ | refine sreg1 ?_)
                · have hi' : i < now.length := by omega
                  have hms := hms hi'
                  have hfl := hnk.2 _ (mem_getD hi')
                  have hgo := fun i => goesO_lt (s := st) (i := i) hfl
                  refine sem_block ?_
                  have hrow := rowL_get (enc := natCs) hi'
                  generalize now.getD i default = f at *
                  have hstp := river_step hG riv f st hl hfl hso
                  generalize moveTo riv st now i = nx at *
                  unfold stepV at hstp
                  unfold goesO at hms hgo
                  cases hh : hitL riv st.kind (dirL riv f st) st.count with
                  | none =>
                    rw [hh] at hstp hms
                    simp only at hstp hms
                    repeat' (first | ((first | refine o1 rfl ?_ | refine o0 rfl ?_); intro k hk; simp (disch := omega) only [ev0, sl_cells, simprocAttr, slOf, Stp.cs, hrow, natCs]; refine hk _ _ ?_; clear hk k) | refine ono rfl ?_ | (apply ocall; (case he => (simp only [ev0, sl_cells, simprocAttr] <;> rfl)); (case hc => first | exact hstp); (case ht => rfl); (case hg => rfl)) | ((first | refine osplitG rfl (fun h => ?_) (fun h => ?_) | refine osplitB rfl (fun h => ?_) (fun h => ?_)) <;> (fail_if_success (simp only [eq_self, reduceCtorEq] at h))) | refine onx ?_ | refine onb ?_ | refine sreg ?_ | refine qT rfl ?_ | refine qF rfl ?_ | refine scondT rfl ?_ | refine scondF rfl ?_ | refine ocondP rfl (fun h => ?_) (fun h => ?_) | refine ocondB rfl (fun h => ?_) (fun h => ?_) | refine scondP rfl (fun h => ?_) (fun h => ?_) | refine scond rfl (fun h => ?_) (fun h => ?_) | refine oskip ?_ | refine oskipb ?_ | refine oret ?_ | refine sem_ret ?_ | refine sem_seq ?_ | refine sreg1 ?_)
                    refine onil (lnext (i + 1) (by omega) (by omega) ?_)
                    rw [hms]
                    simp only [addN]
                    (refine Le.drop ?_ rfl (by simp) rfl (by simp only [refM, refO, List.all_cons, List.all_nil, Bool.and_true, Bool.true_and, rowL_all (enc := natCs) (fun _ _ => rfl)]; first | done | rfl) ; simp only [List.forall_mem_cons, List.forall_mem_nil, getE, selE, Nat.reduceBEq, List.not_mem_nil, false_implies, implies_true, and_true, true_and, and_self])
                    simp [slOf, Stp.cs]
                  | some j =>
                    rw [hh] at hstp hms hgo
                    simp only at hstp hms hgo
                    cases hbk : bankOk st (riv.getD j default) with
                    | false =>
                      rw [hbk] at hstp hms
                      simp only [Bool.false_eq_true, if_false] at hms
                      repeat' (first | ((first | refine o1 rfl ?_ | refine o0 rfl ?_); intro k hk; simp (disch := omega) only [ev0, sl_cells, simprocAttr, slOf, Stp.cs, hrow, natCs]; refine hk _ _ ?_; clear hk k) | refine ono rfl ?_ | (apply ocall; (case he => (simp only [ev0, sl_cells, simprocAttr] <;> rfl)); (case hc => first | exact hstp); (case ht => rfl); (case hg => rfl)) | ((first | refine osplitG rfl (fun h => ?_) (fun h => ?_) | refine osplitB rfl (fun h => ?_) (fun h => ?_)) <;> (fail_if_success (simp only [eq_self, reduceCtorEq] at h))) | refine onx ?_ | refine onb ?_ | refine sreg ?_ | refine qT rfl ?_ | refine qF rfl ?_ | refine scondT rfl ?_ | refine scondF rfl ?_ | refine ocondP rfl (fun h => ?_) (fun h => ?_) | refine ocondB rfl (fun h => ?_) (fun h => ?_) | refine scondP rfl (fun h => ?_) (fun h => ?_) | refine scond rfl (fun h => ?_) (fun h => ?_) | refine oskip ?_ | refine oskipb ?_ | refine oret ?_ | refine sem_ret ?_ | refine sem_seq ?_ | refine sreg1 ?_)
                      refine onil (lnext (i + 1) (by omega) (by omega) ?_)
                      rw [hms]
                      simp only [addN]
                      (refine Le.drop ?_ rfl (by simp) rfl (by simp only [refM, refO, List.all_cons, List.all_nil, Bool.and_true, Bool.true_and, rowL_all (enc := natCs) (fun _ _ => rfl)]; first | done | rfl) ; simp only [List.forall_mem_cons, List.forall_mem_nil, getE, selE, Nat.reduceBEq, List.not_mem_nil, false_implies, implies_true, and_true, true_and, and_self])
                      simp [slOf, Stp.cs]
                    | true =>
                      rw [hbk] at hstp hms hgo
                      simp only [if_true] at hms hgo
                      have hjl := hgo j rfl
                      have hct := slices_Contains hG nx j (by omega)
                      repeat' (first | ((first | refine o1 rfl ?_ | refine o0 rfl ?_); intro k hk; simp (disch := omega) only [ev0, sl_cells, simprocAttr, slOf, Stp.cs, hrow, natCs]; refine hk _ _ ?_; clear hk k) | refine ono rfl ?_ | (apply ocall; (case he => (simp only [ev0, sl_cells, simprocAttr] <;> rfl)); (case hc => first | exact hstp); (case ht => rfl); (case hg => rfl)) | ((first | refine osplitG rfl (fun h => ?_) (fun h => ?_) | refine osplitB rfl (fun h => ?_) (fun h => ?_)) <;> (fail_if_success (simp only [eq_self, reduceCtorEq] at h))) | refine onx ?_ | refine onb ?_ | refine sreg ?_ | refine qT rfl ?_ | refine qF rfl ?_ | refine scondT rfl ?_ | refine scondF rfl ?_ | refine ocondP rfl (fun h => ?_) (fun h => ?_) | refine ocondB rfl (fun h => ?_) (fun h => ?_) | refine scondP rfl (fun h => ?_) (fun h => ?_) | refine scond rfl (fun h => ?_) (fun h => ?_) | refine oskip ?_ | refine oskipb ?_ | refine oret ?_ | refine sem_ret ?_ | refine sem_seq ?_ | refine sreg1 ?_)
                      refine olend (ts := [slOf natCs nx, I j]) hct rfl (fun i' c t qa qb => ?_) rfl rfl ?_
                      · match i', qa, qb with
                        | 0, qa, qb => simp [getE, evX, selE] at qa qb; subst qa; subst qb; exact tree_rowL rfl (fun _ => rfl) fun _ => rfl
                        | 1, qa, qb => simp [getE, evX, selE] at qa qb; subst qa; subst qb; exact .same rfl
                        | i' + 2, qa, qb => simp at qa
                      · by_cases hjn : j ∈ nx
                        · rw [decide_eq_true hjn]
                          rw [show addN nx (some j) = nx from if_pos hjn] at hms
                          repeat' (first | ((first | refine o1 rfl ?_ | refine o0 rfl ?_); intro k hk; simp (disch := omega) only [ev0, sl_cells, simprocAttr, slOf, Stp.cs, hrow, natCs, Bool.not_true]; refine hk _ _ ?_; clear hk k) | refine ono rfl ?_ | ((first | refine osplitG rfl (fun h => ?_) (fun h => ?_) | refine osplitB rfl (fun h => ?_) (fun h => ?_)) <;> (fail_if_success (simp only [eq_self, reduceCtorEq] at h))) | refine onx ?_ | refine onb ?_ | refine sreg ?_ | refine qT rfl ?_ | refine qF rfl ?_ | refine scondT rfl ?_ | refine scondF rfl ?_ | refine ocondP rfl (fun h => ?_) (fun h => ?_) | refine ocondB rfl (fun h => ?_) (fun h => ?_) | refine scondP rfl (fun h => ?_) (fun h => ?_) | refine scond rfl (fun h => ?_) (fun h => ?_) | refine oskip ?_ | refine oskipb ?_ | refine oret ?_ | refine sem_ret ?_ | refine sem_seq ?_ | refine sreg1 ?_)
                          refine onil (lnext (i + 1) (by omega) (by omega) ?_)
                          rw [hms]
                          (refine Le.drop ?_ rfl (by simp) rfl (by simp only [refM, refO, List.all_cons, List.all_nil, Bool.and_true, Bool.true_and, rowL_all (enc := natCs) (fun _ _ => rfl)]; first | done | rfl) ; simp only [List.forall_mem_cons, List.forall_mem_nil, getE, selE, Nat.reduceBEq, List.not_mem_nil, false_implies, implies_true, and_true, true_and, and_self])
                          simp [slOf, Stp.cs]
                        · rw [decide_eq_false hjn]
                          rw [show addN nx (some j) = nx ++ [j] from if_neg hjn] at hms
                          have e1 := rowL_take (enc := natCs) (l := nx)
                          repeat' (first | ((first | refine o1 rfl ?_ | refine o0 rfl ?_); intro k hk; simp (disch := omega) only [ev0, sl_cells, simprocAttr, slOf, Stp.cs, hrow, natCs, Bool.not_false, e1]; refine hk _ _ ?_; clear hk k) | refine ono rfl ?_ | ((first | refine osplitG rfl (fun h => ?_) (fun h => ?_) | refine osplitB rfl (fun h => ?_) (fun h => ?_)) <;> (fail_if_success (simp only [eq_self, reduceCtorEq] at h))) | refine onx ?_ | refine onb ?_ | refine sreg ?_ | refine qT rfl ?_ | refine qF rfl ?_ | refine scondT rfl ?_ | refine scondF rfl ?_ | refine ocondP rfl (fun h => ?_) (fun h => ?_) | refine ocondB rfl (fun h => ?_) (fun h => ?_) | refine scondP rfl (fun h => ?_) (fun h => ?_) | refine scond rfl (fun h => ?_) (fun h => ?_) | refine oskip ?_ | refine oskipb ?_ | refine oret ?_ | refine sem_ret ?_ | refine sem_seq ?_ | refine sreg1 ?_)
                          refine onil (lnext (i + 1) (by omega) (by omega) ?_)
                          rw [hms, show [[AV.int .i64 (j : Int)]] = [natCs j] from rfl, rowL_snoc, List.length_append]
                          (refine Le.drop ?_ rfl (by simp) rfl (by simp only [refM, refO, List.all_cons, List.all_nil, Bool.and_true, Bool.true_and, rowL_all (enc := natCs) (fun _ _ => rfl)]; first | done | rfl) ; simp only [List.forall_mem_cons, List.forall_mem_nil, getE, selE, Nat.reduceBEq, List.not_mem_nil, false_implies, implies_true, and_true, true_and, and_self])
                          simp [slOf, Stp.cs]
                · have hi' : i = now.length := by omega
                  subst hi'
                  rw [← hsk] at hml ⊢
                  (refine sem_exit ?_; change sem _ _ _ _ _)
                  repeat' (first | ((first | refine o1 rfl ?_ | refine o0 rfl ?_); intro k hk; simp (disch := omega) only [ev0, sl_cells, simprocAttr, slOf]; refine hk _ _ ?_; clear hk k) | refine ono rfl ?_ | ((first | refine osplitG rfl (fun h => ?_) (fun h => ?_) | refine osplitB rfl (fun h => ?_) (fun h => ?_)) <;> (fail_if_success (simp only [eq_self, reduceCtorEq] at h))) | refine onx ?_ | refine onb ?_ | refine sreg ?_ | refine qT rfl ?_ | refine qF rfl ?_ | refine scondT rfl ?_ | refine scondF rfl ?_ | refine ocondP rfl (fun h => ?_) (fun h => ?_) | refine ocondB rfl (fun h => ?_) (fun h => ?_) | refine scondP rfl (fun h => ?_) (fun h => ?_) | refine scond rfl (fun h => ?_) (fun h => ?_) | refine oskip ?_ | refine oskipb ?_ | refine oret ?_ | refine sem_ret ?_ | refine sem_seq ?_ | refine sreg1 ?_)
                  refine lnext_sel [0, 3] (k + 1, (nowTo riv kind steps (k + 1)).length) (by simp only; omega) (by simp only; omega) ?_ ?_ ?_
                  · simp [selOK, placeOK, inO, inL, inA, in_rowL (enc := natCs) (fun _ => rfl), slOf]
                  · simp [backOf, List.idxOf_cons, renO, renL, renA, ren_rowL (enc := natCs) (fun _ => rfl), slOf]
                  · simp only [List.forall_mem_cons, List.forall_mem_nil, getE, selE, Nat.reduceBEq, List.not_mem_nil, false_implies, implies_true, and_true, true_and, and_self]
                    simp [inA, renA, backOf, List.idxOf_cons, slOf]
            · have hk' : k = steps.length := by omega
              subst hk'
              have hsr := fun hne => slices_Sort (K := ⟨Tryz.prog, w0, S0, G, hG0⟩) rfl ((nowTo riv kind steps steps.length).map fun n : Nat => (n : Int)) (by simp; omega) hne 3 g
              rw [hr]
              generalize nowTo riv kind steps steps.length = now at *
              (refine sem_exit ?_; change sem _ _ _ _ _)
              refine sem_sel [1] [(9, .hsl 0 g 1 (now.map fun n : Nat => (n : Int)).length)] [.row 3 g 1 (rowL intCs (now.map fun n : Nat => (n : Int)))] ?_ ?_ ?_ ?_
              · simp [selOK, placeOK, inO, inL, inA, in_rowL (enc := natCs) (fun _ => rfl), slOf]
              · simp only [List.map_cons, List.map_nil, List.getD_cons_succ, List.getD_cons_zero, renO, natCs_map]
                rw [ren_rowL (enc := intCs) (fun _ => rfl)]
              · simp only [List.forall_mem_cons, List.forall_mem_nil, getE, selE, Nat.reduceBEq, List.not_mem_nil, false_implies, implies_true, and_true, true_and, and_self]
                simp [inA, renA, backOf, List.idxOf_cons, slOf]
              by_cases hnn : now = []
              · subst hnn
                rw [if_pos rfl]
                repeat' (first | ((first | refine o1 rfl ?_ | refine o0 rfl ?_); intro k hk; simp (disch := omega) only [ev0, sl_cells, simprocAttr, List.map_nil, List.length_nil]; refine hk _ _ ?_; clear hk k) | refine ono rfl ?_ | ((first | refine osplitG rfl (fun h => ?_) (fun h => ?_) | refine osplitB rfl (fun h => ?_) (fun h => ?_)) <;> (fail_if_success (simp only [eq_self, reduceCtorEq] at h))) | refine onx ?_ | refine onb ?_ | refine sreg ?_ | refine qT rfl ?_ | refine qF rfl ?_ | refine scondT rfl ?_ | refine scondF rfl ?_ | refine ocondP rfl (fun h => ?_) (fun h => ?_) | refine ocondB rfl (fun h => ?_) (fun h => ?_) | refine scondP rfl (fun h => ?_) (fun h => ?_) | refine scond rfl (fun h => ?_) (fun h => ?_) | refine oskip ?_ | refine oskipb ?_ | refine oret ?_ | refine sem_ret ?_ | refine sem_seq ?_ | refine sreg1 ?_)
                exact ⟨_, rfl, _, rfl, tree_eq rfl rfl⟩
              · rw [if_neg hnn]
                have hne : now.map (fun n : Nat => (n : Int)) ≠ [] := fun q => hnn (List.map_eq_nil_iff.1 q)
                have hpos : 0 < now.length := by cases now with | nil => exact absurd rfl hnn | cons => simp
                have hmlen : (now.map fun n : Nat => (n : Int)).length = now.length := List.length_map _
                have hsr := hsr hne
                generalize now.map (fun n : Nat => (n : Int)) = ml at *
                have hl0 : ((ml.length : Int) = 0) = False := eq_false (by omega)
                repeat' (first | ((first | refine o1 rfl ?_ | refine o0 rfl ?_); intro k hk; simp (disch := omega) only [ev0, sl_cells, simprocAttr, hl0, decide_false, rowL_len]; refine hk _ _ ?_; clear hk k) | refine ono rfl ?_ | ((first | refine osplitG rfl (fun h => ?_) (fun h => ?_) | refine osplitB rfl (fun h => ?_) (fun h => ?_)) <;> (fail_if_success (simp only [eq_self, reduceCtorEq] at h))) | refine onx ?_ | refine onb ?_ | refine sreg ?_ | refine qT rfl ?_ | refine qF rfl ?_ | refine scondT rfl ?_ | refine scondF rfl ?_ | refine ocondP rfl (fun h => ?_) (fun h => ?_) | refine ocondB rfl (fun h => ?_) (fun h => ?_) | refine scondP rfl (fun h => ?_) (fun h => ?_) | refine scond rfl (fun h => ?_) (fun h => ?_) | refine oskip ?_ | refine oskipb ?_ | refine oret ?_ | refine sem_ret ?_ | refine sem_seq ?_ | refine sreg1 ?_)
                refine semL_acall rfl hsr fun ae μ hae => ?_
                obtain ⟨rfl, rfl⟩ := hae
                change semL _ _ _ ⟨_, _⟩ _
                repeat' (first | ((first | refine o1 rfl ?_ | refine o0 rfl ?_); intro k hk; simp (disch := omega) only [ev0, sl_cells, simprocAttr]; refine hk _ _ ?_; clear hk k) | refine ono rfl ?_ | ((first | refine osplitG rfl (fun h => ?_) (fun h => ?_) | refine osplitB rfl (fun h => ?_) (fun h => ?_)) <;> (fail_if_success (simp only [eq_self, reduceCtorEq] at h))) | refine onx ?_ | refine onb ?_ | refine sreg ?_ | refine qT rfl ?_ | refine qF rfl ?_ | refine scondT rfl ?_ | refine scondF rfl ?_ | refine ocondP rfl (fun h => ?_) (fun h => ?_) | refine ocondB rfl (fun h => ?_) (fun h => ?_) | refine scondP rfl (fun h => ?_) (fun h => ?_) | refine scond rfl (fun h => ?_) (fun h => ?_) | refine oskip ?_ | refine oskipb ?_ | refine oret ?_ | refine sem_ret ?_ | refine sem_seq ?_ | refine sreg1 ?_)
                refine ⟨_, rfl, _, rfl, Tree.tup rfl fun i c t qa qb => ?_⟩
                match i, qa, qb with
                | 0, qa, qb =>
                  simp [getE, selE] at qa qb
                  subst qa; subst qb
                  exact tree_rowN (List.length_mergeSort ml).symm rfl (fun _ => rfl) fun _ => rfl
                | 1, qa, qb =>
                  simp [getE, selE] at qa qb
                  subst qa; subst qb
                  exact .same rfl
                | i + 2, qa, qb => simp at qa
end Go.Proofs.YtcllnnjeaidppaaGreatDoor
