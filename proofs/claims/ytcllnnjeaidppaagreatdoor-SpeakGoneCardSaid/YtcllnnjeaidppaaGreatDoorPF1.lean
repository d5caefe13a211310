/- A river: what is as defined, where a step leads. -/
import Derived.Test.YtcllnnjeaidppaaGreatDoorPYb
import Derived.Test.YtcllnnjeaidppaaGreatDoorPE
set_option linter.unusedVariables false
set_option linter.unusedSimpArgs false
set_option linter.unusedSectionVars false
set_option maxRecDepth 8000
set_option maxHeartbeats 2000000
namespace Go.Tk
open Go Go.Av
abbrev Spot.ok (s : Spot) : Prop := 1 ≤ s.kind ∧ s.kind ≤ 4
abbrev Stp.ok (s : Stp) : Prop := (1 ≤ s.count ∧ s.count ≤ 9) ∧ (1 ≤ s.kind ∧ s.kind ≤ 4) ∧ (0 ≤ s.bank ∧ s.bank ≤ 2)
def upL (n f : Nat) : List Nat := (List.range (n - (f + 1))).map fun i => f + 1 + i
def downL (f : Nat) : List Nat := (List.range f).reverse
/-- The spot at which one has met the kind so often. -/
def hitL (riv : List Spot) (k : Int) : List Nat → Int → Option Nat
  | [], _ => none
  | i :: l, c => if (riv.getD i default).kind = k then (if c = 1 then some i else hitL riv k l (c - 1)) else hitL riv k l c
def bankOk (s : Stp) (x : Spot) : Bool := decide (s.bank = 0) || (decide (s.bank = 1) == x.left)
def natCs (n : Nat) : List AV := [I n]
theorem upL_len (n f : Nat) : (upL n f).length = n - (f + 1) := by simp [upL]
theorem downL_len (f : Nat) : (downL f).length = f := by simp [downL]
theorem upL_get {n f i : Nat} (h : i < n - (f + 1)) : (upL n f).getD i default = f + 1 + i := by
  rw [getD_lt (by rw [upL_len]; exact h)]; simp [upL]
theorem downL_get {f i : Nat} (h : i < f) : (downL f).getD i default = f - 1 - i := by
  rw [getD_lt (by rw [downL_len]; exact h)]; simp [downL]
theorem upL_lt {n f i : Nat} (h : i ∈ upL n f) : i < n := by
  simp only [upL, List.mem_map, List.mem_range] at h
  obtain ⟨j, hj, rfl⟩ := h
  omega
theorem downL_lt {f i : Nat} (h : i ∈ downL f) : i < f := by simpa [downL] using h
/-- How often the kind has been met among the first ones. -/
def metC (riv : List Spot) (k : Int) (l : List Nat) : Nat := l.countP fun i => decide ((riv.getD i default).kind = k)
theorem hitL_skip {riv : List Spot} {k : Int} : ∀ {l r : List Nat} {c : Int}, (metC riv k l : Int) < c → hitL riv k (l ++ r) c = hitL riv k r (c - metC riv k l)
  | [], r, c, _ => by simp [metC]
  | i :: l, r, c, h => by
    unfold metC at h ⊢
    rw [List.countP_cons] at h ⊢
    simp only [List.cons_append, hitL]
    by_cases hk : (riv.getD i default).kind = k
    · rw [if_pos hk]
      simp only [hk, decide_true, if_true] at h ⊢
      rw [if_neg (by omega), hitL_skip (by unfold metC; omega)]
      unfold metC
      congr 1
      push_cast
      omega
    · rw [if_neg hk]
      simp only [hk, decide_false, Bool.false_eq_true, if_false, Nat.add_zero] at h ⊢
      rw [hitL_skip (by unfold metC; omega)]
      rfl
end Go.Tk
namespace Go.Proofs.YtcllnnjeaidppaaGreatDoor
open Go Go.Av Go.Tk
attribute [local irreducible] Holds sem semL ACalls FnIs
variable {G : World → Prop} (hG : ∀ w w', G w → RowKit.Below w.heap.size w w' → G w')
include hG
theorem speak_in (x lo hi : Int) : Holds Tryz.prog G F.speak_in [I x, I lo, I hi] (B (decide (lo ≤ x ∧ x ≤ hi))) := by
  (refine holds_of_sem hG fn_speak_in (by simp) fun w0 S0 hG0 D0 => ?_; unfold c_speak_in cval enterEnv; simp only [List.zipIdx_cons, List.zipIdx_nil, List.map_cons, List.map_nil, Nat.zero_add, Nat.reduceAdd])
  repeat' (first | ((first | refine o1 rfl ?_ | refine o0 rfl ?_); intro k hk; simp (disch := omega) only [ev0, sl_cells, simprocAttr]; refine hk _ _ ?_; clear hk k) | refine ono rfl ?_ | ((first | refine osplitG rfl (fun h => ?_) (fun h => ?_) | refine osplitB rfl (fun h => ?_) (fun h => ?_)) <;> (fail_if_success (simp only [eq_self, reduceCtorEq] at h))) | refine onx ?_ | refine onb ?_ | refine sreg ?_ | refine qT rfl ?_ | refine qF rfl ?_ | refine scondT rfl ?_ | refine scondF rfl ?_ | refine ocondP rfl (fun h => ?_) (fun h => ?_) | refine ocondB rfl (fun h => ?_) (fun h => ?_) | refine scondP rfl (fun h => ?_) (fun h => ?_) | refine scond rfl (fun h => ?_) (fun h => ?_) | refine oskip ?_ | refine oskipb ?_ | refine oret ?_ | refine sem_ret ?_ | refine sem_seq ?_ | refine sreg1 ?_)
  all_goals exact ⟨_, rfl, _, rfl, tree_eq rfl (by (try simp only [Bool.not_eq_true', Bool.not_eq_false', decide_eq_true_eq, decide_eq_false_iff_not] at *); simp only [getE, selE, Nat.reduceBEq]; apply congrArg AV.bool; rw [Bool.eq_iff_iff]; simp only [decide_eq_true_eq, Bool.not_eq_true', decide_eq_false_iff_not, Bool.false_eq_true, true_iff, false_iff, iff_true, iff_false, not_true_eq_false, not_false_eq_true]; omega)⟩
theorem find_1 (s : Spot) : Holds Tryz.prog G F.speak_Find_1 [.agg s.cs] (B (!decide s.ok)) := by
  have h := speak_in hG s.kind 1 4
  (refine holds_of_sem hG fn_speak_Find_1 (by simp) fun w0 S0 hG0 D0 => ?_; unfold c_speak_Find_1 cval enterEnv; simp only [List.zipIdx_cons, List.zipIdx_nil, List.map_cons, List.map_nil, Nat.zero_add, Nat.reduceAdd])
  repeat' (first | ((first | refine o1 rfl ?_ | refine o0 rfl ?_); intro k hk; simp (disch := omega) only [ev0, sl_cells, simprocAttr, Spot.cs]; refine hk _ _ ?_; clear hk k) | refine ono rfl ?_ | (apply ocall; (case he => (simp only [ev0, sl_cells, simprocAttr] <;> rfl)); (case hc => first | exact h); (case ht => rfl); (case hg => rfl)) | ((first | refine osplitG rfl (fun h => ?_) (fun h => ?_) | refine osplitB rfl (fun h => ?_) (fun h => ?_)) <;> (fail_if_success (simp only [eq_self, reduceCtorEq] at h))) | refine onx ?_ | refine onb ?_ | refine sreg ?_ | refine qT rfl ?_ | refine qF rfl ?_ | refine scondT rfl ?_ | refine scondF rfl ?_ | refine ocondP rfl (fun h => ?_) (fun h => ?_) | refine ocondB rfl (fun h => ?_) (fun h => ?_) | refine scondP rfl (fun h => ?_) (fun h => ?_) | refine scond rfl (fun h => ?_) (fun h => ?_) | refine oskip ?_ | refine oskipb ?_ | refine oret ?_ | refine sem_ret ?_ | refine sem_seq ?_ | refine sreg1 ?_)
  exact ⟨_, rfl, _, rfl, tree_eq rfl rfl⟩
theorem find_2 (s : Stp) : Holds Tryz.prog G F.speak_Find_2 [.agg s.cs] (B (!decide s.ok)) := by
  have h1 := speak_in hG s.count 1 9
  have h2 := speak_in hG s.kind 1 4
  have h3 := speak_in hG s.bank 0 2
  (refine holds_of_sem hG fn_speak_Find_2 (by simp) fun w0 S0 hG0 D0 => ?_; unfold c_speak_Find_2 cval enterEnv; simp only [List.zipIdx_cons, List.zipIdx_nil, List.map_cons, List.map_nil, Nat.zero_add, Nat.reduceAdd])
  repeat' (first | ((first | refine o1 rfl ?_ | refine o0 rfl ?_); intro k hk; simp (disch := omega) only [ev0, sl_cells, simprocAttr, Stp.cs]; refine hk _ _ ?_; clear hk k) | refine ono rfl ?_ | (apply ocall; (case he => (simp only [ev0, sl_cells, simprocAttr] <;> rfl)); (case hc => first | exact h1 | exact h2 | exact h3); (case ht => rfl); (case hg => rfl)) | ((first | refine osplitG rfl (fun h => ?_) (fun h => ?_) | refine osplitB rfl (fun h => ?_) (fun h => ?_)) <;> (fail_if_success (simp only [eq_self, reduceCtorEq] at h))) | refine onx ?_ | refine onb ?_ | refine sreg ?_ | refine qT rfl ?_ | refine qF rfl ?_ | refine scondT rfl ?_ | refine scondF rfl ?_ | refine ocondP rfl (fun h => ?_) (fun h => ?_) | refine ocondB rfl (fun h => ?_) (fun h => ?_) | refine scondP rfl (fun h => ?_) (fun h => ?_) | refine scond rfl (fun h => ?_) (fun h => ?_) | refine oskip ?_ | refine oskipb ?_ | refine oret ?_ | refine sem_ret ?_ | refine sem_seq ?_ | refine sreg1 ?_)
  all_goals exact ⟨_, rfl, _, rfl, tree_eq rfl (by (try simp only [Bool.not_not, Bool.not_eq_true', Bool.not_eq_false', Bool.not_eq_true, Bool.not_eq_false, decide_eq_true_eq, decide_eq_false_iff_not, bne_iff_ne, ne_eq, beq_iff_eq] at *); simp only [getE, selE, Nat.reduceBEq]; apply congrArg AV.bool; rw [Bool.eq_iff_iff]; simp only [Bool.not_not, Bool.not_eq_true', Bool.not_eq_false', Bool.not_eq_true, Bool.not_eq_false, decide_eq_true_eq, decide_eq_false_iff_not, bne_iff_ne, ne_eq, beq_iff_eq, Stp.ok, true_iff, iff_true, Bool.false_eq_true, Bool.true_eq_false, false_iff, iff_false]; first | done | grind)⟩
theorem spots_any (l : List Spot) (hl : l.length ≤ 100000) : Holds Tryz.prog G F.slices_ContainsFunc_apiSpeakSpot [slOf Spot.cs l, .fn (.func F.speak_Find_1) [] []] (B (l.any fun s => !decide s.ok)) :=
  containsFunc hG fn_slices_ContainsFunc_apiSpeakSpot (by decide) fn_slices_IndexFunc_apiSpeakSpot (by decide) Spot.cs (fun _ => rfl) (by simp) (fun _ => rfl) l (by omega) (fi := []) (ca := []) rfl rfl (fun s => !decide s.ok) (fun s _ => find_1 hG s)
theorem steps_any (l : List Stp) (hl : l.length ≤ 100000) : Holds Tryz.prog G F.slices_ContainsFunc_apiSpeakStep [slOf Stp.cs l, .fn (.func F.speak_Find_2) [] []] (B (l.any fun s => !decide s.ok)) :=
  containsFunc hG fn_slices_ContainsFunc_apiSpeakStep (by decide) fn_slices_IndexFunc_apiSpeakStep (by decide) Stp.cs (fun _ => rfl) (by simp) (fun _ => rfl) l (by omega) (fi := []) (ca := []) rfl rfl (fun s => !decide s.ok) (fun s _ => find_2 hG s)
theorem river_up (riv : List Spot) (f : Nat) (hl : riv.length ≤ 100000) (hf : f < riv.length) : Holds Tryz.prog G F.speak_river_up [.agg [slOf Spot.cs riv], I f] (slOf natCs (upL riv.length f)) := by
  have hul := upL_len riv.length f
  have hsn : ∀ i, i < riv.length - (f + 1) → (upL riv.length f).take (i + 1) = (upL riv.length f).take i ++ [f + 1 + i] := fun i hi => by
    rw [take_snoc (by omega), upL_get hi]
  (refine holds_of_sem hG fn_speak_river_up (by simp) fun w0 S0 hG0 D0 => ?_; unfold c_speak_river_up cval enterEnv; simp only [List.zipIdx_cons, List.zipIdx_nil, List.map_cons, List.map_nil, Nat.zero_add, Nat.reduceAdd])
  repeat' (first | ((first | refine o1 rfl ?_ | refine o0 rfl ?_); intro k hk; simp (disch := omega) only [ev0, sl_cells, simprocAttr]; refine hk _ _ ?_; clear hk k) | refine ono rfl ?_ | ((first | refine osplitG rfl (fun h => ?_) (fun h => ?_) | refine osplitB rfl (fun h => ?_) (fun h => ?_)) <;> (fail_if_success (simp only [eq_self, reduceCtorEq] at h))) | refine onx ?_ | refine onb ?_ | refine sreg ?_ | refine qT rfl ?_ | refine qF rfl ?_ | refine scondT rfl ?_ | refine scondF rfl ?_ | refine ocondP rfl (fun h => ?_) (fun h => ?_) | refine ocondB rfl (fun h => ?_) (fun h => ?_) | refine scondP rfl (fun h => ?_) (fun h => ?_) | refine scond rfl (fun h => ?_) (fun h => ?_) | refine oskip ?_ | refine oskipb ?_ | refine oret ?_ | refine sem_ret ?_ | refine sem_seq ?_ | refine sreg1 ?_)
  refine sem_block ?_
  (refine sem_ghost 5 3 1 rfl ?_; simp only [List.length_cons, List.length_nil, Nat.reduceAdd, Nat.zero_add, List.cons_append, List.nil_append])
  
  refine sem_loop (α := Nat) (fun i => ⟨[(2, .ptr 0 0 1 0 0), (5, .hsl 1 i 1 i), (6, I (f + 1 + i : Nat))], [.row 141 0 1 [[slOf Spot.cs riv]], .row 3 i 1 (rowL natCs ((upL riv.length f).take i))]⟩) (fun i => i ≤ riv.length - (f + 1)) (fun i => riv.length - i) 0 (Nat.zero_le _) ?_ ?_
  · (refine Le.same ?_; simp only [List.forall_mem_cons, List.forall_mem_nil, getE, selE, Nat.reduceBEq, List.not_mem_nil, false_implies, implies_true, and_true, true_and, and_self])
    simp [rowL]
  · intro i hi
    repeat' (first | ((first | refine o1 rfl ?_ | refine o0 rfl ?_); intro k hk; simp (disch := omega) only [ev0, sl_cells, simprocAttr, slOf]; refine hk _ _ ?_; clear hk k) | refine ono rfl ?_ | ((first | refine osplitG rfl (fun h => ?_) (fun h => ?_) | refine osplitB rfl (fun h => ?_) (fun h => ?_)) <;> (fail_if_success (simp only [eq_self, reduceCtorEq] at h))) | refine onx ?_ | refine onb ?_ | refine sreg ?_ | refine qT rfl ?_ | refine qF rfl ?_ | refine scondT rfl ?_ | refine scondF rfl ?_ | refine ocondP rfl (fun h => ?_) (fun h => ?_) | refine ocondB rfl (fun h => ?_) (fun h => ?_) | refine scondP rfl (fun h => ?_) (fun h => ?_) | refine scond rfl (fun h => ?_) (fun h => ?_) | refine oskip ?_ | refine oskipb ?_ | refine oret ?_ | refine sem_ret ?_ | refine sem_seq ?_ | refine sreg1 ?_)
    · have hi' : i < riv.length - (f + 1) := by omega
      refine sem_block ?_
      have e1 : (rowL natCs ((upL riv.length f).take i)).take i = rowL natCs ((upL riv.length f).take i) := rowL_take' (by rw [List.length_take]; omega)
      repeat' (first | ((first | refine o1 rfl ?_ | refine o0 rfl ?_); intro k hk; simp (disch := omega) only [ev0, sl_cells, simprocAttr, slOf, e1]; refine hk _ _ ?_; clear hk k) | refine ono rfl ?_ | ((first | refine osplitG rfl (fun h => ?_) (fun h => ?_) | refine osplitB rfl (fun h => ?_) (fun h => ?_)) <;> (fail_if_success (simp only [eq_self, reduceCtorEq] at h))) | refine onx ?_ | refine onb ?_ | refine sreg ?_ | refine qT rfl ?_ | refine qF rfl ?_ | refine scondT rfl ?_ | refine scondF rfl ?_ | refine ocondP rfl (fun h => ?_) (fun h => ?_) | refine ocondB rfl (fun h => ?_) (fun h => ?_) | refine scondP rfl (fun h => ?_) (fun h => ?_) | refine scond rfl (fun h => ?_) (fun h => ?_) | refine oskip ?_ | refine oskipb ?_ | refine oret ?_ | refine sem_ret ?_ | refine sem_seq ?_ | refine sreg1 ?_)
      refine onil (lnext (i + 1) (by omega) (by omega) ?_)
      rw [show [[AV.int .i64 ((f + 1 + i : Nat) : Int)]] = [natCs (f + 1 + i)] from rfl, rowL_snoc, ← hsn i hi']
      (refine Le.drop ?_ rfl (by simp) rfl (by simp only [refM, refO, List.all_cons, List.all_nil, Bool.and_true, Bool.true_and, rowL_all (enc := natCs) (fun _ _ => rfl)]; first | done | rfl) ; simp only [List.forall_mem_cons, List.forall_mem_nil, getE, selE, Nat.reduceBEq, List.not_mem_nil, false_implies, implies_true, and_true, true_and, and_self])
      simp
      try omega
    · have hi' : i = riv.length - (f + 1) := by omega
      subst hi'
      (refine sem_exit ?_; change sem _ _ _ _ _)
      repeat' (first | ((first | refine o1 rfl ?_ | refine o0 rfl ?_); intro k hk; simp (disch := omega) only [ev0, sl_cells, simprocAttr]; refine hk _ _ ?_; clear hk k) | refine ono rfl ?_ | ((first | refine osplitG rfl (fun h => ?_) (fun h => ?_) | refine osplitB rfl (fun h => ?_) (fun h => ?_)) <;> (fail_if_success (simp only [eq_self, reduceCtorEq] at h))) | refine onx ?_ | refine onb ?_ | refine sreg ?_ | refine qT rfl ?_ | refine qF rfl ?_ | refine scondT rfl ?_ | refine scondF rfl ?_ | refine ocondP rfl (fun h => ?_) (fun h => ?_) | refine ocondB rfl (fun h => ?_) (fun h => ?_) | refine scondP rfl (fun h => ?_) (fun h => ?_) | refine scond rfl (fun h => ?_) (fun h => ?_) | refine oskip ?_ | refine oskipb ?_ | refine oret ?_ | refine sem_ret ?_ | refine sem_seq ?_ | refine sreg1 ?_)
      refine ⟨_, rfl, _, rfl, ?_⟩
      have : (upL riv.length f).take (riv.length - (f + 1)) = upL riv.length f := by rw [← hul, List.take_length]
      rw [this]
      exact tree_rowN hul.symm rfl (fun _ => rfl) fun _ => rfl
theorem river_down (riv : List Spot) (f : Nat) (hl : riv.length ≤ 100000) (hf : f < riv.length) : Holds Tryz.prog G F.speak_river_down [.agg [slOf Spot.cs riv], I f] (slOf natCs (downL f)) := by
  have hul := downL_len f
  have hsn : ∀ i, i < f → (downL f).take (i + 1) = (downL f).take i ++ [f - 1 - i] := fun i hi => by
    rw [take_snoc (by omega), downL_get hi]
  (refine holds_of_sem hG fn_speak_river_down (by simp) fun w0 S0 hG0 D0 => ?_; unfold c_speak_river_down cval enterEnv; simp only [List.zipIdx_cons, List.zipIdx_nil, List.map_cons, List.map_nil, Nat.zero_add, Nat.reduceAdd])
  repeat' (first | ((first | refine o1 rfl ?_ | refine o0 rfl ?_); intro k hk; simp (disch := omega) only [ev0, sl_cells, simprocAttr]; refine hk _ _ ?_; clear hk k) | refine ono rfl ?_ | ((first | refine osplitG rfl (fun h => ?_) (fun h => ?_) | refine osplitB rfl (fun h => ?_) (fun h => ?_)) <;> (fail_if_success (simp only [eq_self, reduceCtorEq] at h))) | refine onx ?_ | refine onb ?_ | refine sreg ?_ | refine qT rfl ?_ | refine qF rfl ?_ | refine scondT rfl ?_ | refine scondF rfl ?_ | refine ocondP rfl (fun h => ?_) (fun h => ?_) | refine ocondB rfl (fun h => ?_) (fun h => ?_) | refine scondP rfl (fun h => ?_) (fun h => ?_) | refine scond rfl (fun h => ?_) (fun h => ?_) | refine oskip ?_ | refine oskipb ?_ | refine oret ?_ | refine sem_ret ?_ | refine sem_seq ?_ | refine sreg1 ?_)
  refine sem_block ?_
  (refine sem_ghost 5 3 1 rfl ?_; simp only [List.length_cons, List.length_nil, Nat.reduceAdd, Nat.zero_add, List.cons_append, List.nil_append])
  refine sem_loop (α := Nat) (fun i => ⟨[(5, .hsl 1 i 1 i), (6, I ((f : Int) - 1 - i))], [.row 141 0 1 [[slOf Spot.cs riv]], .row 3 i 1 (rowL natCs ((downL f).take i))]⟩) (fun i => i ≤ f) (fun i => f - i) 0 (Nat.zero_le _) ?_ ?_
  · (refine Le.same ?_; simp only [List.forall_mem_cons, List.forall_mem_nil, getE, selE, Nat.reduceBEq, List.not_mem_nil, false_implies, implies_true, and_true, true_and, and_self])
    simp [rowL]
  · intro i hi
    repeat' (first | ((first | refine o1 rfl ?_ | refine o0 rfl ?_); intro k hk; simp (disch := omega) only [ev0, sl_cells, simprocAttr, slOf]; refine hk _ _ ?_; clear hk k) | refine ono rfl ?_ | ((first | refine osplitG rfl (fun h => ?_) (fun h => ?_) | refine osplitB rfl (fun h => ?_) (fun h => ?_)) <;> (fail_if_success (simp only [eq_self, reduceCtorEq] at h))) | refine onx ?_ | refine onb ?_ | refine sreg ?_ | refine qT rfl ?_ | refine qF rfl ?_ | refine scondT rfl ?_ | refine scondF rfl ?_ | refine ocondP rfl (fun h => ?_) (fun h => ?_) | refine ocondB rfl (fun h => ?_) (fun h => ?_) | refine scondP rfl (fun h => ?_) (fun h => ?_) | refine scond rfl (fun h => ?_) (fun h => ?_) | refine oskip ?_ | refine oskipb ?_ | refine oret ?_ | refine sem_ret ?_ | refine sem_seq ?_ | refine sreg1 ?_)
    · have hi' : i < f := by omega
      refine sem_block ?_
      have e1 : (rowL natCs ((downL f).take i)).take i = rowL natCs ((downL f).take i) := rowL_take' (by rw [List.length_take]; omega)
      repeat' (first | ((first | refine o1 rfl ?_ | refine o0 rfl ?_); intro k hk; simp (disch := omega) only [ev0, sl_cells, simprocAttr, slOf, e1]; refine hk _ _ ?_; clear hk k) | refine ono rfl ?_ | ((first | refine osplitG rfl (fun h => ?_) (fun h => ?_) | refine osplitB rfl (fun h => ?_) (fun h => ?_)) <;> (fail_if_success (simp only [eq_self, reduceCtorEq] at h))) | refine onx ?_ | refine onb ?_ | refine sreg ?_ | refine qT rfl ?_ | refine qF rfl ?_ | refine scondT rfl ?_ | refine scondF rfl ?_ | refine ocondP rfl (fun h => ?_) (fun h => ?_) | refine ocondB rfl (fun h => ?_) (fun h => ?_) | refine scondP rfl (fun h => ?_) (fun h => ?_) | refine scond rfl (fun h => ?_) (fun h => ?_) | refine oskip ?_ | refine oskipb ?_ | refine oret ?_ | refine sem_ret ?_ | refine sem_seq ?_ | refine sreg1 ?_)
      refine onil (lnext (i + 1) (by omega) (by omega) ?_)
      rw [show ((f : Int) - 1 - i) = ((f - 1 - i : Nat) : Int) by omega, show [[AV.int .i64 ((f - 1 - i : Nat) : Int)]] = [natCs (f - 1 - i)] from rfl, rowL_snoc, ← hsn i hi']
      (refine Le.drop ?_ rfl (by simp) rfl (by simp only [refM, refO, List.all_cons, List.all_nil, Bool.and_true, Bool.true_and, rowL_all (enc := natCs) (fun _ _ => rfl)]; first | done | rfl) ; simp only [List.forall_mem_cons, List.forall_mem_nil, getE, selE, Nat.reduceBEq, List.not_mem_nil, false_implies, implies_true, and_true, true_and, and_self])
      simp
      try omega
    · have hi' : i = f := by omega
      subst hi'
      (refine sem_exit ?_; change sem _ _ _ _ _)
      repeat' (first | ((first | refine o1 rfl ?_ | refine o0 rfl ?_); intro k hk; simp (disch := omega) only [ev0, sl_cells, simprocAttr]; refine hk _ _ ?_; clear hk k) | refine ono rfl ?_ | ((first | refine osplitG rfl (fun h => ?_) (fun h => ?_) | refine osplitB rfl (fun h => ?_) (fun h => ?_)) <;> (fail_if_success (simp only [eq_self, reduceCtorEq] at h))) | refine onx ?_ | refine onb ?_ | refine sreg ?_ | refine qT rfl ?_ | refine qF rfl ?_ | refine scondT rfl ?_ | refine scondF rfl ?_ | refine ocondP rfl (fun h => ?_) (fun h => ?_) | refine ocondB rfl (fun h => ?_) (fun h => ?_) | refine scondP rfl (fun h => ?_) (fun h => ?_) | refine scond rfl (fun h => ?_) (fun h => ?_) | refine oskip ?_ | refine oskipb ?_ | refine oret ?_ | refine sem_ret ?_ | refine sem_seq ?_ | refine sreg1 ?_)
      refine ⟨_, rfl, _, rfl, ?_⟩
      have : (downL i).take i = downL i := List.take_of_length_le (Nat.le_of_eq hul)
      rw [this]
      exact tree_rowN hul.symm rfl (fun _ => rfl) fun _ => rfl
end Go.Proofs.YtcllnnjeaidppaaGreatDoor
