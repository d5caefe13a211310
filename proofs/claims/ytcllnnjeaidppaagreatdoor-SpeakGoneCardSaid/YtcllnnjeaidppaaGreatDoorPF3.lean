/- All places that a report allows. -/
import Derived.Test.YtcllnnjeaidppaaGreatDoorPF2
import Derived.Test.YtcllnnjeaidppaaGreatDoorPS0
import Derived.Test.YtcllnnjeaidppaaGreatDoorPAv43
set_option linter.unusedVariables false
set_option linter.unusedSimpArgs false
set_option linter.unusedSectionVars false
set_option maxRecDepth 8000
set_option maxHeartbeats 2000000
namespace Go.Tk
open Go Go.Av
def goesO (riv : List Spot) (f : Nat) (s : Stp) : Option Nat := match hitL riv s.kind (dirL riv f s) s.count with
  | some i => if bankOk s (riv.getD i default) then some i else none
  | none => none
def addN (nx : List Nat) : Option Nat → List Nat
  | some k => if k ∈ nx then nx else nx ++ [k]
  | none => nx
def kindTo (riv : List Spot) (kind : Int) (i : Nat) : List Nat := (List.range i).filter fun i => decide ((riv.getD i default).kind = kind)
def moveTo (riv : List Spot) (s : Stp) (now : List Nat) (i : Nat) : List Nat := (now.take i).foldl (fun nx i => addN nx (goesO riv i s)) []
def nowTo (riv : List Spot) (kind : Int) (steps : List Stp) (k : Nat) : List Nat := (steps.take k).foldl (fun now s => moveTo riv s now now.length) (kindTo riv kind riv.length)
theorem kindTo_succ {riv : List Spot} {kind : Int} {i : Nat} : kindTo riv kind (i + 1) = if (riv.getD i default).kind = kind then kindTo riv kind i ++ [i] else kindTo riv kind i := by
  unfold kindTo
  rw [List.range_succ, List.filter_append]
  by_cases h : (riv.getD i default).kind = kind
  · rw [if_pos h]; simp only [List.filter_cons, h, decide_true, if_true, List.filter_nil]
  · rw [if_neg h]; simp only [List.filter_cons, h, decide_false, Bool.false_eq_true, if_false, List.filter_nil, List.append_nil]
theorem moveTo_succ {riv : List Spot} {s : Stp} {now : List Nat} {i : Nat} (hi : i < now.length) : moveTo riv s now (i + 1) = addN (moveTo riv s now i) (goesO riv (now.getD i default) s) := by
  unfold moveTo
  rw [take_snoc hi, List.foldl_append]; rfl
theorem nowTo_succ {riv : List Spot} {kind : Int} {steps : List Stp} {k : Nat} (hk : k < steps.length) : nowTo riv kind steps (k + 1) = moveTo riv (steps.getD k default) (nowTo riv kind steps k) (nowTo riv kind steps k).length := by
  conv => lhs; unfold nowTo
  rw [take_snoc hk, List.foldl_append]; rfl
/-- What is known of the spots that somebody may be at. -/
def spotsOK (n : Nat) (l : List Nat) : Prop := l.Nodup ∧ ∀ i ∈ l, i < n
theorem spots_le {n : Nat} {l : List Nat} (h : spotsOK n l) : l.length ≤ n := by
  have hp : l.Perm ((List.range n).filter fun i => decide (i ∈ l)) := (List.perm_ext_iff_of_nodup h.1 (List.Pairwise.filter _ List.nodup_range)).2 fun i => by
    simp only [List.mem_filter, List.mem_range, decide_eq_true_eq]
    exact ⟨fun q => ⟨h.2 i q, q⟩, fun q => q.2⟩
  rw [hp.length_eq]
  have := List.length_filter_le (fun i => decide (i ∈ l)) (List.range n)
  simpa using this
theorem kindTo_ok {riv : List Spot} {kind : Int} {i : Nat} (hi : i ≤ riv.length) : spotsOK riv.length (kindTo riv kind i) :=
  ⟨List.Pairwise.filter _ List.nodup_range, fun j hj => by have := List.mem_range.1 (List.mem_filter.1 hj).1; omega⟩
theorem hitL_mem {riv : List Spot} {k : Int} : ∀ {l : List Nat} {c : Int} {i : Nat}, hitL riv k l c = some i → i ∈ l
  | [], c, i, h => by cases h
  | j :: l, c, i, h => by
    unfold hitL at h
    split at h
    · split at h
      · cases h; exact List.mem_cons_self
      · exact List.mem_cons_of_mem _ (hitL_mem h)
    · exact List.mem_cons_of_mem _ (hitL_mem h)
theorem goesO_lt {riv : List Spot} {f : Nat} {s : Stp} {i : Nat} (hf : f < riv.length) (h : goesO riv f s = some i) : i < riv.length := by
  unfold goesO at h
  split at h
  · rename_i j hj
    split at h
    · cases h; exact dirL_lt hf _ (hitL_mem hj)
    · cases h
  · cases h
theorem addN_ok {n : Nat} {l : List Nat} {o : Option Nat} (h : spotsOK n l) (ho : ∀ k, o = some k → k < n) : spotsOK n (addN l o) := by
  cases o with
  | none => exact h
  | some k =>
    show spotsOK n (if k ∈ l then l else l ++ [k])
    by_cases hk : k ∈ l
    · rw [if_pos hk]; exact h
    · rw [if_neg hk]
      refine ⟨?_, fun i hi => ?_⟩
      · rw [List.nodup_append]
        exact ⟨h.1, by simp, fun a ha b hb => by
          rw [List.mem_singleton] at hb
          subst hb
          exact fun e => hk (e ▸ ha)⟩
      · rcases List.mem_append.1 hi with h1 | h1
        · exact h.2 i h1
        · rw [List.mem_singleton] at h1
          subst h1; exact ho _ rfl
theorem moveTo_ok {riv : List Spot} {s : Stp} {now : List Nat} (h : spotsOK riv.length now) : ∀ {i : Nat}, i ≤ now.length → spotsOK riv.length (moveTo riv s now i)
  | 0, _ => by
    have : moveTo riv s now 0 = [] := by simp [moveTo]
    rw [this]; exact ⟨.nil, fun i hi => by cases hi⟩
  | i + 1, hi => by
    rw [moveTo_succ (by omega)]
    exact addN_ok (moveTo_ok h (by omega)) fun k hk => goesO_lt (h.2 _ (mem_getD (by omega))) hk
theorem nowTo_ok {riv : List Spot} {kind : Int} {steps : List Stp} : ∀ {k : Nat}, k ≤ steps.length → spotsOK riv.length (nowTo riv kind steps k)
  | 0, _ => by
    have : nowTo riv kind steps 0 = kindTo riv kind riv.length := by simp [nowTo]
    rw [this]; exact kindTo_ok (Nat.le_refl _)
  | k + 1, hk => by
    rw [nowTo_succ (by omega)]
    exact moveTo_ok (nowTo_ok (by omega)) (Nat.le_refl _)
end Go.Tk
namespace Go.Proofs.YtcllnnjeaidppaaGreatDoor
open Go Go.Av Go.Tk
attribute [local irreducible] Holds sem semL ACalls FnIs
variable {G : World → Prop} (hG : ∀ w w', G w → RowKit.Below w.heap.size w w' → G w')
include hG
theorem slices_Index (l : List Nat) (x : Nat) (hl : l.length ≤ 100000) : Holds Tryz.prog G F.slices_Index_int [slOf natCs l, I x] (I (idxI (l.findIdx? fun y => decide (x = y)))) := by
  (refine holds_of_sem hG fn_slices_Index_int (by simp) fun w0 S0 hG0 D0 => ?_; unfold c_slices_Index_int cval enterEnv; simp only [List.zipIdx_cons, List.zipIdx_nil, List.map_cons, List.map_nil, Nat.zero_add, Nat.reduceAdd])
  repeat' (first | ((first | refine o1 rfl ?_ | refine o0 rfl ?_); intro k hk; simp (disch := omega) only [ev0, sl_cells, simprocAttr, slOf]; refine hk _ _ ?_; clear hk k) | refine ono rfl ?_ | ((first | refine osplitG rfl (fun h => ?_) (fun h => ?_) | refine osplitB rfl (fun h => ?_) (fun h => ?_)) <;> (fail_if_success (simp only [eq_self, reduceCtorEq] at h))) | refine onx ?_ | refine onb ?_ | refine sreg ?_ | refine qT rfl ?_ | refine qF rfl ?_ | refine scondT rfl ?_ | refine scondF rfl ?_ | refine ocondP rfl (fun h => ?_) (fun h => ?_) | refine ocondB rfl (fun h => ?_) (fun h => ?_) | refine scondP rfl (fun h => ?_) (fun h => ?_) | refine scond rfl (fun h => ?_) (fun h => ?_) | refine oskip ?_ | refine oskipb ?_ | refine oret ?_ | refine sem_ret ?_ | refine sem_seq ?_ | refine sreg1 ?_)
  refine sem_block ?_
  
  refine sem_loop (α := Nat) (fun i => ⟨[(0, slOf natCs l), (1, I x), (7, I l.length), (8, I i)], []⟩) (fun i => i ≤ l.length ∧ ∀ j, j < i → x ≠ l.getD j default) (fun i => l.length - i) 0 ⟨Nat.zero_le _, fun j hj => absurd hj (Nat.not_lt_zero _)⟩ ?_ ?_
  · (refine Le.same ?_; simp only [List.forall_mem_cons, List.forall_mem_nil, getE, selE, Nat.reduceBEq, List.not_mem_nil, false_implies, implies_true, and_true, true_and, and_self])
    simp [slOf]
  · rintro i ⟨h1, h2⟩
    repeat' (first | ((first | refine o1 rfl ?_ | refine o0 rfl ?_); intro k hk; simp (disch := omega) only [ev0, sl_cells, simprocAttr, slOf]; refine hk _ _ ?_; clear hk k) | refine ono rfl ?_ | ((first | refine osplitG rfl (fun h => ?_) (fun h => ?_) | refine osplitB rfl (fun h => ?_) (fun h => ?_)) <;> (fail_if_success (simp only [eq_self, reduceCtorEq] at h))) | refine onx ?_ | refine onb ?_ | refine sreg ?_ | refine qT rfl ?_ | refine qF rfl ?_ | refine scondT rfl ?_ | refine scondF rfl ?_ | refine ocondP rfl (fun h => ?_) (fun h => ?_) | refine ocondB rfl (fun h => ?_) (fun h => ?_) | refine scondP rfl (fun h => ?_) (fun h => ?_) | refine scond rfl (fun h => ?_) (fun h => ?_) | refine oskip ?_ | refine oskipb ?_ | refine oret ?_ | refine sem_ret ?_ | refine sem_seq ?_ | refine sreg1 ?_)
    · have hi : i < l.length := by omega
      refine sem_block ?_
      by_cases hx : x = l.getD i default
      · have hxx : ((x : Int) = ((l.getD i default : Nat) : Int)) = True := eq_true (by omega)
        have : l.findIdx? (fun y => decide (x = y)) = some i := by
          rw [List.findIdx?_eq_some_iff_getElem]
          refine ⟨hi, by rw [← getD_lt hi]; simpa using hx, fun j hj => ?_⟩
          rw [← getD_lt (by omega)]
          simpa using h2 j hj
        rw [this]
        repeat' (first | ((first | refine o1 rfl ?_ | refine o0 rfl ?_); intro k hk; simp (disch := omega) only [ev0, sl_cells, simprocAttr, slOf, natCs, hxx, decide_true]; refine hk _ _ ?_; clear hk k) | refine ono rfl ?_ | ((first | refine osplitG rfl (fun h => ?_) (fun h => ?_) | refine osplitB rfl (fun h => ?_) (fun h => ?_)) <;> (fail_if_success (simp only [eq_self, reduceCtorEq] at h))) | refine onx ?_ | refine onb ?_ | refine sreg ?_ | refine qT rfl ?_ | refine qF rfl ?_ | refine scondT rfl ?_ | refine scondF rfl ?_ | refine ocondP rfl (fun h => ?_) (fun h => ?_) | refine ocondB rfl (fun h => ?_) (fun h => ?_) | refine scondP rfl (fun h => ?_) (fun h => ?_) | refine scond rfl (fun h => ?_) (fun h => ?_) | refine oskip ?_ | refine oskipb ?_ | refine oret ?_ | refine sem_ret ?_ | refine sem_seq ?_ | refine sreg1 ?_)
        exact ⟨_, rfl, _, rfl, tree_eq rfl rfl⟩
      · have hxx : ((x : Int) = ((l.getD i default : Nat) : Int)) = False := eq_false (by omega)
        repeat' (first | ((first | refine o1 rfl ?_ | refine o0 rfl ?_); intro k hk; simp (disch := omega) only [ev0, sl_cells, simprocAttr, slOf, natCs, hxx, decide_false]; refine hk _ _ ?_; clear hk k) | refine ono rfl ?_ | ((first | refine osplitG rfl (fun h => ?_) (fun h => ?_) | refine osplitB rfl (fun h => ?_) (fun h => ?_)) <;> (fail_if_success (simp only [eq_self, reduceCtorEq] at h))) | refine onx ?_ | refine onb ?_ | refine sreg ?_ | refine qT rfl ?_ | refine qF rfl ?_ | refine scondT rfl ?_ | refine scondF rfl ?_ | refine ocondP rfl (fun h => ?_) (fun h => ?_) | refine ocondB rfl (fun h => ?_) (fun h => ?_) | refine scondP rfl (fun h => ?_) (fun h => ?_) | refine scond rfl (fun h => ?_) (fun h => ?_) | refine oskip ?_ | refine oskipb ?_ | refine oret ?_ | refine sem_ret ?_ | refine sem_seq ?_ | refine sreg1 ?_)
        refine onil (lnext (i + 1) ⟨by omega, fun j hj => ?_⟩ (by omega) ?_)
        · by_cases e : j = i
          · subst e; exact hx
          · exact h2 j (by omega)
        · (refine Le.same ?_; simp only [List.forall_mem_cons, List.forall_mem_nil, getE, selE, Nat.reduceBEq, List.not_mem_nil, false_implies, implies_true, and_true, true_and, and_self])
          simp [slOf]
    · have hi : i = l.length := by omega
      subst hi
      have : l.findIdx? (fun y => decide (x = y)) = none := by
        rw [List.findIdx?_eq_none_iff]
        intro y hy
        obtain ⟨j, hj, rfl⟩ := List.mem_iff_getElem.1 hy
        have := h2 j hj
        rw [getD_lt hj] at this
        simpa using this
      rw [this]
      (refine sem_exit ?_; change sem _ _ _ _ _)
      repeat' (first | ((first | refine o1 rfl ?_ | refine o0 rfl ?_); intro k hk; simp (disch := omega) only [ev0, sl_cells, simprocAttr]; refine hk _ _ ?_; clear hk k) | refine ono rfl ?_ | ((first | refine osplitG rfl (fun h => ?_) (fun h => ?_) | refine osplitB rfl (fun h => ?_) (fun h => ?_)) <;> (fail_if_success (simp only [eq_self, reduceCtorEq] at h))) | refine onx ?_ | refine onb ?_ | refine sreg ?_ | refine qT rfl ?_ | refine qF rfl ?_ | refine scondT rfl ?_ | refine scondF rfl ?_ | refine ocondP rfl (fun h => ?_) (fun h => ?_) | refine ocondB rfl (fun h => ?_) (fun h => ?_) | refine scondP rfl (fun h => ?_) (fun h => ?_) | refine scond rfl (fun h => ?_) (fun h => ?_) | refine oskip ?_ | refine oskipb ?_ | refine oret ?_ | refine sem_ret ?_ | refine sem_seq ?_ | refine sreg1 ?_)
      exact ⟨_, rfl, _, rfl, tree_eq rfl rfl⟩
theorem slices_Contains (l : List Nat) (x : Nat) (hl : l.length ≤ 100000) : Holds Tryz.prog G F.slices_Contains_int [slOf natCs l, I x] (B (decide (x ∈ l))) := by
  have h := slices_Index hG l x hl
  have h2 : decide (0 ≤ idxI (l.findIdx? fun y => decide (x = y))) = decide (x ∈ l) := by
    rw [idxI_any, Bool.eq_iff_iff]
    simp
  (refine holds_of_sem hG fn_slices_Contains_int (by simp) fun w0 S0 hG0 D0 => ?_; unfold c_slices_Contains_int cval enterEnv; simp only [List.zipIdx_cons, List.zipIdx_nil, List.map_cons, List.map_nil, Nat.zero_add, Nat.reduceAdd])
  repeat' (first | ((first | refine o1 rfl ?_ | refine o0 rfl ?_); intro k hk; simp (disch := omega) only [ev0, sl_cells, simprocAttr, h2]; refine hk _ _ ?_; clear hk k) | refine ono rfl ?_ | (apply ocall; (case he => (simp only [ev0, sl_cells, simprocAttr] <;> rfl)); (case hc => first | exact h); (case ht => rfl); (case hg => rfl)) | ((first | refine osplitG rfl (fun h => ?_) (fun h => ?_) | refine osplitB rfl (fun h => ?_) (fun h => ?_)) <;> (fail_if_success (simp only [eq_self, reduceCtorEq] at h))) | refine onx ?_ | refine onb ?_ | refine sreg ?_ | refine qT rfl ?_ | refine qF rfl ?_ | refine scondT rfl ?_ | refine scondF rfl ?_ | refine ocondP rfl (fun h => ?_) (fun h => ?_) | refine ocondB rfl (fun h => ?_) (fun h => ?_) | refine scondP rfl (fun h => ?_) (fun h => ?_) | refine scond rfl (fun h => ?_) (fun h => ?_) | refine oskip ?_ | refine oskipb ?_ | refine oret ?_ | refine sem_ret ?_ | refine sem_seq ?_ | refine sreg1 ?_)
  exact ⟨_, rfl, _, rfl, tree_eq rfl rfl⟩
end Go.Proofs.YtcllnnjeaidppaaGreatDoor
