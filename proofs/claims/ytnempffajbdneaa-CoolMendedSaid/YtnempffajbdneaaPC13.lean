/- Sorting: what stands around it; the colds of a house, the greatest first. -/
import Derived.Test.YtnempffajbdneaaPC12
import Derived.Test.YtnempffajbdneaaPCKx
set_option linter.unusedVariables false
set_option linter.unusedSimpArgs false
set_option maxRecDepth 8000
set_option maxHeartbeats 2000000
namespace Go.Tk
open Go Go.Av
def lenB : Nat → Int
  | 0 => 0
  | 1 => 1
  | 2 => 2
  | 3 => 2
  | 4 => 3
  | 5 => 3
  | 6 => 3
  | 7 => 3
  | _ => 4
theorem wrapU : ∀ n : Nat, n ≤ 10 → IntKind.u64.wrap (n : Int) = n := by decide
end Go.Tk
namespace Go.Proofs.Ytnempffajbdneaa
open Go Go.Av Go.Tk
attribute [local irreducible] Holds sem semL ACalls FnIs
section
variable {G : World → Prop} (hG : ∀ w w', G w → RowKit.Below w.heap.size w w' → G w')
include hG
theorem bits_Len : ∀ n : Nat, n ≤ 10 → Holds Try.prog G F.math_bits_Len [.int .u64 n] (I (lenB n))
  | 0, _ => holds_match (T := T) (X := X0) (n := 3000) (kok hG (fun _ _ _ h => by cases h)) hG (fnok_of rfl) (by kernel_rfl)
  | 1, _ => holds_match (T := T) (X := X0) (n := 3000) (kok hG (fun _ _ _ h => by cases h)) hG (fnok_of rfl) (by kernel_rfl)
  | 2, _ => holds_match (T := T) (X := X0) (n := 3000) (kok hG (fun _ _ _ h => by cases h)) hG (fnok_of rfl) (by kernel_rfl)
  | 3, _ => holds_match (T := T) (X := X0) (n := 3000) (kok hG (fun _ _ _ h => by cases h)) hG (fnok_of rfl) (by kernel_rfl)
  | 4, _ => holds_match (T := T) (X := X0) (n := 3000) (kok hG (fun _ _ _ h => by cases h)) hG (fnok_of rfl) (by kernel_rfl)
  | 5, _ => holds_match (T := T) (X := X0) (n := 3000) (kok hG (fun _ _ _ h => by cases h)) hG (fnok_of rfl) (by kernel_rfl)
  | 6, _ => holds_match (T := T) (X := X0) (n := 3000) (kok hG (fun _ _ _ h => by cases h)) hG (fnok_of rfl) (by kernel_rfl)
  | 7, _ => holds_match (T := T) (X := X0) (n := 3000) (kok hG (fun _ _ _ h => by cases h)) hG (fnok_of rfl) (by kernel_rfl)
  | 8, _ => holds_match (T := T) (X := X0) (n := 3000) (kok hG (fun _ _ _ h => by cases h)) hG (fnok_of rfl) (by kernel_rfl)
  | 9, _ => holds_match (T := T) (X := X0) (n := 3000) (kok hG (fun _ _ _ h => by cases h)) hG (fnok_of rfl) (by kernel_rfl)
  | 10, _ => holds_match (T := T) (X := X0) (n := 3000) (kok hG (fun _ _ _ h => by cases h)) hG (fnok_of rfl) (by kernel_rfl)
  | n + 11, h => absurd h (by omega)
end
variable {K : Ctx} (hP : K.P = Try.prog) (hGK : ∀ w w', K.G w → RowKit.Below w.heap.size w w' → K.G w')
include hP hGK
theorem pdqsort (l : List Int) (hl : l.length ≤ 12) (g : Nat) (b : Int) :
    ACalls K F.slices_pdqsortCmpFunc_int [.hsl 0 g 1 l.length, I 0, I l.length, I b, .fn (.func F.cool_sorted_int_1) [] []] [.row 3 g 1 (rowL intCs l)] fun ae ν => ae = .ret (.tup []) ∧ ν = [.row 3 g 1 (rowL intCs (sortD l))] := by
  have hins := insertion hP hGK l hl g
  obtain ⟨P, w0, S0, G, hG0⟩ := K
  simp only at hP hGK
  subst hP
  refine acalls_of_sem fn_slices_pdqsortCmpFunc_int (by simp) fun D => ?_
  unfold c_slices_pdqsortCmpFunc_int cval enterEnv
  simp only [List.zipIdx_cons, List.zipIdx_nil, List.map_cons, List.map_nil, Nat.zero_add, Nat.reduceAdd]
  repeat' (first | ((first | refine o1 rfl ?_ | refine o0 rfl ?_); intro k hk; simp (disch := omega) only [ev0, sl_cells, simprocAttr]; refine hk _ _ ?_; clear hk k) | refine ono rfl ?_ | ((first | refine osplitG rfl (fun h => ?_) (fun h => ?_) | refine osplitB rfl (fun h => ?_) (fun h => ?_)) <;> (fail_if_success (simp only [eq_self, reduceCtorEq] at h))) | refine onx ?_ | refine onb ?_ | refine sreg ?_ | refine qT rfl ?_ | refine qF rfl ?_ | refine scondT rfl ?_ | refine scondF rfl ?_ | refine ocondP rfl (fun h => ?_) (fun h => ?_) | refine ocondB rfl (fun h => ?_) (fun h => ?_) | refine scondP rfl (fun h => ?_) (fun h => ?_) | refine scond rfl (fun h => ?_) (fun h => ?_) | refine oskip ?_ | refine oskipb ?_ | refine oret ?_ | refine sem_ret ?_ | refine sem_seq ?_ | refine sreg1 ?_)
  refine sem_block ?_
  
  refine sem_loop (α := Unit) (fun _ => ⟨[(0, .hsl 0 g 1 l.length), (1, I 0), (2, I l.length), (3, I b), (4, .fn (.func F.cool_sorted_int_1) [] []), (10, B true), (11, B true)], [.row 3 g 1 (rowL intCs l)]⟩) (fun _ => True) (fun _ => 0) () trivial ?_ ?_
  · (refine Le.same ?_; simp only [List.forall_mem_cons, List.forall_mem_nil, getE, selE, Nat.reduceBEq, List.not_mem_nil, false_implies, implies_true, and_true, true_and, and_self])
  · intro _ _
    refine sem_block ?_
    repeat' (first | ((first | refine o1 rfl ?_ | refine o0 rfl ?_); intro k hk; simp (disch := omega) only [ev0, sl_cells, simprocAttr]; refine hk _ _ ?_; clear hk k) | refine ono rfl ?_ | ((first | refine osplitG rfl (fun h => ?_) (fun h => ?_) | refine osplitB rfl (fun h => ?_) (fun h => ?_)) <;> (fail_if_success (simp only [eq_self, reduceCtorEq] at h))) | refine onx ?_ | refine onb ?_ | refine sreg ?_ | refine qT rfl ?_ | refine qF rfl ?_ | refine scondT rfl ?_ | refine scondF rfl ?_ | refine ocondP rfl (fun h => ?_) (fun h => ?_) | refine ocondB rfl (fun h => ?_) (fun h => ?_) | refine scondP rfl (fun h => ?_) (fun h => ?_) | refine scond rfl (fun h => ?_) (fun h => ?_) | refine oskip ?_ | refine oskipb ?_ | refine oret ?_ | refine sem_ret ?_ | refine sem_seq ?_ | refine sreg1 ?_)
    · refine semL_acall rfl hins fun ae μ hr => ?_
      obtain ⟨rfl, rfl⟩ := hr
      change semL _ _ _ ⟨_, _⟩ _
      repeat' (first | ((first | refine o1 rfl ?_ | refine o0 rfl ?_); intro k hk; simp (disch := omega) only [ev0, sl_cells, simprocAttr]; refine hk _ _ ?_; clear hk k) | refine ono rfl ?_ | ((first | refine osplitG rfl (fun h => ?_) (fun h => ?_) | refine osplitB rfl (fun h => ?_) (fun h => ?_)) <;> (fail_if_success (simp only [eq_self, reduceCtorEq] at h))) | refine onx ?_ | refine onb ?_ | refine sreg ?_ | refine qT rfl ?_ | refine qF rfl ?_ | refine scondT rfl ?_ | refine scondF rfl ?_ | refine ocondP rfl (fun h => ?_) (fun h => ?_) | refine ocondB rfl (fun h => ?_) (fun h => ?_) | refine scondP rfl (fun h => ?_) (fun h => ?_) | refine scond rfl (fun h => ?_) (fun h => ?_) | refine oskip ?_ | refine oskipb ?_ | refine oret ?_ | refine sem_ret ?_ | refine sem_seq ?_ | refine sreg1 ?_)
      exact ⟨_, rfl, rfl, rfl⟩
    all_goals (exfalso; (try simp only [Bool.not_eq_true', Bool.not_eq_false', decide_eq_true_eq, decide_eq_false_iff_not, ne_eq, Decidable.not_not] at *); first | omega | contradiction | (simp only [*, Bool.true_eq_false, Bool.false_eq_true] at *; done))
theorem sortFunc (l : List Int) (hl : l.length ≤ 10) (g : Nat) :
    ACalls K F.slices_SortFunc_int [.hsl 0 g 1 l.length, .fn (.func F.cool_sorted_int_1) [] []] [.row 3 g 1 (rowL intCs l)] fun ae ν => ae = .ret (.tup []) ∧ ν = [.row 3 g 1 (rowL intCs (sortD l))] := by
  have hpd := pdqsort hP hGK l (by omega) g (lenB l.length)
  obtain ⟨P, w0, S0, G, hG0⟩ := K
  simp only at hP hGK
  subst hP
  refine acalls_of_sem fn_slices_SortFunc_int (by simp) fun D => ?_
  unfold c_slices_SortFunc_int cval enterEnv
  simp only [List.zipIdx_cons, List.zipIdx_nil, List.map_cons, List.map_nil, Nat.zero_add, Nat.reduceAdd]
  have hwu := wrapU _ hl
  repeat' (first | ((first | refine o1 rfl ?_ | refine o0 rfl ?_); intro k hk; simp (disch := omega) only [ev0, sl_cells, simprocAttr, rowL_len, hwu]; refine hk _ _ ?_; clear hk k) | refine ono rfl ?_ | (apply ocall; (case he => (simp only [ev0, sl_cells, simprocAttr] <;> rfl)); (case hc => first | exact bits_Len hGK l.length hl); (case ht => rfl); (case hg => rfl)) | ((first | refine osplitG rfl (fun h => ?_) (fun h => ?_) | refine osplitB rfl (fun h => ?_) (fun h => ?_)) <;> (fail_if_success (simp only [eq_self, reduceCtorEq] at h))) | refine onx ?_ | refine onb ?_ | refine sreg ?_ | refine qT rfl ?_ | refine qF rfl ?_ | refine scondT rfl ?_ | refine scondF rfl ?_ | refine ocondP rfl (fun h => ?_) (fun h => ?_) | refine ocondB rfl (fun h => ?_) (fun h => ?_) | refine scondP rfl (fun h => ?_) (fun h => ?_) | refine scond rfl (fun h => ?_) (fun h => ?_) | refine oskip ?_ | refine oskipb ?_ | refine oret ?_ | refine sem_ret ?_ | refine sem_seq ?_ | refine sreg1 ?_)
  refine semL_acall rfl hpd fun ae μ hr => ?_
  obtain ⟨rfl, rfl⟩ := hr
  change semL _ _ _ ⟨_, _⟩ _
  exact onil ⟨_, rfl, rfl, rfl⟩
end Go.Proofs.Ytnempffajbdneaa
