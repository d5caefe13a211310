/- Motions: the tree of a motion, or the error. -/
import Derived.Test.YtcllnnjeaidppaaGreatDoorPH5
set_option linter.unusedVariables false
set_option linter.unusedSimpArgs false
set_option linter.unusedSectionVars false
set_option maxRecDepth 8000
set_option maxHeartbeats 4000000
namespace Go.Tk
open Go Go.Av
def trM (m : List Part) (i : Nat) (cs : List Deed) (x : AV) : List AObj := [opB 3 m i cs, .row 160 0 1 [[.ptr 0 0 3 0 0]], .row 101 0 1 [[x]], opC cs]
def trR (m : List Part) (b : Bool) (ν : List AObj) : Prop := if b = true then ∃ a, treeOf9 m = some a ∧ ν = trM m m.length a.clauses a.av else treeOf9 m = none ∧ ∃ i cs x, (∀ k, refA k x = true) ∧ ν = trM m i cs x
/-- What tree answers. -/
def treeV (m : List Part) : AV := if 31 < m.length then .tup [.nilif, .nilsl, I 3] else match treeOf9 m with
  | some a => .tup [a.av, slOf Deed.cs a.clauses, I 0]
  | none => .tup [.nilif, .nilsl, I 2]
end Go.Tk
namespace Go.Proofs.YtcllnnjeaidppaaGreatDoor
open Go Go.Av Go.Tk
attribute [local irreducible] Holds sem semL ACalls FnIs opd
section
variable {K : Ctx} (hP : K.P = Tryz.prog) (hGK : ∀ w w', K.G w → RowKit.Below w.heap.size w w' → K.G w')
include hP hGK
theorem speak_tree_1 (m : List Part) (hl : m.length ≤ 100000) : ACalls K F.speak_tree_1 [.ptr 1 0 1 0 0, .ptr 2 0 1 0 0] (trM m 0 [] .nilif ++ [.row 4 0 1 [[B false]]]) fun ae ν => ∃ ν0 b, ν = ν0 ++ [.row 4 0 1 [[B false]]] ∧ trR m b ν0 ∧ (b = true ∧ ae = .ret (.tup []) ∨ b = false ∧ ∃ s, ae = .panic (wrongV s)) := by
  have hsf := fun s μ => sure_false hP hGK s μ
  have hop := operand_at hP hGK (speak_operand hP hGK m hl (m.length + 1) 0 [] (Nat.zero_le _) (by omega) (Nat.zero_le _)) (μ2 := trM m 0 [] .nilif ++ [.row 4 0 1 [[B false]]]) (p := 0) (q := 3) (by decide) rfl rfl
  obtain ⟨P, w0, S0, G, hG0⟩ := K
  simp only at hP hGK
  subst hP
  have hst := fun s => sure_true hGK s
  refine acalls_of_sem fn_speak_tree_1 (by simp) fun D => ?_
  unfold c_speak_tree_1 cval enterEnv trM
  simp only [List.zipIdx_cons, List.zipIdx_nil, List.map_cons, List.map_nil, Nat.zero_add, Nat.reduceAdd, List.cons_append, List.nil_append]
  repeat' (first | ((first | refine o1 rfl ?_ | refine o0 rfl ?_); intro k hk; simp (disch := omega) only [ev0, sl_cells, simprocAttr]; refine hk _ _ ?_; clear hk k) | refine ono rfl ?_ | ((first | refine osplitG rfl (fun h => ?_) (fun h => ?_) | refine osplitB rfl (fun h => ?_) (fun h => ?_)) <;> (fail_if_success (simp only [eq_self, reduceCtorEq] at h))) | refine onx ?_ | refine onb ?_ | refine sreg ?_ | refine qT rfl ?_ | refine qF rfl ?_ | refine scondT rfl ?_ | refine scondF rfl ?_ | refine ocondP rfl (fun h => ?_) (fun h => ?_) | refine ocondB rfl (fun h => ?_) (fun h => ?_) | refine scondP rfl (fun h => ?_) (fun h => ?_) | refine scond rfl (fun h => ?_) (fun h => ?_) | refine oskip ?_ | refine oskipb ?_ | refine oret ?_ | refine sem_ret ?_ | refine sem_seq ?_ | refine sreg1 ?_)
  refine semL_acall rfl hop fun ae μ hr => ?_
  unfold treeOf9 trR at *
  cases ho : opd m 0 with
  | none =>
    rw [ho] at hr
    obtain ⟨s, i', cs', rfl, rfl⟩ := hr
    exact ⟨trM m i' cs' .nilif, false, rfl, ⟨by unfold treeOf9; rw [ho], i', cs', .nilif, fun _ => rfl, rfl⟩, .inr ⟨rfl, s, rfl⟩⟩
  | some r =>
    obtain ⟨a, j⟩ := r
    rw [ho] at hr
    obtain ⟨rfl, rfl⟩ := hr
    have hj := opd_lt ho
    change semL _ _ _ ⟨(3, a.av) :: _, [opB 3 m j a.clauses, .row 160 0 1 [[.ptr 0 0 3 0 0]], .row 101 0 1 [[.nilif]], opC a.clauses, .row 4 0 1 [[B false]]]⟩ _
    simp only [av_eq]
    repeat' (first | ((first | refine o1 rfl ?_ | refine o0 rfl ?_); intro k hk; simp (disch := omega) only [ev0, sl_cells, simprocAttr, opB]; refine hk _ _ ?_; clear hk k) | refine ono rfl ?_ | ((first | refine osplitG rfl (fun h => ?_) (fun h => ?_) | refine osplitB rfl (fun h => ?_) (fun h => ?_)) <;> (fail_if_success (simp only [eq_self, reduceCtorEq] at h))) | refine onx ?_ | refine onb ?_ | refine sreg ?_ | refine qT rfl ?_ | refine qF rfl ?_ | refine scondT rfl ?_ | refine scondF rfl ?_ | refine ocondP rfl (fun h => ?_) (fun h => ?_) | refine ocondB rfl (fun h => ?_) (fun h => ?_) | refine scondP rfl (fun h => ?_) (fun h => ?_) | refine scond rfl (fun h => ?_) (fun h => ?_) | refine oskip ?_ | refine oskipb ?_ | refine oret ?_ | refine sem_ret ?_ | refine sem_seq ?_ | refine sreg1 ?_)
    refine olend (ts := [.tptr [slOf Part.cs m, I j, slOf Deed.cs a.clauses] 0]) (parts_left hGK m j (slOf Deed.cs a.clauses)) rfl (fun i' c t qa qb => ?_) rfl rfl ?_
    · match i', qa, qb with
      | 0, qa, qb =>
        simp only [List.map_cons, List.map_nil, List.getElem?_cons_zero, Option.some.injEq] at qa qb
        subst qa qb
        exact tree_opB (p := 0) (q := 3) rfl rfl
      | i' + 1, qa, qb => simp at qb
    by_cases hjl : j = m.length
    · subst hjl
      rw [decide_eq_false (show ¬ ((m.length : Int) < m.length) by omega)]
      repeat' (first | ((first | refine o1 rfl ?_ | refine o0 rfl ?_); intro k hk; simp (disch := omega) only [ev0, sl_cells, simprocAttr]; refine hk _ _ ?_; clear hk k) | refine ono rfl ?_ | (apply ocall; (case he => (simp only [ev0, sl_cells, simprocAttr] <;> rfl)); (case hc => first | exact hst _); (case ht => rfl); (case hg => rfl)) | ((first | refine osplitG rfl (fun h => ?_) (fun h => ?_) | refine osplitB rfl (fun h => ?_) (fun h => ?_)) <;> (fail_if_success (simp only [eq_self, reduceCtorEq] at h))) | refine onx ?_ | refine onb ?_ | refine sreg ?_ | refine qT rfl ?_ | refine qF rfl ?_ | refine scondT rfl ?_ | refine scondF rfl ?_ | refine ocondP rfl (fun h => ?_) (fun h => ?_) | refine ocondB rfl (fun h => ?_) (fun h => ?_) | refine scondP rfl (fun h => ?_) (fun h => ?_) | refine scond rfl (fun h => ?_) (fun h => ?_) | refine oskip ?_ | refine oskipb ?_ | refine oret ?_ | refine sem_ret ?_ | refine sem_seq ?_ | refine sreg1 ?_)
      refine onil ?_
      refine ⟨_, rfl, trM m m.length a.clauses a.av, true, ?_, ⟨a, by unfold treeOf9; rw [ho]; simp, by rw [av_eq]⟩, .inl ⟨rfl, rfl⟩⟩
      rw [av_eq]
      rfl
    · rw [decide_eq_true (show (j : Int) < m.length by omega)]
      repeat' (first | ((first | refine o1 rfl ?_ | refine o0 rfl ?_); intro k hk; simp (disch := omega) only [ev0, sl_cells, simprocAttr]; refine hk _ _ ?_; clear hk k) | refine ono rfl ?_ | (apply ocall; (case he => (simp only [ev0, sl_cells, simprocAttr] <;> rfl)); (case hc => first | exact hst _); (case ht => rfl); (case hg => rfl)) | ((first | refine osplitG rfl (fun h => ?_) (fun h => ?_) | refine osplitB rfl (fun h => ?_) (fun h => ?_)) <;> (fail_if_success (simp only [eq_self, reduceCtorEq] at h))) | refine onx ?_ | refine onb ?_ | refine sreg ?_ | refine qT rfl ?_ | refine qF rfl ?_ | refine scondT rfl ?_ | refine scondF rfl ?_ | refine ocondP rfl (fun h => ?_) (fun h => ?_) | refine ocondB rfl (fun h => ?_) (fun h => ?_) | refine scondP rfl (fun h => ?_) (fun h => ?_) | refine scond rfl (fun h => ?_) (fun h => ?_) | refine oskip ?_ | refine oskipb ?_ | refine oret ?_ | refine sem_ret ?_ | refine sem_seq ?_ | refine sreg1 ?_)
      refine semL_acall rfl (hsf _ _) fun ae μ hr => ?_
      obtain ⟨rfl, rfl⟩ := hr
      refine ⟨trM m j a.clauses a.av, false, ?_, ⟨by unfold treeOf9; rw [ho]; simp [hjl], j, a.clauses, a.av, fun k => av_ref k a, rfl⟩, .inr ⟨rfl, _, rfl⟩⟩
      rw [av_eq]
      rfl
end
variable {G : World → Prop} (hG : ∀ w w', G w → RowKit.Below w.heap.size w w' → G w')
include hG
theorem speak_tree (m : List Part) (hl : m.length ≤ 100000) : Holds Tryz.prog G F.speak_tree [slOf Part.cs m] (treeV m) := by
  unfold treeV
  by_cases h31 : 31 < m.length
  · have h11 : (31 < (m.length : Int)) = True := eq_true (by omega)
    rw [if_pos h31]
    (refine holds_of_sem hG fn_speak_tree (by simp) fun w0 S0 hG0 D0 => ?_; unfold c_speak_tree cval enterEnv; simp only [List.zipIdx_cons, List.zipIdx_nil, List.map_cons, List.map_nil, Nat.zero_add, Nat.reduceAdd])
    repeat' (first | ((first | refine o1 rfl ?_ | refine o0 rfl ?_); intro k hk; simp (disch := omega) only [ev0, sl_cells, simprocAttr, slOf, h11, decide_true]; refine hk _ _ ?_; clear hk k) | refine ono rfl ?_ | ((first | refine osplitG rfl (fun h => ?_) (fun h => ?_) | refine osplitB rfl (fun h => ?_) (fun h => ?_)) <;> (fail_if_success (simp only [eq_self, reduceCtorEq] at h))) | refine onx ?_ | refine onb ?_ | refine sreg ?_ | refine qT rfl ?_ | refine qF rfl ?_ | refine scondT rfl ?_ | refine scondF rfl ?_ | refine ocondP rfl (fun h => ?_) (fun h => ?_) | refine ocondB rfl (fun h => ?_) (fun h => ?_) | refine scondP rfl (fun h => ?_) (fun h => ?_) | refine scond rfl (fun h => ?_) (fun h => ?_) | refine oskip ?_ | refine oskipb ?_ | refine oret ?_ | refine sem_ret ?_ | refine sem_seq ?_ | refine sreg1 ?_)
    exact ⟨_, rfl, _, rfl, tree_eq rfl rfl⟩
  have h11 : (31 < (m.length : Int)) = False := eq_false (by omega)
  rw [if_neg h31]
  (refine holds_of_sem hG fn_speak_tree (by simp) fun w0 S0 hG0 D0 => ?_; unfold c_speak_tree cval enterEnv; simp only [List.zipIdx_cons, List.zipIdx_nil, List.map_cons, List.map_nil, Nat.zero_add, Nat.reduceAdd])
  repeat' (first | ((first | refine o1 rfl ?_ | refine o0 rfl ?_); intro k hk; simp (disch := omega) only [ev0, sl_cells, simprocAttr, h11, decide_false]; refine hk _ _ ?_; clear hk k) | refine ono rfl ?_ | ((first | refine osplitG rfl (fun h => ?_) (fun h => ?_) | refine osplitB rfl (fun h => ?_) (fun h => ?_)) <;> (fail_if_success (simp only [eq_self, reduceCtorEq] at h))) | refine onx ?_ | refine onb ?_ | refine sreg ?_ | refine qT rfl ?_ | refine qF rfl ?_ | refine scondT rfl ?_ | refine scondF rfl ?_ | refine ocondP rfl (fun h => ?_) (fun h => ?_) | refine ocondB rfl (fun h => ?_) (fun h => ?_) | refine scondP rfl (fun h => ?_) (fun h => ?_) | refine scond rfl (fun h => ?_) (fun h => ?_) | refine oskip ?_ | refine oskipb ?_ | refine oret ?_ | refine sem_ret ?_ | refine sem_seq ?_ | refine sreg1 ?_)
  refine semL_ghostC 0 0 2 94 3 rfl rfl rfl ?_
  refine semL_acall rfl (speak_try (K := ⟨Tryz.prog, w0, S0, G, hG0⟩) rfl hG (g := 94) (ca := [.ptr 1 0 1 0 0, .ptr 2 0 1 0 0]) (μ := trM m 0 [] .nilif) (R := trR m) rfl (speak_tree_1 rfl hG m hl) ?_) fun ae μ hr => ?_
  · intro b ν0 hb
    unfold trR at hb
    split at hb
    · obtain ⟨a, -, rfl⟩ := hb
      refine ⟨rfl, ?_⟩
      simp [trM, opB, opC, refM, refO, refL, refA, slOf, av_ref, rowL_all (enc := Deed.cs) (fun _ _ => rfl)]
    · obtain ⟨-, i, cs, x, hx, rfl⟩ := hb
      refine ⟨rfl, ?_⟩
      simp [trM, opB, opC, refM, refO, refL, refA, slOf, hx, rowL_all (enc := Deed.cs) (fun _ _ => rfl)]
  obtain ⟨x, ⟨b, hb, rfl⟩, rfl⟩ := hr
  change semL _ _ _ ⟨(15, B b) :: _, _⟩ _
  unfold trR at hb
  cases b with
  | false =>
    rw [if_neg (by simp)] at hb
    obtain ⟨hn, i, cs, x, hx, rfl⟩ := hb
    rw [hn]
    repeat' (first | ((first | refine o1 rfl ?_ | refine o0 rfl ?_); intro k hk; simp (disch := omega) only [ev0, sl_cells, simprocAttr, Bool.not_false]; refine hk _ _ ?_; clear hk k) | refine ono rfl ?_ | ((first | refine osplitG rfl (fun h => ?_) (fun h => ?_) | refine osplitB rfl (fun h => ?_) (fun h => ?_)) <;> (fail_if_success (simp only [eq_self, reduceCtorEq] at h))) | refine onx ?_ | refine onb ?_ | refine sreg ?_ | refine qT rfl ?_ | refine qF rfl ?_ | refine scondT rfl ?_ | refine scondF rfl ?_ | refine ocondP rfl (fun h => ?_) (fun h => ?_) | refine ocondB rfl (fun h => ?_) (fun h => ?_) | refine scondP rfl (fun h => ?_) (fun h => ?_) | refine scond rfl (fun h => ?_) (fun h => ?_) | refine oskip ?_ | refine oskipb ?_ | refine oret ?_ | refine sem_ret ?_ | refine sem_seq ?_ | refine sreg1 ?_)
    exact ⟨_, rfl, _, rfl, tree_eq rfl rfl⟩
  | true =>
    rw [if_pos rfl] at hb
    obtain ⟨a, ha, rfl⟩ := hb
    rw [ha]
    repeat' (first | ((first | refine o1 rfl ?_ | refine o0 rfl ?_); intro k hk; simp (disch := omega) only [ev0, sl_cells, simprocAttr, Bool.not_true]; refine hk _ _ ?_; clear hk k) | refine ono rfl ?_ | ((first | refine osplitG rfl (fun h => ?_) (fun h => ?_) | refine osplitB rfl (fun h => ?_) (fun h => ?_)) <;> (fail_if_success (simp only [eq_self, reduceCtorEq] at h))) | refine onx ?_ | refine onb ?_ | refine sreg ?_ | refine qT rfl ?_ | refine qF rfl ?_ | refine scondT rfl ?_ | refine scondF rfl ?_ | refine ocondP rfl (fun h => ?_) (fun h => ?_) | refine ocondB rfl (fun h => ?_) (fun h => ?_) | refine scondP rfl (fun h => ?_) (fun h => ?_) | refine scond rfl (fun h => ?_) (fun h => ?_) | refine oskip ?_ | refine oskipb ?_ | refine oret ?_ | refine sem_ret ?_ | refine sem_seq ?_ | refine sreg1 ?_)
    simp only [trM, opB, av_eq]
    (refine sem_mgo 6 hmix (by kernel_rfl) ?_; simp only [nt])
    repeat' (first | ((first | apply mop | apply mop0); (case hg => rfl); (case hq => rfl); intro k hk; simp (disch := omega) only [ev0, sl_cells, simprocAttr]; (first | refine hk _ _ rfl ?_ | refine hk _ _ (pay_ref _ _) ?_); clear hk k) | (apply mno; (case hg => rfl)) | (apply mbox; (case hx => (simp only [wv, simprocAttr] <;> rfl)); (case hg => rfl); (case hall => rfl); (case hr => rfl); simp only [nm, Nat.reduceAdd]) | (apply mbldS; (case hb => (simp (disch := omega) only [ev0, sl_cells, simprocAttr] <;> rfl)); (case hg => rfl); (case hr => rfl); simp only [nm, Nat.reduceAdd]) | ((first | (apply msto (q := 0); (case hq => rfl)) | (apply msto (q := 1); (case hq => rfl)) | (apply msto (q := 2); (case hq => rfl)) | (apply msto (q := 3); (case hq => rfl))); (case hx => (simp only [wv, simprocAttr] <;> rfl)); (case haddr => (simp only [wv, simprocAttr] <;> rfl)); (case hg => rfl); (case hl1 => rfl); (case hl2 => rfl); (case hok => rfl); (case hr => rfl); simp only [nm, Nat.reduceAdd]) | (apply mnil; simp only [SlotR.fin, ns]) | (refine msplit rfl (fun h => ?_) (fun h => ?_) <;> simp only [h] <;> (try simp only [nb] at h)))
    repeat' (first | ((first | refine o1 rfl ?_ | refine o0 rfl ?_); intro k hk; simp (disch := omega) only [ev0, sl_cells, simprocAttr]; refine hk _ _ ?_; clear hk k) | refine ono rfl ?_ | ((first | refine osplitG rfl (fun h => ?_) (fun h => ?_) | refine osplitB rfl (fun h => ?_) (fun h => ?_)) <;> (fail_if_success (simp only [eq_self, reduceCtorEq] at h))) | refine onx ?_ | refine onb ?_ | refine sreg ?_ | refine qT rfl ?_ | refine qF rfl ?_ | refine scondT rfl ?_ | refine scondF rfl ?_ | refine ocondP rfl (fun h => ?_) (fun h => ?_) | refine ocondB rfl (fun h => ?_) (fun h => ?_) | refine scondP rfl (fun h => ?_) (fun h => ?_) | refine scond rfl (fun h => ?_) (fun h => ?_) | refine oskip ?_ | refine oskipb ?_ | refine oret ?_ | refine sem_ret ?_ | refine sem_seq ?_ | refine sreg1 ?_)
    refine ⟨_, rfl, _, rfl, Tree.tup rfl fun i c t qa qb => ?_⟩
    match i, qa, qb with
    | 0, qa, qb =>
      simp [getE, selE] at qa qb
      subst qa qb
      exact .same (by rw [← av_eq]; exact av_tree a)
    | 1, qa, qb =>
      simp [getE, selE] at qa qb
      subst qa qb
      exact tree_rowN (id := 3) rfl rfl (fun _ => rfl) fun _ => rfl
    | 2, qa, qb =>
      simp [getE, selE] at qa qb
      subst qa qb
      exact .same rfl
    | i + 3, qa, qb => simp at qb
end Go.Proofs.YtcllnnjeaidppaaGreatDoor
