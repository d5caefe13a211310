/- Motions: what reads them gives a tree, or gives up. -/
import Derived.Test.YtcllnnjeaidppaaGreatDoorPH3
import Derived.Test.YtcllnnjeaidppaaGreatDoorPAv40
import Derived.Test.YtcllnnjeaidppaaGreatDoorPAv43
import Derived.Test.YtcllnnjeaidppaaGreatDoorPAv39
set_option linter.unusedVariables false
set_option linter.unusedSimpArgs false
set_option linter.unusedSectionVars false
set_option maxRecDepth 8000
set_option maxHeartbeats 4000000
namespace Go.Av
theorem ACalls.imp {K : Ctx} {μ : List AObj} {f : Nat} {args : List AV} {R R' : AEnd → List AObj → Prop} (h : ACalls K f args μ R) (hR : ∀ ae ν, R ae ν → R' ae ν) : ACalls K f args μ R' :=
  ⟨h.1, fun ρ S w vs a b c => (h.2 ρ S w vs a b c).mono fun e w' ⟨ae, μ', ρ', S', r1, r2, r3, r4⟩ => ⟨ae, μ', ρ', S', hR _ _ r1, r2, r3, r4⟩⟩
end Go.Av
namespace Go.Tk
open Go Go.Av
theorem av_ren (g : Nat → Nat) : ∀ a : Nd, renA g a.av = a.av
  | .cl d => rfl
  | .no a => by
    have := av_ren g a
    simp [Nd.av, renA, renL, this]
  | .two k a b => by
    have h1 := av_ren g a
    have h2 := av_ren g b
    simp [Nd.av, renA, renL, h1, h2]
/-- The memory of a reader: where it stands, and the clauses that it has met. -/
def opB (q : Nat) (m : List Part) (i : Nat) (cs : List Deed) : AObj := .row 164 0 3 [[slOf Part.cs m, I i, .hsl q cs.length 3 cs.length]]
def opC (cs : List Deed) : AObj := .row 94 cs.length 3 (rowL Deed.cs cs)
def opM (m : List Part) (i : Nat) (cs : List Deed) : List AObj := [opB 1 m i cs, opC cs]
abbrev wrongV (s : ByteArray) : AV := .iface 181 (.agg [.str s])
/-- What a reader leaves. -/
def opPost (m : List Part) (cs : List Deed) (p q : Nat) (μ : List AObj) (o : Option (Nd × Nat)) (ae : AEnd) (ν : List AObj) : Prop := match o with
  | some (a, j) => ae = .ret a.av ∧ ν = (μ.set p (opB q m j (cs ++ a.clauses))).set q (opC (cs ++ a.clauses))
  | none => ∃ s i' cs', ae = .panic (wrongV s) ∧ ν = (μ.set p (opB q m i' cs')).set q (opC cs')
theorem put_two {μ2 : List AObj} {p q : Nat} (hpq : p ≠ q) (hp : p < μ2.length) (hq : q < μ2.length) (A B : AObj) (A' B' : AObj) (hA : renO (posOf [p, q] μ2.length) A = A') (hB : renO (posOf [p, q] μ2.length) B = B') :
    putL [p, q] μ2 [A, B] = (μ2.set p A').set q B' := by
  have b0 : backOf [p, q] p = 0 := by simp [backOf]
  have b1 : backOf [p, q] q = 1 := by simp [backOf, List.idxOf_cons, beq_eq_false_iff_ne.2 hpq]
  apply List.ext_getElem?
  intro j
  unfold putL
  rw [show ([A, B] : List AObj).drop [p, q].length = [] from rfl, List.map_nil, List.append_nil, List.getElem?_map]
  by_cases hj : j < μ2.length
  · rw [List.getElem?_range hj, Option.map_some]
    by_cases e2 : j = q
    · subst e2
      rw [List.getElem?_set_self (by simpa using hj)]
      have hc : ([p, j].contains j) = true := by simp
      rw [if_pos hc, b1]
      exact congrArg some hB
    · rw [List.getElem?_set_ne (Ne.symm e2)]
      by_cases e1 : j = p
      · subst e1
        rw [List.getElem?_set_self hj]
        have hc : ([j, q].contains j) = true := by simp
        rw [if_pos hc, b0]
        exact congrArg some hA
      · rw [List.getElem?_set_ne (Ne.symm e1)]
        have hc : ¬ ([p, q].contains j) = true := by simp [e1, e2]
        rw [if_neg hc, List.getElem?_eq_getElem hj]
        simp [List.getD, hj]
  · rw [List.getElem?_eq_none (by simpa using hj), List.getElem?_eq_none (by simpa using hj)]
    rfl
theorem clauses_le : ∀ a : Nd, a.clauses.length ≤ a.flat.length
  | .cl _ => Nat.le_refl _
  | .no a => Nat.le_succ_of_le (clauses_le a)
  | .two _ a b => by
    have h1 := clauses_le a
    have h2 := clauses_le b
    simp only [Nd.clauses, Nd.flat, List.length_append, List.length_cons]
    omega
theorem opd_clauses {m : List Part} {i j : Nat} {a : Nd} (h : opd m i = some (a, j)) : a.clauses.length + i ≤ j := by
  have h1 := opd_lt h
  have h2 := congrArg List.length (opd_flat h).2
  have h3 := clauses_le a
  simp only [List.length_append, List.length_drop] at h2
  omega
theorem tree_opB {μ : List AObj} {p q i off : Nat} {m : List Part} {cs : List Deed} (h0 : μ[p]? = some (opB q m i cs)) (h1 : μ[q]? = some (opC cs)) : Tree μ (.ptr p 0 3 0 off) (.tptr [slOf Part.cs m, I i, slOf Deed.cs cs] off) := by
  refine .ptr h0 rfl rfl fun j c t a b => ?_
  match j, a, b with
  | 0, a, b => simp at a b; subst a; subst b; exact .same rfl
  | 1, a, b => simp at a b; subst a; subst b; exact .same rfl
  | 2, a, b => simp at a b; subst a; subst b; exact tree_rowN rfl h1 (fun _ => rfl) fun _ => rfl
  | j + 3, a, b => simp at a
end Go.Tk
namespace Go.Proofs.YtcllnnjeaidppaaGreatDoor
open Go Go.Av Go.Tk
attribute [local irreducible] Holds sem semL ACalls FnIs opd
theorem parts_left {G : World → Prop} (hG : ∀ w w', G w → RowKit.Below w.heap.size w w' → G w') (m : List Part) (i : Nat) (z : AV) : Holds Tryz.prog G F.speak_parts_left [.tptr [slOf Part.cs m, I i, z] 0] (B (decide ((i : Int) < m.length))) := by
  by_cases h : (i : Int) < m.length
  · have hh : ((i : Int) < m.length) = True := eq_true h
    rw [decide_eq_true h]
    (refine holds_of_sem hG fn_speak_parts_left (by simp) fun w0 S0 hG0 D0 => ?_; unfold c_speak_parts_left cval enterEnv; simp only [List.zipIdx_cons, List.zipIdx_nil, List.map_cons, List.map_nil, Nat.zero_add, Nat.reduceAdd])
    repeat' (first | ((first | refine o1 rfl ?_ | refine o0 rfl ?_); intro k hk; simp (disch := omega) only [ev0, sl_cells, simprocAttr]; refine hk _ _ ?_; clear hk k) | refine ono rfl ?_ | ((first | refine osplitG rfl (fun h => ?_) (fun h => ?_) | refine osplitB rfl (fun h => ?_) (fun h => ?_)) <;> (fail_if_success (simp only [eq_self, reduceCtorEq] at h))) | refine onx ?_ | refine onb ?_ | refine sreg ?_ | refine qT rfl ?_ | refine qF rfl ?_ | refine scondT rfl ?_ | refine scondF rfl ?_ | refine ocondP rfl (fun h => ?_) (fun h => ?_) | refine ocondB rfl (fun h => ?_) (fun h => ?_) | refine scondP rfl (fun h => ?_) (fun h => ?_) | refine scond rfl (fun h => ?_) (fun h => ?_) | refine oskip ?_ | refine oskipb ?_ | refine oret ?_ | refine sem_ret ?_ | refine sem_seq ?_ | refine sreg1 ?_)
    ((refine sem_mgo 9 hmix (by kernel_rfl) ?_; simp only [nt]); (repeat' (first | ((first | apply mop | apply mop0); (case hg => rfl); (case hq => rfl); intro k hk; simp (disch := omega) only [ev0, sl_cells, simprocAttr, slOf, hh, decide_true]; refine hk _ _ rfl ?_; clear hk k) | (apply mno; (case hg => rfl)) | (apply mbox; (case hx => (simp only [wv, simprocAttr] <;> rfl)); (case hg => rfl); (case hall => rfl); (case hr => rfl); simp only [nm, Nat.reduceAdd]) | (apply mbldS; (case hb => (simp (disch := omega) only [ev0, sl_cells, simprocAttr] <;> rfl)); (case hg => rfl); (case hr => rfl); simp only [nm, Nat.reduceAdd]) | ((first | (apply msto (q := 0); (case hq => rfl)) | (apply msto (q := 1); (case hq => rfl)) | (apply msto (q := 2); (case hq => rfl)) | (apply msto (q := 3); (case hq => rfl))); (case hx => (simp only [wv, simprocAttr] <;> rfl)); (case haddr => (simp only [wv, simprocAttr] <;> rfl)); (case hg => rfl); (case hl1 => rfl); (case hl2 => rfl); (case hok => rfl); (case hr => rfl); simp only [nm, Nat.reduceAdd]) | (apply mnil; simp only [SlotR.fin, ns]) | (refine msplit rfl (fun h => ?_) (fun h => ?_) <;> simp only [h] <;> (try simp only [nb] at h)))) <;> (repeat' (first | ((first | refine o1 rfl ?_ | refine o0 rfl ?_); intro k hk; simp (disch := omega) only [ev0, sl_cells, simprocAttr, slOf, hh, decide_true]; refine hk _ _ ?_; clear hk k) | refine ono rfl ?_ | ((first | refine osplitG rfl (fun h => ?_) (fun h => ?_) | refine osplitB rfl (fun h => ?_) (fun h => ?_)) <;> (fail_if_success (simp only [eq_self, reduceCtorEq] at h))) | refine onx ?_ | refine onb ?_ | refine sreg ?_ | refine qT rfl ?_ | refine qF rfl ?_ | refine scondT rfl ?_ | refine scondF rfl ?_ | refine ocondP rfl (fun h => ?_) (fun h => ?_) | refine ocondB rfl (fun h => ?_) (fun h => ?_) | refine scondP rfl (fun h => ?_) (fun h => ?_) | refine scond rfl (fun h => ?_) (fun h => ?_) | refine oskip ?_ | refine oskipb ?_ | refine oret ?_ | refine sem_ret ?_ | refine sem_seq ?_ | refine sreg1 ?_)))
    exact ⟨_, rfl, _, rfl, tree_eq rfl rfl⟩
  · have hh : ((i : Int) < m.length) = False := eq_false h
    rw [decide_eq_false h]
    (refine holds_of_sem hG fn_speak_parts_left (by simp) fun w0 S0 hG0 D0 => ?_; unfold c_speak_parts_left cval enterEnv; simp only [List.zipIdx_cons, List.zipIdx_nil, List.map_cons, List.map_nil, Nat.zero_add, Nat.reduceAdd])
    repeat' (first | ((first | refine o1 rfl ?_ | refine o0 rfl ?_); intro k hk; simp (disch := omega) only [ev0, sl_cells, simprocAttr]; refine hk _ _ ?_; clear hk k) | refine ono rfl ?_ | ((first | refine osplitG rfl (fun h => ?_) (fun h => ?_) | refine osplitB rfl (fun h => ?_) (fun h => ?_)) <;> (fail_if_success (simp only [eq_self, reduceCtorEq] at h))) | refine onx ?_ | refine onb ?_ | refine sreg ?_ | refine qT rfl ?_ | refine qF rfl ?_ | refine scondT rfl ?_ | refine scondF rfl ?_ | refine ocondP rfl (fun h => ?_) (fun h => ?_) | refine ocondB rfl (fun h => ?_) (fun h => ?_) | refine scondP rfl (fun h => ?_) (fun h => ?_) | refine scond rfl (fun h => ?_) (fun h => ?_) | refine oskip ?_ | refine oskipb ?_ | refine oret ?_ | refine sem_ret ?_ | refine sem_seq ?_ | refine sreg1 ?_)
    ((refine sem_mgo 9 hmix (by kernel_rfl) ?_; simp only [nt]); (repeat' (first | ((first | apply mop | apply mop0); (case hg => rfl); (case hq => rfl); intro k hk; simp (disch := omega) only [ev0, sl_cells, simprocAttr, slOf, hh, decide_false]; refine hk _ _ rfl ?_; clear hk k) | (apply mno; (case hg => rfl)) | (apply mbox; (case hx => (simp only [wv, simprocAttr] <;> rfl)); (case hg => rfl); (case hall => rfl); (case hr => rfl); simp only [nm, Nat.reduceAdd]) | (apply mbldS; (case hb => (simp (disch := omega) only [ev0, sl_cells, simprocAttr] <;> rfl)); (case hg => rfl); (case hr => rfl); simp only [nm, Nat.reduceAdd]) | ((first | (apply msto (q := 0); (case hq => rfl)) | (apply msto (q := 1); (case hq => rfl)) | (apply msto (q := 2); (case hq => rfl)) | (apply msto (q := 3); (case hq => rfl))); (case hx => (simp only [wv, simprocAttr] <;> rfl)); (case haddr => (simp only [wv, simprocAttr] <;> rfl)); (case hg => rfl); (case hl1 => rfl); (case hl2 => rfl); (case hok => rfl); (case hr => rfl); simp only [nm, Nat.reduceAdd]) | (apply mnil; simp only [SlotR.fin, ns]) | (refine msplit rfl (fun h => ?_) (fun h => ?_) <;> simp only [h] <;> (try simp only [nb] at h)))) <;> (repeat' (first | ((first | refine o1 rfl ?_ | refine o0 rfl ?_); intro k hk; simp (disch := omega) only [ev0, sl_cells, simprocAttr, slOf, hh, decide_false]; refine hk _ _ ?_; clear hk k) | refine ono rfl ?_ | ((first | refine osplitG rfl (fun h => ?_) (fun h => ?_) | refine osplitB rfl (fun h => ?_) (fun h => ?_)) <;> (fail_if_success (simp only [eq_self, reduceCtorEq] at h))) | refine onx ?_ | refine onb ?_ | refine sreg ?_ | refine qT rfl ?_ | refine qF rfl ?_ | refine scondT rfl ?_ | refine scondF rfl ?_ | refine ocondP rfl (fun h => ?_) (fun h => ?_) | refine ocondB rfl (fun h => ?_) (fun h => ?_) | refine scondP rfl (fun h => ?_) (fun h => ?_) | refine scond rfl (fun h => ?_) (fun h => ?_) | refine oskip ?_ | refine oskipb ?_ | refine oret ?_ | refine sem_ret ?_ | refine sem_seq ?_ | refine sreg1 ?_)))
    exact ⟨_, rfl, _, rfl, tree_eq rfl rfl⟩
theorem sure_true {G : World → Prop} (hG : ∀ w w', G w → RowKit.Below w.heap.size w w' → G w') (s : ByteArray) : Holds Tryz.prog G F.speak_sure [B true, .str s] (.tup []) := by
  (refine holds_of_sem hG fn_speak_sure (by simp) fun w0 S0 hG0 D0 => ?_; unfold c_speak_sure cval enterEnv; simp only [List.zipIdx_cons, List.zipIdx_nil, List.map_cons, List.map_nil, Nat.zero_add, Nat.reduceAdd])
  repeat' (first | ((first | refine o1 rfl ?_ | refine o0 rfl ?_); intro k hk; simp (disch := omega) only [ev0, sl_cells, simprocAttr, Bool.not_true]; refine hk _ _ ?_; clear hk k) | refine ono rfl ?_ | ((first | refine osplitG rfl (fun h => ?_) (fun h => ?_) | refine osplitB rfl (fun h => ?_) (fun h => ?_)) <;> (fail_if_success (simp only [eq_self, reduceCtorEq] at h))) | refine onx ?_ | refine onb ?_ | refine sreg ?_ | refine qT rfl ?_ | refine qF rfl ?_ | refine scondT rfl ?_ | refine scondF rfl ?_ | refine ocondP rfl (fun h => ?_) (fun h => ?_) | refine ocondB rfl (fun h => ?_) (fun h => ?_) | refine scondP rfl (fun h => ?_) (fun h => ?_) | refine scond rfl (fun h => ?_) (fun h => ?_) | refine oskip ?_ | refine oskipb ?_ | refine oret ?_ | refine sem_ret ?_ | refine sem_seq ?_ | refine sreg1 ?_)
  refine sem_skip ?_
  exact ⟨_, rfl, _, rfl, tree_eq rfl rfl⟩
theorem speak_deed {G : World → Prop} (hG : ∀ w w', G w → RowKit.Below w.heap.size w w' → G w') (d : Deed) : Holds Tryz.prog G F.speak_deed [.agg d.cs] (B (decide d.ok)) := by
  obtain ⟨a, n, t⟩ := d
  have g1 := speak_in hG a 1 4
  have g2 := speak_in hG t 1 4
  have g3 := speak_in hG n 1 99
  by_cases h1 : 1 ≤ a ∧ a ≤ 4
  · rw [decide_eq_true h1] at g1
    by_cases h2 : 1 ≤ t ∧ t ≤ 4
    · rw [decide_eq_true h2] at g2
      rw [show decide (Deed.ok ⟨a, n, t⟩) = decide (1 ≤ n ∧ n ≤ 99) from decide_eq_decide.2 ⟨fun q => q.2.2, fun q => ⟨h1, h2, q⟩⟩]
      (refine holds_of_sem hG fn_speak_deed (by simp) fun w0 S0 hG0 D0 => ?_; unfold c_speak_deed cval enterEnv; simp only [List.zipIdx_cons, List.zipIdx_nil, List.map_cons, List.map_nil, Nat.zero_add, Nat.reduceAdd])
      repeat' (first | ((first | refine o1 rfl ?_ | refine o0 rfl ?_); intro k hk; simp (disch := omega) only [ev0, sl_cells, simprocAttr, Deed.cs]; refine hk _ _ ?_; clear hk k) | refine ono rfl ?_ | (apply ocall; (case he => (simp only [ev0, sl_cells, simprocAttr] <;> rfl)); (case hc => first | exact g1 | exact g2 | exact g3); (case ht => rfl); (case hg => rfl)) | ((first | refine osplitG rfl (fun h => ?_) (fun h => ?_) | refine osplitB rfl (fun h => ?_) (fun h => ?_)) <;> (fail_if_success (simp only [eq_self, reduceCtorEq] at h))) | refine onx ?_ | refine onb ?_ | refine sreg ?_ | refine qT rfl ?_ | refine qF rfl ?_ | refine scondT rfl ?_ | refine scondF rfl ?_ | refine ocondP rfl (fun h => ?_) (fun h => ?_) | refine ocondB rfl (fun h => ?_) (fun h => ?_) | refine scondP rfl (fun h => ?_) (fun h => ?_) | refine scond rfl (fun h => ?_) (fun h => ?_) | refine oskip ?_ | refine oskipb ?_ | refine oret ?_ | refine sem_ret ?_ | refine sem_seq ?_ | refine sreg1 ?_)
      exact ⟨_, rfl, _, rfl, tree_eq rfl rfl⟩
    · rw [decide_eq_false h2] at g2
      rw [decide_eq_false (show ¬ Deed.ok ⟨a, n, t⟩ from fun q => h2 q.2.1)]
      (refine holds_of_sem hG fn_speak_deed (by simp) fun w0 S0 hG0 D0 => ?_; unfold c_speak_deed cval enterEnv; simp only [List.zipIdx_cons, List.zipIdx_nil, List.map_cons, List.map_nil, Nat.zero_add, Nat.reduceAdd])
      repeat' (first | ((first | refine o1 rfl ?_ | refine o0 rfl ?_); intro k hk; simp (disch := omega) only [ev0, sl_cells, simprocAttr, Deed.cs]; refine hk _ _ ?_; clear hk k) | refine ono rfl ?_ | (apply ocall; (case he => (simp only [ev0, sl_cells, simprocAttr] <;> rfl)); (case hc => first | exact g1 | exact g2 | exact g3); (case ht => rfl); (case hg => rfl)) | ((first | refine osplitG rfl (fun h => ?_) (fun h => ?_) | refine osplitB rfl (fun h => ?_) (fun h => ?_)) <;> (fail_if_success (simp only [eq_self, reduceCtorEq] at h))) | refine onx ?_ | refine onb ?_ | refine sreg ?_ | refine qT rfl ?_ | refine qF rfl ?_ | refine scondT rfl ?_ | refine scondF rfl ?_ | refine ocondP rfl (fun h => ?_) (fun h => ?_) | refine ocondB rfl (fun h => ?_) (fun h => ?_) | refine scondP rfl (fun h => ?_) (fun h => ?_) | refine scond rfl (fun h => ?_) (fun h => ?_) | refine oskip ?_ | refine oskipb ?_ | refine oret ?_ | refine sem_ret ?_ | refine sem_seq ?_ | refine sreg1 ?_)
      exact ⟨_, rfl, _, rfl, tree_eq rfl rfl⟩
  · rw [decide_eq_false h1] at g1
    rw [decide_eq_false (show ¬ Deed.ok ⟨a, n, t⟩ from fun q => h1 q.1)]
    (refine holds_of_sem hG fn_speak_deed (by simp) fun w0 S0 hG0 D0 => ?_; unfold c_speak_deed cval enterEnv; simp only [List.zipIdx_cons, List.zipIdx_nil, List.map_cons, List.map_nil, Nat.zero_add, Nat.reduceAdd])
    repeat' (first | ((first | refine o1 rfl ?_ | refine o0 rfl ?_); intro k hk; simp (disch := omega) only [ev0, sl_cells, simprocAttr, Deed.cs]; refine hk _ _ ?_; clear hk k) | refine ono rfl ?_ | (apply ocall; (case he => (simp only [ev0, sl_cells, simprocAttr] <;> rfl)); (case hc => first | exact g1 | exact g2 | exact g3); (case ht => rfl); (case hg => rfl)) | ((first | refine osplitG rfl (fun h => ?_) (fun h => ?_) | refine osplitB rfl (fun h => ?_) (fun h => ?_)) <;> (fail_if_success (simp only [eq_self, reduceCtorEq] at h))) | refine onx ?_ | refine onb ?_ | refine sreg ?_ | refine qT rfl ?_ | refine qF rfl ?_ | refine scondT rfl ?_ | refine scondF rfl ?_ | refine ocondP rfl (fun h => ?_) (fun h => ?_) | refine ocondB rfl (fun h => ?_) (fun h => ?_) | refine scondP rfl (fun h => ?_) (fun h => ?_) | refine scond rfl (fun h => ?_) (fun h => ?_) | refine oskip ?_ | refine oskipb ?_ | refine oret ?_ | refine sem_ret ?_ | refine sem_seq ?_ | refine sreg1 ?_)
    exact ⟨_, rfl, _, rfl, tree_eq rfl rfl⟩
variable {K : Ctx} (hP : K.P = Tryz.prog) (hGK : ∀ w w', K.G w → RowKit.Below w.heap.size w w' → K.G w')
include hP hGK
theorem sure_false (s : ByteArray) (μ : List AObj) : ACalls K F.speak_sure [B false, .str s] μ fun ae ν => ae = .panic (wrongV s) ∧ ν = μ := by
  obtain ⟨P, w0, S0, G, hG0⟩ := K
  simp only at hP hGK
  subst hP
  refine acalls_of_sem fn_speak_sure (by simp) fun D => ?_
  unfold c_speak_sure cval enterEnv
  simp only [List.zipIdx_cons, List.zipIdx_nil, List.map_cons, List.map_nil, Nat.zero_add, Nat.reduceAdd]
  repeat' (first | ((first | refine o1 rfl ?_ | refine o0 rfl ?_); intro k hk; simp (disch := omega) only [ev0, sl_cells, simprocAttr]; refine hk _ _ ?_; clear hk k) | refine ono rfl ?_ | ((first | refine osplitG rfl (fun h => ?_) (fun h => ?_) | refine osplitB rfl (fun h => ?_) (fun h => ?_)) <;> (fail_if_success (simp only [eq_self, reduceCtorEq] at h))) | refine onx ?_ | refine onb ?_ | refine sreg ?_ | refine qT rfl ?_ | refine qF rfl ?_ | refine scondT rfl ?_ | refine scondF rfl ?_ | refine ocondP rfl (fun h => ?_) (fun h => ?_) | refine ocondB rfl (fun h => ?_) (fun h => ?_) | refine scondP rfl (fun h => ?_) (fun h => ?_) | refine scond rfl (fun h => ?_) (fun h => ?_) | refine oskip ?_ | refine oskipb ?_ | refine oret ?_ | refine sem_ret ?_ | refine sem_seq ?_ | refine sreg1 ?_)
  refine semL_pan rfl rfl ?_
  exact ⟨rfl, rfl⟩
theorem operand_at {m : List Part} {i : Nat} {cs : List Deed} (h : ACalls K F.speak_motion_operand [.ptr 0 0 3 0 0] (opM m i cs) (opPost m cs 0 1 (opM m i cs) (opd m i))) {μ2 : List AObj} {p q : Nat} (hpq : p ≠ q)
    (hp : μ2[p]? = some (opB q m i cs)) (hq : μ2[q]? = some (opC cs)) : ACalls K F.speak_motion_operand [.ptr p 0 3 0 0] μ2 (opPost m cs p q μ2 (opd m i)) := by
  have hpl := (List.getElem?_eq_some_iff.1 hp).1
  have hql := (List.getElem?_eq_some_iff.1 hq).1
  have hpg : μ2.getD p .gone = opB q m i cs := by simp [List.getD, hp]
  have hqg : μ2.getD q .gone = opC cs := by simp [List.getD, hq]
  have b0 : backOf [p, q] p = 0 := by simp [backOf]
  have b1 : backOf [p, q] q = 1 := by simp [backOf, List.idxOf_cons, beq_eq_false_iff_ne.2 hpq]
  have rr : ∀ (g : Nat → Nat) (cs : List Deed), (rowL Deed.cs cs).map (renL g) = rowL Deed.cs cs := fun g cs => ren_rowL fun _ => rfl
  have ri : ∀ (g : Nat → Bool) (cs : List Deed), (rowL Deed.cs cs).all (inL g) = true := fun g cs => in_rowL fun _ => rfl
  refine (h.placed (μ2 := μ2) (args2 := [.ptr p 0 3 0 0]) [p, q] ?_ ?_ ?_ ?_).imp fun ae ν hr => ?_
  · simp only [placeOK, Bool.and_eq_true, decide_eq_true_eq, List.all_cons, List.all_nil, hpg, hqg, opB, opC, inO, inL, inA, slOf, ri]
    simp [hpq, hpl, hql]
  · simp only [List.map_cons, List.map_nil, hpg, hqg, opB, opC, renO, renL, renA, b1, slOf, rr]
    rfl
  · simp [renL, renA, b0]
  · simp [inL, inA]
  · obtain ⟨ae1, ν1, hr1, rfl, rfl⟩ := hr
    have hB : ∀ (j : Nat) (c : List Deed), renO (posOf [p, q] μ2.length) (opB 1 m j c) = opB q m j c := fun j c => by
      simp only [opB, renO, renL, renA, slOf, List.map_cons, List.map_nil]
      rfl
    have hC : ∀ c : List Deed, renO (posOf [p, q] μ2.length) (opC c) = opC c := fun c => by
      simp only [opC, renO, rr]
    generalize opd m i = o at hr1 ⊢
    cases o with
    | some r =>
      obtain ⟨a, j⟩ := r
      obtain ⟨rfl, rfl⟩ : ae1 = .ret a.av ∧ ν1 = [opB 1 m j (cs ++ a.clauses), opC (cs ++ a.clauses)] := hr1
      refine ⟨by simp only [renEnd, av_ren], ?_⟩
      exact put_two hpq hpl hql _ _ _ _ (hB j _) (hC _)
    | none =>
      obtain ⟨s, i', cs', rfl, rfl⟩ : ∃ s i' cs', ae1 = .panic (wrongV s) ∧ ν1 = [opB 1 m i' cs', opC cs'] := hr1
      exact ⟨s, i', cs', rfl, put_two hpq hpl hql _ _ _ _ (hB i' _) (hC _)⟩
theorem speak_operand (m : List Part) (hl : m.length ≤ 100000) : ∀ (n i : Nat) (cs : List Deed), i ≤ m.length → m.length - i < n → cs.length ≤ i → ACalls K F.speak_motion_operand [.ptr 0 0 3 0 0] (opM m i cs) (opPost m cs 0 1 (opM m i cs) (opd m i))
  | 0, i, cs, _, h, _ => absurd h (Nat.not_lt_zero _)
  | n + 1, i, cs, hi, h, hcs => by
    have hsf := fun s μ => sure_false hP hGK s μ
    have ih : ∀ (i' : Nat) (cs' : List Deed) (μ2 : List AObj), i' ≤ m.length → m.length - i' < n → cs'.length ≤ i' → μ2[0]? = some (opB 1 m i' cs') → μ2[1]? = some (opC cs') → ACalls K F.speak_motion_operand [.ptr 0 0 3 0 0] μ2 (opPost m cs' 0 1 μ2 (opd m i')) :=
      fun i' cs' μ2 h1 h2 h3 h4 h5 => operand_at hP hGK (speak_operand m hl n i' cs' h1 h2 h3) (by decide) h4 h5
    obtain ⟨P, w0, S0, G, hG0⟩ := K
    simp only at hP hGK
    subst hP
    have hpl := parts_left hGK m i (slOf Deed.cs cs)
    refine ACalls.dropAny (acalls_of_sem fn_speak_motion_operand (by simp) fun D => ?_) ?_
    rotate_left
    · intro ae ν hr
      unfold opPost at hr
      split at hr
      · next a j _ =>
        obtain ⟨rfl, rfl⟩ := hr
        exact ⟨⟨_, .inl rfl, av_ref _ _⟩, by simp [opM, opB, opC, refM, refO, refL, refA, slOf, rowL_all (enc := Deed.cs) (fun _ _ => rfl)]⟩
      · obtain ⟨s, i', cs', rfl, rfl⟩ := hr
        exact ⟨⟨_, .inr rfl, rfl⟩, by simp [opM, opB, opC, refM, refO, refL, refA, slOf, rowL_all (enc := Deed.cs) (fun _ _ => rfl)]⟩
    unfold c_speak_motion_operand cval enterEnv opM
    simp only [List.zipIdx_cons, List.zipIdx_nil, List.map_cons, List.map_nil, Nat.zero_add, Nat.reduceAdd]
    simp only [opB, opC]
    repeat' (first | ((first | refine o1 rfl ?_ | refine o0 rfl ?_); intro k hk; simp (disch := omega) only [ev0, sl_cells, simprocAttr]; refine hk _ _ ?_; clear hk k) | refine ono rfl ?_ | ((first | refine osplitG rfl (fun h => ?_) (fun h => ?_) | refine osplitB rfl (fun h => ?_) (fun h => ?_)) <;> (fail_if_success (simp only [eq_self, reduceCtorEq] at h))) | refine onx ?_ | refine onb ?_ | refine sreg ?_ | refine qT rfl ?_ | refine qF rfl ?_ | refine scondT rfl ?_ | refine scondF rfl ?_ | refine ocondP rfl (fun h => ?_) (fun h => ?_) | refine ocondB rfl (fun h => ?_) (fun h => ?_) | refine scondP rfl (fun h => ?_) (fun h => ?_) | refine scond rfl (fun h => ?_) (fun h => ?_) | refine oskip ?_ | refine oskipb ?_ | refine oret ?_ | refine sem_ret ?_ | refine sem_seq ?_ | refine sreg1 ?_)
    refine olend (ts := [.tptr [slOf Part.cs m, I i, slOf Deed.cs cs] 0]) hpl rfl (fun i' c t qa qb => ?_) rfl rfl ?_
    · match i', qa, qb with
      | 0, qa, qb =>
        simp only [List.map_cons, List.map_nil, List.getElem?_cons_zero, Option.some.injEq] at qa qb
        subst qa qb
        exact tree_opB (p := 0) (q := 1) rfl rfl
      | i' + 1, qa, qb => simp at qb
    by_cases hi2 : m.length ≤ i
    · rw [decide_eq_false (show ¬ (i : Int) < m.length by omega), opd_end hi2]
      refine semL_acall rfl (hsf _ _) fun ae μ hr => ?_
      obtain ⟨rfl, rfl⟩ := hr
      exact ⟨⟨_, i, cs, rfl, rfl⟩, Nat.le_refl _⟩
    have hi3 : i < m.length := by omega
    have hst := fun s => sure_true hGK s
    have hdc := speak_deed hGK (m.getD i default).deed
    rw [decide_eq_true (show (i : Int) < m.length by omega)]
    rw [opd_eq hi3]
    simp only
    generalize hp : m.getD i default = p at *
    obtain ⟨pk, pa, pn, pt⟩ := p
    by_cases hk : pk = 1
    · subst hk
      rw [if_pos rfl]
      by_cases hok : (Part.deed ⟨1, pa, pn, pt⟩).ok
      rotate_left
      · rw [decide_eq_false hok] at hdc
        rw [if_neg hok]
        repeat' (first | ((first | refine o1 rfl ?_ | refine o0 rfl ?_); intro k hk; simp (disch := omega) only [ev0, sl_cells, simprocAttr]; refine hk _ _ ?_; clear hk k) | refine ono rfl ?_ | (apply ocall; (case he => (simp only [ev0, sl_cells, simprocAttr] <;> rfl)); (case hc => first | exact hst _); (case ht => rfl); (case hg => rfl)) | ((first | refine osplitG rfl (fun h => ?_) (fun h => ?_) | refine osplitB rfl (fun h => ?_) (fun h => ?_)) <;> (fail_if_success (simp only [eq_self, reduceCtorEq] at h))) | refine onx ?_ | refine onb ?_ | refine sreg ?_ | refine qT rfl ?_ | refine qF rfl ?_ | refine scondT rfl ?_ | refine scondF rfl ?_ | refine ocondP rfl (fun h => ?_) (fun h => ?_) | refine ocondB rfl (fun h => ?_) (fun h => ?_) | refine scondP rfl (fun h => ?_) (fun h => ?_) | refine scond rfl (fun h => ?_) (fun h => ?_) | refine oskip ?_ | refine oskipb ?_ | refine oret ?_ | refine sem_ret ?_ | refine sem_seq ?_ | refine sreg1 ?_)
        ((refine sem_mgo 13 hmix (by kernel_rfl) ?_; simp only [nt]); (repeat' (first | ((first | apply mop | apply mop0); (case hg => rfl); (case hq => rfl); intro k hk; simp (disch := omega) only [ev0, sl_cells, simprocAttr, slOf, hp, Part.cs]; refine hk _ _ rfl ?_; clear hk k) | (apply mno; (case hg => rfl)) | (apply mcall; (case he => (simp only [ev0, sl_cells, simprocAttr] <;> rfl)); (case hc => first | exact hst _ | exact hdc); (case ht => rfl); (case hg => rfl); (case hr => rfl)) | (apply mbox; (case hx => (simp only [wv, simprocAttr] <;> rfl)); (case hg => rfl); (case hall => rfl); (case hr => rfl); simp only [nm, Nat.reduceAdd]) | (apply mbldS; (case hb => (simp (disch := omega) only [ev0, sl_cells, simprocAttr] <;> rfl)); (case hg => rfl); (case hr => rfl); simp only [nm, Nat.reduceAdd]) | ((first | (apply msto (q := 0); (case hq => rfl)) | (apply msto (q := 1); (case hq => rfl)) | (apply msto (q := 2); (case hq => rfl)) | (apply msto (q := 3); (case hq => rfl))); (case hx => (simp only [wv, simprocAttr] <;> rfl)); (case haddr => (simp only [wv, simprocAttr] <;> rfl)); (case hg => rfl); (case hl1 => rfl); (case hl2 => rfl); (case hok => rfl); (case hr => rfl); simp only [nm, Nat.reduceAdd]) | (apply mnil; simp only [SlotR.fin, ns]) | (refine msplit rfl (fun h => ?_) (fun h => ?_) <;> simp only [h] <;> (try simp only [nb] at h)))) <;> (repeat' (first | ((first | refine o1 rfl ?_ | refine o0 rfl ?_); intro k hk; simp (disch := omega) only [ev0, sl_cells, simprocAttr, slOf, hp, Part.cs]; refine hk _ _ ?_; clear hk k) | refine ono rfl ?_ | (apply ocall; (case he => (simp only [ev0, sl_cells, simprocAttr] <;> rfl)); (case hc => first | exact hst _ | exact hdc); (case ht => rfl); (case hg => rfl)) | ((first | refine osplitG rfl (fun h => ?_) (fun h => ?_) | refine osplitB rfl (fun h => ?_) (fun h => ?_)) <;> (fail_if_success (simp only [eq_self, reduceCtorEq] at h))) | refine onx ?_ | refine onb ?_ | refine sreg ?_ | refine qT rfl ?_ | refine qF rfl ?_ | refine scondT rfl ?_ | refine scondF rfl ?_ | refine ocondP rfl (fun h => ?_) (fun h => ?_) | refine ocondB rfl (fun h => ?_) (fun h => ?_) | refine scondP rfl (fun h => ?_) (fun h => ?_) | refine scond rfl (fun h => ?_) (fun h => ?_) | refine oskip ?_ | refine oskipb ?_ | refine oret ?_ | refine sem_ret ?_ | refine sem_seq ?_ | refine sreg1 ?_)))
        refine semL_acall rfl (hsf _ _) fun ae μ hr => ?_
        obtain ⟨rfl, rfl⟩ := hr
        exact ⟨⟨_, i + 1, cs, rfl, rfl⟩, Nat.le_add_left _ _⟩
      · rw [decide_eq_true hok] at hdc
        rw [if_pos hok]
        repeat' (first | ((first | refine o1 rfl ?_ | refine o0 rfl ?_); intro k hk; simp (disch := omega) only [ev0, sl_cells, simprocAttr]; refine hk _ _ ?_; clear hk k) | refine ono rfl ?_ | (apply ocall; (case he => (simp only [ev0, sl_cells, simprocAttr] <;> rfl)); (case hc => first | exact hst _); (case ht => rfl); (case hg => rfl)) | ((first | refine osplitG rfl (fun h => ?_) (fun h => ?_) | refine osplitB rfl (fun h => ?_) (fun h => ?_)) <;> (fail_if_success (simp only [eq_self, reduceCtorEq] at h))) | refine onx ?_ | refine onb ?_ | refine sreg ?_ | refine qT rfl ?_ | refine qF rfl ?_ | refine scondT rfl ?_ | refine scondF rfl ?_ | refine ocondP rfl (fun h => ?_) (fun h => ?_) | refine ocondB rfl (fun h => ?_) (fun h => ?_) | refine scondP rfl (fun h => ?_) (fun h => ?_) | refine scond rfl (fun h => ?_) (fun h => ?_) | refine oskip ?_ | refine oskipb ?_ | refine oret ?_ | refine sem_ret ?_ | refine sem_seq ?_ | refine sreg1 ?_)
        ((refine sem_mgo 13 hmix (by kernel_rfl) ?_; simp only [nt]); (repeat' (first | ((first | apply mop | apply mop0); (case hg => rfl); (case hq => rfl); intro k hk; simp (disch := omega) only [ev0, sl_cells, simprocAttr, slOf, hp, Part.cs]; refine hk _ _ rfl ?_; clear hk k) | (apply mno; (case hg => rfl)) | (apply mcall; (case he => (simp only [ev0, sl_cells, simprocAttr] <;> rfl)); (case hc => first | exact hst _ | exact hdc); (case ht => rfl); (case hg => rfl); (case hr => rfl)) | (apply mbox; (case hx => (simp only [wv, simprocAttr] <;> rfl)); (case hg => rfl); (case hall => rfl); (case hr => rfl); simp only [nm, Nat.reduceAdd]) | (apply mbldS; (case hb => (simp (disch := omega) only [ev0, sl_cells, simprocAttr] <;> rfl)); (case hg => rfl); (case hr => rfl); simp only [nm, Nat.reduceAdd]) | ((first | (apply msto (q := 0); (case hq => rfl)) | (apply msto (q := 1); (case hq => rfl)) | (apply msto (q := 2); (case hq => rfl)) | (apply msto (q := 3); (case hq => rfl))); (case hx => (simp only [wv, simprocAttr] <;> rfl)); (case haddr => (simp only [wv, simprocAttr] <;> rfl)); (case hg => rfl); (case hl1 => rfl); (case hl2 => rfl); (case hok => rfl); (case hr => rfl); simp only [nm, Nat.reduceAdd]) | (apply mnil; simp only [SlotR.fin, ns]) | (refine msplit rfl (fun h => ?_) (fun h => ?_) <;> simp only [h] <;> (try simp only [nb] at h)))) <;> (repeat' (first | ((first | refine o1 rfl ?_ | refine o0 rfl ?_); intro k hk; simp (disch := omega) only [ev0, sl_cells, simprocAttr, slOf, hp, Part.cs]; refine hk _ _ ?_; clear hk k) | refine ono rfl ?_ | (apply ocall; (case he => (simp only [ev0, sl_cells, simprocAttr] <;> rfl)); (case hc => first | exact hst _ | exact hdc); (case ht => rfl); (case hg => rfl)) | ((first | refine osplitG rfl (fun h => ?_) (fun h => ?_) | refine osplitB rfl (fun h => ?_) (fun h => ?_)) <;> (fail_if_success (simp only [eq_self, reduceCtorEq] at h))) | refine onx ?_ | refine onb ?_ | refine sreg ?_ | refine qT rfl ?_ | refine qF rfl ?_ | refine scondT rfl ?_ | refine scondF rfl ?_ | refine ocondP rfl (fun h => ?_) (fun h => ?_) | refine ocondB rfl (fun h => ?_) (fun h => ?_) | refine scondP rfl (fun h => ?_) (fun h => ?_) | refine scond rfl (fun h => ?_) (fun h => ?_) | refine oskip ?_ | refine oskipb ?_ | refine oret ?_ | refine sem_ret ?_ | refine sem_seq ?_ | refine sreg1 ?_)))
        obtain ⟨R, hR⟩ : ∃ R : Nat → AV, R = fun i' => ([.ptr 0 0 3 0 0, .ptr 0 0 3 0 0, .ptr 0 0 3 0 0, .ptr 0 0 3 0 2, .hsl 1 cs.length 3 cs.length, .agg [I pa, I pn, I pt], .hsl 4 0 3 1, .hsl 1 (cs.length + 1) 3 (cs.length + 1)] : List AV).getD i' .dead := ⟨_, rfl⟩
        obtain ⟨N, hN⟩ : ∃ N : Nat → List AObj, N = fun j' => ([[opB 1 m (i + 1) cs, opC cs, .row 90 0 4 [[I 1, I pa, I pn, I pt]], .row 94 0 3 [[I pa, I pn, I pt]]], [opB 1 m (i + 1) cs, opC cs, .row 90 0 4 [[I 1, I pa, I pn, I pt]], .row 94 0 3 [[I pa, I pn, I pt]], .row 94 0 3 [[I pa, I pn, I pt]]], [opB 1 m (i + 1) cs, .row 94 (cs.length + 1) 3 (rowL Deed.cs cs ++ [[I pa, I pn, I pt]]), .row 90 0 4 [[I 1, I pa, I pn, I pt]], .row 94 0 3 [[I pa, I pn, I pt]], .row 94 0 3 [[I pa, I pn, I pt]]]] : List (List AObj)).getD j' [] := ⟨_, rfl⟩
        have e1 := rowL_take (enc := Deed.cs) (l := cs)
        refine any_start hmix ?_
        change AnyC _ _ _ _ _ 0 ⟨_, [opB 1 m (i + 1) cs, opC cs, .row 90 0 4 [[I 1, I pa, I pn, I pt]], .row 94 0 3 [[I pa, I pn, I pt]]]⟩
        rw [show [opB 1 m (i + 1) cs, opC cs, .row 90 0 4 [[I 1, I pa, I pn, I pt]], .row 94 0 3 [[I pa, I pn, I pt]]] = N 0 by rw [hN]; rfl]
        refine any_effN 0 8 [6, 7] N R (by kernel_rfl) (by kernel_rfl) (fun i' _ a1 a2 j' a3 _ _ => ?_) (fun k' a1 => ?_) ?_
        · have hi' : i' = 0 ∨ i' = 1 ∨ i' = 2 ∨ i' = 3 ∨ i' = 4 ∨ i' = 5 := by
            simp only [List.mem_cons, List.not_mem_nil, or_false] at a2; omega
          have hj' : j' = 0 ∨ j' = 1 ∨ j' = 2 := by
            simp only [List.length_cons, List.length_nil] at a3; omega
          rcases hi' with rfl | rfl | rfl | rfl | rfl | rfl <;> rcases hj' with rfl | rfl | rfl
          all_goals
            refine .inl ⟨rfl, rfl, ?_⟩
            rw [hR, hN]
            simp (disch := omega) only [befN, List.replicate_zero, opB, opC, envAt, opAt, List.getD_cons_succ, List.getD_cons_zero, slOf, pushE, quietK, and_self, if_true, wv, simprocAttr, ev0, sl_cells]
        · have hk' : k' = 0 ∨ k' = 1 := by simp only [List.length_cons, List.length_nil] at a1; omega
          rcases hk' with rfl | rfl
          · refine ⟨rfl, .inl ?_⟩
            rw [hR, hN]
            simp (disch := omega) only [befN, List.replicate_zero, opB, opC, envAt, opAt, List.getD_cons_succ, List.getD_cons_zero, slOf, pushE, quietK, and_self, if_true, wv, simprocAttr, ev0, sl_cells, nm, Nat.reduceAdd]
          · refine ⟨rfl, .inl ?_⟩
            rw [hR, hN]
            simp (disch := omega) only [befN, List.replicate_zero, opB, opC, envAt, opAt, List.getD_cons_succ, List.getD_cons_zero, slOf, pushE, quietK, and_self, if_true, wv, simprocAttr, ev0, sl_cells, nm, Nat.reduceAdd, e1]
        · rw [show N [6, 7].length = [opB 1 m (i + 1) cs, .row 94 (cs.length + 1) 3 (rowL Deed.cs cs ++ [[I pa, I pn, I pt]]), .row 90 0 4 [[I 1, I pa, I pn, I pt]], .row 94 0 3 [[I pa, I pn, I pt]], .row 94 0 3 [[I pa, I pn, I pt]]] by rw [hN]; rfl]
          refine any_seq 8 11 (by kernel_rfl) ?_
          rw [hR]
          simp only [befN, List.replicate_zero, List.nil_append, List.drop_zero, nt, envAt, opAt, List.getD_cons_succ, List.getD_cons_zero, pushE, opB]
          repeat' (first | ((first | refine o1 rfl ?_ | refine o0 rfl ?_); intro k hk; simp (disch := omega) only [ev0, sl_cells, simprocAttr]; refine hk _ _ ?_; clear hk k) | refine ono rfl ?_ | ((first | refine osplitG rfl (fun h => ?_) (fun h => ?_) | refine osplitB rfl (fun h => ?_) (fun h => ?_)) <;> (fail_if_success (simp only [eq_self, reduceCtorEq] at h))) | refine onx ?_ | refine onb ?_ | refine sreg ?_ | refine qT rfl ?_ | refine qF rfl ?_ | refine scondT rfl ?_ | refine scondF rfl ?_ | refine ocondP rfl (fun h => ?_) (fun h => ?_) | refine ocondB rfl (fun h => ?_) (fun h => ?_) | refine scondP rfl (fun h => ?_) (fun h => ?_) | refine scond rfl (fun h => ?_) (fun h => ?_) | refine oskip ?_ | refine oskipb ?_ | refine oret ?_ | refine sem_ret ?_ | refine sem_seq ?_ | refine sreg1 ?_)
          refine onil ?_
          change AnyC _ _ _ _ _ 11 _
          refine any_end 11 rfl ?_
          change sem _ _ _ _ _
          repeat' (first | ((first | refine o1 rfl ?_ | refine o0 rfl ?_); intro k hk; simp (disch := omega) only [ev0, sl_cells, simprocAttr]; refine hk _ _ ?_; clear hk k) | refine ono rfl ?_ | ((first | refine osplitG rfl (fun h => ?_) (fun h => ?_) | refine osplitB rfl (fun h => ?_) (fun h => ?_)) <;> (fail_if_success (simp only [eq_self, reduceCtorEq] at h))) | refine onx ?_ | refine onb ?_ | refine sreg ?_ | refine qT rfl ?_ | refine qF rfl ?_ | refine scondT rfl ?_ | refine scondF rfl ?_ | refine ocondP rfl (fun h => ?_) (fun h => ?_) | refine ocondB rfl (fun h => ?_) (fun h => ?_) | refine scondP rfl (fun h => ?_) (fun h => ?_) | refine scond rfl (fun h => ?_) (fun h => ?_) | refine oskip ?_ | refine oskipb ?_ | refine oret ?_ | refine sem_ret ?_ | refine sem_seq ?_ | refine sreg1 ?_)
          refine ⟨_, rfl, ⟨rfl, ?_⟩, Nat.le_add_left _ _⟩
          have e2 : rowL Deed.cs cs ++ [[I pa, I pn, I pt]] = rowL Deed.cs (cs ++ [⟨pa, pn, pt⟩]) := by
            rw [show [I pa, I pn, I pt] = Deed.cs ⟨pa, pn, pt⟩ from rfl, rowL_snoc]
          rw [e2]
          show _ = [opB 1 m (i + 1) (cs ++ [⟨pa, pn, pt⟩]), opC (cs ++ [⟨pa, pn, pt⟩])]
          simp only [opB, opC, List.length_append, List.length_cons, List.length_nil, Nat.zero_add]
          rfl
    · have hkk : (pk = 1) = False := eq_false hk
      rw [if_neg hk]
      have hin := speak_in hGK pk 2 4
      by_cases ho : pa = 0 ∧ pn = 0 ∧ pt = 0
      · obtain ⟨rfl, rfl, rfl⟩ := ho
        by_cases hop : 2 ≤ pk ∧ pk ≤ 4
        · rw [decide_eq_true hop] at hin
          rw [if_pos (show Part.op ⟨pk, 0, 0, 0⟩ from ⟨⟨rfl, rfl, rfl⟩, hop⟩)]
          by_cases k2 : pk = 2
          · subst k2
            repeat' (first | ((first | refine o1 rfl ?_ | refine o0 rfl ?_); intro k hk; simp (disch := omega) only [ev0, sl_cells, simprocAttr]; refine hk _ _ ?_; clear hk k) | refine ono rfl ?_ | (apply ocall; (case he => (simp only [ev0, sl_cells, simprocAttr] <;> rfl)); (case hc => first | exact hst _); (case ht => rfl); (case hg => rfl)) | ((first | refine osplitG rfl (fun h => ?_) (fun h => ?_) | refine osplitB rfl (fun h => ?_) (fun h => ?_)) <;> (fail_if_success (simp only [eq_self, reduceCtorEq] at h))) | refine onx ?_ | refine onb ?_ | refine sreg ?_ | refine qT rfl ?_ | refine qF rfl ?_ | refine scondT rfl ?_ | refine scondF rfl ?_ | refine ocondP rfl (fun h => ?_) (fun h => ?_) | refine ocondB rfl (fun h => ?_) (fun h => ?_) | refine scondP rfl (fun h => ?_) (fun h => ?_) | refine scond rfl (fun h => ?_) (fun h => ?_) | refine oskip ?_ | refine oskipb ?_ | refine oret ?_ | refine sem_ret ?_ | refine sem_seq ?_ | refine sreg1 ?_)
            ((refine sem_mgo 13 hmix (by kernel_rfl) ?_; simp only [nt]); (repeat' (first | ((first | apply mop | apply mop0); (case hg => rfl); (case hq => rfl); intro k hk; simp (disch := omega) only [ev0, sl_cells, simprocAttr, slOf, hp, Part.cs, hkk, eqA, leafA, decide_true, beq_self_eq_true, Bool.and_self]; refine hk _ _ rfl ?_; clear hk k) | (apply mno; (case hg => rfl)) | (apply mcall; (case he => (simp only [ev0, sl_cells, simprocAttr] <;> rfl)); (case hc => first | exact hst _ | exact hin); (case ht => rfl); (case hg => rfl); (case hr => rfl)) | (apply mbox; (case hx => (simp only [wv, simprocAttr] <;> rfl)); (case hg => rfl); (case hall => rfl); (case hr => rfl); simp only [nm, Nat.reduceAdd]) | (apply mbldS; (case hb => (simp (disch := omega) only [ev0, sl_cells, simprocAttr] <;> rfl)); (case hg => rfl); (case hr => rfl); simp only [nm, Nat.reduceAdd]) | ((first | (apply msto (q := 0); (case hq => rfl)) | (apply msto (q := 1); (case hq => rfl)) | (apply msto (q := 2); (case hq => rfl)) | (apply msto (q := 3); (case hq => rfl))); (case hx => (simp only [wv, simprocAttr] <;> rfl)); (case haddr => (simp only [wv, simprocAttr] <;> rfl)); (case hg => rfl); (case hl1 => rfl); (case hl2 => rfl); (case hok => rfl); (case hr => rfl); simp only [nm, Nat.reduceAdd]) | (apply mnil; simp only [SlotR.fin, ns]) | (refine msplit rfl (fun h => ?_) (fun h => ?_) <;> simp only [h] <;> (try simp only [nb] at h)))) <;> (repeat' (first | ((first | refine o1 rfl ?_ | refine o0 rfl ?_); intro k hk; simp (disch := omega) only [ev0, sl_cells, simprocAttr, slOf, hp, Part.cs, hkk, eqA, leafA, decide_true, beq_self_eq_true, Bool.and_self]; refine hk _ _ ?_; clear hk k) | refine ono rfl ?_ | (apply ocall; (case he => (simp only [ev0, sl_cells, simprocAttr] <;> rfl)); (case hc => first | exact hst _ | exact hin); (case ht => rfl); (case hg => rfl)) | ((first | refine osplitG rfl (fun h => ?_) (fun h => ?_) | refine osplitB rfl (fun h => ?_) (fun h => ?_)) <;> (fail_if_success (simp only [eq_self, reduceCtorEq] at h))) | refine onx ?_ | refine onb ?_ | refine sreg ?_ | refine qT rfl ?_ | refine qF rfl ?_ | refine scondT rfl ?_ | refine scondF rfl ?_ | refine ocondP rfl (fun h => ?_) (fun h => ?_) | refine ocondB rfl (fun h => ?_) (fun h => ?_) | refine scondP rfl (fun h => ?_) (fun h => ?_) | refine scond rfl (fun h => ?_) (fun h => ?_) | refine oskip ?_ | refine oskipb ?_ | refine oret ?_ | refine sem_ret ?_ | refine sem_seq ?_ | refine sreg1 ?_)))
            refine semL_acall rfl (ih (i + 1) cs _ (by omega) (by omega) (by omega) rfl rfl) fun ae μ hr => ?_
            generalize ho : opd m (i + 1) = o at hr ⊢
            cases o with
            | none =>
              obtain ⟨s, i', cs', rfl, rfl⟩ := hr
              exact ⟨⟨s, i', cs', rfl, rfl⟩, Nat.le_add_left _ _⟩
            | some r =>
              obtain ⟨a, j⟩ := r
              obtain ⟨rfl, rfl⟩ := hr
              change semL _ _ _ ⟨(73, a.av) :: _, _⟩ _
              simp only [List.set_cons_zero, List.set_cons_succ, av_eq]
              repeat' (first | ((first | refine o1 rfl ?_ | refine o0 rfl ?_); intro k hk; simp (disch := omega) only [ev0, sl_cells, simprocAttr]; refine hk _ _ ?_; clear hk k) | refine ono rfl ?_ | ((first | refine osplitG rfl (fun h => ?_) (fun h => ?_) | refine osplitB rfl (fun h => ?_) (fun h => ?_)) <;> (fail_if_success (simp only [eq_self, reduceCtorEq] at h))) | refine onx ?_ | refine onb ?_ | refine sreg ?_ | refine qT rfl ?_ | refine qF rfl ?_ | refine scondT rfl ?_ | refine scondF rfl ?_ | refine ocondP rfl (fun h => ?_) (fun h => ?_) | refine ocondB rfl (fun h => ?_) (fun h => ?_) | refine scondP rfl (fun h => ?_) (fun h => ?_) | refine scond rfl (fun h => ?_) (fun h => ?_) | refine oskip ?_ | refine oskipb ?_ | refine oret ?_ | refine sem_ret ?_ | refine sem_seq ?_ | refine sreg1 ?_)
              refine ⟨_, rfl, ⟨?_, rfl⟩, Nat.le_add_left _ _⟩
              rw [show (Nd.no a).av = .iface 187 (.agg [.iface a.ty a.pay]) by rw [← av_eq]; rfl]
              rfl
          · have k22 : (pk = 2) = False := eq_false k2
            repeat' (first | ((first | refine o1 rfl ?_ | refine o0 rfl ?_); intro k hk; simp (disch := omega) only [ev0, sl_cells, simprocAttr]; refine hk _ _ ?_; clear hk k) | refine ono rfl ?_ | (apply ocall; (case he => (simp only [ev0, sl_cells, simprocAttr] <;> rfl)); (case hc => first | exact hst _); (case ht => rfl); (case hg => rfl)) | ((first | refine osplitG rfl (fun h => ?_) (fun h => ?_) | refine osplitB rfl (fun h => ?_) (fun h => ?_)) <;> (fail_if_success (simp only [eq_self, reduceCtorEq] at h))) | refine onx ?_ | refine onb ?_ | refine sreg ?_ | refine qT rfl ?_ | refine qF rfl ?_ | refine scondT rfl ?_ | refine scondF rfl ?_ | refine ocondP rfl (fun h => ?_) (fun h => ?_) | refine ocondB rfl (fun h => ?_) (fun h => ?_) | refine scondP rfl (fun h => ?_) (fun h => ?_) | refine scond rfl (fun h => ?_) (fun h => ?_) | refine oskip ?_ | refine oskipb ?_ | refine oret ?_ | refine sem_ret ?_ | refine sem_seq ?_ | refine sreg1 ?_)
            ((refine sem_mgo 13 hmix (by kernel_rfl) ?_; simp only [nt]); (repeat' (first | ((first | apply mop | apply mop0); (case hg => rfl); (case hq => rfl); intro k hk; simp (disch := omega) only [ev0, sl_cells, simprocAttr, slOf, hp, Part.cs, hkk, k22, eqA, leafA, decide_true, beq_self_eq_true, Bool.and_self]; refine hk _ _ rfl ?_; clear hk k) | (apply mno; (case hg => rfl)) | (apply mcall; (case he => (simp only [ev0, sl_cells, simprocAttr] <;> rfl)); (case hc => first | exact hst _ | exact hin); (case ht => rfl); (case hg => rfl); (case hr => rfl)) | (apply mbox; (case hx => (simp only [wv, simprocAttr] <;> rfl)); (case hg => rfl); (case hall => rfl); (case hr => rfl); simp only [nm, Nat.reduceAdd]) | (apply mbldS; (case hb => (simp (disch := omega) only [ev0, sl_cells, simprocAttr] <;> rfl)); (case hg => rfl); (case hr => rfl); simp only [nm, Nat.reduceAdd]) | ((first | (apply msto (q := 0); (case hq => rfl)) | (apply msto (q := 1); (case hq => rfl)) | (apply msto (q := 2); (case hq => rfl)) | (apply msto (q := 3); (case hq => rfl))); (case hx => (simp only [wv, simprocAttr] <;> rfl)); (case haddr => (simp only [wv, simprocAttr] <;> rfl)); (case hg => rfl); (case hl1 => rfl); (case hl2 => rfl); (case hok => rfl); (case hr => rfl); simp only [nm, Nat.reduceAdd]) | (apply mnil; simp only [SlotR.fin, ns]) | (refine msplit rfl (fun h => ?_) (fun h => ?_) <;> simp only [h] <;> (try simp only [nb] at h)))) <;> (repeat' (first | ((first | refine o1 rfl ?_ | refine o0 rfl ?_); intro k hk; simp (disch := omega) only [ev0, sl_cells, simprocAttr, slOf, hp, Part.cs, hkk, k22, eqA, leafA, decide_true, beq_self_eq_true, Bool.and_self]; refine hk _ _ ?_; clear hk k) | refine ono rfl ?_ | (apply ocall; (case he => (simp only [ev0, sl_cells, simprocAttr] <;> rfl)); (case hc => first | exact hst _ | exact hin); (case ht => rfl); (case hg => rfl)) | ((first | refine osplitG rfl (fun h => ?_) (fun h => ?_) | refine osplitB rfl (fun h => ?_) (fun h => ?_)) <;> (fail_if_success (simp only [eq_self, reduceCtorEq] at h))) | refine onx ?_ | refine onb ?_ | refine sreg ?_ | refine qT rfl ?_ | refine qF rfl ?_ | refine scondT rfl ?_ | refine scondF rfl ?_ | refine ocondP rfl (fun h => ?_) (fun h => ?_) | refine ocondB rfl (fun h => ?_) (fun h => ?_) | refine scondP rfl (fun h => ?_) (fun h => ?_) | refine scond rfl (fun h => ?_) (fun h => ?_) | refine oskip ?_ | refine oskipb ?_ | refine oret ?_ | refine sem_ret ?_ | refine sem_seq ?_ | refine sreg1 ?_)))
            refine semL_acall rfl (ih (i + 1) cs _ (by omega) (by omega) (by omega) rfl rfl) fun ae μ hr => ?_
            generalize ho : opd m (i + 1) = o at hr ⊢
            cases o with
            | none =>
              obtain ⟨s, i', cs', rfl, rfl⟩ := hr
              exact ⟨⟨s, i', cs', rfl, rfl⟩, Nat.le_add_left _ _⟩
            | some r =>
              obtain ⟨a, j⟩ := r
              obtain ⟨rfl, rfl⟩ := hr
              have hj := opd_lt ho
              have hjc := opd_clauses ho
              change semL _ _ _ ⟨(77, a.av) :: _, _⟩ _
              simp only [List.set_cons_zero, List.set_cons_succ, av_eq, k2, if_false]
              repeat' (first | ((first | refine o1 rfl ?_ | refine o0 rfl ?_); intro k hk; simp (disch := omega) only [ev0, sl_cells, simprocAttr]; refine hk _ _ ?_; clear hk k) | refine ono rfl ?_ | ((first | refine osplitG rfl (fun h => ?_) (fun h => ?_) | refine osplitB rfl (fun h => ?_) (fun h => ?_)) <;> (fail_if_success (simp only [eq_self, reduceCtorEq] at h))) | refine onx ?_ | refine onb ?_ | refine sreg ?_ | refine qT rfl ?_ | refine qF rfl ?_ | refine scondT rfl ?_ | refine scondF rfl ?_ | refine ocondP rfl (fun h => ?_) (fun h => ?_) | refine ocondB rfl (fun h => ?_) (fun h => ?_) | refine scondP rfl (fun h => ?_) (fun h => ?_) | refine scond rfl (fun h => ?_) (fun h => ?_) | refine oskip ?_ | refine oskipb ?_ | refine oret ?_ | refine sem_ret ?_ | refine sem_seq ?_ | refine sreg1 ?_)
              have ih2 := ih j (cs ++ a.clauses) ([opB 1 m j (cs ++ a.clauses), opC (cs ++ a.clauses), .row 90 0 4 [[I pk, I 0, I 0, I 0]]]) (by omega) (by omega) (by rw [List.length_append]; omega) rfl rfl
              cases ho2 : opd m j with
              | none =>
                rw [ho2] at ih2
                obtain ⟨R, hR⟩ : ∃ R : Nat → AV, R = fun i' => ([.ptr 2 0 4 0 0, I pk, .iface a.ty a.pay, .ptr 0 0 3 0 0] : List AV).getD i' .dead := ⟨_, rfl⟩
                refine any_start hmix ?_
                refine any_die 5 4 [0, 1, 2, 3] R (by kernel_rfl) (by omega) (fun i' a1 a2 => .inr (by simp only [List.mem_cons, List.not_mem_nil, or_false]; omega)) ?_ (f := F.speak_motion_operand) (args := [.ptr 0 0 3 0 0]) rfl (by rw [hR]; rfl) (ih2.imp ?_)
                · simp only [List.forall_mem_cons, List.not_mem_nil, false_implies, implies_true, and_true]
                  refine ⟨?_, ?_, ?_, ?_⟩
                  all_goals
                    refine .inl ⟨rfl, rfl, ?_⟩
                    rw [hR]
                    simp (disch := omega) only [envAt, opAt, List.getD_cons_succ, List.getD_cons_zero, slOf, pushE, quietK, and_self, if_true, wv, simprocAttr, ev0, sl_cells]
                · rintro ae ν ⟨s, i', cs', rfl, rfl⟩
                  exact ⟨_, rfl, ⟨s, i', cs', rfl, rfl⟩, Nat.le_add_left _ _⟩
              | some r2 =>
                obtain ⟨b, k⟩ := r2
                rw [ho2] at ih2
                obtain ⟨R, hR⟩ : ∃ R : Nat → AV, R = fun i' => ([.ptr 2 0 4 0 0, I pk, .iface a.ty a.pay, .ptr 0 0 3 0 0, .iface b.ty b.pay] : List AV).getD i' .dead := ⟨_, rfl⟩
                obtain ⟨N, hN⟩ : ∃ N : Nat → List AObj, N = fun j' => ([[opB 1 m j (cs ++ a.clauses), opC (cs ++ a.clauses), .row 90 0 4 [[I pk, I 0, I 0, I 0]]], [opB 1 m k (cs ++ a.clauses ++ b.clauses), opC (cs ++ a.clauses ++ b.clauses), .row 90 0 4 [[I pk, I 0, I 0, I 0]]]] : List (List AObj)).getD j' [] := ⟨_, rfl⟩
                refine any_start hmix ?_
                rw [show [opB 1 m j (cs ++ a.clauses), opC (cs ++ a.clauses), .row 90 0 4 [[I pk, I 0, I 0, I 0]]] = N 0 by rw [hN]; rfl]
                refine any_effN 0 5 [4] N R (by kernel_rfl) (by kernel_rfl) (fun i' _ a1 a2 j' a3 _ _ => ?_) (fun k' a1 => ?_) ?_
                · have hi' : i' = 0 ∨ i' = 1 ∨ i' = 2 ∨ i' = 3 := by
                    simp only [List.mem_cons, List.not_mem_nil, or_false] at a2; omega
                  have hj' : j' = 0 ∨ j' = 1 := by
                    simp only [List.length_cons, List.length_nil] at a3; omega
                  rcases hi' with rfl | rfl | rfl | rfl <;> rcases hj' with rfl | rfl
                  all_goals
                    refine .inl ⟨rfl, rfl, ?_⟩
                    rw [hR, hN]
                    simp (disch := omega) only [befN, List.replicate_zero, envAt, opAt, List.getD_cons_succ, List.getD_cons_zero, slOf, pushE, quietK, and_self, if_true, wv, simprocAttr, ev0, sl_cells]
                · have hk' : k' = 0 := by simp only [List.length_cons, List.length_nil] at a1; omega
                  subst hk'
                  refine ⟨rfl, .inr ⟨F.speak_motion_operand, [.ptr 0 0 3 0 0], by rw [hR]; rfl, ?_⟩⟩
                  rw [hR, hN]
                  refine ih2.imp ?_
                  rintro ae ν ⟨rfl, rfl⟩
                  exact ⟨by rw [av_eq]; rfl, rfl⟩
                · rw [show N [4].length = [opB 1 m k (cs ++ a.clauses ++ b.clauses), opC (cs ++ a.clauses ++ b.clauses), .row 90 0 4 [[I pk, I 0, I 0, I 0]]] by rw [hN]; rfl]
                  refine any_seq 5 8 (by kernel_rfl) ?_
                  rw [hR]
                  simp only [befN, List.replicate_zero, List.nil_append, List.drop_zero, nt, envAt, opAt, List.getD_cons_succ, List.getD_cons_zero, pushE]
                  repeat' (first | ((first | refine o1 rfl ?_ | refine o0 rfl ?_); intro k hk; simp (disch := omega) only [ev0, sl_cells, simprocAttr]; refine hk _ _ ?_; clear hk k) | refine ono rfl ?_ | ((first | refine osplitG rfl (fun h => ?_) (fun h => ?_) | refine osplitB rfl (fun h => ?_) (fun h => ?_)) <;> (fail_if_success (simp only [eq_self, reduceCtorEq] at h))) | refine onx ?_ | refine onb ?_ | refine sreg ?_ | refine qT rfl ?_ | refine qF rfl ?_ | refine scondT rfl ?_ | refine scondF rfl ?_ | refine ocondP rfl (fun h => ?_) (fun h => ?_) | refine ocondB rfl (fun h => ?_) (fun h => ?_) | refine scondP rfl (fun h => ?_) (fun h => ?_) | refine scond rfl (fun h => ?_) (fun h => ?_) | refine oskip ?_ | refine oskipb ?_ | refine oret ?_ | refine sem_ret ?_ | refine sem_seq ?_ | refine sreg1 ?_)
                  refine onil ?_
                  change AnyC _ _ _ _ _ 8 _
                  refine any_end 8 rfl ?_
                  change sem _ _ _ _ _
                  repeat' (first | ((first | refine o1 rfl ?_ | refine o0 rfl ?_); intro k hk; simp (disch := omega) only [ev0, sl_cells, simprocAttr]; refine hk _ _ ?_; clear hk k) | refine ono rfl ?_ | ((first | refine osplitG rfl (fun h => ?_) (fun h => ?_) | refine osplitB rfl (fun h => ?_) (fun h => ?_)) <;> (fail_if_success (simp only [eq_self, reduceCtorEq] at h))) | refine onx ?_ | refine onb ?_ | refine sreg ?_ | refine qT rfl ?_ | refine qF rfl ?_ | refine scondT rfl ?_ | refine scondF rfl ?_ | refine ocondP rfl (fun h => ?_) (fun h => ?_) | refine ocondB rfl (fun h => ?_) (fun h => ?_) | refine scondP rfl (fun h => ?_) (fun h => ?_) | refine scond rfl (fun h => ?_) (fun h => ?_) | refine oskip ?_ | refine oskipb ?_ | refine oret ?_ | refine sem_ret ?_ | refine sem_seq ?_ | refine sreg1 ?_)
                  refine ⟨_, rfl, ⟨?_, ?_⟩, Nat.le_add_left _ _⟩
                  · rw [show (Nd.two pk a b).av = .iface 189 (.agg [I pk, .iface a.ty a.pay, .iface b.ty b.pay]) by rw [← av_eq, ← av_eq]; rfl]
                    rfl
                  · rw [show (Nd.two pk a b).clauses = a.clauses ++ b.clauses from rfl, ← List.append_assoc]
                    rfl
        · rw [decide_eq_false hop] at hin
          rw [if_neg (show ¬ Part.op ⟨pk, 0, 0, 0⟩ from fun q => hop q.2)]
          repeat' (first | ((first | refine o1 rfl ?_ | refine o0 rfl ?_); intro k hk; simp (disch := omega) only [ev0, sl_cells, simprocAttr]; refine hk _ _ ?_; clear hk k) | refine ono rfl ?_ | (apply ocall; (case he => (simp only [ev0, sl_cells, simprocAttr] <;> rfl)); (case hc => first | exact hst _); (case ht => rfl); (case hg => rfl)) | ((first | refine osplitG rfl (fun h => ?_) (fun h => ?_) | refine osplitB rfl (fun h => ?_) (fun h => ?_)) <;> (fail_if_success (simp only [eq_self, reduceCtorEq] at h))) | refine onx ?_ | refine onb ?_ | refine sreg ?_ | refine qT rfl ?_ | refine qF rfl ?_ | refine scondT rfl ?_ | refine scondF rfl ?_ | refine ocondP rfl (fun h => ?_) (fun h => ?_) | refine ocondB rfl (fun h => ?_) (fun h => ?_) | refine scondP rfl (fun h => ?_) (fun h => ?_) | refine scond rfl (fun h => ?_) (fun h => ?_) | refine oskip ?_ | refine oskipb ?_ | refine oret ?_ | refine sem_ret ?_ | refine sem_seq ?_ | refine sreg1 ?_)
          ((refine sem_mgo 13 hmix (by kernel_rfl) ?_; simp only [nt]); (repeat' (first | ((first | apply mop | apply mop0); (case hg => rfl); (case hq => rfl); intro k hk; simp (disch := omega) only [ev0, sl_cells, simprocAttr, slOf, hp, Part.cs, hkk, eqA, leafA, decide_true, beq_self_eq_true, Bool.and_self]; refine hk _ _ rfl ?_; clear hk k) | (apply mno; (case hg => rfl)) | (apply mcall; (case he => (simp only [ev0, sl_cells, simprocAttr] <;> rfl)); (case hc => first | exact hst _ | exact hin); (case ht => rfl); (case hg => rfl); (case hr => rfl)) | (apply mbox; (case hx => (simp only [wv, simprocAttr] <;> rfl)); (case hg => rfl); (case hall => rfl); (case hr => rfl); simp only [nm, Nat.reduceAdd]) | (apply mbldS; (case hb => (simp (disch := omega) only [ev0, sl_cells, simprocAttr] <;> rfl)); (case hg => rfl); (case hr => rfl); simp only [nm, Nat.reduceAdd]) | ((first | (apply msto (q := 0); (case hq => rfl)) | (apply msto (q := 1); (case hq => rfl)) | (apply msto (q := 2); (case hq => rfl)) | (apply msto (q := 3); (case hq => rfl))); (case hx => (simp only [wv, simprocAttr] <;> rfl)); (case haddr => (simp only [wv, simprocAttr] <;> rfl)); (case hg => rfl); (case hl1 => rfl); (case hl2 => rfl); (case hok => rfl); (case hr => rfl); simp only [nm, Nat.reduceAdd]) | (apply mnil; simp only [SlotR.fin, ns]) | (refine msplit rfl (fun h => ?_) (fun h => ?_) <;> simp only [h] <;> (try simp only [nb] at h)))) <;> (repeat' (first | ((first | refine o1 rfl ?_ | refine o0 rfl ?_); intro k hk; simp (disch := omega) only [ev0, sl_cells, simprocAttr, slOf, hp, Part.cs, hkk, eqA, leafA, decide_true, beq_self_eq_true, Bool.and_self]; refine hk _ _ ?_; clear hk k) | refine ono rfl ?_ | (apply ocall; (case he => (simp only [ev0, sl_cells, simprocAttr] <;> rfl)); (case hc => first | exact hst _ | exact hin); (case ht => rfl); (case hg => rfl)) | ((first | refine osplitG rfl (fun h => ?_) (fun h => ?_) | refine osplitB rfl (fun h => ?_) (fun h => ?_)) <;> (fail_if_success (simp only [eq_self, reduceCtorEq] at h))) | refine onx ?_ | refine onb ?_ | refine sreg ?_ | refine qT rfl ?_ | refine qF rfl ?_ | refine scondT rfl ?_ | refine scondF rfl ?_ | refine ocondP rfl (fun h => ?_) (fun h => ?_) | refine ocondB rfl (fun h => ?_) (fun h => ?_) | refine scondP rfl (fun h => ?_) (fun h => ?_) | refine scond rfl (fun h => ?_) (fun h => ?_) | refine oskip ?_ | refine oskipb ?_ | refine oret ?_ | refine sem_ret ?_ | refine sem_seq ?_ | refine sreg1 ?_)))
          refine semL_acall rfl (hsf _ _) fun ae μ hr => ?_
          obtain ⟨rfl, rfl⟩ := hr
          exact ⟨⟨_, i + 1, cs, rfl, rfl⟩, Nat.le_add_left _ _⟩
      · rw [if_neg (show ¬ Part.op ⟨pk, pa, pn, pt⟩ from fun q => ho q.1)]
        have e0 : (decide (pa = 0) && (decide (pn = 0) && decide (pt = 0))) = false := by
          by_cases a1 : pa = 0 <;> by_cases a2 : pn = 0 <;> by_cases a3 : pt = 0 <;> simp_all
        repeat' (first | ((first | refine o1 rfl ?_ | refine o0 rfl ?_); intro k hk; simp (disch := omega) only [ev0, sl_cells, simprocAttr]; refine hk _ _ ?_; clear hk k) | refine ono rfl ?_ | (apply ocall; (case he => (simp only [ev0, sl_cells, simprocAttr] <;> rfl)); (case hc => first | exact hst _); (case ht => rfl); (case hg => rfl)) | ((first | refine osplitG rfl (fun h => ?_) (fun h => ?_) | refine osplitB rfl (fun h => ?_) (fun h => ?_)) <;> (fail_if_success (simp only [eq_self, reduceCtorEq] at h))) | refine onx ?_ | refine onb ?_ | refine sreg ?_ | refine qT rfl ?_ | refine qF rfl ?_ | refine scondT rfl ?_ | refine scondF rfl ?_ | refine ocondP rfl (fun h => ?_) (fun h => ?_) | refine ocondB rfl (fun h => ?_) (fun h => ?_) | refine scondP rfl (fun h => ?_) (fun h => ?_) | refine scond rfl (fun h => ?_) (fun h => ?_) | refine oskip ?_ | refine oskipb ?_ | refine oret ?_ | refine sem_ret ?_ | refine sem_seq ?_ | refine sreg1 ?_)
        ((refine sem_mgo 13 hmix (by kernel_rfl) ?_; simp only [nt]); (repeat' (first | ((first | apply mop | apply mop0); (case hg => rfl); (case hq => rfl); intro k hk; simp (disch := omega) only [ev0, sl_cells, simprocAttr, slOf, hp, Part.cs, hkk, eqA, leafA, decide_true, beq_self_eq_true, Bool.true_and, e0]; refine hk _ _ rfl ?_; clear hk k) | (apply mno; (case hg => rfl)) | (apply mcall; (case he => (simp only [ev0, sl_cells, simprocAttr] <;> rfl)); (case hc => first | exact hst _ | exact hin); (case ht => rfl); (case hg => rfl); (case hr => rfl)) | (apply mbox; (case hx => (simp only [wv, simprocAttr] <;> rfl)); (case hg => rfl); (case hall => rfl); (case hr => rfl); simp only [nm, Nat.reduceAdd]) | (apply mbldS; (case hb => (simp (disch := omega) only [ev0, sl_cells, simprocAttr] <;> rfl)); (case hg => rfl); (case hr => rfl); simp only [nm, Nat.reduceAdd]) | ((first | (apply msto (q := 0); (case hq => rfl)) | (apply msto (q := 1); (case hq => rfl)) | (apply msto (q := 2); (case hq => rfl)) | (apply msto (q := 3); (case hq => rfl))); (case hx => (simp only [wv, simprocAttr] <;> rfl)); (case haddr => (simp only [wv, simprocAttr] <;> rfl)); (case hg => rfl); (case hl1 => rfl); (case hl2 => rfl); (case hok => rfl); (case hr => rfl); simp only [nm, Nat.reduceAdd]) | (apply mnil; simp only [SlotR.fin, ns]) | (refine msplit rfl (fun h => ?_) (fun h => ?_) <;> simp only [h] <;> (try simp only [nb] at h)))) <;> (repeat' (first | ((first | refine o1 rfl ?_ | refine o0 rfl ?_); intro k hk; simp (disch := omega) only [ev0, sl_cells, simprocAttr, slOf, hp, Part.cs, hkk, eqA, leafA, decide_true, beq_self_eq_true, Bool.true_and, e0]; refine hk _ _ ?_; clear hk k) | refine ono rfl ?_ | (apply ocall; (case he => (simp only [ev0, sl_cells, simprocAttr] <;> rfl)); (case hc => first | exact hst _ | exact hin); (case ht => rfl); (case hg => rfl)) | ((first | refine osplitG rfl (fun h => ?_) (fun h => ?_) | refine osplitB rfl (fun h => ?_) (fun h => ?_)) <;> (fail_if_success (simp only [eq_self, reduceCtorEq] at h))) | refine onx ?_ | refine onb ?_ | refine sreg ?_ | refine qT rfl ?_ | refine qF rfl ?_ | refine scondT rfl ?_ | refine scondF rfl ?_ | refine ocondP rfl (fun h => ?_) (fun h => ?_) | refine ocondB rfl (fun h => ?_) (fun h => ?_) | refine scondP rfl (fun h => ?_) (fun h => ?_) | refine scond rfl (fun h => ?_) (fun h => ?_) | refine oskip ?_ | refine oskipb ?_ | refine oret ?_ | refine sem_ret ?_ | refine sem_seq ?_ | refine sreg1 ?_)))
        refine semL_acall rfl (hsf _ _) fun ae μ hr => ?_
        obtain ⟨rfl, rfl⟩ := hr
        exact ⟨⟨_, i + 1, cs, rfl, rfl⟩, Nat.le_add_left _ _⟩
end Go.Proofs.YtcllnnjeaidppaaGreatDoor
