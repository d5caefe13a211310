/- The words of votes: what the program says. -/
import Derived.Test.YtcllnnjeaidppaaGreatDoorPW3
set_option linter.unusedVariables false
set_option linter.unusedSimpArgs false
set_option linter.unusedSectionVars false
set_option maxRecDepth 100000
set_option maxHeartbeats 4000000
namespace Go.Tk
open Go Go.Av
theorem fit_word {l v : Int} {neg : Bool} : ∀ p ∈ tabM, p.1.lang = l → p.1.neg = neg → p.2 = v → wordR l neg v = p.1.word := by
  intro p hp h1 h2 h3
  subst h1 h2 h3
  have : ∀ p ∈ tabM, wordR p.1.lang p.1.neg p.2 = p.1.word := by decide +kernel
  exact this p hp
theorem none_fit {l v : Int} {neg : Bool} (hl : langOk l) (hv : 1 ≤ v ∧ v ≤ 3) (h : ∀ p ∈ tabM, ¬ (p.1.lang = l ∧ p.1.neg = neg ∧ p.2 = v)) : wordR l neg v = wDash := by
  have h3 : v = 3 := by
    rcases (show v = 1 ∨ v = 2 ∨ v = 3 by omega) with e | e | e
    · exfalso
      subst e
      rcases (show l = 0 ∨ l = 1 ∨ l = 2 by unfold langOk at hl; omega) with e | e | e <;> subst e <;> cases neg <;> simp [tabM] at h
    · exfalso
      subst e
      rcases (show l = 0 ∨ l = 1 ∨ l = 2 by unfold langOk at hl; omega) with e | e | e <;> subst e <;> cases neg <;> simp [tabM] at h
    · exact e
  unfold wordR
  rw [if_pos h3]
def fits (l v : Int) (neg : Bool) (p : Sd × Int) : Prop := p.1.lang = l ∧ p.1.neg = neg ∧ p.2 = v
/-- What speak.Word answers. -/
def wordV (l : Int) (neg : Bool) (v : Int) : AV := if langOk l ∧ 1 ≤ v ∧ v ≤ 3 then .tup [.str (wordR l neg v), I 0] else .tup [.str wNil, I 2]
end Go.Tk
namespace Go.Proofs.YtcllnnjeaidppaaGreatDoor
open Go Go.Av Go.Tk
variable {G : World → Prop} (hG : ∀ w w', G w → RowKit.Below w.heap.size w w' → G w') (hT : ∀ w, G w → GB w)
theorem meanings_ev0 : ev T X 60 (.call F.speak_meanings [] []) = some (.en (.ret (.mp 0)) [.map (tabM.map entA)]) := by kernel_rfl
attribute [local irreducible] Holds sem semL ACalls FnIs
include hG hT
theorem speak_meanings0 (K : Ctx) (hP : K.P = Tryz.prog) (hKG : K.G = G) : ACalls K F.speak_meanings [] [] fun ae ν => ae = .ret (.mp 0) ∧ ν = [.map (tabM.map entA)] := by
  have hc := ev_sound _ _ _ meanings_ev0
  simp only [Right] at hc
  exact hc K (kok hG (hX hT) K hP hKG)
theorem speak_Word (l : Int) (neg : Bool) (v : Int) : Holds Tryz.prog G F.speak_Word [I l, B neg, I v] (wordV l neg v) := by
  have hlg := speak_language hG l
  have hmc := speak_meanings0 hG hT
  unfold wordV
  by_cases hl : langOk l
  rotate_left
  · rw [if_neg fun q => hl q.1]
    rw [decide_eq_false hl] at hlg
    (refine holds_of_sem hG fn_speak_Word (by simp) fun w0 S0 hG0 D0 => ?_; unfold c_speak_Word cval enterEnv; simp only [List.zipIdx_cons, List.zipIdx_nil, List.map_cons, List.map_nil, Nat.zero_add, Nat.reduceAdd])
    repeat' (first | ((first | refine o1 rfl ?_ | refine o0 rfl ?_); intro k hk; simp (disch := omega) only [ev0, sl_cells, simprocAttr, Bool.not_false]; refine hk _ _ ?_; clear hk k) | refine ono rfl ?_ | (apply ocall; (case he => (simp only [ev0, sl_cells, simprocAttr] <;> rfl)); (case hc => first | exact hlg); (case ht => rfl); (case hg => rfl)) | ((first | refine osplitG rfl (fun h => ?_) (fun h => ?_) | refine osplitB rfl (fun h => ?_) (fun h => ?_)) <;> (fail_if_success (simp only [eq_self, reduceCtorEq] at h))) | refine onx ?_ | refine onb ?_ | refine sreg ?_ | refine qT rfl ?_ | refine qF rfl ?_ | refine scondT rfl ?_ | refine scondF rfl ?_ | refine ocondP rfl (fun h => ?_) (fun h => ?_) | refine ocondB rfl (fun h => ?_) (fun h => ?_) | refine scondP rfl (fun h => ?_) (fun h => ?_) | refine scond rfl (fun h => ?_) (fun h => ?_) | refine oskip ?_ | refine oskipb ?_ | refine oret ?_ | refine sem_ret ?_ | refine sem_seq ?_ | refine sreg1 ?_)
    exact ⟨_, rfl, _, rfl, tree_eq rfl rfl⟩
  rw [decide_eq_true hl] at hlg
  by_cases hv : 1 ≤ v ∧ v ≤ 3
  rotate_left
  · rw [if_neg fun q => hv q.2]
    have hb : (v < 1) = True ∨ ((v < 1) = False ∧ (3 < v) = True) := by
      by_cases a : v < 1
      · exact .inl (eq_true a)
      · exact .inr ⟨eq_false a, eq_true (by omega)⟩
    rcases hb with h1 | ⟨h1, h2⟩
    · (refine holds_of_sem hG fn_speak_Word (by simp) fun w0 S0 hG0 D0 => ?_; unfold c_speak_Word cval enterEnv; simp only [List.zipIdx_cons, List.zipIdx_nil, List.map_cons, List.map_nil, Nat.zero_add, Nat.reduceAdd])
      repeat' (first | ((first | refine o1 rfl ?_ | refine o0 rfl ?_); intro k hk; simp (disch := omega) only [ev0, sl_cells, simprocAttr, h1, decide_true, Bool.not_true]; refine hk _ _ ?_; clear hk k) | refine ono rfl ?_ | (apply ocall; (case he => (simp only [ev0, sl_cells, simprocAttr] <;> rfl)); (case hc => first | exact hlg); (case ht => rfl); (case hg => rfl)) | ((first | refine osplitG rfl (fun h => ?_) (fun h => ?_) | refine osplitB rfl (fun h => ?_) (fun h => ?_)) <;> (fail_if_success (simp only [eq_self, reduceCtorEq] at h))) | refine onx ?_ | refine onb ?_ | refine sreg ?_ | refine qT rfl ?_ | refine qF rfl ?_ | refine scondT rfl ?_ | refine scondF rfl ?_ | refine ocondP rfl (fun h => ?_) (fun h => ?_) | refine ocondB rfl (fun h => ?_) (fun h => ?_) | refine scondP rfl (fun h => ?_) (fun h => ?_) | refine scond rfl (fun h => ?_) (fun h => ?_) | refine oskip ?_ | refine oskipb ?_ | refine oret ?_ | refine sem_ret ?_ | refine sem_seq ?_ | refine sreg1 ?_)
      exact ⟨_, rfl, _, rfl, tree_eq rfl rfl⟩
    · (refine holds_of_sem hG fn_speak_Word (by simp) fun w0 S0 hG0 D0 => ?_; unfold c_speak_Word cval enterEnv; simp only [List.zipIdx_cons, List.zipIdx_nil, List.map_cons, List.map_nil, Nat.zero_add, Nat.reduceAdd])
      repeat' (first | ((first | refine o1 rfl ?_ | refine o0 rfl ?_); intro k hk; simp (disch := omega) only [ev0, sl_cells, simprocAttr, h1, h2, decide_true, decide_false, Bool.not_true]; refine hk _ _ ?_; clear hk k) | refine ono rfl ?_ | (apply ocall; (case he => (simp only [ev0, sl_cells, simprocAttr] <;> rfl)); (case hc => first | exact hlg); (case ht => rfl); (case hg => rfl)) | ((first | refine osplitG rfl (fun h => ?_) (fun h => ?_) | refine osplitB rfl (fun h => ?_) (fun h => ?_)) <;> (fail_if_success (simp only [eq_self, reduceCtorEq] at h))) | refine onx ?_ | refine onb ?_ | refine sreg ?_ | refine qT rfl ?_ | refine qF rfl ?_ | refine scondT rfl ?_ | refine scondF rfl ?_ | refine ocondP rfl (fun h => ?_) (fun h => ?_) | refine ocondB rfl (fun h => ?_) (fun h => ?_) | refine scondP rfl (fun h => ?_) (fun h => ?_) | refine scond rfl (fun h => ?_) (fun h => ?_) | refine oskip ?_ | refine oskipb ?_ | refine oret ?_ | refine sem_ret ?_ | refine sem_seq ?_ | refine sreg1 ?_)
      exact ⟨_, rfl, _, rfl, tree_eq rfl rfl⟩
  rw [if_pos ⟨hl, hv⟩]
  have h1 : (v < 1) = False := eq_false (by omega)
  have h2 : (3 < v) = False := eq_false (by omega)
  have hfw := fun p hp => fit_word (l := l) (v := v) (neg := neg) p hp
  have hnf := none_fit (neg := neg) hl hv
  generalize wordR l neg v = W at *
  (refine holds_of_sem hG fn_speak_Word (by simp) fun w0 S0 hG0 D0 => ?_; unfold c_speak_Word cval enterEnv; simp only [List.zipIdx_cons, List.zipIdx_nil, List.map_cons, List.map_nil, Nat.zero_add, Nat.reduceAdd])
  repeat' (first | ((first | refine o1 rfl ?_ | refine o0 rfl ?_); intro k hk; simp (disch := omega) only [ev0, sl_cells, simprocAttr, h1, h2, decide_false, Bool.not_true]; refine hk _ _ ?_; clear hk k) | refine ono rfl ?_ | (apply ocall; (case he => (simp only [ev0, sl_cells, simprocAttr] <;> rfl)); (case hc => first | exact hlg); (case ht => rfl); (case hg => rfl)) | ((first | refine osplitG rfl (fun h => ?_) (fun h => ?_) | refine osplitB rfl (fun h => ?_) (fun h => ?_)) <;> (fail_if_success (simp only [eq_self, reduceCtorEq] at h))) | refine onx ?_ | refine onb ?_ | refine sreg ?_ | refine qT rfl ?_ | refine qF rfl ?_ | refine scondT rfl ?_ | refine scondF rfl ?_ | refine ocondP rfl (fun h => ?_) (fun h => ?_) | refine ocondB rfl (fun h => ?_) (fun h => ?_) | refine scondP rfl (fun h => ?_) (fun h => ?_) | refine scond rfl (fun h => ?_) (fun h => ?_) | refine oskip ?_ | refine oskipb ?_ | refine oret ?_ | refine sem_ret ?_ | refine sem_seq ?_ | refine sreg1 ?_)
  refine semL_acall rfl (hmc _ rfl rfl) fun ae μ hr => ?_
  obtain ⟨rfl, rfl⟩ := hr
  refine semL_op (x := .mp 1) (μ := [.gone, .iter default 0 (some (none, tabM.map entA))]) rfl (by rfl) ?_
  simp only [St.put]
  repeat' (first | ((first | refine o1 rfl ?_ | refine o0 rfl ?_); intro k hk; simp (disch := omega) only [ev0, sl_cells, simprocAttr]; refine hk _ _ ?_; clear hk k) | refine ono rfl ?_ | ((first | refine osplitG rfl (fun h => ?_) (fun h => ?_) | refine osplitB rfl (fun h => ?_) (fun h => ?_)) <;> (fail_if_success (simp only [eq_self, reduceCtorEq] at h))) | refine onx ?_ | refine onb ?_ | refine sreg ?_ | refine qT rfl ?_ | refine qF rfl ?_ | refine scondT rfl ?_ | refine scondF rfl ?_ | refine ocondP rfl (fun h => ?_) (fun h => ?_) | refine ocondB rfl (fun h => ?_) (fun h => ?_) | refine scondP rfl (fun h => ?_) (fun h => ?_) | refine scond rfl (fun h => ?_) (fun h => ?_) | refine oskip ?_ | refine oskipb ?_ | refine oret ?_ | refine sem_ret ?_ | refine sem_seq ?_ | refine sreg1 ?_)
  refine sem_block ?_
  
  refine sem_loop (α := Option (AV × AV) × List (Sd × Int)) (fun x => ⟨[(0, I l), (1, B neg), (2, I v), (22, .mp 1)], [.gone, .iter default 0 (some (x.1, x.2.map entA))]⟩) (fun x => (∀ p ∈ x.2, p ∈ tabM) ∧ ∀ p ∈ tabM, fits l v neg p → p ∈ x.2) (fun x => x.2.length) (none, tabM) ⟨fun p hp => hp, fun p hp _ => hp⟩ ?_ ?_
  · (refine Le.same ?_; simp only [List.forall_mem_cons, List.forall_mem_nil, getE, selE, Nat.reduceBEq, List.not_mem_nil, false_implies, implies_true, and_true, true_and, and_self])
    all_goals simp
  · rintro ⟨la, le⟩ ⟨i1, i2⟩
    simp only at i1 i2
    refine sreg ?_
    refine semL_nxm rfl rfl rfl ?_ ?_
    · intro hn
      have hle : le = [] := by simpa using hn
      subst hle
      simp only [St.put]
      repeat' (first | ((first | refine o1 rfl ?_ | refine o0 rfl ?_); intro k hk; simp (disch := omega) only [ev0, sl_cells, simprocAttr]; refine hk _ _ ?_; clear hk k) | refine ono rfl ?_ | ((first | refine osplitG rfl (fun h => ?_) (fun h => ?_) | refine osplitB rfl (fun h => ?_) (fun h => ?_)) <;> (fail_if_success (simp only [eq_self, reduceCtorEq] at h))) | refine onx ?_ | refine onb ?_ | refine sreg ?_ | refine qT rfl ?_ | refine qF rfl ?_ | refine scondT rfl ?_ | refine scondF rfl ?_ | refine ocondP rfl (fun h => ?_) (fun h => ?_) | refine ocondB rfl (fun h => ?_) (fun h => ?_) | refine scondP rfl (fun h => ?_) (fun h => ?_) | refine scond rfl (fun h => ?_) (fun h => ?_) | refine oskip ?_ | refine oskipb ?_ | refine oret ?_ | refine sem_ret ?_ | refine sem_seq ?_ | refine sreg1 ?_)
      rw [hnf fun p hp q => by cases i2 p hp q]
      (refine sem_exit ?_; change sem _ _ _ _ _)
      repeat' (first | ((first | refine o1 rfl ?_ | refine o0 rfl ?_); intro k hk; simp (disch := omega) only [ev0, sl_cells, simprocAttr]; refine hk _ _ ?_; clear hk k) | refine ono rfl ?_ | ((first | refine osplitG rfl (fun h => ?_) (fun h => ?_) | refine osplitB rfl (fun h => ?_) (fun h => ?_)) <;> (fail_if_success (simp only [eq_self, reduceCtorEq] at h))) | refine onx ?_ | refine onb ?_ | refine sreg ?_ | refine qT rfl ?_ | refine qF rfl ?_ | refine scondT rfl ?_ | refine scondF rfl ?_ | refine ocondP rfl (fun h => ?_) (fun h => ?_) | refine ocondB rfl (fun h => ?_) (fun h => ?_) | refine scondP rfl (fun h => ?_) (fun h => ?_) | refine scond rfl (fun h => ?_) (fun h => ?_) | refine oskip ?_ | refine oskipb ?_ | refine oret ?_ | refine sem_ret ?_ | refine sem_seq ?_ | refine sreg1 ?_)
      exact ⟨_, rfl, _, rfl, tree_eq rfl rfl⟩
    · intro t k v' ht
      rw [List.getElem?_map] at ht
      obtain ⟨p, hp, he⟩ := Option.map_eq_some_iff.1 ht
      simp only at hp
      cases he
      simp only [St.put]
      repeat' (first | ((first | refine o1 rfl ?_ | refine o0 rfl ?_); intro k hk; simp (disch := omega) only [ev0, sl_cells, simprocAttr]; refine hk _ _ ?_; clear hk k) | refine ono rfl ?_ | ((first | refine osplitG rfl (fun h => ?_) (fun h => ?_) | refine osplitB rfl (fun h => ?_) (fun h => ?_)) <;> (fail_if_success (simp only [eq_self, reduceCtorEq] at h))) | refine onx ?_ | refine onb ?_ | refine sreg ?_ | refine qT rfl ?_ | refine qF rfl ?_ | refine scondT rfl ?_ | refine scondF rfl ?_ | refine ocondP rfl (fun h => ?_) (fun h => ?_) | refine ocondB rfl (fun h => ?_) (fun h => ?_) | refine scondP rfl (fun h => ?_) (fun h => ?_) | refine scond rfl (fun h => ?_) (fun h => ?_) | refine oskip ?_ | refine oskipb ?_ | refine oret ?_ | refine sem_ret ?_ | refine sem_seq ?_ | refine sreg1 ?_)
      refine sem_block ?_
      refine sreg ?_
      refine semL_op (x := .tup [.agg p.1.cs, I p.2]) rfl rfl ?_
      simp only [St.put]
      have hpt := i1 p (List.mem_of_getElem? hp)
      have hlen : (le.eraseIdx t).length < le.length := by
        have := (List.getElem?_eq_some_iff.1 hp).1
        rw [List.length_eraseIdx, if_pos this]; omega
      have hnx : ¬ fits l v neg p → (∀ q ∈ le.eraseIdx t, q ∈ tabM) ∧ ∀ q ∈ tabM, fits l v neg q → q ∈ le.eraseIdx t := fun hno => by
        refine ⟨fun q hq => i1 q (List.mem_of_mem_eraseIdx hq), fun q hq hf => ?_⟩
        rw [List.mem_eraseIdx_iff_getElem?]
        obtain ⟨i, hi⟩ := List.getElem?_of_mem (i2 q hq hf)
        refine ⟨i, fun e => ?_, hi⟩
        subst e
        rw [hp] at hi
        cases hi
        exact hno hf
      by_cases c1 : p.1.lang = l
      · have c11 : (p.1.lang = l) = True := eq_true c1
        by_cases c2 : p.1.neg = neg
        · have c22 : (false != (p.1.neg == neg)) = true := by rw [c2]; simp
          by_cases c3 : p.2 = v
          · have c33 : (p.2 = v) = True := eq_true c3
            rw [hfw p hpt c1 c2 c3]
            repeat' (first | ((first | refine o1 rfl ?_ | refine o0 rfl ?_); intro k hk; simp (disch := omega) only [ev0, sl_cells, simprocAttr, Sd.cs, c11, c22, c33, decide_true]; refine hk _ _ ?_; clear hk k) | refine ono rfl ?_ | ((first | refine osplitG rfl (fun h => ?_) (fun h => ?_) | refine osplitB rfl (fun h => ?_) (fun h => ?_)) <;> (fail_if_success (simp only [eq_self, reduceCtorEq] at h))) | refine onx ?_ | refine onb ?_ | refine sreg ?_ | refine qT rfl ?_ | refine qF rfl ?_ | refine scondT rfl ?_ | refine scondF rfl ?_ | refine ocondP rfl (fun h => ?_) (fun h => ?_) | refine ocondB rfl (fun h => ?_) (fun h => ?_) | refine scondP rfl (fun h => ?_) (fun h => ?_) | refine scond rfl (fun h => ?_) (fun h => ?_) | refine oskip ?_ | refine oskipb ?_ | refine oret ?_ | refine sem_ret ?_ | refine sem_seq ?_ | refine sreg1 ?_)
            exact ⟨_, rfl, _, rfl, tree_eq rfl rfl⟩
          · have c33 : (p.2 = v) = False := eq_false c3
            repeat' (first | ((first | refine o1 rfl ?_ | refine o0 rfl ?_); intro k hk; simp (disch := omega) only [ev0, sl_cells, simprocAttr, Sd.cs, c11, c22, c33, decide_true, decide_false]; refine hk _ _ ?_; clear hk k) | refine ono rfl ?_ | ((first | refine osplitG rfl (fun h => ?_) (fun h => ?_) | refine osplitB rfl (fun h => ?_) (fun h => ?_)) <;> (fail_if_success (simp only [eq_self, reduceCtorEq] at h))) | refine onx ?_ | refine onb ?_ | refine sreg ?_ | refine qT rfl ?_ | refine qF rfl ?_ | refine scondT rfl ?_ | refine scondF rfl ?_ | refine ocondP rfl (fun h => ?_) (fun h => ?_) | refine ocondB rfl (fun h => ?_) (fun h => ?_) | refine scondP rfl (fun h => ?_) (fun h => ?_) | refine scond rfl (fun h => ?_) (fun h => ?_) | refine oskip ?_ | refine oskipb ?_ | refine oret ?_ | refine sem_ret ?_ | refine sem_seq ?_ | refine sreg1 ?_)
            refine sem_skip ?_
            simp only [blockQ]
            refine lnext (some (.agg p.1.cs, I p.2), le.eraseIdx t) (hnx fun q => c3 q.2.2) hlen ?_
            simp only [← Go.ChangeMaps.map_eraseIdx]
            (refine Le.drop ?_ rfl (by simp) rfl (by simp only [refM, refO, List.all_cons, List.all_nil, Bool.and_true, Bool.true_and, ]; first | done | rfl) ; simp only [List.forall_mem_cons, List.forall_mem_nil, getE, selE, Nat.reduceBEq, List.not_mem_nil, false_implies, implies_true, and_true, true_and, and_self])
            all_goals simp [Sd.cs]
        · have c22 : (false != (p.1.neg == neg)) = false := by
            cases hq : p.1.neg <;> cases neg <;> simp_all
          repeat' (first | ((first | refine o1 rfl ?_ | refine o0 rfl ?_); intro k hk; simp (disch := omega) only [ev0, sl_cells, simprocAttr, Sd.cs, c11, c22, decide_true]; refine hk _ _ ?_; clear hk k) | refine ono rfl ?_ | ((first | refine osplitG rfl (fun h => ?_) (fun h => ?_) | refine osplitB rfl (fun h => ?_) (fun h => ?_)) <;> (fail_if_success (simp only [eq_self, reduceCtorEq] at h))) | refine onx ?_ | refine onb ?_ | refine sreg ?_ | refine qT rfl ?_ | refine qF rfl ?_ | refine scondT rfl ?_ | refine scondF rfl ?_ | refine ocondP rfl (fun h => ?_) (fun h => ?_) | refine ocondB rfl (fun h => ?_) (fun h => ?_) | refine scondP rfl (fun h => ?_) (fun h => ?_) | refine scond rfl (fun h => ?_) (fun h => ?_) | refine oskip ?_ | refine oskipb ?_ | refine oret ?_ | refine sem_ret ?_ | refine sem_seq ?_ | refine sreg1 ?_)
          refine sem_skip ?_
          simp only [blockQ]
          refine lnext (some (.agg p.1.cs, I p.2), le.eraseIdx t) (hnx fun q => c2 q.2.1) hlen ?_
          simp only [← Go.ChangeMaps.map_eraseIdx]
          (refine Le.drop ?_ rfl (by simp) rfl (by simp only [refM, refO, List.all_cons, List.all_nil, Bool.and_true, Bool.true_and, ]; first | done | rfl) ; simp only [List.forall_mem_cons, List.forall_mem_nil, getE, selE, Nat.reduceBEq, List.not_mem_nil, false_implies, implies_true, and_true, true_and, and_self])
          all_goals simp [Sd.cs]
      · have c11 : (p.1.lang = l) = False := eq_false c1
        repeat' (first | ((first | refine o1 rfl ?_ | refine o0 rfl ?_); intro k hk; simp (disch := omega) only [ev0, sl_cells, simprocAttr, Sd.cs, c11, decide_false]; refine hk _ _ ?_; clear hk k) | refine ono rfl ?_ | ((first | refine osplitG rfl (fun h => ?_) (fun h => ?_) | refine osplitB rfl (fun h => ?_) (fun h => ?_)) <;> (fail_if_success (simp only [eq_self, reduceCtorEq] at h))) | refine onx ?_ | refine onb ?_ | refine sreg ?_ | refine qT rfl ?_ | refine qF rfl ?_ | refine scondT rfl ?_ | refine scondF rfl ?_ | refine ocondP rfl (fun h => ?_) (fun h => ?_) | refine ocondB rfl (fun h => ?_) (fun h => ?_) | refine scondP rfl (fun h => ?_) (fun h => ?_) | refine scond rfl (fun h => ?_) (fun h => ?_) | refine oskip ?_ | refine oskipb ?_ | refine oret ?_ | refine sem_ret ?_ | refine sem_seq ?_ | refine sreg1 ?_)
        refine sem_skip ?_
        simp only [blockQ]
        refine lnext (some (.agg p.1.cs, I p.2), le.eraseIdx t) (hnx fun q => c1 q.1) hlen ?_
        simp only [← Go.ChangeMaps.map_eraseIdx]
        (refine Le.drop ?_ rfl (by simp) rfl (by simp only [refM, refO, List.all_cons, List.all_nil, Bool.and_true, Bool.true_and, ]; first | done | rfl) ; simp only [List.forall_mem_cons, List.forall_mem_nil, getE, selE, Nat.reduceBEq, List.not_mem_nil, false_implies, implies_true, and_true, true_and, and_self])
        all_goals simp [Sd.cs]
end Go.Proofs.YtcllnnjeaidppaaGreatDoor
