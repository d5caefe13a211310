/- The number that a word says, or the giving up. -/
import Derived.Test.YtojkchniefhafaaGreatDoorPY3
import Derived.Test.YtojkchniefhafaaGreatDoorPMq
set_option linter.unusedVariables false
set_option linter.unusedSimpArgs false
set_option linter.unusedSectionVars false
set_option maxRecDepth 8000
set_option maxHeartbeats 2000000
namespace Go.Av
section rules
variable {K : Ctx} {μ : List AObj}
theorem ACalls.imp {f : Nat} {args : List AV} {R R' : AEnd → List AObj → Prop} (h : ACalls K f args μ R) (hR : ∀ ae ν, R ae ν → R' ae ν) : ACalls K f args μ R' :=
  ⟨h.1, fun ρ S w vs a b c => (h.2 ρ S w vs a b c).mono fun e w' ⟨ae, μ', ρ', S', r1, r2, r3, r4⟩ => ⟨ae, μ', ρ', S', hR _ _ r1, r2, r3, r4⟩⟩
/-- A call that owns nothing, amid whatever the caller owns. -/
theorem ACalls.beside {f : Nat} {args : List AV} {R : AEnd → Prop} (h : ACalls K f args [] fun ae ν => R ae ∧ ν = []) (hR : ∀ g ae, R ae → R (renEnd g ae)) (ha : renL (backOf []) args = args) (hin : inL (fun i => ([] : List Nat).contains i) args = true) (μ2 : List AObj) :
    ACalls K f args μ2 fun ae ν => R ae ∧ ν = μ2 := (h.placed (μ2 := μ2) (args2 := args) [] rfl rfl ha hin).imp fun ae ν hr => by
  obtain ⟨ae1, _, ⟨h1, rfl⟩, rfl, rfl⟩ := hr
  refine ⟨hR _ _ h1, ?_⟩
  unfold putL
  apply List.ext_getElem?
  intro j
  simp only [List.drop_nil, List.map_nil, List.append_nil, List.getElem?_map]
  by_cases hj : j < μ2.length
  · rw [List.getElem?_range hj, List.getElem?_eq_getElem hj]
    simp [List.getD, hj]
  · rw [List.getElem?_eq_none (by simpa using hj), List.getElem?_eq_none (by simpa using hj)]
    rfl
end rules
end Go.Av
namespace Go.Tk
open Go Go.Av
theorem strB_toList (l : Bts) : (strB l).toList = l := by
  unfold strB
  simp
theorem c45 : (⟨#[45]⟩ : ByteArray) = strB [45] := rfl
/-- What is given up with. -/
def wrongE (ae : AEnd) : Prop := ∃ s, ae = .panic (.iface 71 (.agg [.str s]))
def numE (w : Bts) (ae : AEnd) : Prop := match numOf w with
  | some n => ae = .ret (I n)
  | none => wrongE ae
def amtE (w : Bts) (ae : AEnd) : Prop := match numOf w with
  | some n => if n < 0 then wrongE ae else ae = .ret (I n)
  | none => wrongE ae
theorem atoi_bound {l : Bts} {v : Int} (h : Lib.atoiAll l = .ok v) : -9223372036854775808 ≤ v ∧ v ≤ 9223372036854775807 := by
  unfold Lib.atoiAll at h
  cases l with
  | nil => cases h
  | cons c r =>
    dsimp only at h
    generalize (if c.toNat = 43 ∨ c.toNat = 45 then r else c :: r) = m at h
    cases hm : Lib.parseMag m with
    | range => rw [hm] at h; cases h
    | ok u =>
      rw [hm] at h
      dsimp only at h
      by_cases hn : c.toNat = 45
      · rw [if_neg (by simp [hn])] at h
        split at h
        · cases h
        · rename_i q
          have e : -(u : Int) = v := Lib.NumEnd.ok.inj h
          have : ¬ 9223372036854775808 < u := fun g => q ⟨hn, g⟩
          omega
      · split at h
        · cases h
        · rename_i q
          have q' : ¬ 9223372036854775808 ≤ u := fun g => q ⟨hn, g⟩
          rw [if_neg (by simp [hn])] at h
          have e : (u : Int) = v := Lib.NumEnd.ok.inj h
          omega
    | _ => rw [hm] at h; cases h
theorem wrongE.ren {ae : AEnd} (h : wrongE ae) (g : Nat → Nat) : wrongE (renEnd g ae) := by
  obtain ⟨s, rfl⟩ := h
  exact ⟨s, rfl⟩
theorem numE.ren {w : Bts} {ae : AEnd} (h : numE w ae) (g : Nat → Nat) : numE w (renEnd g ae) := by
  unfold numE at *
  cases hn : numOf w with
  | some n => rw [hn] at h; subst h; rfl
  | none => rw [hn] at h; exact h.ren g
end Go.Tk
namespace Go.Proofs.YtojkchniefhafaaGreatDoor
open Go Go.Av Go.Tk
attribute [local irreducible] Holds sem semL ACalls FnIs strB
variable {K : Ctx} (hP : K.P = Tryz.prog) (hGK : ∀ w w', K.G w → RowKit.Below w.heap.size w w' → K.G w') (hT : ∀ w, K.G w → GB w)
include hP hGK hT
theorem number_0 (w : Bts) (hw : w.length ≤ 100000) : ACalls K F.pile_number [.str (strB w)] [] fun ae ν => numE w ae ∧ ν = [] := by
  obtain ⟨P, w0, S0, G, hG0⟩ := K
  simp only at hP hGK hT
  subst hP
  have hbl : (bareB w).length ≤ w.length := by
    unfold bareB Lib.trimPrefix
    split
    · rw [List.length_drop]; omega
    · exact Nat.le_refl _
  have ht := strings_TrimPrefix hT w [45]
  rw [← c45] at ht
  have ha := strconv_Atoi hT (bareB w) (by omega)
  have h1 := fun n => num_prog (w := w) (n := n)
  have h2 := fun m => num_prog' (w := w) (m := m)
  have hi := fun n h0 h1 => strconv_Itoa hT n h0 h1
  change Holds _ _ _ _ (.str (strB (bareB w))) at ht
  generalize hd : bareB w = d at *
  unfold atoiV at ha
  refine acalls_of_sem fn_pile_number (by simp) fun D => ?_
  unfold c_pile_number cval enterEnv
  simp only [List.zipIdx_cons, List.zipIdx_nil, List.map_cons, List.map_nil, Nat.zero_add, Nat.reduceAdd]
  have hnone : (∀ n, 0 ≤ n → Lib.atoiAll d = .ok n → d.length ≤ 9 → Lib.itoa n = d → n = 0 ∧ w ≠ d) → numOf w = none := fun q => by
    cases hn : numOf w with
    | none => rfl
    | some m =>
      obtain ⟨n, g1, g2, g3, g4, g5, -⟩ := h2 m hn
      exact absurd (q n g1 g2 g3 g4) g5
  have hbt : (true != true) = false := rfl
  have hbf : (false != true) = true := rfl
  cases hat : Lib.atoiAll d with
  | ok n =>
    rw [hat] at ha
    dsimp only at ha
    obtain ⟨b1, b2⟩ := atoi_bound hat
    have hit := hi n b1 b2
    by_cases c1 : n < 0
    · have e := hnone (fun m g1 g2 _ _ => by rw [hat] at g2; cases g2; omega)
      repeat' (first | ((first | refine o1 rfl ?_ | refine o0 rfl ?_); intro k hk; simp (disch := omega) only [ev0, sl_cells, simprocAttr, strB_size, hbt, c1, decide_true]; refine hk _ _ ?_; clear hk k) | refine ono rfl ?_ | (apply ocall; (case he => (simp only [ev0, sl_cells, simprocAttr] <;> rfl)); (case hc => first | exact ht | exact ha); (case ht => rfl); (case hg => rfl)) | ((first | refine osplitG rfl (fun h => ?_) (fun h => ?_) | refine osplitB rfl (fun h => ?_) (fun h => ?_)) <;> (fail_if_success (simp only [eq_self, reduceCtorEq] at h))) | refine onx ?_ | refine onb ?_ | refine sreg ?_ | refine qT rfl ?_ | refine qF rfl ?_ | refine scondT rfl ?_ | refine scondF rfl ?_ | refine ocondP rfl (fun h => ?_) (fun h => ?_) | refine ocondB rfl (fun h => ?_) (fun h => ?_) | refine scondP rfl (fun h => ?_) (fun h => ?_) | refine scond rfl (fun h => ?_) (fun h => ?_) | refine oskip ?_ | refine oskipb ?_ | refine oret ?_ | refine sem_ret ?_ | refine sem_seq ?_ | refine sreg1 ?_)
      refine semL_pan rfl rfl ?_
      exact ⟨by unfold numE; rw [e]; exact ⟨_, rfl⟩, rfl⟩
    · by_cases c2 : 9 < d.length
      · have e := hnone (fun m _ _ g3 _ => absurd g3 (by omega))
        have c2' : (9 : Int) < d.length := by omega
        repeat' (first | ((first | refine o1 rfl ?_ | refine o0 rfl ?_); intro k hk; simp (disch := omega) only [ev0, sl_cells, simprocAttr, strB_size, hbt, c1, c2', decide_true, decide_false]; refine hk _ _ ?_; clear hk k) | refine ono rfl ?_ | (apply ocall; (case he => (simp only [ev0, sl_cells, simprocAttr] <;> rfl)); (case hc => first | exact ht | exact ha); (case ht => rfl); (case hg => rfl)) | ((first | refine osplitG rfl (fun h => ?_) (fun h => ?_) | refine osplitB rfl (fun h => ?_) (fun h => ?_)) <;> (fail_if_success (simp only [eq_self, reduceCtorEq] at h))) | refine onx ?_ | refine onb ?_ | refine sreg ?_ | refine qT rfl ?_ | refine qF rfl ?_ | refine scondT rfl ?_ | refine scondF rfl ?_ | refine ocondP rfl (fun h => ?_) (fun h => ?_) | refine ocondB rfl (fun h => ?_) (fun h => ?_) | refine scondP rfl (fun h => ?_) (fun h => ?_) | refine scond rfl (fun h => ?_) (fun h => ?_) | refine oskip ?_ | refine oskipb ?_ | refine oret ?_ | refine sem_ret ?_ | refine sem_seq ?_ | refine sreg1 ?_)
        refine semL_pan rfl rfl ?_
        exact ⟨by unfold numE; rw [e]; exact ⟨_, rfl⟩, rfl⟩
      · have c2' : ¬ (9 : Int) < d.length := by omega
        by_cases c3 : Lib.itoa n = d
        · have c3' : (Lib.itoa n == d) = true := by simp [c3]
          by_cases c4 : w = d
          · have c4' : (w == d) = true := by simp [c4]
            have e := h1 n (by omega) (by omega) c3 (fun q => q.2 c4)
            rw [if_pos c4] at e
            by_cases c5 : n = 0
            · have c5' : decide (n = 0) = true := decide_eq_true c5
              repeat' (first | ((first | refine o1 rfl ?_ | refine o0 rfl ?_); intro k hk; simp (disch := omega) only [ev0, sl_cells, simprocAttr, strB_size, strB_toList, hbt, c1, c2', c3', c4', c5', decide_true, decide_false, Bool.not_true]; refine hk _ _ ?_; clear hk k) | refine ono rfl ?_ | (apply ocall; (case he => (simp only [ev0, sl_cells, simprocAttr] <;> rfl)); (case hc => first | exact ht | exact ha | exact hit); (case ht => rfl); (case hg => rfl)) | ((first | refine osplitG rfl (fun h => ?_) (fun h => ?_) | refine osplitB rfl (fun h => ?_) (fun h => ?_)) <;> (fail_if_success (simp only [eq_self, reduceCtorEq] at h))) | refine onx ?_ | refine onb ?_ | refine sreg ?_ | refine qT rfl ?_ | refine qF rfl ?_ | refine scondT rfl ?_ | refine scondF rfl ?_ | refine ocondP rfl (fun h => ?_) (fun h => ?_) | refine ocondB rfl (fun h => ?_) (fun h => ?_) | refine scondP rfl (fun h => ?_) (fun h => ?_) | refine scond rfl (fun h => ?_) (fun h => ?_) | refine oskip ?_ | refine oskipb ?_ | refine oret ?_ | refine sem_ret ?_ | refine sem_seq ?_ | refine sreg1 ?_)
              exact ⟨_, rfl, by unfold numE; rw [e]; rfl, rfl⟩
            · have c5' : decide (n = 0) = false := decide_eq_false c5
              repeat' (first | ((first | refine o1 rfl ?_ | refine o0 rfl ?_); intro k hk; simp (disch := omega) only [ev0, sl_cells, simprocAttr, strB_size, strB_toList, hbt, c1, c2', c3', c4', c5', decide_true, decide_false, Bool.not_true]; refine hk _ _ ?_; clear hk k) | refine ono rfl ?_ | (apply ocall; (case he => (simp only [ev0, sl_cells, simprocAttr] <;> rfl)); (case hc => first | exact ht | exact ha | exact hit); (case ht => rfl); (case hg => rfl)) | ((first | refine osplitG rfl (fun h => ?_) (fun h => ?_) | refine osplitB rfl (fun h => ?_) (fun h => ?_)) <;> (fail_if_success (simp only [eq_self, reduceCtorEq] at h))) | refine onx ?_ | refine onb ?_ | refine sreg ?_ | refine qT rfl ?_ | refine qF rfl ?_ | refine scondT rfl ?_ | refine scondF rfl ?_ | refine ocondP rfl (fun h => ?_) (fun h => ?_) | refine ocondB rfl (fun h => ?_) (fun h => ?_) | refine scondP rfl (fun h => ?_) (fun h => ?_) | refine scond rfl (fun h => ?_) (fun h => ?_) | refine oskip ?_ | refine oskipb ?_ | refine oret ?_ | refine sem_ret ?_ | refine sem_seq ?_ | refine sreg1 ?_)
              exact ⟨_, rfl, by unfold numE; rw [e]; rfl, rfl⟩
          · have c4' : (w == d) = false := by simp [c4]
            by_cases c5 : n = 0
            · have e := hnone (fun m _ g2 _ _ => by rw [hat] at g2; cases g2; exact ⟨c5, c4⟩)
              have c5' : decide (n = 0) = true := decide_eq_true c5
              repeat' (first | ((first | refine o1 rfl ?_ | refine o0 rfl ?_); intro k hk; simp (disch := omega) only [ev0, sl_cells, simprocAttr, strB_size, strB_toList, hbt, c1, c2', c3', c4', c5', decide_true, decide_false, Bool.not_true, Bool.not_false]; refine hk _ _ ?_; clear hk k) | refine ono rfl ?_ | (apply ocall; (case he => (simp only [ev0, sl_cells, simprocAttr] <;> rfl)); (case hc => first | exact ht | exact ha | exact hit); (case ht => rfl); (case hg => rfl)) | ((first | refine osplitG rfl (fun h => ?_) (fun h => ?_) | refine osplitB rfl (fun h => ?_) (fun h => ?_)) <;> (fail_if_success (simp only [eq_self, reduceCtorEq] at h))) | refine onx ?_ | refine onb ?_ | refine sreg ?_ | refine qT rfl ?_ | refine qF rfl ?_ | refine scondT rfl ?_ | refine scondF rfl ?_ | refine ocondP rfl (fun h => ?_) (fun h => ?_) | refine ocondB rfl (fun h => ?_) (fun h => ?_) | refine scondP rfl (fun h => ?_) (fun h => ?_) | refine scond rfl (fun h => ?_) (fun h => ?_) | refine oskip ?_ | refine oskipb ?_ | refine oret ?_ | refine sem_ret ?_ | refine sem_seq ?_ | refine sreg1 ?_)
              refine semL_pan rfl rfl ?_
              exact ⟨by unfold numE; rw [e]; exact ⟨_, rfl⟩, rfl⟩
            · have e := h1 n (by omega) (by omega) c3 (fun q => c5 q.1)
              rw [if_neg c4] at e
              have c5' : decide (n = 0) = false := decide_eq_false c5
              have hng : (0 : Int) - n = -n := by omega
              repeat' (first | ((first | refine o1 rfl ?_ | refine o0 rfl ?_); intro k hk; simp (disch := omega) only [ev0, sl_cells, simprocAttr, hng, strB_size, strB_toList, hbt, c1, c2', c3', c4', c5', decide_true, decide_false, Bool.not_true, Bool.not_false]; refine hk _ _ ?_; clear hk k) | refine ono rfl ?_ | (apply ocall; (case he => (simp only [ev0, sl_cells, simprocAttr] <;> rfl)); (case hc => first | exact ht | exact ha | exact hit); (case ht => rfl); (case hg => rfl)) | ((first | refine osplitG rfl (fun h => ?_) (fun h => ?_) | refine osplitB rfl (fun h => ?_) (fun h => ?_)) <;> (fail_if_success (simp only [eq_self, reduceCtorEq] at h))) | refine onx ?_ | refine onb ?_ | refine sreg ?_ | refine qT rfl ?_ | refine qF rfl ?_ | refine scondT rfl ?_ | refine scondF rfl ?_ | refine ocondP rfl (fun h => ?_) (fun h => ?_) | refine ocondB rfl (fun h => ?_) (fun h => ?_) | refine scondP rfl (fun h => ?_) (fun h => ?_) | refine scond rfl (fun h => ?_) (fun h => ?_) | refine oskip ?_ | refine oskipb ?_ | refine oret ?_ | refine sem_ret ?_ | refine sem_seq ?_ | refine sreg1 ?_)
              exact ⟨_, rfl, by unfold numE; rw [e]; rfl, rfl⟩
        · have c3' : (Lib.itoa n == d) = false := by simp [c3]
          have e := hnone (fun m _ g2 _ g4 => by rw [hat] at g2; cases g2; exact absurd g4 c3)
          repeat' (first | ((first | refine o1 rfl ?_ | refine o0 rfl ?_); intro k hk; simp (disch := omega) only [ev0, sl_cells, simprocAttr, strB_size, strB_toList, hbt, c1, c2', c3', decide_true, decide_false, Bool.not_true, Bool.not_false]; refine hk _ _ ?_; clear hk k) | refine ono rfl ?_ | (apply ocall; (case he => (simp only [ev0, sl_cells, simprocAttr] <;> rfl)); (case hc => first | exact ht | exact ha | exact hit); (case ht => rfl); (case hg => rfl)) | ((first | refine osplitG rfl (fun h => ?_) (fun h => ?_) | refine osplitB rfl (fun h => ?_) (fun h => ?_)) <;> (fail_if_success (simp only [eq_self, reduceCtorEq] at h))) | refine onx ?_ | refine onb ?_ | refine sreg ?_ | refine qT rfl ?_ | refine qF rfl ?_ | refine scondT rfl ?_ | refine scondF rfl ?_ | refine ocondP rfl (fun h => ?_) (fun h => ?_) | refine ocondB rfl (fun h => ?_) (fun h => ?_) | refine scondP rfl (fun h => ?_) (fun h => ?_) | refine scond rfl (fun h => ?_) (fun h => ?_) | refine oskip ?_ | refine oskipb ?_ | refine oret ?_ | refine sem_ret ?_ | refine sem_seq ?_ | refine sreg1 ?_)
          refine semL_pan rfl rfl ?_
          exact ⟨by unfold numE; rw [e]; exact ⟨_, rfl⟩, rfl⟩
  | range =>
    rw [hat] at ha
    dsimp only at ha
    have e := hnone (fun m _ g2 _ _ => by rw [hat] at g2; cases g2)
    repeat' (first | ((first | refine o1 rfl ?_ | refine o0 rfl ?_); intro k hk; simp (disch := omega) only [ev0, sl_cells, simprocAttr, strB_size, hbf]; refine hk _ _ ?_; clear hk k) | refine ono rfl ?_ | (apply ocall; (case he => (simp only [ev0, sl_cells, simprocAttr] <;> rfl)); (case hc => first | exact ht | exact ha); (case ht => rfl); (case hg => rfl)) | ((first | refine osplitG rfl (fun h => ?_) (fun h => ?_) | refine osplitB rfl (fun h => ?_) (fun h => ?_)) <;> (fail_if_success (simp only [eq_self, reduceCtorEq] at h))) | refine onx ?_ | refine onb ?_ | refine sreg ?_ | refine qT rfl ?_ | refine qF rfl ?_ | refine scondT rfl ?_ | refine scondF rfl ?_ | refine ocondP rfl (fun h => ?_) (fun h => ?_) | refine ocondB rfl (fun h => ?_) (fun h => ?_) | refine scondP rfl (fun h => ?_) (fun h => ?_) | refine scond rfl (fun h => ?_) (fun h => ?_) | refine oskip ?_ | refine oskipb ?_ | refine oret ?_ | refine sem_ret ?_ | refine sem_seq ?_ | refine sreg1 ?_)
    refine semL_pan rfl rfl ?_
    exact ⟨by unfold numE; rw [e]; exact ⟨_, rfl⟩, rfl⟩
  | _ =>
    rw [hat] at ha
    dsimp only at ha
    have e := hnone (fun m _ g2 _ _ => by rw [hat] at g2; cases g2)
    repeat' (first | ((first | refine o1 rfl ?_ | refine o0 rfl ?_); intro k hk; simp (disch := omega) only [ev0, sl_cells, simprocAttr, strB_size, hbf]; refine hk _ _ ?_; clear hk k) | refine ono rfl ?_ | (apply ocall; (case he => (simp only [ev0, sl_cells, simprocAttr] <;> rfl)); (case hc => first | exact ht | exact ha); (case ht => rfl); (case hg => rfl)) | ((first | refine osplitG rfl (fun h => ?_) (fun h => ?_) | refine osplitB rfl (fun h => ?_) (fun h => ?_)) <;> (fail_if_success (simp only [eq_self, reduceCtorEq] at h))) | refine onx ?_ | refine onb ?_ | refine sreg ?_ | refine qT rfl ?_ | refine qF rfl ?_ | refine scondT rfl ?_ | refine scondF rfl ?_ | refine ocondP rfl (fun h => ?_) (fun h => ?_) | refine ocondB rfl (fun h => ?_) (fun h => ?_) | refine scondP rfl (fun h => ?_) (fun h => ?_) | refine scond rfl (fun h => ?_) (fun h => ?_) | refine oskip ?_ | refine oskipb ?_ | refine oret ?_ | refine sem_ret ?_ | refine sem_seq ?_ | refine sreg1 ?_)
    refine semL_pan rfl rfl ?_
    exact ⟨by unfold numE; rw [e]; exact ⟨_, rfl⟩, rfl⟩
theorem amount_0 (w : Bts) (hw : w.length ≤ 100000) : ACalls K F.pile_amount [.str (strB w)] [] fun ae ν => amtE w ae ∧ ν = [] := by
  have hn := number_0 hP hGK hT w hw
  obtain ⟨P, w0, S0, G, hG0⟩ := K
  simp only at hP hGK hT
  subst hP
  refine acalls_of_sem fn_pile_amount (by simp) fun D => ?_
  unfold c_pile_amount cval enterEnv
  simp only [List.zipIdx_cons, List.zipIdx_nil, List.map_cons, List.map_nil, Nat.zero_add, Nat.reduceAdd]
  repeat' (first | ((first | refine o1 rfl ?_ | refine o0 rfl ?_); intro k hk; simp (disch := omega) only [ev0, sl_cells, simprocAttr]; refine hk _ _ ?_; clear hk k) | refine ono rfl ?_ | ((first | refine osplitG rfl (fun h => ?_) (fun h => ?_) | refine osplitB rfl (fun h => ?_) (fun h => ?_)) <;> (fail_if_success (simp only [eq_self, reduceCtorEq] at h))) | refine onx ?_ | refine onb ?_ | refine sreg ?_ | refine qT rfl ?_ | refine qF rfl ?_ | refine scondT rfl ?_ | refine scondF rfl ?_ | refine ocondP rfl (fun h => ?_) (fun h => ?_) | refine ocondB rfl (fun h => ?_) (fun h => ?_) | refine scondP rfl (fun h => ?_) (fun h => ?_) | refine scond rfl (fun h => ?_) (fun h => ?_) | refine oskip ?_ | refine oskipb ?_ | refine oret ?_ | refine sem_ret ?_ | refine sem_seq ?_ | refine sreg1 ?_)
  refine semL_acall rfl (by exact hn) fun ae μ hr => ?_
  obtain ⟨h, rfl⟩ := hr
  unfold amtE
  unfold numE at h
  cases hnum : numOf w with
  | none =>
    rw [hnum] at h
    obtain ⟨s, rfl⟩ := h
    exact ⟨⟨s, rfl⟩, rfl⟩
  | some n =>
    rw [hnum] at h
    subst h
    dsimp only
    change semL _ _ _ ⟨(_, I n) :: _, _⟩ _
    by_cases c : n < 0
    · simp only [if_pos c]
      repeat' (first | ((first | refine o1 rfl ?_ | refine o0 rfl ?_); intro k hk; simp (disch := omega) only [ev0, sl_cells, simprocAttr, c, decide_true]; refine hk _ _ ?_; clear hk k) | refine ono rfl ?_ | ((first | refine osplitG rfl (fun h => ?_) (fun h => ?_) | refine osplitB rfl (fun h => ?_) (fun h => ?_)) <;> (fail_if_success (simp only [eq_self, reduceCtorEq] at h))) | refine onx ?_ | refine onb ?_ | refine sreg ?_ | refine qT rfl ?_ | refine qF rfl ?_ | refine scondT rfl ?_ | refine scondF rfl ?_ | refine ocondP rfl (fun h => ?_) (fun h => ?_) | refine ocondB rfl (fun h => ?_) (fun h => ?_) | refine scondP rfl (fun h => ?_) (fun h => ?_) | refine scond rfl (fun h => ?_) (fun h => ?_) | refine oskip ?_ | refine oskipb ?_ | refine oret ?_ | refine sem_ret ?_ | refine sem_seq ?_ | refine sreg1 ?_)
      refine semL_pan rfl rfl ?_
      exact ⟨⟨_, rfl⟩, rfl⟩
    · simp only [if_neg c]
      repeat' (first | ((first | refine o1 rfl ?_ | refine o0 rfl ?_); intro k hk; simp (disch := omega) only [ev0, sl_cells, simprocAttr, c, decide_false]; refine hk _ _ ?_; clear hk k) | refine ono rfl ?_ | ((first | refine osplitG rfl (fun h => ?_) (fun h => ?_) | refine osplitB rfl (fun h => ?_) (fun h => ?_)) <;> (fail_if_success (simp only [eq_self, reduceCtorEq] at h))) | refine onx ?_ | refine onb ?_ | refine sreg ?_ | refine qT rfl ?_ | refine qF rfl ?_ | refine scondT rfl ?_ | refine scondF rfl ?_ | refine ocondP rfl (fun h => ?_) (fun h => ?_) | refine ocondB rfl (fun h => ?_) (fun h => ?_) | refine scondP rfl (fun h => ?_) (fun h => ?_) | refine scond rfl (fun h => ?_) (fun h => ?_) | refine oskip ?_ | refine oskipb ?_ | refine oret ?_ | refine sem_ret ?_ | refine sem_seq ?_ | refine sreg1 ?_)
      exact ⟨_, rfl, rfl, rfl⟩
end Go.Proofs.YtojkchniefhafaaGreatDoor
