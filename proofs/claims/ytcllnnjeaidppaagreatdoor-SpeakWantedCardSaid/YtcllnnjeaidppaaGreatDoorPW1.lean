/- What the words of votes mean: the table. -/
import Derived.Test.YtcllnnjeaidppaaGreatDoorPKo
import Derived.Test.YtcllnnjeaidppaaGreatDoorPF6
set_option linter.unusedVariables false
set_option linter.unusedSimpArgs false
set_option linter.unusedSectionVars false
set_option maxRecDepth 100000
set_option maxHeartbeats 4000000
namespace Go.Tk
open Go Go.Av
structure Sd where
  lang : Int
  word : ByteArray
  neg : Bool
  deriving DecidableEq
def Sd.cs (s : Sd) : List AV := [I s.lang, .str s.word, B s.neg]
def wYes : ByteArray := ⟨#[121, 101, 115]⟩
def wNo : ByteArray := ⟨#[110, 111]⟩
def wJoo : ByteArray := ⟨#[106, 111, 111]⟩
def wEn : ByteArray := ⟨#[101, 110]⟩
def wEm : ByteArray := ⟨#[101, 109]⟩
def wOm : ByteArray := ⟨#[111, 109]⟩
def wUm : ByteArray := ⟨#[117, 109]⟩
def wDash : ByteArray := ⟨#[45]⟩
def wNil : ByteArray := ⟨#[]⟩
def tabM : List (Sd × Int) := [(⟨0, wYes, false⟩, 1), (⟨0, wYes, true⟩, 1), (⟨0, wNo, false⟩, 2), (⟨0, wNo, true⟩, 2), (⟨1, wJoo, false⟩, 1), (⟨1, wJoo, true⟩, 2), (⟨1, wEn, false⟩, 2), (⟨1, wEn, true⟩, 1), (⟨2, wEm, false⟩, 1), (⟨2, wOm, false⟩, 2), (⟨2, wOm, true⟩, 2), (⟨2, wUm, true⟩, 1)]
def entA (p : Sd × Int) : AV × AV := (.agg p.1.cs, I p.2)
def lkM : List (Nat × LK) := [(0, .i), (1, .s), (2, .b)]
theorem eqM (s t : Sd) : eqA lkM s.cs t.cs = some (decide (s = t)) := by
  obtain ⟨a, b, c⟩ := s
  obtain ⟨d, e, f⟩ := t
  simp only [eqA, lkM, Sd.cs, List.getElem?_cons_zero, List.getElem?_cons_succ, leafA, Sd.mk.injEq, Bool.and_true, Option.some.injEq]
  have hs : (b.toList == e.toList) = decide (b = e) := by
    rw [ByteArray.toList_eq, ByteArray.toList_eq, Bool.eq_iff_iff, beq_iff_eq, decide_eq_true_eq]
    exact ⟨fun h => ba_ext h, fun h => by rw [h]⟩
  rw [hs]
  simp only [if_true]
  rw [show (c == f) = decide (c = f) by cases c <;> cases f <;> rfl, Option.some.injEq]
  by_cases h1 : a = d <;> by_cases h2 : b = e <;> by_cases h3 : c = f <;> simp [h1, h2, h3]
theorem strEq (a b : ByteArray) : (a.toList == b.toList) = decide (a = b) := by
  rw [ByteArray.toList_eq, ByteArray.toList_eq, Bool.eq_iff_iff, beq_iff_eq, decide_eq_true_eq]
  exact ⟨fun h => ba_ext h, fun h => by rw [h]⟩
theorem keyM (s : Sd) : keyOK true lkM (.agg s.cs) = true := by
  simp [keyOK, lkM, Sd.cs, cellsOf, leafB, coverB]
theorem findM (s : Sd) : ∀ (es : List (Sd × Int)) (i : Nat), ∃ j, findA lkM (.agg s.cs) (es.map entA) i = some ((es.lookup s).map fun n => (j, I n))
  | [], i => ⟨0, rfl⟩
  | p :: es, i => by
    obtain ⟨j, hj⟩ := findM s es (i + 1)
    simp only [List.map_cons, entA, findA, cellsOf, eqM]
    by_cases h : s = p.1
    · subst h
      refine ⟨i, ?_⟩
      simp [List.lookup]
    · refine ⟨j, ?_⟩
      rw [decide_eq_false h]
      have h2 : (s == p.1) = false := by simpa using h
      obtain ⟨p1, p2⟩ := p
      simp only [List.lookup, h2]
      exact hj
/-- Keys that are all different: at most one fits. -/
theorem oneM (s : Sd) : ∀ es : List (Sd × Int), (es.map fun p => p.1).Nodup → oneA lkM (.agg s.cs) (es.map entA) = true := by
  intro es hn
  unfold oneA
  rw [Bool.and_eq_true]
  constructor
  · rw [List.all_eq_true]
    intro q hq
    obtain ⟨p, _, rfl⟩ := List.mem_map.1 hq
    simp [entA, cellsOf, eqM]
  · rw [List.countP_map]
    have e : ((fun p : AV × AV => eqA lkM (cellsOf (.agg s.cs)) (cellsOf p.1) == some true) ∘ entA) = fun p : Sd × Int => decide (s = p.1) := by
      funext p
      simp only [Function.comp, entA, cellsOf, eqM]
      by_cases h : s = p.1 <;> simp [h]
    rw [e]
    have : ∀ es : List (Sd × Int), (es.map fun p => p.1).Nodup → es.countP (fun p => decide (s = p.1)) ≤ 1 ∧ (s ∉ es.map (fun p => p.1) → es.countP (fun p => decide (s = p.1)) = 0) := by
      intro es
      induction es with
      | nil => intro _; simp
      | cons p es ih =>
        intro hn
        rw [List.map_cons, List.nodup_cons] at hn
        obtain ⟨i1, i2⟩ := ih hn.2
        rw [List.countP_cons]
        by_cases h : s = p.1
        · subst h
          have := i2 hn.1
          refine ⟨by simp [this], fun q => absurd (by simp) q⟩
        · refine ⟨by simpa [h] using i1, fun q => ?_⟩
          have : s ∉ es.map (fun p => p.1) := fun z => q (by rw [List.map_cons]; exact List.mem_cons_of_mem _ z)
          simp [h, i2 this]
    exact Nat.ble_eq_true_of_le (this es hn).1
theorem tabM_nodup : (tabM.map fun p => p.1).Nodup := by decide +kernel
theorem lookM (s : Sd) {μ : List AObj} {id : Nat} (h : μ[id]? = some (.map (tabM.map entA))) : lookA true lkM (I 0) true (.mp id) (.agg s.cs) μ = some (match tabM.lookup s with | some n => .tup [I n, B true] | none => .tup [I 0, B false]) := by
  obtain ⟨j, hj⟩ := findM s tabM 0
  have hk : (tabM.map entA).all (fun p => keyOK true lkM p.1) = true := by
    rw [List.all_eq_true]
    intro q hq
    obtain ⟨p, _, rfl⟩ := List.mem_map.1 hq
    exact keyM p.1
  simp only [lookA, h]
  rw [if_pos ⟨⟨keyM s, hk⟩, oneM s tabM tabM_nodup⟩, hj]
  cases tabM.lookup s <;> rfl
/-- What a word means. -/
def meansM (s : Sd) : Int := if s.word = wNil then 0 else (tabM.lookup s).getD 3
end Go.Tk
namespace Go.Proofs.YtcllnnjeaidppaaGreatDoor
open Go Go.Av Go.Tk
variable {G : World → Prop} (hG : ∀ w w', G w → RowKit.Below w.heap.size w w' → G w') (hT : ∀ w, G w → GB w)
theorem meanings_ev : ev T X 60 (.call F.speak_meanings [] [.gone]) = some (.en (.ret (.mp 1)) [.gone, .map (tabM.map entA)]) := by kernel_rfl
attribute [local irreducible] Holds sem semL ACalls FnIs
include hG hT
theorem speak_meanings (K : Ctx) (hP : K.P = Tryz.prog) (hKG : K.G = G) (o : AObj) (ho : refO 0 o = true) : ACalls K F.speak_meanings [] [o] fun ae ν => ae = .ret (.mp 1) ∧ ν = [o, .map (tabM.map entA)] := by
  have hc := ev_sound _ _ _ meanings_ev
  simp only [Right] at hc
  have := ACalls.frameAt (μ := []) (ν1 := []) (ν2 := [.map (tabM.map entA)]) (o := o) (hc K (kok hG (hX hT) K hP hKG)) rfl rfl ho rfl rfl (by kernel_rfl)
  exact this
theorem speak_meaning (s : Sd) : Holds Tryz.prog G F.speak_meaning [.agg s.cs] (I (meansM s)) := by
  have hmx := hmix
  (refine holds_of_sem hG fn_speak_meaning (by simp) fun w0 S0 hG0 D0 => ?_; unfold c_speak_meaning cval enterEnv; simp only [List.zipIdx_cons, List.zipIdx_nil, List.map_cons, List.map_nil, Nat.zero_add, Nat.reduceAdd])
  by_cases hw : s.word = wNil
  · have hww : (s.word.toList == (⟨#[]⟩ : ByteArray).toList) = true := by rw [strEq]; exact decide_eq_true hw
    rw [show meansM s = 0 from if_pos hw]
    repeat' (first | ((first | refine o1 rfl ?_ | refine o0 rfl ?_); intro k hk; simp (disch := omega) only [ev0, sl_cells, simprocAttr, Sd.cs, hww]; refine hk _ _ ?_; clear hk k) | refine ono rfl ?_ | ((first | refine osplitG rfl (fun h => ?_) (fun h => ?_) | refine osplitB rfl (fun h => ?_) (fun h => ?_)) <;> (fail_if_success (simp only [eq_self, reduceCtorEq] at h))) | refine onx ?_ | refine onb ?_ | refine sreg ?_ | refine qT rfl ?_ | refine qF rfl ?_ | refine scondT rfl ?_ | refine scondF rfl ?_ | refine ocondP rfl (fun h => ?_) (fun h => ?_) | refine ocondB rfl (fun h => ?_) (fun h => ?_) | refine scondP rfl (fun h => ?_) (fun h => ?_) | refine scond rfl (fun h => ?_) (fun h => ?_) | refine oskip ?_ | refine oskipb ?_ | refine oret ?_ | refine sem_ret ?_ | refine sem_seq ?_ | refine sreg1 ?_)
    exact ⟨_, rfl, _, rfl, tree_eq rfl rfl⟩
  · have hww : (s.word.toList == (⟨#[]⟩ : ByteArray).toList) = false := by rw [strEq]; exact decide_eq_false hw
    have hms : meansM s = (tabM.lookup s).getD 3 := if_neg hw
    rw [hms]
    have hmc := speak_meanings hG hT
    repeat' (first | ((first | refine o1 rfl ?_ | refine o0 rfl ?_); intro k hk; simp (disch := omega) only [ev0, sl_cells, simprocAttr, Sd.cs, hww]; refine hk _ _ ?_; clear hk k) | refine ono rfl ?_ | ((first | refine osplitG rfl (fun h => ?_) (fun h => ?_) | refine osplitB rfl (fun h => ?_) (fun h => ?_)) <;> (fail_if_success (simp only [eq_self, reduceCtorEq] at h))) | refine onx ?_ | refine onb ?_ | refine sreg ?_ | refine qT rfl ?_ | refine qF rfl ?_ | refine scondT rfl ?_ | refine scondF rfl ?_ | refine ocondP rfl (fun h => ?_) (fun h => ?_) | refine ocondB rfl (fun h => ?_) (fun h => ?_) | refine scondP rfl (fun h => ?_) (fun h => ?_) | refine scond rfl (fun h => ?_) (fun h => ?_) | refine oskip ?_ | refine oskipb ?_ | refine oret ?_ | refine sem_ret ?_ | refine sem_seq ?_ | refine sreg1 ?_)
    obtain ⟨n, b, hlk, hb1, hb2⟩ : ∃ n b, (∀ (μ : List AObj) (id : Nat), μ[id]? = some (.map (tabM.map entA)) → lookA true lkM (I 0) true (.mp id) (.agg s.cs) μ = some (.tup [I n, B b])) ∧ (b = true → (tabM.lookup s).getD 3 = n) ∧ (b = false → (tabM.lookup s).getD 3 = 3) := by
      cases hq : tabM.lookup s with
      | none => exact ⟨0, false, fun μ id h => by rw [lookM s h, hq], fun h => (by cases h), fun _ => rfl⟩
      | some n => exact ⟨n, true, fun μ id h => by rw [lookM s h, hq], fun _ => rfl, fun h => (by cases h)⟩
    obtain ⟨R, hR⟩ : ∃ R : Nat → AV, R = fun i => ([.mp 1, .agg s.cs, .tup [I n, B b], .tup [I n, B b], I n, B b, I n, B b] : List AV).getD i .dead := ⟨_, rfl⟩
    have r0 : R 0 = .mp 1 := by rw [hR]; rfl
    refine any_start hmix ?_
    refine any_eff2 (ν := [.row 154 0 3 [s.cs], .map (tabM.map entA)]) 0 8 0 R (by kernel_rfl) (Nat.le_refl _) (by omega) (xa := []) (xb := (List.range 8).map R) (xc := (List.range 8).map R) (env' := [(4, B b), (3, I n), (13, B b), (12, I n), (8, .tup [I n, B b]), (11, .tup [I n, B b]), (10, .agg s.cs), (9, .mp 1), (7, .bool false), (6, .str s.word), (5, .ptr 0 0 3 0 1), (2, .int .i64 0), (1, .ptr 0 0 3 0 0), (0, .agg s.cs)]) (env'' := [(4, B b), (3, I n), (13, B b), (12, I n), (8, .tup [I n, B b]), (11, .tup [I n, B b]), (10, .agg s.cs), (9, .mp 1), (7, .bool false), (6, .str s.word), (5, .ptr 0 0 3 0 1), (2, .int .i64 0), (1, .ptr 0 0 3 0 0), (0, .agg s.cs)]) (qval_sound rfl) (qval_sound (by rw [hR]; rfl)) (qval_sound ?_) (fun i hi => by omega) (fun i hi => ?_) (fun i hi => ?_) rfl (.inr ⟨_, _, rfl, ?_⟩) ?_
    · show qval [⟨some 9, none, .mv (.c (R 0))⟩, ⟨some 10, none, .load true 3 (.t 1)⟩, ⟨some 11, none, .look true lkM (I 0) true (.t 9) (.t 10)⟩, ⟨some 8, none, .mv (.t 11)⟩, ⟨some 12, none, .ext 0 (.t 8)⟩, ⟨some 13, none, .ext 1 (.t 8)⟩, ⟨some 3, none, .mv (.t 12)⟩, ⟨some 4, none, .mv (.t 13)⟩] _ _ = _
      have hl2 := hlk [.row 154 0 3 [s.cs], .map (tabM.map entA)] 1 rfl
      rw [hR]
      simp (disch := omega) only [qval, pushE, quietK, and_self, if_true, wv, simprocAttr, ev0, sl_cells, Sd.cs]
      simp only [Sd.cs] at hl2
      simp only [List.getD_cons_zero, hl2, Option.map_some, extA, List.getElem?_cons_zero, List.getElem?_cons_succ]
      rfl
    · simp only [List.getD_eq_getElem?_getD, List.getElem?_map, List.getElem?_range (show i < 8 by omega), Option.map_some, Option.getD_some, Nat.zero_add]
    · simp only [List.getD_eq_getElem?_getD, List.getElem?_map, List.getElem?_range (show i < 8 by omega), Option.map_some, Option.getD_some, Nat.zero_add]
    · rw [r0]
      exact hmc _ rfl rfl _ rfl
    · refine any_end 8 rfl ?_
      change sem _ _ _ _ _
      cases b
      · rw [hb2 rfl]
        repeat' (first | ((first | refine o1 rfl ?_ | refine o0 rfl ?_); intro k hk; simp (disch := omega) only [ev0, sl_cells, simprocAttr]; refine hk _ _ ?_; clear hk k) | refine ono rfl ?_ | ((first | refine osplitG rfl (fun h => ?_) (fun h => ?_) | refine osplitB rfl (fun h => ?_) (fun h => ?_)) <;> (fail_if_success (simp only [eq_self, reduceCtorEq] at h))) | refine onx ?_ | refine onb ?_ | refine sreg ?_ | refine qT rfl ?_ | refine qF rfl ?_ | refine scondT rfl ?_ | refine scondF rfl ?_ | refine ocondP rfl (fun h => ?_) (fun h => ?_) | refine ocondB rfl (fun h => ?_) (fun h => ?_) | refine scondP rfl (fun h => ?_) (fun h => ?_) | refine scond rfl (fun h => ?_) (fun h => ?_) | refine oskip ?_ | refine oskipb ?_ | refine oret ?_ | refine sem_ret ?_ | refine sem_seq ?_ | refine sreg1 ?_)
        exact ⟨_, rfl, _, rfl, tree_eq rfl rfl⟩
      · rw [hb1 rfl]
        repeat' (first | ((first | refine o1 rfl ?_ | refine o0 rfl ?_); intro k hk; simp (disch := omega) only [ev0, sl_cells, simprocAttr]; refine hk _ _ ?_; clear hk k) | refine ono rfl ?_ | ((first | refine osplitG rfl (fun h => ?_) (fun h => ?_) | refine osplitB rfl (fun h => ?_) (fun h => ?_)) <;> (fail_if_success (simp only [eq_self, reduceCtorEq] at h))) | refine onx ?_ | refine onb ?_ | refine sreg ?_ | refine qT rfl ?_ | refine qF rfl ?_ | refine scondT rfl ?_ | refine scondF rfl ?_ | refine ocondP rfl (fun h => ?_) (fun h => ?_) | refine ocondB rfl (fun h => ?_) (fun h => ?_) | refine scondP rfl (fun h => ?_) (fun h => ?_) | refine scond rfl (fun h => ?_) (fun h => ?_) | refine oskip ?_ | refine oskipb ?_ | refine oret ?_ | refine sem_ret ?_ | refine sem_seq ?_ | refine sreg1 ?_)
        exact ⟨_, rfl, _, rfl, tree_eq rfl rfl⟩
end Go.Proofs.YtcllnnjeaidppaaGreatDoor
