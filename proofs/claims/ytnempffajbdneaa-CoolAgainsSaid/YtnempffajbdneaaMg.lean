/- slices.IndexFunc, slices.ContainsFunc, whatever their elements. -/
import Derived.Test.YtnempffajbdneaaMe
import Derived.Test.YtnempffajbdneaaMf
set_option linter.unusedVariables false
set_option linter.unusedSimpArgs false
namespace Go.Proofs.Ytnempffajbdneaa
open Go Go.Av Go.Tk

def idxI : Option Nat → Int
  | some i => i
  | none => -1

def IFl (sz : Nat) (agg : Bool) : SCode := .seq (.reg [⟨some 9, none, .bin .lss (.t 8) (.t 7)⟩]) (.seq (.cond (.t 9) .skip (.exit 0)) (.seq (.block 1 (.seq (.reg [⟨some 10, none, .mv (.t 8)⟩, ⟨some 5, none, .mv (.t 10)⟩]) (.seq (.reg [⟨some 11, none, .mv (.t 1)⟩, ⟨some 12, none, .mv (.t 0)⟩, ⟨some 13, none, .mv (.t 5)⟩, ⟨some 14, none, .ixS sz (.t 12) (.t 13)⟩, ⟨some 15, none, .load agg sz (.t 14)⟩, ⟨some 16, none, .dyn (.t 11) [.t 15]⟩]) (.cond (.t 16) (.seq (.reg [⟨some 17, none, .mv (.t 5)⟩, ⟨some 4, none, .mv (.t 17)⟩]) .ret) .skip)))) (.reg [⟨some 18, none, .bin .add (.t 8) (.c (.int .i64 1))⟩, ⟨some 8, none, .mv (.t 18)⟩])))
def IFc (sz : Nat) (agg : Bool) : SCode := .seq (.reg [⟨some 4, none, .mv (.c (.int .i64 0))⟩]) (.seq (.seq (.reg [⟨some 6, none, .mv (.t 0)⟩, ⟨some 7, none, .len (.t 6)⟩, ⟨some 8, none, .mv (.c (.int .i64 0))⟩]) (.block 0 (.loop (IFl sz agg)))) (.seq (.reg [⟨some 4, none, .mv (.c (.int .i64 (-1)))⟩]) .ret))

/-- The element as it is loaded. -/
def elemOf (agg : Bool) (cs : List AV) : AV := match agg with | true => .agg cs | false => cs.getD 0 .dead

theorem oS {K : Ctx} {F : Fcx} {Q : AExit → St → Prop} {env : List (Nat × AV)} {μ μ' : List AObj} {d : Nat} {op : SOp} {x : AV} {l : List SOper} (hs : sopA op env μ = some (x, μ')) (h : semL K F l ⟨(d, x) :: env, μ'⟩ Q) : semL K F (⟨some d, none, op⟩ :: l) ⟨env, μ⟩ Q :=
  semL_op (σ := ⟨env, μ⟩) rfl hs h

theorem ix_elem {α : Type} [Inhabited α] {enc : α → List AV} {l : List α} {i sz : Nat} (hi : i < l.length) (hsz : ∀ a, (enc a).length = sz) (μ : List AObj) : ixS sz (.sl l.length fun i => enc (l.getD i default)) (I i) μ = some (.tptr (enc l[i]) 0) := by
  simp only [ixS]
  rw [if_pos ⟨by omega, by omega⟩, Int.toNat_natCast, if_pos (hsz _), getD_lt hi]

theorem load_elem {cs : List AV} {sz : Nat} {agg : Bool} (hsz : cs.length = sz) (h1 : agg = false → sz = 1) (μ : List AObj) : loadA agg sz (.tptr cs 0) μ = some (elemOf agg cs) := by
  cases agg with
  | true =>
    simp only [loadA, place, if_true, Nat.zero_add, List.drop_zero, elemOf]
    rw [if_pos (by omega), List.take_of_length_le (by omega)]
  | false =>
    have := h1 rfl
    subst this
    match cs, hsz with
    | [x], _ => rfl

attribute [local irreducible] Holds sem semL ACalls FnIs
variable {G : World → Prop} (hG : ∀ w w', G w → RowKit.Below w.heap.size w w' → G w')
include hG

theorem indexFunc {P : Program} {α : Type} [Inhabited α] {f m sz : Nat} {agg : Bool} (hf : FnIs P f m (IFc sz agg) [.tmp 4]) (hm : 2 ≤ m) (enc : α → List AV) (hsz : ∀ a, (enc a).length = sz) (h1 : agg = false → sz = 1) (htr : ∀ a, treeL (enc a) = true) (l : List α) (hlen : l.length ≤ 4611686018427387904)
    {g : Nat} {fi ca : List AV} (ht : treeL fi = true) (ht2 : treeL ca = true) (p : α → Bool) (hp : ∀ a ∈ l, Holds P G g (fi ++ [elemOf agg (enc a)] ++ ca) (.bool (p a))) :
    Holds P G f [slOf enc l, .fn (.func g) fi ca] (I (idxI (l.findIdx? p))) := by
  refine holds_of_sem hG hf (by simpa using hm) fun w0 S0 hG0 D0 => ?_
  unfold IFc enterEnv
  simp only [List.zipIdx_cons, List.zipIdx_nil, List.map_cons, List.map_nil, Nat.zero_add, Nat.reduceAdd]
  refine sreg ?_
  repeat (first | ((first | refine o1 rfl ?_ | refine o0 rfl ?_); intro k hk; simp (disch := omega) only [ev0, sl_cells, simprocAttr]; refine hk _ _ ?_; clear hk k) | refine ono rfl ?_)
  refine onx (sem_seq (sreg ?_))
  repeat (first | ((first | refine o1 rfl ?_ | refine o0 rfl ?_); intro k hk; simp (disch := omega) only [ev0, sl_cells, simprocAttr, slOf]; refine hk _ _ ?_; clear hk k) | refine ono rfl ?_)
  refine onx (sem_block ?_)
  refine sem_loop (α := Nat) (fun i => ⟨[(0, slOf enc l), (1, .fn (.func g) fi ca), (7, I l.length), (8, I i)], []⟩) (fun i => i ≤ l.length ∧ ∀ j, j < i → ∀ a, l[j]? = some a → p a = false) (fun i => l.length - i) 0 ⟨Nat.zero_le _, fun j hj => absurd hj (Nat.not_lt_zero _)⟩ ?_ ?_
  · (refine Le.same ?_; simp only [List.forall_mem_cons, List.forall_mem_nil, getE, selE, Nat.reduceBEq, List.not_mem_nil, false_implies, implies_true, and_true, true_and, and_self])
    simp [slOf]
  · rintro i ⟨hi, hall⟩
    unfold IFl
    refine sem_seq (sreg1 ?_)
    repeat (first | ((first | refine o1 rfl ?_ | refine o0 rfl ?_); intro k hk; simp (disch := omega) only [ev0, sl_cells, simprocAttr]; refine hk _ _ ?_; clear hk k) | refine ono rfl ?_)
    refine onx (sem_seq (scondP (by (simp only [wv, simprocAttr] <;> rfl)) (fun h => ?_) (fun h => ?_)))
    · have hg : l.getD i default = l[i] := getD_lt (by omega)
      have htl : treeL (fi ++ [elemOf agg (enc (l.getD i default))] ++ ca) = true := treeL_append (treeL_append ht (by
        simp only [treeL, Bool.and_true, elemOf]
        cases agg with
        | true => exact htr _
        | false =>
          have := hsz (l.getD i default)
          rw [h1 rfl] at this
          match h2 : enc (l.getD i default), this with
          | [x], _ =>
            have := htr (l.getD i default)
            rw [h2] at this
            simpa [treeL] using this)) ht2
      refine sem_skip (nx (sem_seq (sem_block (sem_seq (sreg1 ?_)))))
      repeat (first | ((first | refine o1 rfl ?_ | refine o0 rfl ?_); intro k hk; simp (disch := omega) only [ev0, sl_cells, simprocAttr]; refine hk _ _ ?_; clear hk k) | refine ono rfl ?_)
      refine onx (sem_seq (sreg1 ?_))
      repeat (first | ((first | refine o1 rfl ?_ | refine o0 rfl ?_); intro k hk; simp (disch := omega) only [ev0, sl_cells, simprocAttr, slOf]; refine hk _ _ ?_; clear hk k) | refine ono rfl ?_)
      refine oS (by simp only [sopA, evX, getE, selE, Nat.reduceBEq, ix_elem (show i < l.length by omega) hsz, withMu, Option.map_some]; rfl) ?_
      refine oS (by simp only [sopA, evX, getE, selE, Nat.reduceBEq, load_elem (hsz l[i]) h1, withMu, Option.map_some]; rfl) ?_
      rw [hg] at htl
      (apply odyn; (case hx => (simp only [ev0, sl_cells, simprocAttr] <;> rfl)); (case he => (simp only [ev0, sl_cells, simprocAttr] <;> rfl)); (case hc => exact hp l[i] (List.getElem_mem _)); (case ht => first | rfl | assumption); (case hg => rfl))
      refine onx (scond (by (simp only [wv, simprocAttr] <;> rfl)) (fun hc => ?_) (fun hc => ?_))
      · refine sreg ?_
        repeat (first | ((first | refine o1 rfl ?_ | refine o0 rfl ?_); intro k hk; simp (disch := omega) only [ev0, sl_cells, simprocAttr]; refine hk _ _ ?_; clear hk k) | refine ono rfl ?_)
        refine onx (sem_ret ?_)
        have : l.findIdx? p = some i := by
          rw [List.findIdx?_eq_some_iff_getElem]
          exact ⟨by omega, hc, fun j hj => by have := hall j hj _ (List.getElem?_eq_getElem (by omega)); simp [this]⟩
        exact ⟨_, rfl, _, rfl, tree_eq rfl (by simp [getE, selE, this, idxI])⟩
      · refine sem_skip ?_
        refine (show sem _ _ _ _ _ from sreg1 ?_)
        repeat (first | ((first | refine o1 rfl ?_ | refine o0 rfl ?_); intro k hk; simp (disch := omega) only [ev0, sl_cells, simprocAttr]; refine hk _ _ ?_; clear hk k) | refine ono rfl ?_)
        refine onil (lnext (i + 1) ⟨by omega, fun j hj a ha => ?_⟩ (by omega) ?_)
        · by_cases hji : j = i
          · subst hji
            rw [List.getElem?_eq_getElem (by omega)] at ha
            cases ha; exact hc
          · exact hall j (by omega) a ha
        · (refine Le.same ?_; simp only [List.forall_mem_cons, List.forall_mem_nil, getE, selE, Nat.reduceBEq, List.not_mem_nil, false_implies, implies_true, and_true, true_and, and_self])
          simp
    · have hi' : i = l.length := by omega
      subst hi'
      refine sem_exit ?_
      change sem _ _ _ _ _
      refine sreg ?_
      repeat (first | ((first | refine o1 rfl ?_ | refine o0 rfl ?_); intro k hk; simp (disch := omega) only [ev0, sl_cells, simprocAttr]; refine hk _ _ ?_; clear hk k) | refine ono rfl ?_)
      refine onx (sem_ret ?_)
      have : l.findIdx? p = none := by
        rw [List.findIdx?_eq_none_iff]
        intro a ha
        obtain ⟨j, hj⟩ := List.getElem?_of_mem ha
        exact hall j (List.getElem?_eq_some_iff.1 hj).1 a hj
      exact ⟨_, rfl, _, rfl, tree_eq rfl (by simp [getE, selE, this, idxI])⟩

def CFc (f : Nat) : SCode := .seq (.reg [⟨some 4, none, .mv (.c (.bool false))⟩]) (.seq (.reg [⟨some 5, none, .mv (.t 0)⟩, ⟨some 6, none, .mv (.t 1)⟩, ⟨some 7, none, .call f [.t 5, .t 6]⟩, ⟨some 8, none, .bin .geq (.t 7) (.c (.int .i64 0))⟩, ⟨some 4, none, .mv (.t 8)⟩]) .ret)

omit hG in
theorem idxI_any {α : Type} (l : List α) (p : α → Bool) : decide (0 ≤ idxI (l.findIdx? p)) = l.any p := by
  cases h : l.findIdx? p with
  | none =>
    rw [List.findIdx?_eq_none_iff] at h
    have : l.any p = false := by simpa [List.any_eq_false] using h
    simp [idxI, this]
  | some i =>
    have h' := List.findIdx?_isSome (xs := l) (p := p)
    rw [h] at h'
    simp [idxI, ← h']

theorem containsFunc {P : Program} {α : Type} [Inhabited α] {f f' m m' sz : Nat} {agg : Bool} (hc : FnIs P f' m' (CFc f) [.tmp 4]) (hm' : 2 ≤ m') (hf : FnIs P f m (IFc sz agg) [.tmp 4]) (hm : 2 ≤ m) (enc : α → List AV) (hsz : ∀ a, (enc a).length = sz) (h1 : agg = false → sz = 1) (htr : ∀ a, treeL (enc a) = true) (l : List α) (hlen : l.length ≤ 4611686018427387904)
    {g : Nat} {fi ca : List AV} (ht : treeL fi = true) (ht2 : treeL ca = true) (p : α → Bool) (hp : ∀ a ∈ l, Holds P G g (fi ++ [elemOf agg (enc a)] ++ ca) (.bool (p a))) :
    Holds P G f' [slOf enc l, .fn (.func g) fi ca] (B (l.any p)) := by
  refine holds_of_sem hG hc (by simpa using hm') fun w0 S0 hG0 D0 => ?_
  unfold CFc enterEnv
  simp only [List.zipIdx_cons, List.zipIdx_nil, List.map_cons, List.map_nil, Nat.zero_add, Nat.reduceAdd]
  refine sreg ?_
  repeat (first | ((first | refine o1 rfl ?_ | refine o0 rfl ?_); intro k hk; simp (disch := omega) only [ev0, sl_cells, simprocAttr]; refine hk _ _ ?_; clear hk k) | refine ono rfl ?_)
  refine onx (sreg ?_)
  repeat (first | ((first | refine o1 rfl ?_ | refine o0 rfl ?_); intro k hk; simp (disch := omega) only [ev0, sl_cells, simprocAttr]; refine hk _ _ ?_; clear hk k) | refine ono rfl ?_)
  have htl : treeL [slOf enc l, .fn (.func g) fi ca] = true := by simp [treeL, treeA, slOf, ht, ht2]
  refine ocall («as» := [slOf enc l, .fn (.func g) fi ca]) (by simp only [evX, getE, selE, Nat.reduceBEq, List.map_cons, List.map_nil]) (indexFunc hG hf hm enc hsz h1 htr l hlen ht ht2 p hp) htl rfl ?_
  repeat (first | ((first | refine o1 rfl ?_ | refine o0 rfl ?_); intro k hk; simp (disch := omega) only [ev0, sl_cells, simprocAttr]; refine hk _ _ ?_; clear hk k) | refine ono rfl ?_)
  refine onx (sem_ret ?_)
  exact ⟨_, rfl, _, rfl, tree_eq rfl (by simp only [getE, selE, Nat.reduceBEq]; rw [← idxI_any])⟩

end Go.Proofs.Ytnempffajbdneaa

/- Which towns are as defined: both sides. -/
set_option linter.unusedVariables false
set_option linter.unusedSimpArgs false
set_option maxRecDepth 8000
set_option maxHeartbeats 2000000
namespace Go.Tk
open Go Go.Av
abbrev inI (x lo hi : Int) : Prop := lo ≤ x ∧ x ≤ hi
abbrev Span.cold (s : Span) : Prop := 0 ≤ s.low ∧ s.low ≤ s.high ∧ s.high ≤ 1000000
abbrev CoolHouse.ok (h : CoolHouse) : Prop := h.need.cold ∧ inI h.grace 0 100
abbrev CoolSite.ok (n : Nat) (x : CoolSite) : Prop := inI x.cost 0 1000000 ∧ inI x.weeks 1 100 ∧ x.gives.length = n ∧ ∀ g ∈ x.gives, g.cold
def CoolTown.ok (t : CoolTown) : Prop := (1 ≤ t.houses.length ∧ t.houses.length ≤ 6) ∧ (1 ≤ t.sites.length ∧ t.sites.length ≤ 10) ∧ (∀ h ∈ t.houses, h.ok) ∧ ∀ x ∈ t.sites, x.ok t.houses.length
noncomputable instance (t : CoolTown) : Decidable t.ok := Classical.propDecidable _
def CoolTown.short (t : CoolTown) : Prop := t.houses.length ≤ 10 ∧ t.sites.length ≤ 15 ∧ ∀ x ∈ t.sites, x.gives.length ≤ 10
noncomputable instance (t : CoolTown) : Decidable t.short := Classical.propDecidable _
def CoolTruth.short (x : CoolTruth) : Prop := x.needs.length ≤ 10 ∧ x.gives.length ≤ 15 ∧ ∀ l ∈ x.gives, l.length ≤ 10
noncomputable instance (x : CoolTruth) : Decidable x.short := Classical.propDecidable _
theorem any_not {α : Type} (l : List α) (p : α → Prop) [DecidablePred p] [Decidable (∀ x ∈ l, p x)] : (l.any fun x => !decide (p x)) = !decide (∀ x ∈ l, p x) := by
  rw [Bool.eq_iff_iff]
  simp only [List.any_eq_true, Bool.not_eq_true', decide_eq_false_iff_not, Classical.not_forall, not_imp, exists_prop]
theorem all_getD {α : Type} [Inhabited α] {l : List α} {p : α → Prop} : (∀ x ∈ l, p x) ↔ ∀ i, i < l.length → p (l.getD i default) := by
  constructor
  · intro h i hi
    rw [getD_lt hi]; exact h _ (List.getElem_mem _)
  · intro h x hx
    obtain ⟨i, hi⟩ := List.getElem?_of_mem hx
    have hlt := (List.getElem?_eq_some_iff.1 hi).1
    have := h i hlt
    rw [getD_lt hlt, (List.getElem?_eq_some_iff.1 hi).2] at this
    exact this
end Go.Tk
namespace Go.Proofs.Ytnempffajbdneaa
open Go Go.Av Go.Tk
attribute [local irreducible] Holds sem semL ACalls FnIs
variable {G : World → Prop} (hG : ∀ w w', G w → RowKit.Below w.heap.size w w' → G w')
include hG
theorem cool_in (x lo hi : Int) : Holds Try.prog G F.cool_in [I x, I lo, I hi] (B (decide (lo ≤ x ∧ x ≤ hi))) := by
  (refine holds_of_sem hG fn_cool_in (by simp) fun w0 S0 hG0 D0 => ?_; unfold c_cool_in cval enterEnv; simp only [List.zipIdx_cons, List.zipIdx_nil, List.map_cons, List.map_nil, Nat.zero_add, Nat.reduceAdd])
  repeat' (first | ((first | refine o1 rfl ?_ | refine o0 rfl ?_); intro k hk; simp (disch := omega) only [ev0, sl_cells, simprocAttr]; refine hk _ _ ?_; clear hk k) | refine ono rfl ?_ | ((first | refine osplitG rfl (fun h => ?_) (fun h => ?_) | refine osplitB rfl (fun h => ?_) (fun h => ?_)) <;> (fail_if_success (simp only [eq_self, reduceCtorEq] at h))) | refine onx ?_ | refine onb ?_ | refine sreg ?_ | refine qT rfl ?_ | refine qF rfl ?_ | refine scondT rfl ?_ | refine scondF rfl ?_ | refine ocondP rfl (fun h => ?_) (fun h => ?_) | refine ocondB rfl (fun h => ?_) (fun h => ?_) | refine scondP rfl (fun h => ?_) (fun h => ?_) | refine scond rfl (fun h => ?_) (fun h => ?_) | refine oskip ?_ | refine oskipb ?_ | refine oret ?_ | refine sem_ret ?_ | refine sem_seq ?_ | refine sreg1 ?_)
  all_goals exact ⟨_, rfl, _, rfl, tree_eq rfl (by simp [getE, selE, *])⟩

theorem ref03_in (x lo hi : Int) : Holds Try.prog G F.ref03_in [I x, I lo, I hi] (B (decide (lo ≤ x ∧ x ≤ hi))) := by
  (refine holds_of_sem hG fn_ref03_in (by simp) fun w0 S0 hG0 D0 => ?_; unfold c_ref03_in cval enterEnv; simp only [List.zipIdx_cons, List.zipIdx_nil, List.map_cons, List.map_nil, Nat.zero_add, Nat.reduceAdd])
  repeat' (first | ((first | refine o1 rfl ?_ | refine o0 rfl ?_); intro k hk; simp (disch := omega) only [ev0, sl_cells, simprocAttr]; refine hk _ _ ?_; clear hk k) | refine ono rfl ?_ | ((first | refine osplitG rfl (fun h => ?_) (fun h => ?_) | refine osplitB rfl (fun h => ?_) (fun h => ?_)) <;> (fail_if_success (simp only [eq_self, reduceCtorEq] at h))) | refine onx ?_ | refine onb ?_ | refine sreg ?_ | refine qT rfl ?_ | refine qF rfl ?_ | refine scondT rfl ?_ | refine scondF rfl ?_ | refine ocondP rfl (fun h => ?_) (fun h => ?_) | refine ocondB rfl (fun h => ?_) (fun h => ?_) | refine scondP rfl (fun h => ?_) (fun h => ?_) | refine scond rfl (fun h => ?_) (fun h => ?_) | refine oskip ?_ | refine oskipb ?_ | refine oret ?_ | refine sem_ret ?_ | refine sem_seq ?_ | refine sreg1 ?_)
  all_goals exact ⟨_, rfl, _, rfl, tree_eq rfl (by simp [getE, selE, *])⟩

theorem cool_span (s : Span) : Holds Try.prog G F.cool_span [.agg s.cs] (B (decide s.cold)) := by
  (refine holds_of_sem hG fn_cool_span (by simp) fun w0 S0 hG0 D0 => ?_; unfold c_cool_span cval enterEnv; simp only [List.zipIdx_cons, List.zipIdx_nil, List.map_cons, List.map_nil, Nat.zero_add, Nat.reduceAdd])
  repeat' (first | ((first | refine o1 rfl ?_ | refine o0 rfl ?_); intro k hk; simp (disch := omega) only [ev0, sl_cells, simprocAttr, Span.cs]; refine hk _ _ ?_; clear hk k) | refine ono rfl ?_ | ((first | refine osplitG rfl (fun h => ?_) (fun h => ?_) | refine osplitB rfl (fun h => ?_) (fun h => ?_)) <;> (fail_if_success (simp only [eq_self, reduceCtorEq] at h))) | refine onx ?_ | refine onb ?_ | refine sreg ?_ | refine qT rfl ?_ | refine qF rfl ?_ | refine scondT rfl ?_ | refine scondF rfl ?_ | refine ocondP rfl (fun h => ?_) (fun h => ?_) | refine ocondB rfl (fun h => ?_) (fun h => ?_) | refine scondP rfl (fun h => ?_) (fun h => ?_) | refine scond rfl (fun h => ?_) (fun h => ?_) | refine oskip ?_ | refine oskipb ?_ | refine oret ?_ | refine sem_ret ?_ | refine sem_seq ?_ | refine sreg1 ?_)
  all_goals exact ⟨_, rfl, _, rfl, tree_eq rfl (by simp [getE, selE, *])⟩

theorem ref03_Cold (s : Span) : Holds Try.prog G F.ref03_Cold [.agg s.cs] (B (decide s.cold)) := by
  (refine holds_of_sem hG fn_ref03_Cold (by simp) fun w0 S0 hG0 D0 => ?_; unfold c_ref03_Cold cval enterEnv; simp only [List.zipIdx_cons, List.zipIdx_nil, List.map_cons, List.map_nil, Nat.zero_add, Nat.reduceAdd])
  repeat' (first | ((first | refine o1 rfl ?_ | refine o0 rfl ?_); intro k hk; simp (disch := omega) only [ev0, sl_cells, simprocAttr, Span.cs]; refine hk _ _ ?_; clear hk k) | refine ono rfl ?_ | ((first | refine osplitG rfl (fun h => ?_) (fun h => ?_) | refine osplitB rfl (fun h => ?_) (fun h => ?_)) <;> (fail_if_success (simp only [eq_self, reduceCtorEq] at h))) | refine onx ?_ | refine onb ?_ | refine sreg ?_ | refine qT rfl ?_ | refine qF rfl ?_ | refine scondT rfl ?_ | refine scondF rfl ?_ | refine ocondP rfl (fun h => ?_) (fun h => ?_) | refine ocondB rfl (fun h => ?_) (fun h => ?_) | refine scondP rfl (fun h => ?_) (fun h => ?_) | refine scond rfl (fun h => ?_) (fun h => ?_) | refine oskip ?_ | refine oskipb ?_ | refine oret ?_ | refine sem_ret ?_ | refine sem_seq ?_ | refine sreg1 ?_)
  all_goals exact ⟨_, rfl, _, rfl, tree_eq rfl (by simp [getE, selE, *])⟩

theorem cool_failing (x : Int) : Holds Try.prog G F.cool_failing [I x] (B (decide (0 ≤ x ∧ x ≤ 3))) := by
  (refine holds_of_sem hG fn_cool_failing (by simp) fun w0 S0 hG0 D0 => ?_; unfold c_cool_failing cval enterEnv; simp only [List.zipIdx_cons, List.zipIdx_nil, List.map_cons, List.map_nil, Nat.zero_add, Nat.reduceAdd])
  repeat' (first | ((first | refine o1 rfl ?_ | refine o0 rfl ?_); intro k hk; simp (disch := omega) only [ev0, sl_cells, simprocAttr]; refine hk _ _ ?_; clear hk k) | refine ono rfl ?_ | (apply ocall; (case he => (simp only [ev0, sl_cells, simprocAttr] <;> rfl)); (case hc => first | exact cool_in hG _ _ _); (case ht => rfl); (case hg => rfl)) | ((first | refine osplitG rfl (fun h => ?_) (fun h => ?_) | refine osplitB rfl (fun h => ?_) (fun h => ?_)) <;> (fail_if_success (simp only [eq_self, reduceCtorEq] at h))) | refine onx ?_ | refine onb ?_ | refine sreg ?_ | refine qT rfl ?_ | refine qF rfl ?_ | refine scondT rfl ?_ | refine scondF rfl ?_ | refine ocondP rfl (fun h => ?_) (fun h => ?_) | refine ocondB rfl (fun h => ?_) (fun h => ?_) | refine scondP rfl (fun h => ?_) (fun h => ?_) | refine scond rfl (fun h => ?_) (fun h => ?_) | refine oskip ?_ | refine oskipb ?_ | refine oret ?_ | refine sem_ret ?_ | refine sem_seq ?_ | refine sreg1 ?_)
  all_goals exact ⟨_, rfl, _, rfl, tree_eq rfl (by simp [getE, selE, *])⟩

theorem ref03_Fails (x : Int) : Holds Try.prog G F.ref03_Fails [I x] (B (decide (0 ≤ x ∧ x ≤ 3))) := by
  (refine holds_of_sem hG fn_ref03_Fails (by simp) fun w0 S0 hG0 D0 => ?_; unfold c_ref03_Fails cval enterEnv; simp only [List.zipIdx_cons, List.zipIdx_nil, List.map_cons, List.map_nil, Nat.zero_add, Nat.reduceAdd])
  repeat' (first | ((first | refine o1 rfl ?_ | refine o0 rfl ?_); intro k hk; simp (disch := omega) only [ev0, sl_cells, simprocAttr]; refine hk _ _ ?_; clear hk k) | refine ono rfl ?_ | (apply ocall; (case he => (simp only [ev0, sl_cells, simprocAttr] <;> rfl)); (case hc => first | exact ref03_in hG _ _ _); (case ht => rfl); (case hg => rfl)) | ((first | refine osplitG rfl (fun h => ?_) (fun h => ?_) | refine osplitB rfl (fun h => ?_) (fun h => ?_)) <;> (fail_if_success (simp only [eq_self, reduceCtorEq] at h))) | refine onx ?_ | refine onb ?_ | refine sreg ?_ | refine qT rfl ?_ | refine qF rfl ?_ | refine scondT rfl ?_ | refine scondF rfl ?_ | refine ocondP rfl (fun h => ?_) (fun h => ?_) | refine ocondB rfl (fun h => ?_) (fun h => ?_) | refine scondP rfl (fun h => ?_) (fun h => ?_) | refine scond rfl (fun h => ?_) (fun h => ?_) | refine oskip ?_ | refine oskipb ?_ | refine oret ?_ | refine sem_ret ?_ | refine sem_seq ?_ | refine sreg1 ?_)
  all_goals exact ⟨_, rfl, _, rfl, tree_eq rfl (by simp [getE, selE, *])⟩

theorem cool_valid_1 (h : CoolHouse) : Holds Try.prog G F.cool_valid_1 [.agg h.cs] (B (!decide h.ok)) := by
  (refine holds_of_sem hG fn_cool_valid_1 (by simp) fun w0 S0 hG0 D0 => ?_; unfold c_cool_valid_1 cval enterEnv; simp only [List.zipIdx_cons, List.zipIdx_nil, List.map_cons, List.map_nil, Nat.zero_add, Nat.reduceAdd])
  repeat' (first | ((first | refine o1 rfl ?_ | refine o0 rfl ?_); intro k hk; simp (disch := omega) only [ev0, sl_cells, simprocAttr, CoolHouse.cs]; refine hk _ _ ?_; clear hk k) | refine ono rfl ?_ | (apply ocall; (case he => (simp only [ev0, sl_cells, simprocAttr] <;> rfl)); (case hc => first | exact cool_span hG h.need | exact cool_in hG _ _ _); (case ht => rfl); (case hg => rfl)) | ((first | refine osplitG rfl (fun h => ?_) (fun h => ?_) | refine osplitB rfl (fun h => ?_) (fun h => ?_)) <;> (fail_if_success (simp only [eq_self, reduceCtorEq] at h))) | refine onx ?_ | refine onb ?_ | refine sreg ?_ | refine qT rfl ?_ | refine qF rfl ?_ | refine scondT rfl ?_ | refine scondF rfl ?_ | refine ocondP rfl (fun h => ?_) (fun h => ?_) | refine ocondB rfl (fun h => ?_) (fun h => ?_) | refine scondP rfl (fun h => ?_) (fun h => ?_) | refine scond rfl (fun h => ?_) (fun h => ?_) | refine oskip ?_ | refine oskipb ?_ | refine oret ?_ | refine sem_ret ?_ | refine sem_seq ?_ | refine sreg1 ?_)
  all_goals exact ⟨_, rfl, _, rfl, tree_eq rfl (by (try simp only [Bool.not_eq_true', Bool.not_eq_false', decide_eq_true_eq, decide_eq_false_iff_not] at *); simp only [getE, selE, Nat.reduceBEq]; apply congrArg AV.bool; rw [Bool.eq_iff_iff]; simp only [decide_eq_true_eq, Bool.not_eq_true', decide_eq_false_iff_not, Bool.false_eq_true, true_iff, false_iff, iff_true, iff_false, not_true_eq_false, not_false_eq_true, CoolHouse.ok, inI, Span.cold]; omega)⟩

theorem cool_valid_2_1 (x : Span) : Holds Try.prog G F.cool_valid_2_1 [.agg x.cs] (B (!decide x.cold)) := by
  (refine holds_of_sem hG fn_cool_valid_2_1 (by simp) fun w0 S0 hG0 D0 => ?_; unfold c_cool_valid_2_1 cval enterEnv; simp only [List.zipIdx_cons, List.zipIdx_nil, List.map_cons, List.map_nil, Nat.zero_add, Nat.reduceAdd])
  repeat' (first | ((first | refine o1 rfl ?_ | refine o0 rfl ?_); intro k hk; simp (disch := omega) only [ev0, sl_cells, simprocAttr, Span.cs]; refine hk _ _ ?_; clear hk k) | refine ono rfl ?_ | (apply ocall; (case he => (simp only [ev0, sl_cells, simprocAttr] <;> rfl)); (case hc => first | exact cool_span hG x); (case ht => rfl); (case hg => rfl)) | ((first | refine osplitG rfl (fun h => ?_) (fun h => ?_) | refine osplitB rfl (fun h => ?_) (fun h => ?_)) <;> (fail_if_success (simp only [eq_self, reduceCtorEq] at h))) | refine onx ?_ | refine onb ?_ | refine sreg ?_ | refine qT rfl ?_ | refine qF rfl ?_ | refine scondT rfl ?_ | refine scondF rfl ?_ | refine ocondP rfl (fun h => ?_) (fun h => ?_) | refine ocondB rfl (fun h => ?_) (fun h => ?_) | refine scondP rfl (fun h => ?_) (fun h => ?_) | refine scond rfl (fun h => ?_) (fun h => ?_) | refine oskip ?_ | refine oskipb ?_ | refine oret ?_ | refine sem_ret ?_ | refine sem_seq ?_ | refine sreg1 ?_)
  all_goals exact ⟨_, rfl, _, rfl, tree_eq rfl (by simp [getE, selE, *])⟩

theorem cool_valid_2 (t : CoolTown) (x : CoolSite) (h1 : x.gives.length ≤ 10) : Holds Try.prog G F.cool_valid_2 [.agg x.cs, .tptr t.cs 0] (B (!decide (x.ok t.houses.length))) := by
  have hc := containsFunc hG fn_slices_ContainsFunc_apiSpan (by decide) fn_slices_IndexFunc_apiSpan (by decide) Span.cs (fun _ => rfl) (by simp) (fun _ => rfl) x.gives (by omega) (fi := []) (ca := []) rfl rfl (fun x => !decide x.cold) (fun x _ => cool_valid_2_1 hG x)
  rw [any_not] at hc
  (refine holds_of_sem hG fn_cool_valid_2 (by simp) fun w0 S0 hG0 D0 => ?_; unfold c_cool_valid_2 cval enterEnv; simp only [List.zipIdx_cons, List.zipIdx_nil, List.map_cons, List.map_nil, Nat.zero_add, Nat.reduceAdd])
  repeat' (first | ((first | refine o1 rfl ?_ | refine o0 rfl ?_); intro k hk; simp (disch := omega) only [ev0, sl_cells, simprocAttr, CoolSite.cs, CoolTown.cs, slOf]; refine hk _ _ ?_; clear hk k) | refine ono rfl ?_ | (apply ocall; (case he => (simp only [ev0, sl_cells, simprocAttr] <;> rfl)); (case hc => first | exact cool_in hG _ _ _ | exact hc); (case ht => rfl); (case hg => rfl)) | ((first | refine osplitG rfl (fun h => ?_) (fun h => ?_) | refine osplitB rfl (fun h => ?_) (fun h => ?_)) <;> (fail_if_success (simp only [eq_self, reduceCtorEq] at h))) | refine onx ?_ | refine onb ?_ | refine sreg ?_ | refine qT rfl ?_ | refine qF rfl ?_ | refine scondT rfl ?_ | refine scondF rfl ?_ | refine ocondP rfl (fun h => ?_) (fun h => ?_) | refine ocondB rfl (fun h => ?_) (fun h => ?_) | refine scondP rfl (fun h => ?_) (fun h => ?_) | refine scond rfl (fun h => ?_) (fun h => ?_) | refine oskip ?_ | refine oskipb ?_ | refine oret ?_ | refine sem_ret ?_ | refine sem_seq ?_ | refine sreg1 ?_)
  all_goals exact ⟨_, rfl, _, rfl, tree_eq rfl (by
    simp only [Bool.not_eq_true', Bool.not_eq_false', decide_eq_true_eq, decide_eq_false_iff_not, bne_iff_ne, ne_eq] at *
    simp only [getE, selE, Nat.reduceBEq]
    apply congrArg AV.bool
    rw [Bool.eq_iff_iff]
    simp only [Bool.not_eq_true', decide_eq_true_eq, decide_eq_false_iff_not, true_iff, Bool.true_eq_false]
    grind)⟩

theorem cool_valid (t : CoolTown) (hs : t.short) : Holds Try.prog G F.cool_valid [.agg t.cs] (B (decide t.ok)) := by
  obtain ⟨h1, h2, h3⟩ := hs
  have hc := containsFunc hG fn_slices_ContainsFunc_apiCoolHouse (by decide) fn_slices_IndexFunc_apiCoolHouse (by decide) CoolHouse.cs (fun _ => rfl) (by simp) (fun _ => rfl) t.houses (by omega) (fi := []) (ca := []) rfl rfl (fun x => !decide x.ok) (fun x _ => cool_valid_1 hG x)
  have hd := containsFunc hG fn_slices_ContainsFunc_apiCoolSite (by decide) fn_slices_IndexFunc_apiCoolSite (by decide) CoolSite.cs (fun _ => rfl) (by simp) (fun _ => rfl) t.sites (by omega) (fi := []) (ca := [.tptr t.cs 0]) rfl rfl (fun x => !decide (x.ok t.houses.length)) (fun x hx => cool_valid_2 hG t x (h3 x hx))
  rw [any_not] at hc hd
  (refine holds_of_sem hG fn_cool_valid (by simp) fun w0 S0 hG0 D0 => ?_; unfold c_cool_valid cval enterEnv; simp only [List.zipIdx_cons, List.zipIdx_nil, List.map_cons, List.map_nil, Nat.zero_add, Nat.reduceAdd])
  refine sreg ?_
  repeat (first | ((first | refine o1 rfl ?_ | refine o0 rfl ?_); intro k hk; simp (disch := omega) only [ev0, sl_cells, simprocAttr]; refine hk _ _ ?_; clear hk k) | refine ono rfl ?_)
  refine onx ?_
  (refine sem_frzbox 0 rfl rfl ?_; simp only [frz_span, frz_house, frz_csite, frz_town, frz_truth, frzE, frzM, frzA, frzL, frzO, frz_sl, List.map_cons, List.map_nil, List.set_cons_zero, List.set_cons_succ, Nat.reduceEqDiff, if_true, if_false, and_self, Nat.reduceLT, Nat.reduceLeDiff, reduceIte, Nat.le_refl])
  repeat' (first | ((first | refine o1 rfl ?_ | refine o0 rfl ?_); intro k hk; simp (disch := omega) only [ev0, sl_cells, simprocAttr, CoolTown.cs, slOf]; refine hk _ _ ?_; clear hk k) | refine ono rfl ?_ | (apply ocall; (case he => (simp only [ev0, sl_cells, simprocAttr] <;> rfl)); (case hc => first | exact cool_in hG _ _ _ | exact hc | exact hd); (case ht => rfl); (case hg => rfl)) | ((first | refine osplitG rfl (fun h => ?_) (fun h => ?_) | refine osplitB rfl (fun h => ?_) (fun h => ?_)) <;> (fail_if_success (simp only [eq_self, reduceCtorEq] at h))) | refine onx ?_ | refine onb ?_ | refine sreg ?_ | refine qT rfl ?_ | refine qF rfl ?_ | refine scondT rfl ?_ | refine scondF rfl ?_ | refine ocondP rfl (fun h => ?_) (fun h => ?_) | refine ocondB rfl (fun h => ?_) (fun h => ?_) | refine scondP rfl (fun h => ?_) (fun h => ?_) | refine scond rfl (fun h => ?_) (fun h => ?_) | refine oskip ?_ | refine oskipb ?_ | refine oret ?_ | refine sem_ret ?_ | refine sem_seq ?_ | refine sreg1 ?_)
  all_goals exact ⟨_, rfl, _, rfl, tree_eq rfl (by
    simp only [Bool.not_not, Bool.not_eq_true', Bool.not_eq_false', decide_eq_true_eq, decide_eq_false_iff_not] at *
    simp only [getE, selE, Nat.reduceBEq]
    apply congrArg AV.bool
    rw [Bool.eq_iff_iff]
    simp only [CoolTown.ok, Bool.not_not, Bool.not_eq_true', decide_eq_true_eq, decide_eq_false_iff_not, true_iff, Bool.false_eq_true, false_iff]
    grind)⟩
end Go.Proofs.Ytnempffajbdneaa

/- The reference's sight of towns, coolers, truths; short and sized. -/
set_option linter.unusedVariables false
set_option linter.unusedSimpArgs false
set_option maxRecDepth 8000
set_option maxHeartbeats 2000000
namespace Go.Proofs.Ytnempffajbdneaa
open Go Go.Av Go.Tk
attribute [local irreducible] Holds sem semL ACalls FnIs
variable {G : World → Prop} (hG : ∀ w w', G w → RowKit.Below w.heap.size w w' → G w')
include hG
theorem cool_Check (t : CoolTown) (hs : t.short) : Holds Try.prog G F.cool_Check [.agg t.cs] (I (if t.ok then 0 else 2)) := by
  (refine holds_of_sem hG fn_cool_Check (by simp) fun w0 S0 hG0 D0 => ?_; unfold c_cool_Check cval enterEnv; simp only [List.zipIdx_cons, List.zipIdx_nil, List.map_cons, List.map_nil, Nat.zero_add, Nat.reduceAdd])
  repeat' (first | ((first | refine o1 rfl ?_ | refine o0 rfl ?_); intro k hk; simp (disch := omega) only [ev0, sl_cells, simprocAttr]; refine hk _ _ ?_; clear hk k) | refine ono rfl ?_ | (apply ocall; (case he => (simp only [ev0, sl_cells, simprocAttr] <;> rfl)); (case hc => first | exact cool_valid hG t hs); (case ht => rfl); (case hg => rfl)) | ((first | refine osplitG rfl (fun h => ?_) (fun h => ?_) | refine osplitB rfl (fun h => ?_) (fun h => ?_)) <;> (fail_if_success (simp only [eq_self, reduceCtorEq] at h))) | refine onx ?_ | refine onb ?_ | refine sreg ?_ | refine qT rfl ?_ | refine qF rfl ?_ | refine scondT rfl ?_ | refine scondF rfl ?_ | refine ocondP rfl (fun h => ?_) (fun h => ?_) | refine ocondB rfl (fun h => ?_) (fun h => ?_) | refine scondP rfl (fun h => ?_) (fun h => ?_) | refine scond rfl (fun h => ?_) (fun h => ?_) | refine oskip ?_ | refine oskipb ?_ | refine oret ?_ | refine sem_ret ?_ | refine sem_seq ?_ | refine sreg1 ?_)
  · simp only [Bool.not_eq_true', decide_eq_false_iff_not] at h
    rw [if_neg h]
    exact ⟨_, rfl, _, rfl, tree_eq rfl rfl⟩
  · simp only [Bool.not_eq_false', decide_eq_true_eq] at h
    rw [if_pos h]
    exact ⟨_, rfl, _, rfl, tree_eq rfl rfl⟩

theorem law03_short (t : CoolTown) : Holds Try.prog G F.law03_short [.agg t.cs] (B (decide t.short)) := by
  (refine holds_of_sem hG fn_law03_short (by simp) fun w0 S0 hG0 D0 => ?_; unfold c_law03_short cval enterEnv; simp only [List.zipIdx_cons, List.zipIdx_nil, List.map_cons, List.map_nil, Nat.zero_add, Nat.reduceAdd])
  repeat' (first | ((first | refine o1 rfl ?_ | refine o0 rfl ?_); intro k hk; simp (disch := omega) only [ev0, sl_cells, simprocAttr]; refine hk _ _ ?_; clear hk k) | refine ono rfl ?_ | ((first | refine osplitG rfl (fun h => ?_) (fun h => ?_) | refine osplitB rfl (fun h => ?_) (fun h => ?_)) <;> (fail_if_success (simp only [eq_self, reduceCtorEq] at h))) | refine onx ?_ | refine onb ?_ | refine sreg ?_ | refine qT rfl ?_ | refine qF rfl ?_ | refine scondT rfl ?_ | refine scondF rfl ?_ | refine ocondP rfl (fun h => ?_) (fun h => ?_) | refine ocondB rfl (fun h => ?_) (fun h => ?_) | refine scondP rfl (fun h => ?_) (fun h => ?_) | refine scond rfl (fun h => ?_) (fun h => ?_) | refine oskip ?_ | refine oskipb ?_ | refine oret ?_ | refine sem_ret ?_ | refine sem_seq ?_ | refine sreg1 ?_)
  refine sem_block ?_
  
  refine sem_loop (α := Nat) (fun i => ⟨[(1, .ptr 0 0 2 0 0), (3, I i)], [.row 25 0 2 [t.cs]]⟩) (fun i => i ≤ 15 ∧ i ≤ t.sites.length ∧ ∀ j, j < i → (t.sites.getD j default).gives.length ≤ 10) (fun i => 15 - i) 0 ⟨by omega, Nat.zero_le _, fun j hj => absurd hj (Nat.not_lt_zero _)⟩ ?_ ?_
  · (refine Le.same ?_; simp only [List.forall_mem_cons, List.forall_mem_nil, getE, selE, Nat.reduceBEq, List.not_mem_nil, false_implies, implies_true, and_true, true_and, and_self])
    simp [slOf, CoolTown.cs]
  · rintro i ⟨hi, hil, hall⟩
    skip
    repeat' (first | ((first | refine o1 rfl ?_ | refine o0 rfl ?_); intro k hk; simp (disch := omega) only [ev0, sl_cells, simprocAttr, CoolTown.cs, slOf]; refine hk _ _ ?_; clear hk k) | refine ono rfl ?_ | ((first | refine osplitG rfl (fun h => ?_) (fun h => ?_) | refine osplitB rfl (fun h => ?_) (fun h => ?_)) <;> (fail_if_success (simp only [eq_self, reduceCtorEq] at h))) | refine onx ?_ | refine onb ?_ | refine sreg ?_ | refine qT rfl ?_ | refine qF rfl ?_ | refine scondT rfl ?_ | refine scondF rfl ?_ | refine ocondP rfl (fun h => ?_) (fun h => ?_) | refine ocondB rfl (fun h => ?_) (fun h => ?_) | refine scondP rfl (fun h => ?_) (fun h => ?_) | refine scond rfl (fun h => ?_) (fun h => ?_) | refine oskip ?_ | refine oskipb ?_ | refine oret ?_ | refine sem_ret ?_ | refine sem_seq ?_ | refine sreg1 ?_)
    all_goals try (
      refine sem_block ?_
      repeat' (first | ((first | refine o1 rfl ?_ | refine o0 rfl ?_); intro k hk; simp (disch := omega) only [ev0, sl_cells, simprocAttr, CoolTown.cs, CoolSite.cs, slOf]; refine hk _ _ ?_; clear hk k) | refine ono rfl ?_ | ((first | refine osplitG rfl (fun h => ?_) (fun h => ?_) | refine osplitB rfl (fun h => ?_) (fun h => ?_)) <;> (fail_if_success (simp only [eq_self, reduceCtorEq] at h))) | refine onx ?_ | refine onb ?_ | refine sreg ?_ | refine qT rfl ?_ | refine qF rfl ?_ | refine scondT rfl ?_ | refine scondF rfl ?_ | refine ocondP rfl (fun h => ?_) (fun h => ?_) | refine ocondB rfl (fun h => ?_) (fun h => ?_) | refine scondP rfl (fun h => ?_) (fun h => ?_) | refine scond rfl (fun h => ?_) (fun h => ?_) | refine oskip ?_ | refine oskipb ?_ | refine oret ?_ | refine sem_ret ?_ | refine sem_seq ?_ | refine sreg1 ?_))
    all_goals first
      | (refine onil (lnext (i + 1) ⟨by omega, by omega, fun j hj => ?_⟩ (by omega) ?_)
         · by_cases e : j = i
           · subst e; omega
           · exact hall j (by omega)
         · (refine Le.same ?_; simp only [List.forall_mem_cons, List.forall_mem_nil, getE, selE, Nat.reduceBEq, List.not_mem_nil, false_implies, implies_true, and_true, true_and, and_self])
           simp [CoolTown.cs, slOf])
      | exact ⟨_, rfl, _, rfl, tree_eq rfl (by
          simp only [getE, selE, Nat.reduceBEq]
          exact congrArg AV.bool (decide_eq_false (fun hh => by have := all_getD.1 hh.2.2 i (by omega); omega)).symm)⟩
      | skip
    all_goals
      (refine sem_exit ?_; change sem _ _ _ _ _)
      repeat' (first | ((first | refine o1 rfl ?_ | refine o0 rfl ?_); intro k hk; simp (disch := omega) only [ev0, sl_cells, simprocAttr, CoolTown.cs, slOf]; refine hk _ _ ?_; clear hk k) | refine ono rfl ?_ | ((first | refine osplitG rfl (fun h => ?_) (fun h => ?_) | refine osplitB rfl (fun h => ?_) (fun h => ?_)) <;> (fail_if_success (simp only [eq_self, reduceCtorEq] at h))) | refine onx ?_ | refine onb ?_ | refine sreg ?_ | refine qT rfl ?_ | refine qF rfl ?_ | refine scondT rfl ?_ | refine scondF rfl ?_ | refine ocondP rfl (fun h => ?_) (fun h => ?_) | refine ocondB rfl (fun h => ?_) (fun h => ?_) | refine scondP rfl (fun h => ?_) (fun h => ?_) | refine scond rfl (fun h => ?_) (fun h => ?_) | refine oskip ?_ | refine oskipb ?_ | refine oret ?_ | refine sem_ret ?_ | refine sem_seq ?_ | refine sreg1 ?_)
    all_goals exact ⟨_, rfl, _, rfl, tree_eq rfl (by
      simp only [getE, selE, Nat.reduceBEq]
      refine congrArg AV.bool ?_
      first
        | (refine (decide_eq_false (fun hh => ?_)).symm; obtain ⟨a, b, -⟩ := hh; omega)
        | (refine decide_eq_decide.2 ⟨fun hh => ⟨by omega, by omega, all_getD.2 fun j h1 => hall j (by omega)⟩, fun hh => ?_⟩; obtain ⟨a, b, -⟩ := hh; omega)
        | trace_state)⟩

theorem law03_sized (t : CoolTruth) : Holds Try.prog G F.law03_sized [.agg t.cs] (B (decide t.short)) := by
  (refine holds_of_sem hG fn_law03_sized (by simp) fun w0 S0 hG0 D0 => ?_; unfold c_law03_sized cval enterEnv; simp only [List.zipIdx_cons, List.zipIdx_nil, List.map_cons, List.map_nil, Nat.zero_add, Nat.reduceAdd])
  repeat' (first | ((first | refine o1 rfl ?_ | refine o0 rfl ?_); intro k hk; simp (disch := omega) only [ev0, sl_cells, simprocAttr]; refine hk _ _ ?_; clear hk k) | refine ono rfl ?_ | ((first | refine osplitG rfl (fun h => ?_) (fun h => ?_) | refine osplitB rfl (fun h => ?_) (fun h => ?_)) <;> (fail_if_success (simp only [eq_self, reduceCtorEq] at h))) | refine onx ?_ | refine onb ?_ | refine sreg ?_ | refine qT rfl ?_ | refine qF rfl ?_ | refine scondT rfl ?_ | refine scondF rfl ?_ | refine ocondP rfl (fun h => ?_) (fun h => ?_) | refine ocondB rfl (fun h => ?_) (fun h => ?_) | refine scondP rfl (fun h => ?_) (fun h => ?_) | refine scond rfl (fun h => ?_) (fun h => ?_) | refine oskip ?_ | refine oskipb ?_ | refine oret ?_ | refine sem_ret ?_ | refine sem_seq ?_ | refine sreg1 ?_)
  refine sem_block ?_
  
  refine sem_loop (α := Nat) (fun i => ⟨[(1, .ptr 0 0 2 0 0), (3, I i)], [.row 53 0 2 [t.cs]]⟩) (fun i => i ≤ 15 ∧ i ≤ t.gives.length ∧ ∀ j, j < i → (t.gives.getD j default).length ≤ 10) (fun i => 15 - i) 0 ⟨by omega, Nat.zero_le _, fun j hj => absurd hj (Nat.not_lt_zero _)⟩ ?_ ?_
  · (refine Le.same ?_; simp only [List.forall_mem_cons, List.forall_mem_nil, getE, selE, Nat.reduceBEq, List.not_mem_nil, false_implies, implies_true, and_true, true_and, and_self])
    simp [slOf, CoolTruth.cs]
  · rintro i ⟨hi, hil, hall⟩
    skip
    repeat' (first | ((first | refine o1 rfl ?_ | refine o0 rfl ?_); intro k hk; simp (disch := omega) only [ev0, sl_cells, simprocAttr, CoolTruth.cs, slOf]; refine hk _ _ ?_; clear hk k) | refine ono rfl ?_ | ((first | refine osplitG rfl (fun h => ?_) (fun h => ?_) | refine osplitB rfl (fun h => ?_) (fun h => ?_)) <;> (fail_if_success (simp only [eq_self, reduceCtorEq] at h))) | refine onx ?_ | refine onb ?_ | refine sreg ?_ | refine qT rfl ?_ | refine qF rfl ?_ | refine scondT rfl ?_ | refine scondF rfl ?_ | refine ocondP rfl (fun h => ?_) (fun h => ?_) | refine ocondB rfl (fun h => ?_) (fun h => ?_) | refine scondP rfl (fun h => ?_) (fun h => ?_) | refine scond rfl (fun h => ?_) (fun h => ?_) | refine oskip ?_ | refine oskipb ?_ | refine oret ?_ | refine sem_ret ?_ | refine sem_seq ?_ | refine sreg1 ?_)
    all_goals try (
      refine sem_block ?_
      repeat' (first | ((first | refine o1 rfl ?_ | refine o0 rfl ?_); intro k hk; simp (disch := omega) only [ev0, sl_cells, simprocAttr, CoolTruth.cs, intsCs, slOf]; refine hk _ _ ?_; clear hk k) | refine ono rfl ?_ | ((first | refine osplitG rfl (fun h => ?_) (fun h => ?_) | refine osplitB rfl (fun h => ?_) (fun h => ?_)) <;> (fail_if_success (simp only [eq_self, reduceCtorEq] at h))) | refine onx ?_ | refine onb ?_ | refine sreg ?_ | refine qT rfl ?_ | refine qF rfl ?_ | refine scondT rfl ?_ | refine scondF rfl ?_ | refine ocondP rfl (fun h => ?_) (fun h => ?_) | refine ocondB rfl (fun h => ?_) (fun h => ?_) | refine scondP rfl (fun h => ?_) (fun h => ?_) | refine scond rfl (fun h => ?_) (fun h => ?_) | refine oskip ?_ | refine oskipb ?_ | refine oret ?_ | refine sem_ret ?_ | refine sem_seq ?_ | refine sreg1 ?_))
    all_goals first
      | (refine onil (lnext (i + 1) ⟨by omega, by omega, fun j hj => ?_⟩ (by omega) ?_)
         · by_cases e : j = i
           · subst e; omega
           · exact hall j (by omega)
         · (refine Le.same ?_; simp only [List.forall_mem_cons, List.forall_mem_nil, getE, selE, Nat.reduceBEq, List.not_mem_nil, false_implies, implies_true, and_true, true_and, and_self])
           simp [CoolTruth.cs, slOf])
      | exact ⟨_, rfl, _, rfl, tree_eq rfl (by
          simp only [getE, selE, Nat.reduceBEq]
          exact congrArg AV.bool (decide_eq_false (fun hh => by have := all_getD.1 hh.2.2 i (by omega); omega)).symm)⟩
      | skip
    all_goals
      (refine sem_exit ?_; change sem _ _ _ _ _)
      repeat' (first | ((first | refine o1 rfl ?_ | refine o0 rfl ?_); intro k hk; simp (disch := omega) only [ev0, sl_cells, simprocAttr, CoolTruth.cs, slOf]; refine hk _ _ ?_; clear hk k) | refine ono rfl ?_ | ((first | refine osplitG rfl (fun h => ?_) (fun h => ?_) | refine osplitB rfl (fun h => ?_) (fun h => ?_)) <;> (fail_if_success (simp only [eq_self, reduceCtorEq] at h))) | refine onx ?_ | refine onb ?_ | refine sreg ?_ | refine qT rfl ?_ | refine qF rfl ?_ | refine scondT rfl ?_ | refine scondF rfl ?_ | refine ocondP rfl (fun h => ?_) (fun h => ?_) | refine ocondB rfl (fun h => ?_) (fun h => ?_) | refine scondP rfl (fun h => ?_) (fun h => ?_) | refine scond rfl (fun h => ?_) (fun h => ?_) | refine oskip ?_ | refine oskipb ?_ | refine oret ?_ | refine sem_ret ?_ | refine sem_seq ?_ | refine sreg1 ?_)
    all_goals exact ⟨_, rfl, _, rfl, tree_eq rfl (by
      simp only [getE, selE, Nat.reduceBEq]
      refine congrArg AV.bool ?_
      first
        | (refine (decide_eq_false (fun hh => ?_)).symm; obtain ⟨a, b, -⟩ := hh; omega)
        | (refine decide_eq_decide.2 ⟨fun hh => ⟨by omega, by omega, all_getD.2 fun j h1 => hall j (by omega)⟩, fun hh => ?_⟩; obtain ⟨a, b, -⟩ := hh; omega)
        | trace_state)⟩
end Go.Proofs.Ytnempffajbdneaa

/- The reference: towns, coolers, truths as defined. -/
set_option linter.unusedVariables false
set_option linter.unusedSimpArgs false
set_option maxRecDepth 8000
set_option maxHeartbeats 2000000
namespace Go.Tk
open Go Go.Av
/-- Strictly increasing sites. -/
def coolersOk (n : Nat) (l : List Int) : Prop := ∀ i, i < l.length → (0 ≤ l.getD i default ∧ l.getD i default ≤ (n : Int) - 1) ∧ (0 < i → l.getD (i - 1) default < l.getD i default)
noncomputable instance (n l) : Decidable (coolersOk n l) := Classical.propDecidable _
def inSp (x : Int) (s : Span) : Prop := s.low ≤ x ∧ x ≤ s.high
def truthOk (t : CoolTown) (x : CoolTruth) : Prop := x.needs.length = t.houses.length ∧ x.gives.length = t.sites.length ∧ (∀ i, i < t.houses.length → inSp (x.needs.getD i default) (t.houses.getD i default).need) ∧
  ∀ i, i < t.sites.length → (x.gives.getD i default).length = t.houses.length ∧ ∀ k, k < t.houses.length → inSp ((x.gives.getD i default).getD k default) ((t.sites.getD i default).gives.getD k default)
noncomputable instance (t x) : Decidable (truthOk t x) := Classical.propDecidable _
end Go.Tk
namespace Go.Proofs.Ytnempffajbdneaa
open Go Go.Av Go.Tk
attribute [local irreducible] Holds sem semL ACalls FnIs
variable {G : World → Prop} (hG : ∀ w w', G w → RowKit.Below w.heap.size w w' → G w')
include hG
theorem ref03_Town (t : CoolTown) (hs : t.short) : Holds Try.prog G F.ref03_Town [.agg t.cs] (B (decide t.ok)) := by
  obtain ⟨b1, b2, b3⟩ := hs
  rw [all_getD] at b3
  have hok : t.ok ↔ (1 ≤ t.houses.length ∧ t.houses.length ≤ 6) ∧ (1 ≤ t.sites.length ∧ t.sites.length ≤ 10) ∧ (∀ i, i < t.houses.length → (t.houses.getD i default).ok) ∧ ∀ i, i < t.sites.length → (t.sites.getD i default).ok t.houses.length := by
    unfold CoolTown.ok; rw [all_getD, all_getD]
  (refine holds_of_sem hG fn_ref03_Town (by simp) fun w0 S0 hG0 D0 => ?_; unfold c_ref03_Town cval enterEnv; simp only [List.zipIdx_cons, List.zipIdx_nil, List.map_cons, List.map_nil, Nat.zero_add, Nat.reduceAdd])
  repeat' (first | ((first | refine o1 rfl ?_ | refine o0 rfl ?_); intro k hk; simp (disch := omega) only [ev0, sl_cells, simprocAttr]; refine hk _ _ ?_; clear hk k) | refine ono rfl ?_ | ((first | refine osplitG rfl (fun h => ?_) (fun h => ?_) | refine osplitB rfl (fun h => ?_) (fun h => ?_)) <;> (fail_if_success (simp only [eq_self, reduceCtorEq] at h))) | refine onx ?_ | refine onb ?_ | refine sreg ?_ | refine qT rfl ?_ | refine qF rfl ?_ | refine scondT rfl ?_ | refine scondF rfl ?_ | refine ocondP rfl (fun h => ?_) (fun h => ?_) | refine ocondB rfl (fun h => ?_) (fun h => ?_) | refine scondP rfl (fun h => ?_) (fun h => ?_) | refine scond rfl (fun h => ?_) (fun h => ?_) | refine oskip ?_ | refine oskipb ?_ | refine oret ?_ | refine sem_ret ?_ | refine sem_seq ?_ | refine sreg1 ?_)
  refine sem_block ?_
  
  refine sem_loop (α := Nat) (fun i => ⟨[(1, .ptr 0 0 2 0 0), (3, I i)], [.row 25 0 2 [t.cs]]⟩) (fun i => i ≤ t.houses.length ∧ ∀ j, j < i → (t.houses.getD j default).ok) (fun i => t.houses.length - i) 0 ⟨Nat.zero_le _, fun j hj => absurd hj (Nat.not_lt_zero _)⟩ ?_ ?_
  · (refine Le.same ?_; simp only [List.forall_mem_cons, List.forall_mem_nil, getE, selE, Nat.reduceBEq, List.not_mem_nil, false_implies, implies_true, and_true, true_and, and_self])
    simp [slOf, CoolTown.cs]
  · rintro i ⟨hi, hall⟩
    repeat' (first | ((first | refine o1 rfl ?_ | refine o0 rfl ?_); intro k hk; simp (disch := omega) only [ev0, sl_cells, simprocAttr, CoolTown.cs, slOf]; refine hk _ _ ?_; clear hk k) | refine ono rfl ?_ | ((first | refine osplitG rfl (fun h => ?_) (fun h => ?_) | refine osplitB rfl (fun h => ?_) (fun h => ?_)) <;> (fail_if_success (simp only [eq_self, reduceCtorEq] at h))) | refine onx ?_ | refine onb ?_ | refine sreg ?_ | refine qT rfl ?_ | refine qF rfl ?_ | refine scondT rfl ?_ | refine scondF rfl ?_ | refine ocondP rfl (fun h => ?_) (fun h => ?_) | refine ocondB rfl (fun h => ?_) (fun h => ?_) | refine scondP rfl (fun h => ?_) (fun h => ?_) | refine scond rfl (fun h => ?_) (fun h => ?_) | refine oskip ?_ | refine oskipb ?_ | refine oret ?_ | refine sem_ret ?_ | refine sem_seq ?_ | refine sreg1 ?_)
    · have hi' : i < t.houses.length := by omega
      refine sem_block ?_
      repeat' (first | ((first | refine o1 rfl ?_ | refine o0 rfl ?_); intro k hk; simp (disch := omega) only [ev0, sl_cells, simprocAttr, CoolTown.cs, CoolHouse.cs, slOf]; refine hk _ _ ?_; clear hk k) | refine ono rfl ?_ | (apply ocall; (case he => (simp only [ev0, sl_cells, simprocAttr] <;> rfl)); (case hc => first | exact ref03_Cold hG (t.houses.getD i default).need | exact ref03_in hG _ _ _); (case ht => rfl); (case hg => rfl)) | ((first | refine osplitG rfl (fun h => ?_) (fun h => ?_) | refine osplitB rfl (fun h => ?_) (fun h => ?_)) <;> (fail_if_success (simp only [eq_self, reduceCtorEq] at h))) | refine onx ?_ | refine onb ?_ | refine sreg ?_ | refine qT rfl ?_ | refine qF rfl ?_ | refine scondT rfl ?_ | refine scondF rfl ?_ | refine ocondP rfl (fun h => ?_) (fun h => ?_) | refine ocondB rfl (fun h => ?_) (fun h => ?_) | refine scondP rfl (fun h => ?_) (fun h => ?_) | refine scond rfl (fun h => ?_) (fun h => ?_) | refine oskip ?_ | refine oskipb ?_ | refine oret ?_ | refine sem_ret ?_ | refine sem_seq ?_ | refine sreg1 ?_)
      all_goals first
        | (refine onil (lnext (i + 1) ⟨by omega, fun j hj => ?_⟩ (by omega) ?_)
           · by_cases e : j = i
             · subst e
               simp only [Bool.not_eq_true', Bool.not_eq_false', decide_eq_true_eq, decide_eq_false_iff_not] at *
               exact ⟨by assumption, by assumption⟩
             · exact hall j (by omega)
           · (refine Le.same ?_; simp only [List.forall_mem_cons, List.forall_mem_nil, getE, selE, Nat.reduceBEq, List.not_mem_nil, false_implies, implies_true, and_true, true_and, and_self])
             simp [CoolTown.cs, slOf])
        | exact ⟨_, rfl, _, rfl, tree_eq rfl (by
            simp only [getE, selE, Nat.reduceBEq]
            refine congrArg AV.bool (decide_eq_false (fun hh => ?_)).symm
            have hq := (hok.1 hh).2.2.1 i hi'
            simp only [Bool.not_eq_true', Bool.not_eq_false', decide_eq_true_eq, decide_eq_false_iff_not] at *
            obtain ⟨q1, q2⟩ := hq
            simp_all)⟩
        | trace_state
    · have hi' : i = t.houses.length := by omega
      subst hi'
      (refine sem_exit ?_; change sem _ _ _ _ _)
      repeat' (first | ((first | refine o1 rfl ?_ | refine o0 rfl ?_); intro k hk; simp (disch := omega) only [ev0, sl_cells, simprocAttr]; refine hk _ _ ?_; clear hk k) | refine ono rfl ?_ | ((first | refine osplitG rfl (fun h => ?_) (fun h => ?_) | refine osplitB rfl (fun h => ?_) (fun h => ?_)) <;> (fail_if_success (simp only [eq_self, reduceCtorEq] at h))) | refine onx ?_ | refine onb ?_ | refine sreg ?_ | refine qT rfl ?_ | refine qF rfl ?_ | refine scondT rfl ?_ | refine scondF rfl ?_ | refine ocondP rfl (fun h => ?_) (fun h => ?_) | refine ocondB rfl (fun h => ?_) (fun h => ?_) | refine scondP rfl (fun h => ?_) (fun h => ?_) | refine scond rfl (fun h => ?_) (fun h => ?_) | refine oskip ?_ | refine oskipb ?_ | refine oret ?_ | refine sem_ret ?_ | refine sem_seq ?_ | refine sreg1 ?_)
      refine sem_block ?_
      
      refine sem_loop (α := Nat) (fun i => ⟨[(1, .ptr 0 0 2 0 0), (4, I i)], [.row 25 0 2 [t.cs]]⟩) (fun i => i ≤ t.sites.length ∧ ∀ j, j < i → (t.sites.getD j default).ok t.houses.length) (fun i => t.sites.length - i) 0 ⟨Nat.zero_le _, fun j hj => absurd hj (Nat.not_lt_zero _)⟩ ?_ ?_
      · (refine Le.same ?_; simp only [List.forall_mem_cons, List.forall_mem_nil, getE, selE, Nat.reduceBEq, List.not_mem_nil, false_implies, implies_true, and_true, true_and, and_self])
        simp [slOf, CoolTown.cs]
      · rintro i ⟨hi, hall2⟩
        repeat' (first | ((first | refine o1 rfl ?_ | refine o0 rfl ?_); intro k hk; simp (disch := omega) only [ev0, sl_cells, simprocAttr, CoolTown.cs, slOf]; refine hk _ _ ?_; clear hk k) | refine ono rfl ?_ | ((first | refine osplitG rfl (fun h => ?_) (fun h => ?_) | refine osplitB rfl (fun h => ?_) (fun h => ?_)) <;> (fail_if_success (simp only [eq_self, reduceCtorEq] at h))) | refine onx ?_ | refine onb ?_ | refine sreg ?_ | refine qT rfl ?_ | refine qF rfl ?_ | refine scondT rfl ?_ | refine scondF rfl ?_ | refine ocondP rfl (fun h => ?_) (fun h => ?_) | refine ocondB rfl (fun h => ?_) (fun h => ?_) | refine scondP rfl (fun h => ?_) (fun h => ?_) | refine scond rfl (fun h => ?_) (fun h => ?_) | refine oskip ?_ | refine oskipb ?_ | refine oret ?_ | refine sem_ret ?_ | refine sem_seq ?_ | refine sreg1 ?_)
        · have hi' : i < t.sites.length := by omega
          have hgl := b3 i hi'
          have hsx := fun (hh : t.ok) => (hok.1 hh).2.2.2 i hi'
          have hstep : (t.sites.getD i default).ok t.houses.length → ∀ j, j < i + 1 → (t.sites.getD j default).ok t.houses.length := fun h j hj => by
            by_cases e : j = i
            · subst e; exact h
            · exact hall2 j (by omega)
          generalize hx : t.sites.getD i default = x at *
          refine sem_block ?_
          repeat' (first | ((first | refine o1 rfl ?_ | refine o0 rfl ?_); intro k hk; simp (disch := omega) only [ev0, sl_cells, simprocAttr, CoolTown.cs, CoolSite.cs, slOf, hx]; refine hk _ _ ?_; clear hk k) | refine ono rfl ?_ | (apply ocall; (case he => (simp only [ev0, sl_cells, simprocAttr] <;> rfl)); (case hc => first | exact ref03_in hG _ _ _); (case ht => rfl); (case hg => rfl)) | ((first | refine osplitG rfl (fun h => ?_) (fun h => ?_) | refine osplitB rfl (fun h => ?_) (fun h => ?_)) <;> (fail_if_success (simp only [eq_self, reduceCtorEq] at h))) | refine onx ?_ | refine onb ?_ | refine sreg ?_ | refine qT rfl ?_ | refine qF rfl ?_ | refine scondT rfl ?_ | refine scondF rfl ?_ | refine ocondP rfl (fun h => ?_) (fun h => ?_) | refine ocondB rfl (fun h => ?_) (fun h => ?_) | refine scondP rfl (fun h => ?_) (fun h => ?_) | refine scond rfl (fun h => ?_) (fun h => ?_) | refine oskip ?_ | refine oskipb ?_ | refine oret ?_ | refine sem_ret ?_ | refine sem_seq ?_ | refine sreg1 ?_)
          all_goals try exact ⟨_, rfl, _, rfl, tree_eq rfl (by
            simp only [getE, selE, Nat.reduceBEq]
            refine congrArg AV.bool (decide_eq_false (fun hh => ?_)).symm
            obtain ⟨q1, q2, q3, q4⟩ := hsx hh
            simp only [Bool.not_eq_true', Bool.not_eq_false', decide_eq_true_eq, decide_eq_false_iff_not, bne_iff_ne, ne_eq] at *
            simp_all)⟩
          have e1 : 0 ≤ x.cost ∧ x.cost ≤ 1000000 := by grind
          have e2 : 1 ≤ x.weeks ∧ x.weeks ≤ 100 := by grind
          have e3 : x.gives.length = t.houses.length := by grind
          refine sem_block ?_
          
          refine sem_loop (α := Nat) (fun k => ⟨[(1, .ptr 0 0 2 0 0), (4, I i), (5, .ptr 1 0 3 0 0), (6, I k)], [.row 25 0 2 [t.cs], .row 64 0 3 [x.cs]]⟩) (fun k => k ≤ x.gives.length ∧ ∀ j, j < k → (x.gives.getD j default).cold) (fun k => x.gives.length - k) 0 ⟨Nat.zero_le _, fun j hj => absurd hj (Nat.not_lt_zero _)⟩ ?_ ?_
          · (refine Le.same ?_; simp only [List.forall_mem_cons, List.forall_mem_nil, getE, selE, Nat.reduceBEq, List.not_mem_nil, false_implies, implies_true, and_true, true_and, and_self])
            simp [slOf, CoolTown.cs, CoolSite.cs]
          · rintro k ⟨hk, hall3⟩
            repeat' (first | ((first | refine o1 rfl ?_ | refine o0 rfl ?_); intro k hk; simp (disch := omega) only [ev0, sl_cells, simprocAttr, CoolSite.cs, slOf]; refine hk _ _ ?_; clear hk k) | refine ono rfl ?_ | ((first | refine osplitG rfl (fun h => ?_) (fun h => ?_) | refine osplitB rfl (fun h => ?_) (fun h => ?_)) <;> (fail_if_success (simp only [eq_self, reduceCtorEq] at h))) | refine onx ?_ | refine onb ?_ | refine sreg ?_ | refine qT rfl ?_ | refine qF rfl ?_ | refine scondT rfl ?_ | refine scondF rfl ?_ | refine ocondP rfl (fun h => ?_) (fun h => ?_) | refine ocondB rfl (fun h => ?_) (fun h => ?_) | refine scondP rfl (fun h => ?_) (fun h => ?_) | refine scond rfl (fun h => ?_) (fun h => ?_) | refine oskip ?_ | refine oskipb ?_ | refine oret ?_ | refine sem_ret ?_ | refine sem_seq ?_ | refine sreg1 ?_)
            · have hk' : k < x.gives.length := by omega
              refine sem_block ?_
              repeat' (first | ((first | refine o1 rfl ?_ | refine o0 rfl ?_); intro k hk; simp (disch := omega) only [ev0, sl_cells, simprocAttr, CoolSite.cs, slOf]; refine hk _ _ ?_; clear hk k) | refine ono rfl ?_ | (apply ocall; (case he => (simp only [ev0, sl_cells, simprocAttr] <;> rfl)); (case hc => first | exact ref03_Cold hG (x.gives.getD k default)); (case ht => rfl); (case hg => rfl)) | ((first | refine osplitG rfl (fun h => ?_) (fun h => ?_) | refine osplitB rfl (fun h => ?_) (fun h => ?_)) <;> (fail_if_success (simp only [eq_self, reduceCtorEq] at h))) | refine onx ?_ | refine onb ?_ | refine sreg ?_ | refine qT rfl ?_ | refine qF rfl ?_ | refine scondT rfl ?_ | refine scondF rfl ?_ | refine ocondP rfl (fun h => ?_) (fun h => ?_) | refine ocondB rfl (fun h => ?_) (fun h => ?_) | refine scondP rfl (fun h => ?_) (fun h => ?_) | refine scond rfl (fun h => ?_) (fun h => ?_) | refine oskip ?_ | refine oskipb ?_ | refine oret ?_ | refine sem_ret ?_ | refine sem_seq ?_ | refine sreg1 ?_)
              · exact ⟨_, rfl, _, rfl, tree_eq rfl (by
                  simp only [getE, selE, Nat.reduceBEq]
                  refine congrArg AV.bool (decide_eq_false (fun hh => ?_)).symm
                  have := all_getD.1 (hsx hh).2.2.2 k hk'
                  rename_i h
                  simp only [Bool.not_eq_true', decide_eq_false_iff_not] at h
                  exact h this)⟩
              · refine onil (lnext (k + 1) ⟨by omega, fun j hj => ?_⟩ (by omega) ?_)
                · by_cases e : j = k
                  · subst e
                    rename_i h
                    simp only [Bool.not_eq_false', decide_eq_true_eq] at h
                    exact h
                  · exact hall3 j (by omega)
                · (refine Le.same ?_; simp only [List.forall_mem_cons, List.forall_mem_nil, getE, selE, Nat.reduceBEq, List.not_mem_nil, false_implies, implies_true, and_true, true_and, and_self])
                  simp [CoolSite.cs, slOf]
            · have hk' : k = x.gives.length := by omega
              subst hk'
              (refine sem_exit ?_; change sem _ _ _ _ _)
              repeat' (first | ((first | refine o1 rfl ?_ | refine o0 rfl ?_); intro k hk; simp (disch := omega) only [ev0, sl_cells, simprocAttr]; refine hk _ _ ?_; clear hk k) | refine ono rfl ?_ | ((first | refine osplitG rfl (fun h => ?_) (fun h => ?_) | refine osplitB rfl (fun h => ?_) (fun h => ?_)) <;> (fail_if_success (simp only [eq_self, reduceCtorEq] at h))) | refine onx ?_ | refine onb ?_ | refine sreg ?_ | refine qT rfl ?_ | refine qF rfl ?_ | refine scondT rfl ?_ | refine scondF rfl ?_ | refine ocondP rfl (fun h => ?_) (fun h => ?_) | refine ocondB rfl (fun h => ?_) (fun h => ?_) | refine scondP rfl (fun h => ?_) (fun h => ?_) | refine scond rfl (fun h => ?_) (fun h => ?_) | refine oskip ?_ | refine oskipb ?_ | refine oret ?_ | refine sem_ret ?_ | refine sem_seq ?_ | refine sreg1 ?_)
              refine onil (lnext (i + 1) ⟨by omega, hstep ⟨e1, e2, e3, all_getD.2 hall3⟩⟩ (by omega) ?_)
              (refine Le.drop ?_ rfl (by simp) rfl rfl; simp only [List.forall_mem_cons, List.forall_mem_nil, getE, selE, Nat.reduceBEq, List.not_mem_nil, false_implies, implies_true, and_true, true_and, and_self])
              simp [CoolTown.cs, slOf]
        · have hi' : i = t.sites.length := by omega
          subst hi'
          (refine sem_exit ?_; change sem _ _ _ _ _)
          repeat' (first | ((first | refine o1 rfl ?_ | refine o0 rfl ?_); intro k hk; simp (disch := omega) only [ev0, sl_cells, simprocAttr, CoolTown.cs, slOf]; refine hk _ _ ?_; clear hk k) | refine ono rfl ?_ | (apply ocall; (case he => (simp only [ev0, sl_cells, simprocAttr] <;> rfl)); (case hc => first | exact ref03_in hG _ _ _); (case ht => rfl); (case hg => rfl)) | ((first | refine osplitG rfl (fun h => ?_) (fun h => ?_) | refine osplitB rfl (fun h => ?_) (fun h => ?_)) <;> (fail_if_success (simp only [eq_self, reduceCtorEq] at h))) | refine onx ?_ | refine onb ?_ | refine sreg ?_ | refine qT rfl ?_ | refine qF rfl ?_ | refine scondT rfl ?_ | refine scondF rfl ?_ | refine ocondP rfl (fun h => ?_) (fun h => ?_) | refine ocondB rfl (fun h => ?_) (fun h => ?_) | refine scondP rfl (fun h => ?_) (fun h => ?_) | refine scond rfl (fun h => ?_) (fun h => ?_) | refine oskip ?_ | refine oskipb ?_ | refine oret ?_ | refine sem_ret ?_ | refine sem_seq ?_ | refine sreg1 ?_)
          all_goals exact ⟨_, rfl, _, rfl, tree_eq rfl (by
            simp only [getE, selE, Nat.reduceBEq]
            refine congrArg AV.bool ?_
            rw [Bool.eq_iff_iff]
            simp only [decide_eq_true_eq, Bool.false_eq_true, false_iff]
            rw [hok]
            grind)⟩

theorem ref03_Coolers (t : CoolTown) (hn : t.sites.length ≤ 1000) (l : List Int) (hl : l.length ≤ 1000) : Holds Try.prog G F.ref03_Coolers [.agg t.cs, slOf intCs l] (B (decide (coolersOk t.sites.length l))) := by
  (refine holds_of_sem hG fn_ref03_Coolers (by simp) fun w0 S0 hG0 D0 => ?_; unfold c_ref03_Coolers cval enterEnv; simp only [List.zipIdx_cons, List.zipIdx_nil, List.map_cons, List.map_nil, Nat.zero_add, Nat.reduceAdd])
  repeat' (first | ((first | refine o1 rfl ?_ | refine o0 rfl ?_); intro k hk; simp (disch := omega) only [ev0, sl_cells, simprocAttr]; refine hk _ _ ?_; clear hk k) | refine ono rfl ?_ | ((first | refine osplitG rfl (fun h => ?_) (fun h => ?_) | refine osplitB rfl (fun h => ?_) (fun h => ?_)) <;> (fail_if_success (simp only [eq_self, reduceCtorEq] at h))) | refine onx ?_ | refine onb ?_ | refine sreg ?_ | refine qT rfl ?_ | refine qF rfl ?_ | refine scondT rfl ?_ | refine scondF rfl ?_ | refine ocondP rfl (fun h => ?_) (fun h => ?_) | refine ocondB rfl (fun h => ?_) (fun h => ?_) | refine scondP rfl (fun h => ?_) (fun h => ?_) | refine scond rfl (fun h => ?_) (fun h => ?_) | refine oskip ?_ | refine oskipb ?_ | refine oret ?_ | refine sem_ret ?_ | refine sem_seq ?_ | refine sreg1 ?_)
  refine sem_block ?_
  
  refine sem_loop (α := Nat) (fun i => ⟨[(1, slOf intCs l), (2, .ptr 0 0 2 0 0), (5, I i)], [.row 25 0 2 [t.cs]]⟩) (fun i => i ≤ l.length ∧ ∀ j, j < i → (0 ≤ l.getD j default ∧ l.getD j default ≤ (t.sites.length : Int) - 1) ∧ (0 < j → l.getD (j - 1) default < l.getD j default)) (fun i => l.length - i) 0 ⟨Nat.zero_le _, fun j hj => absurd hj (Nat.not_lt_zero _)⟩ ?_ ?_
  · (refine Le.same ?_; simp only [List.forall_mem_cons, List.forall_mem_nil, getE, selE, Nat.reduceBEq, List.not_mem_nil, false_implies, implies_true, and_true, true_and, and_self])
    simp [slOf, CoolTown.cs]
  · rintro i ⟨hi, hall⟩
    repeat' (first | ((first | refine o1 rfl ?_ | refine o0 rfl ?_); intro k hk; simp (disch := omega) only [ev0, sl_cells, simprocAttr, slOf]; refine hk _ _ ?_; clear hk k) | refine ono rfl ?_ | ((first | refine osplitG rfl (fun h => ?_) (fun h => ?_) | refine osplitB rfl (fun h => ?_) (fun h => ?_)) <;> (fail_if_success (simp only [eq_self, reduceCtorEq] at h))) | refine onx ?_ | refine onb ?_ | refine sreg ?_ | refine qT rfl ?_ | refine qF rfl ?_ | refine scondT rfl ?_ | refine scondF rfl ?_ | refine ocondP rfl (fun h => ?_) (fun h => ?_) | refine ocondB rfl (fun h => ?_) (fun h => ?_) | refine scondP rfl (fun h => ?_) (fun h => ?_) | refine scond rfl (fun h => ?_) (fun h => ?_) | refine oskip ?_ | refine oskipb ?_ | refine oret ?_ | refine sem_ret ?_ | refine sem_seq ?_ | refine sreg1 ?_)
    · have hi' : i < l.length := by omega
      have hi1 : ((i : Int) - 1).toNat = i - 1 := by omega
      have hq := fun (hh : coolersOk t.sites.length l) => hh i hi'
      have hp : ∀ j, 0 < i → i - 1 = j → l.getD j default = l.getD (i - 1) default := fun j _ e => by rw [e]
      refine sem_block ?_
      repeat' (first | ((first | refine o1 rfl ?_ | refine o0 rfl ?_); intro k hk; simp (disch := omega) only [ev0, sl_cells, simprocAttr]; refine hk _ _ ?_; clear hk k) | refine ono rfl ?_ | ((first | refine osplitG rfl (fun h => ?_) (fun h => ?_) | refine osplitB rfl (fun h => ?_) (fun h => ?_)) <;> (fail_if_success (simp only [eq_self, reduceCtorEq] at h))) | refine onx ?_ | refine onb ?_ | refine sreg ?_ | refine qT rfl ?_ | refine qF rfl ?_ | refine scondT rfl ?_ | refine scondF rfl ?_ | refine ocondP rfl (fun h => ?_) (fun h => ?_) | refine ocondB rfl (fun h => ?_) (fun h => ?_) | refine scondP rfl (fun h => ?_) (fun h => ?_) | refine scond rfl (fun h => ?_) (fun h => ?_) | refine oskip ?_ | refine oskipb ?_ | refine oret ?_ | refine sem_ret ?_ | refine sem_seq ?_ | refine sreg1 ?_)
      ((refine sem_mgo 23 hmix (by kernel_rfl) ?_; simp only [List.take_succ_cons, List.take_zero, List.drop_succ_cons, List.drop_zero, List.take_nil, List.drop_nil]); (repeat' (first | ((first | apply mop | apply mop0); (case hg => rfl); (case hq => rfl); intro k hk; simp (disch := omega) only [ev0, sl_cells, simprocAttr, slOf, intCs, CoolTown.cs, hi1]; refine hk _ _ rfl ?_; clear hk k) | (apply mno; (case hg => rfl)) | (apply mcall; (case he => (simp only [ev0, sl_cells, simprocAttr] <;> rfl)); (case hc => first | exact ref03_in hG _ _ _); (case ht => rfl); (case hg => rfl); (case hr => rfl)) | (apply mbox; (case hx => (simp only [wv, simprocAttr] <;> rfl)); (case hg => rfl); (case hall => rfl); (case hr => rfl); simp only [cellsOf, List.length_cons, List.length_nil, Nat.reduceAdd, Nat.zero_add, List.nil_append, List.cons_append, List.set_cons_zero, List.set_cons_succ, chunks, List.take_succ_cons, List.take_zero, List.drop_succ_cons, List.drop_zero]) | (apply mbldS; (case hb => (simp (disch := omega) only [ev0, sl_cells, simprocAttr] <;> rfl)); (case hg => rfl); (case hr => rfl); simp only [cellsOf, List.length_cons, List.length_nil, Nat.reduceAdd, Nat.zero_add, List.nil_append, List.cons_append, List.set_cons_zero, List.set_cons_succ, chunks, List.take_succ_cons, List.take_zero, List.drop_succ_cons, List.drop_zero]) | ((first | (apply msto (q := 0); (case hq => rfl)) | (apply msto (q := 1); (case hq => rfl)) | (apply msto (q := 2); (case hq => rfl)) | (apply msto (q := 3); (case hq => rfl))); (case hx => (simp only [wv, simprocAttr] <;> rfl)); (case haddr => (simp only [wv, simprocAttr] <;> rfl)); (case hg => rfl); (case hl1 => rfl); (case hl2 => rfl); (case hok => rfl); (case hr => rfl); simp only [cellsOf, List.length_cons, List.length_nil, Nat.reduceAdd, Nat.zero_add, List.nil_append, List.cons_append, List.set_cons_zero, List.set_cons_succ, chunks, List.take_succ_cons, List.take_zero, List.drop_succ_cons, List.drop_zero]) | (apply mnil; simp only [SlotR.fin, List.map_cons, List.map_nil, List.cons_append, List.nil_append, List.append_nil]) | (refine msplit rfl (fun h => ?_) (fun h => ?_) <;> simp only [h] <;> (try simp only [Bool.not_eq_true', Bool.not_eq_false', decide_eq_true_eq, decide_eq_false_iff_not] at h)))) <;> (repeat' (first | ((first | refine o1 rfl ?_ | refine o0 rfl ?_); intro k hk; simp (disch := omega) only [ev0, sl_cells, simprocAttr, slOf, intCs, CoolTown.cs, hi1]; refine hk _ _ ?_; clear hk k) | refine ono rfl ?_ | (apply ocall; (case he => (simp only [ev0, sl_cells, simprocAttr] <;> rfl)); (case hc => first | exact ref03_in hG _ _ _); (case ht => rfl); (case hg => rfl)) | ((first | refine osplitG rfl (fun h => ?_) (fun h => ?_) | refine osplitB rfl (fun h => ?_) (fun h => ?_)) <;> (fail_if_success (simp only [eq_self, reduceCtorEq] at h))) | refine onx ?_ | refine onb ?_ | refine sreg ?_ | refine qT rfl ?_ | refine qF rfl ?_ | refine scondT rfl ?_ | refine scondF rfl ?_ | refine ocondP rfl (fun h => ?_) (fun h => ?_) | refine ocondB rfl (fun h => ?_) (fun h => ?_) | refine scondP rfl (fun h => ?_) (fun h => ?_) | refine scond rfl (fun h => ?_) (fun h => ?_) | refine oskip ?_ | refine oskipb ?_ | refine oret ?_ | refine sem_ret ?_ | refine sem_seq ?_ | refine sreg1 ?_)))
      all_goals first
        | exact ⟨_, rfl, _, rfl, tree_eq rfl (by
            simp only [getE, selE, Nat.reduceBEq]
            refine congrArg AV.bool (decide_eq_false (fun hh => ?_)).symm
            have := hq hh
            try simp only [Bool.not_eq_true', Bool.not_eq_false', decide_eq_true_eq, decide_eq_false_iff_not] at *
            grind)⟩
        | (refine onil (lnext (i + 1) ⟨by omega, fun j hj => ?_⟩ (by omega) ?_)
           · by_cases e : j = i
             · subst e
               try simp only [Bool.not_eq_true', Bool.not_eq_false', decide_eq_true_eq, decide_eq_false_iff_not] at *
               grind
             · exact hall j (by omega)
           · (refine Le.same ?_; simp only [List.forall_mem_cons, List.forall_mem_nil, getE, selE, Nat.reduceBEq, List.not_mem_nil, false_implies, implies_true, and_true, true_and, and_self])
             simp [CoolTown.cs, slOf])
        | trace_state
    · have hi' : i = l.length := by omega
      subst hi'
      (refine sem_exit ?_; change sem _ _ _ _ _)
      repeat' (first | ((first | refine o1 rfl ?_ | refine o0 rfl ?_); intro k hk; simp (disch := omega) only [ev0, sl_cells, simprocAttr]; refine hk _ _ ?_; clear hk k) | refine ono rfl ?_ | ((first | refine osplitG rfl (fun h => ?_) (fun h => ?_) | refine osplitB rfl (fun h => ?_) (fun h => ?_)) <;> (fail_if_success (simp only [eq_self, reduceCtorEq] at h))) | refine onx ?_ | refine onb ?_ | refine sreg ?_ | refine qT rfl ?_ | refine qF rfl ?_ | refine scondT rfl ?_ | refine scondF rfl ?_ | refine ocondP rfl (fun h => ?_) (fun h => ?_) | refine ocondB rfl (fun h => ?_) (fun h => ?_) | refine scondP rfl (fun h => ?_) (fun h => ?_) | refine scond rfl (fun h => ?_) (fun h => ?_) | refine oskip ?_ | refine oskipb ?_ | refine oret ?_ | refine sem_ret ?_ | refine sem_seq ?_ | refine sreg1 ?_)
      rw [decide_eq_true (show coolersOk t.sites.length l from hall)]
      exact ⟨_, rfl, _, rfl, tree_eq rfl rfl⟩

theorem ref03_Truth (t : CoolTown) (x : CoolTruth) (ht : t.ok) (hx : x.short) : Holds Try.prog G F.ref03_Truth [.agg t.cs, .agg x.cs] (B (decide (truthOk t x))) := by
  obtain ⟨⟨b1, b2⟩, ⟨b3, b4⟩, -, b5⟩ := ht
  rw [all_getD] at b5
  obtain ⟨x1, x2, x3⟩ := hx
  rw [all_getD] at x3
  (refine holds_of_sem hG fn_ref03_Truth (by simp) fun w0 S0 hG0 D0 => ?_; unfold c_ref03_Truth cval enterEnv; simp only [List.zipIdx_cons, List.zipIdx_nil, List.map_cons, List.map_nil, Nat.zero_add, Nat.reduceAdd])
  repeat' (first | ((first | refine o1 rfl ?_ | refine o0 rfl ?_); intro k hk; simp (disch := omega) only [ev0, sl_cells, simprocAttr, CoolTown.cs, CoolTruth.cs, slOf]; refine hk _ _ ?_; clear hk k) | refine ono rfl ?_ | ((first | refine osplitG rfl (fun h => ?_) (fun h => ?_) | refine osplitB rfl (fun h => ?_) (fun h => ?_)) <;> (fail_if_success (simp only [eq_self, reduceCtorEq] at h))) | refine onx ?_ | refine onb ?_ | refine sreg ?_ | refine qT rfl ?_ | refine qF rfl ?_ | refine scondT rfl ?_ | refine scondF rfl ?_ | refine ocondP rfl (fun h => ?_) (fun h => ?_) | refine ocondB rfl (fun h => ?_) (fun h => ?_) | refine scondP rfl (fun h => ?_) (fun h => ?_) | refine scond rfl (fun h => ?_) (fun h => ?_) | refine oskip ?_ | refine oskipb ?_ | refine oret ?_ | refine sem_ret ?_ | refine sem_seq ?_ | refine sreg1 ?_)
  all_goals try exact ⟨_, rfl, _, rfl, tree_eq rfl (by
      simp only [getE, selE, Nat.reduceBEq]
      refine congrArg AV.bool (decide_eq_false (fun hh => ?_)).symm
      obtain ⟨e1, e2, -⟩ := hh
      simp only [Bool.not_eq_true', Bool.not_eq_false', decide_eq_true_eq, decide_eq_false_iff_not, bne_iff_ne, ne_eq] at *
      omega)⟩
  have e1 : x.needs.length = t.houses.length := by grind
  have e2 : x.gives.length = t.sites.length := by grind
  refine sem_block ?_
  
  refine sem_loop (α := Nat) (fun i => ⟨[(2, .ptr 0 0 2 0 0), (3, .ptr 1 0 2 0 0), (5, I i)], [.row 25 0 2 [t.cs], .row 53 0 2 [x.cs]]⟩) (fun i => i ≤ t.houses.length ∧ ∀ j, j < i → inSp (x.needs.getD j default) (t.houses.getD j default).need) (fun i => t.houses.length - i) 0 ⟨Nat.zero_le _, fun j hj => absurd hj (Nat.not_lt_zero _)⟩ ?_ ?_
  · (refine Le.same ?_; simp only [List.forall_mem_cons, List.forall_mem_nil, getE, selE, Nat.reduceBEq, List.not_mem_nil, false_implies, implies_true, and_true, true_and, and_self])
    simp [slOf, CoolTown.cs, CoolTruth.cs]
  · rintro i ⟨hi, hall⟩
    repeat' (first | ((first | refine o1 rfl ?_ | refine o0 rfl ?_); intro k hk; simp (disch := omega) only [ev0, sl_cells, simprocAttr, CoolTown.cs, slOf]; refine hk _ _ ?_; clear hk k) | refine ono rfl ?_ | ((first | refine osplitG rfl (fun h => ?_) (fun h => ?_) | refine osplitB rfl (fun h => ?_) (fun h => ?_)) <;> (fail_if_success (simp only [eq_self, reduceCtorEq] at h))) | refine onx ?_ | refine onb ?_ | refine sreg ?_ | refine qT rfl ?_ | refine qF rfl ?_ | refine scondT rfl ?_ | refine scondF rfl ?_ | refine ocondP rfl (fun h => ?_) (fun h => ?_) | refine ocondB rfl (fun h => ?_) (fun h => ?_) | refine scondP rfl (fun h => ?_) (fun h => ?_) | refine scond rfl (fun h => ?_) (fun h => ?_) | refine oskip ?_ | refine oskipb ?_ | refine oret ?_ | refine sem_ret ?_ | refine sem_seq ?_ | refine sreg1 ?_)
    · have hi' : i < t.houses.length := by omega
      have hi2 : i < x.needs.length := by omega
      have hq := fun (hh : truthOk t x) => hh.2.2.1 i hi'
      refine sem_block ?_
      repeat' (first | ((first | refine o1 rfl ?_ | refine o0 rfl ?_); intro k hk; simp (disch := omega) only [ev0, sl_cells, simprocAttr]; refine hk _ _ ?_; clear hk k) | refine ono rfl ?_ | ((first | refine osplitG rfl (fun h => ?_) (fun h => ?_) | refine osplitB rfl (fun h => ?_) (fun h => ?_)) <;> (fail_if_success (simp only [eq_self, reduceCtorEq] at h))) | refine onx ?_ | refine onb ?_ | refine sreg ?_ | refine qT rfl ?_ | refine qF rfl ?_ | refine scondT rfl ?_ | refine scondF rfl ?_ | refine ocondP rfl (fun h => ?_) (fun h => ?_) | refine ocondB rfl (fun h => ?_) (fun h => ?_) | refine scondP rfl (fun h => ?_) (fun h => ?_) | refine scond rfl (fun h => ?_) (fun h => ?_) | refine oskip ?_ | refine oskipb ?_ | refine oret ?_ | refine sem_ret ?_ | refine sem_seq ?_ | refine sreg1 ?_)
      ((refine sem_mgo 19 hmix (by kernel_rfl) ?_; simp only [List.take_succ_cons, List.take_zero, List.drop_succ_cons, List.drop_zero, List.take_nil, List.drop_nil]); (repeat' (first | ((first | apply mop | apply mop0); (case hg => rfl); (case hq => rfl); intro k hk; simp (disch := omega) only [ev0, sl_cells, simprocAttr, slOf, intCs, CoolTown.cs, CoolHouse.cs, CoolTruth.cs]; refine hk _ _ rfl ?_; clear hk k) | (apply mno; (case hg => rfl)) | (apply mcall; (case he => (simp only [ev0, sl_cells, simprocAttr] <;> rfl)); (case hc => first | exact ref03_in hG _ _ _); (case ht => rfl); (case hg => rfl); (case hr => rfl)) | (apply mbox; (case hx => (simp only [wv, simprocAttr] <;> rfl)); (case hg => rfl); (case hall => rfl); (case hr => rfl); simp only [cellsOf, List.length_cons, List.length_nil, Nat.reduceAdd, Nat.zero_add, List.nil_append, List.cons_append, List.set_cons_zero, List.set_cons_succ, chunks, List.take_succ_cons, List.take_zero, List.drop_succ_cons, List.drop_zero]) | (apply mbldS; (case hb => (simp (disch := omega) only [ev0, sl_cells, simprocAttr] <;> rfl)); (case hg => rfl); (case hr => rfl); simp only [cellsOf, List.length_cons, List.length_nil, Nat.reduceAdd, Nat.zero_add, List.nil_append, List.cons_append, List.set_cons_zero, List.set_cons_succ, chunks, List.take_succ_cons, List.take_zero, List.drop_succ_cons, List.drop_zero]) | ((first | (apply msto (q := 0); (case hq => rfl)) | (apply msto (q := 1); (case hq => rfl)) | (apply msto (q := 2); (case hq => rfl)) | (apply msto (q := 3); (case hq => rfl))); (case hx => (simp only [wv, simprocAttr] <;> rfl)); (case haddr => (simp only [wv, simprocAttr] <;> rfl)); (case hg => rfl); (case hl1 => rfl); (case hl2 => rfl); (case hok => rfl); (case hr => rfl); simp only [cellsOf, List.length_cons, List.length_nil, Nat.reduceAdd, Nat.zero_add, List.nil_append, List.cons_append, List.set_cons_zero, List.set_cons_succ, chunks, List.take_succ_cons, List.take_zero, List.drop_succ_cons, List.drop_zero]) | (apply mnil; simp only [SlotR.fin, List.map_cons, List.map_nil, List.cons_append, List.nil_append, List.append_nil]) | (refine msplit rfl (fun h => ?_) (fun h => ?_) <;> simp only [h] <;> (try simp only [Bool.not_eq_true', Bool.not_eq_false', decide_eq_true_eq, decide_eq_false_iff_not] at h)))) <;> (repeat' (first | ((first | refine o1 rfl ?_ | refine o0 rfl ?_); intro k hk; simp (disch := omega) only [ev0, sl_cells, simprocAttr, slOf, intCs, CoolTown.cs, CoolHouse.cs, CoolTruth.cs]; refine hk _ _ ?_; clear hk k) | refine ono rfl ?_ | (apply ocall; (case he => (simp only [ev0, sl_cells, simprocAttr] <;> rfl)); (case hc => first | exact ref03_in hG _ _ _); (case ht => rfl); (case hg => rfl)) | ((first | refine osplitG rfl (fun h => ?_) (fun h => ?_) | refine osplitB rfl (fun h => ?_) (fun h => ?_)) <;> (fail_if_success (simp only [eq_self, reduceCtorEq] at h))) | refine onx ?_ | refine onb ?_ | refine sreg ?_ | refine qT rfl ?_ | refine qF rfl ?_ | refine scondT rfl ?_ | refine scondF rfl ?_ | refine ocondP rfl (fun h => ?_) (fun h => ?_) | refine ocondB rfl (fun h => ?_) (fun h => ?_) | refine scondP rfl (fun h => ?_) (fun h => ?_) | refine scond rfl (fun h => ?_) (fun h => ?_) | refine oskip ?_ | refine oskipb ?_ | refine oret ?_ | refine sem_ret ?_ | refine sem_seq ?_ | refine sreg1 ?_)))
      · exact ⟨_, rfl, _, rfl, tree_eq rfl (by
          simp only [getE, selE, Nat.reduceBEq]
          refine congrArg AV.bool (decide_eq_false (fun hh => ?_)).symm
          have := hq hh
          rename_i h
          simp only [Bool.not_eq_true', decide_eq_false_iff_not] at h
          exact h this)⟩
      · refine onil (lnext (i + 1) ⟨by omega, fun j hj => ?_⟩ (by omega) ?_)
        · by_cases e : j = i
          · subst e
            rename_i h
            simp only [Bool.not_eq_false', decide_eq_true_eq] at h
            exact h
          · exact hall j (by omega)
        · (refine Le.same ?_; simp only [List.forall_mem_cons, List.forall_mem_nil, getE, selE, Nat.reduceBEq, List.not_mem_nil, false_implies, implies_true, and_true, true_and, and_self])
          simp [CoolTown.cs, CoolTruth.cs, slOf]
    · have hi' : i = t.houses.length := by omega
      subst hi'
      (refine sem_exit ?_; change sem _ _ _ _ _)
      repeat' (first | ((first | refine o1 rfl ?_ | refine o0 rfl ?_); intro k hk; simp (disch := omega) only [ev0, sl_cells, simprocAttr]; refine hk _ _ ?_; clear hk k) | refine ono rfl ?_ | ((first | refine osplitG rfl (fun h => ?_) (fun h => ?_) | refine osplitB rfl (fun h => ?_) (fun h => ?_)) <;> (fail_if_success (simp only [eq_self, reduceCtorEq] at h))) | refine onx ?_ | refine onb ?_ | refine sreg ?_ | refine qT rfl ?_ | refine qF rfl ?_ | refine scondT rfl ?_ | refine scondF rfl ?_ | refine ocondP rfl (fun h => ?_) (fun h => ?_) | refine ocondB rfl (fun h => ?_) (fun h => ?_) | refine scondP rfl (fun h => ?_) (fun h => ?_) | refine scond rfl (fun h => ?_) (fun h => ?_) | refine oskip ?_ | refine oskipb ?_ | refine oret ?_ | refine sem_ret ?_ | refine sem_seq ?_ | refine sreg1 ?_)
      refine sem_block ?_
      
      refine sem_loop (α := Nat) (fun i => ⟨[(2, .ptr 0 0 2 0 0), (3, .ptr 1 0 2 0 0), (6, I i)], [.row 25 0 2 [t.cs], .row 53 0 2 [x.cs]]⟩) (fun i => i ≤ t.sites.length ∧ ∀ j, j < i → (x.gives.getD j default).length = t.houses.length ∧ ∀ k, k < t.houses.length → inSp ((x.gives.getD j default).getD k default) ((t.sites.getD j default).gives.getD k default)) (fun i => t.sites.length - i) 0 ⟨Nat.zero_le _, fun j hj => absurd hj (Nat.not_lt_zero _)⟩ ?_ ?_
      · (refine Le.same ?_; simp only [List.forall_mem_cons, List.forall_mem_nil, getE, selE, Nat.reduceBEq, List.not_mem_nil, false_implies, implies_true, and_true, true_and, and_self])
        simp [slOf, CoolTown.cs, CoolTruth.cs]
      · rintro i ⟨hi, hall2⟩
        repeat' (first | ((first | refine o1 rfl ?_ | refine o0 rfl ?_); intro k hk; simp (disch := omega) only [ev0, sl_cells, simprocAttr, CoolTown.cs, slOf]; refine hk _ _ ?_; clear hk k) | refine ono rfl ?_ | ((first | refine osplitG rfl (fun h => ?_) (fun h => ?_) | refine osplitB rfl (fun h => ?_) (fun h => ?_)) <;> (fail_if_success (simp only [eq_self, reduceCtorEq] at h))) | refine onx ?_ | refine onb ?_ | refine sreg ?_ | refine qT rfl ?_ | refine qF rfl ?_ | refine scondT rfl ?_ | refine scondF rfl ?_ | refine ocondP rfl (fun h => ?_) (fun h => ?_) | refine ocondB rfl (fun h => ?_) (fun h => ?_) | refine scondP rfl (fun h => ?_) (fun h => ?_) | refine scond rfl (fun h => ?_) (fun h => ?_) | refine oskip ?_ | refine oskipb ?_ | refine oret ?_ | refine sem_ret ?_ | refine sem_seq ?_ | refine sreg1 ?_)
        · have hi' : i < t.sites.length := by omega
          have hi2 : i < x.gives.length := by omega
          have hq := fun (hh : truthOk t x) => hh.2.2.2 i hi'
          have hg := x3 i hi2
          have hs3 := (b5 i hi').2.2.1
          have hstep : ((x.gives.getD i default).length = t.houses.length ∧ ∀ k, k < t.houses.length → inSp ((x.gives.getD i default).getD k default) ((t.sites.getD i default).gives.getD k default)) → ∀ j, j < i + 1 → (x.gives.getD j default).length = t.houses.length ∧ ∀ k, k < t.houses.length → inSp ((x.gives.getD j default).getD k default) ((t.sites.getD j default).gives.getD k default) := fun h j hj => by
            by_cases e : j = i
            · subst e; exact h
            · exact hall2 j (by omega)
          refine sem_block ?_
          repeat' (first | ((first | refine o1 rfl ?_ | refine o0 rfl ?_); intro k hk; simp (disch := omega) only [ev0, sl_cells, simprocAttr]; refine hk _ _ ?_; clear hk k) | refine ono rfl ?_ | ((first | refine osplitG rfl (fun h => ?_) (fun h => ?_) | refine osplitB rfl (fun h => ?_) (fun h => ?_)) <;> (fail_if_success (simp only [eq_self, reduceCtorEq] at h))) | refine onx ?_ | refine onb ?_ | refine sreg ?_ | refine qT rfl ?_ | refine qF rfl ?_ | refine scondT rfl ?_ | refine scondF rfl ?_ | refine ocondP rfl (fun h => ?_) (fun h => ?_) | refine ocondB rfl (fun h => ?_) (fun h => ?_) | refine scondP rfl (fun h => ?_) (fun h => ?_) | refine scond rfl (fun h => ?_) (fun h => ?_) | refine oskip ?_ | refine oskipb ?_ | refine oret ?_ | refine sem_ret ?_ | refine sem_seq ?_ | refine sreg1 ?_)
          ((refine sem_mgo 9 hmix (by kernel_rfl) ?_; simp only [List.take_succ_cons, List.take_zero, List.drop_succ_cons, List.drop_zero, List.take_nil, List.drop_nil]); (repeat' (first | ((first | apply mop | apply mop0); (case hg => rfl); (case hq => rfl); intro k hk; simp (disch := omega) only [ev0, sl_cells, simprocAttr, slOf, intCs, intsCs, CoolTown.cs, CoolTruth.cs]; refine hk _ _ rfl ?_; clear hk k) | (apply mno; (case hg => rfl)) | (apply mbox; (case hx => (simp only [wv, simprocAttr] <;> rfl)); (case hg => rfl); (case hall => rfl); (case hr => rfl); simp only [cellsOf, List.length_cons, List.length_nil, Nat.reduceAdd, Nat.zero_add, List.nil_append, List.cons_append, List.set_cons_zero, List.set_cons_succ, chunks, List.take_succ_cons, List.take_zero, List.drop_succ_cons, List.drop_zero]) | (apply mbldS; (case hb => (simp (disch := omega) only [ev0, sl_cells, simprocAttr] <;> rfl)); (case hg => rfl); (case hr => rfl); simp only [cellsOf, List.length_cons, List.length_nil, Nat.reduceAdd, Nat.zero_add, List.nil_append, List.cons_append, List.set_cons_zero, List.set_cons_succ, chunks, List.take_succ_cons, List.take_zero, List.drop_succ_cons, List.drop_zero]) | ((first | (apply msto (q := 0); (case hq => rfl)) | (apply msto (q := 1); (case hq => rfl)) | (apply msto (q := 2); (case hq => rfl)) | (apply msto (q := 3); (case hq => rfl))); (case hx => (simp only [wv, simprocAttr] <;> rfl)); (case haddr => (simp only [wv, simprocAttr] <;> rfl)); (case hg => rfl); (case hl1 => rfl); (case hl2 => rfl); (case hok => rfl); (case hr => rfl); simp only [cellsOf, List.length_cons, List.length_nil, Nat.reduceAdd, Nat.zero_add, List.nil_append, List.cons_append, List.set_cons_zero, List.set_cons_succ, chunks, List.take_succ_cons, List.take_zero, List.drop_succ_cons, List.drop_zero]) | (apply mnil; simp only [SlotR.fin, List.map_cons, List.map_nil, List.cons_append, List.nil_append, List.append_nil]) | (refine msplit rfl (fun h => ?_) (fun h => ?_) <;> simp only [h] <;> (try simp only [Bool.not_eq_true', Bool.not_eq_false', decide_eq_true_eq, decide_eq_false_iff_not] at h)))) <;> (repeat' (first | ((first | refine o1 rfl ?_ | refine o0 rfl ?_); intro k hk; simp (disch := omega) only [ev0, sl_cells, simprocAttr, slOf, intCs, intsCs, CoolTown.cs, CoolTruth.cs]; refine hk _ _ ?_; clear hk k) | refine ono rfl ?_ | ((first | refine osplitG rfl (fun h => ?_) (fun h => ?_) | refine osplitB rfl (fun h => ?_) (fun h => ?_)) <;> (fail_if_success (simp only [eq_self, reduceCtorEq] at h))) | refine onx ?_ | refine onb ?_ | refine sreg ?_ | refine qT rfl ?_ | refine qF rfl ?_ | refine scondT rfl ?_ | refine scondF rfl ?_ | refine ocondP rfl (fun h => ?_) (fun h => ?_) | refine ocondB rfl (fun h => ?_) (fun h => ?_) | refine scondP rfl (fun h => ?_) (fun h => ?_) | refine scond rfl (fun h => ?_) (fun h => ?_) | refine oskip ?_ | refine oskipb ?_ | refine oret ?_ | refine sem_ret ?_ | refine sem_seq ?_ | refine sreg1 ?_)))
          · exact ⟨_, rfl, _, rfl, tree_eq rfl (by
              simp only [getE, selE, Nat.reduceBEq]
              refine congrArg AV.bool (decide_eq_false (fun hh => ?_)).symm
              have := (hq hh).1
              rename_i h
              simp only [Bool.not_eq_true', decide_eq_false_iff_not] at h
              omega)⟩
          · rename_i h
            simp only [Bool.not_eq_false', decide_eq_true_eq] at h
            have hlen : (x.gives.getD i default).length = t.houses.length := by omega
            refine sem_block ?_
            
            refine sem_loop (α := Nat) (fun k => ⟨[(2, .ptr 0 0 2 0 0), (3, .ptr 1 0 2 0 0), (6, I i), (7, I k)], [.row 25 0 2 [t.cs], .row 53 0 2 [x.cs]]⟩) (fun k => k ≤ t.houses.length ∧ ∀ j, j < k → inSp ((x.gives.getD i default).getD j default) ((t.sites.getD i default).gives.getD j default)) (fun k => t.houses.length - k) 0 ⟨Nat.zero_le _, fun j hj => absurd hj (Nat.not_lt_zero _)⟩ ?_ ?_
            · (refine Le.same ?_; simp only [List.forall_mem_cons, List.forall_mem_nil, getE, selE, Nat.reduceBEq, List.not_mem_nil, false_implies, implies_true, and_true, true_and, and_self])
              simp [slOf, CoolTown.cs, CoolTruth.cs]
            · rintro k ⟨hk, hall3⟩
              repeat' (first | ((first | refine o1 rfl ?_ | refine o0 rfl ?_); intro k hk; simp (disch := omega) only [ev0, sl_cells, simprocAttr, CoolTown.cs, slOf]; refine hk _ _ ?_; clear hk k) | refine ono rfl ?_ | ((first | refine osplitG rfl (fun h => ?_) (fun h => ?_) | refine osplitB rfl (fun h => ?_) (fun h => ?_)) <;> (fail_if_success (simp only [eq_self, reduceCtorEq] at h))) | refine onx ?_ | refine onb ?_ | refine sreg ?_ | refine qT rfl ?_ | refine qF rfl ?_ | refine scondT rfl ?_ | refine scondF rfl ?_ | refine ocondP rfl (fun h => ?_) (fun h => ?_) | refine ocondB rfl (fun h => ?_) (fun h => ?_) | refine scondP rfl (fun h => ?_) (fun h => ?_) | refine scond rfl (fun h => ?_) (fun h => ?_) | refine oskip ?_ | refine oskipb ?_ | refine oret ?_ | refine sem_ret ?_ | refine sem_seq ?_ | refine sreg1 ?_)
              · have hk' : k < t.houses.length := by omega
                have hk1 : k < (x.gives.getD i default).length := by omega
                have hk2 : k < (t.sites.getD i default).gives.length := by omega
                refine sem_block ?_
                repeat' (first | ((first | refine o1 rfl ?_ | refine o0 rfl ?_); intro k hk; simp (disch := omega) only [ev0, sl_cells, simprocAttr]; refine hk _ _ ?_; clear hk k) | refine ono rfl ?_ | ((first | refine osplitG rfl (fun h => ?_) (fun h => ?_) | refine osplitB rfl (fun h => ?_) (fun h => ?_)) <;> (fail_if_success (simp only [eq_self, reduceCtorEq] at h))) | refine onx ?_ | refine onb ?_ | refine sreg ?_ | refine qT rfl ?_ | refine qF rfl ?_ | refine scondT rfl ?_ | refine scondF rfl ?_ | refine ocondP rfl (fun h => ?_) (fun h => ?_) | refine ocondB rfl (fun h => ?_) (fun h => ?_) | refine scondP rfl (fun h => ?_) (fun h => ?_) | refine scond rfl (fun h => ?_) (fun h => ?_) | refine oskip ?_ | refine oskipb ?_ | refine oret ?_ | refine sem_ret ?_ | refine sem_seq ?_ | refine sreg1 ?_)
                ((refine sem_mgo 28 hmix (by kernel_rfl) ?_; simp only [List.take_succ_cons, List.take_zero, List.drop_succ_cons, List.drop_zero, List.take_nil, List.drop_nil]); (repeat' (first | ((first | apply mop | apply mop0); (case hg => rfl); (case hq => rfl); intro k hk; simp (disch := omega) only [ev0, sl_cells, simprocAttr, slOf, intCs, intsCs, Span.cs, CoolTown.cs, CoolSite.cs, CoolTruth.cs]; refine hk _ _ rfl ?_; clear hk k) | (apply mno; (case hg => rfl)) | (apply mcall; (case he => (simp only [ev0, sl_cells, simprocAttr] <;> rfl)); (case hc => first | exact ref03_in hG _ _ _); (case ht => rfl); (case hg => rfl); (case hr => rfl)) | (apply mbox; (case hx => (simp only [wv, simprocAttr] <;> rfl)); (case hg => rfl); (case hall => rfl); (case hr => rfl); simp only [cellsOf, List.length_cons, List.length_nil, Nat.reduceAdd, Nat.zero_add, List.nil_append, List.cons_append, List.set_cons_zero, List.set_cons_succ, chunks, List.take_succ_cons, List.take_zero, List.drop_succ_cons, List.drop_zero]) | (apply mbldS; (case hb => (simp (disch := omega) only [ev0, sl_cells, simprocAttr] <;> rfl)); (case hg => rfl); (case hr => rfl); simp only [cellsOf, List.length_cons, List.length_nil, Nat.reduceAdd, Nat.zero_add, List.nil_append, List.cons_append, List.set_cons_zero, List.set_cons_succ, chunks, List.take_succ_cons, List.take_zero, List.drop_succ_cons, List.drop_zero]) | ((first | (apply msto (q := 0); (case hq => rfl)) | (apply msto (q := 1); (case hq => rfl)) | (apply msto (q := 2); (case hq => rfl)) | (apply msto (q := 3); (case hq => rfl))); (case hx => (simp only [wv, simprocAttr] <;> rfl)); (case haddr => (simp only [wv, simprocAttr] <;> rfl)); (case hg => rfl); (case hl1 => rfl); (case hl2 => rfl); (case hok => rfl); (case hr => rfl); simp only [cellsOf, List.length_cons, List.length_nil, Nat.reduceAdd, Nat.zero_add, List.nil_append, List.cons_append, List.set_cons_zero, List.set_cons_succ, chunks, List.take_succ_cons, List.take_zero, List.drop_succ_cons, List.drop_zero]) | (apply mnil; simp only [SlotR.fin, List.map_cons, List.map_nil, List.cons_append, List.nil_append, List.append_nil]) | (refine msplit rfl (fun h => ?_) (fun h => ?_) <;> simp only [h] <;> (try simp only [Bool.not_eq_true', Bool.not_eq_false', decide_eq_true_eq, decide_eq_false_iff_not] at h)))) <;> (repeat' (first | ((first | refine o1 rfl ?_ | refine o0 rfl ?_); intro k hk; simp (disch := omega) only [ev0, sl_cells, simprocAttr, slOf, intCs, intsCs, Span.cs, CoolTown.cs, CoolSite.cs, CoolTruth.cs]; refine hk _ _ ?_; clear hk k) | refine ono rfl ?_ | (apply ocall; (case he => (simp only [ev0, sl_cells, simprocAttr] <;> rfl)); (case hc => first | exact ref03_in hG _ _ _); (case ht => rfl); (case hg => rfl)) | ((first | refine osplitG rfl (fun h => ?_) (fun h => ?_) | refine osplitB rfl (fun h => ?_) (fun h => ?_)) <;> (fail_if_success (simp only [eq_self, reduceCtorEq] at h))) | refine onx ?_ | refine onb ?_ | refine sreg ?_ | refine qT rfl ?_ | refine qF rfl ?_ | refine scondT rfl ?_ | refine scondF rfl ?_ | refine ocondP rfl (fun h => ?_) (fun h => ?_) | refine ocondB rfl (fun h => ?_) (fun h => ?_) | refine scondP rfl (fun h => ?_) (fun h => ?_) | refine scond rfl (fun h => ?_) (fun h => ?_) | refine oskip ?_ | refine oskipb ?_ | refine oret ?_ | refine sem_ret ?_ | refine sem_seq ?_ | refine sreg1 ?_)))
                · exact ⟨_, rfl, _, rfl, tree_eq rfl (by
                    simp only [getE, selE, Nat.reduceBEq]
                    refine congrArg AV.bool (decide_eq_false (fun hh => ?_)).symm
                    have := (hq hh).2 k hk'
                    rename_i h
                    simp only [Bool.not_eq_true', decide_eq_false_iff_not] at h
                    exact h this)⟩
                · refine onil (lnext (k + 1) ⟨by omega, fun j hj => ?_⟩ (by omega) ?_)
                  · by_cases e : j = k
                    · subst e
                      rename_i h
                      simp only [Bool.not_eq_false', decide_eq_true_eq] at h
                      exact h
                    · exact hall3 j (by omega)
                  · (refine Le.same ?_; simp only [List.forall_mem_cons, List.forall_mem_nil, getE, selE, Nat.reduceBEq, List.not_mem_nil, false_implies, implies_true, and_true, true_and, and_self])
                    simp [CoolTown.cs, CoolTruth.cs, slOf]
              · have hk' : k = t.houses.length := by omega
                subst hk'
                (refine sem_exit ?_; change sem _ _ _ _ _)
                repeat' (first | ((first | refine o1 rfl ?_ | refine o0 rfl ?_); intro k hk; simp (disch := omega) only [ev0, sl_cells, simprocAttr]; refine hk _ _ ?_; clear hk k) | refine ono rfl ?_ | ((first | refine osplitG rfl (fun h => ?_) (fun h => ?_) | refine osplitB rfl (fun h => ?_) (fun h => ?_)) <;> (fail_if_success (simp only [eq_self, reduceCtorEq] at h))) | refine onx ?_ | refine onb ?_ | refine sreg ?_ | refine qT rfl ?_ | refine qF rfl ?_ | refine scondT rfl ?_ | refine scondF rfl ?_ | refine ocondP rfl (fun h => ?_) (fun h => ?_) | refine ocondB rfl (fun h => ?_) (fun h => ?_) | refine scondP rfl (fun h => ?_) (fun h => ?_) | refine scond rfl (fun h => ?_) (fun h => ?_) | refine oskip ?_ | refine oskipb ?_ | refine oret ?_ | refine sem_ret ?_ | refine sem_seq ?_ | refine sreg1 ?_)
                refine onil (lnext (i + 1) ⟨by omega, hstep ⟨hlen, hall3⟩⟩ (by omega) ?_)
                (refine Le.same ?_; simp only [List.forall_mem_cons, List.forall_mem_nil, getE, selE, Nat.reduceBEq, List.not_mem_nil, false_implies, implies_true, and_true, true_and, and_self])
                simp [CoolTown.cs, CoolTruth.cs, slOf]
        · have hi' : i = t.sites.length := by omega
          subst hi'
          (refine sem_exit ?_; change sem _ _ _ _ _)
          repeat' (first | ((first | refine o1 rfl ?_ | refine o0 rfl ?_); intro k hk; simp (disch := omega) only [ev0, sl_cells, simprocAttr]; refine hk _ _ ?_; clear hk k) | refine ono rfl ?_ | ((first | refine osplitG rfl (fun h => ?_) (fun h => ?_) | refine osplitB rfl (fun h => ?_) (fun h => ?_)) <;> (fail_if_success (simp only [eq_self, reduceCtorEq] at h))) | refine onx ?_ | refine onb ?_ | refine sreg ?_ | refine qT rfl ?_ | refine qF rfl ?_ | refine scondT rfl ?_ | refine scondF rfl ?_ | refine ocondP rfl (fun h => ?_) (fun h => ?_) | refine ocondB rfl (fun h => ?_) (fun h => ?_) | refine scondP rfl (fun h => ?_) (fun h => ?_) | refine scond rfl (fun h => ?_) (fun h => ?_) | refine oskip ?_ | refine oskipb ?_ | refine oret ?_ | refine sem_ret ?_ | refine sem_seq ?_ | refine sreg1 ?_)
          rw [decide_eq_true (show truthOk t x from ⟨e1, e2, hall, hall2⟩)]
          exact ⟨_, rfl, _, rfl, tree_eq rfl rfl⟩
end Go.Proofs.Ytnempffajbdneaa

/- Sets in the program: bits, has, list; sums; what is over. -/
set_option linter.unusedVariables false
set_option linter.unusedSimpArgs false
set_option maxRecDepth 8000
set_option maxHeartbeats 2000000
namespace Go.Tk
open Go Go.Av
theorem coolersOk.mem {n : Nat} {l : List Int} (h : coolersOk n l) : ∀ x ∈ l, 0 ≤ x ∧ x < n := all_getD.2 fun i hi => ⟨(h i hi).1.1, by have := (h i hi).1.2; omega⟩
theorem coolersOk.up {n : Nat} {l : List Int} (h : coolersOk n l) : l.Pairwise (· < ·) := up_of_step fun i hi h0 => (h i hi).2 h0
theorem coolersOk.list {n : Nat} (hn : n ≤ 10) {l : List Int} (h : coolersOk n l) : listB (setB l) = l := listB_setB hn h.mem h.up
def sumL : List Int → Int
  | [] => 0
  | x :: l => x + sumL l
theorem sumL_append : ∀ l m : List Int, sumL (l ++ m) = sumL l + sumL m
  | [], m => by simp [sumL]
  | x :: l, m => by simp only [List.cons_append, sumL, sumL_append l m]; omega
theorem sumL_take {l : List Int} {i : Nat} (h : i < l.length) : sumL (l.take (i + 1)) = sumL (l.take i) + l.getD i default := by
  rw [List.take_add_one, List.getElem?_eq_getElem h, sumL_append, getD_lt h]
  simp [sumL]
theorem sumL_bound {c : Int} : ∀ {l : List Int}, (∀ x ∈ l, 0 ≤ x ∧ x ≤ c) → 0 ≤ sumL l ∧ sumL l ≤ c * l.length
  | [], _ => by simp [sumL]
  | x :: l, h => by
    have ih := sumL_bound (l := l) fun y hy => h y (List.mem_cons_of_mem _ hy)
    have hx := h x (List.mem_cons_self)
    simp only [sumL, List.length_cons, Int.natCast_add, Int.mul_add, Int.natCast_one, Int.mul_one]
    omega
end Go.Tk
namespace Go.Proofs.Ytnempffajbdneaa
open Go Go.Av Go.Tk
attribute [local irreducible] Holds sem semL ACalls FnIs
variable {G : World → Prop} (hG : ∀ w w', G w → RowKit.Below w.heap.size w w' → G w')
include hG
theorem cool_set_has (m : Nat) (hm : m < 1024) (i : Nat) (hi : i ≤ 10) : Holds Try.prog G F.cool_set_has [I m, I i] (B (m.testBit i)) := by
  have h := hasN (a := m) (i := i) (by omega) (by omega)
  (refine holds_of_sem hG fn_cool_set_has (by simp) fun w0 S0 hG0 D0 => ?_; unfold c_cool_set_has cval enterEnv; simp only [List.zipIdx_cons, List.zipIdx_nil, List.map_cons, List.map_nil, Nat.zero_add, Nat.reduceAdd])
  repeat' (first | ((first | refine o1 rfl ?_ | refine o0 rfl ?_); intro k hk; simp (disch := omega) only [ev0, sl_cells, simprocAttr]; refine hk _ _ ?_; clear hk k) | refine ono rfl ?_ | ((first | refine osplitG rfl (fun h => ?_) (fun h => ?_) | refine osplitB rfl (fun h => ?_) (fun h => ?_)) <;> (fail_if_success (simp only [eq_self, reduceCtorEq] at h))) | refine onx ?_ | refine onb ?_ | refine sreg ?_ | refine qT rfl ?_ | refine qF rfl ?_ | refine scondT rfl ?_ | refine scondF rfl ?_ | refine ocondP rfl (fun h => ?_) (fun h => ?_) | refine ocondB rfl (fun h => ?_) (fun h => ?_) | refine scondP rfl (fun h => ?_) (fun h => ?_) | refine scond rfl (fun h => ?_) (fun h => ?_) | refine oskip ?_ | refine oskipb ?_ | refine oret ?_ | refine sem_ret ?_ | refine sem_seq ?_ | refine sreg1 ?_)
  exact ⟨_, rfl, _, rfl, tree_eq rfl (by simp only [getE, selE, Nat.reduceBEq]; apply congrArg AV.bool; rw [Bool.eq_iff_iff, decide_eq_true_iff]; exact iff_of_eq h)⟩

theorem cool_sum (l : List Int) (hl : l.length ≤ 1000) (hb : ∀ x ∈ l, 0 ≤ x ∧ x ≤ 1000000) : Holds Try.prog G F.cool_sum [slOf intCs l] (I (sumL l)) := by
  (refine holds_of_sem hG fn_cool_sum (by simp) fun w0 S0 hG0 D0 => ?_; unfold c_cool_sum cval enterEnv; simp only [List.zipIdx_cons, List.zipIdx_nil, List.map_cons, List.map_nil, Nat.zero_add, Nat.reduceAdd])
  repeat' (first | ((first | refine o1 rfl ?_ | refine o0 rfl ?_); intro k hk; simp (disch := omega) only [ev0, sl_cells, simprocAttr, slOf]; refine hk _ _ ?_; clear hk k) | refine ono rfl ?_ | ((first | refine osplitG rfl (fun h => ?_) (fun h => ?_) | refine osplitB rfl (fun h => ?_) (fun h => ?_)) <;> (fail_if_success (simp only [eq_self, reduceCtorEq] at h))) | refine onx ?_ | refine onb ?_ | refine sreg ?_ | refine qT rfl ?_ | refine qF rfl ?_ | refine scondT rfl ?_ | refine scondF rfl ?_ | refine ocondP rfl (fun h => ?_) (fun h => ?_) | refine ocondB rfl (fun h => ?_) (fun h => ?_) | refine scondP rfl (fun h => ?_) (fun h => ?_) | refine scond rfl (fun h => ?_) (fun h => ?_) | refine oskip ?_ | refine oskipb ?_ | refine oret ?_ | refine sem_ret ?_ | refine sem_seq ?_ | refine sreg1 ?_)
  refine sem_block ?_
  
  refine sem_loop (α := Nat) (fun i => ⟨[(3, I (sumL (l.take i))), (6, slOf intCs l), (7, I l.length), (8, I i)], []⟩) (fun i => i ≤ l.length) (fun i => l.length - i) 0 (Nat.zero_le _) ?_ ?_
  · (refine Le.same ?_; simp only [List.forall_mem_cons, List.forall_mem_nil, getE, selE, Nat.reduceBEq, List.not_mem_nil, false_implies, implies_true, and_true, true_and, and_self])
    simp [slOf, sumL]
  · intro i hi
    have hbi := sumL_bound (c := 1000000) (l := l.take i) fun x hx => hb x (List.mem_of_mem_take hx)
    have hli : (l.take i).length ≤ 1000 := by rw [List.length_take]; omega
    repeat' (first | ((first | refine o1 rfl ?_ | refine o0 rfl ?_); intro k hk; simp (disch := omega) only [ev0, sl_cells, simprocAttr, slOf]; refine hk _ _ ?_; clear hk k) | refine ono rfl ?_ | ((first | refine osplitG rfl (fun h => ?_) (fun h => ?_) | refine osplitB rfl (fun h => ?_) (fun h => ?_)) <;> (fail_if_success (simp only [eq_self, reduceCtorEq] at h))) | refine onx ?_ | refine onb ?_ | refine sreg ?_ | refine qT rfl ?_ | refine qF rfl ?_ | refine scondT rfl ?_ | refine scondF rfl ?_ | refine ocondP rfl (fun h => ?_) (fun h => ?_) | refine ocondB rfl (fun h => ?_) (fun h => ?_) | refine scondP rfl (fun h => ?_) (fun h => ?_) | refine scond rfl (fun h => ?_) (fun h => ?_) | refine oskip ?_ | refine oskipb ?_ | refine oret ?_ | refine sem_ret ?_ | refine sem_seq ?_ | refine sreg1 ?_)
    · have hi' : i < l.length := by omega
      have hbx := hb (l.getD i default) (by rw [getD_lt hi']; exact List.getElem_mem _)
      refine sem_block ?_
      repeat' (first | ((first | refine o1 rfl ?_ | refine o0 rfl ?_); intro k hk; simp (disch := omega) only [ev0, sl_cells, simprocAttr, slOf, intCs]; refine hk _ _ ?_; clear hk k) | refine ono rfl ?_ | ((first | refine osplitG rfl (fun h => ?_) (fun h => ?_) | refine osplitB rfl (fun h => ?_) (fun h => ?_)) <;> (fail_if_success (simp only [eq_self, reduceCtorEq] at h))) | refine onx ?_ | refine onb ?_ | refine sreg ?_ | refine qT rfl ?_ | refine qF rfl ?_ | refine scondT rfl ?_ | refine scondF rfl ?_ | refine ocondP rfl (fun h => ?_) (fun h => ?_) | refine ocondB rfl (fun h => ?_) (fun h => ?_) | refine scondP rfl (fun h => ?_) (fun h => ?_) | refine scond rfl (fun h => ?_) (fun h => ?_) | refine oskip ?_ | refine oskipb ?_ | refine oret ?_ | refine sem_ret ?_ | refine sem_seq ?_ | refine sreg1 ?_)
      refine onil (lnext (i + 1) (by omega) (by omega) ?_)
      (refine Le.same ?_; simp only [List.forall_mem_cons, List.forall_mem_nil, getE, selE, Nat.reduceBEq, List.not_mem_nil, false_implies, implies_true, and_true, true_and, and_self])
      rw [sumL_take hi']
      simp [slOf]
    · have hi' : i = l.length := by omega
      subst hi'
      rw [List.take_length]
      (refine sem_exit ?_; change sem _ _ _ _ _)
      repeat' (first | ((first | refine o1 rfl ?_ | refine o0 rfl ?_); intro k hk; simp (disch := omega) only [ev0, sl_cells, simprocAttr]; refine hk _ _ ?_; clear hk k) | refine ono rfl ?_ | ((first | refine osplitG rfl (fun h => ?_) (fun h => ?_) | refine osplitB rfl (fun h => ?_) (fun h => ?_)) <;> (fail_if_success (simp only [eq_self, reduceCtorEq] at h))) | refine onx ?_ | refine onb ?_ | refine sreg ?_ | refine qT rfl ?_ | refine qF rfl ?_ | refine scondT rfl ?_ | refine scondF rfl ?_ | refine ocondP rfl (fun h => ?_) (fun h => ?_) | refine ocondB rfl (fun h => ?_) (fun h => ?_) | refine scondP rfl (fun h => ?_) (fun h => ?_) | refine scond rfl (fun h => ?_) (fun h => ?_) | refine oskip ?_ | refine oskipb ?_ | refine oret ?_ | refine sem_ret ?_ | refine sem_seq ?_ | refine sreg1 ?_)
      exact ⟨_, rfl, _, rfl, tree_eq rfl rfl⟩

theorem cool_bits (t : CoolTown) (hn : t.sites.length ≤ 10) (l : List Int) (hl : l.length ≤ 1000) : Holds Try.prog G F.cool_bits [.agg t.cs, slOf intCs l] (.tup [I (if coolersOk t.sites.length l then (setB l : Int) else 0), B (decide (coolersOk t.sites.length l))]) := by
  have hno : ¬ coolersOk t.sites.length l → (if coolersOk t.sites.length l then (setB l : Int) else 0) = 0 ∧ decide (coolersOk t.sites.length l) = false := fun h => ⟨if_neg h, decide_eq_false h⟩
  (refine holds_of_sem hG fn_cool_bits (by simp) fun w0 S0 hG0 D0 => ?_; unfold c_cool_bits cval enterEnv; simp only [List.zipIdx_cons, List.zipIdx_nil, List.map_cons, List.map_nil, Nat.zero_add, Nat.reduceAdd])
  repeat' (first | ((first | refine o1 rfl ?_ | refine o0 rfl ?_); intro k hk; simp (disch := omega) only [ev0, sl_cells, simprocAttr, slOf]; refine hk _ _ ?_; clear hk k) | refine ono rfl ?_ | ((first | refine osplitG rfl (fun h => ?_) (fun h => ?_) | refine osplitB rfl (fun h => ?_) (fun h => ?_)) <;> (fail_if_success (simp only [eq_self, reduceCtorEq] at h))) | refine onx ?_ | refine onb ?_ | refine sreg ?_ | refine qT rfl ?_ | refine qF rfl ?_ | refine scondT rfl ?_ | refine scondF rfl ?_ | refine ocondP rfl (fun h => ?_) (fun h => ?_) | refine ocondB rfl (fun h => ?_) (fun h => ?_) | refine scondP rfl (fun h => ?_) (fun h => ?_) | refine scond rfl (fun h => ?_) (fun h => ?_) | refine oskip ?_ | refine oskipb ?_ | refine oret ?_ | refine sem_ret ?_ | refine sem_seq ?_ | refine sreg1 ?_)
  refine sem_block ?_
  
  refine sem_loop (α := Nat) (fun i => ⟨[(1, slOf intCs l), (2, .ptr 0 0 2 0 0), (6, I (setB (l.take i))), (9, slOf intCs l), (10, I l.length), (11, I i)], [.row 25 0 2 [t.cs]]⟩) (fun i => i ≤ l.length ∧ ∀ j, j < i → (0 ≤ l.getD j default ∧ l.getD j default ≤ (t.sites.length : Int) - 1) ∧ (0 < j → l.getD (j - 1) default < l.getD j default)) (fun i => l.length - i) 0 ⟨Nat.zero_le _, fun j hj => absurd hj (Nat.not_lt_zero _)⟩ ?_ ?_
  · (refine Le.same ?_; simp only [List.forall_mem_cons, List.forall_mem_nil, getE, selE, Nat.reduceBEq, List.not_mem_nil, false_implies, implies_true, and_true, true_and, and_self])
    simp [slOf, CoolTown.cs, setB]
  · rintro i ⟨hi, hall⟩
    repeat' (first | ((first | refine o1 rfl ?_ | refine o0 rfl ?_); intro k hk; simp (disch := omega) only [ev0, sl_cells, simprocAttr, slOf]; refine hk _ _ ?_; clear hk k) | refine ono rfl ?_ | ((first | refine osplitG rfl (fun h => ?_) (fun h => ?_) | refine osplitB rfl (fun h => ?_) (fun h => ?_)) <;> (fail_if_success (simp only [eq_self, reduceCtorEq] at h))) | refine onx ?_ | refine onb ?_ | refine sreg ?_ | refine qT rfl ?_ | refine qF rfl ?_ | refine scondT rfl ?_ | refine scondF rfl ?_ | refine ocondP rfl (fun h => ?_) (fun h => ?_) | refine ocondB rfl (fun h => ?_) (fun h => ?_) | refine scondP rfl (fun h => ?_) (fun h => ?_) | refine scond rfl (fun h => ?_) (fun h => ?_) | refine oskip ?_ | refine oskipb ?_ | refine oret ?_ | refine sem_ret ?_ | refine sem_seq ?_ | refine sreg1 ?_)
    · have hi' : i < l.length := by omega
      have hi1 : ((i : Int) - 1).toNat = i - 1 := by omega
      have hq := fun (hh : coolersOk t.sites.length l) => hh i hi'
      have hset : setB (l.take i) < 2 ^ 10 := setB_lt (n := 10) fun x hx => by
        obtain ⟨j, hj⟩ := List.getElem?_of_mem hx
        have hjl := (List.getElem?_eq_some_iff.1 hj).1
        rw [List.length_take] at hjl
        rw [List.getElem?_take, if_pos (by omega)] at hj
        have h1 := (hall j (by omega)).1
        rw [getD_lt (by omega), (List.getElem?_eq_some_iff.1 hj).2] at h1
        omega
      have htk := setB_take hi'
      refine sem_block ?_
      generalize hx : l.getD i default = x at *
      by_cases hr : 0 ≤ x ∧ x ≤ (t.sites.length : Int) - 1
      · obtain ⟨n, rfl⟩ := Int.eq_ofNat_of_zero_le hr.1
        have hnn : n ≤ 9 := by omega
        have hp : ∀ n : Nat, n ≤ 9 → 2 ^ n ≤ 512 := by decide
        have h1 := shlN n (by omega)
        have h2 := orN (a := setB (l.take i)) (b := 2 ^ n) (by omega) (by have := hp n hnn; omega)
        have hd : decide (0 ≤ (n : Int) ∧ (n : Int) ≤ (t.sites.length : Int) - 1) = true := decide_eq_true hr
        rw [Int.toNat_natCast] at htk
        repeat' (first | ((first | refine o1 rfl ?_ | refine o0 rfl ?_); intro k hk; simp (disch := omega) only [ev0, sl_cells, simprocAttr, slOf, intCs, CoolTown.cs, hx, hi1, hd, h1, h2]; refine hk _ _ ?_; clear hk k) | refine ono rfl ?_ | (apply ocall; (case he => (simp only [ev0, sl_cells, simprocAttr] <;> rfl)); (case hc => first | exact cool_in hG _ _ _); (case ht => rfl); (case hg => rfl)) | ((first | refine osplitG rfl (fun h => ?_) (fun h => ?_) | refine osplitB rfl (fun h => ?_) (fun h => ?_)) <;> (fail_if_success (simp only [eq_self, reduceCtorEq] at h))) | refine onx ?_ | refine onb ?_ | refine sreg ?_ | refine qT rfl ?_ | refine qF rfl ?_ | refine scondT rfl ?_ | refine scondF rfl ?_ | refine ocondP rfl (fun h => ?_) (fun h => ?_) | refine ocondB rfl (fun h => ?_) (fun h => ?_) | refine scondP rfl (fun h => ?_) (fun h => ?_) | refine scond rfl (fun h => ?_) (fun h => ?_) | refine oskip ?_ | refine oskipb ?_ | refine oret ?_ | refine sem_ret ?_ | refine sem_seq ?_ | refine sreg1 ?_)
        all_goals first
          | exact ⟨_, rfl, _, rfl, tree_eq rfl (by
              have hc : ¬ coolersOk t.sites.length l := fun hh => by
                have := hq hh
                try simp only [Bool.not_eq_true', Bool.not_eq_false', decide_eq_true_eq, decide_eq_false_iff_not] at *
                grind
              rw [(hno hc).1, (hno hc).2]
              simp only [getE, selE, Nat.reduceBEq])⟩
          | (refine onil (lnext (i + 1) ⟨by omega, fun j hj => ?_⟩ (by omega) ?_)
             · by_cases e : j = i
               · subst e
                 try simp only [Bool.not_eq_true', Bool.not_eq_false', decide_eq_true_eq, decide_eq_false_iff_not] at *
                 grind
               · exact hall j (by omega)
             · (refine Le.same ?_; simp only [List.forall_mem_cons, List.forall_mem_nil, getE, selE, Nat.reduceBEq, List.not_mem_nil, false_implies, implies_true, and_true, true_and, and_self])
               rw [htk]
               simp [CoolTown.cs, slOf])
          | trace_state
      · have hc : ¬ coolersOk t.sites.length l := fun hh => hr (hq hh).1
        have hd : decide (0 ≤ x ∧ x ≤ (t.sites.length : Int) - 1) = false := decide_eq_false hr
        rw [(hno hc).1, (hno hc).2]
        repeat' (first | ((first | refine o1 rfl ?_ | refine o0 rfl ?_); intro k hk; simp (disch := omega) only [ev0, sl_cells, simprocAttr, slOf, intCs, CoolTown.cs, hx, hi1, hd]; refine hk _ _ ?_; clear hk k) | refine ono rfl ?_ | (apply ocall; (case he => (simp only [ev0, sl_cells, simprocAttr] <;> rfl)); (case hc => first | exact cool_in hG _ _ _); (case ht => rfl); (case hg => rfl)) | ((first | refine osplitG rfl (fun h => ?_) (fun h => ?_) | refine osplitB rfl (fun h => ?_) (fun h => ?_)) <;> (fail_if_success (simp only [eq_self, reduceCtorEq] at h))) | refine onx ?_ | refine onb ?_ | refine sreg ?_ | refine qT rfl ?_ | refine qF rfl ?_ | refine scondT rfl ?_ | refine scondF rfl ?_ | refine ocondP rfl (fun h => ?_) (fun h => ?_) | refine ocondB rfl (fun h => ?_) (fun h => ?_) | refine scondP rfl (fun h => ?_) (fun h => ?_) | refine scond rfl (fun h => ?_) (fun h => ?_) | refine oskip ?_ | refine oskipb ?_ | refine oret ?_ | refine sem_ret ?_ | refine sem_seq ?_ | refine sreg1 ?_)
        exact ⟨_, rfl, _, rfl, tree_eq rfl rfl⟩
    · have hi' : i = l.length := by omega
      subst hi'
      have hc : coolersOk t.sites.length l := hall
      rw [List.take_length, if_pos hc, decide_eq_true hc]
      (refine sem_exit ?_; change sem _ _ _ _ _)
      repeat' (first | ((first | refine o1 rfl ?_ | refine o0 rfl ?_); intro k hk; simp (disch := omega) only [ev0, sl_cells, simprocAttr]; refine hk _ _ ?_; clear hk k) | refine ono rfl ?_ | ((first | refine osplitG rfl (fun h => ?_) (fun h => ?_) | refine osplitB rfl (fun h => ?_) (fun h => ?_)) <;> (fail_if_success (simp only [eq_self, reduceCtorEq] at h))) | refine onx ?_ | refine onb ?_ | refine sreg ?_ | refine qT rfl ?_ | refine qF rfl ?_ | refine scondT rfl ?_ | refine scondF rfl ?_ | refine ocondP rfl (fun h => ?_) (fun h => ?_) | refine ocondB rfl (fun h => ?_) (fun h => ?_) | refine scondP rfl (fun h => ?_) (fun h => ?_) | refine scond rfl (fun h => ?_) (fun h => ?_) | refine oskip ?_ | refine oskipb ?_ | refine oret ?_ | refine sem_ret ?_ | refine sem_seq ?_ | refine sreg1 ?_)
      exact ⟨_, rfl, _, rfl, tree_eq rfl rfl⟩
end Go.Proofs.Ytnempffajbdneaa

/- Lists that are appended to: the coolers of a set; the reference's. -/
set_option linter.unusedVariables false
set_option linter.unusedSimpArgs false
set_option maxRecDepth 8000
set_option maxHeartbeats 2000000
namespace Go.Tk
open Go Go.Av
def listTo (m i : Nat) : List Int := ((List.range i).filter fun i => m.testBit i).map fun i : Nat => (i : Int)
theorem listTo_len (m i : Nat) : (listTo m i).length ≤ i := by
  unfold listTo
  rw [List.length_map]
  exact Nat.le_trans (List.length_filter_le _ _) (by simp)
theorem listTo_succ (m i : Nat) : listTo m (i + 1) = if m.testBit i = true then listTo m i ++ [(i : Int)] else listTo m i := by
  unfold listTo
  rw [List.range_succ, List.filter_append, List.map_append]
  by_cases h : m.testBit i = true
  · simp [h]
  · simp [h]
end Go.Tk
namespace Go.Proofs.Ytnempffajbdneaa
open Go Go.Av Go.Tk
attribute [local irreducible] Holds sem semL ACalls FnIs
variable {G : World → Prop} (hG : ∀ w w', G w → RowKit.Below w.heap.size w w' → G w')
include hG
theorem cool_set_list (m : Nat) (hm : m < 1024) : Holds Try.prog G F.cool_set_list [I m] (slOf intCs (listB m)) := by
  (refine holds_of_sem hG fn_cool_set_list (by simp) fun w0 S0 hG0 D0 => ?_; unfold c_cool_set_list cval enterEnv; simp only [List.zipIdx_cons, List.zipIdx_nil, List.map_cons, List.map_nil, Nat.zero_add, Nat.reduceAdd])
  repeat' (first | ((first | refine o1 rfl ?_ | refine o0 rfl ?_); intro k hk; simp (disch := omega) only [ev0, sl_cells, simprocAttr, slOf]; refine hk _ _ ?_; clear hk k) | refine ono rfl ?_ | ((first | refine osplitG rfl (fun h => ?_) (fun h => ?_) | refine osplitB rfl (fun h => ?_) (fun h => ?_)) <;> (fail_if_success (simp only [eq_self, reduceCtorEq] at h))) | refine onx ?_ | refine onb ?_ | refine sreg ?_ | refine qT rfl ?_ | refine qF rfl ?_ | refine scondT rfl ?_ | refine scondF rfl ?_ | refine ocondP rfl (fun h => ?_) (fun h => ?_) | refine ocondB rfl (fun h => ?_) (fun h => ?_) | refine scondP rfl (fun h => ?_) (fun h => ?_) | refine scond rfl (fun h => ?_) (fun h => ?_) | refine oskip ?_ | refine oskipb ?_ | refine oret ?_ | refine sem_ret ?_ | refine sem_seq ?_ | refine sreg1 ?_)
  refine sem_block ?_
  (refine sem_ghost 3 3 1 rfl ?_; simp only [List.length_cons, List.length_nil, Nat.reduceAdd, Nat.zero_add, List.cons_append, List.nil_append])
  
  refine sem_loop (α := Nat) (fun i => ⟨[(0, I m), (3, .hsl 0 (listTo m i).length 1 (listTo m i).length), (5, I i)], [.row 3 (listTo m i).length 1 (rowL intCs (listTo m i))]⟩) (fun i => i ≤ 10) (fun i => 10 - i) 0 (Nat.zero_le _) ?_ ?_
  · (refine Le.same ?_; simp only [List.forall_mem_cons, List.forall_mem_nil, getE, selE, Nat.reduceBEq, List.not_mem_nil, false_implies, implies_true, and_true, true_and, and_self])
    simp [listTo]
  · intro i hi
    have hl := listTo_len m i
    have hs := listTo_succ m i
    generalize hL : listTo m i = L at *
    repeat' (first | ((first | refine o1 rfl ?_ | refine o0 rfl ?_); intro k hk; simp (disch := omega) only [ev0, sl_cells, simprocAttr]; refine hk _ _ ?_; clear hk k) | refine ono rfl ?_ | ((first | refine osplitG rfl (fun h => ?_) (fun h => ?_) | refine osplitB rfl (fun h => ?_) (fun h => ?_)) <;> (fail_if_success (simp only [eq_self, reduceCtorEq] at h))) | refine onx ?_ | refine onb ?_ | refine sreg ?_ | refine qT rfl ?_ | refine qF rfl ?_ | refine scondT rfl ?_ | refine scondF rfl ?_ | refine ocondP rfl (fun h => ?_) (fun h => ?_) | refine ocondB rfl (fun h => ?_) (fun h => ?_) | refine scondP rfl (fun h => ?_) (fun h => ?_) | refine scond rfl (fun h => ?_) (fun h => ?_) | refine oskip ?_ | refine oskipb ?_ | refine oret ?_ | refine sem_ret ?_ | refine sem_seq ?_ | refine sreg1 ?_)
    · have hi' : i < 10 := by omega
      refine sem_block ?_
      have e1 := rowL_take (enc := intCs) (l := L)
      repeat' (first | ((first | refine o1 rfl ?_ | refine o0 rfl ?_); intro k hk; simp (disch := omega) only [ev0, sl_cells, simprocAttr]; refine hk _ _ ?_; clear hk k) | refine ono rfl ?_ | (apply ocall; (case he => (simp only [ev0, sl_cells, simprocAttr] <;> rfl)); (case hc => first | exact cool_set_has hG m hm i (by omega)); (case ht => rfl); (case hg => rfl)) | ((first | refine osplitG rfl (fun h => ?_) (fun h => ?_) | refine osplitB rfl (fun h => ?_) (fun h => ?_)) <;> (fail_if_success (simp only [eq_self, reduceCtorEq] at h))) | refine onx ?_ | refine onb ?_ | refine sreg ?_ | refine qT rfl ?_ | refine qF rfl ?_ | refine scondT rfl ?_ | refine scondF rfl ?_ | refine ocondP rfl (fun h => ?_) (fun h => ?_) | refine ocondB rfl (fun h => ?_) (fun h => ?_) | refine scondP rfl (fun h => ?_) (fun h => ?_) | refine scond rfl (fun h => ?_) (fun h => ?_) | refine oskip ?_ | refine oskipb ?_ | refine oret ?_ | refine sem_ret ?_ | refine sem_seq ?_ | refine sreg1 ?_)
      · rw [if_pos h] at hs
        refine onil (lnext (i + 1) (by omega) (by omega) ?_)
        rw [hs, e1, show [[AV.int .i64 (i : Int)]] = [intCs (i : Int)] from rfl, rowL_snoc, List.length_append]
        (refine Le.drop ?_ rfl (by simp) rfl (by simp only [refM, refO, List.all_cons, List.all_nil, Bool.and_true, Bool.true_and, rowL_all (enc := intCs) (fun _ _ => rfl)]; first | done | rfl) ; simp only [List.forall_mem_cons, List.forall_mem_nil, getE, selE, Nat.reduceBEq, List.not_mem_nil, false_implies, implies_true, and_true, true_and, and_self])
        simp
      · rw [if_neg (by rw [h]; simp)] at hs
        refine onil (lnext (i + 1) (by omega) (by omega) ?_)
        rw [hs]
        (refine Le.same ?_; simp only [List.forall_mem_cons, List.forall_mem_nil, getE, selE, Nat.reduceBEq, List.not_mem_nil, false_implies, implies_true, and_true, true_and, and_self])
        simp
    · have hi' : i = 10 := by omega
      subst hi'
      rw [show listB m = L from hL]
      (refine sem_exit ?_; change sem _ _ _ _ _)
      refine sem_frzlist (enc := intCs) 0 rfl (fun _ => rfl) ?_
      simp only [frzE, frzM, frzO, frzA, frzL, List.map_cons, List.map_nil, List.set_cons_zero, List.set_cons_succ, Nat.reduceEqDiff, if_true, if_false, and_self, Nat.le_refl, reduceIte, frz_sl]
      repeat' (first | ((first | refine o1 rfl ?_ | refine o0 rfl ?_); intro k hk; simp (disch := omega) only [ev0, sl_cells, simprocAttr]; refine hk _ _ ?_; clear hk k) | refine ono rfl ?_ | ((first | refine osplitG rfl (fun h => ?_) (fun h => ?_) | refine osplitB rfl (fun h => ?_) (fun h => ?_)) <;> (fail_if_success (simp only [eq_self, reduceCtorEq] at h))) | refine onx ?_ | refine onb ?_ | refine sreg ?_ | refine qT rfl ?_ | refine qF rfl ?_ | refine scondT rfl ?_ | refine scondF rfl ?_ | refine ocondP rfl (fun h => ?_) (fun h => ?_) | refine ocondB rfl (fun h => ?_) (fun h => ?_) | refine scondP rfl (fun h => ?_) (fun h => ?_) | refine scond rfl (fun h => ?_) (fun h => ?_) | refine oskip ?_ | refine oskipb ?_ | refine oret ?_ | refine sem_ret ?_ | refine sem_seq ?_ | refine sreg1 ?_)
      exact ⟨_, rfl, _, rfl, tree_eq rfl rfl⟩

theorem ref03_Same (a b : List Int) (ha : a.length ≤ 1000) (hb : b.length ≤ 1000) : Holds Try.prog G F.ref03_Same [slOf intCs a, slOf intCs b] (B (decide (a = b))) := by
  by_cases hl : a.length = b.length
  · have hl' : ((a.length : Int) = (b.length : Int)) = True := eq_true (by omega)
    (refine holds_of_sem hG fn_ref03_Same (by simp) fun w0 S0 hG0 D0 => ?_; unfold c_ref03_Same cval enterEnv; simp only [List.zipIdx_cons, List.zipIdx_nil, List.map_cons, List.map_nil, Nat.zero_add, Nat.reduceAdd])
    repeat' (first | ((first | refine o1 rfl ?_ | refine o0 rfl ?_); intro k hk; simp (disch := omega) only [ev0, sl_cells, simprocAttr, slOf, hl']; refine hk _ _ ?_; clear hk k) | refine ono rfl ?_ | ((first | refine osplitG rfl (fun h => ?_) (fun h => ?_) | refine osplitB rfl (fun h => ?_) (fun h => ?_)) <;> (fail_if_success (simp only [eq_self, reduceCtorEq] at h))) | refine onx ?_ | refine onb ?_ | refine sreg ?_ | refine qT rfl ?_ | refine qF rfl ?_ | refine scondT rfl ?_ | refine scondF rfl ?_ | refine ocondP rfl (fun h => ?_) (fun h => ?_) | refine ocondB rfl (fun h => ?_) (fun h => ?_) | refine scondP rfl (fun h => ?_) (fun h => ?_) | refine scond rfl (fun h => ?_) (fun h => ?_) | refine oskip ?_ | refine oskipb ?_ | refine oret ?_ | refine sem_ret ?_ | refine sem_seq ?_ | refine sreg1 ?_)
    refine sem_block ?_
    
    refine sem_loop (α := Nat) (fun t => ⟨[(0, slOf intCs a), (1, slOf intCs b), (5, I t)], []⟩) (fun t => t ≤ a.length ∧ ∀ j, j < t → a.getD j default = b.getD j default) (fun t => a.length - t) 0 ⟨Nat.zero_le _, fun j hj => absurd hj (Nat.not_lt_zero _)⟩ ?_ ?_
    · (refine Le.same ?_; simp only [List.forall_mem_cons, List.forall_mem_nil, getE, selE, Nat.reduceBEq, List.not_mem_nil, false_implies, implies_true, and_true, true_and, and_self])
      simp [slOf]
    · rintro t ⟨h1, hall⟩
      repeat' (first | ((first | refine o1 rfl ?_ | refine o0 rfl ?_); intro k hk; simp (disch := omega) only [ev0, sl_cells, simprocAttr, slOf]; refine hk _ _ ?_; clear hk k) | refine ono rfl ?_ | ((first | refine osplitG rfl (fun h => ?_) (fun h => ?_) | refine osplitB rfl (fun h => ?_) (fun h => ?_)) <;> (fail_if_success (simp only [eq_self, reduceCtorEq] at h))) | refine onx ?_ | refine onb ?_ | refine sreg ?_ | refine qT rfl ?_ | refine qF rfl ?_ | refine scondT rfl ?_ | refine scondF rfl ?_ | refine ocondP rfl (fun h => ?_) (fun h => ?_) | refine ocondB rfl (fun h => ?_) (fun h => ?_) | refine scondP rfl (fun h => ?_) (fun h => ?_) | refine scond rfl (fun h => ?_) (fun h => ?_) | refine oskip ?_ | refine oskipb ?_ | refine oret ?_ | refine sem_ret ?_ | refine sem_seq ?_ | refine sreg1 ?_)
      · have ht' : t < a.length := by omega
        have ht2 : t < b.length := by omega
        refine sem_block ?_
        by_cases e : a.getD t default = b.getD t default
        · repeat' (first | ((first | refine o1 rfl ?_ | refine o0 rfl ?_); intro k hk; simp (disch := omega) only [ev0, sl_cells, simprocAttr]; refine hk _ _ ?_; clear hk k) | refine ono rfl ?_ | ((first | refine osplitG rfl (fun h => ?_) (fun h => ?_) | refine osplitB rfl (fun h => ?_) (fun h => ?_)) <;> (fail_if_success (simp only [eq_self, reduceCtorEq] at h))) | refine onx ?_ | refine onb ?_ | refine sreg ?_ | refine qT rfl ?_ | refine qF rfl ?_ | refine scondT rfl ?_ | refine scondF rfl ?_ | refine ocondP rfl (fun h => ?_) (fun h => ?_) | refine ocondB rfl (fun h => ?_) (fun h => ?_) | refine scondP rfl (fun h => ?_) (fun h => ?_) | refine scond rfl (fun h => ?_) (fun h => ?_) | refine oskip ?_ | refine oskipb ?_ | refine oret ?_ | refine sem_ret ?_ | refine sem_seq ?_ | refine sreg1 ?_)
          ((refine sem_mgo 8 hmix (by kernel_rfl) ?_; simp only [List.take_succ_cons, List.take_zero, List.drop_succ_cons, List.drop_zero, List.take_nil, List.drop_nil]); (repeat' (first | ((first | apply mop | apply mop0); (case hg => rfl); (case hq => rfl); intro k hk; simp (disch := omega) only [ev0, sl_cells, simprocAttr, slOf, intCs, e, eq_self]; refine hk _ _ rfl ?_; clear hk k) | (apply mno; (case hg => rfl)) | (apply mbox; (case hx => (simp only [wv, simprocAttr] <;> rfl)); (case hg => rfl); (case hall => rfl); (case hr => rfl); simp only [cellsOf, List.length_cons, List.length_nil, Nat.reduceAdd, Nat.zero_add, List.nil_append, List.cons_append, List.set_cons_zero, List.set_cons_succ, chunks, List.take_succ_cons, List.take_zero, List.drop_succ_cons, List.drop_zero]) | (apply mbldS; (case hb => (simp (disch := omega) only [ev0, sl_cells, simprocAttr] <;> rfl)); (case hg => rfl); (case hr => rfl); simp only [cellsOf, List.length_cons, List.length_nil, Nat.reduceAdd, Nat.zero_add, List.nil_append, List.cons_append, List.set_cons_zero, List.set_cons_succ, chunks, List.take_succ_cons, List.take_zero, List.drop_succ_cons, List.drop_zero]) | ((first | (apply msto (q := 0); (case hq => rfl)) | (apply msto (q := 1); (case hq => rfl)) | (apply msto (q := 2); (case hq => rfl)) | (apply msto (q := 3); (case hq => rfl))); (case hx => (simp only [wv, simprocAttr] <;> rfl)); (case haddr => (simp only [wv, simprocAttr] <;> rfl)); (case hg => rfl); (case hl1 => rfl); (case hl2 => rfl); (case hok => rfl); (case hr => rfl); simp only [cellsOf, List.length_cons, List.length_nil, Nat.reduceAdd, Nat.zero_add, List.nil_append, List.cons_append, List.set_cons_zero, List.set_cons_succ, chunks, List.take_succ_cons, List.take_zero, List.drop_succ_cons, List.drop_zero]) | (apply mnil; simp only [SlotR.fin, List.map_cons, List.map_nil, List.cons_append, List.nil_append, List.append_nil]) | (refine msplit rfl (fun h => ?_) (fun h => ?_) <;> simp only [h] <;> (try simp only [Bool.not_eq_true', Bool.not_eq_false', decide_eq_true_eq, decide_eq_false_iff_not] at h)))) <;> (repeat' (first | ((first | refine o1 rfl ?_ | refine o0 rfl ?_); intro k hk; simp (disch := omega) only [ev0, sl_cells, simprocAttr, slOf, intCs, e, eq_self]; refine hk _ _ ?_; clear hk k) | refine ono rfl ?_ | ((first | refine osplitG rfl (fun h => ?_) (fun h => ?_) | refine osplitB rfl (fun h => ?_) (fun h => ?_)) <;> (fail_if_success (simp only [eq_self, reduceCtorEq] at h))) | refine onx ?_ | refine onb ?_ | refine sreg ?_ | refine qT rfl ?_ | refine qF rfl ?_ | refine scondT rfl ?_ | refine scondF rfl ?_ | refine ocondP rfl (fun h => ?_) (fun h => ?_) | refine ocondB rfl (fun h => ?_) (fun h => ?_) | refine scondP rfl (fun h => ?_) (fun h => ?_) | refine scond rfl (fun h => ?_) (fun h => ?_) | refine oskip ?_ | refine oskipb ?_ | refine oret ?_ | refine sem_ret ?_ | refine sem_seq ?_ | refine sreg1 ?_)))
          refine onil (lnext (t + 1) ⟨by omega, fun j hj => ?_⟩ (by omega) ?_)
          · by_cases ej : j = t
            · subst ej; exact e
            · exact hall j (by omega)
          · (refine Le.same ?_; simp only [List.forall_mem_cons, List.forall_mem_nil, getE, selE, Nat.reduceBEq, List.not_mem_nil, false_implies, implies_true, and_true, true_and, and_self])
            simp [slOf]
        · repeat' (first | ((first | refine o1 rfl ?_ | refine o0 rfl ?_); intro k hk; simp (disch := omega) only [ev0, sl_cells, simprocAttr]; refine hk _ _ ?_; clear hk k) | refine ono rfl ?_ | ((first | refine osplitG rfl (fun h => ?_) (fun h => ?_) | refine osplitB rfl (fun h => ?_) (fun h => ?_)) <;> (fail_if_success (simp only [eq_self, reduceCtorEq] at h))) | refine onx ?_ | refine onb ?_ | refine sreg ?_ | refine qT rfl ?_ | refine qF rfl ?_ | refine scondT rfl ?_ | refine scondF rfl ?_ | refine ocondP rfl (fun h => ?_) (fun h => ?_) | refine ocondB rfl (fun h => ?_) (fun h => ?_) | refine scondP rfl (fun h => ?_) (fun h => ?_) | refine scond rfl (fun h => ?_) (fun h => ?_) | refine oskip ?_ | refine oskipb ?_ | refine oret ?_ | refine sem_ret ?_ | refine sem_seq ?_ | refine sreg1 ?_)
          ((refine sem_mgo 8 hmix (by kernel_rfl) ?_; simp only [List.take_succ_cons, List.take_zero, List.drop_succ_cons, List.drop_zero, List.take_nil, List.drop_nil]); (repeat' (first | ((first | apply mop | apply mop0); (case hg => rfl); (case hq => rfl); intro k hk; simp (disch := omega) only [ev0, sl_cells, simprocAttr, slOf, intCs, e]; refine hk _ _ rfl ?_; clear hk k) | (apply mno; (case hg => rfl)) | (apply mbox; (case hx => (simp only [wv, simprocAttr] <;> rfl)); (case hg => rfl); (case hall => rfl); (case hr => rfl); simp only [cellsOf, List.length_cons, List.length_nil, Nat.reduceAdd, Nat.zero_add, List.nil_append, List.cons_append, List.set_cons_zero, List.set_cons_succ, chunks, List.take_succ_cons, List.take_zero, List.drop_succ_cons, List.drop_zero]) | (apply mbldS; (case hb => (simp (disch := omega) only [ev0, sl_cells, simprocAttr] <;> rfl)); (case hg => rfl); (case hr => rfl); simp only [cellsOf, List.length_cons, List.length_nil, Nat.reduceAdd, Nat.zero_add, List.nil_append, List.cons_append, List.set_cons_zero, List.set_cons_succ, chunks, List.take_succ_cons, List.take_zero, List.drop_succ_cons, List.drop_zero]) | ((first | (apply msto (q := 0); (case hq => rfl)) | (apply msto (q := 1); (case hq => rfl)) | (apply msto (q := 2); (case hq => rfl)) | (apply msto (q := 3); (case hq => rfl))); (case hx => (simp only [wv, simprocAttr] <;> rfl)); (case haddr => (simp only [wv, simprocAttr] <;> rfl)); (case hg => rfl); (case hl1 => rfl); (case hl2 => rfl); (case hok => rfl); (case hr => rfl); simp only [cellsOf, List.length_cons, List.length_nil, Nat.reduceAdd, Nat.zero_add, List.nil_append, List.cons_append, List.set_cons_zero, List.set_cons_succ, chunks, List.take_succ_cons, List.take_zero, List.drop_succ_cons, List.drop_zero]) | (apply mnil; simp only [SlotR.fin, List.map_cons, List.map_nil, List.cons_append, List.nil_append, List.append_nil]) | (refine msplit rfl (fun h => ?_) (fun h => ?_) <;> simp only [h] <;> (try simp only [Bool.not_eq_true', Bool.not_eq_false', decide_eq_true_eq, decide_eq_false_iff_not] at h)))) <;> (repeat' (first | ((first | refine o1 rfl ?_ | refine o0 rfl ?_); intro k hk; simp (disch := omega) only [ev0, sl_cells, simprocAttr, slOf, intCs, e]; refine hk _ _ ?_; clear hk k) | refine ono rfl ?_ | ((first | refine osplitG rfl (fun h => ?_) (fun h => ?_) | refine osplitB rfl (fun h => ?_) (fun h => ?_)) <;> (fail_if_success (simp only [eq_self, reduceCtorEq] at h))) | refine onx ?_ | refine onb ?_ | refine sreg ?_ | refine qT rfl ?_ | refine qF rfl ?_ | refine scondT rfl ?_ | refine scondF rfl ?_ | refine ocondP rfl (fun h => ?_) (fun h => ?_) | refine ocondB rfl (fun h => ?_) (fun h => ?_) | refine scondP rfl (fun h => ?_) (fun h => ?_) | refine scond rfl (fun h => ?_) (fun h => ?_) | refine oskip ?_ | refine oskipb ?_ | refine oret ?_ | refine sem_ret ?_ | refine sem_seq ?_ | refine sreg1 ?_)))
          rw [decide_eq_false (show ¬ a = b from fun hh => e (by rw [hh]))]
          exact ⟨_, rfl, _, rfl, tree_eq rfl rfl⟩
      · have ht' : t = a.length := by omega
        subst ht'
        have hab : a = b := by
          apply List.ext_getElem hl
          intro i h1 h2
          have := hall i h1
          rw [getD_lt h1, getD_lt h2] at this
          exact this
        (refine sem_exit ?_; change sem _ _ _ _ _)
        repeat' (first | ((first | refine o1 rfl ?_ | refine o0 rfl ?_); intro k hk; simp (disch := omega) only [ev0, sl_cells, simprocAttr]; refine hk _ _ ?_; clear hk k) | refine ono rfl ?_ | ((first | refine osplitG rfl (fun h => ?_) (fun h => ?_) | refine osplitB rfl (fun h => ?_) (fun h => ?_)) <;> (fail_if_success (simp only [eq_self, reduceCtorEq] at h))) | refine onx ?_ | refine onb ?_ | refine sreg ?_ | refine qT rfl ?_ | refine qF rfl ?_ | refine scondT rfl ?_ | refine scondF rfl ?_ | refine ocondP rfl (fun h => ?_) (fun h => ?_) | refine ocondB rfl (fun h => ?_) (fun h => ?_) | refine scondP rfl (fun h => ?_) (fun h => ?_) | refine scond rfl (fun h => ?_) (fun h => ?_) | refine oskip ?_ | refine oskipb ?_ | refine oret ?_ | refine sem_ret ?_ | refine sem_seq ?_ | refine sreg1 ?_)
        rw [decide_eq_true hab]
        exact ⟨_, rfl, _, rfl, tree_eq rfl rfl⟩
  · have hl' : ((a.length : Int) = (b.length : Int)) = False := eq_false (by omega)
    rw [decide_eq_false (show ¬ a = b from fun hh => hl (by rw [hh]))]
    (refine holds_of_sem hG fn_ref03_Same (by simp) fun w0 S0 hG0 D0 => ?_; unfold c_ref03_Same cval enterEnv; simp only [List.zipIdx_cons, List.zipIdx_nil, List.map_cons, List.map_nil, Nat.zero_add, Nat.reduceAdd])
    repeat' (first | ((first | refine o1 rfl ?_ | refine o0 rfl ?_); intro k hk; simp (disch := omega) only [ev0, sl_cells, simprocAttr, slOf, hl']; refine hk _ _ ?_; clear hk k) | refine ono rfl ?_ | ((first | refine osplitG rfl (fun h => ?_) (fun h => ?_) | refine osplitB rfl (fun h => ?_) (fun h => ?_)) <;> (fail_if_success (simp only [eq_self, reduceCtorEq] at h))) | refine onx ?_ | refine onb ?_ | refine sreg ?_ | refine qT rfl ?_ | refine qF rfl ?_ | refine scondT rfl ?_ | refine scondF rfl ?_ | refine ocondP rfl (fun h => ?_) (fun h => ?_) | refine ocondB rfl (fun h => ?_) (fun h => ?_) | refine scondP rfl (fun h => ?_) (fun h => ?_) | refine scond rfl (fun h => ?_) (fun h => ?_) | refine oskip ?_ | refine oskipb ?_ | refine oret ?_ | refine sem_ret ?_ | refine sem_seq ?_ | refine sreg1 ?_)
    exact ⟨_, rfl, _, rfl, tree_eq rfl rfl⟩

theorem ref03_Has (a : List Int) (x : Int) (ha : a.length ≤ 1000) : Holds Try.prog G F.ref03_Has [slOf intCs a, I x] (B (decide (x ∈ a))) := by
  (refine holds_of_sem hG fn_ref03_Has (by simp) fun w0 S0 hG0 D0 => ?_; unfold c_ref03_Has cval enterEnv; simp only [List.zipIdx_cons, List.zipIdx_nil, List.map_cons, List.map_nil, Nat.zero_add, Nat.reduceAdd])
  repeat' (first | ((first | refine o1 rfl ?_ | refine o0 rfl ?_); intro k hk; simp (disch := omega) only [ev0, sl_cells, simprocAttr]; refine hk _ _ ?_; clear hk k) | refine ono rfl ?_ | ((first | refine osplitG rfl (fun h => ?_) (fun h => ?_) | refine osplitB rfl (fun h => ?_) (fun h => ?_)) <;> (fail_if_success (simp only [eq_self, reduceCtorEq] at h))) | refine onx ?_ | refine onb ?_ | refine sreg ?_ | refine qT rfl ?_ | refine qF rfl ?_ | refine scondT rfl ?_ | refine scondF rfl ?_ | refine ocondP rfl (fun h => ?_) (fun h => ?_) | refine ocondB rfl (fun h => ?_) (fun h => ?_) | refine scondP rfl (fun h => ?_) (fun h => ?_) | refine scond rfl (fun h => ?_) (fun h => ?_) | refine oskip ?_ | refine oskipb ?_ | refine oret ?_ | refine sem_ret ?_ | refine sem_seq ?_ | refine sreg1 ?_)
  refine sem_block ?_
  
  refine sem_loop (α := Nat) (fun t => ⟨[(0, slOf intCs a), (1, I x), (5, I t)], []⟩) (fun t => t ≤ a.length ∧ ∀ j, j < t → a.getD j default ≠ x) (fun t => a.length - t) 0 ⟨Nat.zero_le _, fun j hj => absurd hj (Nat.not_lt_zero _)⟩ ?_ ?_
  · (refine Le.same ?_; simp only [List.forall_mem_cons, List.forall_mem_nil, getE, selE, Nat.reduceBEq, List.not_mem_nil, false_implies, implies_true, and_true, true_and, and_self])
    simp [slOf]
  · rintro t ⟨h1, hall⟩
    repeat' (first | ((first | refine o1 rfl ?_ | refine o0 rfl ?_); intro k hk; simp (disch := omega) only [ev0, sl_cells, simprocAttr, slOf]; refine hk _ _ ?_; clear hk k) | refine ono rfl ?_ | ((first | refine osplitG rfl (fun h => ?_) (fun h => ?_) | refine osplitB rfl (fun h => ?_) (fun h => ?_)) <;> (fail_if_success (simp only [eq_self, reduceCtorEq] at h))) | refine onx ?_ | refine onb ?_ | refine sreg ?_ | refine qT rfl ?_ | refine qF rfl ?_ | refine scondT rfl ?_ | refine scondF rfl ?_ | refine ocondP rfl (fun h => ?_) (fun h => ?_) | refine ocondB rfl (fun h => ?_) (fun h => ?_) | refine scondP rfl (fun h => ?_) (fun h => ?_) | refine scond rfl (fun h => ?_) (fun h => ?_) | refine oskip ?_ | refine oskipb ?_ | refine oret ?_ | refine sem_ret ?_ | refine sem_seq ?_ | refine sreg1 ?_)
    · have ht' : t < a.length := by omega
      refine sem_block ?_
      by_cases e : a.getD t default = x
      · repeat' (first | ((first | refine o1 rfl ?_ | refine o0 rfl ?_); intro k hk; simp (disch := omega) only [ev0, sl_cells, simprocAttr, slOf, intCs, e, eq_self]; refine hk _ _ ?_; clear hk k) | refine ono rfl ?_ | ((first | refine osplitG rfl (fun h => ?_) (fun h => ?_) | refine osplitB rfl (fun h => ?_) (fun h => ?_)) <;> (fail_if_success (simp only [eq_self, reduceCtorEq] at h))) | refine onx ?_ | refine onb ?_ | refine sreg ?_ | refine qT rfl ?_ | refine qF rfl ?_ | refine scondT rfl ?_ | refine scondF rfl ?_ | refine ocondP rfl (fun h => ?_) (fun h => ?_) | refine ocondB rfl (fun h => ?_) (fun h => ?_) | refine scondP rfl (fun h => ?_) (fun h => ?_) | refine scond rfl (fun h => ?_) (fun h => ?_) | refine oskip ?_ | refine oskipb ?_ | refine oret ?_ | refine sem_ret ?_ | refine sem_seq ?_ | refine sreg1 ?_)
        rw [decide_eq_true (show x ∈ a by rw [← e, getD_lt ht']; exact List.getElem_mem _)]
        exact ⟨_, rfl, _, rfl, tree_eq rfl rfl⟩
      · repeat' (first | ((first | refine o1 rfl ?_ | refine o0 rfl ?_); intro k hk; simp (disch := omega) only [ev0, sl_cells, simprocAttr, slOf, intCs, e]; refine hk _ _ ?_; clear hk k) | refine ono rfl ?_ | ((first | refine osplitG rfl (fun h => ?_) (fun h => ?_) | refine osplitB rfl (fun h => ?_) (fun h => ?_)) <;> (fail_if_success (simp only [eq_self, reduceCtorEq] at h))) | refine onx ?_ | refine onb ?_ | refine sreg ?_ | refine qT rfl ?_ | refine qF rfl ?_ | refine scondT rfl ?_ | refine scondF rfl ?_ | refine ocondP rfl (fun h => ?_) (fun h => ?_) | refine ocondB rfl (fun h => ?_) (fun h => ?_) | refine scondP rfl (fun h => ?_) (fun h => ?_) | refine scond rfl (fun h => ?_) (fun h => ?_) | refine oskip ?_ | refine oskipb ?_ | refine oret ?_ | refine sem_ret ?_ | refine sem_seq ?_ | refine sreg1 ?_)
        refine onil (lnext (t + 1) ⟨by omega, fun j hj => ?_⟩ (by omega) ?_)
        · by_cases ej : j = t
          · subst ej; exact e
          · exact hall j (by omega)
        · (refine Le.same ?_; simp only [List.forall_mem_cons, List.forall_mem_nil, getE, selE, Nat.reduceBEq, List.not_mem_nil, false_implies, implies_true, and_true, true_and, and_self])
          simp [slOf]
    · have ht' : t = a.length := by omega
      subst ht'
      have hx : ¬ x ∈ a := fun hx => by
        obtain ⟨i, hi⟩ := List.getElem?_of_mem hx
        have hlt := (List.getElem?_eq_some_iff.1 hi).1
        have := hall i hlt
        rw [getD_lt hlt, (List.getElem?_eq_some_iff.1 hi).2] at this
        exact this rfl
      (refine sem_exit ?_; change sem _ _ _ _ _)
      repeat' (first | ((first | refine o1 rfl ?_ | refine o0 rfl ?_); intro k hk; simp (disch := omega) only [ev0, sl_cells, simprocAttr]; refine hk _ _ ?_; clear hk k) | refine ono rfl ?_ | ((first | refine osplitG rfl (fun h => ?_) (fun h => ?_) | refine osplitB rfl (fun h => ?_) (fun h => ?_)) <;> (fail_if_success (simp only [eq_self, reduceCtorEq] at h))) | refine onx ?_ | refine onb ?_ | refine sreg ?_ | refine qT rfl ?_ | refine qF rfl ?_ | refine scondT rfl ?_ | refine scondF rfl ?_ | refine ocondP rfl (fun h => ?_) (fun h => ?_) | refine ocondB rfl (fun h => ?_) (fun h => ?_) | refine scondP rfl (fun h => ?_) (fun h => ?_) | refine scond rfl (fun h => ?_) (fun h => ?_) | refine oskip ?_ | refine oskipb ?_ | refine oret ?_ | refine sem_ret ?_ | refine sem_seq ?_ | refine sreg1 ?_)
      rw [decide_eq_false hx]
      exact ⟨_, rfl, _, rfl, tree_eq rfl rfl⟩
end Go.Proofs.Ytnempffajbdneaa

/- The reference: what is over, what is without, sites, cost, which comes before. -/
set_option linter.unusedVariables false
set_option linter.unusedSimpArgs false
set_option maxRecDepth 8000
set_option maxHeartbeats 2000000
namespace Go.Tk
open Go Go.Av
/-- A truth's numbers are small, and as many as the town's. -/
structure truthB (t : CoolTown) (x : CoolTruth) : Prop where
  nl : x.needs.length = t.houses.length
  nb : ∀ v ∈ x.needs, 0 ≤ v ∧ v ≤ 1000000
  gl : x.gives.length = t.sites.length
  g : ∀ l ∈ x.gives, l.length = t.houses.length ∧ ∀ v ∈ l, 0 ≤ v ∧ v ≤ 1000000
def giveOf (x : CoolTruth) (h : Nat) (i : Int) : Int := (x.gives.getD i.toNat default).getD h default
def over1 (x : CoolTruth) (w : List Int) (h : Nat) : Int := -(x.needs.getD h default) + sumL (w.map (giveOf x h))
def overL (n : Nat) (x : CoolTruth) (w : List Int) : List Int := (List.range n).map (over1 x w)
def withoutL (l failed : List Int) : List Int := l.filter fun x => !decide (x ∈ failed)
def before : List Int → List Int → Bool
  | a :: l, b :: m => if a = b then before l m else decide (a < b)
  | _, _ => false
theorem overL_succ (n : Nat) (x : CoolTruth) (w : List Int) : overL (n + 1) x w = overL n x w ++ [over1 x w n] := by simp [overL, List.range_succ]
theorem overL_len (n : Nat) (x : CoolTruth) (w : List Int) : (overL n x w).length = n := by simp [overL]
theorem giveOf_bound {t : CoolTown} {x : CoolTruth} (hx : truthB t x) {h : Nat} (hh : h < t.houses.length) {i : Int} (hi : 0 ≤ i ∧ i < t.sites.length) : 0 ≤ giveOf x h i ∧ giveOf x h i ≤ 1000000 := by
  have hl : i.toNat < x.gives.length := by rw [hx.gl]; omega
  obtain ⟨g1, g2⟩ := hx.g _ (List.getElem_mem hl)
  unfold giveOf
  rw [getD_lt hl, getD_lt (by omega)]
  exact g2 _ (List.getElem_mem _)
theorem map_take_getD {α β : Type} [Inhabited α] (f : α → β) {l : List α} {i : Nat} (h : i < l.length) : (l.take (i + 1)).map f = (l.take i).map f ++ [f (l.getD i default)] := by
  rw [List.take_add_one, List.getElem?_eq_getElem h, List.map_append, getD_lt h]
  rfl
end Go.Tk
namespace Go.Proofs.Ytnempffajbdneaa
open Go Go.Av Go.Tk
attribute [local irreducible] Holds sem semL ACalls FnIs
variable {G : World → Prop} (hG : ∀ w w', G w → RowKit.Below w.heap.size w w' → G w')
include hG
theorem ref03_Over (t : CoolTown) (x : CoolTruth) (hx : truthB t x) (hn : t.houses.length ≤ 1000) (w : List Int) (hw : w.length ≤ 1000) (hwb : ∀ i ∈ w, 0 ≤ i ∧ i < t.sites.length) :
    Holds Try.prog G F.ref03_Over [.agg t.cs, slOf intCs w, .agg x.cs] (slOf intCs (overL t.houses.length x w)) := by
  (refine holds_of_sem hG fn_ref03_Over (by simp) fun w0 S0 hG0 D0 => ?_; unfold c_ref03_Over cval enterEnv; simp only [List.zipIdx_cons, List.zipIdx_nil, List.map_cons, List.map_nil, Nat.zero_add, Nat.reduceAdd])
  repeat' (first | ((first | refine o1 rfl ?_ | refine o0 rfl ?_); intro k hk; simp (disch := omega) only [ev0, sl_cells, simprocAttr]; refine hk _ _ ?_; clear hk k) | refine ono rfl ?_ | ((first | refine osplitG rfl (fun h => ?_) (fun h => ?_) | refine osplitB rfl (fun h => ?_) (fun h => ?_)) <;> (fail_if_success (simp only [eq_self, reduceCtorEq] at h))) | refine onx ?_ | refine onb ?_ | refine sreg ?_ | refine qT rfl ?_ | refine qF rfl ?_ | refine scondT rfl ?_ | refine scondF rfl ?_ | refine ocondP rfl (fun h => ?_) (fun h => ?_) | refine ocondB rfl (fun h => ?_) (fun h => ?_) | refine scondP rfl (fun h => ?_) (fun h => ?_) | refine scond rfl (fun h => ?_) (fun h => ?_) | refine oskip ?_ | refine oskipb ?_ | refine oret ?_ | refine sem_ret ?_ | refine sem_seq ?_ | refine sreg1 ?_)
  refine sem_block ?_
  (refine sem_ghost 7 3 1 rfl ?_; simp only [List.length_cons, List.length_nil, Nat.reduceAdd, Nat.zero_add, List.cons_append, List.nil_append])
  
  refine sem_loop (α := Nat) (fun y => ⟨[(1, slOf intCs w), (3, .ptr 0 0 2 0 0), (5, .ptr 1 0 2 0 0), (7, .hsl 2 (overL y x w).length 1 (overL y x w).length), (8, I y)], [.row 25 0 2 [t.cs], .row 53 0 2 [x.cs], .row 3 (overL y x w).length 1 (rowL intCs (overL y x w))]⟩) (fun y => y ≤ t.houses.length) (fun y => t.houses.length - y) 0 (Nat.zero_le _) ?_ ?_
  · (refine Le.same ?_; simp only [List.forall_mem_cons, List.forall_mem_nil, getE, selE, Nat.reduceBEq, List.not_mem_nil, false_implies, implies_true, and_true, true_and, and_self])
    simp [overL, slOf, CoolTown.cs, CoolTruth.cs]
  · intro y hh
    have hlen := overL_len y x w
    have hsu := overL_succ y x w
    generalize hL : overL y x w = L at *
    repeat' (first | ((first | refine o1 rfl ?_ | refine o0 rfl ?_); intro k hk; simp (disch := omega) only [ev0, sl_cells, simprocAttr, CoolTown.cs, slOf]; refine hk _ _ ?_; clear hk k) | refine ono rfl ?_ | ((first | refine osplitG rfl (fun h => ?_) (fun h => ?_) | refine osplitB rfl (fun h => ?_) (fun h => ?_)) <;> (fail_if_success (simp only [eq_self, reduceCtorEq] at h))) | refine onx ?_ | refine onb ?_ | refine sreg ?_ | refine qT rfl ?_ | refine qF rfl ?_ | refine scondT rfl ?_ | refine scondF rfl ?_ | refine ocondP rfl (fun h => ?_) (fun h => ?_) | refine ocondB rfl (fun h => ?_) (fun h => ?_) | refine scondP rfl (fun h => ?_) (fun h => ?_) | refine scond rfl (fun h => ?_) (fun h => ?_) | refine oskip ?_ | refine oskipb ?_ | refine oret ?_ | refine sem_ret ?_ | refine sem_seq ?_ | refine sreg1 ?_)
    · have hh' : y < t.houses.length := by omega
      have hh2 : y < x.needs.length := by rw [hx.nl]; exact hh'
      have hnb := hx.nb (x.needs.getD y default) (by rw [getD_lt hh2]; exact List.getElem_mem _)
      refine sem_block ?_
      repeat' (first | ((first | refine o1 rfl ?_ | refine o0 rfl ?_); intro k hk; simp (disch := omega) only [ev0, sl_cells, simprocAttr, CoolTruth.cs, slOf, intCs]; refine hk _ _ ?_; clear hk k) | refine ono rfl ?_ | ((first | refine osplitG rfl (fun h => ?_) (fun h => ?_) | refine osplitB rfl (fun h => ?_) (fun h => ?_)) <;> (fail_if_success (simp only [eq_self, reduceCtorEq] at h))) | refine onx ?_ | refine onb ?_ | refine sreg ?_ | refine qT rfl ?_ | refine qF rfl ?_ | refine scondT rfl ?_ | refine scondF rfl ?_ | refine ocondP rfl (fun h => ?_) (fun h => ?_) | refine ocondB rfl (fun h => ?_) (fun h => ?_) | refine scondP rfl (fun h => ?_) (fun h => ?_) | refine scond rfl (fun h => ?_) (fun h => ?_) | refine oskip ?_ | refine oskipb ?_ | refine oret ?_ | refine sem_ret ?_ | refine sem_seq ?_ | refine sreg1 ?_)
      refine sem_block ?_
      
      refine sem_loop (α := Nat) (fun i => ⟨[(1, slOf intCs w), (3, .ptr 0 0 2 0 0), (5, .ptr 1 0 2 0 0), (7, .hsl 2 L.length 1 L.length), (8, I y), (9, I (-(x.needs.getD y default) + sumL ((w.take i).map (giveOf x y)))), (10, I i)], [.row 25 0 2 [t.cs], .row 53 0 2 [x.cs], .row 3 L.length 1 (rowL intCs L)]⟩) (fun i => i ≤ w.length) (fun i => w.length - i) 0 (Nat.zero_le _) ?_ ?_
      · (refine Le.same ?_; simp only [List.forall_mem_cons, List.forall_mem_nil, getE, selE, Nat.reduceBEq, List.not_mem_nil, false_implies, implies_true, and_true, true_and, and_self])
        simp [CoolTown.cs, CoolTruth.cs, slOf, sumL]
      · intro i hi
        have hbi := sumL_bound (c := 1000000) (l := (w.take i).map (giveOf x y)) fun v hv => by
          obtain ⟨j, hj, rfl⟩ := List.mem_map.1 hv
          exact giveOf_bound hx hh' (hwb j (List.mem_of_mem_take hj))
        rw [List.length_map, List.length_take] at hbi
        repeat' (first | ((first | refine o1 rfl ?_ | refine o0 rfl ?_); intro k hk; simp (disch := omega) only [ev0, sl_cells, simprocAttr, slOf]; refine hk _ _ ?_; clear hk k) | refine ono rfl ?_ | ((first | refine osplitG rfl (fun h => ?_) (fun h => ?_) | refine osplitB rfl (fun h => ?_) (fun h => ?_)) <;> (fail_if_success (simp only [eq_self, reduceCtorEq] at h))) | refine onx ?_ | refine onb ?_ | refine sreg ?_ | refine qT rfl ?_ | refine qF rfl ?_ | refine scondT rfl ?_ | refine scondF rfl ?_ | refine ocondP rfl (fun h => ?_) (fun h => ?_) | refine ocondB rfl (fun h => ?_) (fun h => ?_) | refine scondP rfl (fun h => ?_) (fun h => ?_) | refine scond rfl (fun h => ?_) (fun h => ?_) | refine oskip ?_ | refine oskipb ?_ | refine oret ?_ | refine sem_ret ?_ | refine sem_seq ?_ | refine sreg1 ?_)
        · have hi' : i < w.length := by omega
          have hwi := hwb (w.getD i default) (by rw [getD_lt hi']; exact List.getElem_mem _)
          have hgb := giveOf_bound hx hh' hwi
          have htk := map_take_getD (giveOf x y) hi'
          obtain ⟨n, hn'⟩ := Int.eq_ofNat_of_zero_le hwi.1
          generalize hwv : w.getD i default = v at *
          subst hn'
          have hnl : n < x.gives.length := by rw [hx.gl]; omega
          have hgl := (hx.g _ (List.getElem_mem hnl)).1
          rw [← getD_lt hnl] at hgl
          have hgo : giveOf x y (n : Int) = (x.gives.getD n default).getD y default := rfl
          rw [hgo] at hgb
          refine sem_block ?_
          repeat' (first | ((first | refine o1 rfl ?_ | refine o0 rfl ?_); intro k hk; simp (disch := omega) only [ev0, sl_cells, simprocAttr]; refine hk _ _ ?_; clear hk k) | refine ono rfl ?_ | ((first | refine osplitG rfl (fun h => ?_) (fun h => ?_) | refine osplitB rfl (fun h => ?_) (fun h => ?_)) <;> (fail_if_success (simp only [eq_self, reduceCtorEq] at h))) | refine onx ?_ | refine onb ?_ | refine sreg ?_ | refine qT rfl ?_ | refine qF rfl ?_ | refine scondT rfl ?_ | refine scondF rfl ?_ | refine ocondP rfl (fun h => ?_) (fun h => ?_) | refine ocondB rfl (fun h => ?_) (fun h => ?_) | refine scondP rfl (fun h => ?_) (fun h => ?_) | refine scond rfl (fun h => ?_) (fun h => ?_) | refine oskip ?_ | refine oskipb ?_ | refine oret ?_ | refine sem_ret ?_ | refine sem_seq ?_ | refine sreg1 ?_)
          ((refine sem_mgo 12 hmix (by kernel_rfl) ?_; simp only [List.take_succ_cons, List.take_zero, List.drop_succ_cons, List.drop_zero, List.take_nil, List.drop_nil]); (repeat' (first | ((first | apply mop | apply mop0); (case hg => rfl); (case hq => rfl); intro k hk; simp (disch := omega) only [ev0, sl_cells, simprocAttr, slOf, intCs, intsCs, CoolTruth.cs, hwv]; refine hk _ _ rfl ?_; clear hk k) | (apply mno; (case hg => rfl)) | (apply mbox; (case hx => (simp only [wv, simprocAttr] <;> rfl)); (case hg => rfl); (case hall => rfl); (case hr => rfl); simp only [cellsOf, List.length_cons, List.length_nil, Nat.reduceAdd, Nat.zero_add, List.nil_append, List.cons_append, List.set_cons_zero, List.set_cons_succ, chunks, List.take_succ_cons, List.take_zero, List.drop_succ_cons, List.drop_zero]) | (apply mbldS; (case hb => (simp (disch := omega) only [ev0, sl_cells, simprocAttr] <;> rfl)); (case hg => rfl); (case hr => rfl); simp only [cellsOf, List.length_cons, List.length_nil, Nat.reduceAdd, Nat.zero_add, List.nil_append, List.cons_append, List.set_cons_zero, List.set_cons_succ, chunks, List.take_succ_cons, List.take_zero, List.drop_succ_cons, List.drop_zero]) | ((first | (apply msto (q := 0); (case hq => rfl)) | (apply msto (q := 1); (case hq => rfl)) | (apply msto (q := 2); (case hq => rfl)) | (apply msto (q := 3); (case hq => rfl))); (case hx => (simp only [wv, simprocAttr] <;> rfl)); (case haddr => (simp only [wv, simprocAttr] <;> rfl)); (case hg => rfl); (case hl1 => rfl); (case hl2 => rfl); (case hok => rfl); (case hr => rfl); simp only [cellsOf, List.length_cons, List.length_nil, Nat.reduceAdd, Nat.zero_add, List.nil_append, List.cons_append, List.set_cons_zero, List.set_cons_succ, chunks, List.take_succ_cons, List.take_zero, List.drop_succ_cons, List.drop_zero]) | (apply mnil; simp only [SlotR.fin, List.map_cons, List.map_nil, List.cons_append, List.nil_append, List.append_nil]) | (refine msplit rfl (fun h => ?_) (fun h => ?_) <;> simp only [h] <;> (try simp only [Bool.not_eq_true', Bool.not_eq_false', decide_eq_true_eq, decide_eq_false_iff_not] at h)))) <;> (repeat' (first | ((first | refine o1 rfl ?_ | refine o0 rfl ?_); intro k hk; simp (disch := omega) only [ev0, sl_cells, simprocAttr, slOf, intCs, intsCs, CoolTruth.cs, hwv]; refine hk _ _ ?_; clear hk k) | refine ono rfl ?_ | ((first | refine osplitG rfl (fun h => ?_) (fun h => ?_) | refine osplitB rfl (fun h => ?_) (fun h => ?_)) <;> (fail_if_success (simp only [eq_self, reduceCtorEq] at h))) | refine onx ?_ | refine onb ?_ | refine sreg ?_ | refine qT rfl ?_ | refine qF rfl ?_ | refine scondT rfl ?_ | refine scondF rfl ?_ | refine ocondP rfl (fun h => ?_) (fun h => ?_) | refine ocondB rfl (fun h => ?_) (fun h => ?_) | refine scondP rfl (fun h => ?_) (fun h => ?_) | refine scond rfl (fun h => ?_) (fun h => ?_) | refine oskip ?_ | refine oskipb ?_ | refine oret ?_ | refine sem_ret ?_ | refine sem_seq ?_ | refine sreg1 ?_)))
          refine onil (lnext (i + 1) (by omega) (by omega) ?_)
          rw [htk, sumL_append]
          (refine Le.same ?_; simp only [List.forall_mem_cons, List.forall_mem_nil, getE, selE, Nat.reduceBEq, List.not_mem_nil, false_implies, implies_true, and_true, true_and, and_self])
          simp [CoolTruth.cs, slOf, sumL, hgo, Int.add_assoc]
        · have hi' : i = w.length := by omega
          subst hi'
          rw [List.take_length]
          have e1 := rowL_take (enc := intCs) (l := L)
          (refine sem_exit ?_; change sem _ _ _ _ _)
          repeat' (first | ((first | refine o1 rfl ?_ | refine o0 rfl ?_); intro k hk; simp (disch := omega) only [ev0, sl_cells, simprocAttr]; refine hk _ _ ?_; clear hk k) | refine ono rfl ?_ | ((first | refine osplitG rfl (fun h => ?_) (fun h => ?_) | refine osplitB rfl (fun h => ?_) (fun h => ?_)) <;> (fail_if_success (simp only [eq_self, reduceCtorEq] at h))) | refine onx ?_ | refine onb ?_ | refine sreg ?_ | refine qT rfl ?_ | refine qF rfl ?_ | refine scondT rfl ?_ | refine scondF rfl ?_ | refine ocondP rfl (fun h => ?_) (fun h => ?_) | refine ocondB rfl (fun h => ?_) (fun h => ?_) | refine scondP rfl (fun h => ?_) (fun h => ?_) | refine scond rfl (fun h => ?_) (fun h => ?_) | refine oskip ?_ | refine oskipb ?_ | refine oret ?_ | refine sem_ret ?_ | refine sem_seq ?_ | refine sreg1 ?_)
          refine onil (lnext (y + 1) (by omega) (by omega) ?_)
          rw [hsu, e1, show ∀ v : Int, [[AV.int .i64 v]] = [intCs v] from fun _ => rfl, rowL_snoc, List.length_append]
          (refine Le.drop ?_ rfl (by simp) rfl (by simp only [refM, refO, List.all_cons, List.all_nil, Bool.and_true, Bool.true_and, rowL_all (enc := intCs) (fun _ _ => rfl), CoolTown.cs, CoolTruth.cs]; first | done | rfl) ; simp only [List.forall_mem_cons, List.forall_mem_nil, getE, selE, Nat.reduceBEq, List.not_mem_nil, false_implies, implies_true, and_true, true_and, and_self])
          simp
    · have hh' : y = t.houses.length := by omega
      subst hh'
      rw [hL]
      (refine sem_exit ?_; change sem _ _ _ _ _)
      refine sem_frzlist (enc := intCs) 2 rfl (fun _ => rfl) ?_
      simp only [frzE, frzM, frzO, frzA, frzL, List.map_cons, List.map_nil, List.set_cons_zero, List.set_cons_succ, Nat.reduceEqDiff, if_true, if_false, and_self, Nat.le_refl, reduceIte, frz_sl]
      repeat' (first | ((first | refine o1 rfl ?_ | refine o0 rfl ?_); intro k hk; simp (disch := omega) only [ev0, sl_cells, simprocAttr]; refine hk _ _ ?_; clear hk k) | refine ono rfl ?_ | ((first | refine osplitG rfl (fun h => ?_) (fun h => ?_) | refine osplitB rfl (fun h => ?_) (fun h => ?_)) <;> (fail_if_success (simp only [eq_self, reduceCtorEq] at h))) | refine onx ?_ | refine onb ?_ | refine sreg ?_ | refine qT rfl ?_ | refine qF rfl ?_ | refine scondT rfl ?_ | refine scondF rfl ?_ | refine ocondP rfl (fun h => ?_) (fun h => ?_) | refine ocondB rfl (fun h => ?_) (fun h => ?_) | refine scondP rfl (fun h => ?_) (fun h => ?_) | refine scond rfl (fun h => ?_) (fun h => ?_) | refine oskip ?_ | refine oskipb ?_ | refine oret ?_ | refine sem_ret ?_ | refine sem_seq ?_ | refine sreg1 ?_)
      exact ⟨_, rfl, _, rfl, tree_eq rfl rfl⟩
end Go.Proofs.Ytnempffajbdneaa

/- Play. -/
set_option linter.unusedVariables false
set_option linter.unusedSimpArgs false
set_option maxRecDepth 8000
set_option maxHeartbeats 4000000
namespace Go.Tk
open Go Go.Av
theorem listTo_mem {m n : Nat} {x : Int} : x ∈ listTo m n ↔ ∃ i : Nat, x = i ∧ i < n ∧ m.testBit i = true := by
  unfold listTo
  simp only [List.mem_map, List.mem_filter, List.mem_range]
  constructor
  · rintro ⟨i, ⟨h1, h2⟩, rfl⟩; exact ⟨i, rfl, h1, h2⟩
  · rintro ⟨i, rfl, h1, h2⟩; exact ⟨i, ⟨h1, h2⟩, rfl⟩
theorem listTo_setB {n : Nat} {w : List Int} (h : coolersOk n w) : listTo (setB w) n = w := by
  refine up_ext ?_ h.up fun x => ?_
  · unfold listTo
    rw [List.pairwise_map]
    exact (List.pairwise_lt_range.filter _).imp fun h => by omega
  · rw [listTo_mem]
    constructor
    · rintro ⟨i, rfl, -, h2⟩
      exact (setB_bit fun y hy => (h.mem y hy).1).1 h2
    · intro hx
      have hb := h.mem x hx
      refine ⟨x.toNat, by omega, by omega, (setB_bit fun y hy => (h.mem y hy).1).2 ?_⟩
      rw [show ((x.toNat : Nat) : Int) = x by omega]
      exact hx
/-- What the working coolers below a number give. -/
def colTo (x : CoolTruth) (w : List Int) (y i : Nat) : List Int := (listTo (setB w) i).map (giveOf x y)
theorem colTo_succ (x : CoolTruth) (w : List Int) (y i : Nat) : colTo x w y (i + 1) = if (setB w).testBit i = true then colTo x w y i ++ [giveOf x y i] else colTo x w y i := by
  unfold colTo
  rw [listTo_succ]
  split
  · rw [List.map_append]; rfl
  · rfl
theorem colTo_len (x : CoolTruth) (w : List Int) (y i : Nat) : (colTo x w y i).length ≤ i := by
  unfold colTo
  rw [List.length_map]
  exact listTo_len _ _
theorem truthOk.b {t : CoolTown} {x : CoolTruth} (ht : t.ok) (h : truthOk t x) : truthB t x := by
  obtain ⟨-, -, h1, h2⟩ := ht
  rw [all_getD] at h1 h2
  obtain ⟨e1, e2, e3, e4⟩ := h
  refine ⟨e1, all_getD.2 fun i hi => ?_, e2, all_getD.2 fun i hi => ⟨(e4 i (by omega)).1, all_getD.2 fun k hk => ?_⟩⟩
  · have a := h1 i (by omega)
    have b := e3 i (by omega)
    unfold inSp at b
    obtain ⟨⟨a1, a2, a3⟩, -⟩ := a
    omega
  · have b := (e4 i (by omega)).2 k (by rw [← (e4 i (by omega)).1]; exact hk)
    have a := h2 i (by omega)
    obtain ⟨-, -, a1, a2⟩ := a
    rw [all_getD] at a2
    have c := a2 k (by rw [a1, ← (e4 i (by omega)).1]; exact hk)
    unfold inSp at b
    omega
end Go.Tk
namespace Go.Proofs.Ytnempffajbdneaa
open Go Go.Av Go.Tk
attribute [local irreducible] Holds sem semL ACalls FnIs
variable {G : World → Prop} (hG : ∀ w w', G w → RowKit.Below w.heap.size w w' → G w')
include hG
theorem cool_Play (t : CoolTown) (ht : t.short) (x : CoolTruth) (hx : x.short) (w : List Int) (hw : w.length ≤ 15) :
    Holds Try.prog G F.cool_Play [.agg t.cs, slOf intCs w, .agg x.cs] (if t.ok ∧ coolersOk t.sites.length w ∧ truthOk t x then .tup [slOf intCs (overL t.houses.length x w), I 0] else .tup [.nilsl, I 2]) := by
  have hv := cool_valid hG t ht
  by_cases ok : t.ok
  · by_cases hl : x.needs.length = t.houses.length ∧ x.gives.length = t.sites.length
    · by_cases hc : coolersOk t.sites.length w
      · obtain ⟨l1, l2⟩ := hl
        obtain ⟨⟨b1, b2⟩, ⟨b3, b4⟩, -, b5⟩ := id ok
        rw [all_getD] at b5
        obtain ⟨x1, x2, x3⟩ := hx
        rw [all_getD] at x3
        have hb := cool_bits hG t b4 w (by omega)
        rw [if_pos hc, decide_eq_true hc] at hb
        rw [decide_eq_true ok] at hv
        have q1 : ((x.needs.length : Int) = (t.houses.length : Int)) = True := eq_true (by omega)
        have q2 : ((x.gives.length : Int) = (t.sites.length : Int)) = True := eq_true (by omega)
        have hno : ¬ truthOk t x → (if t.ok ∧ coolersOk t.sites.length w ∧ truthOk t x then AV.tup [slOf intCs (overL t.houses.length x w), I 0] else .tup [.nilsl, I 2]) = .tup [.nilsl, I 2] := fun h => if_neg fun hh => h hh.2.2
        (refine holds_of_sem hG fn_cool_Play (by simp) fun w0 S0 hG0 D0 => ?_; unfold c_cool_Play cval enterEnv; simp only [List.zipIdx_cons, List.zipIdx_nil, List.map_cons, List.map_nil, Nat.zero_add, Nat.reduceAdd])
        repeat' (first | ((first | refine o1 rfl ?_ | refine o0 rfl ?_); intro k hk; simp (disch := omega) only [ev0, sl_cells, simprocAttr, CoolTown.cs, CoolTruth.cs, slOf, q1, q2]; refine hk _ _ ?_; clear hk k) | refine ono rfl ?_ | (apply ocall; (case he => (simp only [ev0, sl_cells, simprocAttr] <;> rfl)); (case hc => first | exact hv | exact hb); (case ht => rfl); (case hg => rfl)) | ((first | refine osplitG rfl (fun h => ?_) (fun h => ?_) | refine osplitB rfl (fun h => ?_) (fun h => ?_)) <;> (fail_if_success (simp only [eq_self, reduceCtorEq] at h))) | refine onx ?_ | refine onb ?_ | refine sreg ?_ | refine qT rfl ?_ | refine qF rfl ?_ | refine scondT rfl ?_ | refine scondF rfl ?_ | refine ocondP rfl (fun h => ?_) (fun h => ?_) | refine ocondB rfl (fun h => ?_) (fun h => ?_) | refine scondP rfl (fun h => ?_) (fun h => ?_) | refine scond rfl (fun h => ?_) (fun h => ?_) | refine oskip ?_ | refine oskipb ?_ | refine oret ?_ | refine sem_ret ?_ | refine sem_seq ?_ | refine sreg1 ?_)
        refine sem_block ?_
        
        refine sem_loop (α := Nat) (fun i => ⟨[(3, .ptr 0 0 2 0 0), (5, .ptr 1 0 2 0 0), (8, I (setB w)), (51, slOf CoolSite.cs t.sites), (52, I t.sites.length), (53, I i)], [.row 25 0 2 [t.cs], .row 53 0 2 [x.cs]]⟩) (fun i => i ≤ t.sites.length ∧ ∀ j, j < i → (x.gives.getD j default).length = t.houses.length ∧ ∀ k, k < t.houses.length → inSp ((x.gives.getD j default).getD k default) ((t.sites.getD j default).gives.getD k default)) (fun i => t.sites.length - i) 0 ⟨Nat.zero_le _, fun j hj => absurd hj (Nat.not_lt_zero _)⟩ ?_ ?_
        · (refine Le.same ?_; simp only [List.forall_mem_cons, List.forall_mem_nil, getE, selE, Nat.reduceBEq, List.not_mem_nil, false_implies, implies_true, and_true, true_and, and_self])
          simp [slOf, CoolTown.cs, CoolTruth.cs]
        · rintro i ⟨hi, hall2⟩
          repeat' (first | ((first | refine o1 rfl ?_ | refine o0 rfl ?_); intro k hk; simp (disch := omega) only [ev0, sl_cells, simprocAttr, slOf]; refine hk _ _ ?_; clear hk k) | refine ono rfl ?_ | ((first | refine osplitG rfl (fun h => ?_) (fun h => ?_) | refine osplitB rfl (fun h => ?_) (fun h => ?_)) <;> (fail_if_success (simp only [eq_self, reduceCtorEq] at h))) | refine onx ?_ | refine onb ?_ | refine sreg ?_ | refine qT rfl ?_ | refine qF rfl ?_ | refine scondT rfl ?_ | refine scondF rfl ?_ | refine ocondP rfl (fun h => ?_) (fun h => ?_) | refine ocondB rfl (fun h => ?_) (fun h => ?_) | refine scondP rfl (fun h => ?_) (fun h => ?_) | refine scond rfl (fun h => ?_) (fun h => ?_) | refine oskip ?_ | refine oskipb ?_ | refine oret ?_ | refine sem_ret ?_ | refine sem_seq ?_ | refine sreg1 ?_)
          · have hi' : i < t.sites.length := by omega
            have hi2 : i < x.gives.length := by omega
            have hq := fun (hh : truthOk t x) => hh.2.2.2 i hi'
            have hg := x3 i hi2
            have hs3 := (b5 i hi').2.2.1
            have hstep : ((x.gives.getD i default).length = t.houses.length ∧ ∀ k, k < t.houses.length → inSp ((x.gives.getD i default).getD k default) ((t.sites.getD i default).gives.getD k default)) → ∀ j, j < i + 1 → (x.gives.getD j default).length = t.houses.length ∧ ∀ k, k < t.houses.length → inSp ((x.gives.getD j default).getD k default) ((t.sites.getD j default).gives.getD k default) := fun h j hj => by
              by_cases e : j = i
              · subst e; exact h
              · exact hall2 j (by omega)
            refine sem_block ?_
            repeat' (first | ((first | refine o1 rfl ?_ | refine o0 rfl ?_); intro k hk; simp (disch := omega) only [ev0, sl_cells, simprocAttr, slOf, CoolSite.cs]; refine hk _ _ ?_; clear hk k) | refine ono rfl ?_ | ((first | refine osplitG rfl (fun h => ?_) (fun h => ?_) | refine osplitB rfl (fun h => ?_) (fun h => ?_)) <;> (fail_if_success (simp only [eq_self, reduceCtorEq] at h))) | refine onx ?_ | refine onb ?_ | refine sreg ?_ | refine qT rfl ?_ | refine qF rfl ?_ | refine scondT rfl ?_ | refine scondF rfl ?_ | refine ocondP rfl (fun h => ?_) (fun h => ?_) | refine ocondB rfl (fun h => ?_) (fun h => ?_) | refine scondP rfl (fun h => ?_) (fun h => ?_) | refine scond rfl (fun h => ?_) (fun h => ?_) | refine oskip ?_ | refine oskipb ?_ | refine oret ?_ | refine sem_ret ?_ | refine sem_seq ?_ | refine sreg1 ?_)
            ((refine sem_mgo 9 hmix (by kernel_rfl) ?_; simp only [List.take_succ_cons, List.take_zero, List.drop_succ_cons, List.drop_zero, List.take_nil, List.drop_nil]); (repeat' (first | ((first | apply mop | apply mop0); (case hg => rfl); (case hq => rfl); intro k hk; simp (disch := omega) only [ev0, sl_cells, simprocAttr, slOf, intCs, intsCs, CoolTown.cs, CoolTruth.cs, CoolSite.cs]; refine hk _ _ rfl ?_; clear hk k) | (apply mno; (case hg => rfl)) | (apply mbox; (case hx => (simp only [wv, simprocAttr] <;> rfl)); (case hg => rfl); (case hall => rfl); (case hr => rfl); simp only [cellsOf, List.length_cons, List.length_nil, Nat.reduceAdd, Nat.zero_add, List.nil_append, List.cons_append, List.set_cons_zero, List.set_cons_succ, chunks, List.take_succ_cons, List.take_zero, List.drop_succ_cons, List.drop_zero]) | (apply mbldS; (case hb => (simp (disch := omega) only [ev0, sl_cells, simprocAttr] <;> rfl)); (case hg => rfl); (case hr => rfl); simp only [cellsOf, List.length_cons, List.length_nil, Nat.reduceAdd, Nat.zero_add, List.nil_append, List.cons_append, List.set_cons_zero, List.set_cons_succ, chunks, List.take_succ_cons, List.take_zero, List.drop_succ_cons, List.drop_zero]) | ((first | (apply msto (q := 0); (case hq => rfl)) | (apply msto (q := 1); (case hq => rfl)) | (apply msto (q := 2); (case hq => rfl)) | (apply msto (q := 3); (case hq => rfl))); (case hx => (simp only [wv, simprocAttr] <;> rfl)); (case haddr => (simp only [wv, simprocAttr] <;> rfl)); (case hg => rfl); (case hl1 => rfl); (case hl2 => rfl); (case hok => rfl); (case hr => rfl); simp only [cellsOf, List.length_cons, List.length_nil, Nat.reduceAdd, Nat.zero_add, List.nil_append, List.cons_append, List.set_cons_zero, List.set_cons_succ, chunks, List.take_succ_cons, List.take_zero, List.drop_succ_cons, List.drop_zero]) | (apply mnil; simp only [SlotR.fin, List.map_cons, List.map_nil, List.cons_append, List.nil_append, List.append_nil]) | (refine msplit rfl (fun h => ?_) (fun h => ?_) <;> simp only [h] <;> (try simp only [Bool.not_eq_true', Bool.not_eq_false', decide_eq_true_eq, decide_eq_false_iff_not] at h)))) <;> (repeat' (first | ((first | refine o1 rfl ?_ | refine o0 rfl ?_); intro k hk; simp (disch := omega) only [ev0, sl_cells, simprocAttr, slOf, intCs, intsCs, CoolTown.cs, CoolTruth.cs, CoolSite.cs]; refine hk _ _ ?_; clear hk k) | refine ono rfl ?_ | ((first | refine osplitG rfl (fun h => ?_) (fun h => ?_) | refine osplitB rfl (fun h => ?_) (fun h => ?_)) <;> (fail_if_success (simp only [eq_self, reduceCtorEq] at h))) | refine onx ?_ | refine onb ?_ | refine sreg ?_ | refine qT rfl ?_ | refine qF rfl ?_ | refine scondT rfl ?_ | refine scondF rfl ?_ | refine ocondP rfl (fun h => ?_) (fun h => ?_) | refine ocondB rfl (fun h => ?_) (fun h => ?_) | refine scondP rfl (fun h => ?_) (fun h => ?_) | refine scond rfl (fun h => ?_) (fun h => ?_) | refine oskip ?_ | refine oskipb ?_ | refine oret ?_ | refine sem_ret ?_ | refine sem_seq ?_ | refine sreg1 ?_)))
            · rw [hno (fun hh => by have := (hq hh).1; simp only [Bool.not_eq_true', decide_eq_false_iff_not] at h; omega)]
              exact ⟨_, rfl, _, rfl, tree_eq rfl rfl⟩
            · simp only [Bool.not_eq_false', decide_eq_true_eq] at h
              have hlen : (x.gives.getD i default).length = t.houses.length := by omega
              generalize hgi : x.gives.getD i default = gi at *
              generalize hsi : t.sites.getD i default = si at *
              refine sem_block ?_
              
              refine sem_loop (α := Nat) (fun k => ⟨[(3, .ptr 0 0 2 0 0), (5, .ptr 1 0 2 0 0), (8, I (setB w)), (11, .ptr 2 0 3 0 0), (51, slOf CoolSite.cs t.sites), (52, I t.sites.length), (53, I i), (72, slOf intCs gi), (73, I gi.length), (74, I k)], [.row 25 0 2 [t.cs], .row 53 0 2 [x.cs], .row 64 0 3 [si.cs]]⟩) (fun k => k ≤ t.houses.length ∧ ∀ j, j < k → inSp (gi.getD j default) (si.gives.getD j default)) (fun k => t.houses.length - k) 0 ⟨Nat.zero_le _, fun j hj => absurd hj (Nat.not_lt_zero _)⟩ ?_ ?_
              · (refine Le.same ?_; simp only [List.forall_mem_cons, List.forall_mem_nil, getE, selE, Nat.reduceBEq, List.not_mem_nil, false_implies, implies_true, and_true, true_and, and_self])
                simp [slOf, CoolTown.cs, CoolTruth.cs, CoolSite.cs, intCs]
              · rintro y ⟨hy, hall3⟩
                repeat' (first | ((first | refine o1 rfl ?_ | refine o0 rfl ?_); intro k hk; simp (disch := omega) only [ev0, sl_cells, simprocAttr, slOf, hlen]; refine hk _ _ ?_; clear hk k) | refine ono rfl ?_ | ((first | refine osplitG rfl (fun h => ?_) (fun h => ?_) | refine osplitB rfl (fun h => ?_) (fun h => ?_)) <;> (fail_if_success (simp only [eq_self, reduceCtorEq] at h))) | refine onx ?_ | refine onb ?_ | refine sreg ?_ | refine qT rfl ?_ | refine qF rfl ?_ | refine scondT rfl ?_ | refine scondF rfl ?_ | refine ocondP rfl (fun h => ?_) (fun h => ?_) | refine ocondB rfl (fun h => ?_) (fun h => ?_) | refine scondP rfl (fun h => ?_) (fun h => ?_) | refine scond rfl (fun h => ?_) (fun h => ?_) | refine oskip ?_ | refine oskipb ?_ | refine oret ?_ | refine sem_ret ?_ | refine sem_seq ?_ | refine sreg1 ?_)
                · have hy' : y < t.houses.length := by omega
                  refine sem_block ?_
                  repeat' (first | ((first | refine o1 rfl ?_ | refine o0 rfl ?_); intro k hk; simp (disch := omega) only [ev0, sl_cells, simprocAttr, slOf, intCs]; refine hk _ _ ?_; clear hk k) | refine ono rfl ?_ | ((first | refine osplitG rfl (fun h => ?_) (fun h => ?_) | refine osplitB rfl (fun h => ?_) (fun h => ?_)) <;> (fail_if_success (simp only [eq_self, reduceCtorEq] at h))) | refine onx ?_ | refine onb ?_ | refine sreg ?_ | refine qT rfl ?_ | refine qF rfl ?_ | refine scondT rfl ?_ | refine scondF rfl ?_ | refine ocondP rfl (fun h => ?_) (fun h => ?_) | refine ocondB rfl (fun h => ?_) (fun h => ?_) | refine scondP rfl (fun h => ?_) (fun h => ?_) | refine scond rfl (fun h => ?_) (fun h => ?_) | refine oskip ?_ | refine oskipb ?_ | refine oret ?_ | refine sem_ret ?_ | refine sem_seq ?_ | refine sreg1 ?_)
                  ((refine sem_mgo 13 hmix (by kernel_rfl) ?_; simp only [List.take_succ_cons, List.take_zero, List.drop_succ_cons, List.drop_zero, List.take_nil, List.drop_nil]); (repeat' (first | ((first | apply mop | apply mop0); (case hg => rfl); (case hq => rfl); intro k hk; simp (disch := omega) only [ev0, sl_cells, simprocAttr, slOf, intCs, Span.cs, CoolSite.cs]; refine hk _ _ rfl ?_; clear hk k) | (apply mno; (case hg => rfl)) | (apply mcall; (case he => (simp only [ev0, sl_cells, simprocAttr] <;> rfl)); (case hc => first | exact cool_in hG _ _ _); (case ht => rfl); (case hg => rfl); (case hr => rfl)) | (apply mbox; (case hx => (simp only [wv, simprocAttr] <;> rfl)); (case hg => rfl); (case hall => rfl); (case hr => rfl); simp only [cellsOf, List.length_cons, List.length_nil, Nat.reduceAdd, Nat.zero_add, List.nil_append, List.cons_append, List.set_cons_zero, List.set_cons_succ, chunks, List.take_succ_cons, List.take_zero, List.drop_succ_cons, List.drop_zero]) | (apply mbldS; (case hb => (simp (disch := omega) only [ev0, sl_cells, simprocAttr] <;> rfl)); (case hg => rfl); (case hr => rfl); simp only [cellsOf, List.length_cons, List.length_nil, Nat.reduceAdd, Nat.zero_add, List.nil_append, List.cons_append, List.set_cons_zero, List.set_cons_succ, chunks, List.take_succ_cons, List.take_zero, List.drop_succ_cons, List.drop_zero]) | ((first | (apply msto (q := 0); (case hq => rfl)) | (apply msto (q := 1); (case hq => rfl)) | (apply msto (q := 2); (case hq => rfl)) | (apply msto (q := 3); (case hq => rfl))); (case hx => (simp only [wv, simprocAttr] <;> rfl)); (case haddr => (simp only [wv, simprocAttr] <;> rfl)); (case hg => rfl); (case hl1 => rfl); (case hl2 => rfl); (case hok => rfl); (case hr => rfl); simp only [cellsOf, List.length_cons, List.length_nil, Nat.reduceAdd, Nat.zero_add, List.nil_append, List.cons_append, List.set_cons_zero, List.set_cons_succ, chunks, List.take_succ_cons, List.take_zero, List.drop_succ_cons, List.drop_zero]) | (apply mnil; simp only [SlotR.fin, List.map_cons, List.map_nil, List.cons_append, List.nil_append, List.append_nil]) | (refine msplit rfl (fun h => ?_) (fun h => ?_) <;> simp only [h] <;> (try simp only [Bool.not_eq_true', Bool.not_eq_false', decide_eq_true_eq, decide_eq_false_iff_not] at h)))) <;> (repeat' (first | ((first | refine o1 rfl ?_ | refine o0 rfl ?_); intro k hk; simp (disch := omega) only [ev0, sl_cells, simprocAttr, slOf, intCs, Span.cs, CoolSite.cs]; refine hk _ _ ?_; clear hk k) | refine ono rfl ?_ | (apply ocall; (case he => (simp only [ev0, sl_cells, simprocAttr] <;> rfl)); (case hc => first | exact cool_in hG _ _ _); (case ht => rfl); (case hg => rfl)) | ((first | refine osplitG rfl (fun h => ?_) (fun h => ?_) | refine osplitB rfl (fun h => ?_) (fun h => ?_)) <;> (fail_if_success (simp only [eq_self, reduceCtorEq] at h))) | refine onx ?_ | refine onb ?_ | refine sreg ?_ | refine qT rfl ?_ | refine qF rfl ?_ | refine scondT rfl ?_ | refine scondF rfl ?_ | refine ocondP rfl (fun h => ?_) (fun h => ?_) | refine ocondB rfl (fun h => ?_) (fun h => ?_) | refine scondP rfl (fun h => ?_) (fun h => ?_) | refine scond rfl (fun h => ?_) (fun h => ?_) | refine oskip ?_ | refine oskipb ?_ | refine oret ?_ | refine sem_ret ?_ | refine sem_seq ?_ | refine sreg1 ?_)))
                  · rw [hno (fun hh => by
                      have := (hq hh).2 y hy'
                      rename_i h
                      simp only [Bool.not_eq_true', decide_eq_false_iff_not] at h
                      exact h this)]
                    exact ⟨_, rfl, _, rfl, tree_eq rfl rfl⟩
                  · rename_i h
                    simp only [Bool.not_eq_false', decide_eq_true_eq] at h
                    refine onil (lnext (y + 1) ⟨by omega, fun j hj => ?_⟩ (by omega) ?_)
                    · by_cases e : j = y
                      · subst e; exact h
                      · exact hall3 j (by omega)
                    · (refine Le.same ?_; simp only [List.forall_mem_cons, List.forall_mem_nil, getE, selE, Nat.reduceBEq, List.not_mem_nil, false_implies, implies_true, and_true, true_and, and_self])
                      simp [CoolTown.cs, CoolTruth.cs, CoolSite.cs, slOf, hlen]
                · have hy' : y = t.houses.length := by omega
                  subst hy'
                  (refine sem_exit ?_; change sem _ _ _ _ _)
                  repeat' (first | ((first | refine o1 rfl ?_ | refine o0 rfl ?_); intro k hk; simp (disch := omega) only [ev0, sl_cells, simprocAttr]; refine hk _ _ ?_; clear hk k) | refine ono rfl ?_ | ((first | refine osplitG rfl (fun h => ?_) (fun h => ?_) | refine osplitB rfl (fun h => ?_) (fun h => ?_)) <;> (fail_if_success (simp only [eq_self, reduceCtorEq] at h))) | refine onx ?_ | refine onb ?_ | refine sreg ?_ | refine qT rfl ?_ | refine qF rfl ?_ | refine scondT rfl ?_ | refine scondF rfl ?_ | refine ocondP rfl (fun h => ?_) (fun h => ?_) | refine ocondB rfl (fun h => ?_) (fun h => ?_) | refine scondP rfl (fun h => ?_) (fun h => ?_) | refine scond rfl (fun h => ?_) (fun h => ?_) | refine oskip ?_ | refine oskipb ?_ | refine oret ?_ | refine sem_ret ?_ | refine sem_seq ?_ | refine sreg1 ?_)
                  refine onil (lnext (i + 1) ⟨by omega, hstep ⟨hlen, hall3⟩⟩ (by omega) ?_)
                  (refine Le.drop ?_ rfl (by simp) rfl rfl; simp only [List.forall_mem_cons, List.forall_mem_nil, getE, selE, Nat.reduceBEq, List.not_mem_nil, false_implies, implies_true, and_true, true_and, and_self])
                  simp [CoolTown.cs, CoolTruth.cs, slOf]
          · have hi' : i = t.sites.length := by omega
            subst hi'
            (refine sem_exit ?_; change sem _ _ _ _ _)
            repeat' (first | ((first | refine o1 rfl ?_ | refine o0 rfl ?_); intro k hk; simp (disch := omega) only [ev0, sl_cells, simprocAttr, CoolTruth.cs, slOf]; refine hk _ _ ?_; clear hk k) | refine ono rfl ?_ | ((first | refine osplitG rfl (fun h => ?_) (fun h => ?_) | refine osplitB rfl (fun h => ?_) (fun h => ?_)) <;> (fail_if_success (simp only [eq_self, reduceCtorEq] at h))) | refine onx ?_ | refine onb ?_ | refine sreg ?_ | refine qT rfl ?_ | refine qF rfl ?_ | refine scondT rfl ?_ | refine scondF rfl ?_ | refine ocondP rfl (fun h => ?_) (fun h => ?_) | refine ocondB rfl (fun h => ?_) (fun h => ?_) | refine scondP rfl (fun h => ?_) (fun h => ?_) | refine scond rfl (fun h => ?_) (fun h => ?_) | refine oskip ?_ | refine oskipb ?_ | refine oret ?_ | refine sem_ret ?_ | refine sem_seq ?_ | refine sreg1 ?_)
            refine sem_block ?_
            (refine sem_ghost 14 3 1 rfl ?_; simp only [List.length_cons, List.length_nil, Nat.reduceAdd, Nat.zero_add, List.cons_append, List.nil_append])
            
            refine sem_loop (α := Nat) (fun y => ⟨[(3, .ptr 0 0 2 0 0), (5, .ptr 1 0 2 0 0), (8, I (setB w)), (14, .hsl 2 (overL y x w).length 1 (overL y x w).length), (97, slOf intCs x.needs), (98, I x.needs.length), (99, I y)], [.row 25 0 2 [t.cs], .row 53 0 2 [x.cs], .row 3 (overL y x w).length 1 (rowL intCs (overL y x w))]⟩) (fun y => y ≤ t.houses.length ∧ ∀ j, j < y → inSp (x.needs.getD j default) (t.houses.getD j default).need) (fun y => t.houses.length - y) 0 ⟨Nat.zero_le _, fun j hj => absurd hj (Nat.not_lt_zero _)⟩ ?_ ?_
            · (refine Le.same ?_; simp only [List.forall_mem_cons, List.forall_mem_nil, getE, selE, Nat.reduceBEq, List.not_mem_nil, false_implies, implies_true, and_true, true_and, and_self])
              simp [overL, slOf, CoolTown.cs, CoolTruth.cs, intCs]
            · rintro y ⟨hy, hall⟩
              have hlen := overL_len y x w
              have hsu := overL_succ y x w
              generalize hL : overL y x w = L at *
              repeat' (first | ((first | refine o1 rfl ?_ | refine o0 rfl ?_); intro k hk; simp (disch := omega) only [ev0, sl_cells, simprocAttr, slOf, l1]; refine hk _ _ ?_; clear hk k) | refine ono rfl ?_ | ((first | refine osplitG rfl (fun h => ?_) (fun h => ?_) | refine osplitB rfl (fun h => ?_) (fun h => ?_)) <;> (fail_if_success (simp only [eq_self, reduceCtorEq] at h))) | refine onx ?_ | refine onb ?_ | refine sreg ?_ | refine qT rfl ?_ | refine qF rfl ?_ | refine scondT rfl ?_ | refine scondF rfl ?_ | refine ocondP rfl (fun h => ?_) (fun h => ?_) | refine ocondB rfl (fun h => ?_) (fun h => ?_) | refine scondP rfl (fun h => ?_) (fun h => ?_) | refine scond rfl (fun h => ?_) (fun h => ?_) | refine oskip ?_ | refine oskipb ?_ | refine oret ?_ | refine sem_ret ?_ | refine sem_seq ?_ | refine sreg1 ?_)
              · have hy' : y < t.houses.length := by omega
                have hy2 : y < x.needs.length := by omega
                have hq := fun (hh : truthOk t x) => hh.2.2.1 y hy'
                refine sem_block ?_
                repeat' (first | ((first | refine o1 rfl ?_ | refine o0 rfl ?_); intro k hk; simp (disch := omega) only [ev0, sl_cells, simprocAttr, slOf, intCs, CoolTown.cs, CoolHouse.cs]; refine hk _ _ ?_; clear hk k) | refine ono rfl ?_ | (apply ocall; (case he => (simp only [ev0, sl_cells, simprocAttr] <;> rfl)); (case hc => first | exact cool_in hG _ _ _); (case ht => rfl); (case hg => rfl)) | ((first | refine osplitG rfl (fun h => ?_) (fun h => ?_) | refine osplitB rfl (fun h => ?_) (fun h => ?_)) <;> (fail_if_success (simp only [eq_self, reduceCtorEq] at h))) | refine onx ?_ | refine onb ?_ | refine sreg ?_ | refine qT rfl ?_ | refine qF rfl ?_ | refine scondT rfl ?_ | refine scondF rfl ?_ | refine ocondP rfl (fun h => ?_) (fun h => ?_) | refine ocondB rfl (fun h => ?_) (fun h => ?_) | refine scondP rfl (fun h => ?_) (fun h => ?_) | refine scond rfl (fun h => ?_) (fun h => ?_) | refine oskip ?_ | refine oskipb ?_ | refine oret ?_ | refine sem_ret ?_ | refine sem_seq ?_ | refine sreg1 ?_)
                · rw [hno (fun hh => by
                    have := hq hh
                    rename_i h
                    simp only [Bool.not_eq_true', decide_eq_false_iff_not] at h
                    exact h this)]
                  exact ⟨_, rfl, _, rfl, tree_eq rfl rfl⟩
                · simp only [Bool.not_eq_false', decide_eq_true_eq] at h
                  have hneed := h
                  generalize hnd : (t.houses.getD y default).need = nd at *
                  have hwlt : setB w < 1024 := Nat.lt_of_lt_of_le (setB_lt hc.mem) (Nat.pow_le_pow_right (by decide) b4)
                  refine sem_block ?_
                  (refine sem_ghost 18 3 1 rfl ?_; simp only [List.length_cons, List.length_nil, Nat.reduceAdd, Nat.zero_add, List.cons_append, List.nil_append])
                  
                  refine sem_loop (α := Nat) (fun i => ⟨[(3, .ptr 0 0 2 0 0), (5, .ptr 1 0 2 0 0), (8, I (setB w)), (14, .hsl 2 L.length 1 L.length), (15, I y), (16, I (x.needs.getD y default)), (18, .hsl 4 (colTo x w y i).length 1 (colTo x w y i).length), (97, slOf intCs x.needs), (98, I x.needs.length), (99, I y), (118, slOf intsCs x.gives), (119, I x.gives.length), (120, I i)], [.row 25 0 2 [t.cs], .row 53 0 2 [x.cs], .row 3 L.length 1 (rowL intCs L), .row 58 0 2 [nd.cs], .row 3 (colTo x w y i).length 1 (rowL intCs (colTo x w y i))]⟩) (fun i => i ≤ t.sites.length) (fun i => t.sites.length - i) 0 (Nat.zero_le _) ?_ ?_
                  · rw [← hnd]
                    (refine Le.same ?_; simp only [List.forall_mem_cons, List.forall_mem_nil, getE, selE, Nat.reduceBEq, List.not_mem_nil, false_implies, implies_true, and_true, true_and, and_self])
                    simp [colTo, listTo, slOf, CoolTown.cs, CoolTruth.cs, CoolHouse.cs, intCs, Span.cs]
                  · intro i hi
                    have hcl := colTo_len x w y i
                    have hcs := colTo_succ x w y i
                    have hb1 := fun hh : i < t.sites.length => hall2 i hh
                    generalize hC : colTo x w y i = C at *
                    repeat' (first | ((first | refine o1 rfl ?_ | refine o0 rfl ?_); intro k hk; simp (disch := omega) only [ev0, sl_cells, simprocAttr, slOf, l2]; refine hk _ _ ?_; clear hk k) | refine ono rfl ?_ | ((first | refine osplitG rfl (fun h => ?_) (fun h => ?_) | refine osplitB rfl (fun h => ?_) (fun h => ?_)) <;> (fail_if_success (simp only [eq_self, reduceCtorEq] at h))) | refine onx ?_ | refine onb ?_ | refine sreg ?_ | refine qT rfl ?_ | refine qF rfl ?_ | refine scondT rfl ?_ | refine scondF rfl ?_ | refine ocondP rfl (fun h => ?_) (fun h => ?_) | refine ocondB rfl (fun h => ?_) (fun h => ?_) | refine scondP rfl (fun h => ?_) (fun h => ?_) | refine scond rfl (fun h => ?_) (fun h => ?_) | refine oskip ?_ | refine oskipb ?_ | refine oret ?_ | refine sem_ret ?_ | refine sem_seq ?_ | refine sreg1 ?_)
                    · have hi' : i < t.sites.length := by omega
                      have hi2 : i < x.gives.length := by omega
                      have hgl := (hb1 hi').1
                      have e1 := rowL_take (enc := intCs) (l := C)
                      have hgo : giveOf x y (i : Int) = (x.gives.getD i default).getD y default := rfl
                      refine sem_block ?_
                      repeat' (first | ((first | refine o1 rfl ?_ | refine o0 rfl ?_); intro k hk; simp (disch := omega) only [ev0, sl_cells, simprocAttr, slOf, intsCs, intCs]; refine hk _ _ ?_; clear hk k) | refine ono rfl ?_ | (apply ocall; (case he => (simp only [ev0, sl_cells, simprocAttr] <;> rfl)); (case hc => first | exact cool_set_has hG (setB w) hwlt i (by omega)); (case ht => rfl); (case hg => rfl)) | ((first | refine osplitG rfl (fun h => ?_) (fun h => ?_) | refine osplitB rfl (fun h => ?_) (fun h => ?_)) <;> (fail_if_success (simp only [eq_self, reduceCtorEq] at h))) | refine onx ?_ | refine onb ?_ | refine sreg ?_ | refine qT rfl ?_ | refine qF rfl ?_ | refine scondT rfl ?_ | refine scondF rfl ?_ | refine ocondP rfl (fun h => ?_) (fun h => ?_) | refine ocondB rfl (fun h => ?_) (fun h => ?_) | refine scondP rfl (fun h => ?_) (fun h => ?_) | refine scond rfl (fun h => ?_) (fun h => ?_) | refine oskip ?_ | refine oskipb ?_ | refine oret ?_ | refine sem_ret ?_ | refine sem_seq ?_ | refine sreg1 ?_)
                      · rw [if_pos h, hgo] at hcs
                        refine onil (lnext (i + 1) (by omega) (by omega) ?_)
                        rw [hcs, e1, show ∀ v : Int, [[AV.int .i64 v]] = [intCs v] from fun _ => rfl, rowL_snoc, List.length_append]
                        (refine Le.drop ?_ rfl (by simp) rfl (by simp only [refM, refO, List.all_cons, List.all_nil, Bool.and_true, Bool.true_and, rowL_all (enc := intCs) (fun _ _ => rfl), CoolTown.cs, CoolTruth.cs]; first | done | rfl) ; simp only [List.forall_mem_cons, List.forall_mem_nil, getE, selE, Nat.reduceBEq, List.not_mem_nil, false_implies, implies_true, and_true, true_and, and_self])
                        simp [l2, slOf]
                      · rw [if_neg (by rw [h]; simp)] at hcs
                        refine onil (lnext (i + 1) (by omega) (by omega) ?_)
                        rw [hcs]
                        (refine Le.same ?_; simp only [List.forall_mem_cons, List.forall_mem_nil, getE, selE, Nat.reduceBEq, List.not_mem_nil, false_implies, implies_true, and_true, true_and, and_self])
                        simp [l2, slOf]
                    · have hi' : i = t.sites.length := by omega
                      subst hi'
                      have hCw : C = w.map (giveOf x y) := by rw [← hC]; unfold colTo; rw [listTo_setB hc]
                      have hCb : ∀ v ∈ C, 0 ≤ v ∧ v ≤ 1000000 := by
                        rw [hCw]
                        intro v hv
                        obtain ⟨j, hj, rfl⟩ := List.mem_map.1 hv
                        have hj' := hc.mem j hj
                        obtain ⟨n, rfl⟩ := Int.eq_ofNat_of_zero_le hj'.1
                        have hnl : n < t.sites.length := by omega
                        have a := (hall2 n hnl).2 y hy'
                        have b := (b5 n hnl).2.2.2
                        have b' := (b5 n hnl).2.2.1
                        rw [all_getD] at b
                        have c := b y (by rw [b']; exact hy')
                        unfold inSp at a
                        change 0 ≤ (x.gives.getD n default).getD y default ∧ (x.gives.getD n default).getD y default ≤ 1000000
                        omega
                      have hSb := sumL_bound hCb
                      have hov : over1 x w y = sumL C - x.needs.getD y default := by rw [hCw]; unfold over1; omega
                      have hnb : nd.cold := by
                        have := all_getD.1 ok.2.2.1 y hy'
                        rw [← hnd]
                        exact this.1
                      obtain ⟨nb1, nb2, nb3⟩ := hnb
                      have e1 := rowL_take (enc := intCs) (l := L)
                      (refine sem_exit ?_; change sem _ _ _ _ _)
                      refine sreg1 ?_
                      refine semL_frzlist (enc := intCs) 4 rfl (fun _ => rfl) ?_
                      simp only [frzE, frzM, frzO, frzA, frzL, List.map_cons, List.map_nil, List.set_cons_zero, List.set_cons_succ, Nat.reduceEqDiff, if_true, if_false, and_self, Nat.le_refl, reduceIte, frz_sl, frz_rowL (enc := intCs) (fun _ => rfl), frz_town, frz_truth, frz_span]
                      repeat' (first | ((first | refine o1 rfl ?_ | refine o0 rfl ?_); intro k hk; simp (disch := omega) only [ev0, sl_cells, simprocAttr]; refine hk _ _ ?_; clear hk k) | refine ono rfl ?_ | (apply ocall; (case he => (simp only [ev0, sl_cells, simprocAttr] <;> rfl)); (case hc => first | exact cool_sum hG C (by omega) hCb); (case ht => rfl); (case hg => rfl)) | ((first | refine osplitG rfl (fun h => ?_) (fun h => ?_) | refine osplitB rfl (fun h => ?_) (fun h => ?_)) <;> (fail_if_success (simp only [eq_self, reduceCtorEq] at h))) | refine onx ?_ | refine onb ?_ | refine sreg ?_ | refine qT rfl ?_ | refine qF rfl ?_ | refine scondT rfl ?_ | refine scondF rfl ?_ | refine ocondP rfl (fun h => ?_) (fun h => ?_) | refine ocondB rfl (fun h => ?_) (fun h => ?_) | refine scondP rfl (fun h => ?_) (fun h => ?_) | refine scond rfl (fun h => ?_) (fun h => ?_) | refine oskip ?_ | refine oskipb ?_ | refine oret ?_ | refine sem_ret ?_ | refine sem_seq ?_ | refine sreg1 ?_)
                      refine onil (lnext (y + 1) ⟨by omega, fun j hj => ?_⟩ (by omega) ?_)
                      · by_cases e : j = y
                        · subst e; rw [hnd]; exact hneed
                        · exact hall j (by omega)
                      · rw [hsu, e1, hov, show ∀ v : Int, [[AV.int .i64 v]] = [intCs v] from fun _ => rfl, rowL_snoc, List.length_append]
                        (refine Le.drop ?_ rfl (by simp) rfl (by simp only [refM, refO, List.all_cons, List.all_nil, Bool.and_true, Bool.true_and, rowL_all (enc := intCs) (fun _ _ => rfl), CoolTown.cs, CoolTruth.cs]; first | done | rfl) ; simp only [List.forall_mem_cons, List.forall_mem_nil, getE, selE, Nat.reduceBEq, List.not_mem_nil, false_implies, implies_true, and_true, true_and, and_self])
                        simp [l1]
              · have hy' : y = t.houses.length := by omega
                subst hy'
                rw [if_pos ⟨ok, hc, l1, l2, hall, hall2⟩, hL]
                (refine sem_exit ?_; change sem _ _ _ _ _)
                refine sem_frzlist (enc := intCs) 2 rfl (fun _ => rfl) ?_
                simp only [frzE, frzM, frzO, frzA, frzL, List.map_cons, List.map_nil, List.set_cons_zero, List.set_cons_succ, Nat.reduceEqDiff, if_true, if_false, and_self, Nat.le_refl, reduceIte, frz_sl]
                repeat' (first | ((first | refine o1 rfl ?_ | refine o0 rfl ?_); intro k hk; simp (disch := omega) only [ev0, sl_cells, simprocAttr]; refine hk _ _ ?_; clear hk k) | refine ono rfl ?_ | ((first | refine osplitG rfl (fun h => ?_) (fun h => ?_) | refine osplitB rfl (fun h => ?_) (fun h => ?_)) <;> (fail_if_success (simp only [eq_self, reduceCtorEq] at h))) | refine onx ?_ | refine onb ?_ | refine sreg ?_ | refine qT rfl ?_ | refine qF rfl ?_ | refine scondT rfl ?_ | refine scondF rfl ?_ | refine ocondP rfl (fun h => ?_) (fun h => ?_) | refine ocondB rfl (fun h => ?_) (fun h => ?_) | refine scondP rfl (fun h => ?_) (fun h => ?_) | refine scond rfl (fun h => ?_) (fun h => ?_) | refine oskip ?_ | refine oskipb ?_ | refine oret ?_ | refine sem_ret ?_ | refine sem_seq ?_ | refine sreg1 ?_)
                exact ⟨_, rfl, _, rfl, tree_eq rfl rfl⟩
      · obtain ⟨l1, l2⟩ := hl
        have hb := cool_bits hG t ok.2.1.2 w (by omega)
        rw [if_neg hc, decide_eq_false hc] at hb
        rw [decide_eq_true ok] at hv
        rw [if_neg (fun hh => hc hh.2.1)]
        have q1 : ((x.needs.length : Int) = (t.houses.length : Int)) = True := eq_true (by omega)
        have q2 : ((x.gives.length : Int) = (t.sites.length : Int)) = True := eq_true (by omega)
        (refine holds_of_sem hG fn_cool_Play (by simp) fun w0 S0 hG0 D0 => ?_; unfold c_cool_Play cval enterEnv; simp only [List.zipIdx_cons, List.zipIdx_nil, List.map_cons, List.map_nil, Nat.zero_add, Nat.reduceAdd])
        repeat' (first | ((first | refine o1 rfl ?_ | refine o0 rfl ?_); intro k hk; simp (disch := omega) only [ev0, sl_cells, simprocAttr, CoolTown.cs, CoolTruth.cs, slOf, q1, q2]; refine hk _ _ ?_; clear hk k) | refine ono rfl ?_ | (apply ocall; (case he => (simp only [ev0, sl_cells, simprocAttr] <;> rfl)); (case hc => first | exact hv | exact hb); (case ht => rfl); (case hg => rfl)) | ((first | refine osplitG rfl (fun h => ?_) (fun h => ?_) | refine osplitB rfl (fun h => ?_) (fun h => ?_)) <;> (fail_if_success (simp only [eq_self, reduceCtorEq] at h))) | refine onx ?_ | refine onb ?_ | refine sreg ?_ | refine qT rfl ?_ | refine qF rfl ?_ | refine scondT rfl ?_ | refine scondF rfl ?_ | refine ocondP rfl (fun h => ?_) (fun h => ?_) | refine ocondB rfl (fun h => ?_) (fun h => ?_) | refine scondP rfl (fun h => ?_) (fun h => ?_) | refine scond rfl (fun h => ?_) (fun h => ?_) | refine oskip ?_ | refine oskipb ?_ | refine oret ?_ | refine sem_ret ?_ | refine sem_seq ?_ | refine sreg1 ?_)
        exact ⟨_, rfl, _, rfl, tree_eq rfl rfl⟩
    · rw [if_neg (fun hh => hl ⟨hh.2.2.1, hh.2.2.2.1⟩)]
      rw [decide_eq_true ok] at hv
      (refine holds_of_sem hG fn_cool_Play (by simp) fun w0 S0 hG0 D0 => ?_; unfold c_cool_Play cval enterEnv; simp only [List.zipIdx_cons, List.zipIdx_nil, List.map_cons, List.map_nil, Nat.zero_add, Nat.reduceAdd])
      repeat' (first | ((first | refine o1 rfl ?_ | refine o0 rfl ?_); intro k hk; simp (disch := omega) only [ev0, sl_cells, simprocAttr, CoolTown.cs, CoolTruth.cs, slOf]; refine hk _ _ ?_; clear hk k) | refine ono rfl ?_ | (apply ocall; (case he => (simp only [ev0, sl_cells, simprocAttr] <;> rfl)); (case hc => first | exact hv); (case ht => rfl); (case hg => rfl)) | ((first | refine osplitG rfl (fun h => ?_) (fun h => ?_) | refine osplitB rfl (fun h => ?_) (fun h => ?_)) <;> (fail_if_success (simp only [eq_self, reduceCtorEq] at h))) | refine onx ?_ | refine onb ?_ | refine sreg ?_ | refine qT rfl ?_ | refine qF rfl ?_ | refine scondT rfl ?_ | refine scondF rfl ?_ | refine ocondP rfl (fun h => ?_) (fun h => ?_) | refine ocondB rfl (fun h => ?_) (fun h => ?_) | refine scondP rfl (fun h => ?_) (fun h => ?_) | refine scond rfl (fun h => ?_) (fun h => ?_) | refine oskip ?_ | refine oskipb ?_ | refine oret ?_ | refine sem_ret ?_ | refine sem_seq ?_ | refine sreg1 ?_)
      all_goals first
        | exact ⟨_, rfl, _, rfl, tree_eq rfl rfl⟩
        | (exfalso; (try simp only [Bool.not_eq_true', Bool.not_eq_false', decide_eq_true_eq, decide_eq_false_iff_not] at *); omega)
  · rw [if_neg (fun hh => ok hh.1)]
    rw [decide_eq_false ok] at hv
    (refine holds_of_sem hG fn_cool_Play (by simp) fun w0 S0 hG0 D0 => ?_; unfold c_cool_Play cval enterEnv; simp only [List.zipIdx_cons, List.zipIdx_nil, List.map_cons, List.map_nil, Nat.zero_add, Nat.reduceAdd])
    repeat' (first | ((first | refine o1 rfl ?_ | refine o0 rfl ?_); intro k hk; simp (disch := omega) only [ev0, sl_cells, simprocAttr]; refine hk _ _ ?_; clear hk k) | refine ono rfl ?_ | (apply ocall; (case he => (simp only [ev0, sl_cells, simprocAttr] <;> rfl)); (case hc => first | exact hv); (case ht => rfl); (case hg => rfl)) | ((first | refine osplitG rfl (fun h => ?_) (fun h => ?_) | refine osplitB rfl (fun h => ?_) (fun h => ?_)) <;> (fail_if_success (simp only [eq_self, reduceCtorEq] at h))) | refine onx ?_ | refine onb ?_ | refine sreg ?_ | refine qT rfl ?_ | refine qF rfl ?_ | refine scondT rfl ?_ | refine scondF rfl ?_ | refine ocondP rfl (fun h => ?_) (fun h => ?_) | refine ocondB rfl (fun h => ?_) (fun h => ?_) | refine scondP rfl (fun h => ?_) (fun h => ?_) | refine scond rfl (fun h => ?_) (fun h => ?_) | refine oskip ?_ | refine oskipb ?_ | refine oret ?_ | refine sem_ret ?_ | refine sem_seq ?_ | refine sreg1 ?_)
    exact ⟨_, rfl, _, rfl, tree_eq rfl rfl⟩
end Go.Proofs.Ytnempffajbdneaa

/- asked; the law CoolPlays over trees. -/
set_option linter.unusedVariables false
set_option linter.unusedSimpArgs false
set_option maxRecDepth 8000
set_option maxHeartbeats 4000000
namespace Go.Proofs.Ytnempffajbdneaa
open Go Go.Av Go.Tk
attribute [local irreducible] Holds sem semL ACalls FnIs
variable {G : World → Prop} (hG : ∀ w w', G w → RowKit.Below w.heap.size w w' → G w')
include hG
theorem law03_asked (t : CoolTown) (ht : t.short) (l : List Int) (hl : l.length ≤ 1000) : Holds Try.prog G F.law03_asked [.agg t.cs, slOf intCs l] (B (decide (t.ok ∧ coolersOk t.sites.length l))) := by
  have hT := ref03_Town hG t ht
  have hn := ht.2.1
  have hC := ref03_Coolers hG t (by omega) l hl
  (refine holds_of_sem hG fn_law03_asked (by simp) fun w0 S0 hG0 D0 => ?_; unfold c_law03_asked cval enterEnv; simp only [List.zipIdx_cons, List.zipIdx_nil, List.map_cons, List.map_nil, Nat.zero_add, Nat.reduceAdd])
  repeat' (first | ((first | refine o1 rfl ?_ | refine o0 rfl ?_); intro k hk; simp (disch := omega) only [ev0, sl_cells, simprocAttr]; refine hk _ _ ?_; clear hk k) | refine ono rfl ?_ | (apply ocall; (case he => (simp only [ev0, sl_cells, simprocAttr] <;> rfl)); (case hc => first | exact hT | exact hC); (case ht => rfl); (case hg => rfl)) | ((first | refine osplitG rfl (fun h => ?_) (fun h => ?_) | refine osplitB rfl (fun h => ?_) (fun h => ?_)) <;> (fail_if_success (simp only [eq_self, reduceCtorEq] at h))) | refine onx ?_ | refine onb ?_ | refine sreg ?_ | refine qT rfl ?_ | refine qF rfl ?_ | refine scondT rfl ?_ | refine scondF rfl ?_ | refine ocondP rfl (fun h => ?_) (fun h => ?_) | refine ocondB rfl (fun h => ?_) (fun h => ?_) | refine scondP rfl (fun h => ?_) (fun h => ?_) | refine scond rfl (fun h => ?_) (fun h => ?_) | refine oskip ?_ | refine oskipb ?_ | refine oret ?_ | refine sem_ret ?_ | refine sem_seq ?_ | refine sreg1 ?_)
  all_goals exact ⟨_, rfl, _, rfl, tree_eq rfl (by (try simp only [Bool.not_not, Bool.not_eq_true', Bool.not_eq_false', Bool.not_eq_true, Bool.not_eq_false, decide_eq_true_eq, decide_eq_false_iff_not, bne_iff_ne, ne_eq, beq_iff_eq] at *); simp only [getE, selE, Nat.reduceBEq]; apply congrArg AV.bool; rw [Bool.eq_iff_iff]; simp only [Bool.not_not, Bool.not_eq_true', Bool.not_eq_false', Bool.not_eq_true, Bool.not_eq_false, decide_eq_true_eq, decide_eq_false_iff_not, bne_iff_ne, ne_eq, beq_iff_eq, true_iff, iff_true, Bool.false_eq_true, Bool.true_eq_false, false_iff, iff_false]; first | done | grind)⟩

theorem law03_CoolPlays (t : CoolTown) (w : List Int) (x : CoolTruth) : Holds Try.prog G F.law03_CoolPlays [.agg t.cs, slOf intCs w, .agg x.cs] (B true) := by
  have hS := law03_short hG t
  have hZ := law03_sized hG x
  have hK := law03_known hG
  by_cases hs : t.short ∧ x.short ∧ w.length ≤ 15
  · obtain ⟨h1, h2, h3⟩ := hs
    have q : ¬ (15 : Int) < w.length := by omega
    have hA := law03_asked hG t h1 w (by omega)
    have hP := cool_Play hG t h1 x h2 w h3
    rw [decide_eq_true h1] at hS
    rw [decide_eq_true h2] at hZ
    by_cases ha : t.ok ∧ coolersOk t.sites.length w
    · have hT := ref03_Truth hG t x ha.1 h2
      rw [decide_eq_true ha] at hA
      by_cases htr : truthOk t x
      · have hb := htr.b ha.1
        have hO := ref03_Over hG t x hb (by have := ha.1.1.2; omega) w (by omega) ha.2.mem
        have hl := overL_len t.houses.length x w
        have hE := ref03_Same hG (overL t.houses.length x w) (overL t.houses.length x w) (by have := ha.1.1.2; omega) (by have := ha.1.1.2; omega)
        rw [decide_eq_true rfl] at hE
        rw [if_pos ⟨ha.1, ha.2, htr⟩] at hP
        rw [decide_eq_true htr] at hT
        generalize overL t.houses.length x w = L at *
        (refine holds_of_sem hG fn_law03_CoolPlays (by simp) fun w0 S0 hG0 D0 => ?_; unfold c_law03_CoolPlays cval enterEnv; simp only [List.zipIdx_cons, List.zipIdx_nil, List.map_cons, List.map_nil, Nat.zero_add, Nat.reduceAdd])
        repeat' (first | ((first | refine o1 rfl ?_ | refine o0 rfl ?_); intro k hk; simp (disch := omega) only [ev0, sl_cells, simprocAttr, slOf, q]; refine hk _ _ ?_; clear hk k) | refine ono rfl ?_ | (apply ocall; (case he => (simp only [ev0, sl_cells, simprocAttr] <;> rfl)); (case hc => first | exact hS | exact hZ | exact hK | exact hA | exact hP | exact hT | exact hO | exact hE); (case ht => rfl); (case hg => rfl)) | ((first | refine osplitG rfl (fun h => ?_) (fun h => ?_) | refine osplitB rfl (fun h => ?_) (fun h => ?_)) <;> (fail_if_success (simp only [eq_self, reduceCtorEq] at h))) | refine onx ?_ | refine onb ?_ | refine sreg ?_ | refine qT rfl ?_ | refine qF rfl ?_ | refine scondT rfl ?_ | refine scondF rfl ?_ | refine ocondP rfl (fun h => ?_) (fun h => ?_) | refine ocondB rfl (fun h => ?_) (fun h => ?_) | refine scondP rfl (fun h => ?_) (fun h => ?_) | refine scond rfl (fun h => ?_) (fun h => ?_) | refine oskip ?_ | refine oskipb ?_ | refine oret ?_ | refine sem_ret ?_ | refine sem_seq ?_ | refine sreg1 ?_)
        exact ⟨_, rfl, _, rfl, tree_eq rfl rfl⟩
      · rw [if_neg (fun hh => htr hh.2.2)] at hP
        rw [decide_eq_false htr] at hT
        (refine holds_of_sem hG fn_law03_CoolPlays (by simp) fun w0 S0 hG0 D0 => ?_; unfold c_law03_CoolPlays cval enterEnv; simp only [List.zipIdx_cons, List.zipIdx_nil, List.map_cons, List.map_nil, Nat.zero_add, Nat.reduceAdd])
        repeat' (first | ((first | refine o1 rfl ?_ | refine o0 rfl ?_); intro k hk; simp (disch := omega) only [ev0, sl_cells, simprocAttr, slOf, q]; refine hk _ _ ?_; clear hk k) | refine ono rfl ?_ | (apply ocall; (case he => (simp only [ev0, sl_cells, simprocAttr] <;> rfl)); (case hc => first | exact hS | exact hZ | exact hK | exact hA | exact hP | exact hT); (case ht => rfl); (case hg => rfl)) | ((first | refine osplitG rfl (fun h => ?_) (fun h => ?_) | refine osplitB rfl (fun h => ?_) (fun h => ?_)) <;> (fail_if_success (simp only [eq_self, reduceCtorEq] at h))) | refine onx ?_ | refine onb ?_ | refine sreg ?_ | refine qT rfl ?_ | refine qF rfl ?_ | refine scondT rfl ?_ | refine scondF rfl ?_ | refine ocondP rfl (fun h => ?_) (fun h => ?_) | refine ocondB rfl (fun h => ?_) (fun h => ?_) | refine scondP rfl (fun h => ?_) (fun h => ?_) | refine scond rfl (fun h => ?_) (fun h => ?_) | refine oskip ?_ | refine oskipb ?_ | refine oret ?_ | refine sem_ret ?_ | refine sem_seq ?_ | refine sreg1 ?_)
        exact ⟨_, rfl, _, rfl, tree_eq rfl rfl⟩
    · rw [if_neg (fun hh => ha ⟨hh.1, hh.2.1⟩)] at hP
      rw [decide_eq_false ha] at hA
      (refine holds_of_sem hG fn_law03_CoolPlays (by simp) fun w0 S0 hG0 D0 => ?_; unfold c_law03_CoolPlays cval enterEnv; simp only [List.zipIdx_cons, List.zipIdx_nil, List.map_cons, List.map_nil, Nat.zero_add, Nat.reduceAdd])
      repeat' (first | ((first | refine o1 rfl ?_ | refine o0 rfl ?_); intro k hk; simp (disch := omega) only [ev0, sl_cells, simprocAttr, slOf, q]; refine hk _ _ ?_; clear hk k) | refine ono rfl ?_ | (apply ocall; (case he => (simp only [ev0, sl_cells, simprocAttr] <;> rfl)); (case hc => first | exact hS | exact hZ | exact hK | exact hA | exact hP); (case ht => rfl); (case hg => rfl)) | ((first | refine osplitG rfl (fun h => ?_) (fun h => ?_) | refine osplitB rfl (fun h => ?_) (fun h => ?_)) <;> (fail_if_success (simp only [eq_self, reduceCtorEq] at h))) | refine onx ?_ | refine onb ?_ | refine sreg ?_ | refine qT rfl ?_ | refine qF rfl ?_ | refine scondT rfl ?_ | refine scondF rfl ?_ | refine ocondP rfl (fun h => ?_) (fun h => ?_) | refine ocondB rfl (fun h => ?_) (fun h => ?_) | refine scondP rfl (fun h => ?_) (fun h => ?_) | refine scond rfl (fun h => ?_) (fun h => ?_) | refine oskip ?_ | refine oskipb ?_ | refine oret ?_ | refine sem_ret ?_ | refine sem_seq ?_ | refine sreg1 ?_)
      exact ⟨_, rfl, _, rfl, tree_eq rfl rfl⟩
  · (refine holds_of_sem hG fn_law03_CoolPlays (by simp) fun w0 S0 hG0 D0 => ?_; unfold c_law03_CoolPlays cval enterEnv; simp only [List.zipIdx_cons, List.zipIdx_nil, List.map_cons, List.map_nil, Nat.zero_add, Nat.reduceAdd])
    repeat' (first | ((first | refine o1 rfl ?_ | refine o0 rfl ?_); intro k hk; simp (disch := omega) only [ev0, sl_cells, simprocAttr, slOf]; refine hk _ _ ?_; clear hk k) | refine ono rfl ?_ | (apply ocall; (case he => (simp only [ev0, sl_cells, simprocAttr] <;> rfl)); (case hc => first | exact hS | exact hZ | exact hK); (case ht => rfl); (case hg => rfl)) | ((first | refine osplitG rfl (fun h => ?_) (fun h => ?_) | refine osplitB rfl (fun h => ?_) (fun h => ?_)) <;> (fail_if_success (simp only [eq_self, reduceCtorEq] at h))) | refine onx ?_ | refine onb ?_ | refine sreg ?_ | refine qT rfl ?_ | refine qF rfl ?_ | refine scondT rfl ?_ | refine scondF rfl ?_ | refine ocondP rfl (fun h => ?_) (fun h => ?_) | refine ocondB rfl (fun h => ?_) (fun h => ?_) | refine scondP rfl (fun h => ?_) (fun h => ?_) | refine scond rfl (fun h => ?_) (fun h => ?_) | refine oskip ?_ | refine oskipb ?_ | refine oret ?_ | refine sem_ret ?_ | refine sem_seq ?_ | refine sreg1 ?_)
    all_goals first
      | exact ⟨_, rfl, _, rfl, tree_eq rfl rfl⟩
      | (exfalso; (try simp only [Bool.not_eq_true', Bool.not_eq_false', decide_eq_true_eq, decide_eq_false_iff_not] at *); grind)
      | trace_state
end Go.Proofs.Ytnempffajbdneaa
