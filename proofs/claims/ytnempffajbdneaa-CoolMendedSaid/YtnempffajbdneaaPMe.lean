/- The cool document's data as Lean's, and as trees. -/
import Derived.Test.YtnempffajbdneaaPMo
import Derived.Test.YtnempffajbdneaaPCCode
set_option linter.unusedVariables false
set_option linter.unusedSimpArgs false
set_option maxRecDepth 8000
namespace Go.Tk
open Go Go.Av
structure CoolHouse where
  need : Span
  grace : Int
  deriving Inhabited, DecidableEq
def CoolHouse.cs (h : CoolHouse) : List AV := [.int .i64 h.need.low, .int .i64 h.need.high, .int .i64 h.grace]
structure CoolSite where
  cost : Int
  weeks : Int
  gives : List Span
  deriving Inhabited, DecidableEq
def CoolSite.cs (s : CoolSite) : List AV := [.int .i64 s.cost, .int .i64 s.weeks, slOf Span.cs s.gives]
structure CoolTown where
  houses : List CoolHouse
  sites : List CoolSite
  deriving Inhabited, DecidableEq
def CoolTown.cs (t : CoolTown) : List AV := [slOf CoolHouse.cs t.houses, slOf CoolSite.cs t.sites]
structure CoolTruth where
  needs : List Int
  gives : List (List Int)
  deriving Inhabited, DecidableEq
def CoolTruth.cs (x : CoolTruth) : List AV := [slOf intCs x.needs, slOf intsCs x.gives]
end Go.Tk
namespace Go.Proofs.Ytnempffajbdneaa
open Go Go.Av Go.Tk
theorem hmix : Try.prog.follows .mixedOrders = true := by kernel_rfl
end Go.Proofs.Ytnempffajbdneaa
set_option linter.unusedVariables false
namespace Go.Tk
open Go Go.Av
section
variable {id g sz n : Nat} {F : Nat → List AV}
theorem frz_span (t : Span) : frzL id g sz n F t.cs = t.cs := rfl
theorem frz_house (t : CoolHouse) : frzL id g sz n F t.cs = t.cs := rfl
theorem frz_csite (t : CoolSite) : frzL id g sz n F t.cs = t.cs := rfl
theorem frz_town (t : CoolTown) : frzL id g sz n F t.cs = t.cs := rfl
theorem frz_truth (t : CoolTruth) : frzL id g sz n F t.cs = t.cs := rfl
end
end Go.Tk
set_option linter.unusedVariables false
set_option linter.unusedSimpArgs false
namespace Go.Tk
open Go Go.Av
theorem i64_bits : IntKind.i64.bits = 64 := rfl
theorem wrapN {n : Nat} (h : n < 9223372036854775808) : IntKind.i64.wrap (n : Int) = n := wrap_i64' (by omega)
theorem shlN : ∀ n : Nat, n ≤ 15 → IntKind.i64.wrap (1 * 2 ^ (min n IntKind.i64.bits)) = ((2 ^ n : Nat) : Int) := by decide
theorem orN {a b : Nat} (ha : a < 1048576) (hb : b < 1048576) : IntKind.i64.wrap ((BitVec.ofInt IntKind.i64.bits (a : Int) ||| BitVec.ofInt IntKind.i64.bits (b : Int)).toNat : Int) = ((a ||| b : Nat) : Int) := by
  have h : (a ||| b) < 2 ^ 20 := Nat.or_lt_two_pow (n := 20) ha hb
  rw [BitVec.ofInt_natCast, BitVec.ofInt_natCast, BitVec.toNat_or, BitVec.toNat_ofNat, BitVec.toNat_ofNat, i64_bits, Nat.mod_eq_of_lt (by omega), Nat.mod_eq_of_lt (by omega), wrapN (by omega)]
def diffN (a b : Nat) : Nat := (BitVec.ofNat 64 a &&& ~~~BitVec.ofNat 64 b).toNat
theorem diffN_le (a b : Nat) (ha : a < 2 ^ 64) : diffN a b ≤ a := by
  unfold diffN
  rw [BitVec.toNat_and, BitVec.toNat_ofNat, Nat.mod_eq_of_lt ha]
  exact Nat.and_le_left
theorem diffN_bit {a b : Nat} (ha : a < 2 ^ 64) (i : Nat) : (diffN a b).testBit i = (a.testBit i && !b.testBit i) := by
  unfold diffN
  rw [BitVec.testBit_toNat, BitVec.getLsbD_and, BitVec.getLsbD_not, BitVec.getLsbD_ofNat, BitVec.getLsbD_ofNat]
  by_cases h : i < 64
  · simp [h]
  · have : a.testBit i = false := Nat.testBit_lt_two_pow (Nat.lt_of_lt_of_le ha (Nat.pow_le_pow_right (by decide) (by omega)))
    simp [this]
theorem andNotN {a b : Nat} (ha : a < 1048576) : IntKind.i64.wrap ((BitVec.ofInt IntKind.i64.bits (a : Int) &&& ~~~BitVec.ofInt IntKind.i64.bits (b : Int)).toNat : Int) = (diffN a b : Int) := by
  rw [BitVec.ofInt_natCast, BitVec.ofInt_natCast]
  change IntKind.i64.wrap ((diffN a b : Nat) : Int) = _
  have := diffN_le a b (by omega)
  rw [wrapN (by omega)]
theorem hasN {a i : Nat} (ha : a < 1048576) (hi : i ≤ 15) : (IntKind.i64.wrap ((BitVec.ofInt IntKind.i64.bits (((a : Int)).fdiv (2 ^ (min i IntKind.i64.bits))) &&& BitVec.ofInt IntKind.i64.bits 1).toNat : Int) = 1) = (a.testBit i = true) := by
  have e1 : min i IntKind.i64.bits = i := by rw [i64_bits]; omega
  have e2 : ((a : Int)).fdiv (2 ^ i) = ((a / 2 ^ i : Nat) : Int) := by
    rw [Int.fdiv_eq_ediv_of_nonneg _ (Int.le_of_lt (Int.pow_pos (by decide)))]
    simp
  have e3 : BitVec.ofInt IntKind.i64.bits 1 = BitVec.ofNat IntKind.i64.bits 1 := rfl
  have h1 : a / 2 ^ i ≤ a := Nat.div_le_self _ _
  rw [e1, e2, e3, BitVec.ofInt_natCast, BitVec.toNat_and, BitVec.toNat_ofNat, BitVec.toNat_ofNat, i64_bits, Nat.mod_eq_of_lt (by omega), show 1 % 2 ^ 64 = 1 from rfl, Nat.and_one_is_mod, wrapN (by omega), Nat.testBit_eq_decide_div_mod_eq]
  simp only [decide_eq_true_eq, eq_iff_iff]
  omega
/-- The set of a list. -/
def setB : List Int → Nat
  | [] => 0
  | x :: l => 2 ^ x.toNat ||| setB l
def listB (m : Nat) : List Int := ((List.range 10).filter fun i => m.testBit i).map fun i : Nat => (i : Int)
theorem setB_append : ∀ l m : List Int, setB (l ++ m) = setB l ||| setB m
  | [], m => by simp [setB]
  | x :: l, m => by simp only [List.cons_append, setB, setB_append l m, Nat.or_assoc]
theorem setB_take {l : List Int} {i : Nat} (h : i < l.length) : setB (l.take (i + 1)) = setB (l.take i) ||| 2 ^ (l.getD i default).toNat := by
  rw [List.take_add_one, List.getElem?_eq_getElem h, setB_append, getD_lt h]
  simp [setB]
theorem setB_bit {i : Nat} : ∀ {l : List Int}, (∀ x ∈ l, 0 ≤ x) → ((setB l).testBit i = true ↔ (i : Int) ∈ l)
  | [], _ => by simp [setB]
  | x :: l, h => by
    have ih := setB_bit (i := i) (l := l) fun y hy => h y (List.mem_cons_of_mem _ hy)
    have hx := h x (List.mem_cons_self)
    simp only [setB, Nat.testBit_or, Bool.or_eq_true, ih, List.mem_cons, Nat.testBit_two_pow, decide_eq_true_eq]
    exact or_congr ⟨fun h => by omega, fun h => by omega⟩ Iff.rfl
theorem setB_lt {n : Nat} : ∀ {l : List Int}, (∀ x ∈ l, 0 ≤ x ∧ x < n) → setB l < 2 ^ n
  | [], _ => Nat.two_pow_pos n
  | x :: l, h => by
    have ih := setB_lt (l := l) fun y hy => h y (List.mem_cons_of_mem _ hy)
    have hx := h x (List.mem_cons_self)
    exact Nat.or_lt_two_pow (Nat.pow_lt_pow_right (by decide) (by omega)) ih
theorem listB_mem {m : Nat} {x : Int} : x ∈ listB m ↔ ∃ i : Nat, x = i ∧ i < 10 ∧ m.testBit i = true := by
  unfold listB
  simp only [List.mem_map, List.mem_filter, List.mem_range]
  constructor
  · rintro ⟨i, ⟨h1, h2⟩, rfl⟩; exact ⟨i, rfl, h1, h2⟩
  · rintro ⟨i, rfl, h1, h2⟩; exact ⟨i, ⟨h1, h2⟩, rfl⟩
theorem listB_up (m : Nat) : (listB m).Pairwise (· < ·) := by
  unfold listB
  rw [List.pairwise_map]
  exact (List.pairwise_lt_range.filter _).imp fun h => by omega
theorem up_ext : ∀ {l m : List Int}, l.Pairwise (· < ·) → m.Pairwise (· < ·) → (∀ x, x ∈ l ↔ x ∈ m) → l = m
  | [], [], _, _, _ => rfl
  | [], y :: m, _, _, h => absurd ((h y).2 List.mem_cons_self) (by simp)
  | x :: l, [], _, _, h => absurd ((h x).1 List.mem_cons_self) (by simp)
  | x :: l, y :: m, h1, h2, h => by
    obtain ⟨a1, a2⟩ := List.pairwise_cons.1 h1
    obtain ⟨b1, b2⟩ := List.pairwise_cons.1 h2
    have e : x = y := by
      rcases List.mem_cons.1 ((h x).1 List.mem_cons_self) with e | e
      · exact e
      · rcases List.mem_cons.1 ((h y).2 List.mem_cons_self) with e' | e'
        · exact e'.symm
        · have := b1 x e; have := a1 y e'; omega
    subst e
    rw [up_ext a2 b2 fun z => ?_]
    constructor
    · intro hz
      rcases List.mem_cons.1 ((h z).1 (List.mem_cons_of_mem _ hz)) with e | e
      · subst e; have := a1 z hz; omega
      · exact e
    · intro hz
      rcases List.mem_cons.1 ((h z).2 (List.mem_cons_of_mem _ hz)) with e | e
      · subst e; have := b1 z hz; omega
      · exact e
theorem listB_len (m : Nat) : (listB m).length ≤ 10 := by
  unfold listB
  rw [List.length_map]
  exact Nat.le_trans (List.length_filter_le _ _) (by simp)
theorem up_of_step {l : List Int} (h : ∀ i, i < l.length → 0 < i → l.getD (i - 1) default < l.getD i default) : l.Pairwise (· < ·) := by
  rw [List.pairwise_iff_getElem]
  intro i j hi hj hij
  have : ∀ d, ∀ (hd : i + 1 + d < l.length), l[i] < l[i + 1 + d] := by
    intro d
    induction d with
    | zero =>
      intro hd
      have := h (i + 1) hd (by omega)
      rw [getD_lt hd, show i + 1 - 1 = i by omega, getD_lt hi] at this
      exact this
    | succ d ih =>
      intro hd
      have h1 := ih (by omega)
      have h2 := h (i + 1 + (d + 1)) hd (by omega)
      rw [getD_lt hd, getD_lt (show i + 1 + (d + 1) - 1 < l.length by omega)] at h2
      have : l[i + 1 + (d + 1) - 1]'(by omega) = l[i + 1 + d]'(by omega) := by congr 1
      omega
  have h2 := this (j - (i + 1)) (by omega)
  have : l[i + 1 + (j - (i + 1))]'(by omega) = l[j] := by congr 1; omega
  omega
theorem listB_setB {n : Nat} (hn : n ≤ 10) {l : List Int} (h : ∀ x ∈ l, 0 ≤ x ∧ x < n) (hu : l.Pairwise (· < ·)) : listB (setB l) = l := by
  refine up_ext (listB_up _) hu fun x => ?_
  rw [listB_mem]
  constructor
  · rintro ⟨i, rfl, -, h2⟩
    exact (setB_bit fun y hy => (h y hy).1).1 h2
  · intro hx
    have hb := h x hx
    refine ⟨x.toNat, by omega, by omega, (setB_bit fun y hy => (h y hy).1).2 ?_⟩
    rw [show ((x.toNat : Nat) : Int) = x by omega]
    exact hx
end Go.Tk
set_option linter.unusedVariables false
set_option linter.unusedSimpArgs false
namespace Go.Proofs.Ytnempffajbdneaa
open Go Go.Av Go.Tk

def idxI : Option Nat → Int
  | some i => i
  | none => -1

def IFl (sz : Nat) (agg : Bool) : SCode := .seq (.reg [⟨some 9, none, .bin .lss (.t 8) (.t 7)⟩]) (.seq (.cond (.t 9) .skip (.exit 0)) (.seq (.block 1 (.seq (.reg [⟨some 10, none, .mv (.t 8)⟩, ⟨some 5, none, .mv (.t 10)⟩]) (.seq (.reg [⟨some 11, none, .mv (.t 1)⟩, ⟨some 12, none, .mv (.t 0)⟩, ⟨some 13, none, .mv (.t 5)⟩, ⟨some 14, none, .ixS sz (.t 12) (.t 13)⟩, ⟨some 15, none, .load agg sz (.t 14)⟩, ⟨some 16, none, .dyn (.t 11) [.t 15]⟩]) (.cond (.t 16) (.seq (.reg [⟨some 17, none, .mv (.t 5)⟩, ⟨some 4, none, .mv (.t 17)⟩]) .ret) .skip)))) (.reg [⟨some 18, none, .bin .add (.t 8) (.c (.int .i64 1))⟩, ⟨some 8, none, .mv (.t 18)⟩])))
def IFc (sz : Nat) (agg : Bool) : SCode := .seq (.reg [⟨some 4, none, .mv (.c (.int .i64 0))⟩]) (.seq (.seq (.reg [⟨some 6, none, .mv (.t 0)⟩, ⟨some 7, none, .len (.t 6)⟩, ⟨some 8, none, .mv (.c (.int .i64 0))⟩]) (.block 0 (.loop (IFl sz agg)))) (.seq (.reg [⟨some 4, none, .mv (.c (.int .i64 (-1)))⟩]) .ret))

/-- The element as it is loaded. -/
def elemOf (agg : Bool) (cs : List AV) : AV := match agg with | true => .agg cs | false => cs.getD 0 .dead

theorem oS {K : Ctx} {F : Fcx} {Q : AExit → St → Prop} {env : List (Nat × AV)} {μ μ' : List AObj} {d : Nat} {op : SOp} {x : AV} {l : List SOper} (hs : sopA op env μ = some (x, μ')) (h : semL K F l ⟨(d, x) :: env, μ'⟩ Q) : semL K F (⟨some d, none, op⟩ :: l) ⟨env, μ⟩ Q :=
  semL_op (σ := ⟨env, μ⟩) rfl hs h

theorem ix_elem {α : Type} [Inhabited α] {enc : α → List AV} {l : List α} {i sz : Nat} (hi : i < l.length) (hsz : ∀ a, (enc a).length = sz) (μ : List AObj) : ixS sz (.sl l.length fun i => enc (l.getD i default)) (I i) μ = some (.tptr (enc l[i]) 0) := by
  simp only [ixS]
  rw [if_pos ⟨by omega, by omega⟩, Int.toNat_natCast, if_pos (hsz _), getD_lt hi]

theorem load_elem {cs : List AV} {sz : Nat} {agg : Bool} (hsz : cs.length = sz) (h1 : agg = false → sz = 1) (μ : List AObj) : loadA agg sz (.tptr cs 0) μ = some (elemOf agg cs) := by
  cases agg with
  | true =>
    simp only [loadA, place, if_true, Nat.zero_add, List.drop_zero, elemOf]
    rw [if_pos (by omega), List.take_of_length_le (by omega)]
  | false =>
    have := h1 rfl
    subst this
    match cs, hsz with
    | [x], _ => rfl

attribute [local irreducible] Holds sem semL ACalls FnIs
variable {G : World → Prop} (hG : ∀ w w', G w → RowKit.Below w.heap.size w w' → G w')
include hG

theorem indexFunc {P : Program} {α : Type} [Inhabited α] {f m sz : Nat} {agg : Bool} (hf : FnIs P f m (IFc sz agg) [.tmp 4]) (hm : 2 ≤ m) (enc : α → List AV) (hsz : ∀ a, (enc a).length = sz) (h1 : agg = false → sz = 1) (htr : ∀ a, treeL (enc a) = true) (l : List α) (hlen : l.length ≤ 4611686018427387904)
    {g : Nat} {fi ca : List AV} (ht : treeL fi = true) (ht2 : treeL ca = true) (p : α → Bool) (hp : ∀ a ∈ l, Holds P G g (fi ++ [elemOf agg (enc a)] ++ ca) (.bool (p a))) :
    Holds P G f [slOf enc l, .fn (.func g) fi ca] (I (idxI (l.findIdx? p))) := by
  refine holds_of_sem hG hf (by simpa using hm) fun w0 S0 hG0 D0 => ?_
  unfold IFc enterEnv
  simp only [List.zipIdx_cons, List.zipIdx_nil, List.map_cons, List.map_nil, Nat.zero_add, Nat.reduceAdd]
  refine sreg ?_
  repeat (first | ((first | refine o1 rfl ?_ | refine o0 rfl ?_); intro k hk; simp (disch := omega) only [ev0, sl_cells, simprocAttr]; refine hk _ _ ?_; clear hk k) | refine ono rfl ?_)
  refine onx (sem_seq (sreg ?_))
  repeat (first | ((first | refine o1 rfl ?_ | refine o0 rfl ?_); intro k hk; simp (disch := omega) only [ev0, sl_cells, simprocAttr, slOf]; refine hk _ _ ?_; clear hk k) | refine ono rfl ?_)
  refine onx (sem_block ?_)
  refine sem_loop (α := Nat) (fun i => ⟨[(0, slOf enc l), (1, .fn (.func g) fi ca), (7, I l.length), (8, I i)], []⟩) (fun i => i ≤ l.length ∧ ∀ j, j < i → ∀ a, l[j]? = some a → p a = false) (fun i => l.length - i) 0 ⟨Nat.zero_le _, fun j hj => absurd hj (Nat.not_lt_zero _)⟩ ?_ ?_
  · (refine Le.same ?_; simp only [List.forall_mem_cons, List.forall_mem_nil, getE, selE, Nat.reduceBEq, List.not_mem_nil, false_implies, implies_true, and_true, true_and, and_self])
    simp [slOf]
  · rintro i ⟨hi, hall⟩
    unfold IFl
    refine sem_seq (sreg1 ?_)
    repeat (first | ((first | refine o1 rfl ?_ | refine o0 rfl ?_); intro k hk; simp (disch := omega) only [ev0, sl_cells, simprocAttr]; refine hk _ _ ?_; clear hk k) | refine ono rfl ?_)
    refine onx (sem_seq (scondP (by (simp only [wv, simprocAttr] <;> rfl)) (fun h => ?_) (fun h => ?_)))
    · have hg : l.getD i default = l[i] := getD_lt (by omega)
      have htl : treeL (fi ++ [elemOf agg (enc (l.getD i default))] ++ ca) = true := treeL_append (treeL_append ht (by
        simp only [treeL, Bool.and_true, elemOf]
        cases agg with
        | true => exact htr _
        | false =>
          have := hsz (l.getD i default)
          rw [h1 rfl] at this
          match h2 : enc (l.getD i default), this with
          | [x], _ =>
            have := htr (l.getD i default)
            rw [h2] at this
            simpa [treeL] using this)) ht2
      refine sem_skip (nx (sem_seq (sem_block (sem_seq (sreg1 ?_)))))
      repeat (first | ((first | refine o1 rfl ?_ | refine o0 rfl ?_); intro k hk; simp (disch := omega) only [ev0, sl_cells, simprocAttr]; refine hk _ _ ?_; clear hk k) | refine ono rfl ?_)
      refine onx (sem_seq (sreg1 ?_))
      repeat (first | ((first | refine o1 rfl ?_ | refine o0 rfl ?_); intro k hk; simp (disch := omega) only [ev0, sl_cells, simprocAttr, slOf]; refine hk _ _ ?_; clear hk k) | refine ono rfl ?_)
      refine oS (by simp only [sopA, evX, getE, selE, Nat.reduceBEq, ix_elem (show i < l.length by omega) hsz, withMu, Option.map_some]; rfl) ?_
      refine oS (by simp only [sopA, evX, getE, selE, Nat.reduceBEq, load_elem (hsz l[i]) h1, withMu, Option.map_some]; rfl) ?_
      rw [hg] at htl
      (apply odyn; (case hx => (simp only [ev0, sl_cells, simprocAttr] <;> rfl)); (case he => (simp only [ev0, sl_cells, simprocAttr] <;> rfl)); (case hc => exact hp l[i] (List.getElem_mem _)); (case ht => first | rfl | assumption); (case hg => rfl))
      refine onx (scond (by (simp only [wv, simprocAttr] <;> rfl)) (fun hc => ?_) (fun hc => ?_))
      · refine sreg ?_
        repeat (first | ((first | refine o1 rfl ?_ | refine o0 rfl ?_); intro k hk; simp (disch := omega) only [ev0, sl_cells, simprocAttr]; refine hk _ _ ?_; clear hk k) | refine ono rfl ?_)
        refine onx (sem_ret ?_)
        have : l.findIdx? p = some i := by
          rw [List.findIdx?_eq_some_iff_getElem]
          exact ⟨by omega, hc, fun j hj => by have := hall j hj _ (List.getElem?_eq_getElem (by omega)); simp [this]⟩
        exact ⟨_, rfl, _, rfl, tree_eq rfl (by simp [getE, selE, this, idxI])⟩
      · refine sem_skip ?_
        refine (show sem _ _ _ _ _ from sreg1 ?_)
        repeat (first | ((first | refine o1 rfl ?_ | refine o0 rfl ?_); intro k hk; simp (disch := omega) only [ev0, sl_cells, simprocAttr]; refine hk _ _ ?_; clear hk k) | refine ono rfl ?_)
        refine onil (lnext (i + 1) ⟨by omega, fun j hj a ha => ?_⟩ (by omega) ?_)
        · by_cases hji : j = i
          · subst hji
            rw [List.getElem?_eq_getElem (by omega)] at ha
            cases ha; exact hc
          · exact hall j (by omega) a ha
        · (refine Le.same ?_; simp only [List.forall_mem_cons, List.forall_mem_nil, getE, selE, Nat.reduceBEq, List.not_mem_nil, false_implies, implies_true, and_true, true_and, and_self])
          simp
    · have hi' : i = l.length := by omega
      subst hi'
      refine sem_exit ?_
      change sem _ _ _ _ _
      refine sreg ?_
      repeat (first | ((first | refine o1 rfl ?_ | refine o0 rfl ?_); intro k hk; simp (disch := omega) only [ev0, sl_cells, simprocAttr]; refine hk _ _ ?_; clear hk k) | refine ono rfl ?_)
      refine onx (sem_ret ?_)
      have : l.findIdx? p = none := by
        rw [List.findIdx?_eq_none_iff]
        intro a ha
        obtain ⟨j, hj⟩ := List.getElem?_of_mem ha
        exact hall j (List.getElem?_eq_some_iff.1 hj).1 a hj
      exact ⟨_, rfl, _, rfl, tree_eq rfl (by simp [getE, selE, this, idxI])⟩

def CFc (f : Nat) : SCode := .seq (.reg [⟨some 4, none, .mv (.c (.bool false))⟩]) (.seq (.reg [⟨some 5, none, .mv (.t 0)⟩, ⟨some 6, none, .mv (.t 1)⟩, ⟨some 7, none, .call f [.t 5, .t 6]⟩, ⟨some 8, none, .bin .geq (.t 7) (.c (.int .i64 0))⟩, ⟨some 4, none, .mv (.t 8)⟩]) .ret)

omit hG in
theorem idxI_any {α : Type} (l : List α) (p : α → Bool) : decide (0 ≤ idxI (l.findIdx? p)) = l.any p := by
  cases h : l.findIdx? p with
  | none =>
    rw [List.findIdx?_eq_none_iff] at h
    have : l.any p = false := by simpa [List.any_eq_false] using h
    simp [idxI, this]
  | some i =>
    have h' := List.findIdx?_isSome (xs := l) (p := p)
    rw [h] at h'
    simp [idxI, ← h']

theorem containsFunc {P : Program} {α : Type} [Inhabited α] {f f' m m' sz : Nat} {agg : Bool} (hc : FnIs P f' m' (CFc f) [.tmp 4]) (hm' : 2 ≤ m') (hf : FnIs P f m (IFc sz agg) [.tmp 4]) (hm : 2 ≤ m) (enc : α → List AV) (hsz : ∀ a, (enc a).length = sz) (h1 : agg = false → sz = 1) (htr : ∀ a, treeL (enc a) = true) (l : List α) (hlen : l.length ≤ 4611686018427387904)
    {g : Nat} {fi ca : List AV} (ht : treeL fi = true) (ht2 : treeL ca = true) (p : α → Bool) (hp : ∀ a ∈ l, Holds P G g (fi ++ [elemOf agg (enc a)] ++ ca) (.bool (p a))) :
    Holds P G f' [slOf enc l, .fn (.func g) fi ca] (B (l.any p)) := by
  refine holds_of_sem hG hc (by simpa using hm') fun w0 S0 hG0 D0 => ?_
  unfold CFc enterEnv
  simp only [List.zipIdx_cons, List.zipIdx_nil, List.map_cons, List.map_nil, Nat.zero_add, Nat.reduceAdd]
  refine sreg ?_
  repeat (first | ((first | refine o1 rfl ?_ | refine o0 rfl ?_); intro k hk; simp (disch := omega) only [ev0, sl_cells, simprocAttr]; refine hk _ _ ?_; clear hk k) | refine ono rfl ?_)
  refine onx (sreg ?_)
  repeat (first | ((first | refine o1 rfl ?_ | refine o0 rfl ?_); intro k hk; simp (disch := omega) only [ev0, sl_cells, simprocAttr]; refine hk _ _ ?_; clear hk k) | refine ono rfl ?_)
  have htl : treeL [slOf enc l, .fn (.func g) fi ca] = true := by simp [treeL, treeA, slOf, ht, ht2]
  refine ocall («as» := [slOf enc l, .fn (.func g) fi ca]) (by simp only [evX, getE, selE, Nat.reduceBEq, List.map_cons, List.map_nil]) (indexFunc hG hf hm enc hsz h1 htr l hlen ht ht2 p hp) htl rfl ?_
  repeat (first | ((first | refine o1 rfl ?_ | refine o0 rfl ?_); intro k hk; simp (disch := omega) only [ev0, sl_cells, simprocAttr]; refine hk _ _ ?_; clear hk k) | refine ono rfl ?_)
  refine onx (sem_ret ?_)
  exact ⟨_, rfl, _, rfl, tree_eq rfl (by simp only [getE, selE, Nat.reduceBEq]; rw [← idxI_any])⟩

end Go.Proofs.Ytnempffajbdneaa
