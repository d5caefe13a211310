/- In which week each house is level again: a look at the houses. -/
import Derived.Test.YtnempffajbdneaaPC16
set_option linter.unusedVariables false
set_option linter.unusedSimpArgs false
set_option maxRecDepth 8000
set_option maxHeartbeats 2000000
namespace Go.Tk
open Go Go.Av
/-- The memory of a reckoning of weeks. -/
abbrev aM (t : CoolTown) (m : Nat) (es : ES) (w : Nat) (L : List Int) (k : Int) : List AObj := [.map es, .row 96 0 4 [[slOf CoolHouse.cs t.houses, slOf CoolSite.cs t.sites, I m, .mp 0]], .row 90 0 1 [[.ptr 1 0 4 0 0]], .row 86 0 1 [[I w]], .row 3 0 1 (rowL intCs L), .row 28 0 1 [[.hsl 4 0 1 t.houses.length]], .row 3 0 1 [[I k]]]
def look1 (t : CoolTown) (w : Nat) (k : Int) (L : List Int) (y : Nat) : Int := if L.getD y default < 0 ∧ levM t y 0 w = true then k else L.getD y default
def lookL (t : CoolTown) (w : Nat) (k : Int) (L : List Int) : List Int := (List.range L.length).map (look1 t w k L)
end Go.Tk
namespace Go.Proofs.Ytnempffajbdneaa
open Go Go.Av Go.Tk
attribute [local irreducible] Holds sem semL ACalls FnIs
variable {K : Ctx} (hP : K.P = Try.prog) (hGK : ∀ w w', K.G w → RowKit.Below w.heap.size w w' → K.G w')
include hP hGK
theorem level_at (t : CoolTown) (ht : t.ok) (m : Nat) (es : ES) (hv : validQ t es) (y : Nat) (hy : y < t.houses.length) (f : Nat) (hf : f ≤ 100) (c : Nat) (hc : c < 2 ^ t.sites.length) {μ2 : List AObj} {p q : Nat} (hpq : p ≠ q) (hp : μ2[p]? = some (.map es)) (hq : μ2[q]? = some (.row 96 0 4 [[slOf CoolHouse.cs t.houses, slOf CoolSite.cs t.sites, I m, .mp p]])) :
    ACalls K F.cool_bought_level [.ptr q 0 4 0 0, keyQ y f c] μ2 fun ae ν => ∃ es', (ae = .ret (B (levM t y f c)) ∧ validQ t es') ∧ ν = μ2.set p (.map es') := by
  have h := bought_level hP hGK t ht m es hv y hy f hf c hc
  refine bought_at (R := fun ae es' => ae = .ret (B (levM t y f c)) ∧ validQ t es') (h.imp fun ae ν hr => ⟨_, ⟨hr.1, keepE.valid hv y f c⟩, hr.2⟩) (fun ae es' hr => ⟨hr.2.bools, fun g => by rw [hr.1]; rfl⟩) hv.bools hpq hp hq ?_ ?_
  · simp [renL, renA, backOf, List.idxOf_cons, beq_eq_false_iff_ne.2 hpq]
  · simp [inL, inA]

theorem again_1 (t : CoolTown) (ht : t.ok) (m : Nat) (es : ES) (hv : validQ t es) (w : Nat) (hw : w < 2 ^ t.sites.length) (L : List Int) (hL : L.length = t.houses.length) (k : Int) :
    ACalls K F.cool_bought_again_1 [.ptr 5 0 1 0 0, .ptr 2 0 1 0 0, .ptr 3 0 1 0 0, .ptr 6 0 1 0 0] (aM t m es w L k) fun ae ν => ∃ es', ae = .ret (.tup []) ∧ validQ t es' ∧ ν = aM t m es' w (lookL t w k L) k := by
  have hlev := fun (es : ES) (hv : validQ t es) (y : Nat) (hy : y < t.houses.length) (L' : List Int) => level_at hP hGK t ht m es hv y hy 0 (by omega) w hw (μ2 := aM t m es w L' k) (p := 0) (q := 1) (by omega) rfl rfl
  obtain ⟨P, w0, S0, G, hG0⟩ := K
  simp only at hP hGK
  subst hP
  have hn := ht.1
  refine acalls_of_sem fn_cool_bought_again_1 (by simp) fun D => ?_
  unfold c_cool_bought_again_1 cval enterEnv aM
  simp only [List.zipIdx_cons, List.zipIdx_nil, List.map_cons, List.map_nil, Nat.zero_add, Nat.reduceAdd]
  repeat' (first | ((first | refine o1 rfl ?_ | refine o0 rfl ?_); intro k hk; simp (disch := omega) only [ev0, sl_cells, simprocAttr]; refine hk _ _ ?_; clear hk k) | refine ono rfl ?_ | ((first | refine osplitG rfl (fun h => ?_) (fun h => ?_) | refine osplitB rfl (fun h => ?_) (fun h => ?_)) <;> (fail_if_success (simp only [eq_self, reduceCtorEq] at h))) | refine onx ?_ | refine onb ?_ | refine sreg ?_ | refine qT rfl ?_ | refine qF rfl ?_ | refine scondT rfl ?_ | refine scondF rfl ?_ | refine ocondP rfl (fun h => ?_) (fun h => ?_) | refine ocondB rfl (fun h => ?_) (fun h => ?_) | refine scondP rfl (fun h => ?_) (fun h => ?_) | refine scond rfl (fun h => ?_) (fun h => ?_) | refine oskip ?_ | refine oskipb ?_ | refine oret ?_ | refine sem_ret ?_ | refine sem_seq ?_ | refine sreg1 ?_)
  refine sem_block ?_
  
  refine sem_loop (α := Nat × List Int × ES) (fun x => ⟨[(0, .ptr 5 0 1 0 0), (1, .ptr 2 0 1 0 0), (2, .ptr 3 0 1 0 0), (3, .ptr 6 0 1 0 0), (6, I t.houses.length), (7, I x.1)], aM t m x.2.2 w x.2.1 k⟩) (fun x => x.1 ≤ t.houses.length ∧ x.2.1.length = t.houses.length ∧ validQ t x.2.2 ∧ ∀ j, x.2.1.getD j default = if j < x.1 then look1 t w k L j else L.getD j default) (fun x => t.houses.length - x.1) (0, L, es) ⟨Nat.zero_le _, hL, hv, fun j => by simp⟩ ?_ ?_
  · (refine Le.same ?_; simp only [List.forall_mem_cons, List.forall_mem_nil, getE, selE, Nat.reduceBEq, List.not_mem_nil, false_implies, implies_true, and_true, true_and, and_self])
    simp
  · rintro ⟨y, L2, es2⟩ ⟨h1, h2, h3, h4⟩
    simp only at h1 h2 h3 h4
    repeat' (first | ((first | refine o1 rfl ?_ | refine o0 rfl ?_); intro k hk; simp (disch := omega) only [ev0, sl_cells, simprocAttr]; refine hk _ _ ?_; clear hk k) | refine ono rfl ?_ | ((first | refine osplitG rfl (fun h => ?_) (fun h => ?_) | refine osplitB rfl (fun h => ?_) (fun h => ?_)) <;> (fail_if_success (simp only [eq_self, reduceCtorEq] at h))) | refine onx ?_ | refine onb ?_ | refine sreg ?_ | refine qT rfl ?_ | refine qF rfl ?_ | refine scondT rfl ?_ | refine scondF rfl ?_ | refine ocondP rfl (fun h => ?_) (fun h => ?_) | refine ocondB rfl (fun h => ?_) (fun h => ?_) | refine scondP rfl (fun h => ?_) (fun h => ?_) | refine scond rfl (fun h => ?_) (fun h => ?_) | refine oskip ?_ | refine oskipb ?_ | refine oret ?_ | refine sem_ret ?_ | refine sem_seq ?_ | refine sreg1 ?_)
    · have hy : y < t.houses.length := by omega
      have hlv := hlev es2 h3 y hy L2
      have h4y := h4 y
      rw [if_neg (Nat.lt_irrefl _)] at h4y
      refine sem_block ?_
      by_cases hneg : L2.getD y default < 0
      · repeat' (first | ((first | refine o1 rfl ?_ | refine o0 rfl ?_); intro k hk; simp (disch := omega) only [ev0, sl_cells, simprocAttr, rowL_get, rowL_len, intCs, hneg, decide_true]; refine hk _ _ ?_; clear hk k) | refine ono rfl ?_ | ((first | refine osplitG rfl (fun h => ?_) (fun h => ?_) | refine osplitB rfl (fun h => ?_) (fun h => ?_)) <;> (fail_if_success (simp only [eq_self, reduceCtorEq] at h))) | refine onx ?_ | refine onb ?_ | refine sreg ?_ | refine qT rfl ?_ | refine qF rfl ?_ | refine scondT rfl ?_ | refine scondF rfl ?_ | refine ocondP rfl (fun h => ?_) (fun h => ?_) | refine ocondB rfl (fun h => ?_) (fun h => ?_) | refine scondP rfl (fun h => ?_) (fun h => ?_) | refine scond rfl (fun h => ?_) (fun h => ?_) | refine oskip ?_ | refine oskipb ?_ | refine oret ?_ | refine sem_ret ?_ | refine sem_seq ?_ | refine sreg1 ?_)
        refine semL_acall rfl (by exact hlv) fun ae μ hr => ?_
        obtain ⟨es3, ⟨rfl, h3'⟩, rfl⟩ := hr
        change semL _ _ _ ⟨(_, B (levM t y 0 w)) :: _, _⟩ _
        simp only [List.set_cons_zero]
        cases hlm : levM t y 0 w with
        | true =>
          repeat' (first | ((first | refine o1 rfl ?_ | refine o0 rfl ?_); intro k hk; simp (disch := omega) only [ev0, sl_cells, simprocAttr, rowL_get, rowL_len, intCs]; refine hk _ _ ?_; clear hk k) | refine ono rfl ?_ | ((first | refine osplitG rfl (fun h => ?_) (fun h => ?_) | refine osplitB rfl (fun h => ?_) (fun h => ?_)) <;> (fail_if_success (simp only [eq_self, reduceCtorEq] at h))) | refine onx ?_ | refine onb ?_ | refine sreg ?_ | refine qT rfl ?_ | refine qF rfl ?_ | refine scondT rfl ?_ | refine scondF rfl ?_ | refine ocondP rfl (fun h => ?_) (fun h => ?_) | refine ocondB rfl (fun h => ?_) (fun h => ?_) | refine scondP rfl (fun h => ?_) (fun h => ?_) | refine scond rfl (fun h => ?_) (fun h => ?_) | refine oskip ?_ | refine oskipb ?_ | refine oret ?_ | refine sem_ret ?_ | refine sem_seq ?_ | refine sreg1 ?_)
          refine onil (lnext (y + 1, L2.set y k, es3) ⟨by simp only; omega, by simp only [List.length_set]; exact h2, h3', fun j => ?_⟩ (by simp only; omega) ?_)
          · simp only
            by_cases e : j = y
            · subst e
              rw [if_pos (Nat.lt_succ_self _), look1, ← h4y, if_pos ⟨hneg, hlm⟩]
              simp [List.getD, h2, hy]
            · have := h4 j
              rw [show (L2.set y k).getD j default = L2.getD j default by simp [List.getD, List.getElem?_set_ne (Ne.symm e)], this]
              by_cases e2 : j < y
              · rw [if_pos e2, if_pos (by omega)]
              · rw [if_neg e2, if_neg (by omega)]
          · rw [rowL_set]
            (refine Le.same ?_; simp only [List.forall_mem_cons, List.forall_mem_nil, getE, selE, Nat.reduceBEq, List.not_mem_nil, false_implies, implies_true, and_true, true_and, and_self])
            simp
        | false =>
          repeat' (first | ((first | refine o1 rfl ?_ | refine o0 rfl ?_); intro k hk; simp (disch := omega) only [ev0, sl_cells, simprocAttr, rowL_get, rowL_len, intCs]; refine hk _ _ ?_; clear hk k) | refine ono rfl ?_ | ((first | refine osplitG rfl (fun h => ?_) (fun h => ?_) | refine osplitB rfl (fun h => ?_) (fun h => ?_)) <;> (fail_if_success (simp only [eq_self, reduceCtorEq] at h))) | refine onx ?_ | refine onb ?_ | refine sreg ?_ | refine qT rfl ?_ | refine qF rfl ?_ | refine scondT rfl ?_ | refine scondF rfl ?_ | refine ocondP rfl (fun h => ?_) (fun h => ?_) | refine ocondB rfl (fun h => ?_) (fun h => ?_) | refine scondP rfl (fun h => ?_) (fun h => ?_) | refine scond rfl (fun h => ?_) (fun h => ?_) | refine oskip ?_ | refine oskipb ?_ | refine oret ?_ | refine sem_ret ?_ | refine sem_seq ?_ | refine sreg1 ?_)
          refine onil (lnext (y + 1, L2, es3) ⟨by simp only; omega, h2, h3', fun j => ?_⟩ (by simp only; omega) ?_)
          · simp only
            rw [h4 j]
            by_cases e2 : j < y
            · rw [if_pos e2, if_pos (by omega)]
            · rw [if_neg e2]
              by_cases e : j = y
              · subst e
                rw [if_pos (Nat.lt_succ_self _), look1, if_neg (fun q => by rw [hlm] at q; cases q.2)]
              · rw [if_neg (by omega)]
          · (refine Le.same ?_; simp only [List.forall_mem_cons, List.forall_mem_nil, getE, selE, Nat.reduceBEq, List.not_mem_nil, false_implies, implies_true, and_true, true_and, and_self])
            simp
      · repeat' (first | ((first | refine o1 rfl ?_ | refine o0 rfl ?_); intro k hk; simp (disch := omega) only [ev0, sl_cells, simprocAttr, rowL_get, rowL_len, intCs, hneg, decide_false]; refine hk _ _ ?_; clear hk k) | refine ono rfl ?_ | ((first | refine osplitG rfl (fun h => ?_) (fun h => ?_) | refine osplitB rfl (fun h => ?_) (fun h => ?_)) <;> (fail_if_success (simp only [eq_self, reduceCtorEq] at h))) | refine onx ?_ | refine onb ?_ | refine sreg ?_ | refine qT rfl ?_ | refine qF rfl ?_ | refine scondT rfl ?_ | refine scondF rfl ?_ | refine ocondP rfl (fun h => ?_) (fun h => ?_) | refine ocondB rfl (fun h => ?_) (fun h => ?_) | refine scondP rfl (fun h => ?_) (fun h => ?_) | refine scond rfl (fun h => ?_) (fun h => ?_) | refine oskip ?_ | refine oskipb ?_ | refine oret ?_ | refine sem_ret ?_ | refine sem_seq ?_ | refine sreg1 ?_)
        refine onil (lnext (y + 1, L2, es2) ⟨by simp only; omega, h2, h3, fun j => ?_⟩ (by simp only; omega) ?_)
        · simp only
          rw [h4 j]
          by_cases e2 : j < y
          · rw [if_pos e2, if_pos (by omega)]
          · rw [if_neg e2]
            by_cases e : j = y
            · subst e
              rw [if_pos (Nat.lt_succ_self _), look1, if_neg (fun q => hneg (by rw [h4y]; exact q.1))]
            · rw [if_neg (by omega)]
        · (refine Le.same ?_; simp only [List.forall_mem_cons, List.forall_mem_nil, getE, selE, Nat.reduceBEq, List.not_mem_nil, false_implies, implies_true, and_true, true_and, and_self])
          simp
    · have hy : y = t.houses.length := by omega
      have hfin : L2 = lookL t w k L := by
        apply List.ext_getElem
        · rw [h2]; simp [lookL, hL]
        · intro j e1 e2
          have := h4 j
          rw [if_pos (by omega), getD_lt e1] at this
          rw [this]; simp [lookL]
      refine sem_exit ?_
      exact ⟨_, rfl, es2, rfl, h3, by rw [hfin]⟩
end Go.Proofs.Ytnempffajbdneaa

/- In which week each house is level again. -/
set_option linter.unusedVariables false
set_option linter.unusedSimpArgs false
set_option maxRecDepth 8000
set_option maxHeartbeats 2000000
namespace Go.Tk
open Go Go.Av
theorem sumL_perm {l m : List Int} (h : l.Perm m) : sumL l = sumL m := by
  induction h with
  | nil => rfl
  | cons x _ ih => simp only [sumL, ih]
  | swap x y l => simp only [sumL]; omega
  | trans _ _ ih1 ih2 => exact ih1.trans ih2
theorem give_low {t : CoolTown} {y : Nat} (hy : y < t.houses.length) {i : Int} (hi : 0 ≤ i ∧ i < t.sites.length) : giveOf (worstT t) y i = lowOf t y i := by
  unfold giveOf worstT lowOf
  have h1 : (givesW t t.sites.length).getD i.toNat default = lowsW t t.houses.length i.toNat := by
    rw [getD_lt (by rw [givesW_len]; omega)]; simp [givesW]
  rw [h1, getD_lt (by rw [lowsW_len]; exact hy)]
  simp [lowsW]
theorem need_worst {t : CoolTown} {y : Nat} (hy : y < t.houses.length) : (worstT t).needs.getD y default = (t.houses.getD y default).need.high := by
  unfold worstT
  rw [getD_lt (by rw [needsW_len]; exact hy)]
  simp [needsW]
theorem over_low {t : CoolTown} {y : Nat} (hy : y < t.houses.length) {w : List Int} (hw : ∀ i ∈ w, 0 ≤ i ∧ i < t.sites.length) : over1 (worstT t) w y = -(t.houses.getD y default).need.high + sumL (w.map (lowOf t y)) := by
  unfold over1
  rw [need_worst hy, List.map_congr_left fun i hi => give_low hy (hw i hi)]
/-- With none that fail: a house is surely level. -/
theorem lev_level {t : CoolTown} {y : Nat} (hy : y < t.houses.length) {c : Nat} {w : List Int} (hc : listB c = w) (hw : ∀ i ∈ w, 0 ≤ i ∧ i < t.sites.length) : levM t y 0 c = levelB t w y := by
  unfold levM levelB coldsL
  rw [over_low hy hw, hc, List.drop_zero, sumL_perm (sortD_perm _)]
  rw [Bool.eq_iff_iff, decide_eq_true_iff, decide_eq_true_iff]
  omega
/-- A set that has what a list has. -/
theorem listB_ext {c n : Nat} (hn : n ≤ 10) {w : List Int} (hw : w.Pairwise (· < ·)) (hb : ∀ i ∈ w, 0 ≤ i ∧ i < n) (h : ∀ j : Nat, c.testBit j = true ↔ (j : Int) ∈ w) : listB c = w := by
  refine up_ext (listB_up c) hw fun x => ?_
  rw [listB_mem]
  constructor
  · rintro ⟨i, rfl, _, hi⟩
    exact (h i).1 hi
  · intro hx
    have := hb x hx
    obtain ⟨i, rfl⟩ := Int.eq_ofNat_of_zero_le this.1
    exact ⟨i, rfl, by omega, (h i).2 hx⟩
theorem without_up {b f : List Int} (hb : b.Pairwise (· < ·)) : (withoutL b f).Pairwise (· < ·) := hb.filter _
theorem look_step {t : CoolTown} (ht : t.ok) {b : List Int} (hb : coolersOk t.sites.length b) {o : List Int} {i w : Nat} (hw : ∀ j : Nat, w.testBit j = true ↔ (j : Int) ∈ b ∧ (j : Int) ∉ o.drop i) :
    lookL t w (weeksL t (o.take i)) ((List.range t.houses.length).map fun y => agF t b o y i) = (List.range t.houses.length).map fun y => agF t b o y (i + 1) := by
  have hl : listB w = withoutL b (o.drop i) := listB_ext ht.2.1.2 (without_up hb.up) (fun x hx => hb.mem x (mem_without.1 hx).1) fun j => by rw [hw, mem_without]
  have hlen : ((List.range t.houses.length).map fun y => agF t b o y i).length = t.houses.length := by simp
  unfold lookL
  rw [hlen]
  refine List.map_congr_left fun y hy => ?_
  have hy' := List.mem_range.1 hy
  have hg : ((List.range t.houses.length).map fun y => agF t b o y i).getD y default = agF t b o y i := by rw [getD_lt (by simpa using hy')]; simp
  unfold look1
  rw [hg, lev_level hy' hl fun x hx => hb.mem x (mem_without.1 hx).1]
  rfl
theorem order_nodup {b o : List Int} (h : orderOk b o) {i : Nat} (hi : i < o.length) : o.getD i default ∉ o.drop (i + 1) := fun hm => by
  obtain ⟨k, hk⟩ := List.getElem?_of_mem hm
  rw [List.getElem?_drop] at hk
  have hkl := (List.getElem?_eq_some_iff.1 hk).1
  refine (h (i + 1 + k) hkl).2 ?_
  rw [getD_lt hkl, (List.getElem?_eq_some_iff.1 hk).2, getD_lt hi]
  exact List.mem_iff_getElem.2 ⟨i, by rw [List.length_take]; omega, by rw [List.getElem_take]⟩
theorem drop_cons' {o : List Int} {i : Nat} (hi : i < o.length) : o.drop i = o.getD i default :: o.drop (i + 1) := by rw [List.drop_eq_getElem_cons hi, getD_lt hi]
theorem testBit_pow {n j : Nat} : (2 ^ n).testBit j = decide (n = j) := Nat.testBit_two_pow
end Go.Tk
namespace Go.Proofs.Ytnempffajbdneaa
open Go Go.Av Go.Tk
attribute [local irreducible] Holds sem semL ACalls FnIs levelB levM
variable {K : Ctx} (hP : K.P = Try.prog) (hGK : ∀ w w', K.G w → RowKit.Below w.heap.size w w' → K.G w')
include hP hGK
theorem bought_again (t : CoolTown) (ht : t.ok) (b : List Int) (hb : coolersOk t.sites.length b) (es : ES) (hv : validQ t es) (o : List Int) (ho : o.length ≤ 100) (hoo : orderOk b o) :
    ACalls K F.cool_bought_again [.ptr 1 0 4 0 0, slOf intCs o] (buyM t (setB b) es) fun ae ν => ∃ x, (x = slOf intCs (againL t t.houses.length b o) ∧ ∃ es', validQ t es' ∧ ν = buyM t (setB b) es') ∧ ae = .ret x := by
  have hmb := setB_lt hb.mem
  have hns := ht.2.1
  have hnh := ht.1
  have hp10 : 2 ^ t.sites.length ≤ 2 ^ 10 := Nat.pow_le_pow_right (by omega) ht.2.1.2
  have hm2 : setB b < 1024 := Nat.lt_of_lt_of_le hmb hp10
  have hob : ∀ x ∈ o, 0 ≤ x ∧ x < t.sites.length := all_getD.2 fun i hi => hb.mem _ (hoo i hi).1
  have hag1 := again_1 hP hGK t ht (setB b)
  obtain ⟨P, w0, S0, G, hG0⟩ := K
  simp only at hP hGK
  subst hP
  refine ACalls.dropE (R := fun x ν => x = slOf intCs (againL t t.houses.length b o) ∧ ∃ es', validQ t es' ∧ ν = buyM t (setB b) es') (acalls_of_sem fn_cool_bought_again (by simp) fun D => ?_) ?_
  rotate_left
  · rintro x ν ⟨rfl, es', hv', rfl⟩
    exact ⟨rfl, by simp [refM, refO, refA, refL, hv'.bools.ref, slOf]⟩
  unfold c_cool_bought_again cval enterEnv buyM
  simp only [List.zipIdx_cons, List.zipIdx_nil, List.map_cons, List.map_nil, Nat.zero_add, Nat.reduceAdd, List.cons_append, List.nil_append]
  repeat' (first | ((first | refine o1 rfl ?_ | refine o0 rfl ?_); intro k hk; simp (disch := omega) only [ev0, sl_cells, simprocAttr, slOf]; refine hk _ _ ?_; clear hk k) | refine ono rfl ?_ | ((first | refine osplitG rfl (fun h => ?_) (fun h => ?_) | refine osplitB rfl (fun h => ?_) (fun h => ?_)) <;> (fail_if_success (simp only [eq_self, reduceCtorEq] at h))) | refine onx ?_ | refine onb ?_ | refine sreg ?_ | refine qT rfl ?_ | refine qF rfl ?_ | refine scondT rfl ?_ | refine scondF rfl ?_ | refine ocondP rfl (fun h => ?_) (fun h => ?_) | refine ocondB rfl (fun h => ?_) (fun h => ?_) | refine scondP rfl (fun h => ?_) (fun h => ?_) | refine scond rfl (fun h => ?_) (fun h => ?_) | refine oskip ?_ | refine oskipb ?_ | refine oret ?_ | refine sem_ret ?_ | refine sem_seq ?_ | refine sreg1 ?_)
  refine sem_block ?_
  
  refine sem_loop (α := Nat × Nat) (fun x => ⟨[(1, slOf intCs o), (2, .ptr 2 0 1 0 0), (5, .ptr 3 0 1 0 0), (18, slOf intCs o), (19, I o.length), (20, I x.1)], buyM t (setB b) es ++ [.row 90 0 1 [[.ptr 1 0 4 0 0]], .row 86 0 1 [[I x.2]]]⟩) (fun x => x.1 ≤ o.length ∧ x.2 < 2 ^ t.sites.length ∧ ∀ j : Nat, x.2.testBit j = true ↔ (j : Int) ∈ b ∧ (j : Int) ∉ o.take x.1) (fun x => o.length - x.1) (0, setB b) ⟨Nat.zero_le _, hmb, fun j => by simp [setB_has hb]⟩ ?_ ?_
  · (refine Le.same ?_; simp only [List.forall_mem_cons, List.forall_mem_nil, getE, selE, Nat.reduceBEq, List.not_mem_nil, false_implies, implies_true, and_true, true_and, and_self])
    simp [slOf]
  · rintro ⟨i, w⟩ ⟨h1, h2, h3⟩
    simp only at h1 h2 h3
    repeat' (first | ((first | refine o1 rfl ?_ | refine o0 rfl ?_); intro k hk; simp (disch := omega) only [ev0, sl_cells, simprocAttr, slOf]; refine hk _ _ ?_; clear hk k) | refine ono rfl ?_ | ((first | refine osplitG rfl (fun h => ?_) (fun h => ?_) | refine osplitB rfl (fun h => ?_) (fun h => ?_)) <;> (fail_if_success (simp only [eq_self, reduceCtorEq] at h))) | refine onx ?_ | refine onb ?_ | refine sreg ?_ | refine qT rfl ?_ | refine qF rfl ?_ | refine scondT rfl ?_ | refine scondF rfl ?_ | refine ocondP rfl (fun h => ?_) (fun h => ?_) | refine ocondB rfl (fun h => ?_) (fun h => ?_) | refine scondP rfl (fun h => ?_) (fun h => ?_) | refine scond rfl (fun h => ?_) (fun h => ?_) | refine oskip ?_ | refine oskipb ?_ | refine oret ?_ | refine sem_ret ?_ | refine sem_seq ?_ | refine sreg1 ?_)
    · have hi : i < o.length := by omega
      have hoi := hob (o.getD i default) (by rw [getD_lt hi]; exact List.getElem_mem _)
      have htk : o.take (i + 1) = o.take i ++ [o.getD i default] := by rw [List.take_add_one, List.getElem?_eq_getElem hi, getD_lt hi]; rfl
      generalize hov : o.getD i default = v at *
      obtain ⟨n, rfl⟩ := Int.eq_ofNat_of_zero_le hoi.1
      have e1 := shlN n (by omega)
      have e2 := andNotN (a := w) (b := 2 ^ n) (by omega)
      have e3 := diffN_le w (2 ^ n) (by omega)
      refine sem_block ?_
      repeat' (first | ((first | refine o1 rfl ?_ | refine o0 rfl ?_); intro k hk; simp (disch := omega) only [ev0, sl_cells, simprocAttr, slOf, intCs, hov]; refine hk _ _ ?_; clear hk k) | refine ono rfl ?_ | ((first | refine osplitG rfl (fun h => ?_) (fun h => ?_) | refine osplitB rfl (fun h => ?_) (fun h => ?_)) <;> (fail_if_success (simp only [eq_self, reduceCtorEq] at h))) | refine onx ?_ | refine onb ?_ | refine sreg ?_ | refine qT rfl ?_ | refine qF rfl ?_ | refine scondT rfl ?_ | refine scondF rfl ?_ | refine ocondP rfl (fun h => ?_) (fun h => ?_) | refine ocondB rfl (fun h => ?_) (fun h => ?_) | refine scondP rfl (fun h => ?_) (fun h => ?_) | refine scond rfl (fun h => ?_) (fun h => ?_) | refine oskip ?_ | refine oskipb ?_ | refine oret ?_ | refine sem_ret ?_ | refine sem_seq ?_ | refine sreg1 ?_)
      ((refine sem_mgo 3 hmix (by kernel_rfl) ?_; simp only [nt]); (repeat' (first | ((first | apply mop | apply mop0); (case hg => rfl); (case hq => rfl); intro k hk; simp (disch := omega) only [ev0, sl_cells, simprocAttr, slOf, intCs, e1, e2]; refine hk _ _ rfl ?_; clear hk k) | (apply mno; (case hg => rfl)) | (apply mbox; (case hx => (simp only [wv, simprocAttr] <;> rfl)); (case hg => rfl); (case hall => rfl); (case hr => rfl); simp only [nm, Nat.reduceAdd]) | (apply mbldS; (case hb => (simp (disch := omega) only [ev0, sl_cells, simprocAttr] <;> rfl)); (case hg => rfl); (case hr => rfl); simp only [nm, Nat.reduceAdd]) | ((first | (apply msto (q := 0); (case hq => rfl)) | (apply msto (q := 1); (case hq => rfl)) | (apply msto (q := 2); (case hq => rfl)) | (apply msto (q := 3); (case hq => rfl))); (case hx => (simp only [wv, simprocAttr] <;> rfl)); (case haddr => (simp only [wv, simprocAttr] <;> rfl)); (case hg => rfl); (case hl1 => rfl); (case hl2 => rfl); (case hok => rfl); (case hr => rfl); simp only [nm, Nat.reduceAdd]) | (apply mnil; simp only [SlotR.fin, ns]) | (refine msplit rfl (fun h => ?_) (fun h => ?_) <;> simp only [h] <;> (try simp only [nb] at h)))) <;> (repeat' (first | ((first | refine o1 rfl ?_ | refine o0 rfl ?_); intro k hk; simp (disch := omega) only [ev0, sl_cells, simprocAttr, slOf, intCs, e1, e2]; refine hk _ _ ?_; clear hk k) | refine ono rfl ?_ | ((first | refine osplitG rfl (fun h => ?_) (fun h => ?_) | refine osplitB rfl (fun h => ?_) (fun h => ?_)) <;> (fail_if_success (simp only [eq_self, reduceCtorEq] at h))) | refine onx ?_ | refine onb ?_ | refine sreg ?_ | refine qT rfl ?_ | refine qF rfl ?_ | refine scondT rfl ?_ | refine scondF rfl ?_ | refine ocondP rfl (fun h => ?_) (fun h => ?_) | refine ocondB rfl (fun h => ?_) (fun h => ?_) | refine scondP rfl (fun h => ?_) (fun h => ?_) | refine scond rfl (fun h => ?_) (fun h => ?_) | refine oskip ?_ | refine oskipb ?_ | refine oret ?_ | refine sem_ret ?_ | refine sem_seq ?_ | refine sreg1 ?_)))
      refine onil (lnext (i + 1, diffN w (2 ^ n)) ⟨by simp only; omega, by simp only; omega, fun j => ?_⟩ (by simp only; omega) ?_)
      · simp only
        rw [diffN_bit (by omega), testBit_pow, htk, List.mem_append, List.mem_singleton]
        have := h3 j
        simp only [Bool.and_eq_true, Bool.not_eq_true', decide_eq_false_iff_not, this]
        constructor
        · rintro ⟨⟨q1, q2⟩, q3⟩
          exact ⟨q1, fun q => q.elim q2 fun q => q3 (by omega)⟩
        · rintro ⟨q1, q2⟩
          exact ⟨⟨q1, fun q => q2 (.inl q)⟩, fun q => q2 (.inr (by omega))⟩
      · (refine Le.same ?_; simp only [List.forall_mem_cons, List.forall_mem_nil, getE, selE, Nat.reduceBEq, List.not_mem_nil, false_implies, implies_true, and_true, true_and, and_self])
        simp [slOf]
    · have hi : i = o.length := by omega
      subst hi
      rw [List.take_length] at h3
      (refine sem_exit ?_; change sem _ _ _ _ _)
      repeat' (first | ((first | refine o1 rfl ?_ | refine o0 rfl ?_); intro k hk; simp (disch := omega) only [ev0, sl_cells, simprocAttr]; refine hk _ _ ?_; clear hk k) | refine ono rfl ?_ | ((first | refine osplitG rfl (fun h => ?_) (fun h => ?_) | refine osplitB rfl (fun h => ?_) (fun h => ?_)) <;> (fail_if_success (simp only [eq_self, reduceCtorEq] at h))) | refine onx ?_ | refine onb ?_ | refine sreg ?_ | refine qT rfl ?_ | refine qF rfl ?_ | refine scondT rfl ?_ | refine scondF rfl ?_ | refine ocondP rfl (fun h => ?_) (fun h => ?_) | refine ocondB rfl (fun h => ?_) (fun h => ?_) | refine scondP rfl (fun h => ?_) (fun h => ?_) | refine scond rfl (fun h => ?_) (fun h => ?_) | refine oskip ?_ | refine oskipb ?_ | refine oret ?_ | refine sem_ret ?_ | refine sem_seq ?_ | refine sreg1 ?_)
      have hrep : List.replicate t.houses.length [AV.int .i64 0] = rowL intCs (List.replicate t.houses.length 0) := by simp [rowL, intCs]
      rw [hrep]
      refine sem_block ?_
      
      refine sem_loop (α := Nat × List Int) (fun x => ⟨[(1, slOf intCs o), (2, .ptr 2 0 1 0 0), (5, .ptr 3 0 1 0 0), (8, .ptr 5 0 1 0 0), (37, I t.houses.length), (38, I x.1)], buyM t (setB b) es ++ [.row 90 0 1 [[.ptr 1 0 4 0 0]], .row 86 0 1 [[I w]], .row 3 0 1 (rowL intCs x.2), .row 28 0 1 [[.hsl 4 0 1 t.houses.length]]]⟩) (fun x => x.1 ≤ t.houses.length ∧ x.2.length = t.houses.length ∧ ∀ j, j < x.1 → x.2.getD j default = -1) (fun x => t.houses.length - x.1) (0, List.replicate t.houses.length 0) ⟨Nat.zero_le _, by simp, fun j hj => absurd hj (Nat.not_lt_zero _)⟩ ?_ ?_
      · (refine Le.same ?_; simp only [List.forall_mem_cons, List.forall_mem_nil, getE, selE, Nat.reduceBEq, List.not_mem_nil, false_implies, implies_true, and_true, true_and, and_self])
        simp [slOf]
      · rintro ⟨y, L⟩ ⟨k1, k2, k3⟩
        simp only at k1 k2 k3
        repeat' (first | ((first | refine o1 rfl ?_ | refine o0 rfl ?_); intro k hk; simp (disch := omega) only [ev0, sl_cells, simprocAttr]; refine hk _ _ ?_; clear hk k) | refine ono rfl ?_ | ((first | refine osplitG rfl (fun h => ?_) (fun h => ?_) | refine osplitB rfl (fun h => ?_) (fun h => ?_)) <;> (fail_if_success (simp only [eq_self, reduceCtorEq] at h))) | refine onx ?_ | refine onb ?_ | refine sreg ?_ | refine qT rfl ?_ | refine qF rfl ?_ | refine scondT rfl ?_ | refine scondF rfl ?_ | refine ocondP rfl (fun h => ?_) (fun h => ?_) | refine ocondB rfl (fun h => ?_) (fun h => ?_) | refine scondP rfl (fun h => ?_) (fun h => ?_) | refine scond rfl (fun h => ?_) (fun h => ?_) | refine oskip ?_ | refine oskipb ?_ | refine oret ?_ | refine sem_ret ?_ | refine sem_seq ?_ | refine sreg1 ?_)
        · have hy : y < t.houses.length := by omega
          refine sem_block ?_
          repeat' (first | ((first | refine o1 rfl ?_ | refine o0 rfl ?_); intro k hk; simp (disch := omega) only [ev0, sl_cells, simprocAttr, rowL_get, rowL_len, intCs]; refine hk _ _ ?_; clear hk k) | refine ono rfl ?_ | ((first | refine osplitG rfl (fun h => ?_) (fun h => ?_) | refine osplitB rfl (fun h => ?_) (fun h => ?_)) <;> (fail_if_success (simp only [eq_self, reduceCtorEq] at h))) | refine onx ?_ | refine onb ?_ | refine sreg ?_ | refine qT rfl ?_ | refine qF rfl ?_ | refine scondT rfl ?_ | refine scondF rfl ?_ | refine ocondP rfl (fun h => ?_) (fun h => ?_) | refine ocondB rfl (fun h => ?_) (fun h => ?_) | refine scondP rfl (fun h => ?_) (fun h => ?_) | refine scond rfl (fun h => ?_) (fun h => ?_) | refine oskip ?_ | refine oskipb ?_ | refine oret ?_ | refine sem_ret ?_ | refine sem_seq ?_ | refine sreg1 ?_)
          refine onil (lnext (y + 1, L.set y (-1)) ⟨by simp only; omega, by simp only [List.length_set]; exact k2, fun j hj => ?_⟩ (by simp only; omega) ?_)
          · simp only at hj ⊢
            by_cases e : j = y
            · subst e; simp [List.getD, k2, hy]
            · rw [show (L.set y (-1)).getD j default = L.getD j default by simp [List.getD, List.getElem?_set_ne (Ne.symm e)]]
              exact k3 j (by omega)
          · rw [rowL_set]
            (refine Le.same ?_; simp only [List.forall_mem_cons, List.forall_mem_nil, getE, selE, Nat.reduceBEq, List.not_mem_nil, false_implies, implies_true, and_true, true_and, and_self])
            simp
        · have hy : y = t.houses.length := by omega
          have hL : L = (List.range t.houses.length).map fun y => agF t b o y 0 := by
            apply List.ext_getElem
            · rw [k2]; simp
            · intro j e1 e2
              have := k3 j (by omega)
              rw [getD_lt e1] at this
              rw [this]; simp [agF]
          (refine sem_exit ?_; change sem _ _ _ _ _)
          repeat' (first | ((first | refine o1 rfl ?_ | refine o0 rfl ?_); intro k hk; simp (disch := omega) only [ev0, sl_cells, simprocAttr]; refine hk _ _ ?_; clear hk k) | refine ono rfl ?_ | ((first | refine osplitG rfl (fun h => ?_) (fun h => ?_) | refine osplitB rfl (fun h => ?_) (fun h => ?_)) <;> (fail_if_success (simp only [eq_self, reduceCtorEq] at h))) | refine onx ?_ | refine onb ?_ | refine sreg ?_ | refine qT rfl ?_ | refine qF rfl ?_ | refine scondT rfl ?_ | refine scondF rfl ?_ | refine ocondP rfl (fun h => ?_) (fun h => ?_) | refine ocondB rfl (fun h => ?_) (fun h => ?_) | refine scondP rfl (fun h => ?_) (fun h => ?_) | refine scond rfl (fun h => ?_) (fun h => ?_) | refine oskip ?_ | refine oskipb ?_ | refine oret ?_ | refine sem_ret ?_ | refine sem_seq ?_ | refine sreg1 ?_)
          have hst := look_step ht hb (o := o) (i := 0) (w := w) (fun j => by rw [List.drop_zero]; exact h3 j)
          rw [← hL] at hst
          refine semL_dyn (R := fun ae ν => ∃ es', ae = .ret (.tup []) ∧ validQ t es' ∧ ν = aM t (setB b) es' w (lookL t w 0 L) 0) rfl rfl (by exact hag1 es hv w h2 L k2 0) fun ae μ hr => ?_
          obtain ⟨es1, rfl, hv1, rfl⟩ := hr
          rw [show weeksL t (o.take 0) = 0 from rfl] at hst
          rw [hst]
          change semL _ _ _ ⟨(_, _) :: _, _⟩ _
          simp only [aM]
          repeat' (first | ((first | refine o1 rfl ?_ | refine o0 rfl ?_); intro k hk; simp (disch := omega) only [ev0, sl_cells, simprocAttr]; refine hk _ _ ?_; clear hk k) | refine ono rfl ?_ | ((first | refine osplitG rfl (fun h => ?_) (fun h => ?_) | refine osplitB rfl (fun h => ?_) (fun h => ?_)) <;> (fail_if_success (simp only [eq_self, reduceCtorEq] at h))) | refine onx ?_ | refine onb ?_ | refine sreg ?_ | refine qT rfl ?_ | refine qF rfl ?_ | refine scondT rfl ?_ | refine scondF rfl ?_ | refine ocondP rfl (fun h => ?_) (fun h => ?_) | refine ocondB rfl (fun h => ?_) (fun h => ?_) | refine scondP rfl (fun h => ?_) (fun h => ?_) | refine scond rfl (fun h => ?_) (fun h => ?_) | refine oskip ?_ | refine oskipb ?_ | refine oret ?_ | refine sem_ret ?_ | refine sem_seq ?_ | refine sreg1 ?_)
          refine sem_block ?_
          
          refine sem_loop (α := Nat × Nat × ES) (fun x => ⟨[(2, .ptr 2 0 1 0 0), (5, .ptr 3 0 1 0 0), (8, .ptr 5 0 1 0 0), (10, .ptr 6 0 1 0 0), (11, .fn (.func F.cool_bought_again_1) [] [.ptr 5 0 1 0 0, .ptr 2 0 1 0 0, .ptr 3 0 1 0 0, .ptr 6 0 1 0 0]), (48, slOf intCs o), (49, I o.length), (50, I x.1)], aM t (setB b) x.2.2 x.2.1 ((List.range t.houses.length).map fun y => agF t b o y (x.1 + 1)) (weeksL t (o.take x.1))⟩) (fun x => x.1 ≤ o.length ∧ x.2.1 < 2 ^ t.sites.length ∧ (∀ j : Nat, x.2.1.testBit j = true ↔ (j : Int) ∈ b ∧ (j : Int) ∉ o.drop x.1) ∧ validQ t x.2.2) (fun x => o.length - x.1) (0, w, es1) ⟨Nat.zero_le _, h2, fun j => by rw [List.drop_zero]; exact h3 j, hv1⟩ ?_ ?_
          · (refine Le.same ?_; simp only [List.forall_mem_cons, List.forall_mem_nil, getE, selE, Nat.reduceBEq, List.not_mem_nil, false_implies, implies_true, and_true, true_and, and_self])
            simp [slOf]
          · rintro ⟨i, w, es2⟩ ⟨h1, h2, h3, h4⟩
            simp only at h1 h2 h3 h4
            repeat' (first | ((first | refine o1 rfl ?_ | refine o0 rfl ?_); intro k hk; simp (disch := omega) only [ev0, sl_cells, simprocAttr, slOf]; refine hk _ _ ?_; clear hk k) | refine ono rfl ?_ | ((first | refine osplitG rfl (fun h => ?_) (fun h => ?_) | refine osplitB rfl (fun h => ?_) (fun h => ?_)) <;> (fail_if_success (simp only [eq_self, reduceCtorEq] at h))) | refine onx ?_ | refine onb ?_ | refine sreg ?_ | refine qT rfl ?_ | refine qF rfl ?_ | refine scondT rfl ?_ | refine scondF rfl ?_ | refine ocondP rfl (fun h => ?_) (fun h => ?_) | refine ocondB rfl (fun h => ?_) (fun h => ?_) | refine scondP rfl (fun h => ?_) (fun h => ?_) | refine scond rfl (fun h => ?_) (fun h => ?_) | refine oskip ?_ | refine oskipb ?_ | refine oret ?_ | refine sem_ret ?_ | refine sem_seq ?_ | refine sreg1 ?_)
            · have hi : i < o.length := by omega
              have hoi := hob (o.getD i default) (by rw [getD_lt hi]; exact List.getElem_mem _)
              have hbi := (hoo i hi).1
              have hnd := order_nodup hoo hi
              have hdc := drop_cons' hi
              have hwk := weeksL_succ (t := t) hi
              have hwb := weeksL_bound ht hob i
              have hwo := weeksOf_bound ht hoi
              generalize hov : o.getD i default = v at *
              obtain ⟨n, rfl⟩ := Int.eq_ofNat_of_zero_le hoi.1
              have hn : n < t.sites.length := by omega
              have hgo : weeksOf t (n : Int) = (t.sites.getD n default).weeks := rfl
              rw [hgo] at hwo hwk
              have hpn : 2 ^ n < 2 ^ t.sites.length := Nat.pow_lt_pow_right (by omega) hn
              have e1 := shlN n (by omega)
              have e2 := orN (a := w) (b := 2 ^ n) (by omega) (by omega)
              have hor : w ||| 2 ^ n < 2 ^ t.sites.length := Nat.or_lt_two_pow h2 hpn
              have hbits : ∀ j : Nat, (w ||| 2 ^ n).testBit j = true ↔ (j : Int) ∈ b ∧ (j : Int) ∉ o.drop (i + 1) := fun j => by
                rw [Nat.testBit_or, testBit_pow, Bool.or_eq_true, h3, hdc, List.mem_cons, decide_eq_true_iff]
                constructor
                · rintro (⟨q1, q2⟩ | rfl)
                  · exact ⟨q1, fun q => q2 (.inr q)⟩
                  · exact ⟨hbi, hnd⟩
                · rintro ⟨q1, q2⟩
                  by_cases e : n = j
                  · exact .inr e
                  · exact .inl ⟨q1, fun q => q.elim (fun q => e (by omega)) q2⟩
              have hst := look_step ht hb (o := o) (i := i + 1) hbits
              generalize hA : (List.range t.houses.length).map (fun y => agF t b o y (i + 1)) = A at *
              have hAl : A.length = t.houses.length := by rw [← hA]; simp
              refine sem_block ?_
              repeat' (first | ((first | refine o1 rfl ?_ | refine o0 rfl ?_); intro k hk; simp (disch := omega) only [ev0, sl_cells, simprocAttr, slOf, intCs, hov]; refine hk _ _ ?_; clear hk k) | refine ono rfl ?_ | ((first | refine osplitG rfl (fun h => ?_) (fun h => ?_) | refine osplitB rfl (fun h => ?_) (fun h => ?_)) <;> (fail_if_success (simp only [eq_self, reduceCtorEq] at h))) | refine onx ?_ | refine onb ?_ | refine sreg ?_ | refine qT rfl ?_ | refine qF rfl ?_ | refine scondT rfl ?_ | refine scondF rfl ?_ | refine ocondP rfl (fun h => ?_) (fun h => ?_) | refine ocondB rfl (fun h => ?_) (fun h => ?_) | refine scondP rfl (fun h => ?_) (fun h => ?_) | refine scond rfl (fun h => ?_) (fun h => ?_) | refine oskip ?_ | refine oskipb ?_ | refine oret ?_ | refine sem_ret ?_ | refine sem_seq ?_ | refine sreg1 ?_)
              ((refine sem_mgo 10 hmix (by kernel_rfl) ?_; simp only [nt]); (repeat' (first | ((first | apply mop | apply mop0); (case hg => rfl); (case hq => rfl); intro k hk; simp (disch := omega) only [ev0, sl_cells, simprocAttr, slOf, CoolSite.cs, intCs]; refine hk _ _ rfl ?_; clear hk k) | (apply mno; (case hg => rfl)) | (apply mbox; (case hx => (simp only [wv, simprocAttr] <;> rfl)); (case hg => rfl); (case hall => rfl); (case hr => rfl); simp only [nm, Nat.reduceAdd]) | (apply mbldS; (case hb => (simp (disch := omega) only [ev0, sl_cells, simprocAttr] <;> rfl)); (case hg => rfl); (case hr => rfl); simp only [nm, Nat.reduceAdd]) | ((first | (apply msto (q := 0); (case hq => rfl)) | (apply msto (q := 1); (case hq => rfl)) | (apply msto (q := 2); (case hq => rfl)) | (apply msto (q := 3); (case hq => rfl))); (case hx => (simp only [wv, simprocAttr] <;> rfl)); (case haddr => (simp only [wv, simprocAttr] <;> rfl)); (case hg => rfl); (case hl1 => rfl); (case hl2 => rfl); (case hok => rfl); (case hr => rfl); simp only [nm, Nat.reduceAdd]) | (apply mnil; simp only [SlotR.fin, ns]) | (refine msplit rfl (fun h => ?_) (fun h => ?_) <;> simp only [h] <;> (try simp only [nb] at h)))) <;> (repeat' (first | ((first | refine o1 rfl ?_ | refine o0 rfl ?_); intro k hk; simp (disch := omega) only [ev0, sl_cells, simprocAttr, slOf, CoolSite.cs, intCs]; refine hk _ _ ?_; clear hk k) | refine ono rfl ?_ | ((first | refine osplitG rfl (fun h => ?_) (fun h => ?_) | refine osplitB rfl (fun h => ?_) (fun h => ?_)) <;> (fail_if_success (simp only [eq_self, reduceCtorEq] at h))) | refine onx ?_ | refine onb ?_ | refine sreg ?_ | refine qT rfl ?_ | refine qF rfl ?_ | refine scondT rfl ?_ | refine scondF rfl ?_ | refine ocondP rfl (fun h => ?_) (fun h => ?_) | refine ocondB rfl (fun h => ?_) (fun h => ?_) | refine scondP rfl (fun h => ?_) (fun h => ?_) | refine scond rfl (fun h => ?_) (fun h => ?_) | refine oskip ?_ | refine oskipb ?_ | refine oret ?_ | refine sem_ret ?_ | refine sem_seq ?_ | refine sreg1 ?_)))
              ((refine sem_mgo 3 hmix (by kernel_rfl) ?_; simp only [nt]); (repeat' (first | ((first | apply mop | apply mop0); (case hg => rfl); (case hq => rfl); intro k hk; simp (disch := omega) only [ev0, sl_cells, simprocAttr, slOf, intCs, e1, e2]; refine hk _ _ rfl ?_; clear hk k) | (apply mno; (case hg => rfl)) | (apply mbox; (case hx => (simp only [wv, simprocAttr] <;> rfl)); (case hg => rfl); (case hall => rfl); (case hr => rfl); simp only [nm, Nat.reduceAdd]) | (apply mbldS; (case hb => (simp (disch := omega) only [ev0, sl_cells, simprocAttr] <;> rfl)); (case hg => rfl); (case hr => rfl); simp only [nm, Nat.reduceAdd]) | ((first | (apply msto (q := 0); (case hq => rfl)) | (apply msto (q := 1); (case hq => rfl)) | (apply msto (q := 2); (case hq => rfl)) | (apply msto (q := 3); (case hq => rfl))); (case hx => (simp only [wv, simprocAttr] <;> rfl)); (case haddr => (simp only [wv, simprocAttr] <;> rfl)); (case hg => rfl); (case hl1 => rfl); (case hl2 => rfl); (case hok => rfl); (case hr => rfl); simp only [nm, Nat.reduceAdd]) | (apply mnil; simp only [SlotR.fin, ns]) | (refine msplit rfl (fun h => ?_) (fun h => ?_) <;> simp only [h] <;> (try simp only [nb] at h)))) <;> (repeat' (first | ((first | refine o1 rfl ?_ | refine o0 rfl ?_); intro k hk; simp (disch := omega) only [ev0, sl_cells, simprocAttr, slOf, intCs, e1, e2]; refine hk _ _ ?_; clear hk k) | refine ono rfl ?_ | ((first | refine osplitG rfl (fun h => ?_) (fun h => ?_) | refine osplitB rfl (fun h => ?_) (fun h => ?_)) <;> (fail_if_success (simp only [eq_self, reduceCtorEq] at h))) | refine onx ?_ | refine onb ?_ | refine sreg ?_ | refine qT rfl ?_ | refine qF rfl ?_ | refine scondT rfl ?_ | refine scondF rfl ?_ | refine ocondP rfl (fun h => ?_) (fun h => ?_) | refine ocondB rfl (fun h => ?_) (fun h => ?_) | refine scondP rfl (fun h => ?_) (fun h => ?_) | refine scond rfl (fun h => ?_) (fun h => ?_) | refine oskip ?_ | refine oskipb ?_ | refine oret ?_ | refine sem_ret ?_ | refine sem_seq ?_ | refine sreg1 ?_)))
              rw [← hwk]
              refine semL_dyn (R := fun ae ν => ∃ es', ae = .ret (.tup []) ∧ validQ t es' ∧ ν = aM t (setB b) es' (w ||| 2 ^ n) (lookL t (w ||| 2 ^ n) (weeksL t (o.take (i + 1))) A) (weeksL t (o.take (i + 1)))) rfl rfl (by exact hag1 es2 h4 (w ||| 2 ^ n) hor A hAl _) fun ae μ hr => ?_
              obtain ⟨es3, rfl, hv3, rfl⟩ := hr
              rw [hst]
              change semL _ _ _ ⟨(_, _) :: _, _⟩ _
              simp only [aM]
              repeat' (first | ((first | refine o1 rfl ?_ | refine o0 rfl ?_); intro k hk; simp (disch := omega) only [ev0, sl_cells, simprocAttr]; refine hk _ _ ?_; clear hk k) | refine ono rfl ?_ | ((first | refine osplitG rfl (fun h => ?_) (fun h => ?_) | refine osplitB rfl (fun h => ?_) (fun h => ?_)) <;> (fail_if_success (simp only [eq_self, reduceCtorEq] at h))) | refine onx ?_ | refine onb ?_ | refine sreg ?_ | refine qT rfl ?_ | refine qF rfl ?_ | refine scondT rfl ?_ | refine scondF rfl ?_ | refine ocondP rfl (fun h => ?_) (fun h => ?_) | refine ocondB rfl (fun h => ?_) (fun h => ?_) | refine scondP rfl (fun h => ?_) (fun h => ?_) | refine scond rfl (fun h => ?_) (fun h => ?_) | refine oskip ?_ | refine oskipb ?_ | refine oret ?_ | refine sem_ret ?_ | refine sem_seq ?_ | refine sreg1 ?_)
              refine onil (lnext (i + 1, w ||| 2 ^ n, es3) ⟨by simp only; omega, hor, hbits, hv3⟩ (by simp only; omega) ?_)
              (refine Le.same ?_; simp only [List.forall_mem_cons, List.forall_mem_nil, getE, selE, Nat.reduceBEq, List.not_mem_nil, false_implies, implies_true, and_true, true_and, and_self])
              simp [slOf]
            · have hi : i = o.length := by omega
              subst hi
              (refine sem_exit ?_; change sem _ _ _ _ _)
              have hfin : slOf intCs (againL t t.houses.length b o) = .sl t.houses.length fun j => intCs (((List.range t.houses.length).map (fun y => agF t b o y (o.length + 1))).getD j default) := by
                unfold slOf
                rw [againL_len]; rfl
              rw [hfin]
              generalize hA : (List.range t.houses.length).map (fun y => agF t b o y (o.length + 1)) = A at *
              have hAl : A.length = t.houses.length := by rw [← hA]; simp
              simp only [aM]
              refine sem_frzlist (enc := intCs) (l := A) 4 rfl (fun _ => rfl) ?_
              simp only [frzE, frzM, frzO, frzA, frzL, List.map_cons, List.map_nil, List.set_cons_zero, List.set_cons_succ, Nat.reduceEqDiff, if_true, if_false, and_self, Nat.le_refl, reduceIte, frz_sl, h4.bools.frz, hAl]
              repeat' (first | ((first | refine o1 rfl ?_ | refine o0 rfl ?_); intro k hk; simp (disch := omega) only [ev0, sl_cells, simprocAttr]; refine hk _ _ ?_; clear hk k) | refine ono rfl ?_ | ((first | refine osplitG rfl (fun h => ?_) (fun h => ?_) | refine osplitB rfl (fun h => ?_) (fun h => ?_)) <;> (fail_if_success (simp only [eq_self, reduceCtorEq] at h))) | refine onx ?_ | refine onb ?_ | refine sreg ?_ | refine qT rfl ?_ | refine qF rfl ?_ | refine scondT rfl ?_ | refine scondF rfl ?_ | refine ocondP rfl (fun h => ?_) (fun h => ?_) | refine ocondB rfl (fun h => ?_) (fun h => ?_) | refine scondP rfl (fun h => ?_) (fun h => ?_) | refine scond rfl (fun h => ?_) (fun h => ?_) | refine oskip ?_ | refine oskipb ?_ | refine oret ?_ | refine sem_ret ?_ | refine sem_seq ?_ | refine sreg1 ?_)
              exact ⟨_, rfl, _, ⟨rfl, es2, h4, rfl⟩, rfl, by simp⟩
end Go.Proofs.Ytnempffajbdneaa

/- The reckoning of weeks behind its checks. -/
set_option linter.unusedVariables false
set_option linter.unusedSimpArgs false
set_option maxRecDepth 8000
set_option maxHeartbeats 2000000
namespace Go.Tk
open Go Go.Av
/-- The memory behind a call that has bought coolers. -/
abbrev gM (t : CoolTown) (m : Nat) (es : ES) : List AObj := [.row 25 0 2 [t.cs], .row 25 0 2 [t.cs], .row 25 0 2 [t.cs], .map es, .row 96 0 4 [[slOf CoolHouse.cs t.houses, slOf CoolSite.cs t.sites, I m, .mp 3]]]
theorem valid_nil {t : CoolTown} : validQ t [] := fun p hp => by cases hp
end Go.Tk
namespace Go.Proofs.Ytnempffajbdneaa
open Go Go.Av Go.Tk
attribute [local irreducible] Holds sem semL ACalls FnIs levelB levM
section
variable {K : Ctx} (hP : K.P = Try.prog) (hGK : ∀ w w', K.G w → RowKit.Below w.heap.size w w' → K.G w')
include hP hGK
theorem given_ok (t : CoolTown) (hs : t.short) (l : List Int) (hl : l.length ≤ 1000) (hok : t.ok) (hc : coolersOk t.sites.length l) :
    ACalls K F.cool_given [.agg t.cs, slOf intCs l, B true] [.row 25 0 2 [t.cs]] fun ae ν => ae = .ret (.tup [.ptr 4 0 4 0 0, I 0]) ∧ ν = gM t (setB l) [] :=
  ((cool_given hP hGK t hs l hl true).imp (R' := fun ae ν => ae = .ret (.tup [.ptr 3 0 4 0 0, I 0]) ∧ ν = givM t (setB l)) fun ae ν hr => by rwa [if_pos ⟨hok, rfl, hc⟩] at hr).placed1 [] rfl rfl rfl rfl rfl rfl
theorem ordered_at (t : CoolTown) (ht : t.ok) (b : List Int) (hb : coolersOk t.sites.length b) (o : List Int) (ho : o.length ≤ 1000) (es : ES) (hv : validQ t es) :
    ACalls K F.cool_bought_ordered [.ptr 4 0 4 0 0, slOf intCs o] (gM t (setB b) es) fun ae ν => ae = .ret (B (decide (orderOk b o))) ∧ ν = gM t (setB b) es := by
  have h := bought_at (R := fun ae es' => ae = .ret (B (decide (orderOk b o))) ∧ es' = es) ((bought_ordered hP hGK t ht b hb es o ho).imp fun ae ν hr => ⟨es, ⟨hr.1, rfl⟩, hr.2⟩) (fun ae es' hr => ⟨by rw [hr.2]; exact hv.bools, fun g => by rw [hr.1]; rfl⟩) hv.bools
    (μ2 := gM t (setB b) es) (args2 := [.ptr 4 0 4 0 0, slOf intCs o]) (p := 3) (q := 4) (by omega) rfl rfl rfl rfl
  exact h.imp fun ae ν hr => by
    obtain ⟨es', ⟨r1, rfl⟩, rfl⟩ := hr
    exact ⟨r1, rfl⟩
theorem again_at (t : CoolTown) (ht : t.ok) (b : List Int) (hb : coolersOk t.sites.length b) (o : List Int) (ho : o.length ≤ 100) (hoo : orderOk b o) (es : ES) (hv : validQ t es) :
    ACalls K F.cool_bought_again [.ptr 4 0 4 0 0, slOf intCs o] (gM t (setB b) es) fun ae ν => ∃ es', (ae = .ret (slOf intCs (againL t t.houses.length b o)) ∧ validQ t es') ∧ ν = gM t (setB b) es' :=
  bought_at (R := fun ae es' => ae = .ret (slOf intCs (againL t t.houses.length b o)) ∧ validQ t es') ((bought_again hP hGK t ht b hb es hv o ho hoo).imp fun ae ν hr => by
    obtain ⟨x, ⟨rfl, es', h1, rfl⟩, rfl⟩ := hr
    exact ⟨es', ⟨rfl, h1⟩, rfl⟩) (fun ae es' hr => ⟨hr.2.bools, fun g => by rw [hr.1]; rfl⟩) hv.bools (μ2 := gM t (setB b) es) (args2 := [.ptr 4 0 4 0 0, slOf intCs o]) (p := 3) (q := 4) (by omega) rfl rfl rfl rfl
end
variable {G : World → Prop} (hG : ∀ w w', G w → RowKit.Below w.heap.size w w' → G w')
include hG
theorem Again_ok (t : CoolTown) (hs : t.short) (b o : List Int) (ho : o.length ≤ 6) (hbl : b.length ≤ 1000) (hok : t.ok) (hc : coolersOk t.sites.length b) (hoo : orderOk b o) : Holds Try.prog G F.cool_Again [.agg t.cs, slOf intCs b, slOf intCs o] (.tup [slOf intCs (againL t t.houses.length b o), I 0]) := by
  refine holds_of_sem hG fn_cool_Again (by simp) fun w0 S0 hG0 D0 => ?_
  have hgi := given_ok (K := ⟨Try.prog, w0, S0, G, hG0⟩) rfl hG t hs b hbl hok hc
  have hor := ordered_at (K := ⟨Try.prog, w0, S0, G, hG0⟩) rfl hG t hok b hc o (by omega) [] valid_nil
  have hag := again_at (K := ⟨Try.prog, w0, S0, G, hG0⟩) rfl hG t hok b hc o (by omega) hoo [] valid_nil
  rw [decide_eq_true hoo] at hor
  unfold c_cool_Again cval enterEnv
  simp only [List.zipIdx_cons, List.zipIdx_nil, List.map_cons, List.map_nil, Nat.zero_add, Nat.reduceAdd]
  repeat' (first | ((first | refine o1 rfl ?_ | refine o0 rfl ?_); intro k hk; simp (disch := omega) only [ev0, sl_cells, simprocAttr, slOf]; refine hk _ _ ?_; clear hk k) | refine ono rfl ?_ | ((first | refine osplitG rfl (fun h => ?_) (fun h => ?_) | refine osplitB rfl (fun h => ?_) (fun h => ?_)) <;> (fail_if_success (simp only [eq_self, reduceCtorEq] at h))) | refine onx ?_ | refine onb ?_ | refine sreg ?_ | refine qT rfl ?_ | refine qF rfl ?_ | refine scondT rfl ?_ | refine scondF rfl ?_ | refine ocondP rfl (fun h => ?_) (fun h => ?_) | refine ocondB rfl (fun h => ?_) (fun h => ?_) | refine scondP rfl (fun h => ?_) (fun h => ?_) | refine scond rfl (fun h => ?_) (fun h => ?_) | refine oskip ?_ | refine oskipb ?_ | refine oret ?_ | refine sem_ret ?_ | refine sem_seq ?_ | refine sreg1 ?_)
  · (exfalso; (try simp only [Bool.not_eq_true', Bool.not_eq_false', decide_eq_true_eq, decide_eq_false_iff_not, ne_eq, Decidable.not_not] at *); first | omega | contradiction | (simp only [*, Bool.true_eq_false, Bool.false_eq_true] at *; done))
  · refine semL_acall rfl (by exact hgi) fun ae μ hr => ?_
    obtain ⟨rfl, rfl⟩ := hr
    change semL _ _ _ ⟨(_, _) :: _, _⟩ _
    simp only [gM]
    repeat' (first | ((first | refine o1 rfl ?_ | refine o0 rfl ?_); intro k hk; simp (disch := omega) only [ev0, sl_cells, simprocAttr]; refine hk _ _ ?_; clear hk k) | refine ono rfl ?_ | ((first | refine osplitG rfl (fun h => ?_) (fun h => ?_) | refine osplitB rfl (fun h => ?_) (fun h => ?_)) <;> (fail_if_success (simp only [eq_self, reduceCtorEq] at h))) | refine onx ?_ | refine onb ?_ | refine sreg ?_ | refine qT rfl ?_ | refine qF rfl ?_ | refine scondT rfl ?_ | refine scondF rfl ?_ | refine ocondP rfl (fun h => ?_) (fun h => ?_) | refine ocondB rfl (fun h => ?_) (fun h => ?_) | refine scondP rfl (fun h => ?_) (fun h => ?_) | refine scond rfl (fun h => ?_) (fun h => ?_) | refine oskip ?_ | refine oskipb ?_ | refine oret ?_ | refine sem_ret ?_ | refine sem_seq ?_ | refine sreg1 ?_)
    refine semL_acall rfl (by exact hor) fun ae μ hr => ?_
    obtain ⟨rfl, rfl⟩ := hr
    change semL _ _ _ ⟨(_, _) :: _, _⟩ _
    simp only [gM]
    repeat' (first | ((first | refine o1 rfl ?_ | refine o0 rfl ?_); intro k hk; simp (disch := omega) only [ev0, sl_cells, simprocAttr]; refine hk _ _ ?_; clear hk k) | refine ono rfl ?_ | ((first | refine osplitG rfl (fun h => ?_) (fun h => ?_) | refine osplitB rfl (fun h => ?_) (fun h => ?_)) <;> (fail_if_success (simp only [eq_self, reduceCtorEq] at h))) | refine onx ?_ | refine onb ?_ | refine sreg ?_ | refine qT rfl ?_ | refine qF rfl ?_ | refine scondT rfl ?_ | refine scondF rfl ?_ | refine ocondP rfl (fun h => ?_) (fun h => ?_) | refine ocondB rfl (fun h => ?_) (fun h => ?_) | refine scondP rfl (fun h => ?_) (fun h => ?_) | refine scond rfl (fun h => ?_) (fun h => ?_) | refine oskip ?_ | refine oskipb ?_ | refine oret ?_ | refine sem_ret ?_ | refine sem_seq ?_ | refine sreg1 ?_)
    refine semL_acall rfl (by exact hag) fun ae μ hr => ?_
    obtain ⟨es', ⟨rfl, hv⟩, rfl⟩ := hr
    change semL _ _ _ ⟨(_, _) :: _, _⟩ _
    repeat' (first | ((first | refine o1 rfl ?_ | refine o0 rfl ?_); intro k hk; simp (disch := omega) only [ev0, sl_cells, simprocAttr]; refine hk _ _ ?_; clear hk k) | refine ono rfl ?_ | ((first | refine osplitG rfl (fun h => ?_) (fun h => ?_) | refine osplitB rfl (fun h => ?_) (fun h => ?_)) <;> (fail_if_success (simp only [eq_self, reduceCtorEq] at h))) | refine onx ?_ | refine onb ?_ | refine sreg ?_ | refine qT rfl ?_ | refine qF rfl ?_ | refine scondT rfl ?_ | refine scondF rfl ?_ | refine ocondP rfl (fun h => ?_) (fun h => ?_) | refine ocondB rfl (fun h => ?_) (fun h => ?_) | refine scondP rfl (fun h => ?_) (fun h => ?_) | refine scond rfl (fun h => ?_) (fun h => ?_) | refine oskip ?_ | refine oskipb ?_ | refine oret ?_ | refine sem_ret ?_ | refine sem_seq ?_ | refine sreg1 ?_)
    exact ⟨_, rfl, _, rfl, tree_eq rfl rfl⟩
end Go.Proofs.Ytnempffajbdneaa
