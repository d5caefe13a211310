/- In which week each house is level again: a look at the houses. -/
import Derived.Test.YtnempffajbdneaaPC16
set_option linter.unusedVariables false
set_option linter.unusedSimpArgs false
set_option maxRecDepth 8000
set_option maxHeartbeats 2000000
namespace Go.Tk
open Go Go.Av
def look1 (t : CoolTown) (w : Nat) (k : Int) (L : List Int) (y : Nat) : Int := if L.getD y default < 0 ∧ levM t y 0 w = true then k else L.getD y default
def lookL (t : CoolTown) (w : Nat) (k : Int) (L : List Int) : List Int := (List.range L.length).map (look1 t w k L)
end Go.Tk
namespace Go.Proofs.Ytnempffajbdneaa
open Go Go.Av Go.Tk
attribute [local irreducible] Holds sem semL ACalls FnIs
variable {K : Ctx} (hP : K.P = Try.prog) (hGK : ∀ w w', K.G w → RowKit.Below w.heap.size w w' → K.G w')
include hP hGK
theorem level_at (t : CoolTown) (ht : t.ok) (m : Nat) (es : ES) (hv : validQ t es) (y : Nat) (hy : y < t.houses.length) (f : Nat) (hf : f ≤ 100) (c : Nat) (hc : c < 2 ^ t.sites.length) {μ2 : List AObj} {p q : Nat} (hpq : p ≠ q) (hp : μ2[p]? = some (.map es)) (hq : μ2[q]? = some (.row 96 0 4 [[slOf CoolHouse.cs t.houses, slOf CoolSite.cs t.sites, I m, .mp p]])) :
    ACalls K F.cool_bought_level [.ptr q 0 4 0 0, keyQ y f c] μ2 fun ae ν => ∃ es', (ae = .ret (B (levM t y f c)) ∧ validQ t es') ∧ ν = μ2.set p (.map es') := by
  have h := bought_level hP hGK t ht m es hv y hy f hf c hc
  refine bought_at (R := fun ae es' => ae = .ret (B (levM t y f c)) ∧ validQ t es') (h.imp fun ae ν hr => ⟨_, ⟨hr.1, keepE.valid hv y f c⟩, hr.2⟩) (fun ae es' hr => ⟨hr.2.bools, fun g => by rw [hr.1]; rfl⟩) hv.bools hpq hp hq ?_ ?_
  · simp [renL, renA, backOf, List.idxOf_cons, beq_eq_false_iff_ne.2 hpq]
  · simp [inL, inA]

end Go.Proofs.Ytnempffajbdneaa

/- In which week each house is level again. -/
set_option linter.unusedVariables false
set_option linter.unusedSimpArgs false
set_option maxRecDepth 8000
set_option maxHeartbeats 2000000
namespace Go.Tk
open Go Go.Av
theorem sumL_perm {l m : List Int} (h : l.Perm m) : sumL l = sumL m := by
  induction h with
  | nil => rfl
  | cons x _ ih => simp only [sumL, ih]
  | swap x y l => simp only [sumL]; omega
  | trans _ _ ih1 ih2 => exact ih1.trans ih2
theorem give_low {t : CoolTown} {y : Nat} (hy : y < t.houses.length) {i : Int} (hi : 0 ≤ i ∧ i < t.sites.length) : giveOf (worstT t) y i = lowOf t y i := by
  unfold giveOf worstT lowOf
  have h1 : (givesW t t.sites.length).getD i.toNat default = lowsW t t.houses.length i.toNat := by
    rw [getD_lt (by rw [givesW_len]; omega)]; simp [givesW]
  rw [h1, getD_lt (by rw [lowsW_len]; exact hy)]
  simp [lowsW]
theorem need_worst {t : CoolTown} {y : Nat} (hy : y < t.houses.length) : (worstT t).needs.getD y default = (t.houses.getD y default).need.high := by
  unfold worstT
  rw [getD_lt (by rw [needsW_len]; exact hy)]
  simp [needsW]
theorem over_low {t : CoolTown} {y : Nat} (hy : y < t.houses.length) {w : List Int} (hw : ∀ i ∈ w, 0 ≤ i ∧ i < t.sites.length) : over1 (worstT t) w y = -(t.houses.getD y default).need.high + sumL (w.map (lowOf t y)) := by
  unfold over1
  rw [need_worst hy, List.map_congr_left fun i hi => give_low hy (hw i hi)]
/-- With none that fail: a house is surely level. -/
theorem lev_level {t : CoolTown} {y : Nat} (hy : y < t.houses.length) {c : Nat} {w : List Int} (hc : listB c = w) (hw : ∀ i ∈ w, 0 ≤ i ∧ i < t.sites.length) : levM t y 0 c = levelB t w y := by
  unfold levM levelB coldsL
  rw [over_low hy hw, hc, List.drop_zero, sumL_perm (sortD_perm _)]
  rw [Bool.eq_iff_iff, decide_eq_true_iff, decide_eq_true_iff]
  omega
/-- A set that has what a list has. -/
theorem listB_ext {c n : Nat} (hn : n ≤ 10) {w : List Int} (hw : w.Pairwise (· < ·)) (hb : ∀ i ∈ w, 0 ≤ i ∧ i < n) (h : ∀ j : Nat, c.testBit j = true ↔ (j : Int) ∈ w) : listB c = w := by
  refine up_ext (listB_up c) hw fun x => ?_
  rw [listB_mem]
  constructor
  · rintro ⟨i, rfl, _, hi⟩
    exact (h i).1 hi
  · intro hx
    have := hb x hx
    obtain ⟨i, rfl⟩ := Int.eq_ofNat_of_zero_le this.1
    exact ⟨i, rfl, by omega, (h i).2 hx⟩
theorem without_up {b f : List Int} (hb : b.Pairwise (· < ·)) : (withoutL b f).Pairwise (· < ·) := hb.filter _
theorem look_step {t : CoolTown} (ht : t.ok) {b : List Int} (hb : coolersOk t.sites.length b) {o : List Int} {i w : Nat} (hw : ∀ j : Nat, w.testBit j = true ↔ (j : Int) ∈ b ∧ (j : Int) ∉ o.drop i) :
    lookL t w (weeksL t (o.take i)) ((List.range t.houses.length).map fun y => agF t b o y i) = (List.range t.houses.length).map fun y => agF t b o y (i + 1) := by
  have hl : listB w = withoutL b (o.drop i) := listB_ext ht.2.1.2 (without_up hb.up) (fun x hx => hb.mem x (mem_without.1 hx).1) fun j => by rw [hw, mem_without]
  have hlen : ((List.range t.houses.length).map fun y => agF t b o y i).length = t.houses.length := by simp
  unfold lookL
  rw [hlen]
  refine List.map_congr_left fun y hy => ?_
  have hy' := List.mem_range.1 hy
  have hg : ((List.range t.houses.length).map fun y => agF t b o y i).getD y default = agF t b o y i := by rw [getD_lt (by simpa using hy')]; simp
  unfold look1
  rw [hg, lev_level hy' hl fun x hx => hb.mem x (mem_without.1 hx).1]
  rfl
theorem order_nodup {b o : List Int} (h : orderOk b o) {i : Nat} (hi : i < o.length) : o.getD i default ∉ o.drop (i + 1) := fun hm => by
  obtain ⟨k, hk⟩ := List.getElem?_of_mem hm
  rw [List.getElem?_drop] at hk
  have hkl := (List.getElem?_eq_some_iff.1 hk).1
  refine (h (i + 1 + k) hkl).2 ?_
  rw [getD_lt hkl, (List.getElem?_eq_some_iff.1 hk).2, getD_lt hi]
  exact List.mem_iff_getElem.2 ⟨i, by rw [List.length_take]; omega, by rw [List.getElem_take]⟩
theorem drop_cons' {o : List Int} {i : Nat} (hi : i < o.length) : o.drop i = o.getD i default :: o.drop (i + 1) := by rw [List.drop_eq_getElem_cons hi, getD_lt hi]
theorem testBit_pow {n j : Nat} : (2 ^ n).testBit j = decide (n = j) := Nat.testBit_two_pow
end Go.Tk
namespace Go.Proofs.Ytnempffajbdneaa
open Go Go.Av Go.Tk
attribute [local irreducible] Holds sem semL ACalls FnIs levelB levM
variable {K : Ctx} (hP : K.P = Try.prog) (hGK : ∀ w w', K.G w → RowKit.Below w.heap.size w w' → K.G w')
include hP hGK
end Go.Proofs.Ytnempffajbdneaa

/- The reckoning of weeks behind its checks. -/
set_option linter.unusedVariables false
set_option linter.unusedSimpArgs false
set_option maxRecDepth 8000
set_option maxHeartbeats 2000000
namespace Go.Tk
open Go Go.Av
theorem valid_nil {t : CoolTown} : validQ t [] := fun p hp => by cases hp
end Go.Tk
namespace Go.Proofs.Ytnempffajbdneaa
open Go Go.Av Go.Tk
attribute [local irreducible] Holds sem semL ACalls FnIs levelB levM
section
variable {K : Ctx} (hP : K.P = Try.prog) (hGK : ∀ w w', K.G w → RowKit.Below w.heap.size w w' → K.G w')
include hP hGK
end
variable {G : World → Prop} (hG : ∀ w w', G w → RowKit.Below w.heap.size w w' → G w')
include hG
end Go.Proofs.Ytnempffajbdneaa
