/- Plain: the first good order; what works in time is enough. -/
import Derived.Test.YtnempffajbdneaaPC47
set_option linter.unusedVariables false
set_option linter.unusedSimpArgs false
set_option linter.unusedSectionVars false
set_option maxRecDepth 8000
namespace Go.Tk
open Go Go.Av
theorem before_app : ∀ (p a b : List Int), before (p ++ a) (p ++ b) = before a b
  | [], a, b => rfl
  | x :: p, a, b => by
    simp only [List.cons_append, before, if_pos]
    exact before_app p a b
theorem order_at {d p q : List Int} {y : Int} (h : orderOk d (p ++ y :: q)) : y ∈ d ∧ y ∉ p := by
  have := h p.length (by simp)
  rw [getD_lt (by simp), List.getElem_append_right (Nat.le_refl _), List.take_left' rfl] at this
  simpa using this
theorem order_nd {b o : List Int} (h : orderOk b o) : o.Nodup := by
  rw [List.Nodup, List.pairwise_iff_getElem]
  intro i j hi hj hij e
  refine (h j hj).2 ?_
  rw [getD_lt hj, ← e]
  exact List.mem_iff_getElem.2 ⟨i, by rw [List.length_take]; omega, by rw [List.getElem_take]⟩
theorem order_mem {b o : List Int} (h : orderOk b o) : ∀ x ∈ o, x ∈ b := all_getD.2 fun i hi => (h i hi).1
theorem order_of {b o : List Int} (hn : o.Nodup) (hs : ∀ x ∈ o, x ∈ b) : orderOk b o := fun i hi => by
  rw [getD_lt hi]
  refine ⟨hs _ (List.getElem_mem _), fun hm => ?_⟩
  obtain ⟨j, hj, e⟩ := List.mem_iff_getElem.1 hm
  rw [List.length_take] at hj
  rw [List.getElem_take] at e
  exact List.pairwise_iff_getElem.1 hn j i (by omega) hi (by omega) e
theorem ordS_spec {t : CoolTown} {b d : List Int} (hd : d.Pairwise (· < ·)) : ∀ (k : Nat) (p : List Int), match ordS t b d k p with
    | none => ∀ q, q.length = k → orderOk d (p ++ q) → goodB t b (p ++ q) = false
    | some l => goodB t b l = true ∧ (∃ q, l = p ++ q) ∧ (orderOk d p → orderOk d l) ∧ ∀ q, q.length = k → orderOk d (p ++ q) → goodB t b (p ++ q) = true → before (p ++ q) l = false
  | 0, p => by
    unfold ordS
    cases hg : goodB t b p with
    | true =>
      rw [if_pos rfl]
      refine ⟨hg, ⟨[], by simp⟩, id, fun q hq _ _ => ?_⟩
      have : q = [] := List.eq_nil_of_length_eq_zero hq
      subst this
      rw [List.append_nil]
      exact before_irrefl _
    | false =>
      rw [if_neg (by simp)]
      intro q hq _
      have : q = [] := List.eq_nil_of_length_eq_zero hq
      subst this
      rw [List.append_nil]
      exact hg
  | k + 1, p => by
    unfold ordS
    cases hf : d.findSome? fun x => if x ∈ p then none else ordS t b d k (p ++ [x]) with
    | none =>
      rw [List.findSome?_eq_none_iff] at hf
      intro q hq ho
      cases q with
      | nil => simp at hq
      | cons y q =>
        obtain ⟨h1, h2⟩ := order_at ho
        have h3 := hf y h1
        rw [if_neg h2] at h3
        have ih := ordS_spec (t := t) (b := b) hd k (p ++ [y])
        rw [h3] at ih
        have := ih q (by simpa using hq) (by simpa using ho)
        simpa using this
    | some l =>
      rw [List.findSome?_eq_some_iff] at hf
      obtain ⟨l1, x, l2, e, hx, hl1⟩ := hf
      have hxp : x ∉ p := fun h => by rw [if_pos h] at hx; cases hx
      rw [if_neg hxp] at hx
      have ih := ordS_spec (t := t) (b := b) hd k (p ++ [x])
      rw [hx] at ih
      obtain ⟨i1, ⟨r, rfl⟩, i3, i4⟩ := ih
      have hxd : x ∈ d := by rw [e]; simp
      refine ⟨i1, ⟨x :: r, by simp⟩, fun h => i3 (order_snoc h hxd hxp), fun q hq ho hg => ?_⟩
      cases q with
      | nil => simp at hq
      | cons y q =>
        obtain ⟨h1, h2⟩ := order_at ho
        rw [e] at h1 hd
        rw [List.pairwise_append, List.pairwise_cons] at hd
        rcases List.mem_append.1 h1 with h1 | h1
        · have h3 := hl1 y h1
          rw [if_neg h2] at h3
          have ih := ordS_spec (t := t) (b := b) (d := d) (by rw [e, List.pairwise_append, List.pairwise_cons]; exact hd) k (p ++ [y])
          rw [h3] at ih
          have := ih q (by simpa using hq) (by simpa using ho)
          rw [show p ++ [y] ++ q = p ++ y :: q by simp, hg] at this
          cases this
        · rcases List.mem_cons.1 h1 with rfl | h1
          · have := i4 q (by simpa using hq) (by simpa using ho) (by simpa using hg)
            simpa using this
          · have hxy := hd.2.1.1 y h1
            rw [show p ++ [x] ++ r = p ++ x :: r by simp, before_app]
            simp only [before]
            rw [if_neg (by omega)]
            exact decide_eq_false (by omega)
/-- Those of the bought that are in an order. -/
def failedL (b o : List Int) : List Int := b.filter fun x => decide (x ∈ o)
theorem mem_failed {b o : List Int} {x : Int} : x ∈ failedL b o ↔ x ∈ b ∧ x ∈ o := by simp [failedL]
theorem failed_up {b o : List Int} (hb : b.Pairwise (· < ·)) : (failedL b o).Pairwise (· < ·) := hb.filter _
theorem failed_len {b o : List Int} (hb : b.Pairwise (· < ·)) (ho : orderOk b o) : (failedL b o).length = o.length := by
  have h1 := nodup_len (up_nodup (failed_up (o := o) hb)) fun x hx => (mem_failed.1 hx).2
  have h2 := nodup_len (order_nd ho) fun x hx => mem_failed.2 ⟨order_mem ho x hx, hx⟩
  omega
theorem failed_order {b o : List Int} (ho : orderOk b o) : orderOk (failedL b o) o := order_of (order_nd ho) fun x hx => mem_failed.2 ⟨order_mem ho x hx, hx⟩
theorem failed_ok {b o : List Int} (hb : b.Pairwise (· < ·)) : orderOk b (failedL b o) := order_of (up_nodup (failed_up hb)) fun x hx => (mem_failed.1 hx).1
theorem failed_take {b o : List Int} {i : Nat} (h : i < b.length) : failedL (b.take (i + 1)) o = if b.getD i default ∈ o then failedL (b.take i) o ++ [b.getD i default] else failedL (b.take i) o := by
  unfold failedL
  rw [List.take_succ_eq_append_getElem h, List.filter_append, getD_lt h]
  by_cases e : b[i] ∈ o <;> simp [e]
theorem nodup_cover {l d : List Int} (hl : l.Nodup) (hs : ∀ x ∈ l, x ∈ d) (hle : d.length ≤ l.length) : ∀ x ∈ d, x ∈ l := fun z hz => by
  refine Classical.byContradiction fun hn => ?_
  have h1 := nodup_len (l := l) (r := d.erase z) hl fun x hx => (List.mem_erase_of_ne (fun e : x = z => hn (by rw [← e]; exact hx))).2 (hs x hx)
  rw [List.length_erase_of_mem hz] at h1
  have := List.length_pos_of_mem hz
  omega
theorem nodup_sum {g : Int → Int} : ∀ {l m : List Int}, l.Nodup → (∀ x ∈ l, x ∈ m) → (∀ x ∈ m, 0 ≤ g x) → sumL (l.map g) ≤ sumL (m.map g)
  | [], m, _, _, hg => sumL_nonneg fun y hy => by
    obtain ⟨x, hx, rfl⟩ := List.mem_map.1 hy
    exact hg x hx
  | x :: l, m, hn, hs, hg => by
    rw [List.nodup_cons] at hn
    have hx := hs x List.mem_cons_self
    have ih := nodup_sum (l := l) (m := m.erase x) (g := g) hn.2 (fun y hy => (List.mem_erase_of_ne fun e : y = x => hn.1 (by rw [← e]; exact hy)).2 (hs y (List.mem_cons_of_mem _ hy))) fun y hy => hg y (List.mem_of_mem_erase hy)
    have e := sumL_perm ((List.perm_cons_erase hx).map g)
    simp only [List.map_cons, sumL] at e ⊢
    omega
theorem agF_at {t : CoolTown} {b o : List Int} {y : Nat} : ∀ {n : Nat}, 0 ≤ agF t b o y n → ∃ j, j < n ∧ levelB t (withoutL b (o.drop j)) y = true ∧ agF t b o y n = weeksL t (o.take j)
  | 0, h => by unfold agF at h; omega
  | n + 1, h => by
    by_cases hc : agF t b o y n < 0 ∧ levelB t (withoutL b (o.drop n)) y = true
    · exact ⟨n, by omega, hc.2, by conv => lhs; unfold agF
                                   rw [if_pos hc]⟩
    · have e : agF t b o y (n + 1) = agF t b o y n := by conv => lhs; unfold agF
                                                         rw [if_neg hc]
      rw [e] at h ⊢
      obtain ⟨j, h1, h2, h3⟩ := agF_at h
      exact ⟨j, by omega, h2, h3⟩
/-- What works by the first repairs that are done in time. -/
def workL (t : CoolTown) (W l : List Int) (gr : Int) (i : Nat) : List Int := W ++ ((List.range i).filter fun j => decide (weeksL t (l.take (j + 1)) ≤ gr)).map fun j => l.getD j default
theorem workL_succ (t : CoolTown) (W l : List Int) (gr : Int) (i : Nat) : workL t W l gr (i + 1) = if weeksL t (l.take (i + 1)) ≤ gr then workL t W l gr i ++ [l.getD i default] else workL t W l gr i := by
  unfold workL
  rw [List.range_succ, List.filter_append]
  by_cases h : weeksL t (l.take (i + 1)) ≤ gr
  · rw [if_pos h, List.filter_cons_of_pos (by simpa using h)]; simp
  · rw [if_neg h, List.filter_cons_of_neg (by simpa using h)]; simp
theorem workL_len (t : CoolTown) (W l : List Int) (gr : Int) (i : Nat) : (workL t W l gr i).length ≤ W.length + i := by
  unfold workL
  rw [List.length_append, List.length_map]
  have := List.length_filter_le (fun j => decide (weeksL t (l.take (j + 1)) ≤ gr)) (List.range i)
  rw [List.length_range] at this
  omega
theorem workL_mem {t : CoolTown} {W l : List Int} {gr : Int} {i : Nat} (hi : i ≤ l.length) : ∀ x ∈ workL t W l gr i, x ∈ W ∨ x ∈ l := fun x hx => by
  rcases List.mem_append.1 hx with h | h
  · exact .inl h
  · obtain ⟨j, hj, rfl⟩ := List.mem_map.1 h
    have := List.mem_range.1 (List.mem_filter.1 hj).1
    exact .inr (by rw [getD_lt (by omega)]; exact List.getElem_mem _)
theorem weeks_mono {t : CoolTown} (ht : t.ok) {l : List Int} (hl : ∀ i ∈ l, 0 ≤ i ∧ i < t.sites.length) {m n : Nat} (h : m ≤ n) : weeksL t (l.take m) ≤ weeksL t (l.take n) := by
  unfold weeksL
  refine sumL_sub ?_ fun x hx => (weeksOf_bound ht (hl x (List.mem_of_mem_take hx))).1
  exact List.take_sublist_take_left h
/-- In truth each house is level in time. -/
theorem mended {t : CoolTown} (ht : t.ok) {x : CoolTruth} (hx : truthOk t x) {b : List Int} (hb : coolersOk t.sites.length b) {d l : List Int} (hdb : ∀ z ∈ d, z ∈ b) (hl : orderOk d l) (hle : d.length ≤ l.length) (hg : goodB t b l = true) {y : Nat} (hy : y < t.houses.length) :
    0 ≤ over1 x (workL t (withoutL b d) l (t.houses.getD y default).grace l.length) y := by
  have hlb : ∀ z ∈ l, z ∈ b := fun z hz => hdb z (order_mem hl z hz)
  have hlm : ∀ z ∈ l, 0 ≤ z ∧ z < t.sites.length := fun z hz => hb.mem z (hlb z hz)
  have hgy : 0 ≤ agF t b l y (l.length + 1) ∧ agF t b l y (l.length + 1) ≤ (t.houses.getD y default).grace := by
    unfold goodB at hg
    rw [List.all_eq_true] at hg
    have := hg y (List.mem_range.2 hy)
    simpa using this
  obtain ⟨n, n1, n2, n3⟩ := agF_at hgy.1
  have hW : ∀ i ∈ withoutL b (l.drop n), 0 ≤ i ∧ i < t.sites.length := fun i hi => hb.mem i (mem_without.1 hi).1
  have h1 := over_worst hx hW hy
  unfold levelB at n2
  rw [decide_eq_true_iff] at n2
  have hcov := nodup_cover (order_nd hl) (order_mem hl) hle
  have hwm : ∀ z ∈ workL t (withoutL b d) l (t.houses.getD y default).grace l.length, 0 ≤ z ∧ z < t.sites.length := fun z hz => by
    rcases workL_mem (Nat.le_refl _) z hz with h | h
    · exact hb.mem z (mem_without.1 h).1
    · exact hlm z h
  have h2 := nodup_sum (g := giveOf x y) (l := withoutL b (l.drop n)) (m := workL t (withoutL b d) l (t.houses.getD y default).grace l.length) (up_nodup (without_up hb.up)) (fun z hz => by
    obtain ⟨z1, z2⟩ := mem_without.1 hz
    by_cases hzd : z ∈ d
    · have hzl := hcov z hzd
      rw [← List.take_append_drop n l] at hzl
      have hzt : z ∈ l.take n := (List.mem_append.1 hzl).resolve_right z2
      obtain ⟨j, hj, rfl⟩ := List.mem_iff_getElem.1 hzt
      rw [List.length_take] at hj
      unfold workL
      refine List.mem_append.2 (.inr (List.mem_map.2 ⟨j, List.mem_filter.2 ⟨List.mem_range.2 (by omega), ?_⟩, ?_⟩))
      · have := weeks_mono ht hlm (m := j + 1) (n := n) (by omega)
        exact decide_eq_true (by omega)
      · rw [getD_lt (by omega), List.getElem_take]
    · exact List.mem_append.2 (.inl (mem_without.2 ⟨z1, hzd⟩))) fun z hz => by
    obtain ⟨a, c⟩ := hwm z hz
    obtain ⟨-, -, -, h4⟩ := hx
    have h5 := ((h4 z.toNat (by omega)).2 y hy).1
    have h6 := (lowOf_bound ht hy ⟨a, c⟩).1
    unfold giveOf
    unfold lowOf at h6
    omega
  unfold over1 at h1 ⊢
  unfold over1 at n2
  omega
end Go.Tk
