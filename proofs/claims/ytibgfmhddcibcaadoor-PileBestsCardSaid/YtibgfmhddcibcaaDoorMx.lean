import Derived.Test.YtibgfmhddcibcaaDoorMw
import Derived.Test.YtibgfmhddcibcaaDoorMh
import Derived.Test.YtibgfmhddcibcaaDoorMj
import Derived.Test.YtibgfmhddcibcaaDoorMf
set_option linter.unusedVariables false
set_option linter.unusedSimpArgs false
set_option maxRecDepth 8000
set_option maxHeartbeats 2000000
/- Rows by lists; the reference's plans and its best one; the law PileBests over trees. -/
namespace Go.Av
open Go.RowKit
theorem VT.nil_sl {S : Nat → Prop} {w : World} {v : Value} (f : Nat → List AV) (h : VT S w .nilsl v) : VT S w (.sl 0 f) v := by
  cases h
  exact .sl 0 f none 0 (fun _ _ => undef) (Nat.le_refl _) (Nat.zero_le _) (fun h => absurd h (Nat.lt_irrefl _)) (fun i hi => absurd hi (Nat.not_lt_zero _))
theorem VT.sl_weak {S : Nat → Prop} {w : World} {n : Nat} {f g : Nat → List AV} {v : Value} (h : VT S w (.sl n f) v) (hl : ∀ i, i < n → (g i).length = (f i).length)
    (he : ∀ i, i < n → ∀ (j : Nat) c c', (f i)[j]? = some c → (g i)[j]? = some c' → ∀ u, VT S w c u → VT S w c' u) : VT S w (.sl n g) v := by
  cases h with
  | sl n f a cap val h1 h2 h3 h4 =>
    refine .sl n g a cap val h1 h2 (fun hn => ?_) (fun i hi j c hj => ?_)
    · obtain ⟨b, o, sz, e1, e2, e3⟩ := h3 hn
      exact ⟨b, o, sz, e1, e2, fun i hi => ⟨by rw [hl i hi]; exact (e3 i hi).1, (e3 i hi).2⟩⟩
    · have hlt : j < (f i).length := by rw [← hl i hi]; exact (List.getElem?_eq_some_iff.1 hj).1
      exact he i hi j _ c (List.getElem?_eq_getElem hlt) hj _ (h4 i hi j _ (List.getElem?_eq_getElem hlt))
theorem Holds.convR {P : Program} {G : World → Prop} {f : Nat} {args : List AV} {r r' : AV} (h : Holds P G f args r) (hc : ∀ S w v, VT S w r v → VT S w r' v) : Holds P G f args r' :=
  ⟨h.1, fun w vs S hG hS hs hv => (h.2 w vs S hG hS hs hv).mono fun e w' ⟨v, S', h1, h2, h3, h4, h5, h6⟩ => ⟨v, S', h1, h2, h3, h4, h5, hc _ _ _ h6⟩⟩
/-- A slot's tree stands for more. -/
theorem sem_weakE {K : Ctx} {F : Fcx} {Q : AExit → St → Prop} {s : SCode} {env : List (Nat × AV)} {μ : List AObj} (t : Nat) {x x' : AV} (hx : getE env t = x) (ht : treeA x = true) (hw : ∀ S w v, VT S w x v → VT S w x' v)
    (h : sem K F s ⟨(t, x') :: env, μ⟩ Q) : sem K F s ⟨env, μ⟩ Q := by
  intro c hc a w ρ S ha μ0 ρ0 S0 w0 hst
  refine h c hc a w ρ S ⟨ha.mu, ha.size, ha.defers, fun u => ?_⟩ μ0 ρ0 S0 w0 hst
  have hv := ha.env u
  show VR _ _ _ _ (getE ((t, x') :: env) u) _
  rw [getE_cons]
  split
  · rename_i htu
    subst htu
    have hx' : getE env t = x := hx
    simp only [hx'] at hv
    exact .t (hw _ _ _ (hv.tree ht))
  · exact hv
end Go.Av
namespace Go.Tk
open Go Go.Av Go.Proofs.YtibgfmhddcibcaaDoor
/-- A row by a list. -/
def rowL {α : Type} (enc : α → List AV) (l : List α) : List (List AV) := l.map enc
section
variable {α : Type} {enc : α → List AV} {l : List α}
theorem rowL_snoc {a : α} : rowL enc l ++ [enc a] = rowL enc (l ++ [a]) := by simp [rowL]
theorem rowL_nil : rowL enc ([] : List α) = [] := rfl
theorem rowL_len : (rowL enc l).length = l.length := by simp [rowL]
theorem rowL_take : (rowL enc l).take l.length = rowL enc l := List.take_of_length_le (by rw [rowL_len]; exact Nat.le_refl _)
theorem rowL_take' {n : Nat} (h : n = l.length) : (rowL enc l).take n = rowL enc l := by rw [h]; exact rowL_take
theorem rowL_all {k : Nat} (h : ∀ k a, refL k (enc a) = true) : (rowL enc l).all (refL k) = true := List.all_eq_true.2 fun x hx => by
  obtain ⟨i, _, rfl⟩ := List.mem_map.1 hx
  exact h _ _
theorem frz_rowL {id g sz m : Nat} {F : Nat → List AV} (h : ∀ a, frzL id g sz m F (enc a) = enc a) : (rowL enc l).map (frzL id g sz m F) = rowL enc l := by
  unfold rowL
  rw [List.map_map]
  exact List.map_congr_left fun i _ => h _
variable [Inhabited α]
theorem rowL_F : rowL enc l = rowF enc l.length fun i => l.getD i default := by
  unfold rowL rowF
  conv => lhs; rw [← range_getD l]
  rw [List.map_map]; rfl
theorem tree_rowL {μ : List AObj} {id e gn sz : Nat} (ho : μ[id]? = some (.row e gn sz (rowL enc l))) (hsz : ∀ a, (enc a).length = sz) (ht : ∀ a, treeL (enc a) = true) : Tree μ (.hsl id gn sz l.length) (slOf enc l) :=
  tree_row l (by rw [← rowL_F]; exact ho) hsz ht
theorem rowL_get {i : Nat} (h : i < l.length) : (rowL enc l)[i]? = some (enc (l.getD i default)) := by simp [rowL, List.getElem?_map, h, getD_lt h]
theorem sem_frzlist {K : Ctx} {F : Fcx} {Q : AExit → St → Prop} {s : SCode} {env : List (Nat × AV)} {μ : List AObj} (id : Nat) {e g sz : Nat} (ho : μ[id]? = some (.row e g sz (rowL enc l))) (ht : ∀ a, treeL (enc a) = true)
    (h : sem K F s ⟨frzE id g sz l.length (fun i => enc (l.getD i default)) env, frzM id g sz l.length (fun i => enc (l.getD i default)) μ⟩ Q) : sem K F s ⟨env, μ⟩ Q := by
  have hk : ∀ (i : Nat) cs, (rowL enc l)[i]? = some cs → cs = enc (l.getD i default) := fun i cs hi => by
    have hlt : i < l.length := by have := (List.getElem?_eq_some_iff.1 hi).1; rw [rowL_len] at this; exact this
    rw [rowL_get hlt] at hi; cases hi; rfl
  exact sem_frz id l.length _ ho rowL_len (fun i cs hi => (hk i cs hi).symm) (fun i cs hi => by rw [hk i cs hi]; exact ht _) h
theorem semL_frzlist {K : Ctx} {F : Fcx} {Q : AExit → St → Prop} {s : List SOper} {env : List (Nat × AV)} {μ : List AObj} (id : Nat) {e g sz : Nat} (ho : μ[id]? = some (.row e g sz (rowL enc l))) (ht : ∀ a, treeL (enc a) = true)
    (h : semL K F s ⟨frzE id g sz l.length (fun i => enc (l.getD i default)) env, frzM id g sz l.length (fun i => enc (l.getD i default)) μ⟩ Q) : semL K F s ⟨env, μ⟩ Q := by
  have hk : ∀ (i : Nat) cs, (rowL enc l)[i]? = some cs → cs = enc (l.getD i default) := fun i cs hi => by
    have hlt : i < l.length := by have := (List.getElem?_eq_some_iff.1 hi).1; rw [rowL_len] at this; exact this
    rw [rowL_get hlt] at hi; cases hi; rfl
  exact semL_frz id l.length _ ho rowL_len (fun i cs hi => (hk i cs hi).symm) (fun i cs hi => by rw [hk i cs hi]; exact ht _) h
end
def ext1 (p : List Int) (m : Nat) : List (List Int) := (List.range m).map fun n : Nat => p ++ [(n : Int)]
def plansL (m : Nat) : Nat → List (List Int)
  | 0 => [[]]
  | t + 1 => (plansL m t).flatMap fun p => ext1 p m
theorem ext1_len {p : List Int} {m : Nat} : (ext1 p m).length = m := by simp [ext1]
theorem ext1_succ {p : List Int} {m : Nat} : ext1 p (m + 1) = ext1 p m ++ [p ++ [(m : Int)]] := by simp [ext1, List.range_succ]
theorem flat_len {m : Nat} : ∀ l : List (List Int), (l.flatMap fun p => ext1 p m).length = l.length * m
  | [] => by simp
  | p :: l => by rw [List.flatMap_cons, List.length_append, flat_len l, ext1_len, List.length_cons, Nat.succ_mul]; omega
theorem plans_len {m : Nat} : ∀ t, (plansL m t).length = m ^ t
  | 0 => rfl
  | t + 1 => by simp only [plansL]; rw [flat_len, plans_len t, Nat.pow_succ]
theorem flat_take {m i : Nat} {l : List (List Int)} (h : i < l.length) : (l.take (i + 1)).flatMap (fun p => ext1 p m) = (l.take i).flatMap (fun p => ext1 p m) ++ ext1 (l.getD i default) m := by
  rw [List.take_add_one, List.getElem?_eq_getElem h, List.flatMap_append, getD_lt h]
  simp
theorem ext1_mem {p x : List Int} {m : Nat} (h : x ∈ ext1 p m) : ∃ n : Nat, n < m ∧ x = p ++ [(n : Int)] := by
  unfold ext1 at h
  obtain ⟨n, h1, rfl⟩ := List.mem_map.1 h
  exact ⟨n, List.mem_range.1 h1, rfl⟩
theorem plans_mem {m : Nat} : ∀ t (q : List Int), q ∈ plansL m t ↔ q.length = t ∧ ∀ b ∈ q, ∃ x : Nat, b = x ∧ x < m
  | 0, q => by
    simp only [plansL, List.mem_singleton]
    constructor
    · rintro rfl; exact ⟨rfl, fun b hb => by cases hb⟩
    · rintro ⟨h, -⟩; exact List.eq_nil_of_length_eq_zero h
  | t + 1, q => by
    simp only [plansL, List.mem_flatMap]
    constructor
    · rintro ⟨p, hp, hq⟩
      obtain ⟨n, hn, rfl⟩ := ext1_mem hq
      obtain ⟨h1, h2⟩ := (plans_mem t p).1 hp
      refine ⟨by simp [h1], fun b hb => ?_⟩
      rcases List.mem_append.1 hb with hb | hb
      · exact h2 b hb
      · obtain rfl := List.mem_singleton.1 hb
        exact ⟨n, rfl, hn⟩
    · rintro ⟨h1, h2⟩
      have hne : q ≠ [] := by rintro rfl; cases h1
      refine ⟨q.dropLast, (plans_mem t _).2 ⟨by rw [List.length_dropLast]; omega, fun b hb => h2 b (List.dropLast_subset q hb)⟩, ?_⟩
      obtain ⟨x, hx, hxm⟩ := h2 (q.getLast hne) (List.getLast_mem hne)
      unfold ext1
      refine List.mem_map.2 ⟨x, List.mem_range.2 hxm, ?_⟩
      rw [← hx, List.dropLast_concat_getLast]
theorem before_append : ∀ {a b c d : List Int}, before a b = true → before (a ++ c) (b ++ d) = true
  | [], b, c, d, h => by simp [before] at h
  | a :: l, [], c, d, h => by simp [before] at h
  | a :: l, b :: m, c, d, h => by
    simp only [before, List.cons_append] at h ⊢
    split
    · rename_i e; rw [if_pos e] at h; exact before_append h
    · rename_i e; rw [if_neg e] at h; exact h
theorem before_snoc : ∀ (p : List Int) {x y : Int}, x < y → before (p ++ [x]) (p ++ [y]) = true
  | [], x, y, h => by simp only [List.nil_append, before]; rw [if_neg (by omega)]; exact decide_eq_true h
  | a :: l, x, y, h => by simp only [List.cons_append, before, if_true]; exact before_snoc l h
theorem before_irr : ∀ p : List Int, before p p = false
  | [] => rfl
  | a :: l => by simp only [before, if_true]; exact before_irr l
theorem before_asymm : ∀ {a b : List Int}, before a b = true → before b a = false
  | [], b, h => by simp [before] at h
  | a :: l, [], h => by simp [before] at h
  | a :: l, b :: m, h => by
    simp only [before] at h ⊢
    by_cases e : a = b
    · rw [if_pos e] at h; rw [if_pos e.symm]; exact before_asymm h
    · rw [if_neg e] at h; rw [if_neg (fun e' => e e'.symm)]
      have := of_decide_eq_true h
      exact decide_eq_false (by omega)
theorem plans_sorted {m : Nat} : ∀ t, (plansL m t).Pairwise fun a b => before a b = true
  | 0 => by simp [plansL]
  | t + 1 => by
    simp only [plansL, List.pairwise_flatMap]
    refine ⟨fun p _ => ?_, (plans_sorted t).imp fun {a b} h x hx y hy => ?_⟩
    · unfold ext1
      rw [List.pairwise_map]
      exact List.pairwise_lt_range.imp fun h => before_snoc p (by omega)
    · obtain ⟨n, -, rfl⟩ := ext1_mem hx
      obtain ⟨k, -, rfl⟩ := ext1_mem hy
      exact before_append h
/-- The reference's search through a list. -/
def refB (ok : List Int → Bool) (cost : List Int → Int) (l : List (List Int)) : Nat → List Int × Bool
  | 0 => ([], false)
  | i + 1 => if ((refB ok cost l i).2 = false ∨ cost (l.getD i default) < cost (refB ok cost l i).1) ∧ ok (l.getD i default) = true then (l.getD i default, true) else refB ok cost l i
theorem refB_law {ok : List Int → Bool} {cost : List Int → Int} {l : List (List Int)} (hs : l.Pairwise fun a b => before a b = true) : ∀ i, i ≤ l.length →
    ((refB ok cost l i).2 = true → (refB ok cost l i).1 ∈ l.take i ∧ ok (refB ok cost l i).1 = true ∧ ∀ q ∈ l.take i, ok q = true → cost (refB ok cost l i).1 < cost q ∨ (cost (refB ok cost l i).1 = cost q ∧ (q = (refB ok cost l i).1 ∨ before (refB ok cost l i).1 q = true))) ∧
    ((refB ok cost l i).2 = false → ∀ q ∈ l.take i, ok q = false)
  | 0, _ => ⟨fun h => (by cases h), fun _ q hq => (by simp at hq)⟩
  | i + 1, hi => by
    obtain ⟨h1, h2⟩ := refB_law (ok := ok) (cost := cost) hs i (by omega)
    have hx : l.take (i + 1) = l.take i ++ [l.getD i default] := by rw [List.take_add_one, List.getElem?_eq_getElem (by omega), getD_lt (by omega)]; rfl
    have hbef : ∀ q ∈ l.take i, before q (l.getD i default) = true := fun q hq => by
      obtain ⟨k, hk⟩ := List.getElem?_of_mem hq
      have hk' := (List.getElem?_eq_some_iff.1 hk).1
      rw [List.length_take] at hk'
      rw [List.getElem?_take, if_pos (by omega)] at hk
      have hkl : k < l.length := by omega
      rw [List.getElem?_eq_getElem hkl] at hk
      cases hk
      rw [getD_lt (by omega)]
      exact List.pairwise_iff_getElem.1 hs k i hkl (by omega) (by omega)
    simp only [refB]
    by_cases hc : ((refB ok cost l i).2 = false ∨ cost (l.getD i default) < cost (refB ok cost l i).1) ∧ ok (l.getD i default) = true
    · rw [if_pos hc]
      refine ⟨fun _ => ⟨by rw [hx]; simp, hc.2, fun q hq hqo => ?_⟩, fun h => (by cases h)⟩
      dsimp only
      rw [hx] at hq
      rcases List.mem_append.1 hq with hq | hq
      · rcases hc.1 with hf | hlt
        · have := h2 hf q hq; rw [hqo] at this; cases this
        · cases hf : (refB ok cost l i).2 with
          | false => have := h2 hf q hq; rw [hqo] at this; cases this
          | true =>
            left
            rcases (h1 hf).2.2 q hq hqo with h | ⟨h, -⟩ <;> omega
      · obtain rfl := List.mem_singleton.1 hq
        exact .inr ⟨rfl, .inl rfl⟩
    · rw [if_neg hc]
      refine ⟨fun hf => ?_, fun hf q hq => ?_⟩
      · obtain ⟨a, b, c⟩ := h1 hf
        refine ⟨by rw [hx]; exact List.mem_append_left _ a, b, fun q hq hqo => ?_⟩
        rw [hx] at hq
        rcases List.mem_append.1 hq with hq | hq
        · exact c q hq hqo
        · obtain rfl := List.mem_singleton.1 hq
          have : ¬ cost (l.getD i default) < cost (refB ok cost l i).1 := fun h => hc ⟨.inr h, hqo⟩
          by_cases e : cost (refB ok cost l i).1 = cost (l.getD i default)
          · exact .inr ⟨e, .inr (hbef _ a)⟩
          · left; omega
      · rw [hx] at hq
        rcases List.mem_append.1 hq with hq | hq
        · exact h2 hf q hq
        · obtain rfl := List.mem_singleton.1 hq
          cases ho : ok (l.getD i default) with
          | false => rfl
          | true => exact absurd ⟨.inl hf, ho⟩ hc
end Go.Tk
namespace Go.Proofs.YtibgfmhddcibcaaDoor
open Go Go.Av Go.Tk
attribute [local irreducible] Holds sem semL ACalls FnIs
variable {G : World → Prop} (hG : ∀ w w', G w → RowKit.Below w.heap.size w w' → G w')
include hG
theorem ref02_plans (s : PileSite) (hs : s.ok) (r : Nat) (hr : r ≤ 15) (hm : ∀ t, t ≤ r → (2 ^ s.piles.length) ^ t ≤ 100000) : Holds Tryd.prog G F.ref02_plans [.agg s.cs, I r] (slOf intsCs (plansL (2 ^ s.piles.length) r)) := by
  have hn : 1 ≤ s.piles.length ∧ s.piles.length ≤ 6 := hs.2.1
  have pow : ∀ i : Nat, i ≤ 6 → 2 ^ i ≤ 64 := by decide
  (refine holds_of_sem hG fn_ref02_plans (by simp) fun w0 S0 hG0 D0 => ?_; unfold c_ref02_plans cval enterEnv; simp only [List.zipIdx_cons, List.zipIdx_nil, List.map_cons, List.map_nil, Nat.zero_add, Nat.reduceAdd])
  repeat' (first | ((first | refine o1 rfl ?_ | refine o0 rfl ?_); intro k hk; simp (disch := omega) only [ev0, sl_cells, simprocAttr]; refine hk _ _ ?_; clear hk k) | refine ono rfl ?_ | ((first | refine osplitG rfl (fun h => ?_) (fun h => ?_) | refine osplitB rfl (fun h => ?_) (fun h => ?_)) <;> (fail_if_success (simp only [eq_self, reduceCtorEq] at h))) | refine onx ?_ | refine onb ?_ | refine sreg ?_ | refine qT rfl ?_ | refine qF rfl ?_ | refine scondT rfl ?_ | refine scondF rfl ?_ | refine ocondP rfl (fun h => ?_) (fun h => ?_) | refine ocondB rfl (fun h => ?_) (fun h => ?_) | refine scondP rfl (fun h => ?_) (fun h => ?_) | refine scond rfl (fun h => ?_) (fun h => ?_) | refine oskip ?_ | refine oskipb ?_ | refine oret ?_ | refine sem_ret ?_ | refine sem_seq ?_ | refine sreg1 ?_)
  refine sem_block ?_
  
  refine sem_loop (α := Nat) (fun i => ⟨[(1, I r), (2, .ptr 0 0 6 0 0), (5, I ((2 ^ i : Nat) : Int)), (6, I i)], [.row 26 0 6 [s.cs]]⟩) (fun i => i ≤ s.piles.length) (fun i => s.piles.length - i) 0 (Nat.zero_le _) ?_ ?_
  · (refine Le.same ?_; simp only [List.forall_mem_cons, List.forall_mem_nil, getE, selE, Nat.reduceBEq, List.not_mem_nil, false_implies, implies_true, and_true, true_and, and_self])
    simp [PileSite.cs]
  · intro i hi
    repeat' (first | ((first | refine o1 rfl ?_ | refine o0 rfl ?_); intro k hk; simp (disch := omega) only [ev0, sl_cells, simprocAttr, slOf, PileSite.cs]; refine hk _ _ ?_; clear hk k) | refine ono rfl ?_ | ((first | refine osplitG rfl (fun h => ?_) (fun h => ?_) | refine osplitB rfl (fun h => ?_) (fun h => ?_)) <;> (fail_if_success (simp only [eq_self, reduceCtorEq] at h))) | refine onx ?_ | refine onb ?_ | refine sreg ?_ | refine qT rfl ?_ | refine qF rfl ?_ | refine scondT rfl ?_ | refine scondF rfl ?_ | refine ocondP rfl (fun h => ?_) (fun h => ?_) | refine ocondB rfl (fun h => ?_) (fun h => ?_) | refine scondP rfl (fun h => ?_) (fun h => ?_) | refine scond rfl (fun h => ?_) (fun h => ?_) | refine oskip ?_ | refine oskipb ?_ | refine oret ?_ | refine sem_ret ?_ | refine sem_seq ?_ | refine sreg1 ?_)
    · have hi' : i < s.piles.length := by omega
      have hp := pow (i + 1) (by omega)
      have hps : 2 ^ (i + 1) = 2 * 2 ^ i := by rw [Nat.pow_succ]; omega
      generalize hq : 2 ^ i = q at *
      refine sem_block ?_
      repeat' (first | ((first | refine o1 rfl ?_ | refine o0 rfl ?_); intro k hk; simp (disch := omega) only [ev0, sl_cells, simprocAttr]; refine hk _ _ ?_; clear hk k) | refine ono rfl ?_ | ((first | refine osplitG rfl (fun h => ?_) (fun h => ?_) | refine osplitB rfl (fun h => ?_) (fun h => ?_)) <;> (fail_if_success (simp only [eq_self, reduceCtorEq] at h))) | refine onx ?_ | refine onb ?_ | refine sreg ?_ | refine qT rfl ?_ | refine qF rfl ?_ | refine scondT rfl ?_ | refine scondF rfl ?_ | refine ocondP rfl (fun h => ?_) (fun h => ?_) | refine ocondB rfl (fun h => ?_) (fun h => ?_) | refine scondP rfl (fun h => ?_) (fun h => ?_) | refine scond rfl (fun h => ?_) (fun h => ?_) | refine oskip ?_ | refine oskipb ?_ | refine oret ?_ | refine sem_ret ?_ | refine sem_seq ?_ | refine sreg1 ?_)
      refine onil (lnext (i + 1) (by omega) (by omega) ?_)
      (refine Le.same ?_; simp only [List.forall_mem_cons, List.forall_mem_nil, getE, selE, Nat.reduceBEq, List.not_mem_nil, false_implies, implies_true, and_true, true_and, and_self])
      rw [hps]
      simp [PileSite.cs, slOf]
    · have hi' : i = s.piles.length := by omega
      subst hi'
      have hp := pow _ hn.2
      generalize hq : 2 ^ s.piles.length = m at *
      (refine sem_exit ?_; change sem _ _ _ _ _)
      repeat' (first | ((first | refine o1 rfl ?_ | refine o0 rfl ?_); intro k hk; simp (disch := omega) only [ev0, sl_cells, simprocAttr]; refine hk _ _ ?_; clear hk k) | refine ono rfl ?_ | ((first | refine osplitG rfl (fun h => ?_) (fun h => ?_) | refine osplitB rfl (fun h => ?_) (fun h => ?_)) <;> (fail_if_success (simp only [eq_self, reduceCtorEq] at h))) | refine onx ?_ | refine onb ?_ | refine sreg ?_ | refine qT rfl ?_ | refine qF rfl ?_ | refine scondT rfl ?_ | refine scondF rfl ?_ | refine ocondP rfl (fun h => ?_) (fun h => ?_) | refine ocondB rfl (fun h => ?_) (fun h => ?_) | refine scondP rfl (fun h => ?_) (fun h => ?_) | refine scond rfl (fun h => ?_) (fun h => ?_) | refine oskip ?_ | refine oskipb ?_ | refine oret ?_ | refine sem_ret ?_ | refine sem_seq ?_ | refine sreg1 ?_)
      (refine sem_frzbox 1 rfl rfl ?_; simp only [frz_siteCs, frzE, frzM, frzA, frzL, frzO, frz_sl, frz_span, frz_pile, frz_row, frz_pair, frz_site, List.map_cons, List.map_nil, List.set_cons_zero, List.set_cons_succ, Nat.reduceEqDiff, if_true, if_false, and_self, Nat.reduceLT, Nat.reduceLeDiff, reduceIte, Nat.le_refl])
      refine sem_weakE 7 (x' := slOf intsCs (plansL m 0)) rfl rfl (fun S w v h => h.sl_weak (fun i _ => rfl) fun i _ j c c' h1 h2 u hu => ?_) ?_
      · match j, h1, h2 with
        | 0, h1, h2 =>
          cases h1
          have : i = 0 := by omega
          subst this
          cases h2
          exact hu.nil_sl _
      refine sem_block ?_
      
      refine sem_loop (α := Nat) (fun t => ⟨[(1, I r), (5, I m), (7, slOf intsCs (plansL m t)), (8, I t)], []⟩) (fun t => t ≤ r) (fun t => r - t) 0 (Nat.zero_le _) ?_ ?_
      · (refine Le.drop ?_ rfl (by simp) rfl rfl; simp only [List.forall_mem_cons, List.forall_mem_nil, getE, selE, Nat.reduceBEq, List.not_mem_nil, false_implies, implies_true, and_true, true_and, and_self])
        simp
      · intro t ht
        have hpl := plans_len (m := m) t
        have hml := hm t ht
        generalize hl : plansL m t = l at *
        repeat' (first | ((first | refine o1 rfl ?_ | refine o0 rfl ?_); intro k hk; simp (disch := omega) only [ev0, sl_cells, simprocAttr]; refine hk _ _ ?_; clear hk k) | refine ono rfl ?_ | ((first | refine osplitG rfl (fun h => ?_) (fun h => ?_) | refine osplitB rfl (fun h => ?_) (fun h => ?_)) <;> (fail_if_success (simp only [eq_self, reduceCtorEq] at h))) | refine onx ?_ | refine onb ?_ | refine sreg ?_ | refine qT rfl ?_ | refine qF rfl ?_ | refine scondT rfl ?_ | refine scondF rfl ?_ | refine ocondP rfl (fun h => ?_) (fun h => ?_) | refine ocondB rfl (fun h => ?_) (fun h => ?_) | refine scondP rfl (fun h => ?_) (fun h => ?_) | refine scond rfl (fun h => ?_) (fun h => ?_) | refine oskip ?_ | refine oskipb ?_ | refine oret ?_ | refine sem_ret ?_ | refine sem_seq ?_ | refine sreg1 ?_)
        · have ht' : t < r := by omega
          have hml1 := hm (t + 1) ht'
          have hfl : ∀ i, i ≤ l.length → ((l.take i).flatMap fun p => ext1 p m).length ≤ 100000 := fun i hi => by
            rw [flat_len, List.length_take, Nat.min_eq_left hi]
            rw [Nat.pow_succ, ← hpl] at hml1
            exact Nat.le_trans (Nat.mul_le_mul_right _ hi) hml1
          refine sem_block ?_
          repeat' (first | ((first | refine o1 rfl ?_ | refine o0 rfl ?_); intro k hk; simp (disch := omega) only [ev0, sl_cells, simprocAttr]; refine hk _ _ ?_; clear hk k) | refine ono rfl ?_ | ((first | refine osplitG rfl (fun h => ?_) (fun h => ?_) | refine osplitB rfl (fun h => ?_) (fun h => ?_)) <;> (fail_if_success (simp only [eq_self, reduceCtorEq] at h))) | refine onx ?_ | refine onb ?_ | refine sreg ?_ | refine qT rfl ?_ | refine qF rfl ?_ | refine scondT rfl ?_ | refine scondF rfl ?_ | refine ocondP rfl (fun h => ?_) (fun h => ?_) | refine ocondB rfl (fun h => ?_) (fun h => ?_) | refine scondP rfl (fun h => ?_) (fun h => ?_) | refine scond rfl (fun h => ?_) (fun h => ?_) | refine oskip ?_ | refine oskipb ?_ | refine oret ?_ | refine sem_ret ?_ | refine sem_seq ?_ | refine sreg1 ?_)
          refine sem_block ?_
          (refine sem_ghost 9 28 1 rfl ?_; simp only [List.length_cons, List.length_nil, Nat.reduceAdd, Nat.zero_add, List.cons_append, List.nil_append])
          
          refine sem_loop (α := Nat) (fun i => ⟨[(1, I r), (5, I m), (7, slOf intsCs l), (8, I t), (9, .hsl 0 ((l.take i).flatMap fun p => ext1 p m).length 1 ((l.take i).flatMap fun p => ext1 p m).length), (10, I i)], [.row 28 ((l.take i).flatMap fun p => ext1 p m).length 1 (rowL intsCs ((l.take i).flatMap fun p => ext1 p m))]⟩) (fun i => i ≤ l.length) (fun i => l.length - i) 0 (Nat.zero_le _) ?_ ?_
          · (refine Le.drop ?_ rfl (by simp) rfl rfl; simp only [List.forall_mem_cons, List.forall_mem_nil, getE, selE, Nat.reduceBEq, List.not_mem_nil, false_implies, implies_true, and_true, true_and, and_self])
            simp
          · intro i hil
            have hfi := hfl i hil
            have hft := fun (h : i < l.length) => flat_take (m := m) h
            have hfi1 := fun (h : i < l.length) => hfl (i + 1) h
            generalize hL : ((l.take i).flatMap fun p => ext1 p m) = L at *
            repeat' (first | ((first | refine o1 rfl ?_ | refine o0 rfl ?_); intro k hk; simp (disch := omega) only [ev0, sl_cells, simprocAttr, slOf]; refine hk _ _ ?_; clear hk k) | refine ono rfl ?_ | ((first | refine osplitG rfl (fun h => ?_) (fun h => ?_) | refine osplitB rfl (fun h => ?_) (fun h => ?_)) <;> (fail_if_success (simp only [eq_self, reduceCtorEq] at h))) | refine onx ?_ | refine onb ?_ | refine sreg ?_ | refine qT rfl ?_ | refine qF rfl ?_ | refine scondT rfl ?_ | refine scondF rfl ?_ | refine ocondP rfl (fun h => ?_) (fun h => ?_) | refine ocondB rfl (fun h => ?_) (fun h => ?_) | refine scondP rfl (fun h => ?_) (fun h => ?_) | refine scond rfl (fun h => ?_) (fun h => ?_) | refine oskip ?_ | refine oskipb ?_ | refine oret ?_ | refine sem_ret ?_ | refine sem_seq ?_ | refine sreg1 ?_)
            · have hil' : i < l.length := by omega
              replace hft := hft hil'
              replace hfi1 := hfi1 hil'
              rw [hft, List.length_append, ext1_len] at hfi1
              generalize hp0 : l.getD i default = p at *
              refine sem_block ?_
              repeat' (first | ((first | refine o1 rfl ?_ | refine o0 rfl ?_); intro k hk; simp (disch := omega) only [ev0, sl_cells, simprocAttr]; refine hk _ _ ?_; clear hk k) | refine ono rfl ?_ | ((first | refine osplitG rfl (fun h => ?_) (fun h => ?_) | refine osplitB rfl (fun h => ?_) (fun h => ?_)) <;> (fail_if_success (simp only [eq_self, reduceCtorEq] at h))) | refine onx ?_ | refine onb ?_ | refine sreg ?_ | refine qT rfl ?_ | refine qF rfl ?_ | refine scondT rfl ?_ | refine scondF rfl ?_ | refine ocondP rfl (fun h => ?_) (fun h => ?_) | refine ocondB rfl (fun h => ?_) (fun h => ?_) | refine scondP rfl (fun h => ?_) (fun h => ?_) | refine scond rfl (fun h => ?_) (fun h => ?_) | refine oskip ?_ | refine oskipb ?_ | refine oret ?_ | refine sem_ret ?_ | refine sem_seq ?_ | refine sreg1 ?_)
              refine sem_block ?_
              
              refine sem_loop (α := Nat) (fun n => ⟨[(1, I r), (5, I m), (7, slOf intsCs l), (8, I t), (9, .hsl 0 (L.length + n) 1 (L.length + n)), (10, I i), (11, I n)], [.row 28 (L.length + n) 1 (rowL intsCs (L ++ ext1 p n))]⟩) (fun n => n ≤ m) (fun n => m - n) 0 (Nat.zero_le _) ?_ ?_
              · rw [show ext1 p 0 = [] from rfl, List.append_nil, Nat.add_zero]
                (refine Le.same ?_; simp only [List.forall_mem_cons, List.forall_mem_nil, getE, selE, Nat.reduceBEq, List.not_mem_nil, false_implies, implies_true, and_true, true_and, and_self])
                simp
              · intro n hnm
                have hpn : p.length ≤ 1000 := by
                  have : p ∈ plansL m t := by rw [hl, ← hp0, getD_lt hil']; exact List.getElem_mem _
                  have := ((plans_mem t p).1 this).1
                  omega
                have hall : (List.range p.length).all (fun i => decide ((intCs (p.getD i default)).length = 1)) = true := row_all (enc := intCs) (f := fun i => p.getD i default) fun _ => rfl
                repeat' (first | ((first | refine o1 rfl ?_ | refine o0 rfl ?_); intro k hk; simp (disch := omega) only [ev0, sl_cells, simprocAttr, slOf]; refine hk _ _ ?_; clear hk k) | refine ono rfl ?_ | ((first | refine osplitG rfl (fun h => ?_) (fun h => ?_) | refine osplitB rfl (fun h => ?_) (fun h => ?_)) <;> (fail_if_success (simp only [eq_self, reduceCtorEq] at h))) | refine onx ?_ | refine onb ?_ | refine sreg ?_ | refine qT rfl ?_ | refine qF rfl ?_ | refine scondT rfl ?_ | refine scondF rfl ?_ | refine ocondP rfl (fun h => ?_) (fun h => ?_) | refine ocondB rfl (fun h => ?_) (fun h => ?_) | refine scondP rfl (fun h => ?_) (fun h => ?_) | refine scond rfl (fun h => ?_) (fun h => ?_) | refine oskip ?_ | refine oskipb ?_ | refine oret ?_ | refine sem_ret ?_ | refine sem_seq ?_ | refine sreg1 ?_)
                · have hn' : n < m := by omega
                  refine sem_block ?_
                  repeat' (first | ((first | refine o1 rfl ?_ | refine o0 rfl ?_); intro k hk; simp (disch := omega) only [ev0, sl_cells, simprocAttr, slOf, intsCs, hp0, hall, List.length_map, List.length_range]; refine hk _ _ ?_; clear hk k) | refine ono rfl ?_ | ((first | refine osplitG rfl (fun h => ?_) (fun h => ?_) | refine osplitB rfl (fun h => ?_) (fun h => ?_)) <;> (fail_if_success (simp only [eq_self, reduceCtorEq] at h))) | refine onx ?_ | refine onb ?_ | refine sreg ?_ | refine qT rfl ?_ | refine qF rfl ?_ | refine scondT rfl ?_ | refine scondF rfl ?_ | refine ocondP rfl (fun h => ?_) (fun h => ?_) | refine ocondB rfl (fun h => ?_) (fun h => ?_) | refine scondP rfl (fun h => ?_) (fun h => ?_) | refine scond rfl (fun h => ?_) (fun h => ?_) | refine oskip ?_ | refine oskipb ?_ | refine oret ?_ | refine sem_ret ?_ | refine sem_seq ?_ | refine sreg1 ?_)
                  have e1 : List.take (L.length + n) (rowL intsCs (L ++ ext1 p n)) = rowL intsCs (L ++ ext1 p n) := rowL_take' (by rw [List.length_append, ext1_len])
                  have e2 : List.take p.length (List.map (fun i => intCs (p.getD i default)) (List.range p.length)) ++ [[AV.int .i64 n]] = rowL intCs (p ++ [(n : Int)]) := by
                    rw [List.take_of_length_le (by simp)]
                    rw [show [[AV.int .i64 (n : Int)]] = [intCs n] from rfl, ← rowL_snoc, rowL_F]; rfl
                  have e3 : (p ++ [(n : Int)]).length = p.length + 1 := by simp
                  rw [e1, e2, ← e3]
                  refine semL_frzlist (enc := intCs) 1 rfl (fun _ => rfl) ?_
                  simp only [frzE, frzM, frzO, frzA, frzL, List.map_cons, List.map_nil, List.map_append, List.set_cons_zero, List.set_cons_succ, Nat.reduceEqDiff, if_true, if_false, and_self, Nat.le_refl, reduceIte, frz_sl, frz_rowL (enc := intsCs) (fun _ => rfl)]
                  rw [show [[AV.sl (p ++ [(n : Int)]).length fun i => intCs ((p ++ [(n : Int)]).getD i default)]] = [intsCs (p ++ [(n : Int)])] from rfl, rowL_snoc, List.append_assoc, ← ext1_succ]
                  refine onil (lnext (n + 1) (by omega) (by omega) ?_)
                  (refine Le.drop ?_ rfl (by simp) rfl (by simp only [refM, refO, List.all_cons, List.all_nil, Bool.and_true, Bool.true_and, rowL_all (enc := intsCs) (fun _ _ => rfl)]; first | done | rfl) ; simp only [List.forall_mem_cons, List.forall_mem_nil, getE, selE, Nat.reduceBEq, List.not_mem_nil, false_implies, implies_true, and_true, true_and, and_self])
                  simp [slOf, Nat.add_assoc]
                · have hn' : n = m := by omega
                  subst hn'
                  (refine sem_exit ?_; change sem _ _ _ _ _)
                  repeat' (first | ((first | refine o1 rfl ?_ | refine o0 rfl ?_); intro k hk; simp (disch := omega) only [ev0, sl_cells, simprocAttr]; refine hk _ _ ?_; clear hk k) | refine ono rfl ?_ | ((first | refine osplitG rfl (fun h => ?_) (fun h => ?_) | refine osplitB rfl (fun h => ?_) (fun h => ?_)) <;> (fail_if_success (simp only [eq_self, reduceCtorEq] at h))) | refine onx ?_ | refine onb ?_ | refine sreg ?_ | refine qT rfl ?_ | refine qF rfl ?_ | refine scondT rfl ?_ | refine scondF rfl ?_ | refine ocondP rfl (fun h => ?_) (fun h => ?_) | refine ocondB rfl (fun h => ?_) (fun h => ?_) | refine scondP rfl (fun h => ?_) (fun h => ?_) | refine scond rfl (fun h => ?_) (fun h => ?_) | refine oskip ?_ | refine oskipb ?_ | refine oret ?_ | refine sem_ret ?_ | refine sem_seq ?_ | refine sreg1 ?_)
                  refine onil (lnext (i + 1) (by omega) (by omega) ?_)
                  rw [hft, List.length_append, ext1_len]
                  (refine Le.drop ?_ rfl (by simp) rfl (by simp only [refM, refO, List.all_cons, List.all_nil, Bool.and_true, Bool.true_and, rowL_all (enc := intsCs) (fun _ _ => rfl)]; first | done | rfl) ; simp only [List.forall_mem_cons, List.forall_mem_nil, getE, selE, Nat.reduceBEq, List.not_mem_nil, false_implies, implies_true, and_true, true_and, and_self])
                  simp [slOf]
            · have hil' : i = l.length := by omega
              subst hil'
              rw [List.take_length] at hL
              have hpl1 : plansL m (t + 1) = L := by rw [← hL, ← hl]; rfl
              (refine sem_exit ?_; change sem _ _ _ _ _)
              refine sem_frzlist (enc := intsCs) 0 rfl (fun _ => rfl) ?_
              simp only [frzE, frzM, frzO, frzA, frzL, List.map_cons, List.map_nil, List.set_cons_zero, List.set_cons_succ, Nat.reduceEqDiff, if_true, if_false, and_self, Nat.le_refl, reduceIte, frz_sl]
              repeat' (first | ((first | refine o1 rfl ?_ | refine o0 rfl ?_); intro k hk; simp (disch := omega) only [ev0, sl_cells, simprocAttr]; refine hk _ _ ?_; clear hk k) | refine ono rfl ?_ | ((first | refine osplitG rfl (fun h => ?_) (fun h => ?_) | refine osplitB rfl (fun h => ?_) (fun h => ?_)) <;> (fail_if_success (simp only [eq_self, reduceCtorEq] at h))) | refine onx ?_ | refine onb ?_ | refine sreg ?_ | refine qT rfl ?_ | refine qF rfl ?_ | refine scondT rfl ?_ | refine scondF rfl ?_ | refine ocondP rfl (fun h => ?_) (fun h => ?_) | refine ocondB rfl (fun h => ?_) (fun h => ?_) | refine scondP rfl (fun h => ?_) (fun h => ?_) | refine scond rfl (fun h => ?_) (fun h => ?_) | refine oskip ?_ | refine oskipb ?_ | refine oret ?_ | refine sem_ret ?_ | refine sem_seq ?_ | refine sreg1 ?_)
              refine onil (lnext (t + 1) (by omega) (by omega) ?_)
              (refine Le.drop ?_ rfl (by simp) rfl rfl; simp only [List.forall_mem_cons, List.forall_mem_nil, getE, selE, Nat.reduceBEq, List.not_mem_nil, false_implies, implies_true, and_true, true_and, and_self])
              rw [hpl1]
              simp [slOf]
        · have ht' : t = r := by omega
          subst ht'
          subst hl
          (refine sem_exit ?_; change sem _ _ _ _ _)
          repeat' (first | ((first | refine o1 rfl ?_ | refine o0 rfl ?_); intro k hk; simp (disch := omega) only [ev0, sl_cells, simprocAttr]; refine hk _ _ ?_; clear hk k) | refine ono rfl ?_ | ((first | refine osplitG rfl (fun h => ?_) (fun h => ?_) | refine osplitB rfl (fun h => ?_) (fun h => ?_)) <;> (fail_if_success (simp only [eq_self, reduceCtorEq] at h))) | refine onx ?_ | refine onb ?_ | refine sreg ?_ | refine qT rfl ?_ | refine qF rfl ?_ | refine scondT rfl ?_ | refine scondF rfl ?_ | refine ocondP rfl (fun h => ?_) (fun h => ?_) | refine ocondB rfl (fun h => ?_) (fun h => ?_) | refine scondP rfl (fun h => ?_) (fun h => ?_) | refine scond rfl (fun h => ?_) (fun h => ?_) | refine oskip ?_ | refine oskipb ?_ | refine oret ?_ | refine sem_ret ?_ | refine sem_seq ?_ | refine sreg1 ?_)
          exact ⟨_, rfl, _, rfl, tree_eq rfl rfl⟩
end Go.Proofs.YtibgfmhddcibcaaDoor

set_option linter.unusedVariables false
set_option linter.unusedSimpArgs false
set_option maxRecDepth 8000
set_option maxHeartbeats 2000000
/- The reference's best plan; the law PileBests over trees. -/
namespace Go.Tk
open Go Go.Av Go.Proofs.YtibgfmhddcibcaaDoor
noncomputable def okB (s : PileSite) (th : List (List Span)) (p : List Int) : Bool := decide ((faultOf s th (levOf s th p)).rule = 1)
noncomputable def refBest (s : PileSite) (th : List (List Span)) (i : Nat) : List Int × Bool := refB (okB s th) (costL s) (plansL (2 ^ s.piles.length) th.length) i
end Go.Tk
namespace Go.Proofs.YtibgfmhddcibcaaDoor
open Go Go.Av Go.Tk
attribute [local irreducible] Holds sem semL ACalls FnIs
variable {G : World → Prop} (hG : ∀ w w', G w → RowKit.Below w.heap.size w w' → G w')
theorem plans_ok {s : PileSite} {th : List (List Span)} {p : List Int} (h : p ∈ plansL (2 ^ s.piles.length) th.length) : planOk s th p := by
  obtain ⟨h1, h2⟩ := (plans_mem _ _).1 h
  refine ⟨h1, fun x hx => ?_⟩
  obtain ⟨n, rfl, hn⟩ := h2 x hx
  have h3 : (n : Int) < ((2 ^ s.piles.length : Nat) : Int) := by exact_mod_cast hn
  rw [Int.natCast_pow] at h3
  have e : ((2 : Nat) : Int) = 2 := rfl
  rw [e] at h3
  omega
theorem refBest_ok {s : PileSite} {th : List (List Span)} : ∀ i, i ≤ (plansL (2 ^ s.piles.length) th.length).length → (refBest s th i).2 = true → (refBest s th i).1 ∈ plansL (2 ^ s.piles.length) th.length := fun i hi h =>
  List.mem_of_mem_take ((refB_law (plans_sorted _) i hi).1 h).1
include hG
theorem ref02_Best (s : PileSite) (hs : s.ok) (th : List (List Span)) (ht : thawsOk s th) (hth : th.length ≤ 15) (hm : ∀ t, t ≤ th.length → (2 ^ s.piles.length) ^ t ≤ 100000) :
    Holds Tryd.prog G F.ref02_Best [.agg s.cs, slOf spansCs th] (.tup [slOf intCs (refBest s th (plansL (2 ^ s.piles.length) th.length).length).1, B (refBest s th (plansL (2 ^ s.piles.length) th.length).length).2]) := by
  have hpl := ref02_plans hG s hs th.length hth hm
  have hll := plans_len (m := 2 ^ s.piles.length) th.length
  have hll2 := hm th.length (Nat.le_refl _)
  rw [← hll] at hll2
  have hmem := @plans_ok s th
  have hbok := refBest_ok (s := s) (th := th)
  have hstep : ∀ i, refBest s th (i + 1) = if ((refBest s th i).2 = false ∨ costL s ((plansL (2 ^ s.piles.length) th.length).getD i default) < costL s (refBest s th i).1) ∧ okB s th ((plansL (2 ^ s.piles.length) th.length).getD i default) = true then ((plansL (2 ^ s.piles.length) th.length).getD i default, true) else refBest s th i := fun i => rfl
  have h0 : refBest s th 0 = ([], false) := rfl
  generalize plansL (2 ^ s.piles.length) th.length = l at *
  generalize refBest s th = b at *
  (refine holds_of_sem hG fn_ref02_Best (by simp) fun w0 S0 hG0 D0 => ?_; unfold c_ref02_Best cval enterEnv; simp only [List.zipIdx_cons, List.zipIdx_nil, List.map_cons, List.map_nil, Nat.zero_add, Nat.reduceAdd])
  repeat' (first | ((first | refine o1 rfl ?_ | refine o0 rfl ?_); intro k hk; simp (disch := omega) only [ev0, sl_cells, simprocAttr, slOf, PileSite.cs]; refine hk _ _ ?_; clear hk k) | refine ono rfl ?_ | (apply ocall; (case he => (simp only [ev0, sl_cells, simprocAttr] <;> rfl)); (case hc => first | exact hpl); (case ht => rfl); (case hg => rfl)) | ((first | refine osplitG rfl (fun h => ?_) (fun h => ?_) | refine osplitB rfl (fun h => ?_) (fun h => ?_)) <;> (fail_if_success (simp only [eq_self, reduceCtorEq] at h))) | refine onx ?_ | refine onb ?_ | refine sreg ?_ | refine qT rfl ?_ | refine qF rfl ?_ | refine scondT rfl ?_ | refine scondF rfl ?_ | refine ocondP rfl (fun h => ?_) (fun h => ?_) | refine ocondB rfl (fun h => ?_) (fun h => ?_) | refine scondP rfl (fun h => ?_) (fun h => ?_) | refine scond rfl (fun h => ?_) (fun h => ?_) | refine oskip ?_ | refine oskipb ?_ | refine oret ?_ | refine sem_ret ?_ | refine sem_seq ?_ | refine sreg1 ?_)
  refine sem_weakE 7 (x' := slOf intCs (b 0).1) rfl rfl (fun S w v h => by rw [h0]; exact h.nil_sl _) ?_
  refine sem_block ?_
  
  refine sem_loop (α := Nat) (fun i => ⟨[(1, slOf spansCs th), (2, .ptr 0 0 6 0 0), (6, slOf intsCs l), (7, slOf intCs (b i).1), (8, B (b i).2), (9, I i)], [.row 26 0 6 [s.cs]]⟩) (fun i => i ≤ l.length) (fun i => l.length - i) 0 (Nat.zero_le _) ?_ ?_
  · (refine Le.same ?_; simp only [List.forall_mem_cons, List.forall_mem_nil, getE, selE, Nat.reduceBEq, List.not_mem_nil, false_implies, implies_true, and_true, true_and, and_self])
    rw [h0]
    simp [PileSite.cs, slOf]
  · intro i hi
    repeat' (first | ((first | refine o1 rfl ?_ | refine o0 rfl ?_); intro k hk; simp (disch := omega) only [ev0, sl_cells, simprocAttr, slOf]; refine hk _ _ ?_; clear hk k) | refine ono rfl ?_ | ((first | refine osplitG rfl (fun h => ?_) (fun h => ?_) | refine osplitB rfl (fun h => ?_) (fun h => ?_)) <;> (fail_if_success (simp only [eq_self, reduceCtorEq] at h))) | refine onx ?_ | refine onb ?_ | refine sreg ?_ | refine qT rfl ?_ | refine qF rfl ?_ | refine scondT rfl ?_ | refine scondF rfl ?_ | refine ocondP rfl (fun h => ?_) (fun h => ?_) | refine ocondB rfl (fun h => ?_) (fun h => ?_) | refine scondP rfl (fun h => ?_) (fun h => ?_) | refine scond rfl (fun h => ?_) (fun h => ?_) | refine oskip ?_ | refine oskipb ?_ | refine oret ?_ | refine sem_ret ?_ | refine sem_seq ?_ | refine sreg1 ?_)
    · have hi' : i < l.length := by omega
      have hpm := hmem (p := l.getD i default) (by rw [getD_lt hi']; exact List.getElem_mem _)
      have hpl2 := hpm.1
      have hcost := ref02_Cost hG s hs (l.getD i default) (by omega) hpm.2
      have hflt := ref02_Fault hG s hs th ht hth (l.getD i default) hpm
      have hst := hstep i
      have hbi := hbok i hi
      have hok : okB s th (l.getD i default) = decide ((faultOf s th (levOf s th (l.getD i default))).rule = 1) := rfl
      generalize faultOf s th (levOf s th (l.getD i default)) = f at *
      refine sem_block ?_
      cases hf : (b i).2 with
      | false =>
        by_cases hr : f.rule = 1
        · rw [hf, hok, decide_eq_true hr, if_pos ⟨.inl rfl, rfl⟩] at hst
          have hr' : (f.rule = 1) = True := eq_true hr
          repeat' (first | ((first | refine o1 rfl ?_ | refine o0 rfl ?_); intro k hk; simp (disch := omega) only [ev0, sl_cells, simprocAttr, slOf, hf]; refine hk _ _ ?_; clear hk k) | refine ono rfl ?_ | ((first | refine osplitG rfl (fun h => ?_) (fun h => ?_) | refine osplitB rfl (fun h => ?_) (fun h => ?_)) <;> (fail_if_success (simp only [eq_self, reduceCtorEq] at h))) | refine onx ?_ | refine onb ?_ | refine sreg ?_ | refine qT rfl ?_ | refine qF rfl ?_ | refine scondT rfl ?_ | refine scondF rfl ?_ | refine ocondP rfl (fun h => ?_) (fun h => ?_) | refine ocondB rfl (fun h => ?_) (fun h => ?_) | refine scondP rfl (fun h => ?_) (fun h => ?_) | refine scond rfl (fun h => ?_) (fun h => ?_) | refine oskip ?_ | refine oskipb ?_ | refine oret ?_ | refine sem_ret ?_ | refine sem_seq ?_ | refine sreg1 ?_)
          ((refine sem_mgo 21 hmix (by kernel_rfl) ?_; simp only [List.take_succ_cons, List.take_zero, List.drop_succ_cons, List.drop_zero, List.take_nil, List.drop_nil]); (repeat' (first | ((first | apply mop | apply mop0); (case hg => rfl); (case hq => rfl); intro k hk; simp (disch := omega) only [ev0, sl_cells, simprocAttr, slOf, hf, intsCs, hr', PileFault.cs, PileSite.cs]; refine hk _ _ rfl ?_; clear hk k) | (apply mno; (case hg => rfl)) | (apply mcall; (case he => (simp only [ev0, sl_cells, simprocAttr] <;> rfl)); (case hc => first | exact hflt); (case ht => rfl); (case hg => rfl); (case hr => rfl)) | (apply mbox; (case hx => (simp only [wv, simprocAttr] <;> rfl)); (case hg => rfl); (case hall => rfl); (case hr => rfl); simp only [cellsOf, List.length_cons, List.length_nil, Nat.reduceAdd, Nat.zero_add, List.nil_append, List.cons_append, List.set_cons_zero, List.set_cons_succ, chunks, List.take_succ_cons, List.take_zero, List.drop_succ_cons, List.drop_zero]) | (apply mbldS; (case hb => (simp (disch := omega) only [ev0, sl_cells, simprocAttr] <;> rfl)); (case hg => rfl); (case hr => rfl); simp only [cellsOf, List.length_cons, List.length_nil, Nat.reduceAdd, Nat.zero_add, List.nil_append, List.cons_append, List.set_cons_zero, List.set_cons_succ, chunks, List.take_succ_cons, List.take_zero, List.drop_succ_cons, List.drop_zero]) | ((first | (apply msto (q := 0); (case hq => rfl)) | (apply msto (q := 1); (case hq => rfl)) | (apply msto (q := 2); (case hq => rfl)) | (apply msto (q := 3); (case hq => rfl))); (case hx => (simp only [wv, simprocAttr] <;> rfl)); (case haddr => (simp only [wv, simprocAttr] <;> rfl)); (case hg => rfl); (case hl1 => rfl); (case hl2 => rfl); (case hok => rfl); (case hr => rfl); simp only [cellsOf, List.length_cons, List.length_nil, Nat.reduceAdd, Nat.zero_add, List.nil_append, List.cons_append, List.set_cons_zero, List.set_cons_succ, chunks, List.take_succ_cons, List.take_zero, List.drop_succ_cons, List.drop_zero]) | (apply mnil; simp only [SlotR.fin, List.map_cons, List.map_nil, List.cons_append, List.nil_append, List.append_nil]) | (refine msplit rfl (fun h => ?_) (fun h => ?_) <;> simp only [h] <;> (try simp only [Bool.not_eq_true', Bool.not_eq_false', decide_eq_true_eq, decide_eq_false_iff_not] at h)))) <;> (repeat' (first | ((first | refine o1 rfl ?_ | refine o0 rfl ?_); intro k hk; simp (disch := omega) only [ev0, sl_cells, simprocAttr, slOf, hf, intsCs, hr', PileFault.cs, PileSite.cs]; refine hk _ _ ?_; clear hk k) | refine ono rfl ?_ | (apply ocall; (case he => (simp only [ev0, sl_cells, simprocAttr] <;> rfl)); (case hc => first | exact hflt); (case ht => rfl); (case hg => rfl)) | ((first | refine osplitG rfl (fun h => ?_) (fun h => ?_) | refine osplitB rfl (fun h => ?_) (fun h => ?_)) <;> (fail_if_success (simp only [eq_self, reduceCtorEq] at h))) | refine onx ?_ | refine onb ?_ | refine sreg ?_ | refine qT rfl ?_ | refine qF rfl ?_ | refine scondT rfl ?_ | refine scondF rfl ?_ | refine ocondP rfl (fun h => ?_) (fun h => ?_) | refine ocondB rfl (fun h => ?_) (fun h => ?_) | refine scondP rfl (fun h => ?_) (fun h => ?_) | refine scond rfl (fun h => ?_) (fun h => ?_) | refine oskip ?_ | refine oskipb ?_ | refine oret ?_ | refine sem_ret ?_ | refine sem_seq ?_ | refine sreg1 ?_)))
          refine onil (lnext (i + 1) (by omega) (by omega) ?_)
          (refine Le.same ?_; simp only [List.forall_mem_cons, List.forall_mem_nil, getE, selE, Nat.reduceBEq, List.not_mem_nil, false_implies, implies_true, and_true, true_and, and_self])
          rw [hst]
          simp [slOf, PileSite.cs]
        · rw [hf, hok, decide_eq_false hr, if_neg (fun h => by cases h.2)] at hst
          repeat' (first | ((first | refine o1 rfl ?_ | refine o0 rfl ?_); intro k hk; simp (disch := omega) only [ev0, sl_cells, simprocAttr, slOf, hf]; refine hk _ _ ?_; clear hk k) | refine ono rfl ?_ | ((first | refine osplitG rfl (fun h => ?_) (fun h => ?_) | refine osplitB rfl (fun h => ?_) (fun h => ?_)) <;> (fail_if_success (simp only [eq_self, reduceCtorEq] at h))) | refine onx ?_ | refine onb ?_ | refine sreg ?_ | refine qT rfl ?_ | refine qF rfl ?_ | refine scondT rfl ?_ | refine scondF rfl ?_ | refine ocondP rfl (fun h => ?_) (fun h => ?_) | refine ocondB rfl (fun h => ?_) (fun h => ?_) | refine scondP rfl (fun h => ?_) (fun h => ?_) | refine scond rfl (fun h => ?_) (fun h => ?_) | refine oskip ?_ | refine oskipb ?_ | refine oret ?_ | refine sem_ret ?_ | refine sem_seq ?_ | refine sreg1 ?_)
          ((refine sem_mgo 21 hmix (by kernel_rfl) ?_; simp only [List.take_succ_cons, List.take_zero, List.drop_succ_cons, List.drop_zero, List.take_nil, List.drop_nil]); (repeat' (first | ((first | apply mop | apply mop0); (case hg => rfl); (case hq => rfl); intro k hk; simp (disch := omega) only [ev0, sl_cells, simprocAttr, slOf, hf, intsCs, hr, PileFault.cs, PileSite.cs]; refine hk _ _ rfl ?_; clear hk k) | (apply mno; (case hg => rfl)) | (apply mcall; (case he => (simp only [ev0, sl_cells, simprocAttr] <;> rfl)); (case hc => first | exact hflt); (case ht => rfl); (case hg => rfl); (case hr => rfl)) | (apply mbox; (case hx => (simp only [wv, simprocAttr] <;> rfl)); (case hg => rfl); (case hall => rfl); (case hr => rfl); simp only [cellsOf, List.length_cons, List.length_nil, Nat.reduceAdd, Nat.zero_add, List.nil_append, List.cons_append, List.set_cons_zero, List.set_cons_succ, chunks, List.take_succ_cons, List.take_zero, List.drop_succ_cons, List.drop_zero]) | (apply mbldS; (case hb => (simp (disch := omega) only [ev0, sl_cells, simprocAttr] <;> rfl)); (case hg => rfl); (case hr => rfl); simp only [cellsOf, List.length_cons, List.length_nil, Nat.reduceAdd, Nat.zero_add, List.nil_append, List.cons_append, List.set_cons_zero, List.set_cons_succ, chunks, List.take_succ_cons, List.take_zero, List.drop_succ_cons, List.drop_zero]) | ((first | (apply msto (q := 0); (case hq => rfl)) | (apply msto (q := 1); (case hq => rfl)) | (apply msto (q := 2); (case hq => rfl)) | (apply msto (q := 3); (case hq => rfl))); (case hx => (simp only [wv, simprocAttr] <;> rfl)); (case haddr => (simp only [wv, simprocAttr] <;> rfl)); (case hg => rfl); (case hl1 => rfl); (case hl2 => rfl); (case hok => rfl); (case hr => rfl); simp only [cellsOf, List.length_cons, List.length_nil, Nat.reduceAdd, Nat.zero_add, List.nil_append, List.cons_append, List.set_cons_zero, List.set_cons_succ, chunks, List.take_succ_cons, List.take_zero, List.drop_succ_cons, List.drop_zero]) | (apply mnil; simp only [SlotR.fin, List.map_cons, List.map_nil, List.cons_append, List.nil_append, List.append_nil]) | (refine msplit rfl (fun h => ?_) (fun h => ?_) <;> simp only [h] <;> (try simp only [Bool.not_eq_true', Bool.not_eq_false', decide_eq_true_eq, decide_eq_false_iff_not] at h)))) <;> (repeat' (first | ((first | refine o1 rfl ?_ | refine o0 rfl ?_); intro k hk; simp (disch := omega) only [ev0, sl_cells, simprocAttr, slOf, hf, intsCs, hr, PileFault.cs, PileSite.cs]; refine hk _ _ ?_; clear hk k) | refine ono rfl ?_ | (apply ocall; (case he => (simp only [ev0, sl_cells, simprocAttr] <;> rfl)); (case hc => first | exact hflt); (case ht => rfl); (case hg => rfl)) | ((first | refine osplitG rfl (fun h => ?_) (fun h => ?_) | refine osplitB rfl (fun h => ?_) (fun h => ?_)) <;> (fail_if_success (simp only [eq_self, reduceCtorEq] at h))) | refine onx ?_ | refine onb ?_ | refine sreg ?_ | refine qT rfl ?_ | refine qF rfl ?_ | refine scondT rfl ?_ | refine scondF rfl ?_ | refine ocondP rfl (fun h => ?_) (fun h => ?_) | refine ocondB rfl (fun h => ?_) (fun h => ?_) | refine scondP rfl (fun h => ?_) (fun h => ?_) | refine scond rfl (fun h => ?_) (fun h => ?_) | refine oskip ?_ | refine oskipb ?_ | refine oret ?_ | refine sem_ret ?_ | refine sem_seq ?_ | refine sreg1 ?_)))
          refine onil (lnext (i + 1) (by omega) (by omega) ?_)
          (refine Le.same ?_; simp only [List.forall_mem_cons, List.forall_mem_nil, getE, selE, Nat.reduceBEq, List.not_mem_nil, false_implies, implies_true, and_true, true_and, and_self])
          rw [hst]
          simp [slOf, PileSite.cs, hf]
      | true =>
        have hb2 := hmem (hbi hf)
        have hb3 := hb2.1
        have hcb := ref02_Cost hG s hs (b i).1 (by omega) hb2.2
        by_cases hlt : costL s (l.getD i default) < costL s (b i).1
        · have hlt' : (costL s (l.getD i default) < costL s (b i).1) = True := eq_true hlt
          by_cases hr : f.rule = 1
          · rw [hf, hok, decide_eq_true hr, if_pos ⟨.inr hlt, rfl⟩] at hst
            have hr' : (f.rule = 1) = True := eq_true hr
            repeat' (first | ((first | refine o1 rfl ?_ | refine o0 rfl ?_); intro k hk; simp (disch := omega) only [ev0, sl_cells, simprocAttr, slOf, hf]; refine hk _ _ ?_; clear hk k) | refine ono rfl ?_ | ((first | refine osplitG rfl (fun h => ?_) (fun h => ?_) | refine osplitB rfl (fun h => ?_) (fun h => ?_)) <;> (fail_if_success (simp only [eq_self, reduceCtorEq] at h))) | refine onx ?_ | refine onb ?_ | refine sreg ?_ | refine qT rfl ?_ | refine qF rfl ?_ | refine scondT rfl ?_ | refine scondF rfl ?_ | refine ocondP rfl (fun h => ?_) (fun h => ?_) | refine ocondB rfl (fun h => ?_) (fun h => ?_) | refine scondP rfl (fun h => ?_) (fun h => ?_) | refine scond rfl (fun h => ?_) (fun h => ?_) | refine oskip ?_ | refine oskipb ?_ | refine oret ?_ | refine sem_ret ?_ | refine sem_seq ?_ | refine sreg1 ?_)
            ((refine sem_mgo 21 hmix (by kernel_rfl) ?_; simp only [List.take_succ_cons, List.take_zero, List.drop_succ_cons, List.drop_zero, List.take_nil, List.drop_nil]); (repeat' (first | ((first | apply mop | apply mop0); (case hg => rfl); (case hq => rfl); intro k hk; simp (disch := omega) only [ev0, sl_cells, simprocAttr, slOf, hf, intsCs, hr', PileFault.cs, PileSite.cs, hlt']; refine hk _ _ rfl ?_; clear hk k) | (apply mno; (case hg => rfl)) | (apply mcall; (case he => (simp only [ev0, sl_cells, simprocAttr] <;> rfl)); (case hc => first | exact hflt | exact hcost | exact hcb); (case ht => rfl); (case hg => rfl); (case hr => rfl)) | (apply mbox; (case hx => (simp only [wv, simprocAttr] <;> rfl)); (case hg => rfl); (case hall => rfl); (case hr => rfl); simp only [cellsOf, List.length_cons, List.length_nil, Nat.reduceAdd, Nat.zero_add, List.nil_append, List.cons_append, List.set_cons_zero, List.set_cons_succ, chunks, List.take_succ_cons, List.take_zero, List.drop_succ_cons, List.drop_zero]) | (apply mbldS; (case hb => (simp (disch := omega) only [ev0, sl_cells, simprocAttr] <;> rfl)); (case hg => rfl); (case hr => rfl); simp only [cellsOf, List.length_cons, List.length_nil, Nat.reduceAdd, Nat.zero_add, List.nil_append, List.cons_append, List.set_cons_zero, List.set_cons_succ, chunks, List.take_succ_cons, List.take_zero, List.drop_succ_cons, List.drop_zero]) | ((first | (apply msto (q := 0); (case hq => rfl)) | (apply msto (q := 1); (case hq => rfl)) | (apply msto (q := 2); (case hq => rfl)) | (apply msto (q := 3); (case hq => rfl))); (case hx => (simp only [wv, simprocAttr] <;> rfl)); (case haddr => (simp only [wv, simprocAttr] <;> rfl)); (case hg => rfl); (case hl1 => rfl); (case hl2 => rfl); (case hok => rfl); (case hr => rfl); simp only [cellsOf, List.length_cons, List.length_nil, Nat.reduceAdd, Nat.zero_add, List.nil_append, List.cons_append, List.set_cons_zero, List.set_cons_succ, chunks, List.take_succ_cons, List.take_zero, List.drop_succ_cons, List.drop_zero]) | (apply mnil; simp only [SlotR.fin, List.map_cons, List.map_nil, List.cons_append, List.nil_append, List.append_nil]) | (refine msplit rfl (fun h => ?_) (fun h => ?_) <;> simp only [h] <;> (try simp only [Bool.not_eq_true', Bool.not_eq_false', decide_eq_true_eq, decide_eq_false_iff_not] at h)))) <;> (repeat' (first | ((first | refine o1 rfl ?_ | refine o0 rfl ?_); intro k hk; simp (disch := omega) only [ev0, sl_cells, simprocAttr, slOf, hf, intsCs, hr', PileFault.cs, PileSite.cs, hlt']; refine hk _ _ ?_; clear hk k) | refine ono rfl ?_ | (apply ocall; (case he => (simp only [ev0, sl_cells, simprocAttr] <;> rfl)); (case hc => first | exact hflt | exact hcost | exact hcb); (case ht => rfl); (case hg => rfl)) | ((first | refine osplitG rfl (fun h => ?_) (fun h => ?_) | refine osplitB rfl (fun h => ?_) (fun h => ?_)) <;> (fail_if_success (simp only [eq_self, reduceCtorEq] at h))) | refine onx ?_ | refine onb ?_ | refine sreg ?_ | refine qT rfl ?_ | refine qF rfl ?_ | refine scondT rfl ?_ | refine scondF rfl ?_ | refine ocondP rfl (fun h => ?_) (fun h => ?_) | refine ocondB rfl (fun h => ?_) (fun h => ?_) | refine scondP rfl (fun h => ?_) (fun h => ?_) | refine scond rfl (fun h => ?_) (fun h => ?_) | refine oskip ?_ | refine oskipb ?_ | refine oret ?_ | refine sem_ret ?_ | refine sem_seq ?_ | refine sreg1 ?_)))
            refine onil (lnext (i + 1) (by omega) (by omega) ?_)
            (refine Le.same ?_; simp only [List.forall_mem_cons, List.forall_mem_nil, getE, selE, Nat.reduceBEq, List.not_mem_nil, false_implies, implies_true, and_true, true_and, and_self])
            rw [hst]
            simp [slOf, PileSite.cs]
          · rw [hf, hok, decide_eq_false hr, if_neg (fun h => by cases h.2)] at hst
            repeat' (first | ((first | refine o1 rfl ?_ | refine o0 rfl ?_); intro k hk; simp (disch := omega) only [ev0, sl_cells, simprocAttr, slOf, hf]; refine hk _ _ ?_; clear hk k) | refine ono rfl ?_ | ((first | refine osplitG rfl (fun h => ?_) (fun h => ?_) | refine osplitB rfl (fun h => ?_) (fun h => ?_)) <;> (fail_if_success (simp only [eq_self, reduceCtorEq] at h))) | refine onx ?_ | refine onb ?_ | refine sreg ?_ | refine qT rfl ?_ | refine qF rfl ?_ | refine scondT rfl ?_ | refine scondF rfl ?_ | refine ocondP rfl (fun h => ?_) (fun h => ?_) | refine ocondB rfl (fun h => ?_) (fun h => ?_) | refine scondP rfl (fun h => ?_) (fun h => ?_) | refine scond rfl (fun h => ?_) (fun h => ?_) | refine oskip ?_ | refine oskipb ?_ | refine oret ?_ | refine sem_ret ?_ | refine sem_seq ?_ | refine sreg1 ?_)
            ((refine sem_mgo 21 hmix (by kernel_rfl) ?_; simp only [List.take_succ_cons, List.take_zero, List.drop_succ_cons, List.drop_zero, List.take_nil, List.drop_nil]); (repeat' (first | ((first | apply mop | apply mop0); (case hg => rfl); (case hq => rfl); intro k hk; simp (disch := omega) only [ev0, sl_cells, simprocAttr, slOf, hf, intsCs, hr, PileFault.cs, PileSite.cs, hlt']; refine hk _ _ rfl ?_; clear hk k) | (apply mno; (case hg => rfl)) | (apply mcall; (case he => (simp only [ev0, sl_cells, simprocAttr] <;> rfl)); (case hc => first | exact hflt | exact hcost | exact hcb); (case ht => rfl); (case hg => rfl); (case hr => rfl)) | (apply mbox; (case hx => (simp only [wv, simprocAttr] <;> rfl)); (case hg => rfl); (case hall => rfl); (case hr => rfl); simp only [cellsOf, List.length_cons, List.length_nil, Nat.reduceAdd, Nat.zero_add, List.nil_append, List.cons_append, List.set_cons_zero, List.set_cons_succ, chunks, List.take_succ_cons, List.take_zero, List.drop_succ_cons, List.drop_zero]) | (apply mbldS; (case hb => (simp (disch := omega) only [ev0, sl_cells, simprocAttr] <;> rfl)); (case hg => rfl); (case hr => rfl); simp only [cellsOf, List.length_cons, List.length_nil, Nat.reduceAdd, Nat.zero_add, List.nil_append, List.cons_append, List.set_cons_zero, List.set_cons_succ, chunks, List.take_succ_cons, List.take_zero, List.drop_succ_cons, List.drop_zero]) | ((first | (apply msto (q := 0); (case hq => rfl)) | (apply msto (q := 1); (case hq => rfl)) | (apply msto (q := 2); (case hq => rfl)) | (apply msto (q := 3); (case hq => rfl))); (case hx => (simp only [wv, simprocAttr] <;> rfl)); (case haddr => (simp only [wv, simprocAttr] <;> rfl)); (case hg => rfl); (case hl1 => rfl); (case hl2 => rfl); (case hok => rfl); (case hr => rfl); simp only [cellsOf, List.length_cons, List.length_nil, Nat.reduceAdd, Nat.zero_add, List.nil_append, List.cons_append, List.set_cons_zero, List.set_cons_succ, chunks, List.take_succ_cons, List.take_zero, List.drop_succ_cons, List.drop_zero]) | (apply mnil; simp only [SlotR.fin, List.map_cons, List.map_nil, List.cons_append, List.nil_append, List.append_nil]) | (refine msplit rfl (fun h => ?_) (fun h => ?_) <;> simp only [h] <;> (try simp only [Bool.not_eq_true', Bool.not_eq_false', decide_eq_true_eq, decide_eq_false_iff_not] at h)))) <;> (repeat' (first | ((first | refine o1 rfl ?_ | refine o0 rfl ?_); intro k hk; simp (disch := omega) only [ev0, sl_cells, simprocAttr, slOf, hf, intsCs, hr, PileFault.cs, PileSite.cs, hlt']; refine hk _ _ ?_; clear hk k) | refine ono rfl ?_ | (apply ocall; (case he => (simp only [ev0, sl_cells, simprocAttr] <;> rfl)); (case hc => first | exact hflt | exact hcost | exact hcb); (case ht => rfl); (case hg => rfl)) | ((first | refine osplitG rfl (fun h => ?_) (fun h => ?_) | refine osplitB rfl (fun h => ?_) (fun h => ?_)) <;> (fail_if_success (simp only [eq_self, reduceCtorEq] at h))) | refine onx ?_ | refine onb ?_ | refine sreg ?_ | refine qT rfl ?_ | refine qF rfl ?_ | refine scondT rfl ?_ | refine scondF rfl ?_ | refine ocondP rfl (fun h => ?_) (fun h => ?_) | refine ocondB rfl (fun h => ?_) (fun h => ?_) | refine scondP rfl (fun h => ?_) (fun h => ?_) | refine scond rfl (fun h => ?_) (fun h => ?_) | refine oskip ?_ | refine oskipb ?_ | refine oret ?_ | refine sem_ret ?_ | refine sem_seq ?_ | refine sreg1 ?_)))
            refine onil (lnext (i + 1) (by omega) (by omega) ?_)
            (refine Le.same ?_; simp only [List.forall_mem_cons, List.forall_mem_nil, getE, selE, Nat.reduceBEq, List.not_mem_nil, false_implies, implies_true, and_true, true_and, and_self])
            rw [hst]
            simp [slOf, PileSite.cs, hf]
        · rw [hf, if_neg (fun h => h.1.elim (fun h => by cases h) hlt)] at hst
          repeat' (first | ((first | refine o1 rfl ?_ | refine o0 rfl ?_); intro k hk; simp (disch := omega) only [ev0, sl_cells, simprocAttr, slOf, hf]; refine hk _ _ ?_; clear hk k) | refine ono rfl ?_ | ((first | refine osplitG rfl (fun h => ?_) (fun h => ?_) | refine osplitB rfl (fun h => ?_) (fun h => ?_)) <;> (fail_if_success (simp only [eq_self, reduceCtorEq] at h))) | refine onx ?_ | refine onb ?_ | refine sreg ?_ | refine qT rfl ?_ | refine qF rfl ?_ | refine scondT rfl ?_ | refine scondF rfl ?_ | refine ocondP rfl (fun h => ?_) (fun h => ?_) | refine ocondB rfl (fun h => ?_) (fun h => ?_) | refine scondP rfl (fun h => ?_) (fun h => ?_) | refine scond rfl (fun h => ?_) (fun h => ?_) | refine oskip ?_ | refine oskipb ?_ | refine oret ?_ | refine sem_ret ?_ | refine sem_seq ?_ | refine sreg1 ?_)
          ((refine sem_mgo 21 hmix (by kernel_rfl) ?_; simp only [List.take_succ_cons, List.take_zero, List.drop_succ_cons, List.drop_zero, List.take_nil, List.drop_nil]); (repeat' (first | ((first | apply mop | apply mop0); (case hg => rfl); (case hq => rfl); intro k hk; simp (disch := omega) only [ev0, sl_cells, simprocAttr, slOf, hf, intsCs, PileFault.cs, PileSite.cs, hlt]; refine hk _ _ rfl ?_; clear hk k) | (apply mno; (case hg => rfl)) | (apply mcall; (case he => (simp only [ev0, sl_cells, simprocAttr] <;> rfl)); (case hc => first | exact hflt | exact hcost | exact hcb); (case ht => rfl); (case hg => rfl); (case hr => rfl)) | (apply mbox; (case hx => (simp only [wv, simprocAttr] <;> rfl)); (case hg => rfl); (case hall => rfl); (case hr => rfl); simp only [cellsOf, List.length_cons, List.length_nil, Nat.reduceAdd, Nat.zero_add, List.nil_append, List.cons_append, List.set_cons_zero, List.set_cons_succ, chunks, List.take_succ_cons, List.take_zero, List.drop_succ_cons, List.drop_zero]) | (apply mbldS; (case hb => (simp (disch := omega) only [ev0, sl_cells, simprocAttr] <;> rfl)); (case hg => rfl); (case hr => rfl); simp only [cellsOf, List.length_cons, List.length_nil, Nat.reduceAdd, Nat.zero_add, List.nil_append, List.cons_append, List.set_cons_zero, List.set_cons_succ, chunks, List.take_succ_cons, List.take_zero, List.drop_succ_cons, List.drop_zero]) | ((first | (apply msto (q := 0); (case hq => rfl)) | (apply msto (q := 1); (case hq => rfl)) | (apply msto (q := 2); (case hq => rfl)) | (apply msto (q := 3); (case hq => rfl))); (case hx => (simp only [wv, simprocAttr] <;> rfl)); (case haddr => (simp only [wv, simprocAttr] <;> rfl)); (case hg => rfl); (case hl1 => rfl); (case hl2 => rfl); (case hok => rfl); (case hr => rfl); simp only [cellsOf, List.length_cons, List.length_nil, Nat.reduceAdd, Nat.zero_add, List.nil_append, List.cons_append, List.set_cons_zero, List.set_cons_succ, chunks, List.take_succ_cons, List.take_zero, List.drop_succ_cons, List.drop_zero]) | (apply mnil; simp only [SlotR.fin, List.map_cons, List.map_nil, List.cons_append, List.nil_append, List.append_nil]) | (refine msplit rfl (fun h => ?_) (fun h => ?_) <;> simp only [h] <;> (try simp only [Bool.not_eq_true', Bool.not_eq_false', decide_eq_true_eq, decide_eq_false_iff_not] at h)))) <;> (repeat' (first | ((first | refine o1 rfl ?_ | refine o0 rfl ?_); intro k hk; simp (disch := omega) only [ev0, sl_cells, simprocAttr, slOf, hf, intsCs, PileFault.cs, PileSite.cs, hlt]; refine hk _ _ ?_; clear hk k) | refine ono rfl ?_ | (apply ocall; (case he => (simp only [ev0, sl_cells, simprocAttr] <;> rfl)); (case hc => first | exact hflt | exact hcost | exact hcb); (case ht => rfl); (case hg => rfl)) | ((first | refine osplitG rfl (fun h => ?_) (fun h => ?_) | refine osplitB rfl (fun h => ?_) (fun h => ?_)) <;> (fail_if_success (simp only [eq_self, reduceCtorEq] at h))) | refine onx ?_ | refine onb ?_ | refine sreg ?_ | refine qT rfl ?_ | refine qF rfl ?_ | refine scondT rfl ?_ | refine scondF rfl ?_ | refine ocondP rfl (fun h => ?_) (fun h => ?_) | refine ocondB rfl (fun h => ?_) (fun h => ?_) | refine scondP rfl (fun h => ?_) (fun h => ?_) | refine scond rfl (fun h => ?_) (fun h => ?_) | refine oskip ?_ | refine oskipb ?_ | refine oret ?_ | refine sem_ret ?_ | refine sem_seq ?_ | refine sreg1 ?_)))
          refine onil (lnext (i + 1) (by omega) (by omega) ?_)
          (refine Le.same ?_; simp only [List.forall_mem_cons, List.forall_mem_nil, getE, selE, Nat.reduceBEq, List.not_mem_nil, false_implies, implies_true, and_true, true_and, and_self])
          rw [hst]
          simp [slOf, PileSite.cs, hf]
    · have hi' : i = l.length := by omega
      subst hi'
      (refine sem_exit ?_; change sem _ _ _ _ _)
      repeat' (first | ((first | refine o1 rfl ?_ | refine o0 rfl ?_); intro k hk; simp (disch := omega) only [ev0, sl_cells, simprocAttr]; refine hk _ _ ?_; clear hk k) | refine ono rfl ?_ | ((first | refine osplitG rfl (fun h => ?_) (fun h => ?_) | refine osplitB rfl (fun h => ?_) (fun h => ?_)) <;> (fail_if_success (simp only [eq_self, reduceCtorEq] at h))) | refine onx ?_ | refine onb ?_ | refine sreg ?_ | refine qT rfl ?_ | refine qF rfl ?_ | refine scondT rfl ?_ | refine scondF rfl ?_ | refine ocondP rfl (fun h => ?_) (fun h => ?_) | refine ocondB rfl (fun h => ?_) (fun h => ?_) | refine scondP rfl (fun h => ?_) (fun h => ?_) | refine scond rfl (fun h => ?_) (fun h => ?_) | refine oskip ?_ | refine oskipb ?_ | refine oret ?_ | refine sem_ret ?_ | refine sem_seq ?_ | refine sreg1 ?_)
      exact ⟨_, rfl, _, rfl, tree_eq rfl rfl⟩

variable (hT : ∀ w, G w → GT w)
include hT
theorem law02_PileBests (s : PileSite) (th : List (List Span)) : Holds Tryd.prog G F.law02_PileBests [.agg s.cs, slOf spansCs th] (B true) := by
  by_cases hs : shortP s th
  · have hsd := decide_eq_true hs
    have hA := law02_asked hG s th hs
    have hB := pile_Best hG s th hs
    by_cases he : askedE s th = 0
    · obtain ⟨ok, tok, t10⟩ := asked_0 he
      by_cases hq : s.piles.length ≤ 2 ∧ th.length ≤ 3
      · have q1 : ¬ (2 : Int) < s.piles.length := by omega
        have q2 : ¬ (3 : Int) < th.length := by omega
        rw [he] at hA
        rw [if_pos he] at hB
        obtain ⟨l1, l2⟩ := best_law s th th.length 0 (fun _ => 0)
        have hm : ∀ t, t ≤ th.length → (2 ^ s.piles.length) ^ t ≤ 100000 := fun t ht => by
          have h1 : 2 ^ s.piles.length ≤ 2 ^ 2 := Nat.pow_le_pow_right (by decide) hq.1
          have h2 : (2 ^ s.piles.length) ^ t ≤ (2 ^ 2) ^ t := Nat.pow_le_pow_left h1 t
          have h3 : (2 ^ 2) ^ t ≤ (2 ^ 2) ^ 3 := Nat.pow_le_pow_right (by decide) (by omega)
          omega
        have hR := ref02_Best hG s ok th tok (by omega) hm
        obtain ⟨r1, r2⟩ := refB_law (ok := okB s th) (cost := costL s) (plans_sorted (m := 2 ^ s.piles.length) th.length) (plansL (2 ^ s.piles.length) th.length).length (Nat.le_refl _)
        rw [List.take_length] at r1 r2
        have hin : ∀ q, q ∈ plansL (2 ^ s.piles.length) th.length ↔ q.length = th.length ∧ inP s q := fun q => plans_mem th.length q
        have hok : ∀ q, q.length = th.length → (okB s th q = true ↔ okP s th th.length 0 (fun _ => 0) q) := fun q hq => by rw [← fault_okP hq]; unfold okB; simp
        change Holds _ _ _ _ (.tup [slOf intCs (refB (okB s th) (costL s) (plansL (2 ^ s.piles.length) th.length) (plansL (2 ^ s.piles.length) th.length).length).1, B (refB (okB s th) (costL s) (plansL (2 ^ s.piles.length) th.length) (plansL (2 ^ s.piles.length) th.length).length).2]) at hR
        have hbl := ref02_Best hG s ok th tok (by omega) hm
        generalize (plansL (2 ^ s.piles.length) th.length) = l at *
        cases hr : (best s th th.length 0 (fun _ => 0)).2.2 with
        | false =>
          rw [if_neg (by rw [hr]; simp)] at hB
          have hr2 : (refB (okB s th) (costL s) l l.length).2 = false := by
            cases h : (refB (okB s th) (costL s) l l.length).2 with
            | false => rfl
            | true =>
              obtain ⟨a, b, -⟩ := r1 h
              obtain ⟨c, d⟩ := (hin _).1 a
              exact absurd ((hok _ c).1 b) (l2 hr _ d)
          rw [hr2] at hR
          generalize (refB (okB s th) (costL s) l l.length).1 = x at *
          (refine holds_of_sem hG fn_law02_PileBests (by simp) fun w0 S0 hG0 D0 => ?_; unfold c_law02_PileBests cval enterEnv; simp only [List.zipIdx_cons, List.zipIdx_nil, List.map_cons, List.map_nil, Nat.zero_add, Nat.reduceAdd])
          repeat' (first | ((first | refine o1 rfl ?_ | refine o0 rfl ?_); intro k hk; simp (disch := omega) only [ev0, sl_cells, simprocAttr, slOf, hsd, q1, q2, PileSite.cs]; refine hk _ _ ?_; clear hk k) | refine ono rfl ?_ | (apply ocall; (case he => (simp only [ev0, sl_cells, simprocAttr] <;> rfl)); (case hc => first | exact law02_known hG hT | exact law02_short hG s th | exact hA | exact hB | exact hR); (case ht => rfl); (case hg => rfl)) | ((first | refine osplitG rfl (fun h => ?_) (fun h => ?_) | refine osplitB rfl (fun h => ?_) (fun h => ?_)) <;> (fail_if_success (simp only [eq_self, reduceCtorEq] at h))) | refine onx ?_ | refine onb ?_ | refine sreg ?_ | refine qT rfl ?_ | refine qF rfl ?_ | refine scondT rfl ?_ | refine scondF rfl ?_ | refine ocondP rfl (fun h => ?_) (fun h => ?_) | refine ocondB rfl (fun h => ?_) (fun h => ?_) | refine scondP rfl (fun h => ?_) (fun h => ?_) | refine scond rfl (fun h => ?_) (fun h => ?_) | refine oskip ?_ | refine oskipb ?_ | refine oret ?_ | refine sem_ret ?_ | refine sem_seq ?_ | refine sreg1 ?_)
          exact ⟨_, rfl, _, rfl, tree_eq rfl rfl⟩
        | true =>
          rw [if_pos hr] at hB
          obtain ⟨m1, m2, m3, m4, m5⟩ := l1 hr
          rw [← planB_F] at m1 m2 m3 m4 m5
          have hPin := (hin _).2 ⟨m3, m2⟩
          have hr2 : (refB (okB s th) (costL s) l l.length).2 = true := by
            cases h : (refB (okB s th) (costL s) l l.length).2 with
            | true => rfl
            | false => have := r2 h _ hPin; rw [(hok _ m3).2 m1] at this; cases this
          obtain ⟨a, b, c⟩ := r1 hr2
          obtain ⟨a1, a2⟩ := (hin _).1 a
          have e : planB s th = (refB (okB s th) (costL s) l l.length).1 := by
            have h1 := c _ hPin ((hok _ m3).2 m1)
            have h2 := m5 _ ((hok _ a1).1 b) a2
            rw [← m4] at h2
            rcases h1 with h1 | ⟨h1, h1 | h1⟩
            · rcases h2 with h2 | ⟨h2, -⟩ <;> omega
            · exact h1
            · rcases h2 with h2 | ⟨-, h2⟩
              · omega
              · rw [h1] at h2; cases h2
          rw [hr2, ← e] at hR
          rw [← m4] at hB
          have hPok := planB_ok ok th
          have hPl := hPok.1
          have hC := ref02_Cost hG s ok (planB s th) (by omega) hPok.2
          have hS := ref02_Same hG (planB s th) (by omega)
          (refine holds_of_sem hG fn_law02_PileBests (by simp) fun w0 S0 hG0 D0 => ?_; unfold c_law02_PileBests cval enterEnv; simp only [List.zipIdx_cons, List.zipIdx_nil, List.map_cons, List.map_nil, Nat.zero_add, Nat.reduceAdd])
          repeat' (first | ((first | refine o1 rfl ?_ | refine o0 rfl ?_); intro k hk; simp (disch := omega) only [ev0, sl_cells, simprocAttr, slOf, hsd, q1, q2, PileSite.cs, eq_self]; refine hk _ _ ?_; clear hk k) | refine ono rfl ?_ | (apply ocall; (case he => (simp only [ev0, sl_cells, simprocAttr] <;> rfl)); (case hc => first | exact law02_known hG hT | exact law02_short hG s th | exact hA | exact hB | exact hR | exact hC | exact hS); (case ht => rfl); (case hg => rfl)) | ((first | refine osplitG rfl (fun h => ?_) (fun h => ?_) | refine osplitB rfl (fun h => ?_) (fun h => ?_)) <;> (fail_if_success (simp only [eq_self, reduceCtorEq] at h))) | refine onx ?_ | refine onb ?_ | refine sreg ?_ | refine qT rfl ?_ | refine qF rfl ?_ | refine scondT rfl ?_ | refine scondF rfl ?_ | refine ocondP rfl (fun h => ?_) (fun h => ?_) | refine ocondB rfl (fun h => ?_) (fun h => ?_) | refine scondP rfl (fun h => ?_) (fun h => ?_) | refine scond rfl (fun h => ?_) (fun h => ?_) | refine oskip ?_ | refine oskipb ?_ | refine oret ?_ | refine sem_ret ?_ | refine sem_seq ?_ | refine sreg1 ?_)
          exact ⟨_, rfl, _, rfl, tree_eq rfl rfl⟩
      · rw [he] at hA
        have hq' : ((2 : Int) < s.piles.length) ∨ ((3 : Int) < th.length) := by omega
        (refine holds_of_sem hG fn_law02_PileBests (by simp) fun w0 S0 hG0 D0 => ?_; unfold c_law02_PileBests cval enterEnv; simp only [List.zipIdx_cons, List.zipIdx_nil, List.map_cons, List.map_nil, Nat.zero_add, Nat.reduceAdd])
        repeat' (first | ((first | refine o1 rfl ?_ | refine o0 rfl ?_); intro k hk; simp (disch := omega) only [ev0, sl_cells, simprocAttr, slOf, hsd, PileSite.cs]; refine hk _ _ ?_; clear hk k) | refine ono rfl ?_ | (apply ocall; (case he => (simp only [ev0, sl_cells, simprocAttr] <;> rfl)); (case hc => first | exact law02_known hG hT | exact law02_short hG s th | exact hA); (case ht => rfl); (case hg => rfl)) | ((first | refine osplitG rfl (fun h => ?_) (fun h => ?_) | refine osplitB rfl (fun h => ?_) (fun h => ?_)) <;> (fail_if_success (simp only [eq_self, reduceCtorEq] at h))) | refine onx ?_ | refine onb ?_ | refine sreg ?_ | refine qT rfl ?_ | refine qF rfl ?_ | refine scondT rfl ?_ | refine scondF rfl ?_ | refine ocondP rfl (fun h => ?_) (fun h => ?_) | refine ocondB rfl (fun h => ?_) (fun h => ?_) | refine scondP rfl (fun h => ?_) (fun h => ?_) | refine scond rfl (fun h => ?_) (fun h => ?_) | refine oskip ?_ | refine oskipb ?_ | refine oret ?_ | refine sem_ret ?_ | refine sem_seq ?_ | refine sreg1 ?_)
        all_goals first
          | exact ⟨_, rfl, _, rfl, tree_eq rfl rfl⟩
          | (exfalso; (try simp only [Bool.not_eq_true', Bool.not_eq_false', decide_eq_true_eq, decide_eq_false_iff_not, ne_eq, Decidable.not_not] at *); first | omega | contradiction | (simp only [*, Bool.true_eq_false, Bool.false_eq_true] at *; done))
    · rw [if_neg he] at hB
      (refine holds_of_sem hG fn_law02_PileBests (by simp) fun w0 S0 hG0 D0 => ?_; unfold c_law02_PileBests cval enterEnv; simp only [List.zipIdx_cons, List.zipIdx_nil, List.map_cons, List.map_nil, Nat.zero_add, Nat.reduceAdd])
      repeat' (first | ((first | refine o1 rfl ?_ | refine o0 rfl ?_); intro k hk; simp (disch := omega) only [ev0, sl_cells, simprocAttr, slOf, hsd, he, PileSite.cs, eq_self]; refine hk _ _ ?_; clear hk k) | refine ono rfl ?_ | (apply ocall; (case he => (simp only [ev0, sl_cells, simprocAttr] <;> rfl)); (case hc => first | exact law02_known hG hT | exact law02_short hG s th | exact hA | exact hB); (case ht => rfl); (case hg => rfl)) | ((first | refine osplitG rfl (fun h => ?_) (fun h => ?_) | refine osplitB rfl (fun h => ?_) (fun h => ?_)) <;> (fail_if_success (simp only [eq_self, reduceCtorEq] at h))) | refine onx ?_ | refine onb ?_ | refine sreg ?_ | refine qT rfl ?_ | refine qF rfl ?_ | refine scondT rfl ?_ | refine scondF rfl ?_ | refine ocondP rfl (fun h => ?_) (fun h => ?_) | refine ocondB rfl (fun h => ?_) (fun h => ?_) | refine scondP rfl (fun h => ?_) (fun h => ?_) | refine scond rfl (fun h => ?_) (fun h => ?_) | refine oskip ?_ | refine oskipb ?_ | refine oret ?_ | refine sem_ret ?_ | refine sem_seq ?_ | refine sreg1 ?_)
      all_goals first
        | exact ⟨_, rfl, _, rfl, tree_eq rfl rfl⟩
        | (exfalso; (try simp only [Bool.not_eq_true', Bool.not_eq_false', decide_eq_true_eq, decide_eq_false_iff_not, ne_eq, Decidable.not_not] at *); first | omega | contradiction | (simp only [*, Bool.true_eq_false, Bool.false_eq_true] at *; done))
  · have hsd := decide_eq_false hs
    (refine holds_of_sem hG fn_law02_PileBests (by simp) fun w0 S0 hG0 D0 => ?_; unfold c_law02_PileBests cval enterEnv; simp only [List.zipIdx_cons, List.zipIdx_nil, List.map_cons, List.map_nil, Nat.zero_add, Nat.reduceAdd])
    repeat' (first | ((first | refine o1 rfl ?_ | refine o0 rfl ?_); intro k hk; simp (disch := omega) only [ev0, sl_cells, simprocAttr, slOf, hsd, PileSite.cs]; refine hk _ _ ?_; clear hk k) | refine ono rfl ?_ | (apply ocall; (case he => (simp only [ev0, sl_cells, simprocAttr] <;> rfl)); (case hc => first | exact law02_known hG hT | exact law02_short hG s th); (case ht => rfl); (case hg => rfl)) | ((first | refine osplitG rfl (fun h => ?_) (fun h => ?_) | refine osplitB rfl (fun h => ?_) (fun h => ?_)) <;> (fail_if_success (simp only [eq_self, reduceCtorEq] at h))) | refine onx ?_ | refine onb ?_ | refine sreg ?_ | refine qT rfl ?_ | refine qF rfl ?_ | refine scondT rfl ?_ | refine scondF rfl ?_ | refine ocondP rfl (fun h => ?_) (fun h => ?_) | refine ocondB rfl (fun h => ?_) (fun h => ?_) | refine scondP rfl (fun h => ?_) (fun h => ?_) | refine scond rfl (fun h => ?_) (fun h => ?_) | refine oskip ?_ | refine oskipb ?_ | refine oret ?_ | refine sem_ret ?_ | refine sem_seq ?_ | refine sreg1 ?_)
    all_goals first
      | exact ⟨_, rfl, _, rfl, tree_eq rfl rfl⟩
      | (exfalso; (try simp only [Bool.not_eq_true', Bool.not_eq_false', decide_eq_true_eq, decide_eq_false_iff_not, ne_eq, Decidable.not_not] at *); first | omega | contradiction | (simp only [*, Bool.true_eq_false, Bool.false_eq_true] at *; done))
end Go.Proofs.YtibgfmhddcibcaaDoor
