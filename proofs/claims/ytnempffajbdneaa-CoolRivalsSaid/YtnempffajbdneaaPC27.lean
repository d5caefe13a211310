/- The floor. -/
import Derived.Test.YtnempffajbdneaaPC26
set_option linter.unusedVariables false
set_option linter.unusedSimpArgs false
set_option maxRecDepth 8000
set_option maxHeartbeats 2000000
namespace Go.Av
section rules
variable {K : Ctx} {μ : List AObj} {C : List (Nat × AV) → List SlotR → Prop}
theorem mcallA {j : Nat} {sl : List SlotR} {env : List (Nat × AV)} {g : Option (Nat × Bool)} {d : Nat} {f : Nat} {args : List SX} {aa : List AV} {x : AV} {l : List SOper} (he : args.map (evX env) = aa) (hc : ∀ es, ACalls K f aa (μ ++ es) fun ae ν => ae = .ret x ∧ ν = μ ++ es)
    (hg : wantA g env = some true) (hr : refA μ.length x = true) (h : MGoC K μ C (j + 1) sl l ((d, x) :: env)) : MGoC K μ C j sl (⟨some d, g, .call f args⟩ :: l) env := by
  subst he
  obtain ⟨xs, env', sl', h1, h2⟩ := h
  exact ⟨x :: xs, env', sl', .op (.inr (.inr ⟨hg, f, args, rfl, hc⟩)) hr h1, h2⟩
theorem any_eff1L {F : Fcx} {Q : AExit → St → Prop} {l la lb lc : List SOper} {pre : List (List Nat)} {env : List (Nat × AV)} {ν1 ν2 : List AObj} (m p i0 k0 : Nat) {d0 e0 f : Nat} {c0 x v : AV} {y : SX} {args : List AV} (hok : winOK l pre 0 m = true) (he : eff1OK l pre m p i0 k0 = true)
    (hb0 : opAt l i0 = ⟨some d0, none, .box e0 (.c c0)⟩) (hc0 : leafC c0 = true) (hk0 : opAt l k0 = ⟨none, none, .store 1 (.t d0) y⟩)
    (hla : (fake1 l p i0 k0 x (.ptr μ.length 1 1 0 0)).take p = la) (hlb : ((fake1 l p i0 k0 x (.ptr μ.length 1 1 0 0)).take k0).drop p = lb) (hlc : ((fake1 l p i0 k0 x (.ptr μ.length 1 1 0 0)).take m).drop k0 = lc)
    {env' envp envk : List (Nat × AV)} {xa xb xc : List AV} (ha1 : qval la env μ = some (xa, envp)) (hb1 : qval lb envp μ = some (xb, envk)) (hc1 : qval lc envk μ = some (xc, env'))
    (hcl : callee (opAt l p).op envp = some (f, args)) (hl1 : ν1.length = μ.length)
    (hc : ∀ o, o = .row e0 0 1 [] ∨ o = .row e0 1 1 [[c0]] → ACalls K f args (μ ++ [o]) fun ae ν => ae = .ret x ∧ ν = ν1 ++ [o] ++ ν2)
    (hv : evX envk y = v) (hz1 : cellsOf v = [v]) (hz2 : okCell (ν1 ++ [.row e0 1 1 [[c0]]] ++ ν2) v = true) (hdk : getE envk d0 = .ptr μ.length 1 1 0 0)
    (h : AnyC K F Q l pre m ⟨env', ν1 ++ [.row e0 1 1 [[v]]] ++ ν2⟩) : AnyC K F Q l pre 0 ⟨env, μ⟩ := by
  subst hla hlb hlc hv
  exact any_eff1 m p i0 k0 hok he hb0 hc0 hk0 (qval_sound ha1) (qval_sound hb1) (qval_sound hc1) hcl hl1 hc hz1 hz2 hdk h
end rules
end Go.Av
namespace Go.Tk
open Go Go.Av
def allS (t : CoolTown) : Nat := 2 ^ t.sites.length - 1
/-- Whether the n sites that give a house most keep it level. -/
def enough (t : CoolTown) (f n y : Nat) : Bool := decide ((t.houses.getD y default).need.high ≤ sumL (((coldsL t y (allS t)).take n).drop f))
def floorB (t : CoolTown) (f n : Nat) : Bool := (List.range t.houses.length).all (enough t f n)
def floorF (t : CoolTown) (f : Nat) : Option Nat := (List.range (t.sites.length + 1)).find? (floorB t f)
def floorV : Option Nat → AV
  | some n => .tup [I n, I 0]
  | none => .tup [I 0, I 5]
/-- The memory of a search for the floor. -/
abbrev fM0 (t : CoolTown) (f : Nat) : List AObj := [.row 25 0 2 [t.cs], .row 3 0 1 [[I f]], .row 90 1 1 [[.ptr 5 0 4 0 0]], .row 25 0 2 [t.cs], .map [], .row 96 0 4 [[slOf CoolHouse.cs t.houses, slOf CoolSite.cs t.sites, I (allS t), .mp 4]]]
abbrev fM (t : CoolTown) (f n : Nat) : List AObj := [.row 25 0 2 [t.cs], .row 3 0 1 [[I f]], .row 90 1 1 [[.ptr 5 0 4 0 0]], .row 25 0 2 [t.cs], .map [], .row 96 0 4 [[slOf CoolHouse.cs t.houses, slOf CoolSite.cs t.sites, I (allS t), .mp 4]], .row 3 0 1 [[I n]]]
theorem allS_bit {t : CoolTown} {j : Nat} : (allS t).testBit j = decide (j < t.sites.length) := by
  unfold allS
  exact Nat.testBit_two_pow_sub_one t.sites.length j
theorem all_list {t : CoolTown} (ht : t.ok) : listB (allS t) = sitesL t.sites.length := by
  refine listB_ext ht.2.1.2 ?_ (fun i hi => ?_) fun j => ?_
  · unfold sitesL
    exact List.pairwise_map.2 (List.pairwise_lt_range.imp fun h => by omega)
  · obtain ⟨k, hk, rfl⟩ := List.mem_map.1 hi
    have := List.mem_range.1 hk
    omega
  · rw [allS_bit, decide_eq_true_iff]
    unfold sitesL
    rw [List.mem_map]
    constructor
    · intro h; exact ⟨j, List.mem_range.2 h, rfl⟩
    · rintro ⟨k, hk, e⟩
      have := List.mem_range.1 hk
      omega
theorem all_len {t : CoolTown} (ht : t.ok) (y : Nat) : (coldsL t y (allS t)).length = t.sites.length := by
  unfold coldsL
  rw [(sortD_perm _).length_eq, List.length_map, all_list ht, sitesL_len]
theorem allS_lt {t : CoolTown} : allS t < 2 ^ t.sites.length := by
  have := Nat.two_pow_pos t.sites.length
  unfold allS
  omega
end Go.Tk
namespace Go.Proofs.Ytnempffajbdneaa
open Go Go.Av Go.Tk
attribute [local irreducible] Holds sem semL ACalls FnIs
theorem sl_cut {l : List Int} {n k : Nat} (hn : n ≤ l.length) (hk : k ≤ n) : ∀ S w v, VT S w (.sl (n - k) fun j => intCs (l.getD (k + j) default)) v → VT S w (slOf intCs ((l.take n).drop k)) v := fun S w v h => by
  have hl : ((l.take n).drop k).length = n - k := by rw [List.length_drop, List.length_take]; omega
  unfold slOf
  rw [hl]
  refine h.sl_congr fun j hj => ?_
  rw [getD_lt (show j < ((l.take n).drop k).length by rw [hl]; exact hj), getD_lt (show k + j < l.length by omega), List.getElem_drop, List.getElem_take]
section
variable {K : Ctx} (hP : K.P = Try.prog) (hGK : ∀ w w', K.G w → RowKit.Below w.heap.size w w' → K.G w')
include hP hGK
theorem Floor_1 (t : CoolTown) (ht : t.ok) (f n : Nat) (hf : f ≤ 3) (hn : n ≤ t.sites.length) (y : Nat) (hy : y < t.houses.length) :
    ACalls K F.cool_Floor_1 [I y, .ptr 2 1 1 0 0, .ptr 6 0 1 0 0, .ptr 1 0 1 0 0, .ptr 0 0 2 0 0] (fM t f n) fun ae ν => ae = .ret (B (enough t f n y)) ∧ ν = fM t f n := by
  have hco := fun es2 => (bought_at (R := fun ae es' => ae = .ret (slOf intCs (coldsL t y (allS t))) ∧ es' = []) ((bought_colds hP hGK t ht (allS t) [] (fun p hp => by cases hp) y hy (allS t) allS_lt).imp fun ae ν hr => ⟨[], ⟨hr.1, rfl⟩, hr.2⟩) (fun ae es' hr => ⟨fun p hp => (by rw [hr.2] at hp; cases hp), fun g => by rw [hr.1]; rfl⟩) (fun p hp => by cases hp)
    (μ2 := fM t f n ++ es2) (args2 := [.ptr 5 0 4 0 0, I y, I (allS t)]) (p := 4) (q := 5) (by omega) rfl rfl rfl rfl).imp (R' := fun ae ν => ae = .ret (slOf intCs (coldsL t y (allS t))) ∧ ν = fM t f n ++ es2) fun ae ν hr => by
      obtain ⟨es', ⟨r1, rfl⟩, rfl⟩ := hr
      exact ⟨r1, rfl⟩
  have hcl := all_len ht y
  have hcb : ∀ x ∈ coldsL t y (allS t), 0 ≤ x ∧ x ≤ 1000000 := fun x hx => by
    obtain ⟨i, hi, rfl⟩ := List.mem_map.1 ((sortD_perm _).mem_iff.1 hx)
    exact lowOf_bound ht hy (listB_lt allS_lt i hi)
  have hns := ht.2.1
  obtain ⟨k, hk1, hk2, hk3⟩ : ∃ k : Nat, mnmx false (f : Int) (n : Int) = (k : Int) ∧ k ≤ n ∧ ((coldsL t y (allS t)).take n).drop k = ((coldsL t y (allS t)).take n).drop f := by
    rcases Nat.le_total f n with h | h
    · refine ⟨f, ?_, h, rfl⟩
      simp only [mnmx, Bool.false_eq_true, if_false]; split <;> omega
    · refine ⟨n, ?_, Nat.le_refl _, ?_⟩
      · simp only [mnmx, Bool.false_eq_true, if_false]; split <;> omega
      · rw [List.drop_eq_nil_of_le (by rw [List.length_take]; omega), List.drop_eq_nil_of_le (by rw [List.length_take]; omega)]
  have hen : enough t f n y = decide ((t.houses.getD y default).need.high ≤ sumL (((coldsL t y (allS t)).take n).drop k)) := by rw [hk3]; rfl
  rw [hen]
  have hsum : Holds K.P K.G F.cool_sum [.sl (n - k) fun j => intCs ((coldsL t y (allS t)).getD (k + j) default)] (I (sumL (((coldsL t y (allS t)).take n).drop k))) := by
    rw [hP]
    exact (cool_sum hGK (((coldsL t y (allS t)).take n).drop k) (by rw [List.length_drop, List.length_take]; omega) fun x hx => hcb x (List.mem_of_mem_take (List.mem_of_mem_drop hx))).conv rfl fun q x' x0 h1 h2 S w v hv => by
      match q, h1, h2 with
      | 0, h1, h2 => cases h1; cases h2; exact sl_cut (by omega) hk2 _ _ _ hv
      | q + 1, h1, h2 => simp at h1
  clear hk3 hen
  generalize coldsL t y (allS t) = L at *
  obtain ⟨P, w0, S0, G, hG0⟩ := K
  simp only at hP hGK
  subst hP
  refine acalls_of_sem fn_cool_Floor_1 (by simp) fun D => ?_
  unfold c_cool_Floor_1 cval enterEnv
  simp only [List.zipIdx_cons, List.zipIdx_nil, List.map_cons, List.map_nil, Nat.zero_add, Nat.reduceAdd, fM]
  repeat' (first | ((first | refine o1 rfl ?_ | refine o0 rfl ?_); intro k hk; simp (disch := omega) only [ev0, sl_cells, simprocAttr]; refine hk _ _ ?_; clear hk k) | refine ono rfl ?_ | ((first | refine osplitG rfl (fun h => ?_) (fun h => ?_) | refine osplitB rfl (fun h => ?_) (fun h => ?_)) <;> (fail_if_success (simp only [eq_self, reduceCtorEq] at h))) | refine onx ?_ | refine onb ?_ | refine sreg ?_ | refine qT rfl ?_ | refine qF rfl ?_ | refine scondT rfl ?_ | refine scondF rfl ?_ | refine ocondP rfl (fun h => ?_) (fun h => ?_) | refine ocondB rfl (fun h => ?_) (fun h => ?_) | refine scondP rfl (fun h => ?_) (fun h => ?_) | refine scond rfl (fun h => ?_) (fun h => ?_) | refine oskip ?_ | refine oskipb ?_ | refine oret ?_ | refine sem_ret ?_ | refine sem_seq ?_ | refine sreg1 ?_)
  ((refine sem_mgo 8 hmix (by kernel_rfl) ?_; simp only [nt]); (repeat' (first | ((first | apply mop | apply mop0); (case hg => rfl); (case hq => rfl); intro k hk; simp (disch := omega) only [ev0, sl_cells, simprocAttr]; refine hk _ _ rfl ?_; clear hk k) | (apply mno; (case hg => rfl)) | (apply mbox; (case hx => (simp only [wv, simprocAttr] <;> rfl)); (case hg => rfl); (case hall => rfl); (case hr => rfl); simp only [nm, Nat.reduceAdd]) | (apply mbldS; (case hb => (simp (disch := omega) only [ev0, sl_cells, simprocAttr] <;> rfl)); (case hg => rfl); (case hr => rfl); simp only [nm, Nat.reduceAdd]) | ((first | (apply msto (q := 0); (case hq => rfl)) | (apply msto (q := 1); (case hq => rfl)) | (apply msto (q := 2); (case hq => rfl)) | (apply msto (q := 3); (case hq => rfl))); (case hx => (simp only [wv, simprocAttr] <;> rfl)); (case haddr => (simp only [wv, simprocAttr] <;> rfl)); (case hg => rfl); (case hl1 => rfl); (case hl2 => rfl); (case hok => rfl); (case hr => rfl); simp only [nm, Nat.reduceAdd]) | (apply mnil; simp only [SlotR.fin, ns]) | (refine msplit rfl (fun h => ?_) (fun h => ?_) <;> simp only [h] <;> (try simp only [nb] at h)))) <;> (repeat' (first | ((first | refine o1 rfl ?_ | refine o0 rfl ?_); intro k hk; simp (disch := omega) only [ev0, sl_cells, simprocAttr]; refine hk _ _ ?_; clear hk k) | refine ono rfl ?_ | ((first | refine osplitG rfl (fun h => ?_) (fun h => ?_) | refine osplitB rfl (fun h => ?_) (fun h => ?_)) <;> (fail_if_success (simp only [eq_self, reduceCtorEq] at h))) | refine onx ?_ | refine onb ?_ | refine sreg ?_ | refine qT rfl ?_ | refine qF rfl ?_ | refine scondT rfl ?_ | refine scondF rfl ?_ | refine ocondP rfl (fun h => ?_) (fun h => ?_) | refine ocondB rfl (fun h => ?_) (fun h => ?_) | refine scondP rfl (fun h => ?_) (fun h => ?_) | refine scond rfl (fun h => ?_) (fun h => ?_) | refine oskip ?_ | refine oskipb ?_ | refine oret ?_ | refine sem_ret ?_ | refine sem_seq ?_ | refine sreg1 ?_)))
  refine mcallA rfl (by exact hco) rfl rfl ?_
  repeat' (first | ((first | apply mop | apply mop0); (case hg => rfl); (case hq => rfl); intro k hk; simp (disch := omega) only [ev0, sl_cells, simprocAttr]; refine hk _ _ rfl ?_; clear hk k) | (apply mno; (case hg => rfl)) | (apply mbox; (case hx => (simp only [wv, simprocAttr] <;> rfl)); (case hg => rfl); (case hall => rfl); (case hr => rfl); simp only [nm, Nat.reduceAdd]) | (apply mbldS; (case hb => (simp (disch := omega) only [ev0, sl_cells, simprocAttr] <;> rfl)); (case hg => rfl); (case hr => rfl); simp only [nm, Nat.reduceAdd]) | ((first | (apply msto (q := 0); (case hq => rfl)) | (apply msto (q := 1); (case hq => rfl)) | (apply msto (q := 2); (case hq => rfl)) | (apply msto (q := 3); (case hq => rfl))); (case hx => (simp only [wv, simprocAttr] <;> rfl)); (case haddr => (simp only [wv, simprocAttr] <;> rfl)); (case hg => rfl); (case hl1 => rfl); (case hl2 => rfl); (case hok => rfl); (case hr => rfl); simp only [nm, Nat.reduceAdd]) | (apply mnil; simp only [SlotR.fin, ns]) | (refine msplit rfl (fun h => ?_) (fun h => ?_) <;> simp only [h] <;> (try simp only [nb] at h)))
  repeat' (first | ((first | refine o1 rfl ?_ | refine o0 rfl ?_); intro k hk; simp (disch := omega) only [ev0, sl_cells, simprocAttr, slOf, intCs, range_all, Option.map_none, List.length_cons, List.length_nil, Nat.zero_add, Nat.sub_zero, decide_true, eq_self]; refine hk _ _ ?_; clear hk k) | refine ono rfl ?_ | ((first | refine osplitG rfl (fun h => ?_) (fun h => ?_) | refine osplitB rfl (fun h => ?_) (fun h => ?_)) <;> (fail_if_success (simp only [eq_self, reduceCtorEq] at h))) | refine onx ?_ | refine onb ?_ | refine sreg ?_ | refine qT rfl ?_ | refine qF rfl ?_ | refine scondT rfl ?_ | refine scondF rfl ?_ | refine ocondP rfl (fun h => ?_) (fun h => ?_) | refine ocondB rfl (fun h => ?_) (fun h => ?_) | refine scondP rfl (fun h => ?_) (fun h => ?_) | refine scond rfl (fun h => ?_) (fun h => ?_) | refine oskip ?_ | refine oskipb ?_ | refine oret ?_ | refine sem_ret ?_ | refine sem_seq ?_ | refine sreg1 ?_)
  ((refine sem_mgo 13 hmix (by kernel_rfl) ?_; simp only [nt]); (repeat' (first | ((first | apply mop | apply mop0); (case hg => rfl); (case hq => rfl); intro k hk; simp (disch := omega) only [ev0, sl_cells, simprocAttr, slOf, intCs, hk1, CoolHouse.cs, range_all, Option.map_none, List.length_cons, List.length_nil, Nat.zero_add, Nat.sub_zero, decide_true, eq_self]; refine hk _ _ rfl ?_; clear hk k) | (apply mno; (case hg => rfl)) | (apply mcall; (case he => (simp only [ev0, sl_cells, simprocAttr] <;> rfl)); (case hc => first | exact hsum); (case ht => rfl); (case hg => rfl); (case hr => rfl)) | (apply mbox; (case hx => (simp only [wv, simprocAttr] <;> rfl)); (case hg => rfl); (case hall => rfl); (case hr => rfl); simp only [nm, Nat.reduceAdd]) | (apply mbldS; (case hb => (simp (disch := omega) only [ev0, sl_cells, simprocAttr] <;> rfl)); (case hg => rfl); (case hr => rfl); simp only [nm, Nat.reduceAdd]) | ((first | (apply msto (q := 0); (case hq => rfl)) | (apply msto (q := 1); (case hq => rfl)) | (apply msto (q := 2); (case hq => rfl)) | (apply msto (q := 3); (case hq => rfl))); (case hx => (simp only [wv, simprocAttr] <;> rfl)); (case haddr => (simp only [wv, simprocAttr] <;> rfl)); (case hg => rfl); (case hl1 => rfl); (case hl2 => rfl); (case hok => rfl); (case hr => rfl); simp only [nm, Nat.reduceAdd]) | (apply mnil; simp only [SlotR.fin, ns]) | (refine msplit rfl (fun h => ?_) (fun h => ?_) <;> simp only [h] <;> (try simp only [nb] at h)))) <;> (repeat' (first | ((first | refine o1 rfl ?_ | refine o0 rfl ?_); intro k hk; simp (disch := omega) only [ev0, sl_cells, simprocAttr, slOf, intCs, hk1, CoolHouse.cs, range_all, Option.map_none, List.length_cons, List.length_nil, Nat.zero_add, Nat.sub_zero, decide_true, eq_self]; refine hk _ _ ?_; clear hk k) | refine ono rfl ?_ | (apply ocall; (case he => (simp only [ev0, sl_cells, simprocAttr] <;> rfl)); (case hc => first | exact hsum); (case ht => rfl); (case hg => rfl)) | ((first | refine osplitG rfl (fun h => ?_) (fun h => ?_) | refine osplitB rfl (fun h => ?_) (fun h => ?_)) <;> (fail_if_success (simp only [eq_self, reduceCtorEq] at h))) | refine onx ?_ | refine onb ?_ | refine sreg ?_ | refine qT rfl ?_ | refine qF rfl ?_ | refine scondT rfl ?_ | refine scondF rfl ?_ | refine ocondP rfl (fun h => ?_) (fun h => ?_) | refine ocondB rfl (fun h => ?_) (fun h => ?_) | refine scondP rfl (fun h => ?_) (fun h => ?_) | refine scond rfl (fun h => ?_) (fun h => ?_) | refine oskip ?_ | refine oskipb ?_ | refine oret ?_ | refine sem_ret ?_ | refine sem_seq ?_ | refine sreg1 ?_)))
  exact ⟨_, rfl, rfl, rfl⟩
end
variable {G : World → Prop} (hG : ∀ w w', G w → RowKit.Below w.heap.size w w' → G w')
include hG
theorem Floor_ok (t : CoolTown) (hs : t.short) (ok : t.ok) (f : Nat) (hf : f ≤ 3) : Holds Try.prog G F.cool_Floor [.agg t.cs, I f] (floorV (floorF t f)) := by
  have hv := cool_valid hG t hs
  have hfa := cool_failing hG (f : Int)
  rw [decide_eq_true (show 0 ≤ (f : Int) ∧ (f : Int) ≤ 3 by omega)] at hfa
  rw [decide_eq_true ok] at hv
  have hns := ok.2.1
  have hnh := ok.1
  have e1 := shlN t.sites.length (by omega)
  have hp0 := Nat.two_pow_pos t.sites.length
  have e2 : ((2 ^ t.sites.length : Nat) : Int) - 1 = (allS t : Int) := by unfold allS; omega
  have hal := allS_lt (t := t)
  have hp10 : 2 ^ t.sites.length ≤ 2 ^ 10 := Nat.pow_le_pow_right (by omega) ok.2.1.2
  refine holds_of_sem hG fn_cool_Floor (by simp) fun w0 S0 hG0 D0 => ?_
  have hf1 := fun (n : Nat) (hn : n ≤ t.sites.length) (y : Nat) (hy : y < t.houses.length) => Floor_1 (K := ⟨Try.prog, w0, S0, G, hG0⟩) rfl hG t ok f n hf hn y hy
  have hbu := cool_buy (K := ⟨Try.prog, w0, S0, G, hG0⟩) rfl hG t (allS t)
  have hb2 : ∀ o, o = AObj.row 90 0 1 [] ∨ o = AObj.row 90 1 1 [[.nilp]] → ACalls ⟨Try.prog, w0, S0, G, hG0⟩ F.cool_buy [.agg t.cs, I (allS t)] ([.row 25 0 2 [t.cs], .row 3 0 1 [[I f]]] ++ [o]) fun ae ν => ae = .ret (.ptr 5 0 4 0 0) ∧ ν = [.row 25 0 2 [t.cs], .row 3 0 1 [[I f]]] ++ [o] ++ [.row 25 0 2 [t.cs], .map [], .row 96 0 4 [[slOf CoolHouse.cs t.houses, slOf CoolSite.cs t.sites, I (allS t), .mp 4]]] := fun o ho => by
    rcases ho with rfl | rfl
    · exact hbu.placed1 [] rfl rfl rfl rfl rfl rfl
    · exact hbu.placed1 [] rfl rfl rfl rfl rfl rfl
  have hff : ∀ n, n ≤ t.sites.length → (∀ j, j < n → floorB t f j = false) → floorB t f n = true → floorF t f = some n := fun n hn h1 h2 => by
    unfold floorF
    rw [List.find?_range_eq_some]
    exact ⟨h2, List.mem_range.2 (by omega), fun j hj => by rw [h1 j hj]; rfl⟩
  have hfn : (∀ j, j < t.sites.length + 1 → floorB t f j = false) → floorF t f = none := fun h1 => by
    unfold floorF
    rw [List.find?_range_eq_none]
    intro j hj
    rw [h1 j hj]; rfl
  generalize floorF t f = fl at *
  unfold c_cool_Floor cval enterEnv
  simp only [List.zipIdx_cons, List.zipIdx_nil, List.map_cons, List.map_nil, Nat.zero_add, Nat.reduceAdd]
  repeat' (first | ((first | refine o1 rfl ?_ | refine o0 rfl ?_); intro k hk; simp (disch := omega) only [ev0, sl_cells, simprocAttr]; refine hk _ _ ?_; clear hk k) | refine ono rfl ?_ | (apply ocall; (case he => (simp only [ev0, sl_cells, simprocAttr] <;> rfl)); (case hc => first | exact hv | exact hfa); (case ht => rfl); (case hg => rfl)) | ((first | refine osplitG rfl (fun h => ?_) (fun h => ?_) | refine osplitB rfl (fun h => ?_) (fun h => ?_)) <;> (fail_if_success (simp only [eq_self, reduceCtorEq] at h))) | refine onx ?_ | refine onb ?_ | refine sreg ?_ | refine qT rfl ?_ | refine qF rfl ?_ | refine scondT rfl ?_ | refine scondF rfl ?_ | refine ocondP rfl (fun h => ?_) (fun h => ?_) | refine ocondB rfl (fun h => ?_) (fun h => ?_) | refine scondP rfl (fun h => ?_) (fun h => ?_) | refine scond rfl (fun h => ?_) (fun h => ?_) | refine oskip ?_ | refine oskipb ?_ | refine oret ?_ | refine sem_ret ?_ | refine sem_seq ?_ | refine sreg1 ?_)
  refine any_start hmix ?_
  apply any_eff1L (m := 9) (p := 6) (i0 := 7) (k0 := 8) (x := .ptr 5 0 4 0 0) (v := .ptr 5 0 4 0 0) (c0 := .nilp) (e0 := 90) (d0 := 6) (y := .t 25) (ν1 := [.row 25 0 2 [t.cs], .row 3 0 1 [[I f]]]) (ν2 := [.row 25 0 2 [t.cs], .map [], .row 96 0 4 [[slOf CoolHouse.cs t.houses, slOf CoolSite.cs t.sites, I (allS t), .mp 4]]]) (hok := by kernel_rfl) (he := by kernel_rfl) (hb0 := rfl) (hc0 := rfl) (hk0 := rfl) (hla := rfl) (hlb := rfl) (hlc := rfl)
  case ha1 =>
    simp (disch := omega) only [List.take_succ_cons, List.take_zero, fake1, List.set_cons_succ, List.set_cons_zero, qval, pushE, quietK, and_self, if_true, wv, simprocAttr, ev0, sl_cells, CoolTown.cs, slOf, e1, e2]
    rfl
  case hb1 =>
    simp (disch := omega) only [List.take_succ_cons, List.take_zero, List.drop_succ_cons, List.drop_zero, fake1, List.set_cons_succ, List.set_cons_zero, opAt, List.getD_cons_succ, List.getD_cons_zero, qval, pushE, quietK, and_self, if_true, wv, simprocAttr, ev0, sl_cells]
    rfl
  case hc1 =>
    simp (disch := omega) only [List.take_succ_cons, List.take_zero, List.drop_succ_cons, List.drop_zero, fake1, List.set_cons_succ, List.set_cons_zero, opAt, List.getD_cons_succ, List.getD_cons_zero, qval, pushE, quietK, and_self, if_true, wv, simprocAttr, ev0, sl_cells]
    rfl
  case hcl => rfl
  case hl1 => rfl
  case hc => exact hb2
  case hv => rfl
  case hz1 => rfl
  case hz2 => rfl
  case hdk => rfl
  case h =>
    refine any_end 9 rfl ?_
    change sem _ _ _ _ _
    simp only [List.cons_append, List.nil_append]
    repeat' (first | ((first | refine o1 rfl ?_ | refine o0 rfl ?_); intro k hk; simp (disch := omega) only [ev0, sl_cells, simprocAttr, CoolTown.cs, slOf]; refine hk _ _ ?_; clear hk k) | refine ono rfl ?_ | ((first | refine osplitG rfl (fun h => ?_) (fun h => ?_) | refine osplitB rfl (fun h => ?_) (fun h => ?_)) <;> (fail_if_success (simp only [eq_self, reduceCtorEq] at h))) | refine onx ?_ | refine onb ?_ | refine sreg ?_ | refine qT rfl ?_ | refine qF rfl ?_ | refine scondT rfl ?_ | refine scondF rfl ?_ | refine ocondP rfl (fun h => ?_) (fun h => ?_) | refine ocondB rfl (fun h => ?_) (fun h => ?_) | refine scondP rfl (fun h => ?_) (fun h => ?_) | refine scond rfl (fun h => ?_) (fun h => ?_) | refine oskip ?_ | refine oskipb ?_ | refine oret ?_ | refine sem_ret ?_ | refine sem_seq ?_ | refine sreg1 ?_)
    refine sem_block ?_
    
    refine sem_loop (α := Nat) (fun n => ⟨[(2, .ptr 0 0 2 0 0), (3, .ptr 1 0 1 0 0), (6, .ptr 2 1 1 0 0), (29, I (t.sites.length + 1)), (30, I n)], fM0 t f⟩) (fun n => n ≤ t.sites.length + 1 ∧ ∀ j, j < n → floorB t f j = false) (fun n => t.sites.length + 1 - n) 0 ⟨Nat.zero_le _, fun j hj => absurd hj (Nat.not_lt_zero _)⟩ ?_ ?_
    · (refine Le.same ?_; simp only [List.forall_mem_cons, List.forall_mem_nil, getE, selE, Nat.reduceBEq, List.not_mem_nil, false_implies, implies_true, and_true, true_and, and_self])
      simp [CoolTown.cs, slOf]
    · rintro n ⟨hn, hall⟩
      simp only [fM0]
      repeat' (first | ((first | refine o1 rfl ?_ | refine o0 rfl ?_); intro k hk; simp (disch := omega) only [ev0, sl_cells, simprocAttr]; refine hk _ _ ?_; clear hk k) | refine ono rfl ?_ | ((first | refine osplitG rfl (fun h => ?_) (fun h => ?_) | refine osplitB rfl (fun h => ?_) (fun h => ?_)) <;> (fail_if_success (simp only [eq_self, reduceCtorEq] at h))) | refine onx ?_ | refine onb ?_ | refine sreg ?_ | refine qT rfl ?_ | refine qF rfl ?_ | refine scondT rfl ?_ | refine scondF rfl ?_ | refine ocondP rfl (fun h => ?_) (fun h => ?_) | refine ocondB rfl (fun h => ?_) (fun h => ?_) | refine scondP rfl (fun h => ?_) (fun h => ?_) | refine scond rfl (fun h => ?_) (fun h => ?_) | refine oskip ?_ | refine oskipb ?_ | refine oret ?_ | refine sem_ret ?_ | refine sem_seq ?_ | refine sreg1 ?_)
      · have hn' : n ≤ t.sites.length := by omega
        have hf1' := hf1 n hn'
        refine sem_block ?_
        repeat' (first | ((first | refine o1 rfl ?_ | refine o0 rfl ?_); intro k hk; simp (disch := omega) only [ev0, sl_cells, simprocAttr]; refine hk _ _ ?_; clear hk k) | refine ono rfl ?_ | ((first | refine osplitG rfl (fun h => ?_) (fun h => ?_) | refine osplitB rfl (fun h => ?_) (fun h => ?_)) <;> (fail_if_success (simp only [eq_self, reduceCtorEq] at h))) | refine onx ?_ | refine onb ?_ | refine sreg ?_ | refine qT rfl ?_ | refine qF rfl ?_ | refine scondT rfl ?_ | refine scondF rfl ?_ | refine ocondP rfl (fun h => ?_) (fun h => ?_) | refine ocondB rfl (fun h => ?_) (fun h => ?_) | refine scondP rfl (fun h => ?_) (fun h => ?_) | refine scond rfl (fun h => ?_) (fun h => ?_) | refine oskip ?_ | refine oskipb ?_ | refine oret ?_ | refine sem_ret ?_ | refine sem_seq ?_ | refine sreg1 ?_)
        refine sem_block ?_
        
        refine sem_loop (α := Nat) (fun y => ⟨[(2, .ptr 0 0 2 0 0), (3, .ptr 1 0 1 0 0), (6, .ptr 2 1 1 0 0), (7, .ptr 6 0 1 0 0), (8, .fn (.func F.cool_Floor_1) [] [.ptr 2 1 1 0 0, .ptr 6 0 1 0 0, .ptr 1 0 1 0 0, .ptr 0 0 2 0 0]), (9, B ((List.range y).all (enough t f n))), (29, I (t.sites.length + 1)), (30, I n), (36, I t.houses.length), (37, I y)], fM t f n⟩) (fun y => y ≤ t.houses.length) (fun y => t.houses.length - y) 0 (Nat.zero_le _) ?_ ?_
        · (refine Le.same ?_; simp only [List.forall_mem_cons, List.forall_mem_nil, getE, selE, Nat.reduceBEq, List.not_mem_nil, false_implies, implies_true, and_true, true_and, and_self])
          simp [CoolTown.cs, slOf]
        · intro y hy
          have hsu : (List.range (y + 1)).all (enough t f n) = ((List.range y).all (enough t f n) && enough t f n y) := by simp [List.range_succ]
          simp only [fM]
          generalize hA : (List.range y).all (enough t f n) = A at *
          repeat' (first | ((first | refine o1 rfl ?_ | refine o0 rfl ?_); intro k hk; simp (disch := omega) only [ev0, sl_cells, simprocAttr]; refine hk _ _ ?_; clear hk k) | refine ono rfl ?_ | ((first | refine osplitG rfl (fun h => ?_) (fun h => ?_) | refine osplitB rfl (fun h => ?_) (fun h => ?_)) <;> (fail_if_success (simp only [eq_self, reduceCtorEq] at h))) | refine onx ?_ | refine onb ?_ | refine sreg ?_ | refine qT rfl ?_ | refine qF rfl ?_ | refine scondT rfl ?_ | refine scondF rfl ?_ | refine ocondP rfl (fun h => ?_) (fun h => ?_) | refine ocondB rfl (fun h => ?_) (fun h => ?_) | refine scondP rfl (fun h => ?_) (fun h => ?_) | refine scond rfl (fun h => ?_) (fun h => ?_) | refine oskip ?_ | refine oskipb ?_ | refine oret ?_ | refine sem_ret ?_ | refine sem_seq ?_ | refine sreg1 ?_)
          · have hy' : y < t.houses.length := by omega
            have hcall := hf1' y hy'
            refine sem_block ?_
            cases A with
            | true =>
              repeat' (first | ((first | refine o1 rfl ?_ | refine o0 rfl ?_); intro k hk; simp (disch := omega) only [ev0, sl_cells, simprocAttr]; refine hk _ _ ?_; clear hk k) | refine ono rfl ?_ | ((first | refine osplitG rfl (fun h => ?_) (fun h => ?_) | refine osplitB rfl (fun h => ?_) (fun h => ?_)) <;> (fail_if_success (simp only [eq_self, reduceCtorEq] at h))) | refine onx ?_ | refine onb ?_ | refine sreg ?_ | refine qT rfl ?_ | refine qF rfl ?_ | refine scondT rfl ?_ | refine scondF rfl ?_ | refine ocondP rfl (fun h => ?_) (fun h => ?_) | refine ocondB rfl (fun h => ?_) (fun h => ?_) | refine scondP rfl (fun h => ?_) (fun h => ?_) | refine scond rfl (fun h => ?_) (fun h => ?_) | refine oskip ?_ | refine oskipb ?_ | refine oret ?_ | refine sem_ret ?_ | refine sem_seq ?_ | refine sreg1 ?_)
              refine semL_dyn (R := fun ae ν => ae = .ret (B (enough t f n y)) ∧ ν = fM t f n) rfl rfl (by exact hcall) fun ae μ hr => ?_
              obtain ⟨rfl, rfl⟩ := hr
              change semL _ _ _ ⟨(_, _) :: _, _⟩ _
              simp only [fM]
              repeat' (first | ((first | refine o1 rfl ?_ | refine o0 rfl ?_); intro k hk; simp (disch := omega) only [ev0, sl_cells, simprocAttr]; refine hk _ _ ?_; clear hk k) | refine ono rfl ?_ | ((first | refine osplitG rfl (fun h => ?_) (fun h => ?_) | refine osplitB rfl (fun h => ?_) (fun h => ?_)) <;> (fail_if_success (simp only [eq_self, reduceCtorEq] at h))) | refine onx ?_ | refine onb ?_ | refine sreg ?_ | refine qT rfl ?_ | refine qF rfl ?_ | refine scondT rfl ?_ | refine scondF rfl ?_ | refine ocondP rfl (fun h => ?_) (fun h => ?_) | refine ocondB rfl (fun h => ?_) (fun h => ?_) | refine scondP rfl (fun h => ?_) (fun h => ?_) | refine scond rfl (fun h => ?_) (fun h => ?_) | refine oskip ?_ | refine oskipb ?_ | refine oret ?_ | refine sem_ret ?_ | refine sem_seq ?_ | refine sreg1 ?_)
              refine onil (lnext (y + 1) (by omega) (by omega) ?_)
              rw [hsu, Bool.true_and]
              (refine Le.same ?_; simp only [List.forall_mem_cons, List.forall_mem_nil, getE, selE, Nat.reduceBEq, List.not_mem_nil, false_implies, implies_true, and_true, true_and, and_self])
              simp
            | false =>
              repeat' (first | ((first | refine o1 rfl ?_ | refine o0 rfl ?_); intro k hk; simp (disch := omega) only [ev0, sl_cells, simprocAttr]; refine hk _ _ ?_; clear hk k) | refine ono rfl ?_ | ((first | refine osplitG rfl (fun h => ?_) (fun h => ?_) | refine osplitB rfl (fun h => ?_) (fun h => ?_)) <;> (fail_if_success (simp only [eq_self, reduceCtorEq] at h))) | refine onx ?_ | refine onb ?_ | refine sreg ?_ | refine qT rfl ?_ | refine qF rfl ?_ | refine scondT rfl ?_ | refine scondF rfl ?_ | refine ocondP rfl (fun h => ?_) (fun h => ?_) | refine ocondB rfl (fun h => ?_) (fun h => ?_) | refine scondP rfl (fun h => ?_) (fun h => ?_) | refine scond rfl (fun h => ?_) (fun h => ?_) | refine oskip ?_ | refine oskipb ?_ | refine oret ?_ | refine sem_ret ?_ | refine sem_seq ?_ | refine sreg1 ?_)
              refine onil (lnext (y + 1) (by omega) (by omega) ?_)
              rw [hsu, Bool.false_and]
              (refine Le.same ?_; simp only [List.forall_mem_cons, List.forall_mem_nil, getE, selE, Nat.reduceBEq, List.not_mem_nil, false_implies, implies_true, and_true, true_and, and_self])
              simp
          · have hy' : y = t.houses.length := by omega
            subst hy'
            change floorB t f n = A at hA
            (refine sem_exit ?_; change sem _ _ _ _ _)
            cases A with
            | true =>
              rw [hff n hn' hall hA]
              repeat' (first | ((first | refine o1 rfl ?_ | refine o0 rfl ?_); intro k hk; simp (disch := omega) only [ev0, sl_cells, simprocAttr]; refine hk _ _ ?_; clear hk k) | refine ono rfl ?_ | ((first | refine osplitG rfl (fun h => ?_) (fun h => ?_) | refine osplitB rfl (fun h => ?_) (fun h => ?_)) <;> (fail_if_success (simp only [eq_self, reduceCtorEq] at h))) | refine onx ?_ | refine onb ?_ | refine sreg ?_ | refine qT rfl ?_ | refine qF rfl ?_ | refine scondT rfl ?_ | refine scondF rfl ?_ | refine ocondP rfl (fun h => ?_) (fun h => ?_) | refine ocondB rfl (fun h => ?_) (fun h => ?_) | refine scondP rfl (fun h => ?_) (fun h => ?_) | refine scond rfl (fun h => ?_) (fun h => ?_) | refine oskip ?_ | refine oskipb ?_ | refine oret ?_ | refine sem_ret ?_ | refine sem_seq ?_ | refine sreg1 ?_)
              exact ⟨_, rfl, _, rfl, tree_eq rfl rfl⟩
            | false =>
              repeat' (first | ((first | refine o1 rfl ?_ | refine o0 rfl ?_); intro k hk; simp (disch := omega) only [ev0, sl_cells, simprocAttr]; refine hk _ _ ?_; clear hk k) | refine ono rfl ?_ | ((first | refine osplitG rfl (fun h => ?_) (fun h => ?_) | refine osplitB rfl (fun h => ?_) (fun h => ?_)) <;> (fail_if_success (simp only [eq_self, reduceCtorEq] at h))) | refine onx ?_ | refine onb ?_ | refine sreg ?_ | refine qT rfl ?_ | refine qF rfl ?_ | refine scondT rfl ?_ | refine scondF rfl ?_ | refine ocondP rfl (fun h => ?_) (fun h => ?_) | refine ocondB rfl (fun h => ?_) (fun h => ?_) | refine scondP rfl (fun h => ?_) (fun h => ?_) | refine scond rfl (fun h => ?_) (fun h => ?_) | refine oskip ?_ | refine oskipb ?_ | refine oret ?_ | refine sem_ret ?_ | refine sem_seq ?_ | refine sreg1 ?_)
              refine onil (lnext (n + 1) ⟨by omega, fun j hj => ?_⟩ (by omega) ?_)
              · by_cases e : j = n
                · subst e; exact hA
                · exact hall j (by omega)
              · (refine Le.drop ?_ rfl (by simp) rfl rfl; simp only [List.forall_mem_cons, List.forall_mem_nil, getE, selE, Nat.reduceBEq, List.not_mem_nil, false_implies, implies_true, and_true, true_and, and_self])
                simp
      · have hn' : n = t.sites.length + 1 := by omega
        subst hn'
        rw [hfn hall]
        (refine sem_exit ?_; change sem _ _ _ _ _)
        repeat' (first | ((first | refine o1 rfl ?_ | refine o0 rfl ?_); intro k hk; simp (disch := omega) only [ev0, sl_cells, simprocAttr]; refine hk _ _ ?_; clear hk k) | refine ono rfl ?_ | ((first | refine osplitG rfl (fun h => ?_) (fun h => ?_) | refine osplitB rfl (fun h => ?_) (fun h => ?_)) <;> (fail_if_success (simp only [eq_self, reduceCtorEq] at h))) | refine onx ?_ | refine onb ?_ | refine sreg ?_ | refine qT rfl ?_ | refine qF rfl ?_ | refine scondT rfl ?_ | refine scondF rfl ?_ | refine ocondP rfl (fun h => ?_) (fun h => ?_) | refine ocondB rfl (fun h => ?_) (fun h => ?_) | refine scondP rfl (fun h => ?_) (fun h => ?_) | refine scond rfl (fun h => ?_) (fun h => ?_) | refine oskip ?_ | refine oskipb ?_ | refine oret ?_ | refine sem_ret ?_ | refine sem_seq ?_ | refine sreg1 ?_)
        exact ⟨_, rfl, _, rfl, tree_eq rfl rfl⟩
end Go.Proofs.Ytnempffajbdneaa
