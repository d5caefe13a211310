/- Whether a house is surely level, with what is kept of earlier questions. -/
import Derived.Test.YtnempffajbdneaaPC14
set_option linter.unusedVariables false
set_option linter.unusedSimpArgs false
set_option maxRecDepth 8000
set_option maxHeartbeats 2000000
namespace Go.Tk
open Go Go.Av
theorem bit_lt {c n i : Nat} (hc : c < 2 ^ n) (h : c.testBit i = true) : i < n := by
  rcases Nat.lt_or_ge i n with h' | h'
  · exact h'
  · rw [Nat.testBit_lt_two_pow (Nat.lt_of_lt_of_le hc (Nat.pow_le_pow_right (by omega) h'))] at h
    cases h
/-- Whether a house is surely level with coolers of which some fail. -/
def levM (t : CoolTown) (y f c : Nat) : Bool := decide ((t.houses.getD y default).need.high ≤ sumL ((coldsL t y c).drop f))
def LK3 : List (Nat × LK) := [(0, .i), (1, .i), (2, .i)]
abbrev keyQ (y f c : Nat) : AV := .agg [I y, I f, I c]
def validQ (t : CoolTown) (es : ES) : Prop := ∀ p ∈ es, ∃ y f c : Nat, p = (keyQ y f c, B (levM t y f c))
theorem validQ.bools {t : CoolTown} {es : ES} (h : validQ t es) : boolE es := fun p hp => by
  obtain ⟨y, f, c, rfl⟩ := h p hp
  exact ⟨_, rfl⟩
theorem validQ.keys {t : CoolTown} {es : ES} (h : validQ t es) : es.all (fun p => keyOK true LK3 p.1) = true := List.all_eq_true.2 fun p hp => by
  obtain ⟨y, f, c, rfl⟩ := h p hp
  rfl
theorem eqA_key (y f c y' f' c' : Nat) : eqA LK3 (cellsOf (keyQ y f c)) (cellsOf (keyQ y' f' c')) = some (decide ((y : Int) = y') && (decide ((f : Int) = f') && (decide ((c : Int) = c') && true))) := rfl
theorem find_key {t : CoolTown} {y f c : Nat} : ∀ (es : ES) (i : Nat), validQ t es → findA LK3 (keyQ y f c) es i = some none ∨ ∃ j, findA LK3 (keyQ y f c) es i = some (some (j, B (levM t y f c)))
  | [], i, _ => .inl rfl
  | p :: es, i, hv => by
    obtain ⟨y', f', c', rfl⟩ := hv p List.mem_cons_self
    simp only [findA, eqA_key]
    cases hb : (decide ((y : Int) = y') && (decide ((f : Int) = f') && (decide ((c : Int) = c') && true))) with
    | false => exact find_key es (i + 1) (fun q hq => hv q (List.mem_cons_of_mem _ hq))
    | true =>
      right
      simp only [Bool.and_eq_true, decide_eq_true_eq, and_true] at hb
      obtain ⟨h1, h2, h3⟩ := hb
      have e1 : y = y' := by omega
      have e2 : f = f' := by omega
      have e3 : c = c' := by omega
      subst e1 e2 e3
      exact ⟨i, rfl⟩
/-- What is kept behind the question. -/
def keepE (t : CoolTown) (es : ES) (y f c : Nat) : ES := match findA LK3 (keyQ y f c) es 0 with | some (some _) => es | _ => es ++ [(keyQ y f c, B (levM t y f c))]
theorem keepE.valid {t : CoolTown} {es : ES} (h : validQ t es) (y f c : Nat) : validQ t (keepE t es y f c) := by
  unfold keepE
  split
  · exact h
  · intro p hp
    rcases List.mem_append.1 hp with hp | hp
    · exact h p hp
    · obtain rfl := List.mem_singleton.1 hp
      exact ⟨y, f, c, rfl⟩
theorem lookQ_miss {env : List (Nat × AV)} {μ : List AObj} {m k : SX} {zero : AV} {es : ES} {id y f c : Nat} (hm : evX env m = .mp id) (hk : evX env k = keyQ y f c) (hμ : μ[id]? = some (.map es)) (hall : es.all (fun p => keyOK true LK3 p.1) = true) (hf : findA LK3 (keyQ y f c) es 0 = some none) :
    sopA (.look true LK3 zero true m k) env μ = some (.tup [zero, .bool false], μ) := by
  have hk1 : keyOK true LK3 (keyQ y f c) = true := rfl
  simp only [sopA, hm, hk, lookA, hμ, hall, hk1, and_self, if_true]; rw [hf]; rfl
theorem lookQ_hit {env : List (Nat × AV)} {μ : List AObj} {m k : SX} {zero v : AV} {es : ES} {id j y f c : Nat} (hm : evX env m = .mp id) (hk : evX env k = keyQ y f c) (hμ : μ[id]? = some (.map es)) (hall : es.all (fun p => keyOK true LK3 p.1) = true) (hf : findA LK3 (keyQ y f c) es 0 = some (some (j, v))) :
    sopA (.look true LK3 zero true m k) env μ = some (.tup [v, .bool true], μ) := by
  have hk1 : keyOK true LK3 (keyQ y f c) = true := rfl
  simp only [sopA, hm, hk, lookA, hμ, hall, hk1, and_self, if_true]; rw [hf]; rfl
theorem putQ {env : List (Nat × AV)} {μ : List AObj} {m k x : SX} {es : ES} {v : AV} {id y f c : Nat} (hm : evX env m = .mp id) (hk : evX env k = keyQ y f c) (hx : evX env x = v) (hμ : μ[id]? = some (.map es)) (hall : es.all (fun p => keyOK true LK3 p.1) = true) (hf : findA LK3 (keyQ y f c) es 0 = some none) :
    sopA (.putM true LK3 m k x) env μ = some (.dead, μ.set id (.map (es ++ [(keyQ y f c, v)]))) := by
  have hk1 : keyOK true LK3 (keyQ y f c) = true := rfl
  simp only [sopA, hm, hk, hx, putMA, hμ, hall, hk1, and_self, if_true]; rw [hf]; rfl
end Go.Tk
namespace Go.Av
section rules
variable {K : Ctx} {μ : List AObj} {C : List (Nat × AV) → List SlotR → Prop}
theorem mopV {j : Nat} {sl : List SlotR} {env : List (Nat × AV)} {g : Option (Nat × Bool)} {d : Nat} {op : SOp} {x : AV} {l : List SOper} (hg : wantA g env = some true) (hq : quietK op = true) (hs : sopA op env μ = some (x, μ)) (hr : refA μ.length x = true)
    (h : MGoC K μ C (j + 1) sl l ((d, x) :: env)) : MGoC K μ C j sl (⟨some d, g, op⟩ :: l) env := mop hg hq fun k hk => by
  unfold stepThen
  rw [hs]
  exact hk x μ hr h
theorem oStV {F : Fcx} {Q : AExit → St → Prop} {env : List (Nat × AV)} {μ μ' : List AObj} {op : SOp} {x : AV} {l : List SOper} (hs : sopA op env μ = some (x, μ')) (h : semL K F l ⟨env, μ'⟩ Q) : semL K F (⟨none, none, op⟩ :: l) ⟨env, μ⟩ Q := semL_op rfl hs h
end rules
end Go.Av
namespace Go.Proofs.Ytnempffajbdneaa
open Go Go.Av Go.Tk
attribute [local irreducible] Holds sem semL ACalls FnIs
theorem sum_drop {G : World → Prop} (hG : ∀ w w', G w → RowKit.Below w.heap.size w w' → G w') (l : List Int) (i : Nat) (hl : l.length ≤ 1000) (hb : ∀ x ∈ l, 0 ≤ x ∧ x ≤ 1000000) : Holds Try.prog G F.cool_sum [.sl (l.length - i) fun j => intCs (l.getD (i + j) default)] (I (sumL (l.drop i))) :=
  (cool_sum hG (l.drop i) (by rw [List.length_drop]; omega) fun x hx => hb x (List.mem_of_mem_drop hx)).conv rfl fun k x' x0 h1 h2 S w v hv => by
    match k, h1, h2 with
    | 0, h1, h2 => cases h1; cases h2; exact sl_drop _ _ _ hv
    | k + 1, h1, h2 => simp at h1
variable {K : Ctx} (hP : K.P = Try.prog) (hGK : ∀ w w', K.G w → RowKit.Below w.heap.size w w' → K.G w')
include hP hGK
theorem bought_level (t : CoolTown) (ht : t.ok) (m : Nat) (es : ES) (hv : validQ t es) (y : Nat) (hy : y < t.houses.length) (f : Nat) (hf : f ≤ 100) (c : Nat) (hc : c < 2 ^ t.sites.length) :
    ACalls K F.cool_bought_level [.ptr 1 0 4 0 0, keyQ y f c] (buyM t m es) fun ae ν => ae = .ret (B (levM t y f c)) ∧ ν = buyM t m (keepE t es y f c) := by
  have hes := hv.bools.ref
  have hkv := (keepE.valid hv y f c).bools.ref
  have hco := bought_colds hP hGK t ht m es hv.bools y hy c hc
  have hky := hv.keys
  obtain ⟨P, w0, S0, G, hG0⟩ := K
  simp only at hP hGK
  subst hP
  refine ACalls.drop (acalls_of_sem fn_cool_bought_level (by simp) fun D => ?_) rfl (by simp [refM, refO, refA, refL, hkv, slOf])
  unfold c_cool_bought_level cval enterEnv buyM
  simp only [List.zipIdx_cons, List.zipIdx_nil, List.map_cons, List.map_nil, Nat.zero_add, Nat.reduceAdd, List.cons_append, List.nil_append]
  rcases find_key (y := y) (f := f) (c := c) es 0 hv with hfd | ⟨j, hfd⟩
  · have hke : keepE t es y f c = es ++ [(keyQ y f c, B (levM t y f c))] := by unfold keepE; rw [hfd]
    rw [hke]
    have hlen : (coldsL t y c).length ≤ 10 := by
      unfold coldsL
      rw [(sortD_perm _).length_eq, List.length_map]
      exact listB_len c
    repeat' (first | ((first | refine o1 rfl ?_ | refine o0 rfl ?_); intro k hk; simp (disch := omega) only [ev0, sl_cells, simprocAttr]; refine hk _ _ ?_; clear hk k) | refine ono rfl ?_ | ((first | refine osplitG rfl (fun h => ?_) (fun h => ?_) | refine osplitB rfl (fun h => ?_) (fun h => ?_)) <;> (fail_if_success (simp only [eq_self, reduceCtorEq] at h))) | refine onx ?_ | refine onb ?_ | refine sreg ?_ | refine qT rfl ?_ | refine qF rfl ?_ | refine scondT rfl ?_ | refine scondF rfl ?_ | refine ocondP rfl (fun h => ?_) (fun h => ?_) | refine ocondB rfl (fun h => ?_) (fun h => ?_) | refine scondP rfl (fun h => ?_) (fun h => ?_) | refine scond rfl (fun h => ?_) (fun h => ?_) | refine oskip ?_ | refine oskipb ?_ | refine oret ?_ | refine sem_ret ?_ | refine sem_seq ?_ | refine sreg1 ?_)
    ((refine sem_mgo 10 hmix (by kernel_rfl) ?_; simp only [nt]); (repeat' (first | ((first | apply mop | apply mop0); (case hg => rfl); (case hq => rfl); intro k hk; simp (disch := omega) only [ev0, sl_cells, simprocAttr]; refine hk _ _ rfl ?_; clear hk k) | (apply mno; (case hg => rfl)) | (apply mbox; (case hx => (simp only [wv, simprocAttr] <;> rfl)); (case hg => rfl); (case hall => rfl); (case hr => rfl); simp only [nm, Nat.reduceAdd]) | (apply mbldS; (case hb => (simp (disch := omega) only [ev0, sl_cells, simprocAttr] <;> rfl)); (case hg => rfl); (case hr => rfl); simp only [nm, Nat.reduceAdd]) | ((first | (apply msto (q := 0); (case hq => rfl)) | (apply msto (q := 1); (case hq => rfl)) | (apply msto (q := 2); (case hq => rfl)) | (apply msto (q := 3); (case hq => rfl))); (case hx => (simp only [wv, simprocAttr] <;> rfl)); (case haddr => (simp only [wv, simprocAttr] <;> rfl)); (case hg => rfl); (case hl1 => rfl); (case hl2 => rfl); (case hok => rfl); (case hr => rfl); simp only [nm, Nat.reduceAdd]) | (apply mnil; simp only [SlotR.fin, ns]) | (refine msplit rfl (fun h => ?_) (fun h => ?_) <;> simp only [h] <;> (try simp only [nb] at h)))) <;> (repeat' (first | ((first | refine o1 rfl ?_ | refine o0 rfl ?_); intro k hk; simp (disch := omega) only [ev0, sl_cells, simprocAttr]; refine hk _ _ ?_; clear hk k) | refine ono rfl ?_ | ((first | refine osplitG rfl (fun h => ?_) (fun h => ?_) | refine osplitB rfl (fun h => ?_) (fun h => ?_)) <;> (fail_if_success (simp only [eq_self, reduceCtorEq] at h))) | refine onx ?_ | refine onb ?_ | refine sreg ?_ | refine qT rfl ?_ | refine qF rfl ?_ | refine scondT rfl ?_ | refine scondF rfl ?_ | refine ocondP rfl (fun h => ?_) (fun h => ?_) | refine ocondB rfl (fun h => ?_) (fun h => ?_) | refine scondP rfl (fun h => ?_) (fun h => ?_) | refine scond rfl (fun h => ?_) (fun h => ?_) | refine oskip ?_ | refine oskipb ?_ | refine oret ?_ | refine sem_ret ?_ | refine sem_seq ?_ | refine sreg1 ?_)))
    refine mopV rfl rfl (lookQ_miss rfl rfl rfl hky hfd) rfl ?_
    repeat' (first | ((first | apply mop | apply mop0); (case hg => rfl); (case hq => rfl); intro k hk; simp (disch := omega) only [ev0, sl_cells, simprocAttr]; refine hk _ _ rfl ?_; clear hk k) | (apply mno; (case hg => rfl)) | (apply mbox; (case hx => (simp only [wv, simprocAttr] <;> rfl)); (case hg => rfl); (case hall => rfl); (case hr => rfl); simp only [nm, Nat.reduceAdd]) | (apply mbldS; (case hb => (simp (disch := omega) only [ev0, sl_cells, simprocAttr] <;> rfl)); (case hg => rfl); (case hr => rfl); simp only [nm, Nat.reduceAdd]) | ((first | (apply msto (q := 0); (case hq => rfl)) | (apply msto (q := 1); (case hq => rfl)) | (apply msto (q := 2); (case hq => rfl)) | (apply msto (q := 3); (case hq => rfl))); (case hx => (simp only [wv, simprocAttr] <;> rfl)); (case haddr => (simp only [wv, simprocAttr] <;> rfl)); (case hg => rfl); (case hl1 => rfl); (case hl2 => rfl); (case hok => rfl); (case hr => rfl); simp only [nm, Nat.reduceAdd]) | (apply mnil; simp only [SlotR.fin, ns]) | (refine msplit rfl (fun h => ?_) (fun h => ?_) <;> simp only [h] <;> (try simp only [nb] at h)))
    repeat' (first | ((first | refine o1 rfl ?_ | refine o0 rfl ?_); intro k hk; simp (disch := omega) only [ev0, sl_cells, simprocAttr]; refine hk _ _ ?_; clear hk k) | refine ono rfl ?_ | ((first | refine osplitG rfl (fun h => ?_) (fun h => ?_) | refine osplitB rfl (fun h => ?_) (fun h => ?_)) <;> (fail_if_success (simp only [eq_self, reduceCtorEq] at h))) | refine onx ?_ | refine onb ?_ | refine sreg ?_ | refine qT rfl ?_ | refine qF rfl ?_ | refine scondT rfl ?_ | refine scondF rfl ?_ | refine ocondP rfl (fun h => ?_) (fun h => ?_) | refine ocondB rfl (fun h => ?_) (fun h => ?_) | refine scondP rfl (fun h => ?_) (fun h => ?_) | refine scond rfl (fun h => ?_) (fun h => ?_) | refine oskip ?_ | refine oskipb ?_ | refine oret ?_ | refine sem_ret ?_ | refine sem_seq ?_ | refine sreg1 ?_)
    have hcf := hco.frame (es := [.row 110 0 3 [[I y, I f, I c]]]) rfl (by simp [refM, refO, refA, refL, hes, slOf]) (by simp [refO, refL, refA]) rfl
    refine semL_acall rfl (by exact hcf) fun ae μ hr => ?_
    obtain ⟨rfl, rfl⟩ := hr
    change semL _ _ _ ⟨(_, _) :: _, _⟩ _
    simp only [buyM, List.cons_append, List.nil_append]
    repeat' (first | ((first | refine o1 rfl ?_ | refine o0 rfl ?_); intro k hk; simp (disch := omega) only [ev0, sl_cells, simprocAttr]; refine hk _ _ ?_; clear hk k) | refine ono rfl ?_ | ((first | refine osplitG rfl (fun h => ?_) (fun h => ?_) | refine osplitB rfl (fun h => ?_) (fun h => ?_)) <;> (fail_if_success (simp only [eq_self, reduceCtorEq] at h))) | refine onx ?_ | refine onb ?_ | refine sreg ?_ | refine qT rfl ?_ | refine qF rfl ?_ | refine scondT rfl ?_ | refine scondF rfl ?_ | refine ocondP rfl (fun h => ?_) (fun h => ?_) | refine ocondB rfl (fun h => ?_) (fun h => ?_) | refine scondP rfl (fun h => ?_) (fun h => ?_) | refine scond rfl (fun h => ?_) (fun h => ?_) | refine oskip ?_ | refine oskipb ?_ | refine oret ?_ | refine sem_ret ?_ | refine sem_seq ?_ | refine sreg1 ?_)
    have hcb : ∀ x ∈ coldsL t y c, 0 ≤ x ∧ x ≤ 1000000 := fun x hx => by
      obtain ⟨i, hi, rfl⟩ := List.mem_map.1 ((sortD_perm _).mem_iff.1 hx)
      obtain ⟨n, rfl, h1, h2⟩ := listB_mem.1 hi
      refine lowOf_bound ht hy ⟨by omega, ?_⟩
      have := bit_lt hc h2
      omega
    have hdb : ∀ k, 0 ≤ sumL ((coldsL t y c).drop k) := fun k => (sumL_bound fun x hx => hcb x (List.mem_of_mem_drop hx)).1
    obtain ⟨k, hk1, hk2, hk3⟩ : ∃ k : Nat, mnmx false (f : Int) ((coldsL t y c).length : Int) = (k : Int) ∧ k ≤ (coldsL t y c).length ∧ (coldsL t y c).drop k = (coldsL t y c).drop f := by
      rcases Nat.le_total f (coldsL t y c).length with h | h
      · refine ⟨f, ?_, h, rfl⟩
        simp only [mnmx, Bool.false_eq_true, if_false]; split <;> omega
      · refine ⟨(coldsL t y c).length, ?_, Nat.le_refl _, by rw [List.drop_length, List.drop_eq_nil_of_le h]⟩
        simp only [mnmx, Bool.false_eq_true, if_false]; split <;> omega
    have hsd := sum_drop hGK (coldsL t y c) k (by omega) hcb
    have hlv : levM t y f c = decide ((t.houses.getD y default).need.high ≤ sumL ((coldsL t y c).drop k)) := by rw [hk3]; rfl
    rw [hlv]
    clear hk3
    generalize coldsL t y c = L at *
    ((refine sem_mgo 19 hmix (by kernel_rfl) ?_; simp only [nt]); (repeat' (first | ((first | apply mop | apply mop0); (case hg => rfl); (case hq => rfl); intro k hk; simp (disch := omega) only [ev0, sl_cells, simprocAttr, slOf, intCs, hk1, CoolHouse.cs, range_all, Option.map_none, List.length_cons, List.length_nil, Nat.zero_add, Nat.sub_zero, decide_true, eq_self]; refine hk _ _ rfl ?_; clear hk k) | (apply mno; (case hg => rfl)) | (apply mcall; (case he => (simp only [ev0, sl_cells, simprocAttr] <;> rfl)); (case hc => first | exact hsd); (case ht => rfl); (case hg => rfl); (case hr => rfl)) | (apply mbox; (case hx => (simp only [wv, simprocAttr] <;> rfl)); (case hg => rfl); (case hall => rfl); (case hr => rfl); simp only [nm, Nat.reduceAdd]) | (apply mbldS; (case hb => (simp (disch := omega) only [ev0, sl_cells, simprocAttr] <;> rfl)); (case hg => rfl); (case hr => rfl); simp only [nm, Nat.reduceAdd]) | ((first | (apply msto (q := 0); (case hq => rfl)) | (apply msto (q := 1); (case hq => rfl)) | (apply msto (q := 2); (case hq => rfl)) | (apply msto (q := 3); (case hq => rfl))); (case hx => (simp only [wv, simprocAttr] <;> rfl)); (case haddr => (simp only [wv, simprocAttr] <;> rfl)); (case hg => rfl); (case hl1 => rfl); (case hl2 => rfl); (case hok => rfl); (case hr => rfl); simp only [nm, Nat.reduceAdd]) | (apply mnil; simp only [SlotR.fin, ns]) | (refine msplit rfl (fun h => ?_) (fun h => ?_) <;> simp only [h] <;> (try simp only [nb] at h)))) <;> (repeat' (first | ((first | refine o1 rfl ?_ | refine o0 rfl ?_); intro k hk; simp (disch := omega) only [ev0, sl_cells, simprocAttr, slOf, intCs, hk1, CoolHouse.cs, range_all, Option.map_none, List.length_cons, List.length_nil, Nat.zero_add, Nat.sub_zero, decide_true, eq_self]; refine hk _ _ ?_; clear hk k) | refine ono rfl ?_ | (apply ocall; (case he => (simp only [ev0, sl_cells, simprocAttr] <;> rfl)); (case hc => first | exact hsd); (case ht => rfl); (case hg => rfl)) | ((first | refine osplitG rfl (fun h => ?_) (fun h => ?_) | refine osplitB rfl (fun h => ?_) (fun h => ?_)) <;> (fail_if_success (simp only [eq_self, reduceCtorEq] at h))) | refine onx ?_ | refine onb ?_ | refine sreg ?_ | refine qT rfl ?_ | refine qF rfl ?_ | refine scondT rfl ?_ | refine scondF rfl ?_ | refine ocondP rfl (fun h => ?_) (fun h => ?_) | refine ocondB rfl (fun h => ?_) (fun h => ?_) | refine scondP rfl (fun h => ?_) (fun h => ?_) | refine scond rfl (fun h => ?_) (fun h => ?_) | refine oskip ?_ | refine oskipb ?_ | refine oret ?_ | refine sem_ret ?_ | refine sem_seq ?_ | refine sreg1 ?_)))
    ((refine sem_mgo 6 hmix (by kernel_rfl) ?_; simp only [nt]); (repeat' (first | ((first | apply mop | apply mop0); (case hg => rfl); (case hq => rfl); intro k hk; simp (disch := omega) only [ev0, sl_cells, simprocAttr]; refine hk _ _ rfl ?_; clear hk k) | (apply mno; (case hg => rfl)) | (apply mbox; (case hx => (simp only [wv, simprocAttr] <;> rfl)); (case hg => rfl); (case hall => rfl); (case hr => rfl); simp only [nm, Nat.reduceAdd]) | (apply mbldS; (case hb => (simp (disch := omega) only [ev0, sl_cells, simprocAttr] <;> rfl)); (case hg => rfl); (case hr => rfl); simp only [nm, Nat.reduceAdd]) | ((first | (apply msto (q := 0); (case hq => rfl)) | (apply msto (q := 1); (case hq => rfl)) | (apply msto (q := 2); (case hq => rfl)) | (apply msto (q := 3); (case hq => rfl))); (case hx => (simp only [wv, simprocAttr] <;> rfl)); (case haddr => (simp only [wv, simprocAttr] <;> rfl)); (case hg => rfl); (case hl1 => rfl); (case hl2 => rfl); (case hok => rfl); (case hr => rfl); simp only [nm, Nat.reduceAdd]) | (apply mnil; simp only [SlotR.fin, ns]) | (refine msplit rfl (fun h => ?_) (fun h => ?_) <;> simp only [h] <;> (try simp only [nb] at h)))) <;> (repeat' (first | ((first | refine o1 rfl ?_ | refine o0 rfl ?_); intro k hk; simp (disch := omega) only [ev0, sl_cells, simprocAttr]; refine hk _ _ ?_; clear hk k) | refine ono rfl ?_ | ((first | refine osplitG rfl (fun h => ?_) (fun h => ?_) | refine osplitB rfl (fun h => ?_) (fun h => ?_)) <;> (fail_if_success (simp only [eq_self, reduceCtorEq] at h))) | refine onx ?_ | refine onb ?_ | refine sreg ?_ | refine qT rfl ?_ | refine qF rfl ?_ | refine scondT rfl ?_ | refine scondF rfl ?_ | refine ocondP rfl (fun h => ?_) (fun h => ?_) | refine ocondB rfl (fun h => ?_) (fun h => ?_) | refine scondP rfl (fun h => ?_) (fun h => ?_) | refine scond rfl (fun h => ?_) (fun h => ?_) | refine oskip ?_ | refine oskipb ?_ | refine oret ?_ | refine sem_ret ?_ | refine sem_seq ?_ | refine sreg1 ?_)))
    refine oStV (putQ rfl rfl rfl rfl hky hfd) ?_
    simp only [List.set_cons_zero]
    repeat' (first | ((first | refine o1 rfl ?_ | refine o0 rfl ?_); intro k hk; simp (disch := omega) only [ev0, sl_cells, simprocAttr]; refine hk _ _ ?_; clear hk k) | refine ono rfl ?_ | ((first | refine osplitG rfl (fun h => ?_) (fun h => ?_) | refine osplitB rfl (fun h => ?_) (fun h => ?_)) <;> (fail_if_success (simp only [eq_self, reduceCtorEq] at h))) | refine onx ?_ | refine onb ?_ | refine sreg ?_ | refine qT rfl ?_ | refine qF rfl ?_ | refine scondT rfl ?_ | refine scondF rfl ?_ | refine ocondP rfl (fun h => ?_) (fun h => ?_) | refine ocondB rfl (fun h => ?_) (fun h => ?_) | refine scondP rfl (fun h => ?_) (fun h => ?_) | refine scond rfl (fun h => ?_) (fun h => ?_) | refine oskip ?_ | refine oskipb ?_ | refine oret ?_ | refine sem_ret ?_ | refine sem_seq ?_ | refine sreg1 ?_)
    exact ⟨_, rfl, rfl, rfl, by simp⟩
  · have hke : keepE t es y f c = es := by unfold keepE; rw [hfd]
    rw [hke]
    repeat' (first | ((first | refine o1 rfl ?_ | refine o0 rfl ?_); intro k hk; simp (disch := omega) only [ev0, sl_cells, simprocAttr]; refine hk _ _ ?_; clear hk k) | refine ono rfl ?_ | ((first | refine osplitG rfl (fun h => ?_) (fun h => ?_) | refine osplitB rfl (fun h => ?_) (fun h => ?_)) <;> (fail_if_success (simp only [eq_self, reduceCtorEq] at h))) | refine onx ?_ | refine onb ?_ | refine sreg ?_ | refine qT rfl ?_ | refine qF rfl ?_ | refine scondT rfl ?_ | refine scondF rfl ?_ | refine ocondP rfl (fun h => ?_) (fun h => ?_) | refine ocondB rfl (fun h => ?_) (fun h => ?_) | refine scondP rfl (fun h => ?_) (fun h => ?_) | refine scond rfl (fun h => ?_) (fun h => ?_) | refine oskip ?_ | refine oskipb ?_ | refine oret ?_ | refine sem_ret ?_ | refine sem_seq ?_ | refine sreg1 ?_)
    ((refine sem_mgo 10 hmix (by kernel_rfl) ?_; simp only [nt]); (repeat' (first | ((first | apply mop | apply mop0); (case hg => rfl); (case hq => rfl); intro k hk; simp (disch := omega) only [ev0, sl_cells, simprocAttr]; refine hk _ _ rfl ?_; clear hk k) | (apply mno; (case hg => rfl)) | (apply mbox; (case hx => (simp only [wv, simprocAttr] <;> rfl)); (case hg => rfl); (case hall => rfl); (case hr => rfl); simp only [nm, Nat.reduceAdd]) | (apply mbldS; (case hb => (simp (disch := omega) only [ev0, sl_cells, simprocAttr] <;> rfl)); (case hg => rfl); (case hr => rfl); simp only [nm, Nat.reduceAdd]) | ((first | (apply msto (q := 0); (case hq => rfl)) | (apply msto (q := 1); (case hq => rfl)) | (apply msto (q := 2); (case hq => rfl)) | (apply msto (q := 3); (case hq => rfl))); (case hx => (simp only [wv, simprocAttr] <;> rfl)); (case haddr => (simp only [wv, simprocAttr] <;> rfl)); (case hg => rfl); (case hl1 => rfl); (case hl2 => rfl); (case hok => rfl); (case hr => rfl); simp only [nm, Nat.reduceAdd]) | (apply mnil; simp only [SlotR.fin, ns]) | (refine msplit rfl (fun h => ?_) (fun h => ?_) <;> simp only [h] <;> (try simp only [nb] at h)))) <;> (repeat' (first | ((first | refine o1 rfl ?_ | refine o0 rfl ?_); intro k hk; simp (disch := omega) only [ev0, sl_cells, simprocAttr]; refine hk _ _ ?_; clear hk k) | refine ono rfl ?_ | ((first | refine osplitG rfl (fun h => ?_) (fun h => ?_) | refine osplitB rfl (fun h => ?_) (fun h => ?_)) <;> (fail_if_success (simp only [eq_self, reduceCtorEq] at h))) | refine onx ?_ | refine onb ?_ | refine sreg ?_ | refine qT rfl ?_ | refine qF rfl ?_ | refine scondT rfl ?_ | refine scondF rfl ?_ | refine ocondP rfl (fun h => ?_) (fun h => ?_) | refine ocondB rfl (fun h => ?_) (fun h => ?_) | refine scondP rfl (fun h => ?_) (fun h => ?_) | refine scond rfl (fun h => ?_) (fun h => ?_) | refine oskip ?_ | refine oskipb ?_ | refine oret ?_ | refine sem_ret ?_ | refine sem_seq ?_ | refine sreg1 ?_)))
    refine mopV rfl rfl (lookQ_hit rfl rfl rfl hky hfd) rfl ?_
    repeat' (first | ((first | apply mop | apply mop0); (case hg => rfl); (case hq => rfl); intro k hk; simp (disch := omega) only [ev0, sl_cells, simprocAttr]; refine hk _ _ rfl ?_; clear hk k) | (apply mno; (case hg => rfl)) | (apply mbox; (case hx => (simp only [wv, simprocAttr] <;> rfl)); (case hg => rfl); (case hall => rfl); (case hr => rfl); simp only [nm, Nat.reduceAdd]) | (apply mbldS; (case hb => (simp (disch := omega) only [ev0, sl_cells, simprocAttr] <;> rfl)); (case hg => rfl); (case hr => rfl); simp only [nm, Nat.reduceAdd]) | ((first | (apply msto (q := 0); (case hq => rfl)) | (apply msto (q := 1); (case hq => rfl)) | (apply msto (q := 2); (case hq => rfl)) | (apply msto (q := 3); (case hq => rfl))); (case hx => (simp only [wv, simprocAttr] <;> rfl)); (case haddr => (simp only [wv, simprocAttr] <;> rfl)); (case hg => rfl); (case hl1 => rfl); (case hl2 => rfl); (case hok => rfl); (case hr => rfl); simp only [nm, Nat.reduceAdd]) | (apply mnil; simp only [SlotR.fin, ns]) | (refine msplit rfl (fun h => ?_) (fun h => ?_) <;> simp only [h] <;> (try simp only [nb] at h)))
    repeat' (first | ((first | refine o1 rfl ?_ | refine o0 rfl ?_); intro k hk; simp (disch := omega) only [ev0, sl_cells, simprocAttr]; refine hk _ _ ?_; clear hk k) | refine ono rfl ?_ | ((first | refine osplitG rfl (fun h => ?_) (fun h => ?_) | refine osplitB rfl (fun h => ?_) (fun h => ?_)) <;> (fail_if_success (simp only [eq_self, reduceCtorEq] at h))) | refine onx ?_ | refine onb ?_ | refine sreg ?_ | refine qT rfl ?_ | refine qF rfl ?_ | refine scondT rfl ?_ | refine scondF rfl ?_ | refine ocondP rfl (fun h => ?_) (fun h => ?_) | refine ocondB rfl (fun h => ?_) (fun h => ?_) | refine scondP rfl (fun h => ?_) (fun h => ?_) | refine scond rfl (fun h => ?_) (fun h => ?_) | refine oskip ?_ | refine oskipb ?_ | refine oret ?_ | refine sem_ret ?_ | refine sem_seq ?_ | refine sreg1 ?_)
    exact ⟨_, rfl, rfl, rfl, by simp⟩
end Go.Proofs.Ytnempffajbdneaa
