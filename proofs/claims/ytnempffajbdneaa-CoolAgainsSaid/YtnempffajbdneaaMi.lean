/- Whether a house is surely level, with what is kept of earlier questions. -/
import Derived.Test.YtnempffajbdneaaMh
set_option linter.unusedVariables false
set_option linter.unusedSimpArgs false
set_option maxRecDepth 8000
set_option maxHeartbeats 2000000
namespace Go.Tk
open Go Go.Av
theorem bit_lt {c n i : Nat} (hc : c < 2 ^ n) (h : c.testBit i = true) : i < n := by
  rcases Nat.lt_or_ge i n with h' | h'
  · exact h'
  · rw [Nat.testBit_lt_two_pow (Nat.lt_of_lt_of_le hc (Nat.pow_le_pow_right (by omega) h'))] at h
    cases h
/-- Whether a house is surely level with coolers of which some fail. -/
def levM (t : CoolTown) (y f c : Nat) : Bool := decide ((t.houses.getD y default).need.high ≤ sumL ((coldsL t y c).drop f))
def LK3 : List (Nat × LK) := [(0, .i), (1, .i), (2, .i)]
abbrev keyQ (y f c : Nat) : AV := .agg [I y, I f, I c]
def validQ (t : CoolTown) (es : ES) : Prop := ∀ p ∈ es, ∃ y f c : Nat, p = (keyQ y f c, B (levM t y f c))
theorem validQ.bools {t : CoolTown} {es : ES} (h : validQ t es) : boolE es := fun p hp => by
  obtain ⟨y, f, c, rfl⟩ := h p hp
  exact ⟨_, rfl⟩
theorem validQ.keys {t : CoolTown} {es : ES} (h : validQ t es) : es.all (fun p => keyOK true LK3 p.1) = true := List.all_eq_true.2 fun p hp => by
  obtain ⟨y, f, c, rfl⟩ := h p hp
  rfl
theorem eqA_key (y f c y' f' c' : Nat) : eqA LK3 (cellsOf (keyQ y f c)) (cellsOf (keyQ y' f' c')) = some (decide ((y : Int) = y') && (decide ((f : Int) = f') && (decide ((c : Int) = c') && true))) := rfl
theorem find_key {t : CoolTown} {y f c : Nat} : ∀ (es : ES) (i : Nat), validQ t es → findA LK3 (keyQ y f c) es i = some none ∨ ∃ j, findA LK3 (keyQ y f c) es i = some (some (j, B (levM t y f c)))
  | [], i, _ => .inl rfl
  | p :: es, i, hv => by
    obtain ⟨y', f', c', rfl⟩ := hv p List.mem_cons_self
    simp only [findA, eqA_key]
    cases hb : (decide ((y : Int) = y') && (decide ((f : Int) = f') && (decide ((c : Int) = c') && true))) with
    | false => exact find_key es (i + 1) (fun q hq => hv q (List.mem_cons_of_mem _ hq))
    | true =>
      right
      simp only [Bool.and_eq_true, decide_eq_true_eq, and_true] at hb
      obtain ⟨h1, h2, h3⟩ := hb
      have e1 : y = y' := by omega
      have e2 : f = f' := by omega
      have e3 : c = c' := by omega
      subst e1 e2 e3
      exact ⟨i, rfl⟩
/-- What is kept behind the question. -/
def keepE (t : CoolTown) (es : ES) (y f c : Nat) : ES := match findA LK3 (keyQ y f c) es 0 with | some (some _) => es | _ => es ++ [(keyQ y f c, B (levM t y f c))]
theorem keepE.valid {t : CoolTown} {es : ES} (h : validQ t es) (y f c : Nat) : validQ t (keepE t es y f c) := by
  unfold keepE
  split
  · exact h
  · intro p hp
    rcases List.mem_append.1 hp with hp | hp
    · exact h p hp
    · obtain rfl := List.mem_singleton.1 hp
      exact ⟨y, f, c, rfl⟩
theorem lookQ_miss {env : List (Nat × AV)} {μ : List AObj} {m k : SX} {zero : AV} {es : ES} {id y f c : Nat} (hm : evX env m = .mp id) (hk : evX env k = keyQ y f c) (hμ : μ[id]? = some (.map es)) (hall : es.all (fun p => keyOK true LK3 p.1) = true) (hf : findA LK3 (keyQ y f c) es 0 = some none) :
    sopA (.look true LK3 zero true m k) env μ = some (.tup [zero, .bool false], μ) := by
  have hk1 : keyOK true LK3 (keyQ y f c) = true := rfl
  simp only [sopA, hm, hk, lookA, hμ, hall, hk1, and_self, if_true]; rw [hf]; rfl
theorem lookQ_hit {env : List (Nat × AV)} {μ : List AObj} {m k : SX} {zero v : AV} {es : ES} {id j y f c : Nat} (hm : evX env m = .mp id) (hk : evX env k = keyQ y f c) (hμ : μ[id]? = some (.map es)) (hall : es.all (fun p => keyOK true LK3 p.1) = true) (hf : findA LK3 (keyQ y f c) es 0 = some (some (j, v))) :
    sopA (.look true LK3 zero true m k) env μ = some (.tup [v, .bool true], μ) := by
  have hk1 : keyOK true LK3 (keyQ y f c) = true := rfl
  simp only [sopA, hm, hk, lookA, hμ, hall, hk1, and_self, if_true]; rw [hf]; rfl
theorem putQ {env : List (Nat × AV)} {μ : List AObj} {m k x : SX} {es : ES} {v : AV} {id y f c : Nat} (hm : evX env m = .mp id) (hk : evX env k = keyQ y f c) (hx : evX env x = v) (hμ : μ[id]? = some (.map es)) (hall : es.all (fun p => keyOK true LK3 p.1) = true) (hf : findA LK3 (keyQ y f c) es 0 = some none) :
    sopA (.putM true LK3 m k x) env μ = some (.dead, μ.set id (.map (es ++ [(keyQ y f c, v)]))) := by
  have hk1 : keyOK true LK3 (keyQ y f c) = true := rfl
  simp only [sopA, hm, hk, hx, putMA, hμ, hall, hk1, and_self, if_true]; rw [hf]; rfl
end Go.Tk
namespace Go.Av
section rules
variable {K : Ctx} {μ : List AObj} {C : List (Nat × AV) → List SlotR → Prop}
theorem mopV {j : Nat} {sl : List SlotR} {env : List (Nat × AV)} {g : Option (Nat × Bool)} {d : Nat} {op : SOp} {x : AV} {l : List SOper} (hg : wantA g env = some true) (hq : quietK op = true) (hs : sopA op env μ = some (x, μ)) (hr : refA μ.length x = true)
    (h : MGoC K μ C (j + 1) sl l ((d, x) :: env)) : MGoC K μ C j sl (⟨some d, g, op⟩ :: l) env := mop hg hq fun k hk => by
  unfold stepThen
  rw [hs]
  exact hk x μ hr h
theorem oStV {F : Fcx} {Q : AExit → St → Prop} {env : List (Nat × AV)} {μ μ' : List AObj} {op : SOp} {x : AV} {l : List SOper} (hs : sopA op env μ = some (x, μ')) (h : semL K F l ⟨env, μ'⟩ Q) : semL K F (⟨none, none, op⟩ :: l) ⟨env, μ⟩ Q := semL_op rfl hs h
end rules
end Go.Av
namespace Go.Proofs.Ytnempffajbdneaa
open Go Go.Av Go.Tk
attribute [local irreducible] Holds sem semL ACalls FnIs
theorem sum_drop {G : World → Prop} (hG : ∀ w w', G w → RowKit.Below w.heap.size w w' → G w') (l : List Int) (i : Nat) (hl : l.length ≤ 1000) (hb : ∀ x ∈ l, 0 ≤ x ∧ x ≤ 1000000) : Holds Try.prog G F.cool_sum [.sl (l.length - i) fun j => intCs (l.getD (i + j) default)] (I (sumL (l.drop i))) :=
  (cool_sum hG (l.drop i) (by rw [List.length_drop]; omega) fun x hx => hb x (List.mem_of_mem_drop hx)).conv rfl fun k x' x0 h1 h2 S w v hv => by
    match k, h1, h2 with
    | 0, h1, h2 => cases h1; cases h2; exact sl_drop _ _ _ hv
    | k + 1, h1, h2 => simp at h1
variable {K : Ctx} (hP : K.P = Try.prog) (hGK : ∀ w w', K.G w → RowKit.Below w.heap.size w w' → K.G w')
include hP hGK
theorem bought_level (t : CoolTown) (ht : t.ok) (m : Nat) (es : ES) (hv : validQ t es) (y : Nat) (hy : y < t.houses.length) (f : Nat) (hf : f ≤ 100) (c : Nat) (hc : c < 2 ^ t.sites.length) :
    ACalls K F.cool_bought_level [.ptr 1 0 4 0 0, keyQ y f c] (buyM t m es) fun ae ν => ae = .ret (B (levM t y f c)) ∧ ν = buyM t m (keepE t es y f c) := by
  have hes := hv.bools.ref
  have hkv := (keepE.valid hv y f c).bools.ref
  have hco := bought_colds hP hGK t ht m es hv.bools y hy c hc
  have hky := hv.keys
  obtain ⟨P, w0, S0, G, hG0⟩ := K
  simp only at hP hGK
  subst hP
  refine ACalls.drop (acalls_of_sem fn_cool_bought_level (by simp) fun D => ?_) rfl (by simp [refM, refO, refA, refL, hkv, slOf])
  unfold c_cool_bought_level cval enterEnv buyM
  simp only [List.zipIdx_cons, List.zipIdx_nil, List.map_cons, List.map_nil, Nat.zero_add, Nat.reduceAdd, List.cons_append, List.nil_append]
  rcases find_key (y := y) (f := f) (c := c) es 0 hv with hfd | ⟨j, hfd⟩
  · have hke : keepE t es y f c = es ++ [(keyQ y f c, B (levM t y f c))] := by unfold keepE; rw [hfd]
    rw [hke]
    have hlen : (coldsL t y c).length ≤ 10 := by
      unfold coldsL
      rw [(sortD_perm _).length_eq, List.length_map]
      exact listB_len c
    repeat' (first | ((first | refine o1 rfl ?_ | refine o0 rfl ?_); intro k hk; simp (disch := omega) only [ev0, sl_cells, simprocAttr]; refine hk _ _ ?_; clear hk k) | refine ono rfl ?_ | ((first | refine osplitG rfl (fun h => ?_) (fun h => ?_) | refine osplitB rfl (fun h => ?_) (fun h => ?_)) <;> (fail_if_success (simp only [eq_self, reduceCtorEq] at h))) | refine onx ?_ | refine onb ?_ | refine sreg ?_ | refine qT rfl ?_ | refine qF rfl ?_ | refine scondT rfl ?_ | refine scondF rfl ?_ | refine ocondP rfl (fun h => ?_) (fun h => ?_) | refine ocondB rfl (fun h => ?_) (fun h => ?_) | refine scondP rfl (fun h => ?_) (fun h => ?_) | refine scond rfl (fun h => ?_) (fun h => ?_) | refine oskip ?_ | refine oskipb ?_ | refine oret ?_ | refine sem_ret ?_ | refine sem_seq ?_ | refine sreg1 ?_)
    ((refine sem_mgo 10 hmix (by kernel_rfl) ?_; simp only [List.take_succ_cons, List.take_zero, List.drop_succ_cons, List.drop_zero, List.take_nil, List.drop_nil]); (repeat' (first | ((first | apply mop | apply mop0); (case hg => rfl); (case hq => rfl); intro k hk; simp (disch := omega) only [ev0, sl_cells, simprocAttr]; refine hk _ _ rfl ?_; clear hk k) | (apply mno; (case hg => rfl)) | (apply mbox; (case hx => (simp only [wv, simprocAttr] <;> rfl)); (case hg => rfl); (case hall => rfl); (case hr => rfl); simp only [cellsOf, List.length_cons, List.length_nil, Nat.reduceAdd, Nat.zero_add, List.nil_append, List.cons_append, List.set_cons_zero, List.set_cons_succ, chunks, List.take_succ_cons, List.take_zero, List.drop_succ_cons, List.drop_zero]) | (apply mbldS; (case hb => (simp (disch := omega) only [ev0, sl_cells, simprocAttr] <;> rfl)); (case hg => rfl); (case hr => rfl); simp only [cellsOf, List.length_cons, List.length_nil, Nat.reduceAdd, Nat.zero_add, List.nil_append, List.cons_append, List.set_cons_zero, List.set_cons_succ, chunks, List.take_succ_cons, List.take_zero, List.drop_succ_cons, List.drop_zero]) | ((first | (apply msto (q := 0); (case hq => rfl)) | (apply msto (q := 1); (case hq => rfl)) | (apply msto (q := 2); (case hq => rfl)) | (apply msto (q := 3); (case hq => rfl))); (case hx => (simp only [wv, simprocAttr] <;> rfl)); (case haddr => (simp only [wv, simprocAttr] <;> rfl)); (case hg => rfl); (case hl1 => rfl); (case hl2 => rfl); (case hok => rfl); (case hr => rfl); simp only [cellsOf, List.length_cons, List.length_nil, Nat.reduceAdd, Nat.zero_add, List.nil_append, List.cons_append, List.set_cons_zero, List.set_cons_succ, chunks, List.take_succ_cons, List.take_zero, List.drop_succ_cons, List.drop_zero]) | (apply mnil; simp only [SlotR.fin, List.map_cons, List.map_nil, List.cons_append, List.nil_append, List.append_nil]) | (refine msplit rfl (fun h => ?_) (fun h => ?_) <;> simp only [h] <;> (try simp only [Bool.not_eq_true', Bool.not_eq_false', decide_eq_true_eq, decide_eq_false_iff_not] at h)))) <;> (repeat' (first | ((first | refine o1 rfl ?_ | refine o0 rfl ?_); intro k hk; simp (disch := omega) only [ev0, sl_cells, simprocAttr]; refine hk _ _ ?_; clear hk k) | refine ono rfl ?_ | ((first | refine osplitG rfl (fun h => ?_) (fun h => ?_) | refine osplitB rfl (fun h => ?_) (fun h => ?_)) <;> (fail_if_success (simp only [eq_self, reduceCtorEq] at h))) | refine onx ?_ | refine onb ?_ | refine sreg ?_ | refine qT rfl ?_ | refine qF rfl ?_ | refine scondT rfl ?_ | refine scondF rfl ?_ | refine ocondP rfl (fun h => ?_) (fun h => ?_) | refine ocondB rfl (fun h => ?_) (fun h => ?_) | refine scondP rfl (fun h => ?_) (fun h => ?_) | refine scond rfl (fun h => ?_) (fun h => ?_) | refine oskip ?_ | refine oskipb ?_ | refine oret ?_ | refine sem_ret ?_ | refine sem_seq ?_ | refine sreg1 ?_)))
    refine mopV rfl rfl (lookQ_miss rfl rfl rfl hky hfd) rfl ?_
    repeat' (first | ((first | apply mop | apply mop0); (case hg => rfl); (case hq => rfl); intro k hk; simp (disch := omega) only [ev0, sl_cells, simprocAttr]; refine hk _ _ rfl ?_; clear hk k) | (apply mno; (case hg => rfl)) | (apply mbox; (case hx => (simp only [wv, simprocAttr] <;> rfl)); (case hg => rfl); (case hall => rfl); (case hr => rfl); simp only [cellsOf, List.length_cons, List.length_nil, Nat.reduceAdd, Nat.zero_add, List.nil_append, List.cons_append, List.set_cons_zero, List.set_cons_succ, chunks, List.take_succ_cons, List.take_zero, List.drop_succ_cons, List.drop_zero]) | (apply mbldS; (case hb => (simp (disch := omega) only [ev0, sl_cells, simprocAttr] <;> rfl)); (case hg => rfl); (case hr => rfl); simp only [cellsOf, List.length_cons, List.length_nil, Nat.reduceAdd, Nat.zero_add, List.nil_append, List.cons_append, List.set_cons_zero, List.set_cons_succ, chunks, List.take_succ_cons, List.take_zero, List.drop_succ_cons, List.drop_zero]) | ((first | (apply msto (q := 0); (case hq => rfl)) | (apply msto (q := 1); (case hq => rfl)) | (apply msto (q := 2); (case hq => rfl)) | (apply msto (q := 3); (case hq => rfl))); (case hx => (simp only [wv, simprocAttr] <;> rfl)); (case haddr => (simp only [wv, simprocAttr] <;> rfl)); (case hg => rfl); (case hl1 => rfl); (case hl2 => rfl); (case hok => rfl); (case hr => rfl); simp only [cellsOf, List.length_cons, List.length_nil, Nat.reduceAdd, Nat.zero_add, List.nil_append, List.cons_append, List.set_cons_zero, List.set_cons_succ, chunks, List.take_succ_cons, List.take_zero, List.drop_succ_cons, List.drop_zero]) | (apply mnil; simp only [SlotR.fin, List.map_cons, List.map_nil, List.cons_append, List.nil_append, List.append_nil]) | (refine msplit rfl (fun h => ?_) (fun h => ?_) <;> simp only [h] <;> (try simp only [Bool.not_eq_true', Bool.not_eq_false', decide_eq_true_eq, decide_eq_false_iff_not] at h)))
    repeat' (first | ((first | refine o1 rfl ?_ | refine o0 rfl ?_); intro k hk; simp (disch := omega) only [ev0, sl_cells, simprocAttr]; refine hk _ _ ?_; clear hk k) | refine ono rfl ?_ | ((first | refine osplitG rfl (fun h => ?_) (fun h => ?_) | refine osplitB rfl (fun h => ?_) (fun h => ?_)) <;> (fail_if_success (simp only [eq_self, reduceCtorEq] at h))) | refine onx ?_ | refine onb ?_ | refine sreg ?_ | refine qT rfl ?_ | refine qF rfl ?_ | refine scondT rfl ?_ | refine scondF rfl ?_ | refine ocondP rfl (fun h => ?_) (fun h => ?_) | refine ocondB rfl (fun h => ?_) (fun h => ?_) | refine scondP rfl (fun h => ?_) (fun h => ?_) | refine scond rfl (fun h => ?_) (fun h => ?_) | refine oskip ?_ | refine oskipb ?_ | refine oret ?_ | refine sem_ret ?_ | refine sem_seq ?_ | refine sreg1 ?_)
    have hcf := hco.frame (es := [.row 110 0 3 [[I y, I f, I c]]]) rfl (by simp [refM, refO, refA, refL, hes, slOf]) (by simp [refO, refL, refA]) rfl
    refine semL_acall rfl (by exact hcf) fun ae μ hr => ?_
    obtain ⟨rfl, rfl⟩ := hr
    change semL _ _ _ ⟨(_, _) :: _, _⟩ _
    simp only [buyM, List.cons_append, List.nil_append]
    repeat' (first | ((first | refine o1 rfl ?_ | refine o0 rfl ?_); intro k hk; simp (disch := omega) only [ev0, sl_cells, simprocAttr]; refine hk _ _ ?_; clear hk k) | refine ono rfl ?_ | ((first | refine osplitG rfl (fun h => ?_) (fun h => ?_) | refine osplitB rfl (fun h => ?_) (fun h => ?_)) <;> (fail_if_success (simp only [eq_self, reduceCtorEq] at h))) | refine onx ?_ | refine onb ?_ | refine sreg ?_ | refine qT rfl ?_ | refine qF rfl ?_ | refine scondT rfl ?_ | refine scondF rfl ?_ | refine ocondP rfl (fun h => ?_) (fun h => ?_) | refine ocondB rfl (fun h => ?_) (fun h => ?_) | refine scondP rfl (fun h => ?_) (fun h => ?_) | refine scond rfl (fun h => ?_) (fun h => ?_) | refine oskip ?_ | refine oskipb ?_ | refine oret ?_ | refine sem_ret ?_ | refine sem_seq ?_ | refine sreg1 ?_)
    have hcb : ∀ x ∈ coldsL t y c, 0 ≤ x ∧ x ≤ 1000000 := fun x hx => by
      obtain ⟨i, hi, rfl⟩ := List.mem_map.1 ((sortD_perm _).mem_iff.1 hx)
      obtain ⟨n, rfl, h1, h2⟩ := listB_mem.1 hi
      refine lowOf_bound ht hy ⟨by omega, ?_⟩
      have := bit_lt hc h2
      omega
    have hdb : ∀ k, 0 ≤ sumL ((coldsL t y c).drop k) := fun k => (sumL_bound fun x hx => hcb x (List.mem_of_mem_drop hx)).1
    obtain ⟨k, hk1, hk2, hk3⟩ : ∃ k : Nat, mnmx false (f : Int) ((coldsL t y c).length : Int) = (k : Int) ∧ k ≤ (coldsL t y c).length ∧ (coldsL t y c).drop k = (coldsL t y c).drop f := by
      rcases Nat.le_total f (coldsL t y c).length with h | h
      · refine ⟨f, ?_, h, rfl⟩
        simp only [mnmx, Bool.false_eq_true, if_false]; split <;> omega
      · refine ⟨(coldsL t y c).length, ?_, Nat.le_refl _, by rw [List.drop_length, List.drop_eq_nil_of_le h]⟩
        simp only [mnmx, Bool.false_eq_true, if_false]; split <;> omega
    have hsd := sum_drop hGK (coldsL t y c) k (by omega) hcb
    have hlv : levM t y f c = decide ((t.houses.getD y default).need.high ≤ sumL ((coldsL t y c).drop k)) := by rw [hk3]; rfl
    rw [hlv]
    clear hk3
    generalize coldsL t y c = L at *
    ((refine sem_mgo 19 hmix (by kernel_rfl) ?_; simp only [List.take_succ_cons, List.take_zero, List.drop_succ_cons, List.drop_zero, List.take_nil, List.drop_nil]); (repeat' (first | ((first | apply mop | apply mop0); (case hg => rfl); (case hq => rfl); intro k hk; simp (disch := omega) only [ev0, sl_cells, simprocAttr, slOf, intCs, hk1, CoolHouse.cs, range_all, Option.map_none, List.length_cons, List.length_nil, Nat.zero_add, Nat.sub_zero, decide_true, eq_self]; refine hk _ _ rfl ?_; clear hk k) | (apply mno; (case hg => rfl)) | (apply mcall; (case he => (simp only [ev0, sl_cells, simprocAttr] <;> rfl)); (case hc => first | exact hsd); (case ht => rfl); (case hg => rfl); (case hr => rfl)) | (apply mbox; (case hx => (simp only [wv, simprocAttr] <;> rfl)); (case hg => rfl); (case hall => rfl); (case hr => rfl); simp only [cellsOf, List.length_cons, List.length_nil, Nat.reduceAdd, Nat.zero_add, List.nil_append, List.cons_append, List.set_cons_zero, List.set_cons_succ, chunks, List.take_succ_cons, List.take_zero, List.drop_succ_cons, List.drop_zero]) | (apply mbldS; (case hb => (simp (disch := omega) only [ev0, sl_cells, simprocAttr] <;> rfl)); (case hg => rfl); (case hr => rfl); simp only [cellsOf, List.length_cons, List.length_nil, Nat.reduceAdd, Nat.zero_add, List.nil_append, List.cons_append, List.set_cons_zero, List.set_cons_succ, chunks, List.take_succ_cons, List.take_zero, List.drop_succ_cons, List.drop_zero]) | ((first | (apply msto (q := 0); (case hq => rfl)) | (apply msto (q := 1); (case hq => rfl)) | (apply msto (q := 2); (case hq => rfl)) | (apply msto (q := 3); (case hq => rfl))); (case hx => (simp only [wv, simprocAttr] <;> rfl)); (case haddr => (simp only [wv, simprocAttr] <;> rfl)); (case hg => rfl); (case hl1 => rfl); (case hl2 => rfl); (case hok => rfl); (case hr => rfl); simp only [cellsOf, List.length_cons, List.length_nil, Nat.reduceAdd, Nat.zero_add, List.nil_append, List.cons_append, List.set_cons_zero, List.set_cons_succ, chunks, List.take_succ_cons, List.take_zero, List.drop_succ_cons, List.drop_zero]) | (apply mnil; simp only [SlotR.fin, List.map_cons, List.map_nil, List.cons_append, List.nil_append, List.append_nil]) | (refine msplit rfl (fun h => ?_) (fun h => ?_) <;> simp only [h] <;> (try simp only [Bool.not_eq_true', Bool.not_eq_false', decide_eq_true_eq, decide_eq_false_iff_not] at h)))) <;> (repeat' (first | ((first | refine o1 rfl ?_ | refine o0 rfl ?_); intro k hk; simp (disch := omega) only [ev0, sl_cells, simprocAttr, slOf, intCs, hk1, CoolHouse.cs, range_all, Option.map_none, List.length_cons, List.length_nil, Nat.zero_add, Nat.sub_zero, decide_true, eq_self]; refine hk _ _ ?_; clear hk k) | refine ono rfl ?_ | (apply ocall; (case he => (simp only [ev0, sl_cells, simprocAttr] <;> rfl)); (case hc => first | exact hsd); (case ht => rfl); (case hg => rfl)) | ((first | refine osplitG rfl (fun h => ?_) (fun h => ?_) | refine osplitB rfl (fun h => ?_) (fun h => ?_)) <;> (fail_if_success (simp only [eq_self, reduceCtorEq] at h))) | refine onx ?_ | refine onb ?_ | refine sreg ?_ | refine qT rfl ?_ | refine qF rfl ?_ | refine scondT rfl ?_ | refine scondF rfl ?_ | refine ocondP rfl (fun h => ?_) (fun h => ?_) | refine ocondB rfl (fun h => ?_) (fun h => ?_) | refine scondP rfl (fun h => ?_) (fun h => ?_) | refine scond rfl (fun h => ?_) (fun h => ?_) | refine oskip ?_ | refine oskipb ?_ | refine oret ?_ | refine sem_ret ?_ | refine sem_seq ?_ | refine sreg1 ?_)))
    ((refine sem_mgo 6 hmix (by kernel_rfl) ?_; simp only [List.take_succ_cons, List.take_zero, List.drop_succ_cons, List.drop_zero, List.take_nil, List.drop_nil]); (repeat' (first | ((first | apply mop | apply mop0); (case hg => rfl); (case hq => rfl); intro k hk; simp (disch := omega) only [ev0, sl_cells, simprocAttr]; refine hk _ _ rfl ?_; clear hk k) | (apply mno; (case hg => rfl)) | (apply mbox; (case hx => (simp only [wv, simprocAttr] <;> rfl)); (case hg => rfl); (case hall => rfl); (case hr => rfl); simp only [cellsOf, List.length_cons, List.length_nil, Nat.reduceAdd, Nat.zero_add, List.nil_append, List.cons_append, List.set_cons_zero, List.set_cons_succ, chunks, List.take_succ_cons, List.take_zero, List.drop_succ_cons, List.drop_zero]) | (apply mbldS; (case hb => (simp (disch := omega) only [ev0, sl_cells, simprocAttr] <;> rfl)); (case hg => rfl); (case hr => rfl); simp only [cellsOf, List.length_cons, List.length_nil, Nat.reduceAdd, Nat.zero_add, List.nil_append, List.cons_append, List.set_cons_zero, List.set_cons_succ, chunks, List.take_succ_cons, List.take_zero, List.drop_succ_cons, List.drop_zero]) | ((first | (apply msto (q := 0); (case hq => rfl)) | (apply msto (q := 1); (case hq => rfl)) | (apply msto (q := 2); (case hq => rfl)) | (apply msto (q := 3); (case hq => rfl))); (case hx => (simp only [wv, simprocAttr] <;> rfl)); (case haddr => (simp only [wv, simprocAttr] <;> rfl)); (case hg => rfl); (case hl1 => rfl); (case hl2 => rfl); (case hok => rfl); (case hr => rfl); simp only [cellsOf, List.length_cons, List.length_nil, Nat.reduceAdd, Nat.zero_add, List.nil_append, List.cons_append, List.set_cons_zero, List.set_cons_succ, chunks, List.take_succ_cons, List.take_zero, List.drop_succ_cons, List.drop_zero]) | (apply mnil; simp only [SlotR.fin, List.map_cons, List.map_nil, List.cons_append, List.nil_append, List.append_nil]) | (refine msplit rfl (fun h => ?_) (fun h => ?_) <;> simp only [h] <;> (try simp only [Bool.not_eq_true', Bool.not_eq_false', decide_eq_true_eq, decide_eq_false_iff_not] at h)))) <;> (repeat' (first | ((first | refine o1 rfl ?_ | refine o0 rfl ?_); intro k hk; simp (disch := omega) only [ev0, sl_cells, simprocAttr]; refine hk _ _ ?_; clear hk k) | refine ono rfl ?_ | ((first | refine osplitG rfl (fun h => ?_) (fun h => ?_) | refine osplitB rfl (fun h => ?_) (fun h => ?_)) <;> (fail_if_success (simp only [eq_self, reduceCtorEq] at h))) | refine onx ?_ | refine onb ?_ | refine sreg ?_ | refine qT rfl ?_ | refine qF rfl ?_ | refine scondT rfl ?_ | refine scondF rfl ?_ | refine ocondP rfl (fun h => ?_) (fun h => ?_) | refine ocondB rfl (fun h => ?_) (fun h => ?_) | refine scondP rfl (fun h => ?_) (fun h => ?_) | refine scond rfl (fun h => ?_) (fun h => ?_) | refine oskip ?_ | refine oskipb ?_ | refine oret ?_ | refine sem_ret ?_ | refine sem_seq ?_ | refine sreg1 ?_)))
    refine oStV (putQ rfl rfl rfl rfl hky hfd) ?_
    simp only [List.set_cons_zero]
    repeat' (first | ((first | refine o1 rfl ?_ | refine o0 rfl ?_); intro k hk; simp (disch := omega) only [ev0, sl_cells, simprocAttr]; refine hk _ _ ?_; clear hk k) | refine ono rfl ?_ | ((first | refine osplitG rfl (fun h => ?_) (fun h => ?_) | refine osplitB rfl (fun h => ?_) (fun h => ?_)) <;> (fail_if_success (simp only [eq_self, reduceCtorEq] at h))) | refine onx ?_ | refine onb ?_ | refine sreg ?_ | refine qT rfl ?_ | refine qF rfl ?_ | refine scondT rfl ?_ | refine scondF rfl ?_ | refine ocondP rfl (fun h => ?_) (fun h => ?_) | refine ocondB rfl (fun h => ?_) (fun h => ?_) | refine scondP rfl (fun h => ?_) (fun h => ?_) | refine scond rfl (fun h => ?_) (fun h => ?_) | refine oskip ?_ | refine oskipb ?_ | refine oret ?_ | refine sem_ret ?_ | refine sem_seq ?_ | refine sreg1 ?_)
    exact ⟨_, rfl, rfl, rfl, by simp⟩
  · have hke : keepE t es y f c = es := by unfold keepE; rw [hfd]
    rw [hke]
    repeat' (first | ((first | refine o1 rfl ?_ | refine o0 rfl ?_); intro k hk; simp (disch := omega) only [ev0, sl_cells, simprocAttr]; refine hk _ _ ?_; clear hk k) | refine ono rfl ?_ | ((first | refine osplitG rfl (fun h => ?_) (fun h => ?_) | refine osplitB rfl (fun h => ?_) (fun h => ?_)) <;> (fail_if_success (simp only [eq_self, reduceCtorEq] at h))) | refine onx ?_ | refine onb ?_ | refine sreg ?_ | refine qT rfl ?_ | refine qF rfl ?_ | refine scondT rfl ?_ | refine scondF rfl ?_ | refine ocondP rfl (fun h => ?_) (fun h => ?_) | refine ocondB rfl (fun h => ?_) (fun h => ?_) | refine scondP rfl (fun h => ?_) (fun h => ?_) | refine scond rfl (fun h => ?_) (fun h => ?_) | refine oskip ?_ | refine oskipb ?_ | refine oret ?_ | refine sem_ret ?_ | refine sem_seq ?_ | refine sreg1 ?_)
    ((refine sem_mgo 10 hmix (by kernel_rfl) ?_; simp only [List.take_succ_cons, List.take_zero, List.drop_succ_cons, List.drop_zero, List.take_nil, List.drop_nil]); (repeat' (first | ((first | apply mop | apply mop0); (case hg => rfl); (case hq => rfl); intro k hk; simp (disch := omega) only [ev0, sl_cells, simprocAttr]; refine hk _ _ rfl ?_; clear hk k) | (apply mno; (case hg => rfl)) | (apply mbox; (case hx => (simp only [wv, simprocAttr] <;> rfl)); (case hg => rfl); (case hall => rfl); (case hr => rfl); simp only [cellsOf, List.length_cons, List.length_nil, Nat.reduceAdd, Nat.zero_add, List.nil_append, List.cons_append, List.set_cons_zero, List.set_cons_succ, chunks, List.take_succ_cons, List.take_zero, List.drop_succ_cons, List.drop_zero]) | (apply mbldS; (case hb => (simp (disch := omega) only [ev0, sl_cells, simprocAttr] <;> rfl)); (case hg => rfl); (case hr => rfl); simp only [cellsOf, List.length_cons, List.length_nil, Nat.reduceAdd, Nat.zero_add, List.nil_append, List.cons_append, List.set_cons_zero, List.set_cons_succ, chunks, List.take_succ_cons, List.take_zero, List.drop_succ_cons, List.drop_zero]) | ((first | (apply msto (q := 0); (case hq => rfl)) | (apply msto (q := 1); (case hq => rfl)) | (apply msto (q := 2); (case hq => rfl)) | (apply msto (q := 3); (case hq => rfl))); (case hx => (simp only [wv, simprocAttr] <;> rfl)); (case haddr => (simp only [wv, simprocAttr] <;> rfl)); (case hg => rfl); (case hl1 => rfl); (case hl2 => rfl); (case hok => rfl); (case hr => rfl); simp only [cellsOf, List.length_cons, List.length_nil, Nat.reduceAdd, Nat.zero_add, List.nil_append, List.cons_append, List.set_cons_zero, List.set_cons_succ, chunks, List.take_succ_cons, List.take_zero, List.drop_succ_cons, List.drop_zero]) | (apply mnil; simp only [SlotR.fin, List.map_cons, List.map_nil, List.cons_append, List.nil_append, List.append_nil]) | (refine msplit rfl (fun h => ?_) (fun h => ?_) <;> simp only [h] <;> (try simp only [Bool.not_eq_true', Bool.not_eq_false', decide_eq_true_eq, decide_eq_false_iff_not] at h)))) <;> (repeat' (first | ((first | refine o1 rfl ?_ | refine o0 rfl ?_); intro k hk; simp (disch := omega) only [ev0, sl_cells, simprocAttr]; refine hk _ _ ?_; clear hk k) | refine ono rfl ?_ | ((first | refine osplitG rfl (fun h => ?_) (fun h => ?_) | refine osplitB rfl (fun h => ?_) (fun h => ?_)) <;> (fail_if_success (simp only [eq_self, reduceCtorEq] at h))) | refine onx ?_ | refine onb ?_ | refine sreg ?_ | refine qT rfl ?_ | refine qF rfl ?_ | refine scondT rfl ?_ | refine scondF rfl ?_ | refine ocondP rfl (fun h => ?_) (fun h => ?_) | refine ocondB rfl (fun h => ?_) (fun h => ?_) | refine scondP rfl (fun h => ?_) (fun h => ?_) | refine scond rfl (fun h => ?_) (fun h => ?_) | refine oskip ?_ | refine oskipb ?_ | refine oret ?_ | refine sem_ret ?_ | refine sem_seq ?_ | refine sreg1 ?_)))
    refine mopV rfl rfl (lookQ_hit rfl rfl rfl hky hfd) rfl ?_
    repeat' (first | ((first | apply mop | apply mop0); (case hg => rfl); (case hq => rfl); intro k hk; simp (disch := omega) only [ev0, sl_cells, simprocAttr]; refine hk _ _ rfl ?_; clear hk k) | (apply mno; (case hg => rfl)) | (apply mbox; (case hx => (simp only [wv, simprocAttr] <;> rfl)); (case hg => rfl); (case hall => rfl); (case hr => rfl); simp only [cellsOf, List.length_cons, List.length_nil, Nat.reduceAdd, Nat.zero_add, List.nil_append, List.cons_append, List.set_cons_zero, List.set_cons_succ, chunks, List.take_succ_cons, List.take_zero, List.drop_succ_cons, List.drop_zero]) | (apply mbldS; (case hb => (simp (disch := omega) only [ev0, sl_cells, simprocAttr] <;> rfl)); (case hg => rfl); (case hr => rfl); simp only [cellsOf, List.length_cons, List.length_nil, Nat.reduceAdd, Nat.zero_add, List.nil_append, List.cons_append, List.set_cons_zero, List.set_cons_succ, chunks, List.take_succ_cons, List.take_zero, List.drop_succ_cons, List.drop_zero]) | ((first | (apply msto (q := 0); (case hq => rfl)) | (apply msto (q := 1); (case hq => rfl)) | (apply msto (q := 2); (case hq => rfl)) | (apply msto (q := 3); (case hq => rfl))); (case hx => (simp only [wv, simprocAttr] <;> rfl)); (case haddr => (simp only [wv, simprocAttr] <;> rfl)); (case hg => rfl); (case hl1 => rfl); (case hl2 => rfl); (case hok => rfl); (case hr => rfl); simp only [cellsOf, List.length_cons, List.length_nil, Nat.reduceAdd, Nat.zero_add, List.nil_append, List.cons_append, List.set_cons_zero, List.set_cons_succ, chunks, List.take_succ_cons, List.take_zero, List.drop_succ_cons, List.drop_zero]) | (apply mnil; simp only [SlotR.fin, List.map_cons, List.map_nil, List.cons_append, List.nil_append, List.append_nil]) | (refine msplit rfl (fun h => ?_) (fun h => ?_) <;> simp only [h] <;> (try simp only [Bool.not_eq_true', Bool.not_eq_false', decide_eq_true_eq, decide_eq_false_iff_not] at h)))
    repeat' (first | ((first | refine o1 rfl ?_ | refine o0 rfl ?_); intro k hk; simp (disch := omega) only [ev0, sl_cells, simprocAttr]; refine hk _ _ ?_; clear hk k) | refine ono rfl ?_ | ((first | refine osplitG rfl (fun h => ?_) (fun h => ?_) | refine osplitB rfl (fun h => ?_) (fun h => ?_)) <;> (fail_if_success (simp only [eq_self, reduceCtorEq] at h))) | refine onx ?_ | refine onb ?_ | refine sreg ?_ | refine qT rfl ?_ | refine qF rfl ?_ | refine scondT rfl ?_ | refine scondF rfl ?_ | refine ocondP rfl (fun h => ?_) (fun h => ?_) | refine ocondB rfl (fun h => ?_) (fun h => ?_) | refine scondP rfl (fun h => ?_) (fun h => ?_) | refine scond rfl (fun h => ?_) (fun h => ?_) | refine oskip ?_ | refine oskipb ?_ | refine oret ?_ | refine sem_ret ?_ | refine sem_seq ?_ | refine sreg1 ?_)
    exact ⟨_, rfl, rfl, rfl, by simp⟩
end Go.Proofs.Ytnempffajbdneaa

/- What a call leaves beside what it was given, dropped; calls over what was bought, placed anywhere. -/
set_option linter.unusedVariables false
set_option linter.unusedSimpArgs false
namespace Go.Av
open Go.RowKit Go.Tk
section rules
variable {K : Ctx} {μ : List AObj}
theorem ACalls.imp {f : Nat} {args : List AV} {R R' : AEnd → List AObj → Prop} (h : ACalls K f args μ R) (hR : ∀ ae ν, R ae ν → R' ae ν) : ACalls K f args μ R' :=
  ⟨h.1, fun ρ S w vs a b c => (h.2 ρ S w vs a b c).mono fun e w' ⟨ae, μ', ρ', S', r1, r2, r3, r4⟩ => ⟨ae, μ', ρ', S', hR _ _ r1, r2, r3, r4⟩⟩
/-- A contract whose end is one value and one memory, placed anywhere. -/
theorem ACalls.placed1 {f : Nat} {args args2 : List AV} {μ2 ν ν2 : List AObj} {x x2 : AV} (el : List Nat) (h : ACalls K f args μ fun ae ν' => ae = .ret x ∧ ν' = ν) (hok : placeOK el μ2 = true)
    (hμ : el.map (fun j => renO (backOf el) (μ2.getD j .gone)) = μ) (ha : renL (backOf el) args2 = args) (hain : inL (fun i => el.contains i) args2 = true) (hx : renA (posOf el μ2.length) x = x2) (hν : putL el μ2 ν = ν2) :
    ACalls K f args2 μ2 fun ae ν' => ae = .ret x2 ∧ ν' = ν2 := (h.placed el hok hμ ha hain).imp fun ae ν' hr => by
  obtain ⟨_, _, ⟨rfl, rfl⟩, rfl, rfl⟩ := hr
  exact ⟨by rw [← hx]; rfl, hν⟩
theorem ACalls.dropE {f : Nat} {args : List AV} {R : AV → List AObj → Prop} (h : ACalls K f args μ fun ae μ' => ∃ x, R x (μ'.take μ.length) ∧ ae = .ret x ∧ μ.length ≤ μ'.length) (hR : ∀ x ν, R x ν → refA μ.length x = true ∧ refM μ.length ν = true) :
    ACalls K f args μ fun ae μ' => ∃ x, R x μ' ∧ ae = .ret x := by
  refine ⟨h.1, fun ρ S w vs hm hl hv => (h.2 ρ S w vs hm hl hv).mono ?_⟩
  rintro e w' ⟨ae, μ', ρ', S', ⟨x, hRx, rfl, hle⟩, r2, r3, r4⟩
  obtain ⟨hx, hν⟩ := hR _ _ hRx
  cases e <;> simp only [EndRel] at r2
  refine ⟨.ret x, _, ρ', S', ⟨x, hRx, rfl⟩, r2.take hx, r3.take hle hν, r4.sub, r4.blk, fun id o ho => ?_, r4.size, r4.col, fun b hlt h1 h2 => ?_⟩
  · obtain ⟨o', h1, h2⟩ := r4.obj id o ho
    exact ⟨o', by rw [List.getElem?_take, if_pos (List.getElem?_eq_some_iff.1 ho).1]; exact h1, h2⟩
  · obtain ⟨a1, a2, a3⟩ := r4.fr b hlt h1 h2
    exact ⟨a1, a2, a3.take⟩
/-- A call over what was bought, placed anywhere. -/
theorem bought_at {f m : Nat} {args args2 : List AV} {t : CoolTown} {es : ES} {R : AEnd → ES → Prop} (h : ACalls K f args (buyM t m es) fun ae ν => ∃ es', R ae es' ∧ ν = buyM t m es') (hR : ∀ ae es', R ae es' → boolE es' ∧ ∀ g, renEnd g ae = ae)
    (hbe : boolE es) {μ2 : List AObj} {p q : Nat} (hpq : p ≠ q) (hp : μ2[p]? = some (.map es)) (hq : μ2[q]? = some (.row 96 0 4 [[slOf CoolHouse.cs t.houses, slOf CoolSite.cs t.sites, I m, .mp p]]))
    (ha : renL (backOf [p, q]) args2 = args) (hain : inL (fun i => [p, q].contains i) args2 = true) :
    ACalls K f args2 μ2 fun ae ν => ∃ es', R ae es' ∧ ν = μ2.set p (.map es') := by
  have hpl := (List.getElem?_eq_some_iff.1 hp).1
  have hql := (List.getElem?_eq_some_iff.1 hq).1
  have hpg : μ2.getD p .gone = .map es := by simp [List.getD, hp]
  have hqg : μ2.getD q .gone = .row 96 0 4 [[slOf CoolHouse.cs t.houses, slOf CoolSite.cs t.sites, I m, .mp p]] := by simp [List.getD, hq]
  have b0 : backOf [p, q] p = 0 := by simp [backOf]
  have b1 : backOf [p, q] q = 1 := by simp [backOf, List.idxOf_cons, beq_eq_false_iff_ne.2 hpq]
  refine (h.placed (μ2 := μ2) (args2 := args2) [p, q] ?_ ?_ ha hain).imp fun ae ν hr => ?_
  · simp only [placeOK, Bool.and_eq_true, decide_eq_true_eq, List.all_cons, List.all_nil, hpg, hqg, inO, inL, inA, hbe.inn, slOf]
    simp [hpq, hpl, hql]
  · simp only [List.map_cons, List.map_nil, hpg, hqg, renO, renL, renA, hbe.ren, b0, slOf]
    rfl
  · obtain ⟨ae1, ν1, ⟨es', hr1, rfl⟩, rfl, rfl⟩ := hr
    obtain ⟨hb', he⟩ := hR _ _ hr1
    refine ⟨es', by rw [he]; exact hr1, ?_⟩
    apply List.ext_getElem?
    intro j
    unfold putL
    rw [show (buyM t m es').drop [p, q].length = [] from rfl, List.map_nil, List.append_nil, List.getElem?_map]
    by_cases hj : j < μ2.length
    · rw [List.getElem?_range hj, Option.map_some]
      by_cases e1 : j = p
      · subst e1
        rw [List.getElem?_set_self hj]
        simp only [List.contains_cons, BEq.rfl, Bool.true_or, if_true, b0]
        simp only [List.getD_cons_zero, renO, hb'.ren]
      · rw [List.getElem?_set_ne (Ne.symm e1)]
        by_cases e2 : j = q
        · subst e2
          have hc : ([p, j].contains j) = true := by simp
          rw [if_pos hc, b1, hq]
          rfl
        · have hc : ¬ ([p, q].contains j) = true := by simp [e1, e2]
          rw [if_neg hc, List.getElem?_eq_getElem hj]
          simp [List.getD, hj]
    · rw [List.getElem?_eq_none (by simpa using hj), List.getElem?_eq_none (by simpa using hj)]
      rfl
end rules
end Go.Av

/- A town with coolers that are bought; whether a list is an order of them. -/
set_option linter.unusedVariables false
set_option linter.unusedSimpArgs false
set_option maxRecDepth 8000
set_option maxHeartbeats 2000000
namespace Go.Tk
open Go Go.Av
def idxJ (l : List Int) (x : Int) : Int := if x ∈ l then (l.idxOf x : Int) else -1
theorem idxOf_at {x : Int} : ∀ {l : List Int} {i : Nat}, i < l.length → l.getD i default = x → (∀ j, j < i → l.getD j default ≠ x) → l.idxOf x = i
  | [], i, h, _, _ => absurd h (Nat.not_lt_zero _)
  | a :: l, 0, _, h, _ => by
    have : a = x := h
    subst this
    simp
  | a :: l, i + 1, h, h2, h3 => by
    have h0 : a ≠ x := h3 0 (Nat.succ_pos _)
    rw [List.idxOf_cons, show (a == x) = false from beq_eq_false_iff_ne.2 h0]
    simp only [cond_false]
    rw [idxOf_at (l := l) (i := i) (by simpa using h) h2 fun j hj => h3 (j + 1) (by omega)]
abbrev givM (t : CoolTown) (m : Nat) : List AObj := [.row 25 0 2 [t.cs], .row 25 0 2 [t.cs], .map [], .row 96 0 4 [[slOf CoolHouse.cs t.houses, slOf CoolSite.cs t.sites, I m, .mp 2]]]
theorem setB_has {n : Nat} {b : List Int} (hb : coolersOk n b) {i : Nat} : (setB b).testBit i = true ↔ (i : Int) ∈ b := setB_bit fun x hx => (hb.mem x hx).1
end Go.Tk
namespace Go.Proofs.Ytnempffajbdneaa
open Go Go.Av Go.Tk
attribute [local irreducible] Holds sem semL ACalls FnIs
section
variable {G : World → Prop} (hG : ∀ w w', G w → RowKit.Below w.heap.size w w' → G w')
include hG
theorem slices_Index (l : List Int) (x : Int) (hl : l.length ≤ 1000) : Holds Try.prog G F.slices_Index_int [slOf intCs l, I x] (I (idxJ l x)) := by
  (refine holds_of_sem hG fn_slices_Index_int (by simp) fun w0 S0 hG0 D0 => ?_; unfold c_slices_Index_int cval enterEnv; simp only [List.zipIdx_cons, List.zipIdx_nil, List.map_cons, List.map_nil, Nat.zero_add, Nat.reduceAdd])
  repeat' (first | ((first | refine o1 rfl ?_ | refine o0 rfl ?_); intro k hk; simp (disch := omega) only [ev0, sl_cells, simprocAttr, slOf]; refine hk _ _ ?_; clear hk k) | refine ono rfl ?_ | ((first | refine osplitG rfl (fun h => ?_) (fun h => ?_) | refine osplitB rfl (fun h => ?_) (fun h => ?_)) <;> (fail_if_success (simp only [eq_self, reduceCtorEq] at h))) | refine onx ?_ | refine onb ?_ | refine sreg ?_ | refine qT rfl ?_ | refine qF rfl ?_ | refine scondT rfl ?_ | refine scondF rfl ?_ | refine ocondP rfl (fun h => ?_) (fun h => ?_) | refine ocondB rfl (fun h => ?_) (fun h => ?_) | refine scondP rfl (fun h => ?_) (fun h => ?_) | refine scond rfl (fun h => ?_) (fun h => ?_) | refine oskip ?_ | refine oskipb ?_ | refine oret ?_ | refine sem_ret ?_ | refine sem_seq ?_ | refine sreg1 ?_)
  refine sem_block ?_
  
  refine sem_loop (α := Nat) (fun i => ⟨[(0, slOf intCs l), (1, I x), (7, I l.length), (8, I i)], []⟩) (fun i => i ≤ l.length ∧ ∀ j, j < i → l.getD j default ≠ x) (fun i => l.length - i) 0 ⟨Nat.zero_le _, fun j hj => absurd hj (Nat.not_lt_zero _)⟩ ?_ ?_
  · (refine Le.same ?_; simp only [List.forall_mem_cons, List.forall_mem_nil, getE, selE, Nat.reduceBEq, List.not_mem_nil, false_implies, implies_true, and_true, true_and, and_self])
    simp [slOf]
  · rintro i ⟨hi, hall⟩
    repeat' (first | ((first | refine o1 rfl ?_ | refine o0 rfl ?_); intro k hk; simp (disch := omega) only [ev0, sl_cells, simprocAttr, slOf]; refine hk _ _ ?_; clear hk k) | refine ono rfl ?_ | ((first | refine osplitG rfl (fun h => ?_) (fun h => ?_) | refine osplitB rfl (fun h => ?_) (fun h => ?_)) <;> (fail_if_success (simp only [eq_self, reduceCtorEq] at h))) | refine onx ?_ | refine onb ?_ | refine sreg ?_ | refine qT rfl ?_ | refine qF rfl ?_ | refine scondT rfl ?_ | refine scondF rfl ?_ | refine ocondP rfl (fun h => ?_) (fun h => ?_) | refine ocondB rfl (fun h => ?_) (fun h => ?_) | refine scondP rfl (fun h => ?_) (fun h => ?_) | refine scond rfl (fun h => ?_) (fun h => ?_) | refine oskip ?_ | refine oskipb ?_ | refine oret ?_ | refine sem_ret ?_ | refine sem_seq ?_ | refine sreg1 ?_)
    · have hi' : i < l.length := by omega
      refine sem_block ?_
      by_cases e : x = l.getD i default
      · repeat' (first | ((first | refine o1 rfl ?_ | refine o0 rfl ?_); intro k hk; simp (disch := omega) only [ev0, sl_cells, simprocAttr, slOf, intCs, e, eq_self]; refine hk _ _ ?_; clear hk k) | refine ono rfl ?_ | ((first | refine osplitG rfl (fun h => ?_) (fun h => ?_) | refine osplitB rfl (fun h => ?_) (fun h => ?_)) <;> (fail_if_success (simp only [eq_self, reduceCtorEq] at h))) | refine onx ?_ | refine onb ?_ | refine sreg ?_ | refine qT rfl ?_ | refine qF rfl ?_ | refine scondT rfl ?_ | refine scondF rfl ?_ | refine ocondP rfl (fun h => ?_) (fun h => ?_) | refine ocondB rfl (fun h => ?_) (fun h => ?_) | refine scondP rfl (fun h => ?_) (fun h => ?_) | refine scond rfl (fun h => ?_) (fun h => ?_) | refine oskip ?_ | refine oskipb ?_ | refine oret ?_ | refine sem_ret ?_ | refine sem_seq ?_ | refine sreg1 ?_)
        rw [show idxJ l x = i by
          unfold idxJ
          rw [if_pos (by rw [e, getD_lt hi']; exact List.getElem_mem _), idxOf_at hi' e.symm hall]]
        exact ⟨_, rfl, _, rfl, tree_eq rfl rfl⟩
      · repeat' (first | ((first | refine o1 rfl ?_ | refine o0 rfl ?_); intro k hk; simp (disch := omega) only [ev0, sl_cells, simprocAttr, slOf, intCs, e]; refine hk _ _ ?_; clear hk k) | refine ono rfl ?_ | ((first | refine osplitG rfl (fun h => ?_) (fun h => ?_) | refine osplitB rfl (fun h => ?_) (fun h => ?_)) <;> (fail_if_success (simp only [eq_self, reduceCtorEq] at h))) | refine onx ?_ | refine onb ?_ | refine sreg ?_ | refine qT rfl ?_ | refine qF rfl ?_ | refine scondT rfl ?_ | refine scondF rfl ?_ | refine ocondP rfl (fun h => ?_) (fun h => ?_) | refine ocondB rfl (fun h => ?_) (fun h => ?_) | refine scondP rfl (fun h => ?_) (fun h => ?_) | refine scond rfl (fun h => ?_) (fun h => ?_) | refine oskip ?_ | refine oskipb ?_ | refine oret ?_ | refine sem_ret ?_ | refine sem_seq ?_ | refine sreg1 ?_)
        refine onil (lnext (i + 1) ⟨by omega, fun j hj => ?_⟩ (by omega) ?_)
        · by_cases e2 : j = i
          · subst e2; exact Ne.symm e
          · exact hall j (by omega)
        · (refine Le.same ?_; simp only [List.forall_mem_cons, List.forall_mem_nil, getE, selE, Nat.reduceBEq, List.not_mem_nil, false_implies, implies_true, and_true, true_and, and_self])
          simp [slOf]
    · have hi' : i = l.length := by omega
      subst hi'
      (refine sem_exit ?_; change sem _ _ _ _ _)
      repeat' (first | ((first | refine o1 rfl ?_ | refine o0 rfl ?_); intro k hk; simp (disch := omega) only [ev0, sl_cells, simprocAttr]; refine hk _ _ ?_; clear hk k) | refine ono rfl ?_ | ((first | refine osplitG rfl (fun h => ?_) (fun h => ?_) | refine osplitB rfl (fun h => ?_) (fun h => ?_)) <;> (fail_if_success (simp only [eq_self, reduceCtorEq] at h))) | refine onx ?_ | refine onb ?_ | refine sreg ?_ | refine qT rfl ?_ | refine qF rfl ?_ | refine scondT rfl ?_ | refine scondF rfl ?_ | refine ocondP rfl (fun h => ?_) (fun h => ?_) | refine ocondB rfl (fun h => ?_) (fun h => ?_) | refine scondP rfl (fun h => ?_) (fun h => ?_) | refine scond rfl (fun h => ?_) (fun h => ?_) | refine oskip ?_ | refine oskipb ?_ | refine oret ?_ | refine sem_ret ?_ | refine sem_seq ?_ | refine sreg1 ?_)
      rw [show idxJ l x = -1 from if_neg fun hm => by
        obtain ⟨j, hj, hx⟩ := List.mem_iff_getElem.1 hm
        exact hall j hj (by rw [getD_lt hj]; exact hx)]
      exact ⟨_, rfl, _, rfl, tree_eq rfl rfl⟩
theorem slices_Contains (l : List Int) (x : Int) (hl : l.length ≤ 1000) : Holds Try.prog G F.slices_Contains_int [slOf intCs l, I x] (B (decide (x ∈ l))) := by
  (refine holds_of_sem hG fn_slices_Contains_int (by simp) fun w0 S0 hG0 D0 => ?_; unfold c_slices_Contains_int cval enterEnv; simp only [List.zipIdx_cons, List.zipIdx_nil, List.map_cons, List.map_nil, Nat.zero_add, Nat.reduceAdd])
  repeat' (first | ((first | refine o1 rfl ?_ | refine o0 rfl ?_); intro k hk; simp (disch := omega) only [ev0, sl_cells, simprocAttr]; refine hk _ _ ?_; clear hk k) | refine ono rfl ?_ | (apply ocall; (case he => (simp only [ev0, sl_cells, simprocAttr] <;> rfl)); (case hc => first | exact slices_Index hG l x hl); (case ht => rfl); (case hg => rfl)) | ((first | refine osplitG rfl (fun h => ?_) (fun h => ?_) | refine osplitB rfl (fun h => ?_) (fun h => ?_)) <;> (fail_if_success (simp only [eq_self, reduceCtorEq] at h))) | refine onx ?_ | refine onb ?_ | refine sreg ?_ | refine qT rfl ?_ | refine qF rfl ?_ | refine scondT rfl ?_ | refine scondF rfl ?_ | refine ocondP rfl (fun h => ?_) (fun h => ?_) | refine ocondB rfl (fun h => ?_) (fun h => ?_) | refine scondP rfl (fun h => ?_) (fun h => ?_) | refine scond rfl (fun h => ?_) (fun h => ?_) | refine oskip ?_ | refine oskipb ?_ | refine oret ?_ | refine sem_ret ?_ | refine sem_seq ?_ | refine sreg1 ?_)
  by_cases e : x ∈ l
  · rw [show idxJ l x = (l.idxOf x : Int) from if_pos e]
    simp only [e, Int.natCast_nonneg, decide_true]
    exact ⟨_, rfl, _, rfl, tree_eq rfl rfl⟩
  · rw [show idxJ l x = -1 from if_neg e]
    simp only [e, decide_false]
    exact ⟨_, rfl, _, rfl, tree_eq rfl rfl⟩
theorem contains_take (l : List Int) (i : Nat) (hi : i ≤ l.length) (hl : l.length ≤ 1000) (x : Int) : Holds Try.prog G F.slices_Contains_int [.sl i fun j => intCs (l.getD j default), I x] (B (decide (x ∈ l.take i))) :=
  (slices_Contains hG (l.take i) x (by rw [List.length_take]; omega)).conv rfl fun k x' x0 h1 h2 S w v hv => by
    match k, h1, h2 with
    | 0, h1, h2 => cases h1; cases h2; exact sl_take hi _ _ _ hv
    | 1, h1, h2 => cases h1; cases h2; exact hv
    | k + 2, h1, h2 => simp at h1
end
variable {K : Ctx} (hP : K.P = Try.prog) (hGK : ∀ w w', K.G w → RowKit.Below w.heap.size w w' → K.G w')
include hP hGK
theorem cool_buy (t : CoolTown) (m : Nat) : ACalls K F.cool_buy [.agg t.cs, I m] [] fun ae ν => ae = .ret (.ptr 2 0 4 0 0) ∧ ν = [.row 25 0 2 [t.cs], .map [], .row 96 0 4 [[slOf CoolHouse.cs t.houses, slOf CoolSite.cs t.sites, I m, .mp 1]]] := by
  obtain ⟨P, w0, S0, G, hG0⟩ := K
  simp only at hP hGK
  subst hP
  refine acalls_of_sem fn_cool_buy (by simp) fun D => ?_
  unfold c_cool_buy cval enterEnv
  simp only [List.zipIdx_cons, List.zipIdx_nil, List.map_cons, List.map_nil, Nat.zero_add, Nat.reduceAdd]
  repeat' (first | ((first | refine o1 rfl ?_ | refine o0 rfl ?_); intro k hk; simp (disch := omega) only [ev0, sl_cells, simprocAttr, CoolTown.cs]; refine hk _ _ ?_; clear hk k) | refine ono rfl ?_ | ((first | refine osplitG rfl (fun h => ?_) (fun h => ?_) | refine osplitB rfl (fun h => ?_) (fun h => ?_)) <;> (fail_if_success (simp only [eq_self, reduceCtorEq] at h))) | refine onx ?_ | refine onb ?_ | refine sreg ?_ | refine qT rfl ?_ | refine qF rfl ?_ | refine scondT rfl ?_ | refine scondF rfl ?_ | refine ocondP rfl (fun h => ?_) (fun h => ?_) | refine ocondB rfl (fun h => ?_) (fun h => ?_) | refine scondP rfl (fun h => ?_) (fun h => ?_) | refine scond rfl (fun h => ?_) (fun h => ?_) | refine oskip ?_ | refine oskipb ?_ | refine oret ?_ | refine sem_ret ?_ | refine sem_seq ?_ | refine sreg1 ?_)
  exact ⟨_, rfl, rfl, rfl⟩
theorem cool_given (t : CoolTown) (hs : t.short) (l : List Int) (hl : l.length ≤ 1000) (fine : Bool) :
    ACalls K F.cool_given [.agg t.cs, slOf intCs l, B fine] [] fun ae ν => if t.ok ∧ fine = true ∧ coolersOk t.sites.length l then ae = .ret (.tup [.ptr 3 0 4 0 0, I 0]) ∧ ν = givM t (setB l) else ae = .ret (.tup [.nilp, I 2]) ∧ ν = [.row 25 0 2 [t.cs]] := by
  have hbu := (cool_buy hP hGK t (setB l)).placed1 (μ2 := [.row 25 0 2 [t.cs]]) (args2 := [.agg t.cs, I (setB l)]) (x2 := .ptr 3 0 4 0 0) (ν2 := givM t (setB l)) [] rfl rfl rfl rfl rfl rfl
  have hbits := fun (h : t.ok) => cool_bits hGK t h.2.1.2 l hl
  have hval := cool_valid hGK t hs
  obtain ⟨P, w0, S0, G, hG0⟩ := K
  simp only at hP hGK
  subst hP
  refine acalls_of_sem fn_cool_given (by simp) fun D => ?_
  unfold c_cool_given cval enterEnv
  simp only [List.zipIdx_cons, List.zipIdx_nil, List.map_cons, List.map_nil, Nat.zero_add, Nat.reduceAdd]
  by_cases hok : t.ok
  · replace hbits := hbits hok
    by_cases hc : coolersOk t.sites.length l
    · rw [if_pos hc] at hbits
      cases fine with
      | false =>
        repeat' (first | ((first | refine o1 rfl ?_ | refine o0 rfl ?_); intro k hk; simp (disch := omega) only [ev0, sl_cells, simprocAttr, hok, decide_true]; refine hk _ _ ?_; clear hk k) | refine ono rfl ?_ | (apply ocall; (case he => (simp only [ev0, sl_cells, simprocAttr] <;> rfl)); (case hc => first | exact hval); (case ht => rfl); (case hg => rfl)) | ((first | refine osplitG rfl (fun h => ?_) (fun h => ?_) | refine osplitB rfl (fun h => ?_) (fun h => ?_)) <;> (fail_if_success (simp only [eq_self, reduceCtorEq] at h))) | refine onx ?_ | refine onb ?_ | refine sreg ?_ | refine qT rfl ?_ | refine qF rfl ?_ | refine scondT rfl ?_ | refine scondF rfl ?_ | refine ocondP rfl (fun h => ?_) (fun h => ?_) | refine ocondB rfl (fun h => ?_) (fun h => ?_) | refine scondP rfl (fun h => ?_) (fun h => ?_) | refine scond rfl (fun h => ?_) (fun h => ?_) | refine oskip ?_ | refine oskipb ?_ | refine oret ?_ | refine sem_ret ?_ | refine sem_seq ?_ | refine sreg1 ?_)
        refine ⟨_, rfl, ?_⟩
        dsimp only
        rw [if_neg (fun q => by cases q.2.1)]
        exact ⟨rfl, rfl⟩
      | true =>
        repeat' (first | ((first | refine o1 rfl ?_ | refine o0 rfl ?_); intro k hk; simp (disch := omega) only [ev0, sl_cells, simprocAttr, hok, hc, decide_true]; refine hk _ _ ?_; clear hk k) | refine ono rfl ?_ | (apply ocall; (case he => (simp only [ev0, sl_cells, simprocAttr] <;> rfl)); (case hc => first | exact hval | exact hbits); (case ht => rfl); (case hg => rfl)) | ((first | refine osplitG rfl (fun h => ?_) (fun h => ?_) | refine osplitB rfl (fun h => ?_) (fun h => ?_)) <;> (fail_if_success (simp only [eq_self, reduceCtorEq] at h))) | refine onx ?_ | refine onb ?_ | refine sreg ?_ | refine qT rfl ?_ | refine qF rfl ?_ | refine scondT rfl ?_ | refine scondF rfl ?_ | refine ocondP rfl (fun h => ?_) (fun h => ?_) | refine ocondB rfl (fun h => ?_) (fun h => ?_) | refine scondP rfl (fun h => ?_) (fun h => ?_) | refine scond rfl (fun h => ?_) (fun h => ?_) | refine oskip ?_ | refine oskipb ?_ | refine oret ?_ | refine sem_ret ?_ | refine sem_seq ?_ | refine sreg1 ?_)
        refine semL_acall rfl (by exact hbu) fun ae μ hr => ?_
        obtain ⟨rfl, rfl⟩ := hr
        change semL _ _ _ ⟨(_, _) :: _, _⟩ _
        repeat' (first | ((first | refine o1 rfl ?_ | refine o0 rfl ?_); intro k hk; simp (disch := omega) only [ev0, sl_cells, simprocAttr]; refine hk _ _ ?_; clear hk k) | refine ono rfl ?_ | ((first | refine osplitG rfl (fun h => ?_) (fun h => ?_) | refine osplitB rfl (fun h => ?_) (fun h => ?_)) <;> (fail_if_success (simp only [eq_self, reduceCtorEq] at h))) | refine onx ?_ | refine onb ?_ | refine sreg ?_ | refine qT rfl ?_ | refine qF rfl ?_ | refine scondT rfl ?_ | refine scondF rfl ?_ | refine ocondP rfl (fun h => ?_) (fun h => ?_) | refine ocondB rfl (fun h => ?_) (fun h => ?_) | refine scondP rfl (fun h => ?_) (fun h => ?_) | refine scond rfl (fun h => ?_) (fun h => ?_) | refine oskip ?_ | refine oskipb ?_ | refine oret ?_ | refine sem_ret ?_ | refine sem_seq ?_ | refine sreg1 ?_)
        refine ⟨_, rfl, ?_⟩
        dsimp only
        rw [if_pos ⟨hok, rfl, hc⟩]
        exact ⟨rfl, rfl⟩
    · rw [if_neg hc] at hbits
      cases fine with
      | false =>
        repeat' (first | ((first | refine o1 rfl ?_ | refine o0 rfl ?_); intro k hk; simp (disch := omega) only [ev0, sl_cells, simprocAttr, hok, decide_true]; refine hk _ _ ?_; clear hk k) | refine ono rfl ?_ | (apply ocall; (case he => (simp only [ev0, sl_cells, simprocAttr] <;> rfl)); (case hc => first | exact hval); (case ht => rfl); (case hg => rfl)) | ((first | refine osplitG rfl (fun h => ?_) (fun h => ?_) | refine osplitB rfl (fun h => ?_) (fun h => ?_)) <;> (fail_if_success (simp only [eq_self, reduceCtorEq] at h))) | refine onx ?_ | refine onb ?_ | refine sreg ?_ | refine qT rfl ?_ | refine qF rfl ?_ | refine scondT rfl ?_ | refine scondF rfl ?_ | refine ocondP rfl (fun h => ?_) (fun h => ?_) | refine ocondB rfl (fun h => ?_) (fun h => ?_) | refine scondP rfl (fun h => ?_) (fun h => ?_) | refine scond rfl (fun h => ?_) (fun h => ?_) | refine oskip ?_ | refine oskipb ?_ | refine oret ?_ | refine sem_ret ?_ | refine sem_seq ?_ | refine sreg1 ?_)
        refine ⟨_, rfl, ?_⟩
        dsimp only
        rw [if_neg (fun q => by cases q.2.1)]
        exact ⟨rfl, rfl⟩
      | true =>
        repeat' (first | ((first | refine o1 rfl ?_ | refine o0 rfl ?_); intro k hk; simp (disch := omega) only [ev0, sl_cells, simprocAttr, hok, hc, decide_true, decide_false]; refine hk _ _ ?_; clear hk k) | refine ono rfl ?_ | (apply ocall; (case he => (simp only [ev0, sl_cells, simprocAttr] <;> rfl)); (case hc => first | exact hval | exact hbits); (case ht => rfl); (case hg => rfl)) | ((first | refine osplitG rfl (fun h => ?_) (fun h => ?_) | refine osplitB rfl (fun h => ?_) (fun h => ?_)) <;> (fail_if_success (simp only [eq_self, reduceCtorEq] at h))) | refine onx ?_ | refine onb ?_ | refine sreg ?_ | refine qT rfl ?_ | refine qF rfl ?_ | refine scondT rfl ?_ | refine scondF rfl ?_ | refine ocondP rfl (fun h => ?_) (fun h => ?_) | refine ocondB rfl (fun h => ?_) (fun h => ?_) | refine scondP rfl (fun h => ?_) (fun h => ?_) | refine scond rfl (fun h => ?_) (fun h => ?_) | refine oskip ?_ | refine oskipb ?_ | refine oret ?_ | refine sem_ret ?_ | refine sem_seq ?_ | refine sreg1 ?_)
        refine ⟨_, rfl, ?_⟩
        dsimp only
        rw [if_neg (fun q => hc q.2.2)]
        exact ⟨rfl, rfl⟩
  · repeat' (first | ((first | refine o1 rfl ?_ | refine o0 rfl ?_); intro k hk; simp (disch := omega) only [ev0, sl_cells, simprocAttr, hok, decide_false]; refine hk _ _ ?_; clear hk k) | refine ono rfl ?_ | (apply ocall; (case he => (simp only [ev0, sl_cells, simprocAttr] <;> rfl)); (case hc => first | exact hval); (case ht => rfl); (case hg => rfl)) | ((first | refine osplitG rfl (fun h => ?_) (fun h => ?_) | refine osplitB rfl (fun h => ?_) (fun h => ?_)) <;> (fail_if_success (simp only [eq_self, reduceCtorEq] at h))) | refine onx ?_ | refine onb ?_ | refine sreg ?_ | refine qT rfl ?_ | refine qF rfl ?_ | refine scondT rfl ?_ | refine scondF rfl ?_ | refine ocondP rfl (fun h => ?_) (fun h => ?_) | refine ocondB rfl (fun h => ?_) (fun h => ?_) | refine scondP rfl (fun h => ?_) (fun h => ?_) | refine scond rfl (fun h => ?_) (fun h => ?_) | refine oskip ?_ | refine oskipb ?_ | refine oret ?_ | refine sem_ret ?_ | refine sem_seq ?_ | refine sreg1 ?_)
    refine ⟨_, rfl, ?_⟩
    dsimp only
    rw [if_neg (fun q => hok q.1)]
    exact ⟨rfl, rfl⟩

theorem bought_ordered (t : CoolTown) (ht : t.ok) (b : List Int) (hb : coolersOk t.sites.length b) (es : ES) (o : List Int) (ho : o.length ≤ 1000) :
    ACalls K F.cool_bought_ordered [.ptr 1 0 4 0 0, slOf intCs o] (buyM t (setB b) es) fun ae ν => ae = .ret (B (decide (orderOk b o))) ∧ ν = buyM t (setB b) es := by
  have hmb := setB_lt hb.mem
  have hns := ht.2.1
  have hm2 : setB b < 1024 := Nat.lt_of_lt_of_le hmb (show 2 ^ t.sites.length ≤ 2 ^ 10 from Nat.pow_le_pow_right (by omega) ht.2.1.2)
  obtain ⟨P, w0, S0, G, hG0⟩ := K
  simp only at hP hGK
  subst hP
  refine acalls_of_sem fn_cool_bought_ordered (by simp) fun D => ?_
  unfold c_cool_bought_ordered cval enterEnv buyM
  simp only [List.zipIdx_cons, List.zipIdx_nil, List.map_cons, List.map_nil, Nat.zero_add, Nat.reduceAdd, List.cons_append, List.nil_append]
  repeat' (first | ((first | refine o1 rfl ?_ | refine o0 rfl ?_); intro k hk; simp (disch := omega) only [ev0, sl_cells, simprocAttr, slOf]; refine hk _ _ ?_; clear hk k) | refine ono rfl ?_ | ((first | refine osplitG rfl (fun h => ?_) (fun h => ?_) | refine osplitB rfl (fun h => ?_) (fun h => ?_)) <;> (fail_if_success (simp only [eq_self, reduceCtorEq] at h))) | refine onx ?_ | refine onb ?_ | refine sreg ?_ | refine qT rfl ?_ | refine qF rfl ?_ | refine scondT rfl ?_ | refine scondF rfl ?_ | refine ocondP rfl (fun h => ?_) (fun h => ?_) | refine ocondB rfl (fun h => ?_) (fun h => ?_) | refine scondP rfl (fun h => ?_) (fun h => ?_) | refine scond rfl (fun h => ?_) (fun h => ?_) | refine oskip ?_ | refine oskipb ?_ | refine oret ?_ | refine sem_ret ?_ | refine sem_seq ?_ | refine sreg1 ?_)
  refine sem_block ?_
  
  refine sem_loop (α := Nat) (fun i => ⟨[(0, .ptr 1 0 4 0 0), (1, slOf intCs o), (7, slOf intCs o), (8, I o.length), (9, I i)], buyM t (setB b) es⟩) (fun i => i ≤ o.length ∧ ∀ j, j < i → o.getD j default ∈ b ∧ o.getD j default ∉ o.take j) (fun i => o.length - i) 0 ⟨Nat.zero_le _, fun j hj => absurd hj (Nat.not_lt_zero _)⟩ ?_ ?_
  · (refine Le.same ?_; simp only [List.forall_mem_cons, List.forall_mem_nil, getE, selE, Nat.reduceBEq, List.not_mem_nil, false_implies, implies_true, and_true, true_and, and_self])
    simp [slOf]
  · rintro i ⟨hi, hall⟩
    repeat' (first | ((first | refine o1 rfl ?_ | refine o0 rfl ?_); intro k hk; simp (disch := omega) only [ev0, sl_cells, simprocAttr, slOf]; refine hk _ _ ?_; clear hk k) | refine ono rfl ?_ | ((first | refine osplitG rfl (fun h => ?_) (fun h => ?_) | refine osplitB rfl (fun h => ?_) (fun h => ?_)) <;> (fail_if_success (simp only [eq_self, reduceCtorEq] at h))) | refine onx ?_ | refine onb ?_ | refine sreg ?_ | refine qT rfl ?_ | refine qF rfl ?_ | refine scondT rfl ?_ | refine scondF rfl ?_ | refine ocondP rfl (fun h => ?_) (fun h => ?_) | refine ocondB rfl (fun h => ?_) (fun h => ?_) | refine scondP rfl (fun h => ?_) (fun h => ?_) | refine scond rfl (fun h => ?_) (fun h => ?_) | refine oskip ?_ | refine oskipb ?_ | refine oret ?_ | refine sem_ret ?_ | refine sem_seq ?_ | refine sreg1 ?_)
    · have hi' : i < o.length := by omega
      have hq := fun (hh : orderOk b o) => hh i hi'
      have hni : ∀ x, o.getD i default = x → (x ∉ b ∨ x ∈ o.take i) → decide (orderOk b o) = false := fun x hx hh => decide_eq_false fun q => by
        have := hq q
        rw [hx] at this
        rcases hh with hh | hh
        · exact hh this.1
        · exact this.2 hh
      generalize hov : o.getD i default = v at *
      have hct := contains_take hGK o i hi ho v
      have hin := cool_in hGK v 0 ((t.sites.length : Int) - 1)
      have hmi := hb.mem v
      refine sem_block ?_
      by_cases hv : 0 ≤ v ∧ v ≤ (t.sites.length : Int) - 1
      · obtain ⟨n, rfl⟩ := Int.eq_ofNat_of_zero_le hv.1
        have hhas := cool_set_has hGK (setB b) hm2 n (by have := ht.2.1.2; omega)
        have hsh := setB_has hb (i := n)
        by_cases hbm : (n : Int) ∈ b
        · have hbt : (setB b).testBit n = true := hsh.2 hbm
          by_cases hmm : (n : Int) ∈ o.take i
          · repeat' (first | ((first | refine o1 rfl ?_ | refine o0 rfl ?_); intro k hk; simp (disch := omega) only [ev0, sl_cells, simprocAttr, slOf, intCs, hov, hv, hbt, hmm, decide_true, and_self, range_all, Option.map_none, List.length_cons, List.length_nil, Nat.zero_add, Nat.sub_zero, eq_self]; refine hk _ _ ?_; clear hk k) | refine ono rfl ?_ | (apply ocall; (case he => (simp only [ev0, sl_cells, simprocAttr] <;> rfl)); (case hc => first | exact hct | exact hin | exact hhas); (case ht => rfl); (case hg => rfl)) | ((first | refine osplitG rfl (fun h => ?_) (fun h => ?_) | refine osplitB rfl (fun h => ?_) (fun h => ?_)) <;> (fail_if_success (simp only [eq_self, reduceCtorEq] at h))) | refine onx ?_ | refine onb ?_ | refine sreg ?_ | refine qT rfl ?_ | refine qF rfl ?_ | refine scondT rfl ?_ | refine scondF rfl ?_ | refine ocondP rfl (fun h => ?_) (fun h => ?_) | refine ocondB rfl (fun h => ?_) (fun h => ?_) | refine scondP rfl (fun h => ?_) (fun h => ?_) | refine scond rfl (fun h => ?_) (fun h => ?_) | refine oskip ?_ | refine oskipb ?_ | refine oret ?_ | refine sem_ret ?_ | refine sem_seq ?_ | refine sreg1 ?_)
            rw [hni _ rfl (.inr hmm)]
            exact ⟨_, rfl, rfl, rfl⟩
          · repeat' (first | ((first | refine o1 rfl ?_ | refine o0 rfl ?_); intro k hk; simp (disch := omega) only [ev0, sl_cells, simprocAttr, slOf, intCs, hov, hv, hbt, hmm, decide_true, decide_false, and_self, range_all, Option.map_none, List.length_cons, List.length_nil, Nat.zero_add, Nat.sub_zero, eq_self]; refine hk _ _ ?_; clear hk k) | refine ono rfl ?_ | (apply ocall; (case he => (simp only [ev0, sl_cells, simprocAttr] <;> rfl)); (case hc => first | exact hct | exact hin | exact hhas); (case ht => rfl); (case hg => rfl)) | ((first | refine osplitG rfl (fun h => ?_) (fun h => ?_) | refine osplitB rfl (fun h => ?_) (fun h => ?_)) <;> (fail_if_success (simp only [eq_self, reduceCtorEq] at h))) | refine onx ?_ | refine onb ?_ | refine sreg ?_ | refine qT rfl ?_ | refine qF rfl ?_ | refine scondT rfl ?_ | refine scondF rfl ?_ | refine ocondP rfl (fun h => ?_) (fun h => ?_) | refine ocondB rfl (fun h => ?_) (fun h => ?_) | refine scondP rfl (fun h => ?_) (fun h => ?_) | refine scond rfl (fun h => ?_) (fun h => ?_) | refine oskip ?_ | refine oskipb ?_ | refine oret ?_ | refine sem_ret ?_ | refine sem_seq ?_ | refine sreg1 ?_)
            refine onil (lnext (i + 1) ⟨by omega, fun j hj => ?_⟩ (by omega) ?_)
            · by_cases e : j = i
              · subst e; rw [hov]; exact ⟨hbm, hmm⟩
              · exact hall j (by omega)
            · (refine Le.same ?_; simp only [List.forall_mem_cons, List.forall_mem_nil, getE, selE, Nat.reduceBEq, List.not_mem_nil, false_implies, implies_true, and_true, true_and, and_self])
              simp [slOf]
        · have hbt : (setB b).testBit n = false := Bool.eq_false_iff.2 fun q => hbm (hsh.1 q)
          repeat' (first | ((first | refine o1 rfl ?_ | refine o0 rfl ?_); intro k hk; simp (disch := omega) only [ev0, sl_cells, simprocAttr, slOf, intCs, hov, hv, hbt, decide_true, and_self]; refine hk _ _ ?_; clear hk k) | refine ono rfl ?_ | (apply ocall; (case he => (simp only [ev0, sl_cells, simprocAttr] <;> rfl)); (case hc => first | exact hct | exact hin | exact hhas); (case ht => rfl); (case hg => rfl)) | ((first | refine osplitG rfl (fun h => ?_) (fun h => ?_) | refine osplitB rfl (fun h => ?_) (fun h => ?_)) <;> (fail_if_success (simp only [eq_self, reduceCtorEq] at h))) | refine onx ?_ | refine onb ?_ | refine sreg ?_ | refine qT rfl ?_ | refine qF rfl ?_ | refine scondT rfl ?_ | refine scondF rfl ?_ | refine ocondP rfl (fun h => ?_) (fun h => ?_) | refine ocondB rfl (fun h => ?_) (fun h => ?_) | refine scondP rfl (fun h => ?_) (fun h => ?_) | refine scond rfl (fun h => ?_) (fun h => ?_) | refine oskip ?_ | refine oskipb ?_ | refine oret ?_ | refine sem_ret ?_ | refine sem_seq ?_ | refine sreg1 ?_)
          rw [hni _ rfl (.inl hbm)]
          exact ⟨_, rfl, rfl, rfl⟩
      · repeat' (first | ((first | refine o1 rfl ?_ | refine o0 rfl ?_); intro k hk; simp (disch := omega) only [ev0, sl_cells, simprocAttr, slOf, intCs, hov, hv, decide_false]; refine hk _ _ ?_; clear hk k) | refine ono rfl ?_ | (apply ocall; (case he => (simp only [ev0, sl_cells, simprocAttr] <;> rfl)); (case hc => first | exact hct | exact hin); (case ht => rfl); (case hg => rfl)) | ((first | refine osplitG rfl (fun h => ?_) (fun h => ?_) | refine osplitB rfl (fun h => ?_) (fun h => ?_)) <;> (fail_if_success (simp only [eq_self, reduceCtorEq] at h))) | refine onx ?_ | refine onb ?_ | refine sreg ?_ | refine qT rfl ?_ | refine qF rfl ?_ | refine scondT rfl ?_ | refine scondF rfl ?_ | refine ocondP rfl (fun h => ?_) (fun h => ?_) | refine ocondB rfl (fun h => ?_) (fun h => ?_) | refine scondP rfl (fun h => ?_) (fun h => ?_) | refine scond rfl (fun h => ?_) (fun h => ?_) | refine oskip ?_ | refine oskipb ?_ | refine oret ?_ | refine sem_ret ?_ | refine sem_seq ?_ | refine sreg1 ?_)
        rw [hni _ rfl (.inl fun q => hv (by have := hmi q; omega))]
        exact ⟨_, rfl, rfl, rfl⟩
    · have hi' : i = o.length := by omega
      subst hi'
      (refine sem_exit ?_; change sem _ _ _ _ _)
      repeat' (first | ((first | refine o1 rfl ?_ | refine o0 rfl ?_); intro k hk; simp (disch := omega) only [ev0, sl_cells, simprocAttr]; refine hk _ _ ?_; clear hk k) | refine ono rfl ?_ | ((first | refine osplitG rfl (fun h => ?_) (fun h => ?_) | refine osplitB rfl (fun h => ?_) (fun h => ?_)) <;> (fail_if_success (simp only [eq_self, reduceCtorEq] at h))) | refine onx ?_ | refine onb ?_ | refine sreg ?_ | refine qT rfl ?_ | refine qF rfl ?_ | refine scondT rfl ?_ | refine scondF rfl ?_ | refine ocondP rfl (fun h => ?_) (fun h => ?_) | refine ocondB rfl (fun h => ?_) (fun h => ?_) | refine scondP rfl (fun h => ?_) (fun h => ?_) | refine scond rfl (fun h => ?_) (fun h => ?_) | refine oskip ?_ | refine oskipb ?_ | refine oret ?_ | refine sem_ret ?_ | refine sem_seq ?_ | refine sreg1 ?_)
      rw [decide_eq_true (show orderOk b o from hall)]
      exact ⟨_, rfl, rfl, rfl⟩
end Go.Proofs.Ytnempffajbdneaa

/- In which week each house is level again: a look at the houses. -/
set_option linter.unusedVariables false
set_option linter.unusedSimpArgs false
set_option maxRecDepth 8000
set_option maxHeartbeats 2000000
namespace Go.Tk
open Go Go.Av
/-- The memory of a reckoning of weeks. -/
abbrev aM (t : CoolTown) (m : Nat) (es : ES) (w : Nat) (L : List Int) (k : Int) : List AObj := [.map es, .row 96 0 4 [[slOf CoolHouse.cs t.houses, slOf CoolSite.cs t.sites, I m, .mp 0]], .row 90 0 1 [[.ptr 1 0 4 0 0]], .row 86 0 1 [[I w]], .row 3 0 1 (rowL intCs L), .row 28 0 1 [[.hsl 4 0 1 t.houses.length]], .row 3 0 1 [[I k]]]
def look1 (t : CoolTown) (w : Nat) (k : Int) (L : List Int) (y : Nat) : Int := if L.getD y default < 0 ∧ levM t y 0 w = true then k else L.getD y default
def lookL (t : CoolTown) (w : Nat) (k : Int) (L : List Int) : List Int := (List.range L.length).map (look1 t w k L)
end Go.Tk
namespace Go.Proofs.Ytnempffajbdneaa
open Go Go.Av Go.Tk
attribute [local irreducible] Holds sem semL ACalls FnIs
variable {K : Ctx} (hP : K.P = Try.prog) (hGK : ∀ w w', K.G w → RowKit.Below w.heap.size w w' → K.G w')
include hP hGK
theorem level_at (t : CoolTown) (ht : t.ok) (m : Nat) (es : ES) (hv : validQ t es) (y : Nat) (hy : y < t.houses.length) (f : Nat) (hf : f ≤ 100) (c : Nat) (hc : c < 2 ^ t.sites.length) {μ2 : List AObj} {p q : Nat} (hpq : p ≠ q) (hp : μ2[p]? = some (.map es)) (hq : μ2[q]? = some (.row 96 0 4 [[slOf CoolHouse.cs t.houses, slOf CoolSite.cs t.sites, I m, .mp p]])) :
    ACalls K F.cool_bought_level [.ptr q 0 4 0 0, keyQ y f c] μ2 fun ae ν => ∃ es', (ae = .ret (B (levM t y f c)) ∧ validQ t es') ∧ ν = μ2.set p (.map es') := by
  have h := bought_level hP hGK t ht m es hv y hy f hf c hc
  refine bought_at (R := fun ae es' => ae = .ret (B (levM t y f c)) ∧ validQ t es') (h.imp fun ae ν hr => ⟨_, ⟨hr.1, keepE.valid hv y f c⟩, hr.2⟩) (fun ae es' hr => ⟨hr.2.bools, fun g => by rw [hr.1]; rfl⟩) hv.bools hpq hp hq ?_ ?_
  · simp [renL, renA, backOf, List.idxOf_cons, beq_eq_false_iff_ne.2 hpq]
  · simp [inL, inA]

theorem again_1 (t : CoolTown) (ht : t.ok) (m : Nat) (es : ES) (hv : validQ t es) (w : Nat) (hw : w < 2 ^ t.sites.length) (L : List Int) (hL : L.length = t.houses.length) (k : Int) :
    ACalls K F.cool_bought_again_1 [.ptr 5 0 1 0 0, .ptr 2 0 1 0 0, .ptr 3 0 1 0 0, .ptr 6 0 1 0 0] (aM t m es w L k) fun ae ν => ∃ es', ae = .ret (.tup []) ∧ validQ t es' ∧ ν = aM t m es' w (lookL t w k L) k := by
  have hlev := fun (es : ES) (hv : validQ t es) (y : Nat) (hy : y < t.houses.length) (L' : List Int) => level_at hP hGK t ht m es hv y hy 0 (by omega) w hw (μ2 := aM t m es w L' k) (p := 0) (q := 1) (by omega) rfl rfl
  obtain ⟨P, w0, S0, G, hG0⟩ := K
  simp only at hP hGK
  subst hP
  have hn := ht.1
  refine acalls_of_sem fn_cool_bought_again_1 (by simp) fun D => ?_
  unfold c_cool_bought_again_1 cval enterEnv aM
  simp only [List.zipIdx_cons, List.zipIdx_nil, List.map_cons, List.map_nil, Nat.zero_add, Nat.reduceAdd]
  repeat' (first | ((first | refine o1 rfl ?_ | refine o0 rfl ?_); intro k hk; simp (disch := omega) only [ev0, sl_cells, simprocAttr]; refine hk _ _ ?_; clear hk k) | refine ono rfl ?_ | ((first | refine osplitG rfl (fun h => ?_) (fun h => ?_) | refine osplitB rfl (fun h => ?_) (fun h => ?_)) <;> (fail_if_success (simp only [eq_self, reduceCtorEq] at h))) | refine onx ?_ | refine onb ?_ | refine sreg ?_ | refine qT rfl ?_ | refine qF rfl ?_ | refine scondT rfl ?_ | refine scondF rfl ?_ | refine ocondP rfl (fun h => ?_) (fun h => ?_) | refine ocondB rfl (fun h => ?_) (fun h => ?_) | refine scondP rfl (fun h => ?_) (fun h => ?_) | refine scond rfl (fun h => ?_) (fun h => ?_) | refine oskip ?_ | refine oskipb ?_ | refine oret ?_ | refine sem_ret ?_ | refine sem_seq ?_ | refine sreg1 ?_)
  refine sem_block ?_
  
  refine sem_loop (α := Nat × List Int × ES) (fun x => ⟨[(0, .ptr 5 0 1 0 0), (1, .ptr 2 0 1 0 0), (2, .ptr 3 0 1 0 0), (3, .ptr 6 0 1 0 0), (6, I t.houses.length), (7, I x.1)], aM t m x.2.2 w x.2.1 k⟩) (fun x => x.1 ≤ t.houses.length ∧ x.2.1.length = t.houses.length ∧ validQ t x.2.2 ∧ ∀ j, x.2.1.getD j default = if j < x.1 then look1 t w k L j else L.getD j default) (fun x => t.houses.length - x.1) (0, L, es) ⟨Nat.zero_le _, hL, hv, fun j => by simp⟩ ?_ ?_
  · (refine Le.same ?_; simp only [List.forall_mem_cons, List.forall_mem_nil, getE, selE, Nat.reduceBEq, List.not_mem_nil, false_implies, implies_true, and_true, true_and, and_self])
    simp
  · rintro ⟨y, L2, es2⟩ ⟨h1, h2, h3, h4⟩
    simp only at h1 h2 h3 h4
    repeat' (first | ((first | refine o1 rfl ?_ | refine o0 rfl ?_); intro k hk; simp (disch := omega) only [ev0, sl_cells, simprocAttr]; refine hk _ _ ?_; clear hk k) | refine ono rfl ?_ | ((first | refine osplitG rfl (fun h => ?_) (fun h => ?_) | refine osplitB rfl (fun h => ?_) (fun h => ?_)) <;> (fail_if_success (simp only [eq_self, reduceCtorEq] at h))) | refine onx ?_ | refine onb ?_ | refine sreg ?_ | refine qT rfl ?_ | refine qF rfl ?_ | refine scondT rfl ?_ | refine scondF rfl ?_ | refine ocondP rfl (fun h => ?_) (fun h => ?_) | refine ocondB rfl (fun h => ?_) (fun h => ?_) | refine scondP rfl (fun h => ?_) (fun h => ?_) | refine scond rfl (fun h => ?_) (fun h => ?_) | refine oskip ?_ | refine oskipb ?_ | refine oret ?_ | refine sem_ret ?_ | refine sem_seq ?_ | refine sreg1 ?_)
    · have hy : y < t.houses.length := by omega
      have hlv := hlev es2 h3 y hy L2
      have h4y := h4 y
      rw [if_neg (Nat.lt_irrefl _)] at h4y
      refine sem_block ?_
      by_cases hneg : L2.getD y default < 0
      · repeat' (first | ((first | refine o1 rfl ?_ | refine o0 rfl ?_); intro k hk; simp (disch := omega) only [ev0, sl_cells, simprocAttr, rowL_get, rowL_len, intCs, hneg, decide_true]; refine hk _ _ ?_; clear hk k) | refine ono rfl ?_ | ((first | refine osplitG rfl (fun h => ?_) (fun h => ?_) | refine osplitB rfl (fun h => ?_) (fun h => ?_)) <;> (fail_if_success (simp only [eq_self, reduceCtorEq] at h))) | refine onx ?_ | refine onb ?_ | refine sreg ?_ | refine qT rfl ?_ | refine qF rfl ?_ | refine scondT rfl ?_ | refine scondF rfl ?_ | refine ocondP rfl (fun h => ?_) (fun h => ?_) | refine ocondB rfl (fun h => ?_) (fun h => ?_) | refine scondP rfl (fun h => ?_) (fun h => ?_) | refine scond rfl (fun h => ?_) (fun h => ?_) | refine oskip ?_ | refine oskipb ?_ | refine oret ?_ | refine sem_ret ?_ | refine sem_seq ?_ | refine sreg1 ?_)
        refine semL_acall rfl (by exact hlv) fun ae μ hr => ?_
        obtain ⟨es3, ⟨rfl, h3'⟩, rfl⟩ := hr
        change semL _ _ _ ⟨(_, B (levM t y 0 w)) :: _, _⟩ _
        simp only [List.set_cons_zero]
        cases hlm : levM t y 0 w with
        | true =>
          repeat' (first | ((first | refine o1 rfl ?_ | refine o0 rfl ?_); intro k hk; simp (disch := omega) only [ev0, sl_cells, simprocAttr, rowL_get, rowL_len, intCs]; refine hk _ _ ?_; clear hk k) | refine ono rfl ?_ | ((first | refine osplitG rfl (fun h => ?_) (fun h => ?_) | refine osplitB rfl (fun h => ?_) (fun h => ?_)) <;> (fail_if_success (simp only [eq_self, reduceCtorEq] at h))) | refine onx ?_ | refine onb ?_ | refine sreg ?_ | refine qT rfl ?_ | refine qF rfl ?_ | refine scondT rfl ?_ | refine scondF rfl ?_ | refine ocondP rfl (fun h => ?_) (fun h => ?_) | refine ocondB rfl (fun h => ?_) (fun h => ?_) | refine scondP rfl (fun h => ?_) (fun h => ?_) | refine scond rfl (fun h => ?_) (fun h => ?_) | refine oskip ?_ | refine oskipb ?_ | refine oret ?_ | refine sem_ret ?_ | refine sem_seq ?_ | refine sreg1 ?_)
          refine onil (lnext (y + 1, L2.set y k, es3) ⟨by simp only; omega, by simp only [List.length_set]; exact h2, h3', fun j => ?_⟩ (by simp only; omega) ?_)
          · simp only
            by_cases e : j = y
            · subst e
              rw [if_pos (Nat.lt_succ_self _), look1, ← h4y, if_pos ⟨hneg, hlm⟩]
              simp [List.getD, h2, hy]
            · have := h4 j
              rw [show (L2.set y k).getD j default = L2.getD j default by simp [List.getD, List.getElem?_set_ne (Ne.symm e)], this]
              by_cases e2 : j < y
              · rw [if_pos e2, if_pos (by omega)]
              · rw [if_neg e2, if_neg (by omega)]
          · rw [rowL_set]
            (refine Le.same ?_; simp only [List.forall_mem_cons, List.forall_mem_nil, getE, selE, Nat.reduceBEq, List.not_mem_nil, false_implies, implies_true, and_true, true_and, and_self])
            simp
        | false =>
          repeat' (first | ((first | refine o1 rfl ?_ | refine o0 rfl ?_); intro k hk; simp (disch := omega) only [ev0, sl_cells, simprocAttr, rowL_get, rowL_len, intCs]; refine hk _ _ ?_; clear hk k) | refine ono rfl ?_ | ((first | refine osplitG rfl (fun h => ?_) (fun h => ?_) | refine osplitB rfl (fun h => ?_) (fun h => ?_)) <;> (fail_if_success (simp only [eq_self, reduceCtorEq] at h))) | refine onx ?_ | refine onb ?_ | refine sreg ?_ | refine qT rfl ?_ | refine qF rfl ?_ | refine scondT rfl ?_ | refine scondF rfl ?_ | refine ocondP rfl (fun h => ?_) (fun h => ?_) | refine ocondB rfl (fun h => ?_) (fun h => ?_) | refine scondP rfl (fun h => ?_) (fun h => ?_) | refine scond rfl (fun h => ?_) (fun h => ?_) | refine oskip ?_ | refine oskipb ?_ | refine oret ?_ | refine sem_ret ?_ | refine sem_seq ?_ | refine sreg1 ?_)
          refine onil (lnext (y + 1, L2, es3) ⟨by simp only; omega, h2, h3', fun j => ?_⟩ (by simp only; omega) ?_)
          · simp only
            rw [h4 j]
            by_cases e2 : j < y
            · rw [if_pos e2, if_pos (by omega)]
            · rw [if_neg e2]
              by_cases e : j = y
              · subst e
                rw [if_pos (Nat.lt_succ_self _), look1, if_neg (fun q => by rw [hlm] at q; cases q.2)]
              · rw [if_neg (by omega)]
          · (refine Le.same ?_; simp only [List.forall_mem_cons, List.forall_mem_nil, getE, selE, Nat.reduceBEq, List.not_mem_nil, false_implies, implies_true, and_true, true_and, and_self])
            simp
      · repeat' (first | ((first | refine o1 rfl ?_ | refine o0 rfl ?_); intro k hk; simp (disch := omega) only [ev0, sl_cells, simprocAttr, rowL_get, rowL_len, intCs, hneg, decide_false]; refine hk _ _ ?_; clear hk k) | refine ono rfl ?_ | ((first | refine osplitG rfl (fun h => ?_) (fun h => ?_) | refine osplitB rfl (fun h => ?_) (fun h => ?_)) <;> (fail_if_success (simp only [eq_self, reduceCtorEq] at h))) | refine onx ?_ | refine onb ?_ | refine sreg ?_ | refine qT rfl ?_ | refine qF rfl ?_ | refine scondT rfl ?_ | refine scondF rfl ?_ | refine ocondP rfl (fun h => ?_) (fun h => ?_) | refine ocondB rfl (fun h => ?_) (fun h => ?_) | refine scondP rfl (fun h => ?_) (fun h => ?_) | refine scond rfl (fun h => ?_) (fun h => ?_) | refine oskip ?_ | refine oskipb ?_ | refine oret ?_ | refine sem_ret ?_ | refine sem_seq ?_ | refine sreg1 ?_)
        refine onil (lnext (y + 1, L2, es2) ⟨by simp only; omega, h2, h3, fun j => ?_⟩ (by simp only; omega) ?_)
        · simp only
          rw [h4 j]
          by_cases e2 : j < y
          · rw [if_pos e2, if_pos (by omega)]
          · rw [if_neg e2]
            by_cases e : j = y
            · subst e
              rw [if_pos (Nat.lt_succ_self _), look1, if_neg (fun q => hneg (by rw [h4y]; exact q.1))]
            · rw [if_neg (by omega)]
        · (refine Le.same ?_; simp only [List.forall_mem_cons, List.forall_mem_nil, getE, selE, Nat.reduceBEq, List.not_mem_nil, false_implies, implies_true, and_true, true_and, and_self])
          simp
    · have hy : y = t.houses.length := by omega
      have hfin : L2 = lookL t w k L := by
        apply List.ext_getElem
        · rw [h2]; simp [lookL, hL]
        · intro j e1 e2
          have := h4 j
          rw [if_pos (by omega), getD_lt e1] at this
          rw [this]; simp [lookL]
      refine sem_exit ?_
      exact ⟨_, rfl, es2, rfl, h3, by rw [hfin]⟩
end Go.Proofs.Ytnempffajbdneaa

/- In which week each house is level again. -/
set_option linter.unusedVariables false
set_option linter.unusedSimpArgs false
set_option maxRecDepth 8000
set_option maxHeartbeats 2000000
namespace Go.Tk
open Go Go.Av
theorem sumL_perm {l m : List Int} (h : l.Perm m) : sumL l = sumL m := by
  induction h with
  | nil => rfl
  | cons x _ ih => simp only [sumL, ih]
  | swap x y l => simp only [sumL]; omega
  | trans _ _ ih1 ih2 => exact ih1.trans ih2
theorem give_low {t : CoolTown} {y : Nat} (hy : y < t.houses.length) {i : Int} (hi : 0 ≤ i ∧ i < t.sites.length) : giveOf (worstT t) y i = lowOf t y i := by
  unfold giveOf worstT lowOf
  have h1 : (givesW t t.sites.length).getD i.toNat default = lowsW t t.houses.length i.toNat := by
    rw [getD_lt (by rw [givesW_len]; omega)]; simp [givesW]
  rw [h1, getD_lt (by rw [lowsW_len]; exact hy)]
  simp [lowsW]
theorem need_worst {t : CoolTown} {y : Nat} (hy : y < t.houses.length) : (worstT t).needs.getD y default = (t.houses.getD y default).need.high := by
  unfold worstT
  rw [getD_lt (by rw [needsW_len]; exact hy)]
  simp [needsW]
theorem over_low {t : CoolTown} {y : Nat} (hy : y < t.houses.length) {w : List Int} (hw : ∀ i ∈ w, 0 ≤ i ∧ i < t.sites.length) : over1 (worstT t) w y = -(t.houses.getD y default).need.high + sumL (w.map (lowOf t y)) := by
  unfold over1
  rw [need_worst hy, List.map_congr_left fun i hi => give_low hy (hw i hi)]
/-- With none that fail: a house is surely level. -/
theorem lev_level {t : CoolTown} {y : Nat} (hy : y < t.houses.length) {c : Nat} {w : List Int} (hc : listB c = w) (hw : ∀ i ∈ w, 0 ≤ i ∧ i < t.sites.length) : levM t y 0 c = levelB t w y := by
  unfold levM levelB coldsL
  rw [over_low hy hw, hc, List.drop_zero, sumL_perm (sortD_perm _)]
  rw [Bool.eq_iff_iff, decide_eq_true_iff, decide_eq_true_iff]
  omega
/-- A set that has what a list has. -/
theorem listB_ext {c n : Nat} (hn : n ≤ 10) {w : List Int} (hw : w.Pairwise (· < ·)) (hb : ∀ i ∈ w, 0 ≤ i ∧ i < n) (h : ∀ j : Nat, c.testBit j = true ↔ (j : Int) ∈ w) : listB c = w := by
  refine up_ext (listB_up c) hw fun x => ?_
  rw [listB_mem]
  constructor
  · rintro ⟨i, rfl, _, hi⟩
    exact (h i).1 hi
  · intro hx
    have := hb x hx
    obtain ⟨i, rfl⟩ := Int.eq_ofNat_of_zero_le this.1
    exact ⟨i, rfl, by omega, (h i).2 hx⟩
theorem without_up {b f : List Int} (hb : b.Pairwise (· < ·)) : (withoutL b f).Pairwise (· < ·) := hb.filter _
theorem look_step {t : CoolTown} (ht : t.ok) {b : List Int} (hb : coolersOk t.sites.length b) {o : List Int} {i w : Nat} (hw : ∀ j : Nat, w.testBit j = true ↔ (j : Int) ∈ b ∧ (j : Int) ∉ o.drop i) :
    lookL t w (weeksL t (o.take i)) ((List.range t.houses.length).map fun y => agF t b o y i) = (List.range t.houses.length).map fun y => agF t b o y (i + 1) := by
  have hl : listB w = withoutL b (o.drop i) := listB_ext ht.2.1.2 (without_up hb.up) (fun x hx => hb.mem x (mem_without.1 hx).1) fun j => by rw [hw, mem_without]
  have hlen : ((List.range t.houses.length).map fun y => agF t b o y i).length = t.houses.length := by simp
  unfold lookL
  rw [hlen]
  refine List.map_congr_left fun y hy => ?_
  have hy' := List.mem_range.1 hy
  have hg : ((List.range t.houses.length).map fun y => agF t b o y i).getD y default = agF t b o y i := by rw [getD_lt (by simpa using hy')]; simp
  unfold look1
  rw [hg, lev_level hy' hl fun x hx => hb.mem x (mem_without.1 hx).1]
  rfl
theorem order_nodup {b o : List Int} (h : orderOk b o) {i : Nat} (hi : i < o.length) : o.getD i default ∉ o.drop (i + 1) := fun hm => by
  obtain ⟨k, hk⟩ := List.getElem?_of_mem hm
  rw [List.getElem?_drop] at hk
  have hkl := (List.getElem?_eq_some_iff.1 hk).1
  refine (h (i + 1 + k) hkl).2 ?_
  rw [getD_lt hkl, (List.getElem?_eq_some_iff.1 hk).2, getD_lt hi]
  exact List.mem_iff_getElem.2 ⟨i, by rw [List.length_take]; omega, by rw [List.getElem_take]⟩
theorem drop_cons' {o : List Int} {i : Nat} (hi : i < o.length) : o.drop i = o.getD i default :: o.drop (i + 1) := by rw [List.drop_eq_getElem_cons hi, getD_lt hi]
theorem testBit_pow {n j : Nat} : (2 ^ n).testBit j = decide (n = j) := Nat.testBit_two_pow
end Go.Tk
namespace Go.Proofs.Ytnempffajbdneaa
open Go Go.Av Go.Tk
attribute [local irreducible] Holds sem semL ACalls FnIs levelB levM
variable {K : Ctx} (hP : K.P = Try.prog) (hGK : ∀ w w', K.G w → RowKit.Below w.heap.size w w' → K.G w')
include hP hGK
theorem bought_again (t : CoolTown) (ht : t.ok) (b : List Int) (hb : coolersOk t.sites.length b) (es : ES) (hv : validQ t es) (o : List Int) (ho : o.length ≤ 100) (hoo : orderOk b o) :
    ACalls K F.cool_bought_again [.ptr 1 0 4 0 0, slOf intCs o] (buyM t (setB b) es) fun ae ν => ∃ x, (x = slOf intCs (againL t t.houses.length b o) ∧ ∃ es', validQ t es' ∧ ν = buyM t (setB b) es') ∧ ae = .ret x := by
  have hmb := setB_lt hb.mem
  have hns := ht.2.1
  have hnh := ht.1
  have hp10 : 2 ^ t.sites.length ≤ 2 ^ 10 := Nat.pow_le_pow_right (by omega) ht.2.1.2
  have hm2 : setB b < 1024 := Nat.lt_of_lt_of_le hmb hp10
  have hob : ∀ x ∈ o, 0 ≤ x ∧ x < t.sites.length := all_getD.2 fun i hi => hb.mem _ (hoo i hi).1
  have hag1 := again_1 hP hGK t ht (setB b)
  obtain ⟨P, w0, S0, G, hG0⟩ := K
  simp only at hP hGK
  subst hP
  refine ACalls.dropE (R := fun x ν => x = slOf intCs (againL t t.houses.length b o) ∧ ∃ es', validQ t es' ∧ ν = buyM t (setB b) es') (acalls_of_sem fn_cool_bought_again (by simp) fun D => ?_) ?_
  rotate_left
  · rintro x ν ⟨rfl, es', hv', rfl⟩
    exact ⟨rfl, by simp [refM, refO, refA, refL, hv'.bools.ref, slOf]⟩
  unfold c_cool_bought_again cval enterEnv buyM
  simp only [List.zipIdx_cons, List.zipIdx_nil, List.map_cons, List.map_nil, Nat.zero_add, Nat.reduceAdd, List.cons_append, List.nil_append]
  repeat' (first | ((first | refine o1 rfl ?_ | refine o0 rfl ?_); intro k hk; simp (disch := omega) only [ev0, sl_cells, simprocAttr, slOf]; refine hk _ _ ?_; clear hk k) | refine ono rfl ?_ | ((first | refine osplitG rfl (fun h => ?_) (fun h => ?_) | refine osplitB rfl (fun h => ?_) (fun h => ?_)) <;> (fail_if_success (simp only [eq_self, reduceCtorEq] at h))) | refine onx ?_ | refine onb ?_ | refine sreg ?_ | refine qT rfl ?_ | refine qF rfl ?_ | refine scondT rfl ?_ | refine scondF rfl ?_ | refine ocondP rfl (fun h => ?_) (fun h => ?_) | refine ocondB rfl (fun h => ?_) (fun h => ?_) | refine scondP rfl (fun h => ?_) (fun h => ?_) | refine scond rfl (fun h => ?_) (fun h => ?_) | refine oskip ?_ | refine oskipb ?_ | refine oret ?_ | refine sem_ret ?_ | refine sem_seq ?_ | refine sreg1 ?_)
  refine sem_block ?_
  
  refine sem_loop (α := Nat × Nat) (fun x => ⟨[(1, slOf intCs o), (2, .ptr 2 0 1 0 0), (5, .ptr 3 0 1 0 0), (18, slOf intCs o), (19, I o.length), (20, I x.1)], buyM t (setB b) es ++ [.row 90 0 1 [[.ptr 1 0 4 0 0]], .row 86 0 1 [[I x.2]]]⟩) (fun x => x.1 ≤ o.length ∧ x.2 < 2 ^ t.sites.length ∧ ∀ j : Nat, x.2.testBit j = true ↔ (j : Int) ∈ b ∧ (j : Int) ∉ o.take x.1) (fun x => o.length - x.1) (0, setB b) ⟨Nat.zero_le _, hmb, fun j => by simp [setB_has hb]⟩ ?_ ?_
  · (refine Le.same ?_; simp only [List.forall_mem_cons, List.forall_mem_nil, getE, selE, Nat.reduceBEq, List.not_mem_nil, false_implies, implies_true, and_true, true_and, and_self])
    simp [slOf]
  · rintro ⟨i, w⟩ ⟨h1, h2, h3⟩
    simp only at h1 h2 h3
    repeat' (first | ((first | refine o1 rfl ?_ | refine o0 rfl ?_); intro k hk; simp (disch := omega) only [ev0, sl_cells, simprocAttr, slOf]; refine hk _ _ ?_; clear hk k) | refine ono rfl ?_ | ((first | refine osplitG rfl (fun h => ?_) (fun h => ?_) | refine osplitB rfl (fun h => ?_) (fun h => ?_)) <;> (fail_if_success (simp only [eq_self, reduceCtorEq] at h))) | refine onx ?_ | refine onb ?_ | refine sreg ?_ | refine qT rfl ?_ | refine qF rfl ?_ | refine scondT rfl ?_ | refine scondF rfl ?_ | refine ocondP rfl (fun h => ?_) (fun h => ?_) | refine ocondB rfl (fun h => ?_) (fun h => ?_) | refine scondP rfl (fun h => ?_) (fun h => ?_) | refine scond rfl (fun h => ?_) (fun h => ?_) | refine oskip ?_ | refine oskipb ?_ | refine oret ?_ | refine sem_ret ?_ | refine sem_seq ?_ | refine sreg1 ?_)
    · have hi : i < o.length := by omega
      have hoi := hob (o.getD i default) (by rw [getD_lt hi]; exact List.getElem_mem _)
      have htk : o.take (i + 1) = o.take i ++ [o.getD i default] := by rw [List.take_add_one, List.getElem?_eq_getElem hi, getD_lt hi]; rfl
      generalize hov : o.getD i default = v at *
      obtain ⟨n, rfl⟩ := Int.eq_ofNat_of_zero_le hoi.1
      have e1 := shlN n (by omega)
      have e2 := andNotN (a := w) (b := 2 ^ n) (by omega)
      have e3 := diffN_le w (2 ^ n) (by omega)
      refine sem_block ?_
      repeat' (first | ((first | refine o1 rfl ?_ | refine o0 rfl ?_); intro k hk; simp (disch := omega) only [ev0, sl_cells, simprocAttr, slOf, intCs, hov]; refine hk _ _ ?_; clear hk k) | refine ono rfl ?_ | ((first | refine osplitG rfl (fun h => ?_) (fun h => ?_) | refine osplitB rfl (fun h => ?_) (fun h => ?_)) <;> (fail_if_success (simp only [eq_self, reduceCtorEq] at h))) | refine onx ?_ | refine onb ?_ | refine sreg ?_ | refine qT rfl ?_ | refine qF rfl ?_ | refine scondT rfl ?_ | refine scondF rfl ?_ | refine ocondP rfl (fun h => ?_) (fun h => ?_) | refine ocondB rfl (fun h => ?_) (fun h => ?_) | refine scondP rfl (fun h => ?_) (fun h => ?_) | refine scond rfl (fun h => ?_) (fun h => ?_) | refine oskip ?_ | refine oskipb ?_ | refine oret ?_ | refine sem_ret ?_ | refine sem_seq ?_ | refine sreg1 ?_)
      ((refine sem_mgo 3 hmix (by kernel_rfl) ?_; simp only [List.take_succ_cons, List.take_zero, List.drop_succ_cons, List.drop_zero, List.take_nil, List.drop_nil]); (repeat' (first | ((first | apply mop | apply mop0); (case hg => rfl); (case hq => rfl); intro k hk; simp (disch := omega) only [ev0, sl_cells, simprocAttr, slOf, intCs, e1, e2]; refine hk _ _ rfl ?_; clear hk k) | (apply mno; (case hg => rfl)) | (apply mbox; (case hx => (simp only [wv, simprocAttr] <;> rfl)); (case hg => rfl); (case hall => rfl); (case hr => rfl); simp only [cellsOf, List.length_cons, List.length_nil, Nat.reduceAdd, Nat.zero_add, List.nil_append, List.cons_append, List.set_cons_zero, List.set_cons_succ, chunks, List.take_succ_cons, List.take_zero, List.drop_succ_cons, List.drop_zero]) | (apply mbldS; (case hb => (simp (disch := omega) only [ev0, sl_cells, simprocAttr] <;> rfl)); (case hg => rfl); (case hr => rfl); simp only [cellsOf, List.length_cons, List.length_nil, Nat.reduceAdd, Nat.zero_add, List.nil_append, List.cons_append, List.set_cons_zero, List.set_cons_succ, chunks, List.take_succ_cons, List.take_zero, List.drop_succ_cons, List.drop_zero]) | ((first | (apply msto (q := 0); (case hq => rfl)) | (apply msto (q := 1); (case hq => rfl)) | (apply msto (q := 2); (case hq => rfl)) | (apply msto (q := 3); (case hq => rfl))); (case hx => (simp only [wv, simprocAttr] <;> rfl)); (case haddr => (simp only [wv, simprocAttr] <;> rfl)); (case hg => rfl); (case hl1 => rfl); (case hl2 => rfl); (case hok => rfl); (case hr => rfl); simp only [cellsOf, List.length_cons, List.length_nil, Nat.reduceAdd, Nat.zero_add, List.nil_append, List.cons_append, List.set_cons_zero, List.set_cons_succ, chunks, List.take_succ_cons, List.take_zero, List.drop_succ_cons, List.drop_zero]) | (apply mnil; simp only [SlotR.fin, List.map_cons, List.map_nil, List.cons_append, List.nil_append, List.append_nil]) | (refine msplit rfl (fun h => ?_) (fun h => ?_) <;> simp only [h] <;> (try simp only [Bool.not_eq_true', Bool.not_eq_false', decide_eq_true_eq, decide_eq_false_iff_not] at h)))) <;> (repeat' (first | ((first | refine o1 rfl ?_ | refine o0 rfl ?_); intro k hk; simp (disch := omega) only [ev0, sl_cells, simprocAttr, slOf, intCs, e1, e2]; refine hk _ _ ?_; clear hk k) | refine ono rfl ?_ | ((first | refine osplitG rfl (fun h => ?_) (fun h => ?_) | refine osplitB rfl (fun h => ?_) (fun h => ?_)) <;> (fail_if_success (simp only [eq_self, reduceCtorEq] at h))) | refine onx ?_ | refine onb ?_ | refine sreg ?_ | refine qT rfl ?_ | refine qF rfl ?_ | refine scondT rfl ?_ | refine scondF rfl ?_ | refine ocondP rfl (fun h => ?_) (fun h => ?_) | refine ocondB rfl (fun h => ?_) (fun h => ?_) | refine scondP rfl (fun h => ?_) (fun h => ?_) | refine scond rfl (fun h => ?_) (fun h => ?_) | refine oskip ?_ | refine oskipb ?_ | refine oret ?_ | refine sem_ret ?_ | refine sem_seq ?_ | refine sreg1 ?_)))
      refine onil (lnext (i + 1, diffN w (2 ^ n)) ⟨by simp only; omega, by simp only; omega, fun j => ?_⟩ (by simp only; omega) ?_)
      · simp only
        rw [diffN_bit (by omega), testBit_pow, htk, List.mem_append, List.mem_singleton]
        have := h3 j
        simp only [Bool.and_eq_true, Bool.not_eq_true', decide_eq_false_iff_not, this]
        constructor
        · rintro ⟨⟨q1, q2⟩, q3⟩
          exact ⟨q1, fun q => q.elim q2 fun q => q3 (by omega)⟩
        · rintro ⟨q1, q2⟩
          exact ⟨⟨q1, fun q => q2 (.inl q)⟩, fun q => q2 (.inr (by omega))⟩
      · (refine Le.same ?_; simp only [List.forall_mem_cons, List.forall_mem_nil, getE, selE, Nat.reduceBEq, List.not_mem_nil, false_implies, implies_true, and_true, true_and, and_self])
        simp [slOf]
    · have hi : i = o.length := by omega
      subst hi
      rw [List.take_length] at h3
      (refine sem_exit ?_; change sem _ _ _ _ _)
      repeat' (first | ((first | refine o1 rfl ?_ | refine o0 rfl ?_); intro k hk; simp (disch := omega) only [ev0, sl_cells, simprocAttr]; refine hk _ _ ?_; clear hk k) | refine ono rfl ?_ | ((first | refine osplitG rfl (fun h => ?_) (fun h => ?_) | refine osplitB rfl (fun h => ?_) (fun h => ?_)) <;> (fail_if_success (simp only [eq_self, reduceCtorEq] at h))) | refine onx ?_ | refine onb ?_ | refine sreg ?_ | refine qT rfl ?_ | refine qF rfl ?_ | refine scondT rfl ?_ | refine scondF rfl ?_ | refine ocondP rfl (fun h => ?_) (fun h => ?_) | refine ocondB rfl (fun h => ?_) (fun h => ?_) | refine scondP rfl (fun h => ?_) (fun h => ?_) | refine scond rfl (fun h => ?_) (fun h => ?_) | refine oskip ?_ | refine oskipb ?_ | refine oret ?_ | refine sem_ret ?_ | refine sem_seq ?_ | refine sreg1 ?_)
      have hrep : List.replicate t.houses.length [AV.int .i64 0] = rowL intCs (List.replicate t.houses.length 0) := by simp [rowL, intCs]
      rw [hrep]
      refine sem_block ?_
      
      refine sem_loop (α := Nat × List Int) (fun x => ⟨[(1, slOf intCs o), (2, .ptr 2 0 1 0 0), (5, .ptr 3 0 1 0 0), (8, .ptr 5 0 1 0 0), (37, I t.houses.length), (38, I x.1)], buyM t (setB b) es ++ [.row 90 0 1 [[.ptr 1 0 4 0 0]], .row 86 0 1 [[I w]], .row 3 0 1 (rowL intCs x.2), .row 28 0 1 [[.hsl 4 0 1 t.houses.length]]]⟩) (fun x => x.1 ≤ t.houses.length ∧ x.2.length = t.houses.length ∧ ∀ j, j < x.1 → x.2.getD j default = -1) (fun x => t.houses.length - x.1) (0, List.replicate t.houses.length 0) ⟨Nat.zero_le _, by simp, fun j hj => absurd hj (Nat.not_lt_zero _)⟩ ?_ ?_
      · (refine Le.same ?_; simp only [List.forall_mem_cons, List.forall_mem_nil, getE, selE, Nat.reduceBEq, List.not_mem_nil, false_implies, implies_true, and_true, true_and, and_self])
        simp [slOf]
      · rintro ⟨y, L⟩ ⟨k1, k2, k3⟩
        simp only at k1 k2 k3
        repeat' (first | ((first | refine o1 rfl ?_ | refine o0 rfl ?_); intro k hk; simp (disch := omega) only [ev0, sl_cells, simprocAttr]; refine hk _ _ ?_; clear hk k) | refine ono rfl ?_ | ((first | refine osplitG rfl (fun h => ?_) (fun h => ?_) | refine osplitB rfl (fun h => ?_) (fun h => ?_)) <;> (fail_if_success (simp only [eq_self, reduceCtorEq] at h))) | refine onx ?_ | refine onb ?_ | refine sreg ?_ | refine qT rfl ?_ | refine qF rfl ?_ | refine scondT rfl ?_ | refine scondF rfl ?_ | refine ocondP rfl (fun h => ?_) (fun h => ?_) | refine ocondB rfl (fun h => ?_) (fun h => ?_) | refine scondP rfl (fun h => ?_) (fun h => ?_) | refine scond rfl (fun h => ?_) (fun h => ?_) | refine oskip ?_ | refine oskipb ?_ | refine oret ?_ | refine sem_ret ?_ | refine sem_seq ?_ | refine sreg1 ?_)
        · have hy : y < t.houses.length := by omega
          refine sem_block ?_
          repeat' (first | ((first | refine o1 rfl ?_ | refine o0 rfl ?_); intro k hk; simp (disch := omega) only [ev0, sl_cells, simprocAttr, rowL_get, rowL_len, intCs]; refine hk _ _ ?_; clear hk k) | refine ono rfl ?_ | ((first | refine osplitG rfl (fun h => ?_) (fun h => ?_) | refine osplitB rfl (fun h => ?_) (fun h => ?_)) <;> (fail_if_success (simp only [eq_self, reduceCtorEq] at h))) | refine onx ?_ | refine onb ?_ | refine sreg ?_ | refine qT rfl ?_ | refine qF rfl ?_ | refine scondT rfl ?_ | refine scondF rfl ?_ | refine ocondP rfl (fun h => ?_) (fun h => ?_) | refine ocondB rfl (fun h => ?_) (fun h => ?_) | refine scondP rfl (fun h => ?_) (fun h => ?_) | refine scond rfl (fun h => ?_) (fun h => ?_) | refine oskip ?_ | refine oskipb ?_ | refine oret ?_ | refine sem_ret ?_ | refine sem_seq ?_ | refine sreg1 ?_)
          refine onil (lnext (y + 1, L.set y (-1)) ⟨by simp only; omega, by simp only [List.length_set]; exact k2, fun j hj => ?_⟩ (by simp only; omega) ?_)
          · simp only at hj ⊢
            by_cases e : j = y
            · subst e; simp [List.getD, k2, hy]
            · rw [show (L.set y (-1)).getD j default = L.getD j default by simp [List.getD, List.getElem?_set_ne (Ne.symm e)]]
              exact k3 j (by omega)
          · rw [rowL_set]
            (refine Le.same ?_; simp only [List.forall_mem_cons, List.forall_mem_nil, getE, selE, Nat.reduceBEq, List.not_mem_nil, false_implies, implies_true, and_true, true_and, and_self])
            simp
        · have hy : y = t.houses.length := by omega
          have hL : L = (List.range t.houses.length).map fun y => agF t b o y 0 := by
            apply List.ext_getElem
            · rw [k2]; simp
            · intro j e1 e2
              have := k3 j (by omega)
              rw [getD_lt e1] at this
              rw [this]; simp [agF]
          (refine sem_exit ?_; change sem _ _ _ _ _)
          repeat' (first | ((first | refine o1 rfl ?_ | refine o0 rfl ?_); intro k hk; simp (disch := omega) only [ev0, sl_cells, simprocAttr]; refine hk _ _ ?_; clear hk k) | refine ono rfl ?_ | ((first | refine osplitG rfl (fun h => ?_) (fun h => ?_) | refine osplitB rfl (fun h => ?_) (fun h => ?_)) <;> (fail_if_success (simp only [eq_self, reduceCtorEq] at h))) | refine onx ?_ | refine onb ?_ | refine sreg ?_ | refine qT rfl ?_ | refine qF rfl ?_ | refine scondT rfl ?_ | refine scondF rfl ?_ | refine ocondP rfl (fun h => ?_) (fun h => ?_) | refine ocondB rfl (fun h => ?_) (fun h => ?_) | refine scondP rfl (fun h => ?_) (fun h => ?_) | refine scond rfl (fun h => ?_) (fun h => ?_) | refine oskip ?_ | refine oskipb ?_ | refine oret ?_ | refine sem_ret ?_ | refine sem_seq ?_ | refine sreg1 ?_)
          have hst := look_step ht hb (o := o) (i := 0) (w := w) (fun j => by rw [List.drop_zero]; exact h3 j)
          rw [← hL] at hst
          refine semL_dyn (R := fun ae ν => ∃ es', ae = .ret (.tup []) ∧ validQ t es' ∧ ν = aM t (setB b) es' w (lookL t w 0 L) 0) rfl rfl (by exact hag1 es hv w h2 L k2 0) fun ae μ hr => ?_
          obtain ⟨es1, rfl, hv1, rfl⟩ := hr
          rw [show weeksL t (o.take 0) = 0 from rfl] at hst
          rw [hst]
          change semL _ _ _ ⟨(_, _) :: _, _⟩ _
          simp only [aM]
          repeat' (first | ((first | refine o1 rfl ?_ | refine o0 rfl ?_); intro k hk; simp (disch := omega) only [ev0, sl_cells, simprocAttr]; refine hk _ _ ?_; clear hk k) | refine ono rfl ?_ | ((first | refine osplitG rfl (fun h => ?_) (fun h => ?_) | refine osplitB rfl (fun h => ?_) (fun h => ?_)) <;> (fail_if_success (simp only [eq_self, reduceCtorEq] at h))) | refine onx ?_ | refine onb ?_ | refine sreg ?_ | refine qT rfl ?_ | refine qF rfl ?_ | refine scondT rfl ?_ | refine scondF rfl ?_ | refine ocondP rfl (fun h => ?_) (fun h => ?_) | refine ocondB rfl (fun h => ?_) (fun h => ?_) | refine scondP rfl (fun h => ?_) (fun h => ?_) | refine scond rfl (fun h => ?_) (fun h => ?_) | refine oskip ?_ | refine oskipb ?_ | refine oret ?_ | refine sem_ret ?_ | refine sem_seq ?_ | refine sreg1 ?_)
          refine sem_block ?_
          
          refine sem_loop (α := Nat × Nat × ES) (fun x => ⟨[(2, .ptr 2 0 1 0 0), (5, .ptr 3 0 1 0 0), (8, .ptr 5 0 1 0 0), (10, .ptr 6 0 1 0 0), (11, .fn (.func F.cool_bought_again_1) [] [.ptr 5 0 1 0 0, .ptr 2 0 1 0 0, .ptr 3 0 1 0 0, .ptr 6 0 1 0 0]), (48, slOf intCs o), (49, I o.length), (50, I x.1)], aM t (setB b) x.2.2 x.2.1 ((List.range t.houses.length).map fun y => agF t b o y (x.1 + 1)) (weeksL t (o.take x.1))⟩) (fun x => x.1 ≤ o.length ∧ x.2.1 < 2 ^ t.sites.length ∧ (∀ j : Nat, x.2.1.testBit j = true ↔ (j : Int) ∈ b ∧ (j : Int) ∉ o.drop x.1) ∧ validQ t x.2.2) (fun x => o.length - x.1) (0, w, es1) ⟨Nat.zero_le _, h2, fun j => by rw [List.drop_zero]; exact h3 j, hv1⟩ ?_ ?_
          · (refine Le.same ?_; simp only [List.forall_mem_cons, List.forall_mem_nil, getE, selE, Nat.reduceBEq, List.not_mem_nil, false_implies, implies_true, and_true, true_and, and_self])
            simp [slOf]
          · rintro ⟨i, w, es2⟩ ⟨h1, h2, h3, h4⟩
            simp only at h1 h2 h3 h4
            repeat' (first | ((first | refine o1 rfl ?_ | refine o0 rfl ?_); intro k hk; simp (disch := omega) only [ev0, sl_cells, simprocAttr, slOf]; refine hk _ _ ?_; clear hk k) | refine ono rfl ?_ | ((first | refine osplitG rfl (fun h => ?_) (fun h => ?_) | refine osplitB rfl (fun h => ?_) (fun h => ?_)) <;> (fail_if_success (simp only [eq_self, reduceCtorEq] at h))) | refine onx ?_ | refine onb ?_ | refine sreg ?_ | refine qT rfl ?_ | refine qF rfl ?_ | refine scondT rfl ?_ | refine scondF rfl ?_ | refine ocondP rfl (fun h => ?_) (fun h => ?_) | refine ocondB rfl (fun h => ?_) (fun h => ?_) | refine scondP rfl (fun h => ?_) (fun h => ?_) | refine scond rfl (fun h => ?_) (fun h => ?_) | refine oskip ?_ | refine oskipb ?_ | refine oret ?_ | refine sem_ret ?_ | refine sem_seq ?_ | refine sreg1 ?_)
            · have hi : i < o.length := by omega
              have hoi := hob (o.getD i default) (by rw [getD_lt hi]; exact List.getElem_mem _)
              have hbi := (hoo i hi).1
              have hnd := order_nodup hoo hi
              have hdc := drop_cons' hi
              have hwk := weeksL_succ (t := t) hi
              have hwb := weeksL_bound ht hob i
              have hwo := weeksOf_bound ht hoi
              generalize hov : o.getD i default = v at *
              obtain ⟨n, rfl⟩ := Int.eq_ofNat_of_zero_le hoi.1
              have hn : n < t.sites.length := by omega
              have hgo : weeksOf t (n : Int) = (t.sites.getD n default).weeks := rfl
              rw [hgo] at hwo hwk
              have hpn : 2 ^ n < 2 ^ t.sites.length := Nat.pow_lt_pow_right (by omega) hn
              have e1 := shlN n (by omega)
              have e2 := orN (a := w) (b := 2 ^ n) (by omega) (by omega)
              have hor : w ||| 2 ^ n < 2 ^ t.sites.length := Nat.or_lt_two_pow h2 hpn
              have hbits : ∀ j : Nat, (w ||| 2 ^ n).testBit j = true ↔ (j : Int) ∈ b ∧ (j : Int) ∉ o.drop (i + 1) := fun j => by
                rw [Nat.testBit_or, testBit_pow, Bool.or_eq_true, h3, hdc, List.mem_cons, decide_eq_true_iff]
                constructor
                · rintro (⟨q1, q2⟩ | rfl)
                  · exact ⟨q1, fun q => q2 (.inr q)⟩
                  · exact ⟨hbi, hnd⟩
                · rintro ⟨q1, q2⟩
                  by_cases e : n = j
                  · exact .inr e
                  · exact .inl ⟨q1, fun q => q.elim (fun q => e (by omega)) q2⟩
              have hst := look_step ht hb (o := o) (i := i + 1) hbits
              generalize hA : (List.range t.houses.length).map (fun y => agF t b o y (i + 1)) = A at *
              have hAl : A.length = t.houses.length := by rw [← hA]; simp
              refine sem_block ?_
              repeat' (first | ((first | refine o1 rfl ?_ | refine o0 rfl ?_); intro k hk; simp (disch := omega) only [ev0, sl_cells, simprocAttr, slOf, intCs, hov]; refine hk _ _ ?_; clear hk k) | refine ono rfl ?_ | ((first | refine osplitG rfl (fun h => ?_) (fun h => ?_) | refine osplitB rfl (fun h => ?_) (fun h => ?_)) <;> (fail_if_success (simp only [eq_self, reduceCtorEq] at h))) | refine onx ?_ | refine onb ?_ | refine sreg ?_ | refine qT rfl ?_ | refine qF rfl ?_ | refine scondT rfl ?_ | refine scondF rfl ?_ | refine ocondP rfl (fun h => ?_) (fun h => ?_) | refine ocondB rfl (fun h => ?_) (fun h => ?_) | refine scondP rfl (fun h => ?_) (fun h => ?_) | refine scond rfl (fun h => ?_) (fun h => ?_) | refine oskip ?_ | refine oskipb ?_ | refine oret ?_ | refine sem_ret ?_ | refine sem_seq ?_ | refine sreg1 ?_)
              ((refine sem_mgo 10 hmix (by kernel_rfl) ?_; simp only [List.take_succ_cons, List.take_zero, List.drop_succ_cons, List.drop_zero, List.take_nil, List.drop_nil]); (repeat' (first | ((first | apply mop | apply mop0); (case hg => rfl); (case hq => rfl); intro k hk; simp (disch := omega) only [ev0, sl_cells, simprocAttr, slOf, CoolSite.cs, intCs]; refine hk _ _ rfl ?_; clear hk k) | (apply mno; (case hg => rfl)) | (apply mbox; (case hx => (simp only [wv, simprocAttr] <;> rfl)); (case hg => rfl); (case hall => rfl); (case hr => rfl); simp only [cellsOf, List.length_cons, List.length_nil, Nat.reduceAdd, Nat.zero_add, List.nil_append, List.cons_append, List.set_cons_zero, List.set_cons_succ, chunks, List.take_succ_cons, List.take_zero, List.drop_succ_cons, List.drop_zero]) | (apply mbldS; (case hb => (simp (disch := omega) only [ev0, sl_cells, simprocAttr] <;> rfl)); (case hg => rfl); (case hr => rfl); simp only [cellsOf, List.length_cons, List.length_nil, Nat.reduceAdd, Nat.zero_add, List.nil_append, List.cons_append, List.set_cons_zero, List.set_cons_succ, chunks, List.take_succ_cons, List.take_zero, List.drop_succ_cons, List.drop_zero]) | ((first | (apply msto (q := 0); (case hq => rfl)) | (apply msto (q := 1); (case hq => rfl)) | (apply msto (q := 2); (case hq => rfl)) | (apply msto (q := 3); (case hq => rfl))); (case hx => (simp only [wv, simprocAttr] <;> rfl)); (case haddr => (simp only [wv, simprocAttr] <;> rfl)); (case hg => rfl); (case hl1 => rfl); (case hl2 => rfl); (case hok => rfl); (case hr => rfl); simp only [cellsOf, List.length_cons, List.length_nil, Nat.reduceAdd, Nat.zero_add, List.nil_append, List.cons_append, List.set_cons_zero, List.set_cons_succ, chunks, List.take_succ_cons, List.take_zero, List.drop_succ_cons, List.drop_zero]) | (apply mnil; simp only [SlotR.fin, List.map_cons, List.map_nil, List.cons_append, List.nil_append, List.append_nil]) | (refine msplit rfl (fun h => ?_) (fun h => ?_) <;> simp only [h] <;> (try simp only [Bool.not_eq_true', Bool.not_eq_false', decide_eq_true_eq, decide_eq_false_iff_not] at h)))) <;> (repeat' (first | ((first | refine o1 rfl ?_ | refine o0 rfl ?_); intro k hk; simp (disch := omega) only [ev0, sl_cells, simprocAttr, slOf, CoolSite.cs, intCs]; refine hk _ _ ?_; clear hk k) | refine ono rfl ?_ | ((first | refine osplitG rfl (fun h => ?_) (fun h => ?_) | refine osplitB rfl (fun h => ?_) (fun h => ?_)) <;> (fail_if_success (simp only [eq_self, reduceCtorEq] at h))) | refine onx ?_ | refine onb ?_ | refine sreg ?_ | refine qT rfl ?_ | refine qF rfl ?_ | refine scondT rfl ?_ | refine scondF rfl ?_ | refine ocondP rfl (fun h => ?_) (fun h => ?_) | refine ocondB rfl (fun h => ?_) (fun h => ?_) | refine scondP rfl (fun h => ?_) (fun h => ?_) | refine scond rfl (fun h => ?_) (fun h => ?_) | refine oskip ?_ | refine oskipb ?_ | refine oret ?_ | refine sem_ret ?_ | refine sem_seq ?_ | refine sreg1 ?_)))
              ((refine sem_mgo 3 hmix (by kernel_rfl) ?_; simp only [List.take_succ_cons, List.take_zero, List.drop_succ_cons, List.drop_zero, List.take_nil, List.drop_nil]); (repeat' (first | ((first | apply mop | apply mop0); (case hg => rfl); (case hq => rfl); intro k hk; simp (disch := omega) only [ev0, sl_cells, simprocAttr, slOf, intCs, e1, e2]; refine hk _ _ rfl ?_; clear hk k) | (apply mno; (case hg => rfl)) | (apply mbox; (case hx => (simp only [wv, simprocAttr] <;> rfl)); (case hg => rfl); (case hall => rfl); (case hr => rfl); simp only [cellsOf, List.length_cons, List.length_nil, Nat.reduceAdd, Nat.zero_add, List.nil_append, List.cons_append, List.set_cons_zero, List.set_cons_succ, chunks, List.take_succ_cons, List.take_zero, List.drop_succ_cons, List.drop_zero]) | (apply mbldS; (case hb => (simp (disch := omega) only [ev0, sl_cells, simprocAttr] <;> rfl)); (case hg => rfl); (case hr => rfl); simp only [cellsOf, List.length_cons, List.length_nil, Nat.reduceAdd, Nat.zero_add, List.nil_append, List.cons_append, List.set_cons_zero, List.set_cons_succ, chunks, List.take_succ_cons, List.take_zero, List.drop_succ_cons, List.drop_zero]) | ((first | (apply msto (q := 0); (case hq => rfl)) | (apply msto (q := 1); (case hq => rfl)) | (apply msto (q := 2); (case hq => rfl)) | (apply msto (q := 3); (case hq => rfl))); (case hx => (simp only [wv, simprocAttr] <;> rfl)); (case haddr => (simp only [wv, simprocAttr] <;> rfl)); (case hg => rfl); (case hl1 => rfl); (case hl2 => rfl); (case hok => rfl); (case hr => rfl); simp only [cellsOf, List.length_cons, List.length_nil, Nat.reduceAdd, Nat.zero_add, List.nil_append, List.cons_append, List.set_cons_zero, List.set_cons_succ, chunks, List.take_succ_cons, List.take_zero, List.drop_succ_cons, List.drop_zero]) | (apply mnil; simp only [SlotR.fin, List.map_cons, List.map_nil, List.cons_append, List.nil_append, List.append_nil]) | (refine msplit rfl (fun h => ?_) (fun h => ?_) <;> simp only [h] <;> (try simp only [Bool.not_eq_true', Bool.not_eq_false', decide_eq_true_eq, decide_eq_false_iff_not] at h)))) <;> (repeat' (first | ((first | refine o1 rfl ?_ | refine o0 rfl ?_); intro k hk; simp (disch := omega) only [ev0, sl_cells, simprocAttr, slOf, intCs, e1, e2]; refine hk _ _ ?_; clear hk k) | refine ono rfl ?_ | ((first | refine osplitG rfl (fun h => ?_) (fun h => ?_) | refine osplitB rfl (fun h => ?_) (fun h => ?_)) <;> (fail_if_success (simp only [eq_self, reduceCtorEq] at h))) | refine onx ?_ | refine onb ?_ | refine sreg ?_ | refine qT rfl ?_ | refine qF rfl ?_ | refine scondT rfl ?_ | refine scondF rfl ?_ | refine ocondP rfl (fun h => ?_) (fun h => ?_) | refine ocondB rfl (fun h => ?_) (fun h => ?_) | refine scondP rfl (fun h => ?_) (fun h => ?_) | refine scond rfl (fun h => ?_) (fun h => ?_) | refine oskip ?_ | refine oskipb ?_ | refine oret ?_ | refine sem_ret ?_ | refine sem_seq ?_ | refine sreg1 ?_)))
              rw [← hwk]
              refine semL_dyn (R := fun ae ν => ∃ es', ae = .ret (.tup []) ∧ validQ t es' ∧ ν = aM t (setB b) es' (w ||| 2 ^ n) (lookL t (w ||| 2 ^ n) (weeksL t (o.take (i + 1))) A) (weeksL t (o.take (i + 1)))) rfl rfl (by exact hag1 es2 h4 (w ||| 2 ^ n) hor A hAl _) fun ae μ hr => ?_
              obtain ⟨es3, rfl, hv3, rfl⟩ := hr
              rw [hst]
              change semL _ _ _ ⟨(_, _) :: _, _⟩ _
              simp only [aM]
              repeat' (first | ((first | refine o1 rfl ?_ | refine o0 rfl ?_); intro k hk; simp (disch := omega) only [ev0, sl_cells, simprocAttr]; refine hk _ _ ?_; clear hk k) | refine ono rfl ?_ | ((first | refine osplitG rfl (fun h => ?_) (fun h => ?_) | refine osplitB rfl (fun h => ?_) (fun h => ?_)) <;> (fail_if_success (simp only [eq_self, reduceCtorEq] at h))) | refine onx ?_ | refine onb ?_ | refine sreg ?_ | refine qT rfl ?_ | refine qF rfl ?_ | refine scondT rfl ?_ | refine scondF rfl ?_ | refine ocondP rfl (fun h => ?_) (fun h => ?_) | refine ocondB rfl (fun h => ?_) (fun h => ?_) | refine scondP rfl (fun h => ?_) (fun h => ?_) | refine scond rfl (fun h => ?_) (fun h => ?_) | refine oskip ?_ | refine oskipb ?_ | refine oret ?_ | refine sem_ret ?_ | refine sem_seq ?_ | refine sreg1 ?_)
              refine onil (lnext (i + 1, w ||| 2 ^ n, es3) ⟨by simp only; omega, hor, hbits, hv3⟩ (by simp only; omega) ?_)
              (refine Le.same ?_; simp only [List.forall_mem_cons, List.forall_mem_nil, getE, selE, Nat.reduceBEq, List.not_mem_nil, false_implies, implies_true, and_true, true_and, and_self])
              simp [slOf]
            · have hi : i = o.length := by omega
              subst hi
              (refine sem_exit ?_; change sem _ _ _ _ _)
              have hfin : slOf intCs (againL t t.houses.length b o) = .sl t.houses.length fun j => intCs (((List.range t.houses.length).map (fun y => agF t b o y (o.length + 1))).getD j default) := by
                unfold slOf
                rw [againL_len]; rfl
              rw [hfin]
              generalize hA : (List.range t.houses.length).map (fun y => agF t b o y (o.length + 1)) = A at *
              have hAl : A.length = t.houses.length := by rw [← hA]; simp
              simp only [aM]
              refine sem_frzlist (enc := intCs) (l := A) 4 rfl (fun _ => rfl) ?_
              simp only [frzE, frzM, frzO, frzA, frzL, List.map_cons, List.map_nil, List.set_cons_zero, List.set_cons_succ, Nat.reduceEqDiff, if_true, if_false, and_self, Nat.le_refl, reduceIte, frz_sl, h4.bools.frz, hAl]
              repeat' (first | ((first | refine o1 rfl ?_ | refine o0 rfl ?_); intro k hk; simp (disch := omega) only [ev0, sl_cells, simprocAttr]; refine hk _ _ ?_; clear hk k) | refine ono rfl ?_ | ((first | refine osplitG rfl (fun h => ?_) (fun h => ?_) | refine osplitB rfl (fun h => ?_) (fun h => ?_)) <;> (fail_if_success (simp only [eq_self, reduceCtorEq] at h))) | refine onx ?_ | refine onb ?_ | refine sreg ?_ | refine qT rfl ?_ | refine qF rfl ?_ | refine scondT rfl ?_ | refine scondF rfl ?_ | refine ocondP rfl (fun h => ?_) (fun h => ?_) | refine ocondB rfl (fun h => ?_) (fun h => ?_) | refine scondP rfl (fun h => ?_) (fun h => ?_) | refine scond rfl (fun h => ?_) (fun h => ?_) | refine oskip ?_ | refine oskipb ?_ | refine oret ?_ | refine sem_ret ?_ | refine sem_seq ?_ | refine sreg1 ?_)
              exact ⟨_, rfl, _, ⟨rfl, es2, h4, rfl⟩, rfl, by simp⟩
end Go.Proofs.Ytnempffajbdneaa

/- The reckoning of weeks behind its checks. -/
set_option linter.unusedVariables false
set_option linter.unusedSimpArgs false
set_option maxRecDepth 8000
set_option maxHeartbeats 2000000
namespace Go.Tk
open Go Go.Av
/-- The memory behind a call that has bought coolers. -/
abbrev gM (t : CoolTown) (m : Nat) (es : ES) : List AObj := [.row 25 0 2 [t.cs], .row 25 0 2 [t.cs], .row 25 0 2 [t.cs], .map es, .row 96 0 4 [[slOf CoolHouse.cs t.houses, slOf CoolSite.cs t.sites, I m, .mp 3]]]
theorem valid_nil {t : CoolTown} : validQ t [] := fun p hp => by cases hp
end Go.Tk
namespace Go.Proofs.Ytnempffajbdneaa
open Go Go.Av Go.Tk
attribute [local irreducible] Holds sem semL ACalls FnIs levelB levM
section
variable {K : Ctx} (hP : K.P = Try.prog) (hGK : ∀ w w', K.G w → RowKit.Below w.heap.size w w' → K.G w')
include hP hGK
theorem given_ok (t : CoolTown) (hs : t.short) (l : List Int) (hl : l.length ≤ 1000) (hok : t.ok) (hc : coolersOk t.sites.length l) :
    ACalls K F.cool_given [.agg t.cs, slOf intCs l, B true] [.row 25 0 2 [t.cs]] fun ae ν => ae = .ret (.tup [.ptr 4 0 4 0 0, I 0]) ∧ ν = gM t (setB l) [] :=
  ((cool_given hP hGK t hs l hl true).imp (R' := fun ae ν => ae = .ret (.tup [.ptr 3 0 4 0 0, I 0]) ∧ ν = givM t (setB l)) fun ae ν hr => by rwa [if_pos ⟨hok, rfl, hc⟩] at hr).placed1 [] rfl rfl rfl rfl rfl rfl
theorem given_bad (t : CoolTown) (hs : t.short) (l : List Int) (hl : l.length ≤ 1000) (fine : Bool) (hn : ¬ (t.ok ∧ fine = true ∧ coolersOk t.sites.length l)) :
    ACalls K F.cool_given [.agg t.cs, slOf intCs l, B fine] [.row 25 0 2 [t.cs]] fun ae ν => ae = .ret (.tup [.nilp, I 2]) ∧ ν = [.row 25 0 2 [t.cs], .row 25 0 2 [t.cs]] :=
  ((cool_given hP hGK t hs l hl fine).imp (R' := fun ae ν => ae = .ret (.tup [.nilp, I 2]) ∧ ν = [.row 25 0 2 [t.cs]]) fun ae ν hr => by rwa [if_neg hn] at hr).placed1 [] rfl rfl rfl rfl rfl rfl
theorem ordered_at (t : CoolTown) (ht : t.ok) (b : List Int) (hb : coolersOk t.sites.length b) (o : List Int) (ho : o.length ≤ 1000) (es : ES) (hv : validQ t es) :
    ACalls K F.cool_bought_ordered [.ptr 4 0 4 0 0, slOf intCs o] (gM t (setB b) es) fun ae ν => ae = .ret (B (decide (orderOk b o))) ∧ ν = gM t (setB b) es := by
  have h := bought_at (R := fun ae es' => ae = .ret (B (decide (orderOk b o))) ∧ es' = es) ((bought_ordered hP hGK t ht b hb es o ho).imp fun ae ν hr => ⟨es, ⟨hr.1, rfl⟩, hr.2⟩) (fun ae es' hr => ⟨by rw [hr.2]; exact hv.bools, fun g => by rw [hr.1]; rfl⟩) hv.bools
    (μ2 := gM t (setB b) es) (args2 := [.ptr 4 0 4 0 0, slOf intCs o]) (p := 3) (q := 4) (by omega) rfl rfl rfl rfl
  exact h.imp fun ae ν hr => by
    obtain ⟨es', ⟨r1, rfl⟩, rfl⟩ := hr
    exact ⟨r1, rfl⟩
theorem again_at (t : CoolTown) (ht : t.ok) (b : List Int) (hb : coolersOk t.sites.length b) (o : List Int) (ho : o.length ≤ 100) (hoo : orderOk b o) (es : ES) (hv : validQ t es) :
    ACalls K F.cool_bought_again [.ptr 4 0 4 0 0, slOf intCs o] (gM t (setB b) es) fun ae ν => ∃ es', (ae = .ret (slOf intCs (againL t t.houses.length b o)) ∧ validQ t es') ∧ ν = gM t (setB b) es' :=
  bought_at (R := fun ae es' => ae = .ret (slOf intCs (againL t t.houses.length b o)) ∧ validQ t es') ((bought_again hP hGK t ht b hb es hv o ho hoo).imp fun ae ν hr => by
    obtain ⟨x, ⟨rfl, es', h1, rfl⟩, rfl⟩ := hr
    exact ⟨es', ⟨rfl, h1⟩, rfl⟩) (fun ae es' hr => ⟨hr.2.bools, fun g => by rw [hr.1]; rfl⟩) hv.bools (μ2 := gM t (setB b) es) (args2 := [.ptr 4 0 4 0 0, slOf intCs o]) (p := 3) (q := 4) (by omega) rfl rfl rfl rfl
end
variable {G : World → Prop} (hG : ∀ w w', G w → RowKit.Below w.heap.size w w' → G w')
include hG
theorem Again_long (t : CoolTown) (b o : List Int) (ho : 6 < o.length) (ho2 : o.length ≤ 1000) : Holds Try.prog G F.cool_Again [.agg t.cs, slOf intCs b, slOf intCs o] (.tup [.nilsl, I 3]) := by
  (refine holds_of_sem hG fn_cool_Again (by simp) fun w0 S0 hG0 D0 => ?_; unfold c_cool_Again cval enterEnv; simp only [List.zipIdx_cons, List.zipIdx_nil, List.map_cons, List.map_nil, Nat.zero_add, Nat.reduceAdd])
  repeat' (first | ((first | refine o1 rfl ?_ | refine o0 rfl ?_); intro k hk; simp (disch := omega) only [ev0, sl_cells, simprocAttr, slOf]; refine hk _ _ ?_; clear hk k) | refine ono rfl ?_ | ((first | refine osplitG rfl (fun h => ?_) (fun h => ?_) | refine osplitB rfl (fun h => ?_) (fun h => ?_)) <;> (fail_if_success (simp only [eq_self, reduceCtorEq] at h))) | refine onx ?_ | refine onb ?_ | refine sreg ?_ | refine qT rfl ?_ | refine qF rfl ?_ | refine scondT rfl ?_ | refine scondF rfl ?_ | refine ocondP rfl (fun h => ?_) (fun h => ?_) | refine ocondB rfl (fun h => ?_) (fun h => ?_) | refine scondP rfl (fun h => ?_) (fun h => ?_) | refine scond rfl (fun h => ?_) (fun h => ?_) | refine oskip ?_ | refine oskipb ?_ | refine oret ?_ | refine sem_ret ?_ | refine sem_seq ?_ | refine sreg1 ?_)
  all_goals first
    | exact ⟨_, rfl, _, rfl, tree_eq rfl rfl⟩
    | (exfalso; (try simp only [Bool.not_eq_true', Bool.not_eq_false', decide_eq_true_eq, decide_eq_false_iff_not, ne_eq, Decidable.not_not] at *); first | omega | contradiction | (simp only [*, Bool.true_eq_false, Bool.false_eq_true] at *; done))
theorem Again_bad (t : CoolTown) (hs : t.short) (b o : List Int) (ho : o.length ≤ 6) (hbl : b.length ≤ 1000) (hn : ¬ ((t.ok ∧ coolersOk t.sites.length b) ∧ orderOk b o)) : Holds Try.prog G F.cool_Again [.agg t.cs, slOf intCs b, slOf intCs o] (.tup [.nilsl, I 2]) := by
  by_cases hok : t.ok ∧ coolersOk t.sites.length b
  · have hno : decide (orderOk b o) = false := decide_eq_false fun q => hn ⟨hok, q⟩
    refine holds_of_sem hG fn_cool_Again (by simp) fun w0 S0 hG0 D0 => ?_
    have hgi := given_ok (K := ⟨Try.prog, w0, S0, G, hG0⟩) rfl hG t hs b hbl hok.1 hok.2
    have hor := ordered_at (K := ⟨Try.prog, w0, S0, G, hG0⟩) rfl hG t hok.1 b hok.2 o (by omega) [] valid_nil
    rw [hno] at hor
    unfold c_cool_Again cval enterEnv
    simp only [List.zipIdx_cons, List.zipIdx_nil, List.map_cons, List.map_nil, Nat.zero_add, Nat.reduceAdd]
    repeat' (first | ((first | refine o1 rfl ?_ | refine o0 rfl ?_); intro k hk; simp (disch := omega) only [ev0, sl_cells, simprocAttr, slOf]; refine hk _ _ ?_; clear hk k) | refine ono rfl ?_ | ((first | refine osplitG rfl (fun h => ?_) (fun h => ?_) | refine osplitB rfl (fun h => ?_) (fun h => ?_)) <;> (fail_if_success (simp only [eq_self, reduceCtorEq] at h))) | refine onx ?_ | refine onb ?_ | refine sreg ?_ | refine qT rfl ?_ | refine qF rfl ?_ | refine scondT rfl ?_ | refine scondF rfl ?_ | refine ocondP rfl (fun h => ?_) (fun h => ?_) | refine ocondB rfl (fun h => ?_) (fun h => ?_) | refine scondP rfl (fun h => ?_) (fun h => ?_) | refine scond rfl (fun h => ?_) (fun h => ?_) | refine oskip ?_ | refine oskipb ?_ | refine oret ?_ | refine sem_ret ?_ | refine sem_seq ?_ | refine sreg1 ?_)
    · (exfalso; (try simp only [Bool.not_eq_true', Bool.not_eq_false', decide_eq_true_eq, decide_eq_false_iff_not, ne_eq, Decidable.not_not] at *); first | omega | contradiction | (simp only [*, Bool.true_eq_false, Bool.false_eq_true] at *; done))
    · refine semL_acall rfl (by exact hgi) fun ae μ hr => ?_
      obtain ⟨rfl, rfl⟩ := hr
      change semL _ _ _ ⟨(_, _) :: _, _⟩ _
      simp only [gM]
      repeat' (first | ((first | refine o1 rfl ?_ | refine o0 rfl ?_); intro k hk; simp (disch := omega) only [ev0, sl_cells, simprocAttr]; refine hk _ _ ?_; clear hk k) | refine ono rfl ?_ | ((first | refine osplitG rfl (fun h => ?_) (fun h => ?_) | refine osplitB rfl (fun h => ?_) (fun h => ?_)) <;> (fail_if_success (simp only [eq_self, reduceCtorEq] at h))) | refine onx ?_ | refine onb ?_ | refine sreg ?_ | refine qT rfl ?_ | refine qF rfl ?_ | refine scondT rfl ?_ | refine scondF rfl ?_ | refine ocondP rfl (fun h => ?_) (fun h => ?_) | refine ocondB rfl (fun h => ?_) (fun h => ?_) | refine scondP rfl (fun h => ?_) (fun h => ?_) | refine scond rfl (fun h => ?_) (fun h => ?_) | refine oskip ?_ | refine oskipb ?_ | refine oret ?_ | refine sem_ret ?_ | refine sem_seq ?_ | refine sreg1 ?_)
      refine semL_acall rfl (by exact hor) fun ae μ hr => ?_
      obtain ⟨rfl, rfl⟩ := hr
      change semL _ _ _ ⟨(_, _) :: _, _⟩ _
      simp only [gM]
      repeat' (first | ((first | refine o1 rfl ?_ | refine o0 rfl ?_); intro k hk; simp (disch := omega) only [ev0, sl_cells, simprocAttr]; refine hk _ _ ?_; clear hk k) | refine ono rfl ?_ | ((first | refine osplitG rfl (fun h => ?_) (fun h => ?_) | refine osplitB rfl (fun h => ?_) (fun h => ?_)) <;> (fail_if_success (simp only [eq_self, reduceCtorEq] at h))) | refine onx ?_ | refine onb ?_ | refine sreg ?_ | refine qT rfl ?_ | refine qF rfl ?_ | refine scondT rfl ?_ | refine scondF rfl ?_ | refine ocondP rfl (fun h => ?_) (fun h => ?_) | refine ocondB rfl (fun h => ?_) (fun h => ?_) | refine scondP rfl (fun h => ?_) (fun h => ?_) | refine scond rfl (fun h => ?_) (fun h => ?_) | refine oskip ?_ | refine oskipb ?_ | refine oret ?_ | refine sem_ret ?_ | refine sem_seq ?_ | refine sreg1 ?_)
      exact ⟨_, rfl, _, rfl, tree_eq rfl rfl⟩
  · refine holds_of_sem hG fn_cool_Again (by simp) fun w0 S0 hG0 D0 => ?_
    have hgi := given_bad (K := ⟨Try.prog, w0, S0, G, hG0⟩) rfl hG t hs b hbl true (fun q => hok ⟨q.1, q.2.2⟩)
    unfold c_cool_Again cval enterEnv
    simp only [List.zipIdx_cons, List.zipIdx_nil, List.map_cons, List.map_nil, Nat.zero_add, Nat.reduceAdd]
    repeat' (first | ((first | refine o1 rfl ?_ | refine o0 rfl ?_); intro k hk; simp (disch := omega) only [ev0, sl_cells, simprocAttr, slOf]; refine hk _ _ ?_; clear hk k) | refine ono rfl ?_ | ((first | refine osplitG rfl (fun h => ?_) (fun h => ?_) | refine osplitB rfl (fun h => ?_) (fun h => ?_)) <;> (fail_if_success (simp only [eq_self, reduceCtorEq] at h))) | refine onx ?_ | refine onb ?_ | refine sreg ?_ | refine qT rfl ?_ | refine qF rfl ?_ | refine scondT rfl ?_ | refine scondF rfl ?_ | refine ocondP rfl (fun h => ?_) (fun h => ?_) | refine ocondB rfl (fun h => ?_) (fun h => ?_) | refine scondP rfl (fun h => ?_) (fun h => ?_) | refine scond rfl (fun h => ?_) (fun h => ?_) | refine oskip ?_ | refine oskipb ?_ | refine oret ?_ | refine sem_ret ?_ | refine sem_seq ?_ | refine sreg1 ?_)
    · (exfalso; (try simp only [Bool.not_eq_true', Bool.not_eq_false', decide_eq_true_eq, decide_eq_false_iff_not, ne_eq, Decidable.not_not] at *); first | omega | contradiction | (simp only [*, Bool.true_eq_false, Bool.false_eq_true] at *; done))
    · refine semL_acall rfl (by exact hgi) fun ae μ hr => ?_
      obtain ⟨rfl, rfl⟩ := hr
      change semL _ _ _ ⟨(_, _) :: _, _⟩ _
      repeat' (first | ((first | refine o1 rfl ?_ | refine o0 rfl ?_); intro k hk; simp (disch := omega) only [ev0, sl_cells, simprocAttr]; refine hk _ _ ?_; clear hk k) | refine ono rfl ?_ | ((first | refine osplitG rfl (fun h => ?_) (fun h => ?_) | refine osplitB rfl (fun h => ?_) (fun h => ?_)) <;> (fail_if_success (simp only [eq_self, reduceCtorEq] at h))) | refine onx ?_ | refine onb ?_ | refine sreg ?_ | refine qT rfl ?_ | refine qF rfl ?_ | refine scondT rfl ?_ | refine scondF rfl ?_ | refine ocondP rfl (fun h => ?_) (fun h => ?_) | refine ocondB rfl (fun h => ?_) (fun h => ?_) | refine scondP rfl (fun h => ?_) (fun h => ?_) | refine scond rfl (fun h => ?_) (fun h => ?_) | refine oskip ?_ | refine oskipb ?_ | refine oret ?_ | refine sem_ret ?_ | refine sem_seq ?_ | refine sreg1 ?_)
      exact ⟨_, rfl, _, rfl, tree_eq rfl rfl⟩
theorem Again_ok (t : CoolTown) (hs : t.short) (b o : List Int) (ho : o.length ≤ 6) (hbl : b.length ≤ 1000) (hok : t.ok) (hc : coolersOk t.sites.length b) (hoo : orderOk b o) : Holds Try.prog G F.cool_Again [.agg t.cs, slOf intCs b, slOf intCs o] (.tup [slOf intCs (againL t t.houses.length b o), I 0]) := by
  refine holds_of_sem hG fn_cool_Again (by simp) fun w0 S0 hG0 D0 => ?_
  have hgi := given_ok (K := ⟨Try.prog, w0, S0, G, hG0⟩) rfl hG t hs b hbl hok hc
  have hor := ordered_at (K := ⟨Try.prog, w0, S0, G, hG0⟩) rfl hG t hok b hc o (by omega) [] valid_nil
  have hag := again_at (K := ⟨Try.prog, w0, S0, G, hG0⟩) rfl hG t hok b hc o (by omega) hoo [] valid_nil
  rw [decide_eq_true hoo] at hor
  unfold c_cool_Again cval enterEnv
  simp only [List.zipIdx_cons, List.zipIdx_nil, List.map_cons, List.map_nil, Nat.zero_add, Nat.reduceAdd]
  repeat' (first | ((first | refine o1 rfl ?_ | refine o0 rfl ?_); intro k hk; simp (disch := omega) only [ev0, sl_cells, simprocAttr, slOf]; refine hk _ _ ?_; clear hk k) | refine ono rfl ?_ | ((first | refine osplitG rfl (fun h => ?_) (fun h => ?_) | refine osplitB rfl (fun h => ?_) (fun h => ?_)) <;> (fail_if_success (simp only [eq_self, reduceCtorEq] at h))) | refine onx ?_ | refine onb ?_ | refine sreg ?_ | refine qT rfl ?_ | refine qF rfl ?_ | refine scondT rfl ?_ | refine scondF rfl ?_ | refine ocondP rfl (fun h => ?_) (fun h => ?_) | refine ocondB rfl (fun h => ?_) (fun h => ?_) | refine scondP rfl (fun h => ?_) (fun h => ?_) | refine scond rfl (fun h => ?_) (fun h => ?_) | refine oskip ?_ | refine oskipb ?_ | refine oret ?_ | refine sem_ret ?_ | refine sem_seq ?_ | refine sreg1 ?_)
  · (exfalso; (try simp only [Bool.not_eq_true', Bool.not_eq_false', decide_eq_true_eq, decide_eq_false_iff_not, ne_eq, Decidable.not_not] at *); first | omega | contradiction | (simp only [*, Bool.true_eq_false, Bool.false_eq_true] at *; done))
  · refine semL_acall rfl (by exact hgi) fun ae μ hr => ?_
    obtain ⟨rfl, rfl⟩ := hr
    change semL _ _ _ ⟨(_, _) :: _, _⟩ _
    simp only [gM]
    repeat' (first | ((first | refine o1 rfl ?_ | refine o0 rfl ?_); intro k hk; simp (disch := omega) only [ev0, sl_cells, simprocAttr]; refine hk _ _ ?_; clear hk k) | refine ono rfl ?_ | ((first | refine osplitG rfl (fun h => ?_) (fun h => ?_) | refine osplitB rfl (fun h => ?_) (fun h => ?_)) <;> (fail_if_success (simp only [eq_self, reduceCtorEq] at h))) | refine onx ?_ | refine onb ?_ | refine sreg ?_ | refine qT rfl ?_ | refine qF rfl ?_ | refine scondT rfl ?_ | refine scondF rfl ?_ | refine ocondP rfl (fun h => ?_) (fun h => ?_) | refine ocondB rfl (fun h => ?_) (fun h => ?_) | refine scondP rfl (fun h => ?_) (fun h => ?_) | refine scond rfl (fun h => ?_) (fun h => ?_) | refine oskip ?_ | refine oskipb ?_ | refine oret ?_ | refine sem_ret ?_ | refine sem_seq ?_ | refine sreg1 ?_)
    refine semL_acall rfl (by exact hor) fun ae μ hr => ?_
    obtain ⟨rfl, rfl⟩ := hr
    change semL _ _ _ ⟨(_, _) :: _, _⟩ _
    simp only [gM]
    repeat' (first | ((first | refine o1 rfl ?_ | refine o0 rfl ?_); intro k hk; simp (disch := omega) only [ev0, sl_cells, simprocAttr]; refine hk _ _ ?_; clear hk k) | refine ono rfl ?_ | ((first | refine osplitG rfl (fun h => ?_) (fun h => ?_) | refine osplitB rfl (fun h => ?_) (fun h => ?_)) <;> (fail_if_success (simp only [eq_self, reduceCtorEq] at h))) | refine onx ?_ | refine onb ?_ | refine sreg ?_ | refine qT rfl ?_ | refine qF rfl ?_ | refine scondT rfl ?_ | refine scondF rfl ?_ | refine ocondP rfl (fun h => ?_) (fun h => ?_) | refine ocondB rfl (fun h => ?_) (fun h => ?_) | refine scondP rfl (fun h => ?_) (fun h => ?_) | refine scond rfl (fun h => ?_) (fun h => ?_) | refine oskip ?_ | refine oskipb ?_ | refine oret ?_ | refine sem_ret ?_ | refine sem_seq ?_ | refine sreg1 ?_)
    refine semL_acall rfl (by exact hag) fun ae μ hr => ?_
    obtain ⟨es', ⟨rfl, hv⟩, rfl⟩ := hr
    change semL _ _ _ ⟨(_, _) :: _, _⟩ _
    repeat' (first | ((first | refine o1 rfl ?_ | refine o0 rfl ?_); intro k hk; simp (disch := omega) only [ev0, sl_cells, simprocAttr]; refine hk _ _ ?_; clear hk k) | refine ono rfl ?_ | ((first | refine osplitG rfl (fun h => ?_) (fun h => ?_) | refine osplitB rfl (fun h => ?_) (fun h => ?_)) <;> (fail_if_success (simp only [eq_self, reduceCtorEq] at h))) | refine onx ?_ | refine onb ?_ | refine sreg ?_ | refine qT rfl ?_ | refine qF rfl ?_ | refine scondT rfl ?_ | refine scondF rfl ?_ | refine ocondP rfl (fun h => ?_) (fun h => ?_) | refine ocondB rfl (fun h => ?_) (fun h => ?_) | refine scondP rfl (fun h => ?_) (fun h => ?_) | refine scond rfl (fun h => ?_) (fun h => ?_) | refine oskip ?_ | refine oskipb ?_ | refine oret ?_ | refine sem_ret ?_ | refine sem_seq ?_ | refine sreg1 ?_)
    exact ⟨_, rfl, _, rfl, tree_eq rfl rfl⟩
end Go.Proofs.Ytnempffajbdneaa
