/- In which week each house is level again, the order being one that the caller goes on to write. -/
import Derived.Test.YtnempffajbdneaaPC19
import Derived.Test.YtnempffajbdneaaPAv39
import Derived.Test.YtnempffajbdneaaPC37
set_option linter.unusedVariables false
set_option linter.unusedSimpArgs false
set_option maxRecDepth 8000
set_option maxHeartbeats 2000000
namespace Go.Tk
open Go Go.Av
/-- What was bought, and a row that holds an order. -/
abbrev buyH (g : Nat) (o : List Int) (t : CoolTown) (m : Nat) (es : ES) : List AObj := [.map es, .row 96 0 4 [[slOf CoolHouse.cs t.houses, slOf CoolSite.cs t.sites, I m, .mp 0]], .row 3 g 1 (rowL intCs o)]
abbrev aH (g : Nat) (o : List Int) (t : CoolTown) (m : Nat) (es : ES) (w : Nat) (L : List Int) (k : Int) : List AObj := [.map es, .row 96 0 4 [[slOf CoolHouse.cs t.houses, slOf CoolSite.cs t.sites, I m, .mp 0]], .row 3 g 1 (rowL intCs o), .row 90 0 1 [[.ptr 1 0 4 0 0]], .row 86 0 1 [[I w]], .row 3 0 1 (rowL intCs L), .row 28 0 1 [[.hsl 5 0 1 t.houses.length]], .row 3 0 1 [[I k]]]
end Go.Tk
namespace Go.Proofs.Ytnempffajbdneaa
open Go Go.Av Go.Tk
attribute [local irreducible] Holds sem semL ACalls FnIs levelB levM
variable {K : Ctx} (hP : K.P = Try.prog) (hGK : ∀ w w', K.G w → RowKit.Below w.heap.size w w' → K.G w')
include hP hGK
theorem again_1H (g : Nat) (o : List Int) (t : CoolTown) (ht : t.ok) (m : Nat) (es : ES) (hv : validQ t es) (w : Nat) (hw : w < 2 ^ t.sites.length) (L : List Int) (hL : L.length = t.houses.length) (k : Int) :
    ACalls K F.cool_bought_again_1 [.ptr 6 0 1 0 0, .ptr 3 0 1 0 0, .ptr 4 0 1 0 0, .ptr 7 0 1 0 0] (aH g o t m es w L k) fun ae ν => ∃ es', ae = .ret (.tup []) ∧ validQ t es' ∧ ν = aH g o t m es' w (lookL t w k L) k := by
  have hlev := fun (es : ES) (hv : validQ t es) (y : Nat) (hy : y < t.houses.length) (L' : List Int) => level_at hP hGK t ht m es hv y hy 0 (by omega) w hw (μ2 := aH g o t m es w L' k) (p := 0) (q := 1) (by omega) rfl rfl
  obtain ⟨P, w0, S0, G, hG0⟩ := K
  simp only at hP hGK
  subst hP
  have hn := ht.1
  refine acalls_of_sem fn_cool_bought_again_1 (by simp) fun D => ?_
  unfold c_cool_bought_again_1 cval enterEnv aH
  simp only [List.zipIdx_cons, List.zipIdx_nil, List.map_cons, List.map_nil, Nat.zero_add, Nat.reduceAdd]
  repeat' (first | ((first | refine o1 rfl ?_ | refine o0 rfl ?_); intro k hk; simp (disch := omega) only [ev0, sl_cells, simprocAttr]; refine hk _ _ ?_; clear hk k) | refine ono rfl ?_ | ((first | refine osplitG rfl (fun h => ?_) (fun h => ?_) | refine osplitB rfl (fun h => ?_) (fun h => ?_)) <;> (fail_if_success (simp only [eq_self, reduceCtorEq] at h))) | refine onx ?_ | refine onb ?_ | refine sreg ?_ | refine qT rfl ?_ | refine qF rfl ?_ | refine scondT rfl ?_ | refine scondF rfl ?_ | refine ocondP rfl (fun h => ?_) (fun h => ?_) | refine ocondB rfl (fun h => ?_) (fun h => ?_) | refine scondP rfl (fun h => ?_) (fun h => ?_) | refine scond rfl (fun h => ?_) (fun h => ?_) | refine oskip ?_ | refine oskipb ?_ | refine oret ?_ | refine sem_ret ?_ | refine sem_seq ?_ | refine sreg1 ?_)
  refine sem_block ?_
  
  refine sem_loop (α := Nat × List Int × ES) (fun x => ⟨[(0, .ptr 6 0 1 0 0), (1, .ptr 3 0 1 0 0), (2, .ptr 4 0 1 0 0), (3, .ptr 7 0 1 0 0), (6, I t.houses.length), (7, I x.1)], aH g o t m x.2.2 w x.2.1 k⟩) (fun x => x.1 ≤ t.houses.length ∧ x.2.1.length = t.houses.length ∧ validQ t x.2.2 ∧ ∀ j, x.2.1.getD j default = if j < x.1 then look1 t w k L j else L.getD j default) (fun x => t.houses.length - x.1) (0, L, es) ⟨Nat.zero_le _, hL, hv, fun j => by simp⟩ ?_ ?_
  · (refine Le.same ?_; simp only [List.forall_mem_cons, List.forall_mem_nil, getE, selE, Nat.reduceBEq, List.not_mem_nil, false_implies, implies_true, and_true, true_and, and_self])
    simp
  · rintro ⟨y, L2, es2⟩ ⟨h1, h2, h3, h4⟩
    simp only at h1 h2 h3 h4
    repeat' (first | ((first | refine o1 rfl ?_ | refine o0 rfl ?_); intro k hk; simp (disch := omega) only [ev0, sl_cells, simprocAttr]; refine hk _ _ ?_; clear hk k) | refine ono rfl ?_ | ((first | refine osplitG rfl (fun h => ?_) (fun h => ?_) | refine osplitB rfl (fun h => ?_) (fun h => ?_)) <;> (fail_if_success (simp only [eq_self, reduceCtorEq] at h))) | refine onx ?_ | refine onb ?_ | refine sreg ?_ | refine qT rfl ?_ | refine qF rfl ?_ | refine scondT rfl ?_ | refine scondF rfl ?_ | refine ocondP rfl (fun h => ?_) (fun h => ?_) | refine ocondB rfl (fun h => ?_) (fun h => ?_) | refine scondP rfl (fun h => ?_) (fun h => ?_) | refine scond rfl (fun h => ?_) (fun h => ?_) | refine oskip ?_ | refine oskipb ?_ | refine oret ?_ | refine sem_ret ?_ | refine sem_seq ?_ | refine sreg1 ?_)
    · have hy : y < t.houses.length := by omega
      have hlv := hlev es2 h3 y hy L2
      have h4y := h4 y
      rw [if_neg (Nat.lt_irrefl _)] at h4y
      refine sem_block ?_
      by_cases hneg : L2.getD y default < 0
      · repeat' (first | ((first | refine o1 rfl ?_ | refine o0 rfl ?_); intro k hk; simp (disch := omega) only [ev0, sl_cells, simprocAttr, rowL_get, rowL_len, intCs, hneg, decide_true]; refine hk _ _ ?_; clear hk k) | refine ono rfl ?_ | ((first | refine osplitG rfl (fun h => ?_) (fun h => ?_) | refine osplitB rfl (fun h => ?_) (fun h => ?_)) <;> (fail_if_success (simp only [eq_self, reduceCtorEq] at h))) | refine onx ?_ | refine onb ?_ | refine sreg ?_ | refine qT rfl ?_ | refine qF rfl ?_ | refine scondT rfl ?_ | refine scondF rfl ?_ | refine ocondP rfl (fun h => ?_) (fun h => ?_) | refine ocondB rfl (fun h => ?_) (fun h => ?_) | refine scondP rfl (fun h => ?_) (fun h => ?_) | refine scond rfl (fun h => ?_) (fun h => ?_) | refine oskip ?_ | refine oskipb ?_ | refine oret ?_ | refine sem_ret ?_ | refine sem_seq ?_ | refine sreg1 ?_)
        refine semL_acall rfl (by exact hlv) fun ae μ hr => ?_
        obtain ⟨es3, ⟨rfl, h3'⟩, rfl⟩ := hr
        change semL _ _ _ ⟨(_, B (levM t y 0 w)) :: _, _⟩ _
        simp only [List.set_cons_zero]
        cases hlm : levM t y 0 w with
        | true =>
          repeat' (first | ((first | refine o1 rfl ?_ | refine o0 rfl ?_); intro k hk; simp (disch := omega) only [ev0, sl_cells, simprocAttr, rowL_get, rowL_len, intCs]; refine hk _ _ ?_; clear hk k) | refine ono rfl ?_ | ((first | refine osplitG rfl (fun h => ?_) (fun h => ?_) | refine osplitB rfl (fun h => ?_) (fun h => ?_)) <;> (fail_if_success (simp only [eq_self, reduceCtorEq] at h))) | refine onx ?_ | refine onb ?_ | refine sreg ?_ | refine qT rfl ?_ | refine qF rfl ?_ | refine scondT rfl ?_ | refine scondF rfl ?_ | refine ocondP rfl (fun h => ?_) (fun h => ?_) | refine ocondB rfl (fun h => ?_) (fun h => ?_) | refine scondP rfl (fun h => ?_) (fun h => ?_) | refine scond rfl (fun h => ?_) (fun h => ?_) | refine oskip ?_ | refine oskipb ?_ | refine oret ?_ | refine sem_ret ?_ | refine sem_seq ?_ | refine sreg1 ?_)
          refine onil (lnext (y + 1, L2.set y k, es3) ⟨by simp only; omega, by simp only [List.length_set]; exact h2, h3', fun j => ?_⟩ (by simp only; omega) ?_)
          · simp only
            by_cases e : j = y
            · subst e
              rw [if_pos (Nat.lt_succ_self _), look1, ← h4y, if_pos ⟨hneg, hlm⟩]
              simp [List.getD, h2, hy]
            · have := h4 j
              rw [show (L2.set y k).getD j default = L2.getD j default by simp [List.getD, List.getElem?_set_ne (Ne.symm e)], this]
              by_cases e2 : j < y
              · rw [if_pos e2, if_pos (by omega)]
              · rw [if_neg e2, if_neg (by omega)]
          · rw [rowL_set]
            (refine Le.same ?_; simp only [List.forall_mem_cons, List.forall_mem_nil, getE, selE, Nat.reduceBEq, List.not_mem_nil, false_implies, implies_true, and_true, true_and, and_self])
            simp
        | false =>
          repeat' (first | ((first | refine o1 rfl ?_ | refine o0 rfl ?_); intro k hk; simp (disch := omega) only [ev0, sl_cells, simprocAttr, rowL_get, rowL_len, intCs]; refine hk _ _ ?_; clear hk k) | refine ono rfl ?_ | ((first | refine osplitG rfl (fun h => ?_) (fun h => ?_) | refine osplitB rfl (fun h => ?_) (fun h => ?_)) <;> (fail_if_success (simp only [eq_self, reduceCtorEq] at h))) | refine onx ?_ | refine onb ?_ | refine sreg ?_ | refine qT rfl ?_ | refine qF rfl ?_ | refine scondT rfl ?_ | refine scondF rfl ?_ | refine ocondP rfl (fun h => ?_) (fun h => ?_) | refine ocondB rfl (fun h => ?_) (fun h => ?_) | refine scondP rfl (fun h => ?_) (fun h => ?_) | refine scond rfl (fun h => ?_) (fun h => ?_) | refine oskip ?_ | refine oskipb ?_ | refine oret ?_ | refine sem_ret ?_ | refine sem_seq ?_ | refine sreg1 ?_)
          refine onil (lnext (y + 1, L2, es3) ⟨by simp only; omega, h2, h3', fun j => ?_⟩ (by simp only; omega) ?_)
          · simp only
            rw [h4 j]
            by_cases e2 : j < y
            · rw [if_pos e2, if_pos (by omega)]
            · rw [if_neg e2]
              by_cases e : j = y
              · subst e
                rw [if_pos (Nat.lt_succ_self _), look1, if_neg (fun q => by rw [hlm] at q; cases q.2)]
              · rw [if_neg (by omega)]
          · (refine Le.same ?_; simp only [List.forall_mem_cons, List.forall_mem_nil, getE, selE, Nat.reduceBEq, List.not_mem_nil, false_implies, implies_true, and_true, true_and, and_self])
            simp
      · repeat' (first | ((first | refine o1 rfl ?_ | refine o0 rfl ?_); intro k hk; simp (disch := omega) only [ev0, sl_cells, simprocAttr, rowL_get, rowL_len, intCs, hneg, decide_false]; refine hk _ _ ?_; clear hk k) | refine ono rfl ?_ | ((first | refine osplitG rfl (fun h => ?_) (fun h => ?_) | refine osplitB rfl (fun h => ?_) (fun h => ?_)) <;> (fail_if_success (simp only [eq_self, reduceCtorEq] at h))) | refine onx ?_ | refine onb ?_ | refine sreg ?_ | refine qT rfl ?_ | refine qF rfl ?_ | refine scondT rfl ?_ | refine scondF rfl ?_ | refine ocondP rfl (fun h => ?_) (fun h => ?_) | refine ocondB rfl (fun h => ?_) (fun h => ?_) | refine scondP rfl (fun h => ?_) (fun h => ?_) | refine scond rfl (fun h => ?_) (fun h => ?_) | refine oskip ?_ | refine oskipb ?_ | refine oret ?_ | refine sem_ret ?_ | refine sem_seq ?_ | refine sreg1 ?_)
        refine onil (lnext (y + 1, L2, es2) ⟨by simp only; omega, h2, h3, fun j => ?_⟩ (by simp only; omega) ?_)
        · simp only
          rw [h4 j]
          by_cases e2 : j < y
          · rw [if_pos e2, if_pos (by omega)]
          · rw [if_neg e2]
            by_cases e : j = y
            · subst e
              rw [if_pos (Nat.lt_succ_self _), look1, if_neg (fun q => hneg (by rw [h4y]; exact q.1))]
            · rw [if_neg (by omega)]
        · (refine Le.same ?_; simp only [List.forall_mem_cons, List.forall_mem_nil, getE, selE, Nat.reduceBEq, List.not_mem_nil, false_implies, implies_true, and_true, true_and, and_self])
          simp
    · have hy : y = t.houses.length := by omega
      have hfin : L2 = lookL t w k L := by
        apply List.ext_getElem
        · rw [h2]; simp [lookL, hL]
        · intro j e1 e2
          have := h4 j
          rw [if_pos (by omega), getD_lt e1] at this
          rw [this]; simp [lookL]
      refine sem_exit ?_
      exact ⟨_, rfl, es2, rfl, h3, by rw [hfin]⟩

theorem bought_againH (g : Nat) (t : CoolTown) (ht : t.ok) (b : List Int) (hb : coolersOk t.sites.length b) (es : ES) (hv : validQ t es) (o : List Int) (ho : o.length ≤ 100) (hoo : orderOk b o) :
    ACalls K F.cool_bought_again [.ptr 1 0 4 0 0, .hsl 2 g 1 o.length] (buyH g o t (setB b) es) fun ae ν => ∃ x, (x = slOf intCs (againL t t.houses.length b o) ∧ ∃ es', validQ t es' ∧ ν = buyH g o t (setB b) es') ∧ ae = .ret x := by
  have hmb := setB_lt hb.mem
  have hns := ht.2.1
  have hnh := ht.1
  have hp10 : 2 ^ t.sites.length ≤ 2 ^ 10 := Nat.pow_le_pow_right (by omega) ht.2.1.2
  have hm2 : setB b < 1024 := Nat.lt_of_lt_of_le hmb hp10
  have hob : ∀ x ∈ o, 0 ≤ x ∧ x < t.sites.length := all_getD.2 fun i hi => hb.mem _ (hoo i hi).1
  have hag1 := again_1H hP hGK g o t ht (setB b)
  obtain ⟨P, w0, S0, G, hG0⟩ := K
  simp only at hP hGK
  subst hP
  refine ACalls.dropE (R := fun x ν => x = slOf intCs (againL t t.houses.length b o) ∧ ∃ es', validQ t es' ∧ ν = buyH g o t (setB b) es') (acalls_of_sem fn_cool_bought_again (by simp) fun D => ?_) ?_
  rotate_left
  · rintro x ν ⟨rfl, es', hv', rfl⟩
    exact ⟨rfl, by simp [refM, refO, refA, refL, hv'.bools.ref, slOf, rowL_all (enc := intCs) (fun _ _ => rfl)]⟩
  unfold c_cool_bought_again cval enterEnv buyH
  simp only [List.zipIdx_cons, List.zipIdx_nil, List.map_cons, List.map_nil, Nat.zero_add, Nat.reduceAdd, List.cons_append, List.nil_append]
  repeat' (first | ((first | refine o1 rfl ?_ | refine o0 rfl ?_); intro k hk; simp (disch := omega) only [ev0, sl_cells, simprocAttr, slOf]; refine hk _ _ ?_; clear hk k) | refine ono rfl ?_ | ((first | refine osplitG rfl (fun h => ?_) (fun h => ?_) | refine osplitB rfl (fun h => ?_) (fun h => ?_)) <;> (fail_if_success (simp only [eq_self, reduceCtorEq] at h))) | refine onx ?_ | refine onb ?_ | refine sreg ?_ | refine qT rfl ?_ | refine qF rfl ?_ | refine scondT rfl ?_ | refine scondF rfl ?_ | refine ocondP rfl (fun h => ?_) (fun h => ?_) | refine ocondB rfl (fun h => ?_) (fun h => ?_) | refine scondP rfl (fun h => ?_) (fun h => ?_) | refine scond rfl (fun h => ?_) (fun h => ?_) | refine oskip ?_ | refine oskipb ?_ | refine oret ?_ | refine sem_ret ?_ | refine sem_seq ?_ | refine sreg1 ?_)
  refine sem_block ?_
  
  refine sem_loop (α := Nat × Nat) (fun x => ⟨[(1, .hsl 2 g 1 o.length), (2, .ptr 3 0 1 0 0), (5, .ptr 4 0 1 0 0), (18, .hsl 2 g 1 o.length), (19, I o.length), (20, I x.1)], buyH g o t (setB b) es ++ [.row 90 0 1 [[.ptr 1 0 4 0 0]], .row 86 0 1 [[I x.2]]]⟩) (fun x => x.1 ≤ o.length ∧ x.2 < 2 ^ t.sites.length ∧ ∀ j : Nat, x.2.testBit j = true ↔ (j : Int) ∈ b ∧ (j : Int) ∉ o.take x.1) (fun x => o.length - x.1) (0, setB b) ⟨Nat.zero_le _, hmb, fun j => by simp [setB_has hb]⟩ ?_ ?_
  · (refine Le.same ?_; simp only [List.forall_mem_cons, List.forall_mem_nil, getE, selE, Nat.reduceBEq, List.not_mem_nil, false_implies, implies_true, and_true, true_and, and_self])
    simp [slOf]
  · rintro ⟨i, w⟩ ⟨h1, h2, h3⟩
    simp only at h1 h2 h3
    repeat' (first | ((first | refine o1 rfl ?_ | refine o0 rfl ?_); intro k hk; simp (disch := omega) only [ev0, sl_cells, simprocAttr, slOf]; refine hk _ _ ?_; clear hk k) | refine ono rfl ?_ | ((first | refine osplitG rfl (fun h => ?_) (fun h => ?_) | refine osplitB rfl (fun h => ?_) (fun h => ?_)) <;> (fail_if_success (simp only [eq_self, reduceCtorEq] at h))) | refine onx ?_ | refine onb ?_ | refine sreg ?_ | refine qT rfl ?_ | refine qF rfl ?_ | refine scondT rfl ?_ | refine scondF rfl ?_ | refine ocondP rfl (fun h => ?_) (fun h => ?_) | refine ocondB rfl (fun h => ?_) (fun h => ?_) | refine scondP rfl (fun h => ?_) (fun h => ?_) | refine scond rfl (fun h => ?_) (fun h => ?_) | refine oskip ?_ | refine oskipb ?_ | refine oret ?_ | refine sem_ret ?_ | refine sem_seq ?_ | refine sreg1 ?_)
    · have hi : i < o.length := by omega
      have hoi := hob (o.getD i default) (by rw [getD_lt hi]; exact List.getElem_mem _)
      have htk : o.take (i + 1) = o.take i ++ [o.getD i default] := by rw [List.take_add_one, List.getElem?_eq_getElem hi, getD_lt hi]; rfl
      generalize hov : o.getD i default = v at *
      obtain ⟨n, rfl⟩ := Int.eq_ofNat_of_zero_le hoi.1
      have e1 := shlN n (by omega)
      have e2 := andNotN (a := w) (b := 2 ^ n) (by omega)
      have e3 := diffN_le w (2 ^ n) (by omega)
      refine sem_block ?_
      repeat' (first | ((first | refine o1 rfl ?_ | refine o0 rfl ?_); intro k hk; simp (disch := omega) only [ev0, sl_cells, simprocAttr, slOf, intCs, hov, rowL_get, rowL_len]; refine hk _ _ ?_; clear hk k) | refine ono rfl ?_ | ((first | refine osplitG rfl (fun h => ?_) (fun h => ?_) | refine osplitB rfl (fun h => ?_) (fun h => ?_)) <;> (fail_if_success (simp only [eq_self, reduceCtorEq] at h))) | refine onx ?_ | refine onb ?_ | refine sreg ?_ | refine qT rfl ?_ | refine qF rfl ?_ | refine scondT rfl ?_ | refine scondF rfl ?_ | refine ocondP rfl (fun h => ?_) (fun h => ?_) | refine ocondB rfl (fun h => ?_) (fun h => ?_) | refine scondP rfl (fun h => ?_) (fun h => ?_) | refine scond rfl (fun h => ?_) (fun h => ?_) | refine oskip ?_ | refine oskipb ?_ | refine oret ?_ | refine sem_ret ?_ | refine sem_seq ?_ | refine sreg1 ?_)
      ((refine sem_mgo 3 hmix (by kernel_rfl) ?_; simp only [nt]); (repeat' (first | ((first | apply mop | apply mop0); (case hg => rfl); (case hq => rfl); intro k hk; simp (disch := omega) only [ev0, sl_cells, simprocAttr, slOf, intCs, e1, e2, rowL_get, rowL_len, hov]; refine hk _ _ rfl ?_; clear hk k) | (apply mno; (case hg => rfl)) | (apply mbox; (case hx => (simp only [wv, simprocAttr] <;> rfl)); (case hg => rfl); (case hall => rfl); (case hr => rfl); simp only [nm, Nat.reduceAdd]) | (apply mbldS; (case hb => (simp (disch := omega) only [ev0, sl_cells, simprocAttr] <;> rfl)); (case hg => rfl); (case hr => rfl); simp only [nm, Nat.reduceAdd]) | ((first | (apply msto (q := 0); (case hq => rfl)) | (apply msto (q := 1); (case hq => rfl)) | (apply msto (q := 2); (case hq => rfl)) | (apply msto (q := 3); (case hq => rfl))); (case hx => (simp only [wv, simprocAttr] <;> rfl)); (case haddr => (simp only [wv, simprocAttr] <;> rfl)); (case hg => rfl); (case hl1 => rfl); (case hl2 => rfl); (case hok => rfl); (case hr => rfl); simp only [nm, Nat.reduceAdd]) | (apply mnil; simp only [SlotR.fin, ns]) | (refine msplit rfl (fun h => ?_) (fun h => ?_) <;> simp only [h] <;> (try simp only [nb] at h)))) <;> (repeat' (first | ((first | refine o1 rfl ?_ | refine o0 rfl ?_); intro k hk; simp (disch := omega) only [ev0, sl_cells, simprocAttr, slOf, intCs, e1, e2, rowL_get, rowL_len, hov]; refine hk _ _ ?_; clear hk k) | refine ono rfl ?_ | ((first | refine osplitG rfl (fun h => ?_) (fun h => ?_) | refine osplitB rfl (fun h => ?_) (fun h => ?_)) <;> (fail_if_success (simp only [eq_self, reduceCtorEq] at h))) | refine onx ?_ | refine onb ?_ | refine sreg ?_ | refine qT rfl ?_ | refine qF rfl ?_ | refine scondT rfl ?_ | refine scondF rfl ?_ | refine ocondP rfl (fun h => ?_) (fun h => ?_) | refine ocondB rfl (fun h => ?_) (fun h => ?_) | refine scondP rfl (fun h => ?_) (fun h => ?_) | refine scond rfl (fun h => ?_) (fun h => ?_) | refine oskip ?_ | refine oskipb ?_ | refine oret ?_ | refine sem_ret ?_ | refine sem_seq ?_ | refine sreg1 ?_)))
      refine onil (lnext (i + 1, diffN w (2 ^ n)) ⟨by simp only; omega, by simp only; omega, fun j => ?_⟩ (by simp only; omega) ?_)
      · simp only
        rw [diffN_bit (by omega), testBit_pow, htk, List.mem_append, List.mem_singleton]
        have := h3 j
        simp only [Bool.and_eq_true, Bool.not_eq_true', decide_eq_false_iff_not, this]
        constructor
        · rintro ⟨⟨q1, q2⟩, q3⟩
          exact ⟨q1, fun q => q.elim q2 fun q => q3 (by omega)⟩
        · rintro ⟨q1, q2⟩
          exact ⟨⟨q1, fun q => q2 (.inl q)⟩, fun q => q2 (.inr (by omega))⟩
      · (refine Le.same ?_; simp only [List.forall_mem_cons, List.forall_mem_nil, getE, selE, Nat.reduceBEq, List.not_mem_nil, false_implies, implies_true, and_true, true_and, and_self])
        simp [slOf]
    · have hi : i = o.length := by omega
      subst hi
      rw [List.take_length] at h3
      (refine sem_exit ?_; change sem _ _ _ _ _)
      repeat' (first | ((first | refine o1 rfl ?_ | refine o0 rfl ?_); intro k hk; simp (disch := omega) only [ev0, sl_cells, simprocAttr]; refine hk _ _ ?_; clear hk k) | refine ono rfl ?_ | ((first | refine osplitG rfl (fun h => ?_) (fun h => ?_) | refine osplitB rfl (fun h => ?_) (fun h => ?_)) <;> (fail_if_success (simp only [eq_self, reduceCtorEq] at h))) | refine onx ?_ | refine onb ?_ | refine sreg ?_ | refine qT rfl ?_ | refine qF rfl ?_ | refine scondT rfl ?_ | refine scondF rfl ?_ | refine ocondP rfl (fun h => ?_) (fun h => ?_) | refine ocondB rfl (fun h => ?_) (fun h => ?_) | refine scondP rfl (fun h => ?_) (fun h => ?_) | refine scond rfl (fun h => ?_) (fun h => ?_) | refine oskip ?_ | refine oskipb ?_ | refine oret ?_ | refine sem_ret ?_ | refine sem_seq ?_ | refine sreg1 ?_)
      have hrep : List.replicate t.houses.length [AV.int .i64 0] = rowL intCs (List.replicate t.houses.length 0) := by simp [rowL, intCs]
      rw [hrep]
      refine sem_block ?_
      
      refine sem_loop (α := Nat × List Int) (fun x => ⟨[(1, .hsl 2 g 1 o.length), (2, .ptr 3 0 1 0 0), (5, .ptr 4 0 1 0 0), (8, .ptr 6 0 1 0 0), (37, I t.houses.length), (38, I x.1)], buyH g o t (setB b) es ++ [.row 90 0 1 [[.ptr 1 0 4 0 0]], .row 86 0 1 [[I w]], .row 3 0 1 (rowL intCs x.2), .row 28 0 1 [[.hsl 5 0 1 t.houses.length]]]⟩) (fun x => x.1 ≤ t.houses.length ∧ x.2.length = t.houses.length ∧ ∀ j, j < x.1 → x.2.getD j default = -1) (fun x => t.houses.length - x.1) (0, List.replicate t.houses.length 0) ⟨Nat.zero_le _, by simp, fun j hj => absurd hj (Nat.not_lt_zero _)⟩ ?_ ?_
      · (refine Le.same ?_; simp only [List.forall_mem_cons, List.forall_mem_nil, getE, selE, Nat.reduceBEq, List.not_mem_nil, false_implies, implies_true, and_true, true_and, and_self])
        simp [slOf]
      · rintro ⟨y, L⟩ ⟨k1, k2, k3⟩
        simp only at k1 k2 k3
        repeat' (first | ((first | refine o1 rfl ?_ | refine o0 rfl ?_); intro k hk; simp (disch := omega) only [ev0, sl_cells, simprocAttr]; refine hk _ _ ?_; clear hk k) | refine ono rfl ?_ | ((first | refine osplitG rfl (fun h => ?_) (fun h => ?_) | refine osplitB rfl (fun h => ?_) (fun h => ?_)) <;> (fail_if_success (simp only [eq_self, reduceCtorEq] at h))) | refine onx ?_ | refine onb ?_ | refine sreg ?_ | refine qT rfl ?_ | refine qF rfl ?_ | refine scondT rfl ?_ | refine scondF rfl ?_ | refine ocondP rfl (fun h => ?_) (fun h => ?_) | refine ocondB rfl (fun h => ?_) (fun h => ?_) | refine scondP rfl (fun h => ?_) (fun h => ?_) | refine scond rfl (fun h => ?_) (fun h => ?_) | refine oskip ?_ | refine oskipb ?_ | refine oret ?_ | refine sem_ret ?_ | refine sem_seq ?_ | refine sreg1 ?_)
        · have hy : y < t.houses.length := by omega
          refine sem_block ?_
          repeat' (first | ((first | refine o1 rfl ?_ | refine o0 rfl ?_); intro k hk; simp (disch := omega) only [ev0, sl_cells, simprocAttr, rowL_get, rowL_len, intCs]; refine hk _ _ ?_; clear hk k) | refine ono rfl ?_ | ((first | refine osplitG rfl (fun h => ?_) (fun h => ?_) | refine osplitB rfl (fun h => ?_) (fun h => ?_)) <;> (fail_if_success (simp only [eq_self, reduceCtorEq] at h))) | refine onx ?_ | refine onb ?_ | refine sreg ?_ | refine qT rfl ?_ | refine qF rfl ?_ | refine scondT rfl ?_ | refine scondF rfl ?_ | refine ocondP rfl (fun h => ?_) (fun h => ?_) | refine ocondB rfl (fun h => ?_) (fun h => ?_) | refine scondP rfl (fun h => ?_) (fun h => ?_) | refine scond rfl (fun h => ?_) (fun h => ?_) | refine oskip ?_ | refine oskipb ?_ | refine oret ?_ | refine sem_ret ?_ | refine sem_seq ?_ | refine sreg1 ?_)
          refine onil (lnext (y + 1, L.set y (-1)) ⟨by simp only; omega, by simp only [List.length_set]; exact k2, fun j hj => ?_⟩ (by simp only; omega) ?_)
          · simp only at hj ⊢
            by_cases e : j = y
            · subst e; simp [List.getD, k2, hy]
            · rw [show (L.set y (-1)).getD j default = L.getD j default by simp [List.getD, List.getElem?_set_ne (Ne.symm e)]]
              exact k3 j (by omega)
          · rw [rowL_set]
            (refine Le.same ?_; simp only [List.forall_mem_cons, List.forall_mem_nil, getE, selE, Nat.reduceBEq, List.not_mem_nil, false_implies, implies_true, and_true, true_and, and_self])
            simp
        · have hy : y = t.houses.length := by omega
          have hL : L = (List.range t.houses.length).map fun y => agF t b o y 0 := by
            apply List.ext_getElem
            · rw [k2]; simp
            · intro j e1 e2
              have := k3 j (by omega)
              rw [getD_lt e1] at this
              rw [this]; simp [agF]
          (refine sem_exit ?_; change sem _ _ _ _ _)
          repeat' (first | ((first | refine o1 rfl ?_ | refine o0 rfl ?_); intro k hk; simp (disch := omega) only [ev0, sl_cells, simprocAttr]; refine hk _ _ ?_; clear hk k) | refine ono rfl ?_ | ((first | refine osplitG rfl (fun h => ?_) (fun h => ?_) | refine osplitB rfl (fun h => ?_) (fun h => ?_)) <;> (fail_if_success (simp only [eq_self, reduceCtorEq] at h))) | refine onx ?_ | refine onb ?_ | refine sreg ?_ | refine qT rfl ?_ | refine qF rfl ?_ | refine scondT rfl ?_ | refine scondF rfl ?_ | refine ocondP rfl (fun h => ?_) (fun h => ?_) | refine ocondB rfl (fun h => ?_) (fun h => ?_) | refine scondP rfl (fun h => ?_) (fun h => ?_) | refine scond rfl (fun h => ?_) (fun h => ?_) | refine oskip ?_ | refine oskipb ?_ | refine oret ?_ | refine sem_ret ?_ | refine sem_seq ?_ | refine sreg1 ?_)
          have hst := look_step ht hb (o := o) (i := 0) (w := w) (fun j => by rw [List.drop_zero]; exact h3 j)
          rw [← hL] at hst
          refine semL_dyn (R := fun ae ν => ∃ es', ae = .ret (.tup []) ∧ validQ t es' ∧ ν = aH g o t (setB b) es' w (lookL t w 0 L) 0) rfl rfl (by exact hag1 es hv w h2 L k2 0) fun ae μ hr => ?_
          obtain ⟨es1, rfl, hv1, rfl⟩ := hr
          rw [show weeksL t (o.take 0) = 0 from rfl] at hst
          rw [hst]
          change semL _ _ _ ⟨(_, _) :: _, _⟩ _
          simp only [aH]
          repeat' (first | ((first | refine o1 rfl ?_ | refine o0 rfl ?_); intro k hk; simp (disch := omega) only [ev0, sl_cells, simprocAttr]; refine hk _ _ ?_; clear hk k) | refine ono rfl ?_ | ((first | refine osplitG rfl (fun h => ?_) (fun h => ?_) | refine osplitB rfl (fun h => ?_) (fun h => ?_)) <;> (fail_if_success (simp only [eq_self, reduceCtorEq] at h))) | refine onx ?_ | refine onb ?_ | refine sreg ?_ | refine qT rfl ?_ | refine qF rfl ?_ | refine scondT rfl ?_ | refine scondF rfl ?_ | refine ocondP rfl (fun h => ?_) (fun h => ?_) | refine ocondB rfl (fun h => ?_) (fun h => ?_) | refine scondP rfl (fun h => ?_) (fun h => ?_) | refine scond rfl (fun h => ?_) (fun h => ?_) | refine oskip ?_ | refine oskipb ?_ | refine oret ?_ | refine sem_ret ?_ | refine sem_seq ?_ | refine sreg1 ?_)
          refine sem_block ?_
          
          refine sem_loop (α := Nat × Nat × ES) (fun x => ⟨[(2, .ptr 3 0 1 0 0), (5, .ptr 4 0 1 0 0), (8, .ptr 6 0 1 0 0), (10, .ptr 7 0 1 0 0), (11, .fn (.func F.cool_bought_again_1) [] [.ptr 6 0 1 0 0, .ptr 3 0 1 0 0, .ptr 4 0 1 0 0, .ptr 7 0 1 0 0]), (48, .hsl 2 g 1 o.length), (49, I o.length), (50, I x.1)], aH g o t (setB b) x.2.2 x.2.1 ((List.range t.houses.length).map fun y => agF t b o y (x.1 + 1)) (weeksL t (o.take x.1))⟩) (fun x => x.1 ≤ o.length ∧ x.2.1 < 2 ^ t.sites.length ∧ (∀ j : Nat, x.2.1.testBit j = true ↔ (j : Int) ∈ b ∧ (j : Int) ∉ o.drop x.1) ∧ validQ t x.2.2) (fun x => o.length - x.1) (0, w, es1) ⟨Nat.zero_le _, h2, fun j => by rw [List.drop_zero]; exact h3 j, hv1⟩ ?_ ?_
          · (refine Le.same ?_; simp only [List.forall_mem_cons, List.forall_mem_nil, getE, selE, Nat.reduceBEq, List.not_mem_nil, false_implies, implies_true, and_true, true_and, and_self])
            simp [slOf]
          · rintro ⟨i, w, es2⟩ ⟨h1, h2, h3, h4⟩
            simp only at h1 h2 h3 h4
            repeat' (first | ((first | refine o1 rfl ?_ | refine o0 rfl ?_); intro k hk; simp (disch := omega) only [ev0, sl_cells, simprocAttr, slOf]; refine hk _ _ ?_; clear hk k) | refine ono rfl ?_ | ((first | refine osplitG rfl (fun h => ?_) (fun h => ?_) | refine osplitB rfl (fun h => ?_) (fun h => ?_)) <;> (fail_if_success (simp only [eq_self, reduceCtorEq] at h))) | refine onx ?_ | refine onb ?_ | refine sreg ?_ | refine qT rfl ?_ | refine qF rfl ?_ | refine scondT rfl ?_ | refine scondF rfl ?_ | refine ocondP rfl (fun h => ?_) (fun h => ?_) | refine ocondB rfl (fun h => ?_) (fun h => ?_) | refine scondP rfl (fun h => ?_) (fun h => ?_) | refine scond rfl (fun h => ?_) (fun h => ?_) | refine oskip ?_ | refine oskipb ?_ | refine oret ?_ | refine sem_ret ?_ | refine sem_seq ?_ | refine sreg1 ?_)
            · have hi : i < o.length := by omega
              have hoi := hob (o.getD i default) (by rw [getD_lt hi]; exact List.getElem_mem _)
              have hbi := (hoo i hi).1
              have hnd := order_nodup hoo hi
              have hdc := drop_cons' hi
              have hwk := weeksL_succ (t := t) hi
              have hwb := weeksL_bound ht hob i
              have hwo := weeksOf_bound ht hoi
              generalize hov : o.getD i default = v at *
              obtain ⟨n, rfl⟩ := Int.eq_ofNat_of_zero_le hoi.1
              have hn : n < t.sites.length := by omega
              have hgo : weeksOf t (n : Int) = (t.sites.getD n default).weeks := rfl
              rw [hgo] at hwo hwk
              have hpn : 2 ^ n < 2 ^ t.sites.length := Nat.pow_lt_pow_right (by omega) hn
              have e1 := shlN n (by omega)
              have e2 := orN (a := w) (b := 2 ^ n) (by omega) (by omega)
              have hor : w ||| 2 ^ n < 2 ^ t.sites.length := Nat.or_lt_two_pow h2 hpn
              have hbits : ∀ j : Nat, (w ||| 2 ^ n).testBit j = true ↔ (j : Int) ∈ b ∧ (j : Int) ∉ o.drop (i + 1) := fun j => by
                rw [Nat.testBit_or, testBit_pow, Bool.or_eq_true, h3, hdc, List.mem_cons, decide_eq_true_iff]
                constructor
                · rintro (⟨q1, q2⟩ | rfl)
                  · exact ⟨q1, fun q => q2 (.inr q)⟩
                  · exact ⟨hbi, hnd⟩
                · rintro ⟨q1, q2⟩
                  by_cases e : n = j
                  · exact .inr e
                  · exact .inl ⟨q1, fun q => q.elim (fun q => e (by omega)) q2⟩
              have hst := look_step ht hb (o := o) (i := i + 1) hbits
              generalize hA : (List.range t.houses.length).map (fun y => agF t b o y (i + 1)) = A at *
              have hAl : A.length = t.houses.length := by rw [← hA]; simp
              refine sem_block ?_
              repeat' (first | ((first | refine o1 rfl ?_ | refine o0 rfl ?_); intro k hk; simp (disch := omega) only [ev0, sl_cells, simprocAttr, slOf, intCs, hov, rowL_get, rowL_len]; refine hk _ _ ?_; clear hk k) | refine ono rfl ?_ | ((first | refine osplitG rfl (fun h => ?_) (fun h => ?_) | refine osplitB rfl (fun h => ?_) (fun h => ?_)) <;> (fail_if_success (simp only [eq_self, reduceCtorEq] at h))) | refine onx ?_ | refine onb ?_ | refine sreg ?_ | refine qT rfl ?_ | refine qF rfl ?_ | refine scondT rfl ?_ | refine scondF rfl ?_ | refine ocondP rfl (fun h => ?_) (fun h => ?_) | refine ocondB rfl (fun h => ?_) (fun h => ?_) | refine scondP rfl (fun h => ?_) (fun h => ?_) | refine scond rfl (fun h => ?_) (fun h => ?_) | refine oskip ?_ | refine oskipb ?_ | refine oret ?_ | refine sem_ret ?_ | refine sem_seq ?_ | refine sreg1 ?_)
              ((refine sem_mgo 10 hmix (by kernel_rfl) ?_; simp only [nt]); (repeat' (first | ((first | apply mop | apply mop0); (case hg => rfl); (case hq => rfl); intro k hk; simp (disch := omega) only [ev0, sl_cells, simprocAttr, slOf, CoolSite.cs, intCs]; refine hk _ _ rfl ?_; clear hk k) | (apply mno; (case hg => rfl)) | (apply mbox; (case hx => (simp only [wv, simprocAttr] <;> rfl)); (case hg => rfl); (case hall => rfl); (case hr => rfl); simp only [nm, Nat.reduceAdd]) | (apply mbldS; (case hb => (simp (disch := omega) only [ev0, sl_cells, simprocAttr] <;> rfl)); (case hg => rfl); (case hr => rfl); simp only [nm, Nat.reduceAdd]) | ((first | (apply msto (q := 0); (case hq => rfl)) | (apply msto (q := 1); (case hq => rfl)) | (apply msto (q := 2); (case hq => rfl)) | (apply msto (q := 3); (case hq => rfl))); (case hx => (simp only [wv, simprocAttr] <;> rfl)); (case haddr => (simp only [wv, simprocAttr] <;> rfl)); (case hg => rfl); (case hl1 => rfl); (case hl2 => rfl); (case hok => rfl); (case hr => rfl); simp only [nm, Nat.reduceAdd]) | (apply mnil; simp only [SlotR.fin, ns]) | (refine msplit rfl (fun h => ?_) (fun h => ?_) <;> simp only [h] <;> (try simp only [nb] at h)))) <;> (repeat' (first | ((first | refine o1 rfl ?_ | refine o0 rfl ?_); intro k hk; simp (disch := omega) only [ev0, sl_cells, simprocAttr, slOf, CoolSite.cs, intCs]; refine hk _ _ ?_; clear hk k) | refine ono rfl ?_ | ((first | refine osplitG rfl (fun h => ?_) (fun h => ?_) | refine osplitB rfl (fun h => ?_) (fun h => ?_)) <;> (fail_if_success (simp only [eq_self, reduceCtorEq] at h))) | refine onx ?_ | refine onb ?_ | refine sreg ?_ | refine qT rfl ?_ | refine qF rfl ?_ | refine scondT rfl ?_ | refine scondF rfl ?_ | refine ocondP rfl (fun h => ?_) (fun h => ?_) | refine ocondB rfl (fun h => ?_) (fun h => ?_) | refine scondP rfl (fun h => ?_) (fun h => ?_) | refine scond rfl (fun h => ?_) (fun h => ?_) | refine oskip ?_ | refine oskipb ?_ | refine oret ?_ | refine sem_ret ?_ | refine sem_seq ?_ | refine sreg1 ?_)))
              ((refine sem_mgo 3 hmix (by kernel_rfl) ?_; simp only [nt]); (repeat' (first | ((first | apply mop | apply mop0); (case hg => rfl); (case hq => rfl); intro k hk; simp (disch := omega) only [ev0, sl_cells, simprocAttr, slOf, intCs, e1, e2, rowL_get, rowL_len, hov]; refine hk _ _ rfl ?_; clear hk k) | (apply mno; (case hg => rfl)) | (apply mbox; (case hx => (simp only [wv, simprocAttr] <;> rfl)); (case hg => rfl); (case hall => rfl); (case hr => rfl); simp only [nm, Nat.reduceAdd]) | (apply mbldS; (case hb => (simp (disch := omega) only [ev0, sl_cells, simprocAttr] <;> rfl)); (case hg => rfl); (case hr => rfl); simp only [nm, Nat.reduceAdd]) | ((first | (apply msto (q := 0); (case hq => rfl)) | (apply msto (q := 1); (case hq => rfl)) | (apply msto (q := 2); (case hq => rfl)) | (apply msto (q := 3); (case hq => rfl))); (case hx => (simp only [wv, simprocAttr] <;> rfl)); (case haddr => (simp only [wv, simprocAttr] <;> rfl)); (case hg => rfl); (case hl1 => rfl); (case hl2 => rfl); (case hok => rfl); (case hr => rfl); simp only [nm, Nat.reduceAdd]) | (apply mnil; simp only [SlotR.fin, ns]) | (refine msplit rfl (fun h => ?_) (fun h => ?_) <;> simp only [h] <;> (try simp only [nb] at h)))) <;> (repeat' (first | ((first | refine o1 rfl ?_ | refine o0 rfl ?_); intro k hk; simp (disch := omega) only [ev0, sl_cells, simprocAttr, slOf, intCs, e1, e2, rowL_get, rowL_len, hov]; refine hk _ _ ?_; clear hk k) | refine ono rfl ?_ | ((first | refine osplitG rfl (fun h => ?_) (fun h => ?_) | refine osplitB rfl (fun h => ?_) (fun h => ?_)) <;> (fail_if_success (simp only [eq_self, reduceCtorEq] at h))) | refine onx ?_ | refine onb ?_ | refine sreg ?_ | refine qT rfl ?_ | refine qF rfl ?_ | refine scondT rfl ?_ | refine scondF rfl ?_ | refine ocondP rfl (fun h => ?_) (fun h => ?_) | refine ocondB rfl (fun h => ?_) (fun h => ?_) | refine scondP rfl (fun h => ?_) (fun h => ?_) | refine scond rfl (fun h => ?_) (fun h => ?_) | refine oskip ?_ | refine oskipb ?_ | refine oret ?_ | refine sem_ret ?_ | refine sem_seq ?_ | refine sreg1 ?_)))
              rw [← hwk]
              refine semL_dyn (R := fun ae ν => ∃ es', ae = .ret (.tup []) ∧ validQ t es' ∧ ν = aH g o t (setB b) es' (w ||| 2 ^ n) (lookL t (w ||| 2 ^ n) (weeksL t (o.take (i + 1))) A) (weeksL t (o.take (i + 1)))) rfl rfl (by exact hag1 es2 h4 (w ||| 2 ^ n) hor A hAl _) fun ae μ hr => ?_
              obtain ⟨es3, rfl, hv3, rfl⟩ := hr
              rw [hst]
              change semL _ _ _ ⟨(_, _) :: _, _⟩ _
              simp only [aH]
              repeat' (first | ((first | refine o1 rfl ?_ | refine o0 rfl ?_); intro k hk; simp (disch := omega) only [ev0, sl_cells, simprocAttr]; refine hk _ _ ?_; clear hk k) | refine ono rfl ?_ | ((first | refine osplitG rfl (fun h => ?_) (fun h => ?_) | refine osplitB rfl (fun h => ?_) (fun h => ?_)) <;> (fail_if_success (simp only [eq_self, reduceCtorEq] at h))) | refine onx ?_ | refine onb ?_ | refine sreg ?_ | refine qT rfl ?_ | refine qF rfl ?_ | refine scondT rfl ?_ | refine scondF rfl ?_ | refine ocondP rfl (fun h => ?_) (fun h => ?_) | refine ocondB rfl (fun h => ?_) (fun h => ?_) | refine scondP rfl (fun h => ?_) (fun h => ?_) | refine scond rfl (fun h => ?_) (fun h => ?_) | refine oskip ?_ | refine oskipb ?_ | refine oret ?_ | refine sem_ret ?_ | refine sem_seq ?_ | refine sreg1 ?_)
              refine onil (lnext (i + 1, w ||| 2 ^ n, es3) ⟨by simp only; omega, hor, hbits, hv3⟩ (by simp only; omega) ?_)
              (refine Le.same ?_; simp only [List.forall_mem_cons, List.forall_mem_nil, getE, selE, Nat.reduceBEq, List.not_mem_nil, false_implies, implies_true, and_true, true_and, and_self])
              simp [slOf]
            · have hi : i = o.length := by omega
              subst hi
              (refine sem_exit ?_; change sem _ _ _ _ _)
              have hfin : slOf intCs (againL t t.houses.length b o) = .sl t.houses.length fun j => intCs (((List.range t.houses.length).map (fun y => agF t b o y (o.length + 1))).getD j default) := by
                unfold slOf
                rw [againL_len]; rfl
              rw [hfin]
              generalize hA : (List.range t.houses.length).map (fun y => agF t b o y (o.length + 1)) = A at *
              have hAl : A.length = t.houses.length := by rw [← hA]; simp
              simp only [aH]
              refine sem_frzlist (enc := intCs) (l := A) 5 rfl (fun _ => rfl) ?_
              simp only [frzE, frzM, frzO, frzA, frzL, List.map_cons, List.map_nil, List.set_cons_zero, List.set_cons_succ, Nat.reduceEqDiff, if_true, if_false, and_self, Nat.le_refl, reduceIte, frz_sl, h4.bools.frz, hAl]
              have gr : ∀ a : Int, frzL 5 0 1 t.houses.length (fun i => intCs (A.getD i default)) (intCs a) = intCs a := fun _ => rfl
              try simp only [frz_rowL gr]
              repeat' (first | ((first | refine o1 rfl ?_ | refine o0 rfl ?_); intro k hk; simp (disch := omega) only [ev0, sl_cells, simprocAttr]; refine hk _ _ ?_; clear hk k) | refine ono rfl ?_ | ((first | refine osplitG rfl (fun h => ?_) (fun h => ?_) | refine osplitB rfl (fun h => ?_) (fun h => ?_)) <;> (fail_if_success (simp only [eq_self, reduceCtorEq] at h))) | refine onx ?_ | refine onb ?_ | refine sreg ?_ | refine qT rfl ?_ | refine qF rfl ?_ | refine scondT rfl ?_ | refine scondF rfl ?_ | refine ocondP rfl (fun h => ?_) (fun h => ?_) | refine ocondB rfl (fun h => ?_) (fun h => ?_) | refine scondP rfl (fun h => ?_) (fun h => ?_) | refine scond rfl (fun h => ?_) (fun h => ?_) | refine oskip ?_ | refine oskipb ?_ | refine oret ?_ | refine sem_ret ?_ | refine sem_seq ?_ | refine sreg1 ?_)
              exact ⟨_, rfl, _, ⟨rfl, es2, h4, rfl⟩, rfl, by simp⟩
end Go.Proofs.Ytnempffajbdneaa

/- Whether an order is good; whether a list is sorted. -/
set_option linter.unusedVariables false
set_option linter.unusedSimpArgs false
set_option maxRecDepth 8000
set_option maxHeartbeats 2000000
namespace Go.Tk
open Go Go.Av
def sortedP (l : List Int) : Prop := ∀ i, 0 < i → i < l.length → ¬ l.getD i default < l.getD (i - 1) default
noncomputable instance (l) : Decidable (sortedP l) := Classical.propDecidable _
end Go.Tk
namespace Go.Proofs.Ytnempffajbdneaa
open Go Go.Av Go.Tk
attribute [local irreducible] Holds sem semL ACalls FnIs levelB levM
section
variable {K : Ctx} (hP : K.P = Try.prog) (hGK : ∀ w w', K.G w → RowKit.Below w.heap.size w w' → K.G w')
include hP hGK
theorem bought_goodH (g : Nat) (t : CoolTown) (ht : t.ok) (b : List Int) (hb : coolersOk t.sites.length b) (es : ES) (hv : validQ t es) (o : List Int) (ho : o.length ≤ 100) (hoo : orderOk b o) :
    ACalls K F.cool_bought_good [.ptr 1 0 4 0 0, .hsl 2 g 1 o.length] (buyH g o t (setB b) es) fun ae ν => ∃ es', (ae = .ret (B (goodB t b o)) ∧ validQ t es') ∧ ν = buyH g o t (setB b) es' := by
  have hag0 := bought_againH hP hGK g t ht b hb es hv o ho hoo
  have hn := ht.1
  have hob : ∀ x ∈ o, 0 ≤ x ∧ x < t.sites.length := all_getD.2 fun i hi => hb.mem _ (hoo i hi).1
  obtain ⟨P, w0, S0, G, hG0⟩ := K
  simp only at hP hGK
  subst hP
  refine acalls_of_sem fn_cool_bought_good (by simp) fun D => ?_
  unfold c_cool_bought_good cval enterEnv buyH
  simp only [List.zipIdx_cons, List.zipIdx_nil, List.map_cons, List.map_nil, Nat.zero_add, Nat.reduceAdd, List.cons_append, List.nil_append]
  repeat' (first | ((first | refine o1 rfl ?_ | refine o0 rfl ?_); intro k hk; simp (disch := omega) only [ev0, sl_cells, simprocAttr]; refine hk _ _ ?_; clear hk k) | refine ono rfl ?_ | ((first | refine osplitG rfl (fun h => ?_) (fun h => ?_) | refine osplitB rfl (fun h => ?_) (fun h => ?_)) <;> (fail_if_success (simp only [eq_self, reduceCtorEq] at h))) | refine onx ?_ | refine onb ?_ | refine sreg ?_ | refine qT rfl ?_ | refine qF rfl ?_ | refine scondT rfl ?_ | refine scondF rfl ?_ | refine ocondP rfl (fun h => ?_) (fun h => ?_) | refine ocondB rfl (fun h => ?_) (fun h => ?_) | refine scondP rfl (fun h => ?_) (fun h => ?_) | refine scond rfl (fun h => ?_) (fun h => ?_) | refine oskip ?_ | refine oskipb ?_ | refine oret ?_ | refine sem_ret ?_ | refine sem_seq ?_ | refine sreg1 ?_)
  refine semL_acall rfl (by exact hag0) fun ae μ hr => ?_
  obtain ⟨x, ⟨rfl, es1, hv1, rfl⟩, rfl⟩ := hr
  change semL _ _ _ ⟨(_, slOf intCs (againL t t.houses.length b o)) :: _, _⟩ _
  have hal := againL_len t t.houses.length b o
  have hag : ∀ y, y < t.houses.length → (againL t t.houses.length b o).getD y default = agF t b o y (o.length + 1) := fun y hy => by
    rw [getD_lt (by rw [hal]; exact hy)]; simp [againL]
  have hgd : goodB t b o = true ↔ ∀ y, y < t.houses.length → 0 ≤ agF t b o y (o.length + 1) ∧ agF t b o y (o.length + 1) ≤ (t.houses.getD y default).grace := by simp [goodB]
  simp only [buyH]
  repeat' (first | ((first | refine o1 rfl ?_ | refine o0 rfl ?_); intro k hk; simp (disch := omega) only [ev0, sl_cells, simprocAttr, slOf, hal]; refine hk _ _ ?_; clear hk k) | refine ono rfl ?_ | ((first | refine osplitG rfl (fun h => ?_) (fun h => ?_) | refine osplitB rfl (fun h => ?_) (fun h => ?_)) <;> (fail_if_success (simp only [eq_self, reduceCtorEq] at h))) | refine onx ?_ | refine onb ?_ | refine sreg ?_ | refine qT rfl ?_ | refine qF rfl ?_ | refine scondT rfl ?_ | refine scondF rfl ?_ | refine ocondP rfl (fun h => ?_) (fun h => ?_) | refine ocondB rfl (fun h => ?_) (fun h => ?_) | refine scondP rfl (fun h => ?_) (fun h => ?_) | refine scond rfl (fun h => ?_) (fun h => ?_) | refine oskip ?_ | refine oskipb ?_ | refine oret ?_ | refine sem_ret ?_ | refine sem_seq ?_ | refine sreg1 ?_)
  refine sem_block ?_
  
  refine sem_loop (α := Nat) (fun i => ⟨[(0, .ptr 1 0 4 0 0), (9, slOf intCs (againL t t.houses.length b o)), (10, I t.houses.length), (11, I i)], buyH g o t (setB b) es1⟩) (fun i => i ≤ t.houses.length ∧ ∀ y, y < i → 0 ≤ agF t b o y (o.length + 1) ∧ agF t b o y (o.length + 1) ≤ (t.houses.getD y default).grace) (fun i => t.houses.length - i) 0 ⟨Nat.zero_le _, fun y hy => absurd hy (Nat.not_lt_zero _)⟩ ?_ ?_
  · (refine Le.same ?_; simp only [List.forall_mem_cons, List.forall_mem_nil, getE, selE, Nat.reduceBEq, List.not_mem_nil, false_implies, implies_true, and_true, true_and, and_self])
    simp [slOf, hal]
  · rintro i ⟨hi, hall⟩
    repeat' (first | ((first | refine o1 rfl ?_ | refine o0 rfl ?_); intro k hk; simp (disch := omega) only [ev0, sl_cells, simprocAttr, slOf, hal]; refine hk _ _ ?_; clear hk k) | refine ono rfl ?_ | ((first | refine osplitG rfl (fun h => ?_) (fun h => ?_) | refine osplitB rfl (fun h => ?_) (fun h => ?_)) <;> (fail_if_success (simp only [eq_self, reduceCtorEq] at h))) | refine onx ?_ | refine onb ?_ | refine sreg ?_ | refine qT rfl ?_ | refine qF rfl ?_ | refine scondT rfl ?_ | refine scondF rfl ?_ | refine ocondP rfl (fun h => ?_) (fun h => ?_) | refine ocondB rfl (fun h => ?_) (fun h => ?_) | refine scondP rfl (fun h => ?_) (fun h => ?_) | refine scond rfl (fun h => ?_) (fun h => ?_) | refine oskip ?_ | refine oskipb ?_ | refine oret ?_ | refine sem_ret ?_ | refine sem_seq ?_ | refine sreg1 ?_)
    · have hi' : i < t.houses.length := by omega
      have hai := hag i hi'
      have hin := cool_in hGK (agF t b o i (o.length + 1)) 0 (t.houses.getD i default).grace
      generalize hA : agF t b o i (o.length + 1) = A at *
      refine sem_block ?_
      by_cases hq : 0 ≤ A ∧ A ≤ (t.houses.getD i default).grace
      · rw [decide_eq_true hq] at hin
        repeat' (first | ((first | refine o1 rfl ?_ | refine o0 rfl ?_); intro k hk; simp (disch := omega) only [ev0, sl_cells, simprocAttr, slOf, intCs, hal, hai, CoolTown.cs, CoolHouse.cs]; refine hk _ _ ?_; clear hk k) | refine ono rfl ?_ | (apply ocall; (case he => (simp only [ev0, sl_cells, simprocAttr] <;> rfl)); (case hc => first | exact hin); (case ht => rfl); (case hg => rfl)) | ((first | refine osplitG rfl (fun h => ?_) (fun h => ?_) | refine osplitB rfl (fun h => ?_) (fun h => ?_)) <;> (fail_if_success (simp only [eq_self, reduceCtorEq] at h))) | refine onx ?_ | refine onb ?_ | refine sreg ?_ | refine qT rfl ?_ | refine qF rfl ?_ | refine scondT rfl ?_ | refine scondF rfl ?_ | refine ocondP rfl (fun h => ?_) (fun h => ?_) | refine ocondB rfl (fun h => ?_) (fun h => ?_) | refine scondP rfl (fun h => ?_) (fun h => ?_) | refine scond rfl (fun h => ?_) (fun h => ?_) | refine oskip ?_ | refine oskipb ?_ | refine oret ?_ | refine sem_ret ?_ | refine sem_seq ?_ | refine sreg1 ?_)
        refine onil (lnext (i + 1) ⟨by omega, fun y hy => ?_⟩ (by omega) ?_)
        · by_cases e : y = i
          · subst e; rw [hA]; exact hq
          · exact hall y (by omega)
        · (refine Le.same ?_; simp only [List.forall_mem_cons, List.forall_mem_nil, getE, selE, Nat.reduceBEq, List.not_mem_nil, false_implies, implies_true, and_true, true_and, and_self])
          simp [slOf, hal]
      · rw [decide_eq_false hq] at hin
        repeat' (first | ((first | refine o1 rfl ?_ | refine o0 rfl ?_); intro k hk; simp (disch := omega) only [ev0, sl_cells, simprocAttr, slOf, intCs, hal, hai, CoolTown.cs, CoolHouse.cs]; refine hk _ _ ?_; clear hk k) | refine ono rfl ?_ | (apply ocall; (case he => (simp only [ev0, sl_cells, simprocAttr] <;> rfl)); (case hc => first | exact hin); (case ht => rfl); (case hg => rfl)) | ((first | refine osplitG rfl (fun h => ?_) (fun h => ?_) | refine osplitB rfl (fun h => ?_) (fun h => ?_)) <;> (fail_if_success (simp only [eq_self, reduceCtorEq] at h))) | refine onx ?_ | refine onb ?_ | refine sreg ?_ | refine qT rfl ?_ | refine qF rfl ?_ | refine scondT rfl ?_ | refine scondF rfl ?_ | refine ocondP rfl (fun h => ?_) (fun h => ?_) | refine ocondB rfl (fun h => ?_) (fun h => ?_) | refine scondP rfl (fun h => ?_) (fun h => ?_) | refine scond rfl (fun h => ?_) (fun h => ?_) | refine oskip ?_ | refine oskipb ?_ | refine oret ?_ | refine sem_ret ?_ | refine sem_seq ?_ | refine sreg1 ?_)
        rw [show goodB t b o = false from Bool.eq_false_iff.2 fun q => hq (by have := hgd.1 q i hi'; rw [hA] at this; exact this)]
        exact ⟨_, rfl, es1, ⟨rfl, hv1⟩, rfl⟩
    · have hi' : i = t.houses.length := by omega
      subst hi'
      (refine sem_exit ?_; change sem _ _ _ _ _)
      repeat' (first | ((first | refine o1 rfl ?_ | refine o0 rfl ?_); intro k hk; simp (disch := omega) only [ev0, sl_cells, simprocAttr]; refine hk _ _ ?_; clear hk k) | refine ono rfl ?_ | ((first | refine osplitG rfl (fun h => ?_) (fun h => ?_) | refine osplitB rfl (fun h => ?_) (fun h => ?_)) <;> (fail_if_success (simp only [eq_self, reduceCtorEq] at h))) | refine onx ?_ | refine onb ?_ | refine sreg ?_ | refine qT rfl ?_ | refine qF rfl ?_ | refine scondT rfl ?_ | refine scondF rfl ?_ | refine ocondP rfl (fun h => ?_) (fun h => ?_) | refine ocondB rfl (fun h => ?_) (fun h => ?_) | refine scondP rfl (fun h => ?_) (fun h => ?_) | refine scond rfl (fun h => ?_) (fun h => ?_) | refine oskip ?_ | refine oskipb ?_ | refine oret ?_ | refine sem_ret ?_ | refine sem_seq ?_ | refine sreg1 ?_)
      rw [hgd.2 hall]
      exact ⟨_, rfl, es1, ⟨rfl, hv1⟩, rfl⟩
end
variable {G : World → Prop} (hG : ∀ w w', G w → RowKit.Below w.heap.size w w' → G w')
include hG
theorem cmp_Less (x y : Int) : Holds Try.prog G F.cmp_Less_int [I x, I y] (B (decide (x < y))) := by
  (refine holds_of_sem hG fn_cmp_Less_int (by simp) fun w0 S0 hG0 D0 => ?_; unfold c_cmp_Less_int cval enterEnv; simp only [List.zipIdx_cons, List.zipIdx_nil, List.map_cons, List.map_nil, Nat.zero_add, Nat.reduceAdd])
  repeat' (first | ((first | refine o1 rfl ?_ | refine o0 rfl ?_); intro k hk; simp (disch := omega) only [ev0, sl_cells, simprocAttr]; refine hk _ _ ?_; clear hk k) | refine ono rfl ?_ | (apply ocall; (case he => (simp only [ev0, sl_cells, simprocAttr] <;> rfl)); (case hc => first | exact cmp_isNaN hG x | exact cmp_isNaN hG y); (case ht => rfl); (case hg => rfl)) | ((first | refine osplitG rfl (fun h => ?_) (fun h => ?_) | refine osplitB rfl (fun h => ?_) (fun h => ?_)) <;> (fail_if_success (simp only [eq_self, reduceCtorEq] at h))) | refine onx ?_ | refine onb ?_ | refine sreg ?_ | refine qT rfl ?_ | refine qF rfl ?_ | refine scondT rfl ?_ | refine scondF rfl ?_ | refine ocondP rfl (fun h => ?_) (fun h => ?_) | refine ocondB rfl (fun h => ?_) (fun h => ?_) | refine scondP rfl (fun h => ?_) (fun h => ?_) | refine scond rfl (fun h => ?_) (fun h => ?_) | refine oskip ?_ | refine oskipb ?_ | refine oret ?_ | refine sem_ret ?_ | refine sem_seq ?_ | refine sreg1 ?_)
  exact ⟨_, rfl, _, rfl, tree_eq rfl rfl⟩
theorem slices_IsSorted (l : List Int) (hl : l.length ≤ 1000) : Holds Try.prog G F.slices_IsSorted_int [slOf intCs l] (B (decide (sortedP l))) := by
  (refine holds_of_sem hG fn_slices_IsSorted_int (by simp) fun w0 S0 hG0 D0 => ?_; unfold c_slices_IsSorted_int cval enterEnv; simp only [List.zipIdx_cons, List.zipIdx_nil, List.map_cons, List.map_nil, Nat.zero_add, Nat.reduceAdd])
  repeat' (first | ((first | refine o1 rfl ?_ | refine o0 rfl ?_); intro k hk; simp (disch := omega) only [ev0, sl_cells, simprocAttr, slOf]; refine hk _ _ ?_; clear hk k) | refine ono rfl ?_ | ((first | refine osplitG rfl (fun h => ?_) (fun h => ?_) | refine osplitB rfl (fun h => ?_) (fun h => ?_)) <;> (fail_if_success (simp only [eq_self, reduceCtorEq] at h))) | refine onx ?_ | refine onb ?_ | refine sreg ?_ | refine qT rfl ?_ | refine qF rfl ?_ | refine scondT rfl ?_ | refine scondF rfl ?_ | refine ocondP rfl (fun h => ?_) (fun h => ?_) | refine ocondB rfl (fun h => ?_) (fun h => ?_) | refine scondP rfl (fun h => ?_) (fun h => ?_) | refine scond rfl (fun h => ?_) (fun h => ?_) | refine oskip ?_ | refine oskipb ?_ | refine oret ?_ | refine sem_ret ?_ | refine sem_seq ?_ | refine sreg1 ?_)
  refine sem_block ?_
  
  refine sem_loop (α := Nat) (fun k => ⟨[(0, slOf intCs l), (3, I ((l.length : Int) - 1 - k))], []⟩) (fun k => k ≤ l.length ∧ ∀ i, 0 < i → i < l.length → l.length - k ≤ i → ¬ l.getD i default < l.getD (i - 1) default) (fun k => l.length - k) 0 ⟨Nat.zero_le _, fun i h1 h2 h3 => absurd h3 (by omega)⟩ ?_ ?_
  · (refine Le.same ?_; simp only [List.forall_mem_cons, List.forall_mem_nil, getE, selE, Nat.reduceBEq, List.not_mem_nil, false_implies, implies_true, and_true, true_and, and_self])
    simp [slOf]
  · rintro k ⟨h1, h2⟩
    by_cases q : 0 < (l.length : Int) - 1 - k
    · obtain ⟨n, hn⟩ : ∃ n : Nat, (l.length : Int) - 1 - k = (n : Int) + 1 := ⟨l.length - k - 2, by omega⟩
      have hLs := cmp_Less hG (l.getD (n + 1) default) (l.getD n default)
      have e1 : ((n + 1 : Nat) : Int) - 1 = n := by omega
      have e2 : ((n : Int) + 1) = ((n + 1 : Nat) : Int) := rfl
      have q' : (0 : Int) < ((n + 1 : Nat) : Int) := by omega
      have e3 : (l.length : Int) - 1 - ((k + 1 : Nat) : Int) = n := by omega
      rw [hn, e2]
      generalize hx : l.getD (n + 1) default = x at *
      generalize hy : l.getD n default = y at *
      repeat' (first | ((first | refine o1 rfl ?_ | refine o0 rfl ?_); intro k hk; simp (disch := omega) only [ev0, sl_cells, simprocAttr, e1, q']; refine hk _ _ ?_; clear hk k) | refine ono rfl ?_ | ((first | refine osplitG rfl (fun h => ?_) (fun h => ?_) | refine osplitB rfl (fun h => ?_) (fun h => ?_)) <;> (fail_if_success (simp only [eq_self, reduceCtorEq] at h))) | refine onx ?_ | refine onb ?_ | refine sreg ?_ | refine qT rfl ?_ | refine qF rfl ?_ | refine scondT rfl ?_ | refine scondF rfl ?_ | refine ocondP rfl (fun h => ?_) (fun h => ?_) | refine ocondB rfl (fun h => ?_) (fun h => ?_) | refine scondP rfl (fun h => ?_) (fun h => ?_) | refine scond rfl (fun h => ?_) (fun h => ?_) | refine oskip ?_ | refine oskipb ?_ | refine oret ?_ | refine sem_ret ?_ | refine sem_seq ?_ | refine sreg1 ?_)
      refine sem_block ?_
      repeat' (first | ((first | refine o1 rfl ?_ | refine o0 rfl ?_); intro k hk; simp (disch := omega) only [ev0, sl_cells, simprocAttr]; refine hk _ _ ?_; clear hk k) | refine ono rfl ?_ | ((first | refine osplitG rfl (fun h => ?_) (fun h => ?_) | refine osplitB rfl (fun h => ?_) (fun h => ?_)) <;> (fail_if_success (simp only [eq_self, reduceCtorEq] at h))) | refine onx ?_ | refine onb ?_ | refine sreg ?_ | refine qT rfl ?_ | refine qF rfl ?_ | refine scondT rfl ?_ | refine scondF rfl ?_ | refine ocondP rfl (fun h => ?_) (fun h => ?_) | refine ocondB rfl (fun h => ?_) (fun h => ?_) | refine scondP rfl (fun h => ?_) (fun h => ?_) | refine scond rfl (fun h => ?_) (fun h => ?_) | refine oskip ?_ | refine oskipb ?_ | refine oret ?_ | refine sem_ret ?_ | refine sem_seq ?_ | refine sreg1 ?_)
      by_cases hxy : x < y
      · rw [decide_eq_true hxy] at hLs
        ((refine sem_mgo 9 hmix (by kernel_rfl) ?_; simp only [nt]); (repeat' (first | ((first | apply mop | apply mop0); (case hg => rfl); (case hq => rfl); intro k hk; simp (disch := omega) only [ev0, sl_cells, simprocAttr, slOf, intCs, hx, hy, e1]; refine hk _ _ rfl ?_; clear hk k) | (apply mno; (case hg => rfl)) | (apply mcall; (case he => (simp only [ev0, sl_cells, simprocAttr] <;> rfl)); (case hc => first | exact hLs); (case ht => rfl); (case hg => rfl); (case hr => rfl)) | (apply mbox; (case hx => (simp only [wv, simprocAttr] <;> rfl)); (case hg => rfl); (case hall => rfl); (case hr => rfl); simp only [nm, Nat.reduceAdd]) | (apply mbldS; (case hb => (simp (disch := omega) only [ev0, sl_cells, simprocAttr] <;> rfl)); (case hg => rfl); (case hr => rfl); simp only [nm, Nat.reduceAdd]) | ((first | (apply msto (q := 0); (case hq => rfl)) | (apply msto (q := 1); (case hq => rfl)) | (apply msto (q := 2); (case hq => rfl)) | (apply msto (q := 3); (case hq => rfl))); (case hx => (simp only [wv, simprocAttr] <;> rfl)); (case haddr => (simp only [wv, simprocAttr] <;> rfl)); (case hg => rfl); (case hl1 => rfl); (case hl2 => rfl); (case hok => rfl); (case hr => rfl); simp only [nm, Nat.reduceAdd]) | (apply mnil; simp only [SlotR.fin, ns]) | (refine msplit rfl (fun h => ?_) (fun h => ?_) <;> simp only [h] <;> (try simp only [nb] at h)))) <;> (repeat' (first | ((first | refine o1 rfl ?_ | refine o0 rfl ?_); intro k hk; simp (disch := omega) only [ev0, sl_cells, simprocAttr, slOf, intCs, hx, hy, e1]; refine hk _ _ ?_; clear hk k) | refine ono rfl ?_ | (apply ocall; (case he => (simp only [ev0, sl_cells, simprocAttr] <;> rfl)); (case hc => first | exact hLs); (case ht => rfl); (case hg => rfl)) | ((first | refine osplitG rfl (fun h => ?_) (fun h => ?_) | refine osplitB rfl (fun h => ?_) (fun h => ?_)) <;> (fail_if_success (simp only [eq_self, reduceCtorEq] at h))) | refine onx ?_ | refine onb ?_ | refine sreg ?_ | refine qT rfl ?_ | refine qF rfl ?_ | refine scondT rfl ?_ | refine scondF rfl ?_ | refine ocondP rfl (fun h => ?_) (fun h => ?_) | refine ocondB rfl (fun h => ?_) (fun h => ?_) | refine scondP rfl (fun h => ?_) (fun h => ?_) | refine scond rfl (fun h => ?_) (fun h => ?_) | refine oskip ?_ | refine oskipb ?_ | refine oret ?_ | refine sem_ret ?_ | refine sem_seq ?_ | refine sreg1 ?_)))
        rw [show decide (sortedP l) = false from decide_eq_false fun hs => hs (n + 1) (by omega) (by omega) (by rw [Nat.add_sub_cancel, hx, hy]; exact hxy)]
        exact ⟨_, rfl, _, rfl, tree_eq rfl rfl⟩
      · rw [decide_eq_false hxy] at hLs
        ((refine sem_mgo 9 hmix (by kernel_rfl) ?_; simp only [nt]); (repeat' (first | ((first | apply mop | apply mop0); (case hg => rfl); (case hq => rfl); intro k hk; simp (disch := omega) only [ev0, sl_cells, simprocAttr, slOf, intCs, hx, hy, e1]; refine hk _ _ rfl ?_; clear hk k) | (apply mno; (case hg => rfl)) | (apply mcall; (case he => (simp only [ev0, sl_cells, simprocAttr] <;> rfl)); (case hc => first | exact hLs); (case ht => rfl); (case hg => rfl); (case hr => rfl)) | (apply mbox; (case hx => (simp only [wv, simprocAttr] <;> rfl)); (case hg => rfl); (case hall => rfl); (case hr => rfl); simp only [nm, Nat.reduceAdd]) | (apply mbldS; (case hb => (simp (disch := omega) only [ev0, sl_cells, simprocAttr] <;> rfl)); (case hg => rfl); (case hr => rfl); simp only [nm, Nat.reduceAdd]) | ((first | (apply msto (q := 0); (case hq => rfl)) | (apply msto (q := 1); (case hq => rfl)) | (apply msto (q := 2); (case hq => rfl)) | (apply msto (q := 3); (case hq => rfl))); (case hx => (simp only [wv, simprocAttr] <;> rfl)); (case haddr => (simp only [wv, simprocAttr] <;> rfl)); (case hg => rfl); (case hl1 => rfl); (case hl2 => rfl); (case hok => rfl); (case hr => rfl); simp only [nm, Nat.reduceAdd]) | (apply mnil; simp only [SlotR.fin, ns]) | (refine msplit rfl (fun h => ?_) (fun h => ?_) <;> simp only [h] <;> (try simp only [nb] at h)))) <;> (repeat' (first | ((first | refine o1 rfl ?_ | refine o0 rfl ?_); intro k hk; simp (disch := omega) only [ev0, sl_cells, simprocAttr, slOf, intCs, hx, hy, e1]; refine hk _ _ ?_; clear hk k) | refine ono rfl ?_ | (apply ocall; (case he => (simp only [ev0, sl_cells, simprocAttr] <;> rfl)); (case hc => first | exact hLs); (case ht => rfl); (case hg => rfl)) | ((first | refine osplitG rfl (fun h => ?_) (fun h => ?_) | refine osplitB rfl (fun h => ?_) (fun h => ?_)) <;> (fail_if_success (simp only [eq_self, reduceCtorEq] at h))) | refine onx ?_ | refine onb ?_ | refine sreg ?_ | refine qT rfl ?_ | refine qF rfl ?_ | refine scondT rfl ?_ | refine scondF rfl ?_ | refine ocondP rfl (fun h => ?_) (fun h => ?_) | refine ocondB rfl (fun h => ?_) (fun h => ?_) | refine scondP rfl (fun h => ?_) (fun h => ?_) | refine scond rfl (fun h => ?_) (fun h => ?_) | refine oskip ?_ | refine oskipb ?_ | refine oret ?_ | refine sem_ret ?_ | refine sem_seq ?_ | refine sreg1 ?_)))
        refine onil (lnext (k + 1) ⟨by omega, fun i g1 g2 g3 => ?_⟩ (by omega) ?_)
        · by_cases e : i = n + 1
          · subst e; rw [Nat.add_sub_cancel, hx, hy]; exact hxy
          · exact h2 i g1 g2 (by omega)
        · rw [e3]
          (refine Le.same ?_; simp only [List.forall_mem_cons, List.forall_mem_nil, getE, selE, Nat.reduceBEq, List.not_mem_nil, false_implies, implies_true, and_true, true_and, and_self])
    · repeat' (first | ((first | refine o1 rfl ?_ | refine o0 rfl ?_); intro k hk; simp (disch := omega) only [ev0, sl_cells, simprocAttr, q]; refine hk _ _ ?_; clear hk k) | refine ono rfl ?_ | ((first | refine osplitG rfl (fun h => ?_) (fun h => ?_) | refine osplitB rfl (fun h => ?_) (fun h => ?_)) <;> (fail_if_success (simp only [eq_self, reduceCtorEq] at h))) | refine onx ?_ | refine onb ?_ | refine sreg ?_ | refine qT rfl ?_ | refine qF rfl ?_ | refine scondT rfl ?_ | refine scondF rfl ?_ | refine ocondP rfl (fun h => ?_) (fun h => ?_) | refine ocondB rfl (fun h => ?_) (fun h => ?_) | refine scondP rfl (fun h => ?_) (fun h => ?_) | refine scond rfl (fun h => ?_) (fun h => ?_) | refine oskip ?_ | refine oskipb ?_ | refine oret ?_ | refine sem_ret ?_ | refine sem_seq ?_ | refine sreg1 ?_)
      (refine sem_exit ?_; change sem _ _ _ _ _)
      repeat' (first | ((first | refine o1 rfl ?_ | refine o0 rfl ?_); intro k hk; simp (disch := omega) only [ev0, sl_cells, simprocAttr]; refine hk _ _ ?_; clear hk k) | refine ono rfl ?_ | ((first | refine osplitG rfl (fun h => ?_) (fun h => ?_) | refine osplitB rfl (fun h => ?_) (fun h => ?_)) <;> (fail_if_success (simp only [eq_self, reduceCtorEq] at h))) | refine onx ?_ | refine onb ?_ | refine sreg ?_ | refine qT rfl ?_ | refine qF rfl ?_ | refine scondT rfl ?_ | refine scondF rfl ?_ | refine ocondP rfl (fun h => ?_) (fun h => ?_) | refine ocondB rfl (fun h => ?_) (fun h => ?_) | refine scondP rfl (fun h => ?_) (fun h => ?_) | refine scond rfl (fun h => ?_) (fun h => ?_) | refine oskip ?_ | refine oskipb ?_ | refine oret ?_ | refine sem_ret ?_ | refine sem_seq ?_ | refine sreg1 ?_)
      rw [show decide (sortedP l) = true from decide_eq_true fun i g1 g2 => h2 i g1 g2 (by omega)]
      exact ⟨_, rfl, _, rfl, tree_eq rfl rfl⟩
end Go.Proofs.Ytnempffajbdneaa

/- The first good order of repairs: the search. -/
set_option linter.unusedVariables false
set_option linter.unusedSimpArgs false
set_option maxRecDepth 8000
set_option maxHeartbeats 4000000
namespace Go.Tk
open Go Go.Av
/-- The first good order that goes on from one. -/
def ordS (t : CoolTown) (b d : List Int) : Nat → List Int → Option (List Int)
  | 0, o => if goodB t b o = true then some o else none
  | n + 1, o => d.findSome? fun x => if x ∈ o then none else ordS t b d n (o ++ [x])
/-- The memory of the search. -/
abbrev rM (t : CoolTown) (m : Nat) (d : List Int) (es : ES) (g n : Nat) (r : List Int) : List AObj := [.row 25 0 2 [t.cs], .row 28 0 1 [[slOf intCs d]], .row 25 0 2 [t.cs], .row 25 0 2 [t.cs], .map es, .row 96 0 4 [[slOf CoolHouse.cs t.houses, slOf CoolSite.cs t.sites, I m, .mp 4]], .row 90 0 1 [[.ptr 5 0 4 0 0]], .row 28 0 1 [[.hsl 9 g 1 n]],
  .row 27 0 1 [[.fn (.func 67) [] [.ptr 7 0 1 0 0, .ptr 1 0 1 0 0, .ptr 6 0 1 0 0, .ptr 8 0 1 0 0]]], .row 3 g 1 (rowL intCs r)]
theorem rowL_ren {α : Type} {enc : α → List AV} {g : Nat → Nat} (h : ∀ a, renL g (enc a) = enc a) {l : List α} : (rowL enc l).map (renL g) = rowL enc l := by
  unfold rowL
  rw [List.map_map]
  exact List.map_congr_left fun a _ => h a
theorem rowL_in {α : Type} {enc : α → List AV} {p : Nat → Bool} (h : ∀ a, inL p (enc a) = true) {l : List α} : (rowL enc l).all (inL p) = true := List.all_eq_true.2 fun x hx => by
  unfold rowL at hx
  obtain ⟨a, _, rfl⟩ := List.mem_map.1 hx
  exact h a
theorem order_snoc {d o : List Int} (ho : orderOk d o) {x : Int} (hx : x ∈ d) (hn : x ∉ o) : orderOk d (o ++ [x]) := fun i hi => by
  rw [List.length_append, List.length_singleton] at hi
  by_cases e : i = o.length
  · subst e
    rw [getD_lt (by simp), List.getElem_append_right (Nat.le_refl _), List.take_left']
    · exact ⟨by simpa using hx, by simpa using hn⟩
    · rfl
  · have hlt : i < o.length := by omega
    have := ho i hlt
    rw [getD_lt (by simp; omega), List.getElem_append_left hlt, List.take_append_of_le_length (by omega)]
    rw [getD_lt hlt] at this
    exact this
theorem order_sub {b d o : List Int} (hd : ∀ x ∈ d, x ∈ b) (ho : orderOk d o) : orderOk b o := fun i hi => ⟨hd _ (ho i hi).1, (ho i hi).2⟩
theorem take_rowL {α : Type} {enc : α → List AV} {r o : List α} (h : r.take o.length = o) : (rowL enc r).take o.length = rowL enc o := by
  unfold rowL
  rw [← List.map_take, h]
theorem tree_ints {μ : List AObj} {id e g : Nat} {r o : List Int} (hμ : μ[id]? = some (.row e g 1 (rowL intCs r))) (hr : r.take o.length = o) : Tree μ (.hsl id g 1 o.length) (slOf intCs o) := by
  refine .hsl _ hμ (fun _ _ => rfl) fun i j cs c u hi hcs hc hu => ?_
  have e : cs = intCs (o.getD i default) := by
    have h3 : (rowL intCs r)[i]? = ((rowL intCs r).take o.length)[i]? := by rw [List.getElem?_take, if_pos hi]
    rw [h3, take_rowL hr, rowL_get hi] at hcs
    cases hcs; rfl
  rw [e] at hc
  rw [hc] at hu
  cases hu
  match j, hc with
  | 0, hc => cases hc; exact .same rfl
  | j + 1, hc => simp [intCs] at hc
end Go.Tk
namespace Go.Proofs.Ytnempffajbdneaa
open Go Go.Av Go.Tk
attribute [local irreducible] Holds sem semL ACalls FnIs levelB levM goodB
variable {K : Ctx} (hP : K.P = Try.prog) (hGK : ∀ w w', K.G w → RowKit.Below w.heap.size w w' → K.G w')
include hP hGK
theorem good_in (t : CoolTown) (ht : t.ok) (b : List Int) (hb : coolersOk t.sites.length b) (d : List Int) (es : ES) (hv : validQ t es) (g : Nat) (o : List Int) (ho : o.length ≤ 100) (hoo : orderOk b o) :
    ACalls K F.cool_bought_good [.ptr 5 0 4 0 0, .hsl 9 g 1 o.length] (rM t (setB b) d es g o.length o) fun ae ν => ∃ es', (ae = .ret (B (goodB t b o)) ∧ validQ t es') ∧ ν = rM t (setB b) d es' g o.length o := by
  refine ((bought_goodH hP hGK g t ht b hb es hv o ho hoo).placed (μ2 := rM t (setB b) d es g o.length o) (args2 := [.ptr 5 0 4 0 0, .hsl 9 g 1 o.length]) [4, 5, 9] ?_ ?_ rfl rfl).imp fun ae ν hr => ?_
  · simp only [placeOK, rM, List.all_cons, List.all_nil, List.getD_cons_succ, List.getD_cons_zero, inO, hv.bools.inn, rowL_in (enc := intCs) (fun _ => rfl), inL, inA, slOf]
    rfl
  · simp only [List.map_cons, List.map_nil, rM, List.getD_cons_succ, List.getD_cons_zero, renO, hv.bools.ren, rowL_ren (enc := intCs) (fun _ => rfl), renL, renA, slOf]
    rfl
  · obtain ⟨ae1, ν1, ⟨es', ⟨rfl, hv'⟩, rfl⟩, rfl, rfl⟩ := hr
    refine ⟨es', ⟨rfl, hv'⟩, ?_⟩
    change [_, _, _, _, renO _ (.map es'), renO _ (.row 96 0 4 [[slOf CoolHouse.cs t.houses, slOf CoolSite.cs t.sites, I (setB b), .mp 0]]), _, _, _, renO _ (.row 3 g 1 (rowL intCs o))] ++ [] = _
    simp only [List.append_nil, renO, hv'.bools.ren, rowL_ren (enc := intCs) (fun _ => rfl), List.map_cons, List.map_nil, renL, renA, slOf]
    rfl
theorem search_rep (t : CoolTown) (ht : t.ok) (b : List Int) (hb : coolersOk t.sites.length b) (d : List Int) (hd : d.length ≤ 6) (hdb : ∀ x ∈ d, x ∈ b) :
    ∀ (n : Nat) (o : List Int) (g : Nat) (es : ES), o.length + n = d.length → validQ t es → orderOk d o → ACalls K F.cool_Repair_1 [.ptr 7 0 1 0 0, .ptr 1 0 1 0 0, .ptr 6 0 1 0 0, .ptr 8 0 1 0 0] (rM t (setB b) d es g o.length o) fun ae ν =>
      match ordS t b d n o with
      | some l => ae = .ret (B true) ∧ ∃ es' g', validQ t es' ∧ l.length = d.length ∧ orderOk d l ∧ ν = rM t (setB b) d es' g' l.length l
      | none => ae = .ret (B false) ∧ ∃ es' g' r, validQ t es' ∧ r.take o.length = o ∧ ν = rM t (setB b) d es' g' o.length r
  | 0, o, g, es, hl, hv, ho => by
    have hgo := good_in hP hGK t ht b hb d es hv g o (by omega) (order_sub hdb ho)
    have hle : ((o.length : Int) = d.length) = True := eq_true (by omega)
    obtain ⟨P, w0, S0, G, hG0⟩ := K
    simp only at hP hGK
    subst hP
    refine acalls_of_sem fn_cool_Repair_1 (by simp) fun D => ?_
    unfold c_cool_Repair_1 cval enterEnv rM
    simp only [List.zipIdx_cons, List.zipIdx_nil, List.map_cons, List.map_nil, Nat.zero_add, Nat.reduceAdd]
    repeat' (first | ((first | refine o1 rfl ?_ | refine o0 rfl ?_); intro k hk; simp (disch := omega) only [ev0, sl_cells, simprocAttr]; refine hk _ _ ?_; clear hk k) | refine ono rfl ?_ | ((first | refine osplitG rfl (fun h => ?_) (fun h => ?_) | refine osplitB rfl (fun h => ?_) (fun h => ?_)) <;> (fail_if_success (simp only [eq_self, reduceCtorEq] at h))) | refine onx ?_ | refine onb ?_ | refine sreg ?_ | refine qT rfl ?_ | refine qF rfl ?_ | refine scondT rfl ?_ | refine scondF rfl ?_ | refine ocondP rfl (fun h => ?_) (fun h => ?_) | refine ocondB rfl (fun h => ?_) (fun h => ?_) | refine scondP rfl (fun h => ?_) (fun h => ?_) | refine scond rfl (fun h => ?_) (fun h => ?_) | refine oskip ?_ | refine oskipb ?_ | refine oret ?_ | refine sem_ret ?_ | refine sem_seq ?_ | refine sreg1 ?_)
    refine sem_scope ?_
    repeat' (first | ((first | refine o1 rfl ?_ | refine o0 rfl ?_); intro k hk; simp (disch := omega) only [ev0, sl_cells, simprocAttr, slOf, hle, decide_true]; refine hk _ _ ?_; clear hk k) | refine ono rfl ?_ | ((first | refine osplitG rfl (fun h => ?_) (fun h => ?_) | refine osplitB rfl (fun h => ?_) (fun h => ?_)) <;> (fail_if_success (simp only [eq_self, reduceCtorEq] at h))) | refine onx ?_ | refine onb ?_ | refine sreg ?_ | refine qT rfl ?_ | refine qF rfl ?_ | refine scondT rfl ?_ | refine scondF rfl ?_ | refine ocondP rfl (fun h => ?_) (fun h => ?_) | refine ocondB rfl (fun h => ?_) (fun h => ?_) | refine scondP rfl (fun h => ?_) (fun h => ?_) | refine scond rfl (fun h => ?_) (fun h => ?_) | refine oskip ?_ | refine oskipb ?_ | refine oret ?_ | refine sem_ret ?_ | refine sem_seq ?_ | refine sreg1 ?_)
    refine semL_acall rfl (by exact hgo) fun ae μ hr => ?_
    obtain ⟨es1, ⟨rfl, hv1⟩, rfl⟩ := hr
    change semL _ _ _ ⟨(_, B (goodB t b o)) :: _, _⟩ _
    repeat' (first | ((first | refine o1 rfl ?_ | refine o0 rfl ?_); intro k hk; simp (disch := omega) only [ev0, sl_cells, simprocAttr]; refine hk _ _ ?_; clear hk k) | refine ono rfl ?_ | ((first | refine osplitG rfl (fun h => ?_) (fun h => ?_) | refine osplitB rfl (fun h => ?_) (fun h => ?_)) <;> (fail_if_success (simp only [eq_self, reduceCtorEq] at h))) | refine onx ?_ | refine onb ?_ | refine sreg ?_ | refine qT rfl ?_ | refine qF rfl ?_ | refine scondT rfl ?_ | refine scondF rfl ?_ | refine ocondP rfl (fun h => ?_) (fun h => ?_) | refine ocondB rfl (fun h => ?_) (fun h => ?_) | refine scondP rfl (fun h => ?_) (fun h => ?_) | refine scond rfl (fun h => ?_) (fun h => ?_) | refine oskip ?_ | refine oskipb ?_ | refine oret ?_ | refine sem_ret ?_ | refine sem_seq ?_ | refine sreg1 ?_)
    unfold ordS
    cases hg : goodB t b o with
    | true =>
      rw [if_pos rfl]
      exact ⟨_, rfl, rfl, es1, g, hv1, by omega, ho, rfl⟩
    | false =>
      rw [if_neg (by simp)]
      exact ⟨_, rfl, rfl, es1, g, o, hv1, List.take_length, rfl⟩
  | n + 1, o, g, es, hl, hv, ho => by
    have IH := search_rep t ht b hb d hd hdb n
    have hle : ((o.length : Int) = d.length) = False := eq_false (by omega)
    have hsome : ∀ i l, i < d.length → (∀ j, j < i → (if d.getD j default ∈ o then none else ordS t b d n (o ++ [d.getD j default])) = none) → d.getD i default ∉ o → ordS t b d n (o ++ [d.getD i default]) = some l → ordS t b d (n + 1) o = some l := fun i l hi h1 h2 h3 => by
      unfold ordS
      rw [List.findSome?_eq_some_iff]
      refine ⟨d.take i, d.getD i default, d.drop (i + 1), ?_, ?_, fun x hx => ?_⟩
      · rw [← drop_cons' hi, List.take_append_drop]
      · rw [if_neg h2]; exact h3
      · obtain ⟨j, hj, rfl⟩ := List.getElem_of_mem hx
        rw [List.length_take] at hj
        have := h1 j (by omega)
        rw [getD_lt (by omega)] at this
        rw [List.getElem_take]
        exact this
    have hnone : (∀ j, j < d.length → (if d.getD j default ∈ o then none else ordS t b d n (o ++ [d.getD j default])) = none) → ordS t b d (n + 1) o = none := fun h1 => by
      unfold ordS
      rw [List.findSome?_eq_none_iff]
      intro x hx
      obtain ⟨j, hj, rfl⟩ := List.getElem_of_mem hx
      have := h1 j hj
      rw [getD_lt hj] at this
      exact this
    generalize ordS t b d (n + 1) o = res at *
    obtain ⟨P, w0, S0, G, hG0⟩ := K
    simp only at hP hGK
    subst hP
    have hct := fun (x : Int) (μ : List AObj) (g : Nat) (r : List Int) (hμ : μ[9]? = some (.row 3 g 1 (rowL intCs r))) (hr : r.take o.length = o) => ACalls.of_lend (K := ⟨Try.prog, w0, S0, G, hG0⟩) (μ := μ) (args := [.hsl 9 g 1 o.length, I x]) (slices_Contains hGK o x (by omega)) rfl (fun i c u h1 h2 => by
      match i, h1, h2 with
      | 0, h1, h2 =>
        cases h1; cases h2
        exact tree_ints hμ hr
      | 1, h1, h2 => cases h1; cases h2; exact .same rfl
      | i + 2, h1, h2 => simp at h1) rfl
    refine acalls_of_sem fn_cool_Repair_1 (by simp) fun D => ?_
    unfold c_cool_Repair_1 cval enterEnv rM
    simp only [List.zipIdx_cons, List.zipIdx_nil, List.map_cons, List.map_nil, Nat.zero_add, Nat.reduceAdd]
    repeat' (first | ((first | refine o1 rfl ?_ | refine o0 rfl ?_); intro k hk; simp (disch := omega) only [ev0, sl_cells, simprocAttr]; refine hk _ _ ?_; clear hk k) | refine ono rfl ?_ | ((first | refine osplitG rfl (fun h => ?_) (fun h => ?_) | refine osplitB rfl (fun h => ?_) (fun h => ?_)) <;> (fail_if_success (simp only [eq_self, reduceCtorEq] at h))) | refine onx ?_ | refine onb ?_ | refine sreg ?_ | refine qT rfl ?_ | refine qF rfl ?_ | refine scondT rfl ?_ | refine scondF rfl ?_ | refine ocondP rfl (fun h => ?_) (fun h => ?_) | refine ocondB rfl (fun h => ?_) (fun h => ?_) | refine scondP rfl (fun h => ?_) (fun h => ?_) | refine scond rfl (fun h => ?_) (fun h => ?_) | refine oskip ?_ | refine oskipb ?_ | refine oret ?_ | refine sem_ret ?_ | refine sem_seq ?_ | refine sreg1 ?_)
    refine sem_scope ?_
    repeat' (first | ((first | refine o1 rfl ?_ | refine o0 rfl ?_); intro k hk; simp (disch := omega) only [ev0, sl_cells, simprocAttr, slOf, hle, decide_false]; refine hk _ _ ?_; clear hk k) | refine ono rfl ?_ | ((first | refine osplitG rfl (fun h => ?_) (fun h => ?_) | refine osplitB rfl (fun h => ?_) (fun h => ?_)) <;> (fail_if_success (simp only [eq_self, reduceCtorEq] at h))) | refine onx ?_ | refine onb ?_ | refine sreg ?_ | refine qT rfl ?_ | refine qF rfl ?_ | refine scondT rfl ?_ | refine scondF rfl ?_ | refine ocondP rfl (fun h => ?_) (fun h => ?_) | refine ocondB rfl (fun h => ?_) (fun h => ?_) | refine scondP rfl (fun h => ?_) (fun h => ?_) | refine scond rfl (fun h => ?_) (fun h => ?_) | refine oskip ?_ | refine oskipb ?_ | refine oret ?_ | refine sem_ret ?_ | refine sem_seq ?_ | refine sreg1 ?_)
    refine sem_block ?_
    
    refine sem_loop (α := Nat × ES × Nat × List Int) (fun x => ⟨[(0, .ptr 7 0 1 0 0), (3, .ptr 8 0 1 0 0), (15, slOf intCs d), (16, I d.length), (17, I x.1)], rM t (setB b) d x.2.1 x.2.2.1 o.length x.2.2.2⟩) (fun x => x.1 ≤ d.length ∧ validQ t x.2.1 ∧ x.2.2.2.take o.length = o ∧ ∀ j, j < x.1 → (if d.getD j default ∈ o then none else ordS t b d n (o ++ [d.getD j default])) = none) (fun x => d.length - x.1) (0, es, g, o) ⟨Nat.zero_le _, hv, List.take_length, fun j hj => absurd hj (Nat.not_lt_zero _)⟩ ?_ ?_
    · (refine Le.same ?_; simp only [List.forall_mem_cons, List.forall_mem_nil, getE, selE, Nat.reduceBEq, List.not_mem_nil, false_implies, implies_true, and_true, true_and, and_self])
      simp [slOf]
    · rintro ⟨i, es2, g2, r⟩ ⟨h1, h2, h3, h4⟩
      simp only at h1 h2 h3 h4
      simp only [rM]
      repeat' (first | ((first | refine o1 rfl ?_ | refine o0 rfl ?_); intro k hk; simp (disch := omega) only [ev0, sl_cells, simprocAttr]; refine hk _ _ ?_; clear hk k) | refine ono rfl ?_ | ((first | refine osplitG rfl (fun h => ?_) (fun h => ?_) | refine osplitB rfl (fun h => ?_) (fun h => ?_)) <;> (fail_if_success (simp only [eq_self, reduceCtorEq] at h))) | refine onx ?_ | refine onb ?_ | refine sreg ?_ | refine qT rfl ?_ | refine qF rfl ?_ | refine scondT rfl ?_ | refine scondF rfl ?_ | refine ocondP rfl (fun h => ?_) (fun h => ?_) | refine ocondB rfl (fun h => ?_) (fun h => ?_) | refine scondP rfl (fun h => ?_) (fun h => ?_) | refine scond rfl (fun h => ?_) (fun h => ?_) | refine oskip ?_ | refine oskipb ?_ | refine oret ?_ | refine sem_ret ?_ | refine sem_seq ?_ | refine sreg1 ?_)
      · have hi : i < d.length := by omega
        have hsi := fun l => hsome i l hi h4
        have hxd : d.getD i default ∈ d := by rw [getD_lt hi]; exact List.getElem_mem _
        have hnx : (if d.getD i default ∈ o then none else ordS t b d n (o ++ [d.getD i default])) = none → ∀ j, j < i + 1 → (if d.getD j default ∈ o then none else ordS t b d n (o ++ [d.getD j default])) = none := fun q j hj => by
          by_cases e : j = i
          · subst e; exact q
          · exact h4 j (by omega)
        generalize hx : d.getD i default = x at *
        have hcx := hct x (rM t (setB b) d es2 g2 o.length r) g2 r rfl h3
        have e1 := take_rowL (enc := intCs) h3
        refine sem_block ?_
        repeat' (first | ((first | refine o1 rfl ?_ | refine o0 rfl ?_); intro k hk; simp (disch := omega) only [ev0, sl_cells, simprocAttr, slOf, intCs, hx]; refine hk _ _ ?_; clear hk k) | refine ono rfl ?_ | ((first | refine osplitG rfl (fun h => ?_) (fun h => ?_) | refine osplitB rfl (fun h => ?_) (fun h => ?_)) <;> (fail_if_success (simp only [eq_self, reduceCtorEq] at h))) | refine onx ?_ | refine onb ?_ | refine sreg ?_ | refine qT rfl ?_ | refine qF rfl ?_ | refine scondT rfl ?_ | refine scondF rfl ?_ | refine ocondP rfl (fun h => ?_) (fun h => ?_) | refine ocondB rfl (fun h => ?_) (fun h => ?_) | refine scondP rfl (fun h => ?_) (fun h => ?_) | refine scond rfl (fun h => ?_) (fun h => ?_) | refine oskip ?_ | refine oskipb ?_ | refine oret ?_ | refine sem_ret ?_ | refine sem_seq ?_ | refine sreg1 ?_)
        refine semL_acall rfl (by exact hcx) fun ae μ hr => ?_
        obtain ⟨rfl, rfl⟩ := hr
        change semL _ _ _ ⟨(_, B (decide (x ∈ o))) :: _, _⟩ _
        by_cases hxo : x ∈ o
        · rw [decide_eq_true hxo]
          repeat' (first | ((first | refine o1 rfl ?_ | refine o0 rfl ?_); intro k hk; simp (disch := omega) only [ev0, sl_cells, simprocAttr]; refine hk _ _ ?_; clear hk k) | refine ono rfl ?_ | ((first | refine osplitG rfl (fun h => ?_) (fun h => ?_) | refine osplitB rfl (fun h => ?_) (fun h => ?_)) <;> (fail_if_success (simp only [eq_self, reduceCtorEq] at h))) | refine onx ?_ | refine onb ?_ | refine sreg ?_ | refine qT rfl ?_ | refine qF rfl ?_ | refine scondT rfl ?_ | refine scondF rfl ?_ | refine ocondP rfl (fun h => ?_) (fun h => ?_) | refine ocondB rfl (fun h => ?_) (fun h => ?_) | refine scondP rfl (fun h => ?_) (fun h => ?_) | refine scond rfl (fun h => ?_) (fun h => ?_) | refine oskip ?_ | refine oskipb ?_ | refine oret ?_ | refine sem_ret ?_ | refine sem_seq ?_ | refine sreg1 ?_)
          (refine sem_exit ?_; change sem _ _ _ _ _)
          repeat' (first | ((first | refine o1 rfl ?_ | refine o0 rfl ?_); intro k hk; simp (disch := omega) only [ev0, sl_cells, simprocAttr]; refine hk _ _ ?_; clear hk k) | refine ono rfl ?_ | ((first | refine osplitG rfl (fun h => ?_) (fun h => ?_) | refine osplitB rfl (fun h => ?_) (fun h => ?_)) <;> (fail_if_success (simp only [eq_self, reduceCtorEq] at h))) | refine onx ?_ | refine onb ?_ | refine sreg ?_ | refine qT rfl ?_ | refine qF rfl ?_ | refine scondT rfl ?_ | refine scondF rfl ?_ | refine ocondP rfl (fun h => ?_) (fun h => ?_) | refine ocondB rfl (fun h => ?_) (fun h => ?_) | refine scondP rfl (fun h => ?_) (fun h => ?_) | refine scond rfl (fun h => ?_) (fun h => ?_) | refine oskip ?_ | refine oskipb ?_ | refine oret ?_ | refine sem_ret ?_ | refine sem_seq ?_ | refine sreg1 ?_)
          refine onil ?_
          refine lnext (i + 1, es2, g2, r) ?_ ?_ ?_
          · exact ⟨by simp only; omega, h2, h3, hnx (if_pos hxo)⟩
          · simp only; omega
          · (refine Le.same ?_; simp only [List.forall_mem_cons, List.forall_mem_nil, getE, selE, Nat.reduceBEq, List.not_mem_nil, false_implies, implies_true, and_true, true_and, and_self])
            simp [slOf]
        · rw [decide_eq_false hxo]
          have hro : rowL intCs o ++ [[AV.int .i64 x]] = rowL intCs (o ++ [x]) := by simp [rowL, intCs]
          have hlo : (o ++ [x]).length = o.length + 1 := by simp
          have hIH := IH (o ++ [x]) (g2 + 1) es2 (by omega) h2 (order_snoc ho hxd hxo)
          rw [if_neg hxo] at hnx
          repeat' (first | ((first | refine o1 rfl ?_ | refine o0 rfl ?_); intro k hk; simp (disch := omega) only [ev0, sl_cells, simprocAttr, e1, hro]; refine hk _ _ ?_; clear hk k) | refine ono rfl ?_ | ((first | refine osplitG rfl (fun h => ?_) (fun h => ?_) | refine osplitB rfl (fun h => ?_) (fun h => ?_)) <;> (fail_if_success (simp only [eq_self, reduceCtorEq] at h))) | refine onx ?_ | refine onb ?_ | refine sreg ?_ | refine qT rfl ?_ | refine qF rfl ?_ | refine scondT rfl ?_ | refine scondF rfl ?_ | refine ocondP rfl (fun h => ?_) (fun h => ?_) | refine ocondB rfl (fun h => ?_) (fun h => ?_) | refine scondP rfl (fun h => ?_) (fun h => ?_) | refine scond rfl (fun h => ?_) (fun h => ?_) | refine oskip ?_ | refine oskipb ?_ | refine oret ?_ | refine sem_ret ?_ | refine sem_seq ?_ | refine sreg1 ?_)
          refine semL_le (τ := ⟨[(28, .fn (.func 67) [] [.ptr 7 0 1 0 0, .ptr 1 0 1 0 0, .ptr 6 0 1 0 0, .ptr 8 0 1 0 0]), (0, .ptr 7 0 1 0 0), (3, .ptr 8 0 1 0 0), (15, slOf intCs d), (16, I d.length), (17, I i)], rM t (setB b) d es2 (g2 + 1) (o ++ [x]).length (o ++ [x])⟩) ?_ ?_
          · refine semL_dyn rfl rfl (by exact hIH) fun ae μ hr => ?_
            cases hrec : ordS t b d n (o ++ [x]) with
            | some l =>
              rw [hrec] at hr
              obtain ⟨rfl, es3, g3, q1, q2, q3, rfl⟩ := hr
              change semL _ _ _ ⟨(_, B true) :: _, _⟩ _
              repeat' (first | ((first | refine o1 rfl ?_ | refine o0 rfl ?_); intro k hk; simp (disch := omega) only [ev0, sl_cells, simprocAttr]; refine hk _ _ ?_; clear hk k) | refine ono rfl ?_ | ((first | refine osplitG rfl (fun h => ?_) (fun h => ?_) | refine osplitB rfl (fun h => ?_) (fun h => ?_)) <;> (fail_if_success (simp only [eq_self, reduceCtorEq] at h))) | refine onx ?_ | refine onb ?_ | refine sreg ?_ | refine qT rfl ?_ | refine qF rfl ?_ | refine scondT rfl ?_ | refine scondF rfl ?_ | refine ocondP rfl (fun h => ?_) (fun h => ?_) | refine ocondB rfl (fun h => ?_) (fun h => ?_) | refine scondP rfl (fun h => ?_) (fun h => ?_) | refine scond rfl (fun h => ?_) (fun h => ?_) | refine oskip ?_ | refine oskipb ?_ | refine oret ?_ | refine sem_ret ?_ | refine sem_seq ?_ | refine sreg1 ?_)
              rw [hsi l hxo hrec]
              exact ⟨_, rfl, rfl, es3, g3, q1, q2, q3, rfl⟩
            | none =>
              rw [hrec] at hr
              obtain ⟨rfl, es3, g3, r3, q1, q2, rfl⟩ := hr
              change semL _ _ _ ⟨(_, B false) :: _, _⟩ _
              have q3 : r3.take o.length = o := by
                have := congrArg (List.take o.length) q2
                rw [List.take_take, hlo, Nat.min_eq_left (by omega)] at this
                rw [this]; simp
              rw [hlo]
              have hcs : ((o.length + 1 : Nat) : Int) - 1 = (o.length : Int) := by omega
              simp only [rM]
              repeat' (first | ((first | refine o1 rfl ?_ | refine o0 rfl ?_); intro k hk; simp (disch := omega) only [ev0, sl_cells, simprocAttr, hcs, Option.map_none, Option.map_some]; refine hk _ _ ?_; clear hk k) | refine ono rfl ?_ | ((first | refine osplitG rfl (fun h => ?_) (fun h => ?_) | refine osplitB rfl (fun h => ?_) (fun h => ?_)) <;> (fail_if_success (simp only [eq_self, reduceCtorEq] at h))) | refine onx ?_ | refine onb ?_ | refine sreg ?_ | refine qT rfl ?_ | refine qF rfl ?_ | refine scondT rfl ?_ | refine scondF rfl ?_ | refine ocondP rfl (fun h => ?_) (fun h => ?_) | refine ocondB rfl (fun h => ?_) (fun h => ?_) | refine scondP rfl (fun h => ?_) (fun h => ?_) | refine scond rfl (fun h => ?_) (fun h => ?_) | refine oskip ?_ | refine oskipb ?_ | refine oret ?_ | refine sem_ret ?_ | refine sem_seq ?_ | refine sreg1 ?_)
              refine onil (lnext (i + 1, es3, g3, r3) ⟨by simp only; omega, q1, q3, hnx hrec⟩ (by simp only; omega) ?_)
              (refine Le.same ?_; simp only [List.forall_mem_cons, List.forall_mem_nil, getE, selE, Nat.reduceBEq, List.not_mem_nil, false_implies, implies_true, and_true, true_and, and_self])
              simp
          · rw [hlo]
            (refine Le.drop ?_ rfl (by simp) rfl (by simp only [refM, refO, List.all_cons, List.all_nil, Bool.and_true, Bool.true_and, CoolTown.cs, slOf, refL, refA, h2.bools.ref, rowL_all (enc := intCs) (fun _ _ => rfl)]; first | done | rfl) ; simp only [List.forall_mem_cons, List.forall_mem_nil, getE, selE, Nat.reduceBEq, List.not_mem_nil, false_implies, implies_true, and_true, true_and, and_self])
      · have hi : i = d.length := by omega
        subst hi
        (refine sem_exit ?_; change sem _ _ _ _ _)
        repeat' (first | ((first | refine o1 rfl ?_ | refine o0 rfl ?_); intro k hk; simp (disch := omega) only [ev0, sl_cells, simprocAttr]; refine hk _ _ ?_; clear hk k) | refine ono rfl ?_ | ((first | refine osplitG rfl (fun h => ?_) (fun h => ?_) | refine osplitB rfl (fun h => ?_) (fun h => ?_)) <;> (fail_if_success (simp only [eq_self, reduceCtorEq] at h))) | refine onx ?_ | refine onb ?_ | refine sreg ?_ | refine qT rfl ?_ | refine qF rfl ?_ | refine scondT rfl ?_ | refine scondF rfl ?_ | refine ocondP rfl (fun h => ?_) (fun h => ?_) | refine ocondB rfl (fun h => ?_) (fun h => ?_) | refine scondP rfl (fun h => ?_) (fun h => ?_) | refine scond rfl (fun h => ?_) (fun h => ?_) | refine oskip ?_ | refine oskipb ?_ | refine oret ?_ | refine sem_ret ?_ | refine sem_seq ?_ | refine sreg1 ?_)
        rw [hnone h4]
        exact ⟨_, rfl, rfl, es2, g2, r, h2, h3, rfl⟩
end Go.Proofs.Ytnempffajbdneaa

/- The first good order of repairs behind its checks. -/
set_option linter.unusedVariables false
set_option linter.unusedSimpArgs false
set_option maxRecDepth 8000
set_option maxHeartbeats 4000000
namespace Go.Tk
open Go Go.Av
theorem ordS_len {t : CoolTown} {b d : List Int} : ∀ {n : Nat} {o l : List Int}, ordS t b d n o = some l → l.length = o.length + n
  | 0, o, l, h => by
    unfold ordS at h
    split at h
    · cases h; rfl
    · cases h
  | n + 1, o, l, h => by
    unfold ordS at h
    obtain ⟨x, _, hx⟩ := List.exists_of_findSome?_eq_some h
    split at hx
    · cases hx
    · have := ordS_len (n := n) hx
      rw [this, List.length_append, List.length_singleton]
      omega
def repV : Option (List Int) → AV
  | none => .tup [.nilsl, I 5]
  | some l => .tup [slOf intCs l, I 0]
abbrev rM0 (t : CoolTown) (m : Nat) (d : List Int) : List AObj := [.row 25 0 2 [t.cs], .row 28 0 1 [[slOf intCs d]], .row 25 0 2 [t.cs], .row 25 0 2 [t.cs], .map [], .row 96 0 4 [[slOf CoolHouse.cs t.houses, slOf CoolSite.cs t.sites, I m, .mp 4]]]
end Go.Tk
namespace Go.Proofs.Ytnempffajbdneaa
open Go Go.Av Go.Tk
attribute [local irreducible] Holds sem semL ACalls FnIs levelB levM goodB ordS
section
variable {K : Ctx} (hP : K.P = Try.prog) (hGK : ∀ w w', K.G w → RowKit.Below w.heap.size w w' → K.G w')
include hP hGK
theorem ordered_in (t : CoolTown) (ht : t.ok) (b : List Int) (hb : coolersOk t.sites.length b) (o : List Int) (ho : o.length ≤ 1000) (es : ES) (hv : validQ t es) {μ2 : List AObj} (hp : μ2[4]? = some (.map es)) (hq : μ2[5]? = some (.row 96 0 4 [[slOf CoolHouse.cs t.houses, slOf CoolSite.cs t.sites, I (setB b), .mp 4]])) :
    ACalls K F.cool_bought_ordered [.ptr 5 0 4 0 0, slOf intCs o] μ2 fun ae ν => ae = .ret (B (decide (orderOk b o))) ∧ ν = μ2 := by
  have h := bought_at (R := fun ae es' => ae = .ret (B (decide (orderOk b o))) ∧ es' = es) ((bought_ordered hP hGK t ht b hb es o ho).imp fun ae ν hr => ⟨es, ⟨hr.1, rfl⟩, hr.2⟩) (fun ae es' hr => ⟨by rw [hr.2]; exact hv.bools, fun g => by rw [hr.1]; rfl⟩) hv.bools
    (μ2 := μ2) (args2 := [.ptr 5 0 4 0 0, slOf intCs o]) (p := 4) (q := 5) (by omega) hp hq rfl rfl
  exact h.imp fun ae ν hr => by
    obtain ⟨es', ⟨r1, rfl⟩, rfl⟩ := hr
    refine ⟨r1, ?_⟩
    apply List.ext_getElem?
    intro j
    by_cases e : j = 4
    · subst e
      rw [List.getElem?_set_self (List.getElem?_eq_some_iff.1 hp).1, hp]
    · rw [List.getElem?_set_ne (Ne.symm e)]
end
variable {G : World → Prop} (hG : ∀ w w', G w → RowKit.Below w.heap.size w w' → G w')
include hG
theorem Repair_ok (t : CoolTown) (hs : t.short) (b d : List Int) (hd : d.length ≤ 6) (hbl : b.length ≤ 1000) (hok : t.ok) (hc : coolersOk t.sites.length b) : Holds Try.prog G F.cool_Repair [.agg t.cs, slOf intCs b, slOf intCs d] (if orderOk b d ∧ sortedP d then repV (ordS t b d d.length []) else .tup [.nilsl, I 2]) := by
  refine holds_of_sem hG fn_cool_Repair (by simp) fun w0 S0 hG0 D0 => ?_
  have hgi := ((cool_given (K := ⟨Try.prog, w0, S0, G, hG0⟩) rfl hG t hs b hbl true).imp (R' := fun ae ν => ae = .ret (.tup [.ptr 3 0 4 0 0, I 0]) ∧ ν = givM t (setB b)) fun ae ν hr => by rwa [if_pos ⟨hok, rfl, hc⟩] at hr).placed1 (μ2 := [.row 25 0 2 [t.cs], .row 28 0 1 [[slOf intCs d]]]) (args2 := [.agg t.cs, slOf intCs b, B true]) (x2 := .tup [.ptr 5 0 4 0 0, I 0]) (ν2 := rM0 t (setB b) d) [] rfl rfl rfl rfl rfl rfl
  have hor := fun μ2 => ordered_in (K := ⟨Try.prog, w0, S0, G, hG0⟩) rfl hG t hok b hc d (by omega) [] valid_nil (μ2 := μ2)
  have hso := slices_IsSorted hG d (by omega)
  have q6 : ¬ (6 : Int) < d.length := by omega
  unfold c_cool_Repair cval enterEnv
  simp only [List.zipIdx_cons, List.zipIdx_nil, List.map_cons, List.map_nil, Nat.zero_add, Nat.reduceAdd]
  repeat' (first | ((first | refine o1 rfl ?_ | refine o0 rfl ?_); intro k hk; simp (disch := omega) only [ev0, sl_cells, simprocAttr, slOf, q6]; refine hk _ _ ?_; clear hk k) | refine ono rfl ?_ | ((first | refine osplitG rfl (fun h => ?_) (fun h => ?_) | refine osplitB rfl (fun h => ?_) (fun h => ?_)) <;> (fail_if_success (simp only [eq_self, reduceCtorEq] at h))) | refine onx ?_ | refine onb ?_ | refine sreg ?_ | refine qT rfl ?_ | refine qF rfl ?_ | refine scondT rfl ?_ | refine scondF rfl ?_ | refine ocondP rfl (fun h => ?_) (fun h => ?_) | refine ocondB rfl (fun h => ?_) (fun h => ?_) | refine scondP rfl (fun h => ?_) (fun h => ?_) | refine scond rfl (fun h => ?_) (fun h => ?_) | refine oskip ?_ | refine oskipb ?_ | refine oret ?_ | refine sem_ret ?_ | refine sem_seq ?_ | refine sreg1 ?_)
  refine semL_acall rfl (by exact hgi) fun ae μ hr => ?_
  obtain ⟨rfl, rfl⟩ := hr
  change semL _ _ _ ⟨(_, _) :: _, _⟩ _
  simp only [rM0]
  repeat' (first | ((first | refine o1 rfl ?_ | refine o0 rfl ?_); intro k hk; simp (disch := omega) only [ev0, sl_cells, simprocAttr]; refine hk _ _ ?_; clear hk k) | refine ono rfl ?_ | ((first | refine osplitG rfl (fun h => ?_) (fun h => ?_) | refine osplitB rfl (fun h => ?_) (fun h => ?_)) <;> (fail_if_success (simp only [eq_self, reduceCtorEq] at h))) | refine onx ?_ | refine onb ?_ | refine sreg ?_ | refine qT rfl ?_ | refine qF rfl ?_ | refine scondT rfl ?_ | refine scondF rfl ?_ | refine ocondP rfl (fun h => ?_) (fun h => ?_) | refine ocondB rfl (fun h => ?_) (fun h => ?_) | refine scondP rfl (fun h => ?_) (fun h => ?_) | refine scond rfl (fun h => ?_) (fun h => ?_) | refine oskip ?_ | refine oskipb ?_ | refine oret ?_ | refine sem_ret ?_ | refine sem_seq ?_ | refine sreg1 ?_)
  refine semL_acall rfl (by exact hor _ rfl rfl) fun ae μ hr => ?_
  obtain ⟨rfl, rfl⟩ := hr
  change semL _ _ _ ⟨(_, B (decide (orderOk b d))) :: _, _⟩ _
  by_cases ho : orderOk b d
  · rw [decide_eq_true ho]
    by_cases hst : sortedP d
    · rw [decide_eq_true hst] at hso
      rw [if_pos ⟨ho, hst⟩]
      have hdb : ∀ x ∈ d, x ∈ b := all_getD.2 fun i hi => (ho i hi).1
      have hse := search_rep (K := ⟨Try.prog, w0, S0, G, hG0⟩) rfl hG t hok b hc d hd hdb d.length [] 0 [] (by simp) valid_nil (fun i hi => absurd hi (Nat.not_lt_zero _))
      have hls : ∀ l, ordS t b d d.length [] = some l → l.length ≤ 6 := fun l hl => by
        have := ordS_len (t := t) (b := b) (d := d) (n := d.length) (o := []) hl
        simp at this
        omega
      repeat' (first | ((first | refine o1 rfl ?_ | refine o0 rfl ?_); intro k hk; simp (disch := omega) only [ev0, sl_cells, simprocAttr]; refine hk _ _ ?_; clear hk k) | refine ono rfl ?_ | (apply ocall; (case he => (simp only [ev0, sl_cells, simprocAttr] <;> rfl)); (case hc => first | exact hso); (case ht => rfl); (case hg => rfl)) | ((first | refine osplitG rfl (fun h => ?_) (fun h => ?_) | refine osplitB rfl (fun h => ?_) (fun h => ?_)) <;> (fail_if_success (simp only [eq_self, reduceCtorEq] at h))) | refine onx ?_ | refine onb ?_ | refine sreg ?_ | refine qT rfl ?_ | refine qF rfl ?_ | refine scondT rfl ?_ | refine scondF rfl ?_ | refine ocondP rfl (fun h => ?_) (fun h => ?_) | refine ocondB rfl (fun h => ?_) (fun h => ?_) | refine scondP rfl (fun h => ?_) (fun h => ?_) | refine scond rfl (fun h => ?_) (fun h => ?_) | refine oskip ?_ | refine oskipb ?_ | refine oret ?_ | refine sem_ret ?_ | refine sem_seq ?_ | refine sreg1 ?_)
      refine semL_ghostC 7 0 0 3 1 rfl rfl rfl ?_
      refine semL_dyn rfl rfl (by exact hse) fun ae μ hr => ?_
      cases hrec : ordS t b d d.length [] with
      | some l =>
        rw [hrec] at hr
        obtain ⟨rfl, es3, g3, q1, q2, q3, rfl⟩ := hr
        change semL _ _ _ ⟨(_, B true) :: _, _⟩ _
        unfold repV
        simp only [rM]
        repeat' (first | ((first | refine o1 rfl ?_ | refine o0 rfl ?_); intro k hk; simp (disch := omega) only [ev0, sl_cells, simprocAttr]; refine hk _ _ ?_; clear hk k) | refine ono rfl ?_ | ((first | refine osplitG rfl (fun h => ?_) (fun h => ?_) | refine osplitB rfl (fun h => ?_) (fun h => ?_)) <;> (fail_if_success (simp only [eq_self, reduceCtorEq] at h))) | refine onx ?_ | refine onb ?_ | refine sreg ?_ | refine qT rfl ?_ | refine qF rfl ?_ | refine scondT rfl ?_ | refine scondF rfl ?_ | refine ocondP rfl (fun h => ?_) (fun h => ?_) | refine ocondB rfl (fun h => ?_) (fun h => ?_) | refine scondP rfl (fun h => ?_) (fun h => ?_) | refine scond rfl (fun h => ?_) (fun h => ?_) | refine oskip ?_ | refine oskipb ?_ | refine oret ?_ | refine sem_ret ?_ | refine sem_seq ?_ | refine sreg1 ?_)
        exact ⟨_, rfl, _, rfl, .tup rfl fun i c u h1 h2 => by
          match i, h1, h2 with
          | 0, h1, h2 => cases h1; cases h2; exact tree_ints rfl List.take_length
          | 1, h1, h2 => cases h1; cases h2; exact .same rfl
          | i + 2, h1, h2 => simp at h1⟩
      | none =>
        rw [hrec] at hr
        obtain ⟨rfl, es3, g3, r3, q1, q2, rfl⟩ := hr
        change semL _ _ _ ⟨(_, B false) :: _, _⟩ _
        unfold repV
        simp only [rM]
        repeat' (first | ((first | refine o1 rfl ?_ | refine o0 rfl ?_); intro k hk; simp (disch := omega) only [ev0, sl_cells, simprocAttr]; refine hk _ _ ?_; clear hk k) | refine ono rfl ?_ | ((first | refine osplitG rfl (fun h => ?_) (fun h => ?_) | refine osplitB rfl (fun h => ?_) (fun h => ?_)) <;> (fail_if_success (simp only [eq_self, reduceCtorEq] at h))) | refine onx ?_ | refine onb ?_ | refine sreg ?_ | refine qT rfl ?_ | refine qF rfl ?_ | refine scondT rfl ?_ | refine scondF rfl ?_ | refine ocondP rfl (fun h => ?_) (fun h => ?_) | refine ocondB rfl (fun h => ?_) (fun h => ?_) | refine scondP rfl (fun h => ?_) (fun h => ?_) | refine scond rfl (fun h => ?_) (fun h => ?_) | refine oskip ?_ | refine oskipb ?_ | refine oret ?_ | refine sem_ret ?_ | refine sem_seq ?_ | refine sreg1 ?_)
        exact ⟨_, rfl, _, rfl, tree_eq rfl rfl⟩
    · rw [decide_eq_false hst] at hso
      rw [if_neg (fun q => hst q.2)]
      repeat' (first | ((first | refine o1 rfl ?_ | refine o0 rfl ?_); intro k hk; simp (disch := omega) only [ev0, sl_cells, simprocAttr]; refine hk _ _ ?_; clear hk k) | refine ono rfl ?_ | (apply ocall; (case he => (simp only [ev0, sl_cells, simprocAttr] <;> rfl)); (case hc => first | exact hso); (case ht => rfl); (case hg => rfl)) | ((first | refine osplitG rfl (fun h => ?_) (fun h => ?_) | refine osplitB rfl (fun h => ?_) (fun h => ?_)) <;> (fail_if_success (simp only [eq_self, reduceCtorEq] at h))) | refine onx ?_ | refine onb ?_ | refine sreg ?_ | refine qT rfl ?_ | refine qF rfl ?_ | refine scondT rfl ?_ | refine scondF rfl ?_ | refine ocondP rfl (fun h => ?_) (fun h => ?_) | refine ocondB rfl (fun h => ?_) (fun h => ?_) | refine scondP rfl (fun h => ?_) (fun h => ?_) | refine scond rfl (fun h => ?_) (fun h => ?_) | refine oskip ?_ | refine oskipb ?_ | refine oret ?_ | refine sem_ret ?_ | refine sem_seq ?_ | refine sreg1 ?_)
      exact ⟨_, rfl, _, rfl, tree_eq rfl rfl⟩
  · rw [decide_eq_false ho, if_neg (fun q => ho q.1)]
    repeat' (first | ((first | refine o1 rfl ?_ | refine o0 rfl ?_); intro k hk; simp (disch := omega) only [ev0, sl_cells, simprocAttr]; refine hk _ _ ?_; clear hk k) | refine ono rfl ?_ | (apply ocall; (case he => (simp only [ev0, sl_cells, simprocAttr] <;> rfl)); (case hc => first | exact hso); (case ht => rfl); (case hg => rfl)) | ((first | refine osplitG rfl (fun h => ?_) (fun h => ?_) | refine osplitB rfl (fun h => ?_) (fun h => ?_)) <;> (fail_if_success (simp only [eq_self, reduceCtorEq] at h))) | refine onx ?_ | refine onb ?_ | refine sreg ?_ | refine qT rfl ?_ | refine qF rfl ?_ | refine scondT rfl ?_ | refine scondF rfl ?_ | refine ocondP rfl (fun h => ?_) (fun h => ?_) | refine ocondB rfl (fun h => ?_) (fun h => ?_) | refine scondP rfl (fun h => ?_) (fun h => ?_) | refine scond rfl (fun h => ?_) (fun h => ?_) | refine oskip ?_ | refine oskipb ?_ | refine oret ?_ | refine sem_ret ?_ | refine sem_seq ?_ | refine sreg1 ?_)
    exact ⟨_, rfl, _, rfl, tree_eq rfl rfl⟩
end Go.Proofs.Ytnempffajbdneaa

/- The reference: the first good order. -/
set_option linter.unusedVariables false
set_option linter.unusedSimpArgs false
set_option maxRecDepth 8000
set_option maxHeartbeats 4000000
namespace Go.Av
section rules
variable {K : Ctx} {μ : List AObj} {C : List (Nat × AV) → List SlotR → Prop}
end rules
end Go.Av
namespace Go.Tk
open Go Go.Av
end Go.Tk
namespace Go.Proofs.Ytnempffajbdneaa
open Go Go.Av Go.Tk
attribute [local irreducible] Holds sem semL ACalls FnIs levelB levM goodB
variable {G : World → Prop} (hG : ∀ w w', G w → RowKit.Below w.heap.size w w' → G w')
include hG
end Go.Proofs.Ytnempffajbdneaa
