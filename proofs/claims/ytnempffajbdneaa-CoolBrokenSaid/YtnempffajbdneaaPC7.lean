/- Play. -/
import Derived.Test.YtnempffajbdneaaPC6
set_option linter.unusedVariables false
set_option linter.unusedSimpArgs false
set_option maxRecDepth 8000
set_option maxHeartbeats 4000000
namespace Go.Tk
open Go Go.Av
theorem listTo_mem {m n : Nat} {x : Int} : x ∈ listTo m n ↔ ∃ i : Nat, x = i ∧ i < n ∧ m.testBit i = true := by
  unfold listTo
  simp only [List.mem_map, List.mem_filter, List.mem_range]
  constructor
  · rintro ⟨i, ⟨h1, h2⟩, rfl⟩; exact ⟨i, rfl, h1, h2⟩
  · rintro ⟨i, rfl, h1, h2⟩; exact ⟨i, ⟨h1, h2⟩, rfl⟩
theorem listTo_setB {n : Nat} {w : List Int} (h : coolersOk n w) : listTo (setB w) n = w := by
  refine up_ext ?_ h.up fun x => ?_
  · unfold listTo
    rw [List.pairwise_map]
    exact (List.pairwise_lt_range.filter _).imp fun h => by omega
  · rw [listTo_mem]
    constructor
    · rintro ⟨i, rfl, -, h2⟩
      exact (setB_bit fun y hy => (h.mem y hy).1).1 h2
    · intro hx
      have hb := h.mem x hx
      refine ⟨x.toNat, by omega, by omega, (setB_bit fun y hy => (h.mem y hy).1).2 ?_⟩
      rw [show ((x.toNat : Nat) : Int) = x by omega]
      exact hx
/-- What the working coolers below a number give. -/
def colTo (x : CoolTruth) (w : List Int) (y i : Nat) : List Int := (listTo (setB w) i).map (giveOf x y)
theorem colTo_succ (x : CoolTruth) (w : List Int) (y i : Nat) : colTo x w y (i + 1) = if (setB w).testBit i = true then colTo x w y i ++ [giveOf x y i] else colTo x w y i := by
  unfold colTo
  rw [listTo_succ]
  split
  · rw [List.map_append]; rfl
  · rfl
theorem colTo_len (x : CoolTruth) (w : List Int) (y i : Nat) : (colTo x w y i).length ≤ i := by
  unfold colTo
  rw [List.length_map]
  exact listTo_len _ _
theorem truthOk.b {t : CoolTown} {x : CoolTruth} (ht : t.ok) (h : truthOk t x) : truthB t x := by
  obtain ⟨-, -, h1, h2⟩ := ht
  rw [all_getD] at h1 h2
  obtain ⟨e1, e2, e3, e4⟩ := h
  refine ⟨e1, all_getD.2 fun i hi => ?_, e2, all_getD.2 fun i hi => ⟨(e4 i (by omega)).1, all_getD.2 fun k hk => ?_⟩⟩
  · have a := h1 i (by omega)
    have b := e3 i (by omega)
    unfold inSp at b
    obtain ⟨⟨a1, a2, a3⟩, -⟩ := a
    omega
  · have b := (e4 i (by omega)).2 k (by rw [← (e4 i (by omega)).1]; exact hk)
    have a := h2 i (by omega)
    obtain ⟨-, -, a1, a2⟩ := a
    rw [all_getD] at a2
    have c := a2 k (by rw [a1, ← (e4 i (by omega)).1]; exact hk)
    unfold inSp at b
    omega
end Go.Tk
namespace Go.Proofs.Ytnempffajbdneaa
open Go Go.Av Go.Tk
attribute [local irreducible] Holds sem semL ACalls FnIs
variable {G : World → Prop} (hG : ∀ w w', G w → RowKit.Below w.heap.size w w' → G w')
include hG
theorem cool_Play (t : CoolTown) (ht : t.short) (x : CoolTruth) (hx : x.short) (w : List Int) (hw : w.length ≤ 15) :
    Holds Try.prog G F.cool_Play [.agg t.cs, slOf intCs w, .agg x.cs] (if t.ok ∧ coolersOk t.sites.length w ∧ truthOk t x then .tup [slOf intCs (overL t.houses.length x w), I 0] else .tup [.nilsl, I 2]) := by
  have hv := cool_valid hG t ht
  by_cases ok : t.ok
  · by_cases hl : x.needs.length = t.houses.length ∧ x.gives.length = t.sites.length
    · by_cases hc : coolersOk t.sites.length w
      · obtain ⟨l1, l2⟩ := hl
        obtain ⟨⟨b1, b2⟩, ⟨b3, b4⟩, -, b5⟩ := id ok
        rw [all_getD] at b5
        obtain ⟨x1, x2, x3⟩ := hx
        rw [all_getD] at x3
        have hb := cool_bits hG t b4 w (by omega)
        rw [if_pos hc, decide_eq_true hc] at hb
        rw [decide_eq_true ok] at hv
        have q1 : ((x.needs.length : Int) = (t.houses.length : Int)) = True := eq_true (by omega)
        have q2 : ((x.gives.length : Int) = (t.sites.length : Int)) = True := eq_true (by omega)
        have hno : ¬ truthOk t x → (if t.ok ∧ coolersOk t.sites.length w ∧ truthOk t x then AV.tup [slOf intCs (overL t.houses.length x w), I 0] else .tup [.nilsl, I 2]) = .tup [.nilsl, I 2] := fun h => if_neg fun hh => h hh.2.2
        (refine holds_of_sem hG fn_cool_Play (by simp) fun w0 S0 hG0 D0 => ?_; unfold c_cool_Play cval enterEnv; simp only [List.zipIdx_cons, List.zipIdx_nil, List.map_cons, List.map_nil, Nat.zero_add, Nat.reduceAdd])
        repeat' (first | ((first | refine o1 rfl ?_ | refine o0 rfl ?_); intro k hk; simp (disch := omega) only [ev0, sl_cells, simprocAttr, CoolTown.cs, CoolTruth.cs, slOf, q1, q2]; refine hk _ _ ?_; clear hk k) | refine ono rfl ?_ | (apply ocall; (case he => (simp only [ev0, sl_cells, simprocAttr] <;> rfl)); (case hc => first | exact hv | exact hb); (case ht => rfl); (case hg => rfl)) | ((first | refine osplitG rfl (fun h => ?_) (fun h => ?_) | refine osplitB rfl (fun h => ?_) (fun h => ?_)) <;> (fail_if_success (simp only [eq_self, reduceCtorEq] at h))) | refine onx ?_ | refine onb ?_ | refine sreg ?_ | refine qT rfl ?_ | refine qF rfl ?_ | refine scondT rfl ?_ | refine scondF rfl ?_ | refine ocondP rfl (fun h => ?_) (fun h => ?_) | refine ocondB rfl (fun h => ?_) (fun h => ?_) | refine scondP rfl (fun h => ?_) (fun h => ?_) | refine scond rfl (fun h => ?_) (fun h => ?_) | refine oskip ?_ | refine oskipb ?_ | refine oret ?_ | refine sem_ret ?_ | refine sem_seq ?_ | refine sreg1 ?_)
        refine sem_block ?_
        
        refine sem_loop (α := Nat) (fun i => ⟨[(3, .ptr 0 0 2 0 0), (5, .ptr 1 0 2 0 0), (8, I (setB w)), (51, slOf CoolSite.cs t.sites), (52, I t.sites.length), (53, I i)], [.row 25 0 2 [t.cs], .row 53 0 2 [x.cs]]⟩) (fun i => i ≤ t.sites.length ∧ ∀ j, j < i → (x.gives.getD j default).length = t.houses.length ∧ ∀ k, k < t.houses.length → inSp ((x.gives.getD j default).getD k default) ((t.sites.getD j default).gives.getD k default)) (fun i => t.sites.length - i) 0 ⟨Nat.zero_le _, fun j hj => absurd hj (Nat.not_lt_zero _)⟩ ?_ ?_
        · (refine Le.same ?_; simp only [List.forall_mem_cons, List.forall_mem_nil, getE, selE, Nat.reduceBEq, List.not_mem_nil, false_implies, implies_true, and_true, true_and, and_self])
          simp [slOf, CoolTown.cs, CoolTruth.cs]
        · rintro i ⟨hi, hall2⟩
          repeat' (first | ((first | refine o1 rfl ?_ | refine o0 rfl ?_); intro k hk; simp (disch := omega) only [ev0, sl_cells, simprocAttr, slOf]; refine hk _ _ ?_; clear hk k) | refine ono rfl ?_ | ((first | refine osplitG rfl (fun h => ?_) (fun h => ?_) | refine osplitB rfl (fun h => ?_) (fun h => ?_)) <;> (fail_if_success (simp only [eq_self, reduceCtorEq] at h))) | refine onx ?_ | refine onb ?_ | refine sreg ?_ | refine qT rfl ?_ | refine qF rfl ?_ | refine scondT rfl ?_ | refine scondF rfl ?_ | refine ocondP rfl (fun h => ?_) (fun h => ?_) | refine ocondB rfl (fun h => ?_) (fun h => ?_) | refine scondP rfl (fun h => ?_) (fun h => ?_) | refine scond rfl (fun h => ?_) (fun h => ?_) | refine oskip ?_ | refine oskipb ?_ | refine oret ?_ | refine sem_ret ?_ | refine sem_seq ?_ | refine sreg1 ?_)
          · have hi' : i < t.sites.length := by omega
            have hi2 : i < x.gives.length := by omega
            have hq := fun (hh : truthOk t x) => hh.2.2.2 i hi'
            have hg := x3 i hi2
            have hs3 := (b5 i hi').2.2.1
            have hstep : ((x.gives.getD i default).length = t.houses.length ∧ ∀ k, k < t.houses.length → inSp ((x.gives.getD i default).getD k default) ((t.sites.getD i default).gives.getD k default)) → ∀ j, j < i + 1 → (x.gives.getD j default).length = t.houses.length ∧ ∀ k, k < t.houses.length → inSp ((x.gives.getD j default).getD k default) ((t.sites.getD j default).gives.getD k default) := fun h j hj => by
              by_cases e : j = i
              · subst e; exact h
              · exact hall2 j (by omega)
            refine sem_block ?_
            repeat' (first | ((first | refine o1 rfl ?_ | refine o0 rfl ?_); intro k hk; simp (disch := omega) only [ev0, sl_cells, simprocAttr, slOf, CoolSite.cs]; refine hk _ _ ?_; clear hk k) | refine ono rfl ?_ | ((first | refine osplitG rfl (fun h => ?_) (fun h => ?_) | refine osplitB rfl (fun h => ?_) (fun h => ?_)) <;> (fail_if_success (simp only [eq_self, reduceCtorEq] at h))) | refine onx ?_ | refine onb ?_ | refine sreg ?_ | refine qT rfl ?_ | refine qF rfl ?_ | refine scondT rfl ?_ | refine scondF rfl ?_ | refine ocondP rfl (fun h => ?_) (fun h => ?_) | refine ocondB rfl (fun h => ?_) (fun h => ?_) | refine scondP rfl (fun h => ?_) (fun h => ?_) | refine scond rfl (fun h => ?_) (fun h => ?_) | refine oskip ?_ | refine oskipb ?_ | refine oret ?_ | refine sem_ret ?_ | refine sem_seq ?_ | refine sreg1 ?_)
            ((refine sem_mgo 9 hmix (by kernel_rfl) ?_; simp only [nt]); (repeat' (first | ((first | apply mop | apply mop0); (case hg => rfl); (case hq => rfl); intro k hk; simp (disch := omega) only [ev0, sl_cells, simprocAttr, slOf, intCs, intsCs, CoolTown.cs, CoolTruth.cs, CoolSite.cs]; refine hk _ _ rfl ?_; clear hk k) | (apply mno; (case hg => rfl)) | (apply mbox; (case hx => (simp only [wv, simprocAttr] <;> rfl)); (case hg => rfl); (case hall => rfl); (case hr => rfl); simp only [nm, Nat.reduceAdd]) | (apply mbldS; (case hb => (simp (disch := omega) only [ev0, sl_cells, simprocAttr] <;> rfl)); (case hg => rfl); (case hr => rfl); simp only [nm, Nat.reduceAdd]) | ((first | (apply msto (q := 0); (case hq => rfl)) | (apply msto (q := 1); (case hq => rfl)) | (apply msto (q := 2); (case hq => rfl)) | (apply msto (q := 3); (case hq => rfl))); (case hx => (simp only [wv, simprocAttr] <;> rfl)); (case haddr => (simp only [wv, simprocAttr] <;> rfl)); (case hg => rfl); (case hl1 => rfl); (case hl2 => rfl); (case hok => rfl); (case hr => rfl); simp only [nm, Nat.reduceAdd]) | (apply mnil; simp only [SlotR.fin, ns]) | (refine msplit rfl (fun h => ?_) (fun h => ?_) <;> simp only [h] <;> (try simp only [nb] at h)))) <;> (repeat' (first | ((first | refine o1 rfl ?_ | refine o0 rfl ?_); intro k hk; simp (disch := omega) only [ev0, sl_cells, simprocAttr, slOf, intCs, intsCs, CoolTown.cs, CoolTruth.cs, CoolSite.cs]; refine hk _ _ ?_; clear hk k) | refine ono rfl ?_ | ((first | refine osplitG rfl (fun h => ?_) (fun h => ?_) | refine osplitB rfl (fun h => ?_) (fun h => ?_)) <;> (fail_if_success (simp only [eq_self, reduceCtorEq] at h))) | refine onx ?_ | refine onb ?_ | refine sreg ?_ | refine qT rfl ?_ | refine qF rfl ?_ | refine scondT rfl ?_ | refine scondF rfl ?_ | refine ocondP rfl (fun h => ?_) (fun h => ?_) | refine ocondB rfl (fun h => ?_) (fun h => ?_) | refine scondP rfl (fun h => ?_) (fun h => ?_) | refine scond rfl (fun h => ?_) (fun h => ?_) | refine oskip ?_ | refine oskipb ?_ | refine oret ?_ | refine sem_ret ?_ | refine sem_seq ?_ | refine sreg1 ?_)))
            · rw [hno (fun hh => by have := (hq hh).1; simp only [Bool.not_eq_true', decide_eq_false_iff_not] at h; omega)]
              exact ⟨_, rfl, _, rfl, tree_eq rfl rfl⟩
            · simp only [Bool.not_eq_false', decide_eq_true_eq] at h
              have hlen : (x.gives.getD i default).length = t.houses.length := by omega
              generalize hgi : x.gives.getD i default = gi at *
              generalize hsi : t.sites.getD i default = si at *
              refine sem_block ?_
              
              refine sem_loop (α := Nat) (fun k => ⟨[(3, .ptr 0 0 2 0 0), (5, .ptr 1 0 2 0 0), (8, I (setB w)), (11, .ptr 2 0 3 0 0), (51, slOf CoolSite.cs t.sites), (52, I t.sites.length), (53, I i), (72, slOf intCs gi), (73, I gi.length), (74, I k)], [.row 25 0 2 [t.cs], .row 53 0 2 [x.cs], .row 64 0 3 [si.cs]]⟩) (fun k => k ≤ t.houses.length ∧ ∀ j, j < k → inSp (gi.getD j default) (si.gives.getD j default)) (fun k => t.houses.length - k) 0 ⟨Nat.zero_le _, fun j hj => absurd hj (Nat.not_lt_zero _)⟩ ?_ ?_
              · (refine Le.same ?_; simp only [List.forall_mem_cons, List.forall_mem_nil, getE, selE, Nat.reduceBEq, List.not_mem_nil, false_implies, implies_true, and_true, true_and, and_self])
                simp [slOf, CoolTown.cs, CoolTruth.cs, CoolSite.cs, intCs]
              · rintro y ⟨hy, hall3⟩
                repeat' (first | ((first | refine o1 rfl ?_ | refine o0 rfl ?_); intro k hk; simp (disch := omega) only [ev0, sl_cells, simprocAttr, slOf, hlen]; refine hk _ _ ?_; clear hk k) | refine ono rfl ?_ | ((first | refine osplitG rfl (fun h => ?_) (fun h => ?_) | refine osplitB rfl (fun h => ?_) (fun h => ?_)) <;> (fail_if_success (simp only [eq_self, reduceCtorEq] at h))) | refine onx ?_ | refine onb ?_ | refine sreg ?_ | refine qT rfl ?_ | refine qF rfl ?_ | refine scondT rfl ?_ | refine scondF rfl ?_ | refine ocondP rfl (fun h => ?_) (fun h => ?_) | refine ocondB rfl (fun h => ?_) (fun h => ?_) | refine scondP rfl (fun h => ?_) (fun h => ?_) | refine scond rfl (fun h => ?_) (fun h => ?_) | refine oskip ?_ | refine oskipb ?_ | refine oret ?_ | refine sem_ret ?_ | refine sem_seq ?_ | refine sreg1 ?_)
                · have hy' : y < t.houses.length := by omega
                  refine sem_block ?_
                  repeat' (first | ((first | refine o1 rfl ?_ | refine o0 rfl ?_); intro k hk; simp (disch := omega) only [ev0, sl_cells, simprocAttr, slOf, intCs]; refine hk _ _ ?_; clear hk k) | refine ono rfl ?_ | ((first | refine osplitG rfl (fun h => ?_) (fun h => ?_) | refine osplitB rfl (fun h => ?_) (fun h => ?_)) <;> (fail_if_success (simp only [eq_self, reduceCtorEq] at h))) | refine onx ?_ | refine onb ?_ | refine sreg ?_ | refine qT rfl ?_ | refine qF rfl ?_ | refine scondT rfl ?_ | refine scondF rfl ?_ | refine ocondP rfl (fun h => ?_) (fun h => ?_) | refine ocondB rfl (fun h => ?_) (fun h => ?_) | refine scondP rfl (fun h => ?_) (fun h => ?_) | refine scond rfl (fun h => ?_) (fun h => ?_) | refine oskip ?_ | refine oskipb ?_ | refine oret ?_ | refine sem_ret ?_ | refine sem_seq ?_ | refine sreg1 ?_)
                  ((refine sem_mgo 13 hmix (by kernel_rfl) ?_; simp only [nt]); (repeat' (first | ((first | apply mop | apply mop0); (case hg => rfl); (case hq => rfl); intro k hk; simp (disch := omega) only [ev0, sl_cells, simprocAttr, slOf, intCs, Span.cs, CoolSite.cs]; refine hk _ _ rfl ?_; clear hk k) | (apply mno; (case hg => rfl)) | (apply mcall; (case he => (simp only [ev0, sl_cells, simprocAttr] <;> rfl)); (case hc => first | exact cool_in hG _ _ _); (case ht => rfl); (case hg => rfl); (case hr => rfl)) | (apply mbox; (case hx => (simp only [wv, simprocAttr] <;> rfl)); (case hg => rfl); (case hall => rfl); (case hr => rfl); simp only [nm, Nat.reduceAdd]) | (apply mbldS; (case hb => (simp (disch := omega) only [ev0, sl_cells, simprocAttr] <;> rfl)); (case hg => rfl); (case hr => rfl); simp only [nm, Nat.reduceAdd]) | ((first | (apply msto (q := 0); (case hq => rfl)) | (apply msto (q := 1); (case hq => rfl)) | (apply msto (q := 2); (case hq => rfl)) | (apply msto (q := 3); (case hq => rfl))); (case hx => (simp only [wv, simprocAttr] <;> rfl)); (case haddr => (simp only [wv, simprocAttr] <;> rfl)); (case hg => rfl); (case hl1 => rfl); (case hl2 => rfl); (case hok => rfl); (case hr => rfl); simp only [nm, Nat.reduceAdd]) | (apply mnil; simp only [SlotR.fin, ns]) | (refine msplit rfl (fun h => ?_) (fun h => ?_) <;> simp only [h] <;> (try simp only [nb] at h)))) <;> (repeat' (first | ((first | refine o1 rfl ?_ | refine o0 rfl ?_); intro k hk; simp (disch := omega) only [ev0, sl_cells, simprocAttr, slOf, intCs, Span.cs, CoolSite.cs]; refine hk _ _ ?_; clear hk k) | refine ono rfl ?_ | (apply ocall; (case he => (simp only [ev0, sl_cells, simprocAttr] <;> rfl)); (case hc => first | exact cool_in hG _ _ _); (case ht => rfl); (case hg => rfl)) | ((first | refine osplitG rfl (fun h => ?_) (fun h => ?_) | refine osplitB rfl (fun h => ?_) (fun h => ?_)) <;> (fail_if_success (simp only [eq_self, reduceCtorEq] at h))) | refine onx ?_ | refine onb ?_ | refine sreg ?_ | refine qT rfl ?_ | refine qF rfl ?_ | refine scondT rfl ?_ | refine scondF rfl ?_ | refine ocondP rfl (fun h => ?_) (fun h => ?_) | refine ocondB rfl (fun h => ?_) (fun h => ?_) | refine scondP rfl (fun h => ?_) (fun h => ?_) | refine scond rfl (fun h => ?_) (fun h => ?_) | refine oskip ?_ | refine oskipb ?_ | refine oret ?_ | refine sem_ret ?_ | refine sem_seq ?_ | refine sreg1 ?_)))
                  · rw [hno (fun hh => by
                      have := (hq hh).2 y hy'
                      rename_i h
                      simp only [Bool.not_eq_true', decide_eq_false_iff_not] at h
                      exact h this)]
                    exact ⟨_, rfl, _, rfl, tree_eq rfl rfl⟩
                  · rename_i h
                    simp only [Bool.not_eq_false', decide_eq_true_eq] at h
                    refine onil (lnext (y + 1) ⟨by omega, fun j hj => ?_⟩ (by omega) ?_)
                    · by_cases e : j = y
                      · subst e; exact h
                      · exact hall3 j (by omega)
                    · (refine Le.same ?_; simp only [List.forall_mem_cons, List.forall_mem_nil, getE, selE, Nat.reduceBEq, List.not_mem_nil, false_implies, implies_true, and_true, true_and, and_self])
                      simp [CoolTown.cs, CoolTruth.cs, CoolSite.cs, slOf, hlen]
                · have hy' : y = t.houses.length := by omega
                  subst hy'
                  (refine sem_exit ?_; change sem _ _ _ _ _)
                  repeat' (first | ((first | refine o1 rfl ?_ | refine o0 rfl ?_); intro k hk; simp (disch := omega) only [ev0, sl_cells, simprocAttr]; refine hk _ _ ?_; clear hk k) | refine ono rfl ?_ | ((first | refine osplitG rfl (fun h => ?_) (fun h => ?_) | refine osplitB rfl (fun h => ?_) (fun h => ?_)) <;> (fail_if_success (simp only [eq_self, reduceCtorEq] at h))) | refine onx ?_ | refine onb ?_ | refine sreg ?_ | refine qT rfl ?_ | refine qF rfl ?_ | refine scondT rfl ?_ | refine scondF rfl ?_ | refine ocondP rfl (fun h => ?_) (fun h => ?_) | refine ocondB rfl (fun h => ?_) (fun h => ?_) | refine scondP rfl (fun h => ?_) (fun h => ?_) | refine scond rfl (fun h => ?_) (fun h => ?_) | refine oskip ?_ | refine oskipb ?_ | refine oret ?_ | refine sem_ret ?_ | refine sem_seq ?_ | refine sreg1 ?_)
                  refine onil (lnext (i + 1) ⟨by omega, hstep ⟨hlen, hall3⟩⟩ (by omega) ?_)
                  (refine Le.drop ?_ rfl (by simp) rfl rfl; simp only [List.forall_mem_cons, List.forall_mem_nil, getE, selE, Nat.reduceBEq, List.not_mem_nil, false_implies, implies_true, and_true, true_and, and_self])
                  simp [CoolTown.cs, CoolTruth.cs, slOf]
          · have hi' : i = t.sites.length := by omega
            subst hi'
            (refine sem_exit ?_; change sem _ _ _ _ _)
            repeat' (first | ((first | refine o1 rfl ?_ | refine o0 rfl ?_); intro k hk; simp (disch := omega) only [ev0, sl_cells, simprocAttr, CoolTruth.cs, slOf]; refine hk _ _ ?_; clear hk k) | refine ono rfl ?_ | ((first | refine osplitG rfl (fun h => ?_) (fun h => ?_) | refine osplitB rfl (fun h => ?_) (fun h => ?_)) <;> (fail_if_success (simp only [eq_self, reduceCtorEq] at h))) | refine onx ?_ | refine onb ?_ | refine sreg ?_ | refine qT rfl ?_ | refine qF rfl ?_ | refine scondT rfl ?_ | refine scondF rfl ?_ | refine ocondP rfl (fun h => ?_) (fun h => ?_) | refine ocondB rfl (fun h => ?_) (fun h => ?_) | refine scondP rfl (fun h => ?_) (fun h => ?_) | refine scond rfl (fun h => ?_) (fun h => ?_) | refine oskip ?_ | refine oskipb ?_ | refine oret ?_ | refine sem_ret ?_ | refine sem_seq ?_ | refine sreg1 ?_)
            refine sem_block ?_
            (refine sem_ghost 14 3 1 rfl ?_; simp only [List.length_cons, List.length_nil, Nat.reduceAdd, Nat.zero_add, List.cons_append, List.nil_append])
            
            refine sem_loop (α := Nat) (fun y => ⟨[(3, .ptr 0 0 2 0 0), (5, .ptr 1 0 2 0 0), (8, I (setB w)), (14, .hsl 2 (overL y x w).length 1 (overL y x w).length), (97, slOf intCs x.needs), (98, I x.needs.length), (99, I y)], [.row 25 0 2 [t.cs], .row 53 0 2 [x.cs], .row 3 (overL y x w).length 1 (rowL intCs (overL y x w))]⟩) (fun y => y ≤ t.houses.length ∧ ∀ j, j < y → inSp (x.needs.getD j default) (t.houses.getD j default).need) (fun y => t.houses.length - y) 0 ⟨Nat.zero_le _, fun j hj => absurd hj (Nat.not_lt_zero _)⟩ ?_ ?_
            · (refine Le.same ?_; simp only [List.forall_mem_cons, List.forall_mem_nil, getE, selE, Nat.reduceBEq, List.not_mem_nil, false_implies, implies_true, and_true, true_and, and_self])
              simp [overL, slOf, CoolTown.cs, CoolTruth.cs, intCs]
            · rintro y ⟨hy, hall⟩
              have hlen := overL_len y x w
              have hsu := overL_succ y x w
              generalize hL : overL y x w = L at *
              repeat' (first | ((first | refine o1 rfl ?_ | refine o0 rfl ?_); intro k hk; simp (disch := omega) only [ev0, sl_cells, simprocAttr, slOf, l1]; refine hk _ _ ?_; clear hk k) | refine ono rfl ?_ | ((first | refine osplitG rfl (fun h => ?_) (fun h => ?_) | refine osplitB rfl (fun h => ?_) (fun h => ?_)) <;> (fail_if_success (simp only [eq_self, reduceCtorEq] at h))) | refine onx ?_ | refine onb ?_ | refine sreg ?_ | refine qT rfl ?_ | refine qF rfl ?_ | refine scondT rfl ?_ | refine scondF rfl ?_ | refine ocondP rfl (fun h => ?_) (fun h => ?_) | refine ocondB rfl (fun h => ?_) (fun h => ?_) | refine scondP rfl (fun h => ?_) (fun h => ?_) | refine scond rfl (fun h => ?_) (fun h => ?_) | refine oskip ?_ | refine oskipb ?_ | refine oret ?_ | refine sem_ret ?_ | refine sem_seq ?_ | refine sreg1 ?_)
              · have hy' : y < t.houses.length := by omega
                have hy2 : y < x.needs.length := by omega
                have hq := fun (hh : truthOk t x) => hh.2.2.1 y hy'
                refine sem_block ?_
                repeat' (first | ((first | refine o1 rfl ?_ | refine o0 rfl ?_); intro k hk; simp (disch := omega) only [ev0, sl_cells, simprocAttr, slOf, intCs, CoolTown.cs, CoolHouse.cs]; refine hk _ _ ?_; clear hk k) | refine ono rfl ?_ | (apply ocall; (case he => (simp only [ev0, sl_cells, simprocAttr] <;> rfl)); (case hc => first | exact cool_in hG _ _ _); (case ht => rfl); (case hg => rfl)) | ((first | refine osplitG rfl (fun h => ?_) (fun h => ?_) | refine osplitB rfl (fun h => ?_) (fun h => ?_)) <;> (fail_if_success (simp only [eq_self, reduceCtorEq] at h))) | refine onx ?_ | refine onb ?_ | refine sreg ?_ | refine qT rfl ?_ | refine qF rfl ?_ | refine scondT rfl ?_ | refine scondF rfl ?_ | refine ocondP rfl (fun h => ?_) (fun h => ?_) | refine ocondB rfl (fun h => ?_) (fun h => ?_) | refine scondP rfl (fun h => ?_) (fun h => ?_) | refine scond rfl (fun h => ?_) (fun h => ?_) | refine oskip ?_ | refine oskipb ?_ | refine oret ?_ | refine sem_ret ?_ | refine sem_seq ?_ | refine sreg1 ?_)
                · rw [hno (fun hh => by
                    have := hq hh
                    rename_i h
                    simp only [Bool.not_eq_true', decide_eq_false_iff_not] at h
                    exact h this)]
                  exact ⟨_, rfl, _, rfl, tree_eq rfl rfl⟩
                · simp only [Bool.not_eq_false', decide_eq_true_eq] at h
                  have hneed := h
                  generalize hnd : (t.houses.getD y default).need = nd at *
                  have hwlt : setB w < 1024 := Nat.lt_of_lt_of_le (setB_lt hc.mem) (Nat.pow_le_pow_right (by decide) b4)
                  refine sem_block ?_
                  (refine sem_ghost 18 3 1 rfl ?_; simp only [List.length_cons, List.length_nil, Nat.reduceAdd, Nat.zero_add, List.cons_append, List.nil_append])
                  
                  refine sem_loop (α := Nat) (fun i => ⟨[(3, .ptr 0 0 2 0 0), (5, .ptr 1 0 2 0 0), (8, I (setB w)), (14, .hsl 2 L.length 1 L.length), (15, I y), (16, I (x.needs.getD y default)), (18, .hsl 4 (colTo x w y i).length 1 (colTo x w y i).length), (97, slOf intCs x.needs), (98, I x.needs.length), (99, I y), (118, slOf intsCs x.gives), (119, I x.gives.length), (120, I i)], [.row 25 0 2 [t.cs], .row 53 0 2 [x.cs], .row 3 L.length 1 (rowL intCs L), .row 58 0 2 [nd.cs], .row 3 (colTo x w y i).length 1 (rowL intCs (colTo x w y i))]⟩) (fun i => i ≤ t.sites.length) (fun i => t.sites.length - i) 0 (Nat.zero_le _) ?_ ?_
                  · rw [← hnd]
                    (refine Le.same ?_; simp only [List.forall_mem_cons, List.forall_mem_nil, getE, selE, Nat.reduceBEq, List.not_mem_nil, false_implies, implies_true, and_true, true_and, and_self])
                    simp [colTo, listTo, slOf, CoolTown.cs, CoolTruth.cs, CoolHouse.cs, intCs, Span.cs]
                  · intro i hi
                    have hcl := colTo_len x w y i
                    have hcs := colTo_succ x w y i
                    have hb1 := fun hh : i < t.sites.length => hall2 i hh
                    generalize hC : colTo x w y i = C at *
                    repeat' (first | ((first | refine o1 rfl ?_ | refine o0 rfl ?_); intro k hk; simp (disch := omega) only [ev0, sl_cells, simprocAttr, slOf, l2]; refine hk _ _ ?_; clear hk k) | refine ono rfl ?_ | ((first | refine osplitG rfl (fun h => ?_) (fun h => ?_) | refine osplitB rfl (fun h => ?_) (fun h => ?_)) <;> (fail_if_success (simp only [eq_self, reduceCtorEq] at h))) | refine onx ?_ | refine onb ?_ | refine sreg ?_ | refine qT rfl ?_ | refine qF rfl ?_ | refine scondT rfl ?_ | refine scondF rfl ?_ | refine ocondP rfl (fun h => ?_) (fun h => ?_) | refine ocondB rfl (fun h => ?_) (fun h => ?_) | refine scondP rfl (fun h => ?_) (fun h => ?_) | refine scond rfl (fun h => ?_) (fun h => ?_) | refine oskip ?_ | refine oskipb ?_ | refine oret ?_ | refine sem_ret ?_ | refine sem_seq ?_ | refine sreg1 ?_)
                    · have hi' : i < t.sites.length := by omega
                      have hi2 : i < x.gives.length := by omega
                      have hgl := (hb1 hi').1
                      have e1 := rowL_take (enc := intCs) (l := C)
                      have hgo : giveOf x y (i : Int) = (x.gives.getD i default).getD y default := rfl
                      refine sem_block ?_
                      repeat' (first | ((first | refine o1 rfl ?_ | refine o0 rfl ?_); intro k hk; simp (disch := omega) only [ev0, sl_cells, simprocAttr, slOf, intsCs, intCs]; refine hk _ _ ?_; clear hk k) | refine ono rfl ?_ | (apply ocall; (case he => (simp only [ev0, sl_cells, simprocAttr] <;> rfl)); (case hc => first | exact cool_set_has hG (setB w) hwlt i (by omega)); (case ht => rfl); (case hg => rfl)) | ((first | refine osplitG rfl (fun h => ?_) (fun h => ?_) | refine osplitB rfl (fun h => ?_) (fun h => ?_)) <;> (fail_if_success (simp only [eq_self, reduceCtorEq] at h))) | refine onx ?_ | refine onb ?_ | refine sreg ?_ | refine qT rfl ?_ | refine qF rfl ?_ | refine scondT rfl ?_ | refine scondF rfl ?_ | refine ocondP rfl (fun h => ?_) (fun h => ?_) | refine ocondB rfl (fun h => ?_) (fun h => ?_) | refine scondP rfl (fun h => ?_) (fun h => ?_) | refine scond rfl (fun h => ?_) (fun h => ?_) | refine oskip ?_ | refine oskipb ?_ | refine oret ?_ | refine sem_ret ?_ | refine sem_seq ?_ | refine sreg1 ?_)
                      · rw [if_pos h, hgo] at hcs
                        refine onil (lnext (i + 1) (by omega) (by omega) ?_)
                        rw [hcs, e1, show ∀ v : Int, [[AV.int .i64 v]] = [intCs v] from fun _ => rfl, rowL_snoc, List.length_append]
                        (refine Le.drop ?_ rfl (by simp) rfl (by simp only [refM, refO, List.all_cons, List.all_nil, Bool.and_true, Bool.true_and, rowL_all (enc := intCs) (fun _ _ => rfl), CoolTown.cs, CoolTruth.cs]; first | done | rfl) ; simp only [List.forall_mem_cons, List.forall_mem_nil, getE, selE, Nat.reduceBEq, List.not_mem_nil, false_implies, implies_true, and_true, true_and, and_self])
                        simp [l2, slOf]
                      · rw [if_neg (by rw [h]; simp)] at hcs
                        refine onil (lnext (i + 1) (by omega) (by omega) ?_)
                        rw [hcs]
                        (refine Le.same ?_; simp only [List.forall_mem_cons, List.forall_mem_nil, getE, selE, Nat.reduceBEq, List.not_mem_nil, false_implies, implies_true, and_true, true_and, and_self])
                        simp [l2, slOf]
                    · have hi' : i = t.sites.length := by omega
                      subst hi'
                      have hCw : C = w.map (giveOf x y) := by rw [← hC]; unfold colTo; rw [listTo_setB hc]
                      have hCb : ∀ v ∈ C, 0 ≤ v ∧ v ≤ 1000000 := by
                        rw [hCw]
                        intro v hv
                        obtain ⟨j, hj, rfl⟩ := List.mem_map.1 hv
                        have hj' := hc.mem j hj
                        obtain ⟨n, rfl⟩ := Int.eq_ofNat_of_zero_le hj'.1
                        have hnl : n < t.sites.length := by omega
                        have a := (hall2 n hnl).2 y hy'
                        have b := (b5 n hnl).2.2.2
                        have b' := (b5 n hnl).2.2.1
                        rw [all_getD] at b
                        have c := b y (by rw [b']; exact hy')
                        unfold inSp at a
                        change 0 ≤ (x.gives.getD n default).getD y default ∧ (x.gives.getD n default).getD y default ≤ 1000000
                        omega
                      have hSb := sumL_bound hCb
                      have hov : over1 x w y = sumL C - x.needs.getD y default := by rw [hCw]; unfold over1; omega
                      have hnb : nd.cold := by
                        have := all_getD.1 ok.2.2.1 y hy'
                        rw [← hnd]
                        exact this.1
                      obtain ⟨nb1, nb2, nb3⟩ := hnb
                      have e1 := rowL_take (enc := intCs) (l := L)
                      (refine sem_exit ?_; change sem _ _ _ _ _)
                      refine sreg1 ?_
                      refine semL_frzlist (enc := intCs) 4 rfl (fun _ => rfl) ?_
                      simp only [frzE, frzM, frzO, frzA, frzL, List.map_cons, List.map_nil, List.set_cons_zero, List.set_cons_succ, Nat.reduceEqDiff, if_true, if_false, and_self, Nat.le_refl, reduceIte, frz_sl, frz_rowL (enc := intCs) (fun _ => rfl), frz_town, frz_truth, frz_span]
                      repeat' (first | ((first | refine o1 rfl ?_ | refine o0 rfl ?_); intro k hk; simp (disch := omega) only [ev0, sl_cells, simprocAttr]; refine hk _ _ ?_; clear hk k) | refine ono rfl ?_ | (apply ocall; (case he => (simp only [ev0, sl_cells, simprocAttr] <;> rfl)); (case hc => first | exact cool_sum hG C (by omega) hCb); (case ht => rfl); (case hg => rfl)) | ((first | refine osplitG rfl (fun h => ?_) (fun h => ?_) | refine osplitB rfl (fun h => ?_) (fun h => ?_)) <;> (fail_if_success (simp only [eq_self, reduceCtorEq] at h))) | refine onx ?_ | refine onb ?_ | refine sreg ?_ | refine qT rfl ?_ | refine qF rfl ?_ | refine scondT rfl ?_ | refine scondF rfl ?_ | refine ocondP rfl (fun h => ?_) (fun h => ?_) | refine ocondB rfl (fun h => ?_) (fun h => ?_) | refine scondP rfl (fun h => ?_) (fun h => ?_) | refine scond rfl (fun h => ?_) (fun h => ?_) | refine oskip ?_ | refine oskipb ?_ | refine oret ?_ | refine sem_ret ?_ | refine sem_seq ?_ | refine sreg1 ?_)
                      refine onil (lnext (y + 1) ⟨by omega, fun j hj => ?_⟩ (by omega) ?_)
                      · by_cases e : j = y
                        · subst e; rw [hnd]; exact hneed
                        · exact hall j (by omega)
                      · rw [hsu, e1, hov, show ∀ v : Int, [[AV.int .i64 v]] = [intCs v] from fun _ => rfl, rowL_snoc, List.length_append]
                        (refine Le.drop ?_ rfl (by simp) rfl (by simp only [refM, refO, List.all_cons, List.all_nil, Bool.and_true, Bool.true_and, rowL_all (enc := intCs) (fun _ _ => rfl), CoolTown.cs, CoolTruth.cs]; first | done | rfl) ; simp only [List.forall_mem_cons, List.forall_mem_nil, getE, selE, Nat.reduceBEq, List.not_mem_nil, false_implies, implies_true, and_true, true_and, and_self])
                        simp [l1]
              · have hy' : y = t.houses.length := by omega
                subst hy'
                rw [if_pos ⟨ok, hc, l1, l2, hall, hall2⟩, hL]
                (refine sem_exit ?_; change sem _ _ _ _ _)
                refine sem_frzlist (enc := intCs) 2 rfl (fun _ => rfl) ?_
                simp only [frzE, frzM, frzO, frzA, frzL, List.map_cons, List.map_nil, List.set_cons_zero, List.set_cons_succ, Nat.reduceEqDiff, if_true, if_false, and_self, Nat.le_refl, reduceIte, frz_sl]
                repeat' (first | ((first | refine o1 rfl ?_ | refine o0 rfl ?_); intro k hk; simp (disch := omega) only [ev0, sl_cells, simprocAttr]; refine hk _ _ ?_; clear hk k) | refine ono rfl ?_ | ((first | refine osplitG rfl (fun h => ?_) (fun h => ?_) | refine osplitB rfl (fun h => ?_) (fun h => ?_)) <;> (fail_if_success (simp only [eq_self, reduceCtorEq] at h))) | refine onx ?_ | refine onb ?_ | refine sreg ?_ | refine qT rfl ?_ | refine qF rfl ?_ | refine scondT rfl ?_ | refine scondF rfl ?_ | refine ocondP rfl (fun h => ?_) (fun h => ?_) | refine ocondB rfl (fun h => ?_) (fun h => ?_) | refine scondP rfl (fun h => ?_) (fun h => ?_) | refine scond rfl (fun h => ?_) (fun h => ?_) | refine oskip ?_ | refine oskipb ?_ | refine oret ?_ | refine sem_ret ?_ | refine sem_seq ?_ | refine sreg1 ?_)
                exact ⟨_, rfl, _, rfl, tree_eq rfl rfl⟩
      · obtain ⟨l1, l2⟩ := hl
        have hb := cool_bits hG t ok.2.1.2 w (by omega)
        rw [if_neg hc, decide_eq_false hc] at hb
        rw [decide_eq_true ok] at hv
        rw [if_neg (fun hh => hc hh.2.1)]
        have q1 : ((x.needs.length : Int) = (t.houses.length : Int)) = True := eq_true (by omega)
        have q2 : ((x.gives.length : Int) = (t.sites.length : Int)) = True := eq_true (by omega)
        (refine holds_of_sem hG fn_cool_Play (by simp) fun w0 S0 hG0 D0 => ?_; unfold c_cool_Play cval enterEnv; simp only [List.zipIdx_cons, List.zipIdx_nil, List.map_cons, List.map_nil, Nat.zero_add, Nat.reduceAdd])
        repeat' (first | ((first | refine o1 rfl ?_ | refine o0 rfl ?_); intro k hk; simp (disch := omega) only [ev0, sl_cells, simprocAttr, CoolTown.cs, CoolTruth.cs, slOf, q1, q2]; refine hk _ _ ?_; clear hk k) | refine ono rfl ?_ | (apply ocall; (case he => (simp only [ev0, sl_cells, simprocAttr] <;> rfl)); (case hc => first | exact hv | exact hb); (case ht => rfl); (case hg => rfl)) | ((first | refine osplitG rfl (fun h => ?_) (fun h => ?_) | refine osplitB rfl (fun h => ?_) (fun h => ?_)) <;> (fail_if_success (simp only [eq_self, reduceCtorEq] at h))) | refine onx ?_ | refine onb ?_ | refine sreg ?_ | refine qT rfl ?_ | refine qF rfl ?_ | refine scondT rfl ?_ | refine scondF rfl ?_ | refine ocondP rfl (fun h => ?_) (fun h => ?_) | refine ocondB rfl (fun h => ?_) (fun h => ?_) | refine scondP rfl (fun h => ?_) (fun h => ?_) | refine scond rfl (fun h => ?_) (fun h => ?_) | refine oskip ?_ | refine oskipb ?_ | refine oret ?_ | refine sem_ret ?_ | refine sem_seq ?_ | refine sreg1 ?_)
        exact ⟨_, rfl, _, rfl, tree_eq rfl rfl⟩
    · rw [if_neg (fun hh => hl ⟨hh.2.2.1, hh.2.2.2.1⟩)]
      rw [decide_eq_true ok] at hv
      (refine holds_of_sem hG fn_cool_Play (by simp) fun w0 S0 hG0 D0 => ?_; unfold c_cool_Play cval enterEnv; simp only [List.zipIdx_cons, List.zipIdx_nil, List.map_cons, List.map_nil, Nat.zero_add, Nat.reduceAdd])
      repeat' (first | ((first | refine o1 rfl ?_ | refine o0 rfl ?_); intro k hk; simp (disch := omega) only [ev0, sl_cells, simprocAttr, CoolTown.cs, CoolTruth.cs, slOf]; refine hk _ _ ?_; clear hk k) | refine ono rfl ?_ | (apply ocall; (case he => (simp only [ev0, sl_cells, simprocAttr] <;> rfl)); (case hc => first | exact hv); (case ht => rfl); (case hg => rfl)) | ((first | refine osplitG rfl (fun h => ?_) (fun h => ?_) | refine osplitB rfl (fun h => ?_) (fun h => ?_)) <;> (fail_if_success (simp only [eq_self, reduceCtorEq] at h))) | refine onx ?_ | refine onb ?_ | refine sreg ?_ | refine qT rfl ?_ | refine qF rfl ?_ | refine scondT rfl ?_ | refine scondF rfl ?_ | refine ocondP rfl (fun h => ?_) (fun h => ?_) | refine ocondB rfl (fun h => ?_) (fun h => ?_) | refine scondP rfl (fun h => ?_) (fun h => ?_) | refine scond rfl (fun h => ?_) (fun h => ?_) | refine oskip ?_ | refine oskipb ?_ | refine oret ?_ | refine sem_ret ?_ | refine sem_seq ?_ | refine sreg1 ?_)
      all_goals first
        | exact ⟨_, rfl, _, rfl, tree_eq rfl rfl⟩
        | (exfalso; (try simp only [Bool.not_eq_true', Bool.not_eq_false', decide_eq_true_eq, decide_eq_false_iff_not] at *); omega)
  · rw [if_neg (fun hh => ok hh.1)]
    rw [decide_eq_false ok] at hv
    (refine holds_of_sem hG fn_cool_Play (by simp) fun w0 S0 hG0 D0 => ?_; unfold c_cool_Play cval enterEnv; simp only [List.zipIdx_cons, List.zipIdx_nil, List.map_cons, List.map_nil, Nat.zero_add, Nat.reduceAdd])
    repeat' (first | ((first | refine o1 rfl ?_ | refine o0 rfl ?_); intro k hk; simp (disch := omega) only [ev0, sl_cells, simprocAttr]; refine hk _ _ ?_; clear hk k) | refine ono rfl ?_ | (apply ocall; (case he => (simp only [ev0, sl_cells, simprocAttr] <;> rfl)); (case hc => first | exact hv); (case ht => rfl); (case hg => rfl)) | ((first | refine osplitG rfl (fun h => ?_) (fun h => ?_) | refine osplitB rfl (fun h => ?_) (fun h => ?_)) <;> (fail_if_success (simp only [eq_self, reduceCtorEq] at h))) | refine onx ?_ | refine onb ?_ | refine sreg ?_ | refine qT rfl ?_ | refine qF rfl ?_ | refine scondT rfl ?_ | refine scondF rfl ?_ | refine ocondP rfl (fun h => ?_) (fun h => ?_) | refine ocondB rfl (fun h => ?_) (fun h => ?_) | refine scondP rfl (fun h => ?_) (fun h => ?_) | refine scond rfl (fun h => ?_) (fun h => ?_) | refine oskip ?_ | refine oskipb ?_ | refine oret ?_ | refine sem_ret ?_ | refine sem_seq ?_ | refine sreg1 ?_)
    exact ⟨_, rfl, _, rfl, tree_eq rfl rfl⟩
end Go.Proofs.Ytnempffajbdneaa
