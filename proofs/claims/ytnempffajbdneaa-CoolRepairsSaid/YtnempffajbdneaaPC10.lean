/- The reference: the worst truth; whether a house is surely level. -/
import Derived.Test.YtnempffajbdneaaPC9
import Derived.Test.YtnempffajbdneaaPMq
set_option linter.unusedVariables false
set_option linter.unusedSimpArgs false
set_option maxRecDepth 8000
set_option maxHeartbeats 2000000
namespace Go.Tk
open Go Go.Av
def needsW (t : CoolTown) (n : Nat) : List Int := (List.range n).map fun y => (t.houses.getD y default).need.high
def lowsW (t : CoolTown) (n : Nat) (i : Nat) : List Int := (List.range n).map fun y => ((t.sites.getD i default).gives.getD y default).low
def givesW (t : CoolTown) (n : Nat) : List (List Int) := (List.range n).map (lowsW t t.houses.length)
def worstT (t : CoolTown) : CoolTruth := ⟨needsW t t.houses.length, givesW t t.sites.length⟩
theorem needsW_succ (t : CoolTown) (n : Nat) : needsW t (n + 1) = needsW t n ++ [(t.houses.getD n default).need.high] := by simp [needsW, List.range_succ]
theorem lowsW_succ (t : CoolTown) (n i : Nat) : lowsW t (n + 1) i = lowsW t n i ++ [((t.sites.getD i default).gives.getD n default).low] := by simp [lowsW, List.range_succ]
theorem givesW_succ (t : CoolTown) (n : Nat) : givesW t (n + 1) = givesW t n ++ [lowsW t t.houses.length n] := by simp [givesW, List.range_succ]
theorem needsW_len (t : CoolTown) (n : Nat) : (needsW t n).length = n := by simp [needsW]
theorem lowsW_len (t : CoolTown) (n i : Nat) : (lowsW t n i).length = n := by simp [lowsW]
theorem givesW_len (t : CoolTown) (n : Nat) : (givesW t n).length = n := by simp [givesW]
theorem worstB {t : CoolTown} (ht : t.ok) : truthB t (worstT t) := by
  obtain ⟨h1, h2, h3, h4⟩ := ht
  refine ⟨needsW_len _ _, fun v hv => ?_, givesW_len _ _, fun l hl => ?_⟩
  · obtain ⟨y, hy, rfl⟩ := List.mem_map.1 hv
    have := all_getD.1 h3 y (List.mem_range.1 hy)
    obtain ⟨⟨a, b, c⟩, d⟩ := this
    omega
  · obtain ⟨i, hi, rfl⟩ := List.mem_map.1 hl
    refine ⟨lowsW_len _ _ _, fun v hv => ?_⟩
    obtain ⟨y, hy, rfl⟩ := List.mem_map.1 hv
    obtain ⟨a, b, c, d⟩ := all_getD.1 h4 i (List.mem_range.1 hi)
    have := all_getD.1 d y (by rw [c]; exact List.mem_range.1 hy)
    obtain ⟨e, f, g⟩ := this
    omega
/-- Whether a house is surely level with some working coolers. -/
def levelB (t : CoolTown) (w : List Int) (y : Nat) : Bool := decide (0 ≤ over1 (worstT t) w y)
end Go.Tk
namespace Go.Proofs.Ytnempffajbdneaa
open Go Go.Av Go.Tk
attribute [local irreducible] Holds sem semL ACalls FnIs
variable {G : World → Prop} (hG : ∀ w w', G w → RowKit.Below w.heap.size w w' → G w')
include hG
theorem ref03_Worst (t : CoolTown) (ht : t.ok) : Holds Try.prog G F.ref03_Worst [.agg t.cs] (.agg (worstT t).cs) := by
  have hn := ht.1
  have hns := ht.2.1
  (refine holds_of_sem hG fn_ref03_Worst (by simp) fun w0 S0 hG0 D0 => ?_; unfold c_ref03_Worst cval enterEnv; simp only [List.zipIdx_cons, List.zipIdx_nil, List.map_cons, List.map_nil, Nat.zero_add, Nat.reduceAdd])
  repeat' (first | ((first | refine o1 rfl ?_ | refine o0 rfl ?_); intro k hk; simp (disch := omega) only [ev0, sl_cells, simprocAttr]; refine hk _ _ ?_; clear hk k) | refine ono rfl ?_ | ((first | refine osplitG rfl (fun h => ?_) (fun h => ?_) | refine osplitB rfl (fun h => ?_) (fun h => ?_)) <;> (fail_if_success (simp only [eq_self, reduceCtorEq] at h))) | refine onx ?_ | refine onb ?_ | refine sreg ?_ | refine qT rfl ?_ | refine qF rfl ?_ | refine scondT rfl ?_ | refine scondF rfl ?_ | refine ocondP rfl (fun h => ?_) (fun h => ?_) | refine ocondB rfl (fun h => ?_) (fun h => ?_) | refine scondP rfl (fun h => ?_) (fun h => ?_) | refine scond rfl (fun h => ?_) (fun h => ?_) | refine oskip ?_ | refine oskipb ?_ | refine oret ?_ | refine sem_ret ?_ | refine sem_seq ?_ | refine sreg1 ?_)
  refine sem_ghostC 2 0 0 3 1 rfl rfl rfl ?_
  refine sem_block ?_
  
  refine sem_loop (α := Nat) (fun y => ⟨[(1, .ptr 0 0 2 0 0), (2, .ptr 1 0 2 0 0), (3, .ptr 2 0 2 0 0), (4, I y)], [.row 25 0 2 [t.cs], .row 53 0 2 [[.nilsl, .nilsl]], .row 53 0 2 [[.hsl 3 (needsW t y).length 1 (needsW t y).length, .nilsl]], .row 3 (needsW t y).length 1 (rowL intCs (needsW t y))]⟩) (fun y => y ≤ t.houses.length) (fun y => t.houses.length - y) 0 (Nat.zero_le _) ?_ ?_
  · (refine Le.same ?_; simp only [List.forall_mem_cons, List.forall_mem_nil, getE, selE, Nat.reduceBEq, List.not_mem_nil, false_implies, implies_true, and_true, true_and, and_self])
    simp [needsW, CoolTown.cs]
  · intro y hy
    have hlen := needsW_len t y
    have hsu := needsW_succ t y
    generalize hL : needsW t y = L at *
    repeat' (first | ((first | refine o1 rfl ?_ | refine o0 rfl ?_); intro k hk; simp (disch := omega) only [ev0, sl_cells, simprocAttr, CoolTown.cs, slOf]; refine hk _ _ ?_; clear hk k) | refine ono rfl ?_ | ((first | refine osplitG rfl (fun h => ?_) (fun h => ?_) | refine osplitB rfl (fun h => ?_) (fun h => ?_)) <;> (fail_if_success (simp only [eq_self, reduceCtorEq] at h))) | refine onx ?_ | refine onb ?_ | refine sreg ?_ | refine qT rfl ?_ | refine qF rfl ?_ | refine scondT rfl ?_ | refine scondF rfl ?_ | refine ocondP rfl (fun h => ?_) (fun h => ?_) | refine ocondB rfl (fun h => ?_) (fun h => ?_) | refine scondP rfl (fun h => ?_) (fun h => ?_) | refine scond rfl (fun h => ?_) (fun h => ?_) | refine oskip ?_ | refine oskipb ?_ | refine oret ?_ | refine sem_ret ?_ | refine sem_seq ?_ | refine sreg1 ?_)
    · have hy' : y < t.houses.length := by omega
      have e1 := rowL_take (enc := intCs) (l := L)
      refine sem_block ?_
      repeat' (first | ((first | refine o1 rfl ?_ | refine o0 rfl ?_); intro k hk; simp (disch := omega) only [ev0, sl_cells, simprocAttr]; refine hk _ _ ?_; clear hk k) | refine ono rfl ?_ | ((first | refine osplitG rfl (fun h => ?_) (fun h => ?_) | refine osplitB rfl (fun h => ?_) (fun h => ?_)) <;> (fail_if_success (simp only [eq_self, reduceCtorEq] at h))) | refine onx ?_ | refine onb ?_ | refine sreg ?_ | refine qT rfl ?_ | refine qF rfl ?_ | refine scondT rfl ?_ | refine scondF rfl ?_ | refine ocondP rfl (fun h => ?_) (fun h => ?_) | refine ocondB rfl (fun h => ?_) (fun h => ?_) | refine scondP rfl (fun h => ?_) (fun h => ?_) | refine scond rfl (fun h => ?_) (fun h => ?_) | refine oskip ?_ | refine oskipb ?_ | refine oret ?_ | refine sem_ret ?_ | refine sem_seq ?_ | refine sreg1 ?_)
      ((refine sem_mgo 10 hmix (by kernel_rfl) ?_; simp only [nt]); (repeat' (first | ((first | apply mop | apply mop0); (case hg => rfl); (case hq => rfl); intro k hk; simp (disch := omega) only [ev0, sl_cells, simprocAttr, CoolTown.cs, CoolHouse.cs, slOf]; refine hk _ _ rfl ?_; clear hk k) | (apply mno; (case hg => rfl)) | (apply mbox; (case hx => (simp only [wv, simprocAttr] <;> rfl)); (case hg => rfl); (case hall => rfl); (case hr => rfl); simp only [nm, Nat.reduceAdd]) | (apply mbldS; (case hb => (simp (disch := omega) only [ev0, sl_cells, simprocAttr] <;> rfl)); (case hg => rfl); (case hr => rfl); simp only [nm, Nat.reduceAdd]) | ((first | (apply msto (q := 0); (case hq => rfl)) | (apply msto (q := 1); (case hq => rfl)) | (apply msto (q := 2); (case hq => rfl)) | (apply msto (q := 3); (case hq => rfl))); (case hx => (simp only [wv, simprocAttr] <;> rfl)); (case haddr => (simp only [wv, simprocAttr] <;> rfl)); (case hg => rfl); (case hl1 => rfl); (case hl2 => rfl); (case hok => rfl); (case hr => rfl); simp only [nm, Nat.reduceAdd]) | (apply mnil; simp only [SlotR.fin, ns]) | (refine msplit rfl (fun h => ?_) (fun h => ?_) <;> simp only [h] <;> (try simp only [nb] at h)))) <;> (repeat' (first | ((first | refine o1 rfl ?_ | refine o0 rfl ?_); intro k hk; simp (disch := omega) only [ev0, sl_cells, simprocAttr, CoolTown.cs, CoolHouse.cs, slOf]; refine hk _ _ ?_; clear hk k) | refine ono rfl ?_ | ((first | refine osplitG rfl (fun h => ?_) (fun h => ?_) | refine osplitB rfl (fun h => ?_) (fun h => ?_)) <;> (fail_if_success (simp only [eq_self, reduceCtorEq] at h))) | refine onx ?_ | refine onb ?_ | refine sreg ?_ | refine qT rfl ?_ | refine qF rfl ?_ | refine scondT rfl ?_ | refine scondF rfl ?_ | refine ocondP rfl (fun h => ?_) (fun h => ?_) | refine ocondB rfl (fun h => ?_) (fun h => ?_) | refine scondP rfl (fun h => ?_) (fun h => ?_) | refine scond rfl (fun h => ?_) (fun h => ?_) | refine oskip ?_ | refine oskipb ?_ | refine oret ?_ | refine sem_ret ?_ | refine sem_seq ?_ | refine sreg1 ?_)))
      refine onil (lnext (y + 1) (by omega) (by omega) ?_)
      rw [hsu, e1, show ∀ v : Int, [[AV.int .i64 v]] = [intCs v] from fun _ => rfl, rowL_snoc, List.length_append]
      (refine Le.drop ?_ rfl (by simp) rfl (by simp only [refM, refO, List.all_cons, List.all_nil, Bool.and_true, Bool.true_and, rowL_all (enc := intCs) (fun _ _ => rfl), CoolTown.cs]; first | done | rfl) ; simp only [List.forall_mem_cons, List.forall_mem_nil, getE, selE, Nat.reduceBEq, List.not_mem_nil, false_implies, implies_true, and_true, true_and, and_self])
      simp
    · have hy' : y = t.houses.length := by omega
      subst hy'
      have hL' : L.length ≤ 1000 := by omega
      (refine sem_exit ?_; change sem _ _ _ _ _)
      repeat' (first | ((first | refine o1 rfl ?_ | refine o0 rfl ?_); intro k hk; simp (disch := omega) only [ev0, sl_cells, simprocAttr]; refine hk _ _ ?_; clear hk k) | refine ono rfl ?_ | ((first | refine osplitG rfl (fun h => ?_) (fun h => ?_) | refine osplitB rfl (fun h => ?_) (fun h => ?_)) <;> (fail_if_success (simp only [eq_self, reduceCtorEq] at h))) | refine onx ?_ | refine onb ?_ | refine sreg ?_ | refine qT rfl ?_ | refine qF rfl ?_ | refine scondT rfl ?_ | refine scondF rfl ?_ | refine ocondP rfl (fun h => ?_) (fun h => ?_) | refine ocondB rfl (fun h => ?_) (fun h => ?_) | refine scondP rfl (fun h => ?_) (fun h => ?_) | refine scond rfl (fun h => ?_) (fun h => ?_) | refine oskip ?_ | refine oskipb ?_ | refine oret ?_ | refine sem_ret ?_ | refine sem_seq ?_ | refine sreg1 ?_)
      refine sem_ghostC 2 0 1 28 1 rfl rfl rfl ?_
      refine sem_block ?_
      
      refine sem_loop (α := Nat) (fun i => ⟨[(1, .ptr 0 0 2 0 0), (2, .ptr 1 0 2 0 0), (3, .ptr 2 0 2 0 0), (5, I i)], [.row 25 0 2 [t.cs], .row 53 0 2 [[.nilsl, .nilsl]], .row 53 0 2 [[.hsl 3 L.length 1 L.length, .hsl 4 (givesW t i).length 1 (givesW t i).length]], .row 3 L.length 1 (rowL intCs L), .row 28 (givesW t i).length 1 (rowL intsCs (givesW t i))]⟩) (fun i => i ≤ t.sites.length) (fun i => t.sites.length - i) 0 (Nat.zero_le _) ?_ ?_
      · (refine Le.same ?_; simp only [List.forall_mem_cons, List.forall_mem_nil, getE, selE, Nat.reduceBEq, List.not_mem_nil, false_implies, implies_true, and_true, true_and, and_self])
        simp [givesW, CoolTown.cs]
      · intro i hi
        have hglen := givesW_len t i
        have hgsu := givesW_succ t i
        generalize hM : givesW t i = M at *
        repeat' (first | ((first | refine o1 rfl ?_ | refine o0 rfl ?_); intro k hk; simp (disch := omega) only [ev0, sl_cells, simprocAttr, CoolTown.cs, slOf]; refine hk _ _ ?_; clear hk k) | refine ono rfl ?_ | ((first | refine osplitG rfl (fun h => ?_) (fun h => ?_) | refine osplitB rfl (fun h => ?_) (fun h => ?_)) <;> (fail_if_success (simp only [eq_self, reduceCtorEq] at h))) | refine onx ?_ | refine onb ?_ | refine sreg ?_ | refine qT rfl ?_ | refine qF rfl ?_ | refine scondT rfl ?_ | refine scondF rfl ?_ | refine ocondP rfl (fun h => ?_) (fun h => ?_) | refine ocondB rfl (fun h => ?_) (fun h => ?_) | refine scondP rfl (fun h => ?_) (fun h => ?_) | refine scond rfl (fun h => ?_) (fun h => ?_) | refine oskip ?_ | refine oskipb ?_ | refine oret ?_ | refine sem_ret ?_ | refine sem_seq ?_ | refine sreg1 ?_)
        · have hi' : i < t.sites.length := by omega
          have hgl : (t.sites.getD i default).gives.length = t.houses.length := (all_getD.1 ht.2.2.2 i hi').2.2.1
          have e2 := rowL_take (enc := intsCs) (l := M)
          refine sem_block ?_
          repeat' (first | ((first | refine o1 rfl ?_ | refine o0 rfl ?_); intro k hk; simp (disch := omega) only [ev0, sl_cells, simprocAttr]; refine hk _ _ ?_; clear hk k) | refine ono rfl ?_ | ((first | refine osplitG rfl (fun h => ?_) (fun h => ?_) | refine osplitB rfl (fun h => ?_) (fun h => ?_)) <;> (fail_if_success (simp only [eq_self, reduceCtorEq] at h))) | refine onx ?_ | refine onb ?_ | refine sreg ?_ | refine qT rfl ?_ | refine qF rfl ?_ | refine scondT rfl ?_ | refine scondF rfl ?_ | refine ocondP rfl (fun h => ?_) (fun h => ?_) | refine ocondB rfl (fun h => ?_) (fun h => ?_) | refine scondP rfl (fun h => ?_) (fun h => ?_) | refine scond rfl (fun h => ?_) (fun h => ?_) | refine oskip ?_ | refine oskipb ?_ | refine oret ?_ | refine sem_ret ?_ | refine sem_seq ?_ | refine sreg1 ?_)
          refine sem_block ?_
          (refine sem_ghost 6 3 1 rfl ?_; simp only [List.length_cons, List.length_nil, Nat.reduceAdd, Nat.zero_add, List.cons_append, List.nil_append])
          
          refine sem_loop (α := Nat) (fun y => ⟨[(1, .ptr 0 0 2 0 0), (2, .ptr 1 0 2 0 0), (3, .ptr 2 0 2 0 0), (5, I i), (6, .hsl 5 (lowsW t y i).length 1 (lowsW t y i).length), (7, I y)], [.row 25 0 2 [t.cs], .row 53 0 2 [[.nilsl, .nilsl]], .row 53 0 2 [[.hsl 3 L.length 1 L.length, .hsl 4 M.length 1 M.length]], .row 3 L.length 1 (rowL intCs L), .row 28 M.length 1 (rowL intsCs M), .row 3 (lowsW t y i).length 1 (rowL intCs (lowsW t y i))]⟩) (fun y => y ≤ t.houses.length) (fun y => t.houses.length - y) 0 (Nat.zero_le _) ?_ ?_
          · (refine Le.same ?_; simp only [List.forall_mem_cons, List.forall_mem_nil, getE, selE, Nat.reduceBEq, List.not_mem_nil, false_implies, implies_true, and_true, true_and, and_self])
            simp [lowsW, CoolTown.cs]
          · intro y hy
            have hlen2 := lowsW_len t y i
            have hsu2 := lowsW_succ t y i
            generalize hN : lowsW t y i = N at *
            repeat' (first | ((first | refine o1 rfl ?_ | refine o0 rfl ?_); intro k hk; simp (disch := omega) only [ev0, sl_cells, simprocAttr, CoolTown.cs, slOf]; refine hk _ _ ?_; clear hk k) | refine ono rfl ?_ | ((first | refine osplitG rfl (fun h => ?_) (fun h => ?_) | refine osplitB rfl (fun h => ?_) (fun h => ?_)) <;> (fail_if_success (simp only [eq_self, reduceCtorEq] at h))) | refine onx ?_ | refine onb ?_ | refine sreg ?_ | refine qT rfl ?_ | refine qF rfl ?_ | refine scondT rfl ?_ | refine scondF rfl ?_ | refine ocondP rfl (fun h => ?_) (fun h => ?_) | refine ocondB rfl (fun h => ?_) (fun h => ?_) | refine scondP rfl (fun h => ?_) (fun h => ?_) | refine scond rfl (fun h => ?_) (fun h => ?_) | refine oskip ?_ | refine oskipb ?_ | refine oret ?_ | refine sem_ret ?_ | refine sem_seq ?_ | refine sreg1 ?_)
            · have hy' : y < t.houses.length := by omega
              have e1 := rowL_take (enc := intCs) (l := N)
              refine sem_block ?_
              repeat' (first | ((first | refine o1 rfl ?_ | refine o0 rfl ?_); intro k hk; simp (disch := omega) only [ev0, sl_cells, simprocAttr, CoolTown.cs, CoolSite.cs, Span.cs, slOf]; refine hk _ _ ?_; clear hk k) | refine ono rfl ?_ | ((first | refine osplitG rfl (fun h => ?_) (fun h => ?_) | refine osplitB rfl (fun h => ?_) (fun h => ?_)) <;> (fail_if_success (simp only [eq_self, reduceCtorEq] at h))) | refine onx ?_ | refine onb ?_ | refine sreg ?_ | refine qT rfl ?_ | refine qF rfl ?_ | refine scondT rfl ?_ | refine scondF rfl ?_ | refine ocondP rfl (fun h => ?_) (fun h => ?_) | refine ocondB rfl (fun h => ?_) (fun h => ?_) | refine scondP rfl (fun h => ?_) (fun h => ?_) | refine scond rfl (fun h => ?_) (fun h => ?_) | refine oskip ?_ | refine oskipb ?_ | refine oret ?_ | refine sem_ret ?_ | refine sem_seq ?_ | refine sreg1 ?_)
              refine onil (lnext (y + 1) (by omega) (by omega) ?_)
              rw [hsu2, e1, show ∀ v : Int, [[AV.int .i64 v]] = [intCs v] from fun _ => rfl, rowL_snoc, List.length_append]
              (refine Le.drop ?_ rfl (by simp) rfl (by simp only [refM, refO, List.all_cons, List.all_nil, Bool.and_true, Bool.true_and, rowL_all (enc := intCs) (fun _ _ => rfl), rowL_all (enc := intsCs) (fun _ _ => rfl), CoolTown.cs]; first | done | rfl) ; simp only [List.forall_mem_cons, List.forall_mem_nil, getE, selE, Nat.reduceBEq, List.not_mem_nil, false_implies, implies_true, and_true, true_and, and_self])
              simp
            · have hy' : y = t.houses.length := by omega
              subst hy'
              (refine sem_exit ?_; change sem _ _ _ _ _)
              refine sem_frzlist (enc := intCs) 5 rfl (fun _ => rfl) ?_
              simp only [frzE, frzM, frzO, frzA, frzL, List.map_cons, List.map_nil, List.set_cons_zero, List.set_cons_succ, Nat.reduceEqDiff, if_true, if_false, and_self, Nat.le_refl, reduceIte, frz_sl, frz_town]
              have gr : ∀ a : List Int, frzL 5 N.length 1 N.length (fun i => intCs (N.getD i default)) (intsCs a) = intsCs a := fun _ => rfl
              have gi : ∀ a : Int, frzL 5 N.length 1 N.length (fun i => intCs (N.getD i default)) (intCs a) = intCs a := fun _ => rfl
              try simp only [frz_rowL gr, frz_rowL gi]
              repeat' (first | ((first | refine o1 rfl ?_ | refine o0 rfl ?_); intro k hk; simp (disch := omega) only [ev0, sl_cells, simprocAttr]; refine hk _ _ ?_; clear hk k) | refine ono rfl ?_ | ((first | refine osplitG rfl (fun h => ?_) (fun h => ?_) | refine osplitB rfl (fun h => ?_) (fun h => ?_)) <;> (fail_if_success (simp only [eq_self, reduceCtorEq] at h))) | refine onx ?_ | refine onb ?_ | refine sreg ?_ | refine qT rfl ?_ | refine qF rfl ?_ | refine scondT rfl ?_ | refine scondF rfl ?_ | refine ocondP rfl (fun h => ?_) (fun h => ?_) | refine ocondB rfl (fun h => ?_) (fun h => ?_) | refine scondP rfl (fun h => ?_) (fun h => ?_) | refine scond rfl (fun h => ?_) (fun h => ?_) | refine oskip ?_ | refine oskipb ?_ | refine oret ?_ | refine sem_ret ?_ | refine sem_seq ?_ | refine sreg1 ?_)
              refine onil (lnext (i + 1) (by omega) (by omega) ?_)
              rw [hgsu, hN, e2, show ∀ v : List Int, [[.sl v.length fun i => intCs (v.getD i default)]] = [intsCs v] from fun _ => rfl, rowL_snoc, List.length_append]
              (refine Le.drop ?_ rfl (by simp) rfl (by simp only [refM, refO, List.all_cons, List.all_nil, Bool.and_true, Bool.true_and, rowL_all (enc := intCs) (fun _ _ => rfl), rowL_all (enc := intsCs) (fun _ _ => rfl), CoolTown.cs]; first | done | rfl) ; simp only [List.forall_mem_cons, List.forall_mem_nil, getE, selE, Nat.reduceBEq, List.not_mem_nil, false_implies, implies_true, and_true, true_and, and_self])
              simp
        · have hi' : i = t.sites.length := by omega
          subst hi'
          (refine sem_exit ?_; change sem _ _ _ _ _)
          refine sem_frzlist (enc := intCs) 3 rfl (fun _ => rfl) ?_
          simp only [frzE, frzM, frzO, frzA, frzL, List.map_cons, List.map_nil, List.set_cons_zero, List.set_cons_succ, Nat.reduceEqDiff, if_true, if_false, and_self, Nat.le_refl, reduceIte, frz_sl, frz_town]
          have gr : ∀ a : List Int, frzL 3 L.length 1 L.length (fun i => intCs (L.getD i default)) (intsCs a) = intsCs a := fun _ => rfl
          try simp only [frz_rowL gr]
          refine sem_frzlist (enc := intsCs) 4 rfl (fun _ => rfl) ?_
          simp only [frzE, frzM, frzO, frzA, frzL, List.map_cons, List.map_nil, List.set_cons_zero, List.set_cons_succ, Nat.reduceEqDiff, if_true, if_false, and_self, Nat.le_refl, reduceIte, frz_sl, frz_town]
          repeat' (first | ((first | refine o1 rfl ?_ | refine o0 rfl ?_); intro k hk; simp (disch := omega) only [ev0, sl_cells, simprocAttr]; refine hk _ _ ?_; clear hk k) | refine ono rfl ?_ | ((first | refine osplitG rfl (fun h => ?_) (fun h => ?_) | refine osplitB rfl (fun h => ?_) (fun h => ?_)) <;> (fail_if_success (simp only [eq_self, reduceCtorEq] at h))) | refine onx ?_ | refine onb ?_ | refine sreg ?_ | refine qT rfl ?_ | refine qF rfl ?_ | refine scondT rfl ?_ | refine scondF rfl ?_ | refine ocondP rfl (fun h => ?_) (fun h => ?_) | refine ocondB rfl (fun h => ?_) (fun h => ?_) | refine scondP rfl (fun h => ?_) (fun h => ?_) | refine scond rfl (fun h => ?_) (fun h => ?_) | refine oskip ?_ | refine oskipb ?_ | refine oret ?_ | refine sem_ret ?_ | refine sem_seq ?_ | refine sreg1 ?_)
          have hW : (worstT t).cs = [.sl L.length fun i => intCs (L.getD i default), .sl M.length fun i => intsCs (M.getD i default)] := by rw [← hL, ← hM]; rfl
          rw [hW]
          exact ⟨_, rfl, _, rfl, tree_eq rfl (by simp only [getE, selE, Nat.reduceBEq, List.take_succ_cons, List.take_zero, List.drop_zero])⟩

theorem ref03_Level (t : CoolTown) (ht : t.ok) (w : List Int) (hw : w.length ≤ 1000) (hwb : ∀ i ∈ w, 0 ≤ i ∧ i < t.sites.length) (y : Nat) (hy : y < t.houses.length) :
    Holds Try.prog G F.ref03_Level [.agg t.cs, slOf intCs w, I y] (B (levelB t w y)) := by
  have hl : (overL t.houses.length (worstT t) w).getD y default = over1 (worstT t) w y := by
    rw [getD_lt (by rw [overL_len]; exact hy)]; simp [overL]
  have hl2 := overL_len t.houses.length (worstT t) w
  (refine holds_of_sem hG fn_ref03_Level (by simp) fun w0 S0 hG0 D0 => ?_; unfold c_ref03_Level cval enterEnv; simp only [List.zipIdx_cons, List.zipIdx_nil, List.map_cons, List.map_nil, Nat.zero_add, Nat.reduceAdd])
  repeat' (first | ((first | refine o1 rfl ?_ | refine o0 rfl ?_); intro k hk; simp (disch := omega) only [ev0, sl_cells, simprocAttr]; refine hk _ _ ?_; clear hk k) | refine ono rfl ?_ | ((first | refine osplitG rfl (fun h => ?_) (fun h => ?_) | refine osplitB rfl (fun h => ?_) (fun h => ?_)) <;> (fail_if_success (simp only [eq_self, reduceCtorEq] at h))) | refine onx ?_ | refine onb ?_ | refine sreg ?_ | refine qT rfl ?_ | refine qF rfl ?_ | refine scondT rfl ?_ | refine scondF rfl ?_ | refine ocondP rfl (fun h => ?_) (fun h => ?_) | refine ocondB rfl (fun h => ?_) (fun h => ?_) | refine scondP rfl (fun h => ?_) (fun h => ?_) | refine scond rfl (fun h => ?_) (fun h => ?_) | refine oskip ?_ | refine oskipb ?_ | refine oret ?_ | refine sem_ret ?_ | refine sem_seq ?_ | refine sreg1 ?_)
  ((refine sem_mgo 6 hmix (by kernel_rfl) ?_; simp only [nt]); (repeat' (first | ((first | apply mop | apply mop0); (case hg => rfl); (case hq => rfl); intro k hk; simp (disch := omega) only [ev0, sl_cells, simprocAttr, slOf, hl2, hl]; refine hk _ _ rfl ?_; clear hk k) | (apply mno; (case hg => rfl)) | (apply mcall; (case he => (simp only [ev0, sl_cells, simprocAttr] <;> rfl)); (case hc => first | exact ref03_Worst hG t ht | exact ref03_Over hG t (worstT t) (worstB ht) (by have := ht.1; omega) w hw hwb); (case ht => rfl); (case hg => rfl); (case hr => rfl)) | (apply mbox; (case hx => (simp only [wv, simprocAttr] <;> rfl)); (case hg => rfl); (case hall => rfl); (case hr => rfl); simp only [nm, Nat.reduceAdd]) | (apply mbldS; (case hb => (simp (disch := omega) only [ev0, sl_cells, simprocAttr] <;> rfl)); (case hg => rfl); (case hr => rfl); simp only [nm, Nat.reduceAdd]) | ((first | (apply msto (q := 0); (case hq => rfl)) | (apply msto (q := 1); (case hq => rfl)) | (apply msto (q := 2); (case hq => rfl)) | (apply msto (q := 3); (case hq => rfl))); (case hx => (simp only [wv, simprocAttr] <;> rfl)); (case haddr => (simp only [wv, simprocAttr] <;> rfl)); (case hg => rfl); (case hl1 => rfl); (case hl2 => rfl); (case hok => rfl); (case hr => rfl); simp only [nm, Nat.reduceAdd]) | (apply mnil; simp only [SlotR.fin, ns]) | (refine msplit rfl (fun h => ?_) (fun h => ?_) <;> simp only [h] <;> (try simp only [nb] at h)))) <;> (repeat' (first | ((first | refine o1 rfl ?_ | refine o0 rfl ?_); intro k hk; simp (disch := omega) only [ev0, sl_cells, simprocAttr, slOf, hl2, hl]; refine hk _ _ ?_; clear hk k) | refine ono rfl ?_ | (apply ocall; (case he => (simp only [ev0, sl_cells, simprocAttr] <;> rfl)); (case hc => first | exact ref03_Worst hG t ht | exact ref03_Over hG t (worstT t) (worstB ht) (by have := ht.1; omega) w hw hwb); (case ht => rfl); (case hg => rfl)) | ((first | refine osplitG rfl (fun h => ?_) (fun h => ?_) | refine osplitB rfl (fun h => ?_) (fun h => ?_)) <;> (fail_if_success (simp only [eq_self, reduceCtorEq] at h))) | refine onx ?_ | refine onb ?_ | refine sreg ?_ | refine qT rfl ?_ | refine qF rfl ?_ | refine scondT rfl ?_ | refine scondF rfl ?_ | refine ocondP rfl (fun h => ?_) (fun h => ?_) | refine ocondB rfl (fun h => ?_) (fun h => ?_) | refine scondP rfl (fun h => ?_) (fun h => ?_) | refine scond rfl (fun h => ?_) (fun h => ?_) | refine oskip ?_ | refine oskipb ?_ | refine oret ?_ | refine sem_ret ?_ | refine sem_seq ?_ | refine sreg1 ?_)))
  unfold levelB
  exact ⟨_, rfl, _, rfl, tree_eq rfl rfl⟩
end Go.Proofs.Ytnempffajbdneaa
