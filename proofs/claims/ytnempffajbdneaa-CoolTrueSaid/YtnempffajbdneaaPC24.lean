/- The law CoolTrue over trees. -/
import Derived.Test.YtnempffajbdneaaPC23
import Derived.Test.YtnempffajbdneaaPC8
set_option linter.unusedVariables false
set_option linter.unusedSimpArgs false
set_option maxRecDepth 8000
set_option maxHeartbeats 4000000
namespace Go.Tk
open Go Go.Av
theorem keeps_bears {t : CoolTown} (ht : t.ok) {b : List Int} (hb : coolersOk t.sites.length b) {f : Nat} (hf : f ≤ 3) : keepsB t b f = decide ((f : Int) ≤ bearsI t b) := by
  have hmono : ∀ f f', f ≤ f' → keepsB t b f' = true → keepsB t b f = true := fun f f' hff h => by
    unfold keepsB at *
    rw [decide_eq_true_iff, brk_iff] at *
    exact fun y hy => lev_mono ht hb hy hff (h y hy)
  have h32 := hmono 2 3 (by omega)
  have h21 := hmono 1 2 (by omega)
  have h10 := hmono 0 1 (by omega)
  unfold bearsI
  have hcase : f = 0 ∨ f = 1 ∨ f = 2 ∨ f = 3 := by omega
  cases e3 : keepsB t b 3 <;> cases e2 : keepsB t b 2 <;> cases e1 : keepsB t b 1 <;> cases e0 : keepsB t b 0 <;> simp_all <;> (try (rcases hcase with rfl | rfl | rfl | rfl <;> simp_all))
theorem bears_range (t : CoolTown) (b : List Int) : -1 ≤ bearsI t b ∧ bearsI t b ≤ 3 := by
  unfold bearsI
  repeat' split
  all_goals omega
end Go.Tk
namespace Go.Proofs.Ytnempffajbdneaa
open Go Go.Av Go.Tk
attribute [local irreducible] Holds sem semL ACalls FnIs levelB levM keepsB
variable {G : World → Prop} (hG : ∀ w w', G w → RowKit.Below w.heap.size w w' → G w')
include hG
theorem law03_CoolTrue (t : CoolTown) (b : List Int) (f : Int) (x : CoolTruth) (d : List Int) : Holds Try.prog G F.law03_CoolTrue [.agg t.cs, slOf intCs b, I f, .agg x.cs, slOf intCs d] (B true) := by
  have hS := law03_short hG t
  have hZ := law03_sized hG x
  have hK := law03_known hG
  have hF := ref03_Fails hG f
  by_cases p1 : t.short
  · rw [decide_eq_true p1] at hS
    by_cases p2 : x.short
    · rw [decide_eq_true p2] at hZ
      by_cases p3 : b.length ≤ 15
      · have q3 : ¬ (15 : Int) < b.length := by omega
        have hA := law03_asked hG t p1 b (by omega)
        by_cases p4 : d.length ≤ 15
        · have q4 : ¬ (15 : Int) < d.length := by omega
          have hC := ref03_Coolers hG t (by have := p1.2.1; omega) d (by omega)
          by_cases p5 : t.ok ∧ coolersOk t.sites.length b
          · rw [decide_eq_true p5] at hA
            have hT := ref03_Truth hG t x p5.1 p2
            by_cases p6 : coolersOk t.sites.length d
            · rw [decide_eq_true p6] at hC
              by_cases p7 : 0 ≤ f ∧ f ≤ 3
              · rw [decide_eq_true p7] at hF
                by_cases p8 : truthOk t x
                · rw [decide_eq_true p8] at hT
                  obtain ⟨ok, hc⟩ := p5
                  obtain ⟨n, rfl⟩ := Int.eq_ofNat_of_zero_le p7.1
                  have hn : n ≤ 3 := by omega
                  have hKe := Keeps_ok hG t p1 b (by omega) ok hc n hn
                  have hBe := Bears_ok hG t p1 b (by omega) ok hc
                  have hkb := keeps_bears ok hc hn
                  have hbr := bears_range t b
                  have hW := ref03_Without hG b d (by omega) (by omega)
                  have hwl := without_len b d
                  have hP := cool_Play hG t p1 x p2 (withoutL b d) (by omega)
                  rw [if_pos ⟨ok, hc.without, p8⟩] at hP
                  have hol := overL_len t.houses.length x (withoutL b d)
                  have hnh := ok.1
                  have hpos : ((b.length : Int) - (withoutL b d).length ≤ bearsI t b) → ∀ y, y < t.houses.length → 0 ≤ (overL t.houses.length x (withoutL b d)).getD y default := fun hle y hy => by
                    have h0 : 0 ≤ bearsI t b := by omega
                    obtain ⟨g, hg⟩ := Int.eq_ofNat_of_zero_le h0
                    have hk : keepsB t b g = true := by
                      rw [keeps_bears ok hc (by omega), hg]; simp
                    unfold keepsB at hk
                    rw [decide_eq_true_iff, brk_iff] at hk
                    have hl := lev_all ok hc hy (hk y hy) (r := d) (by omega)
                    unfold levelB at hl
                    rw [decide_eq_true_iff] at hl
                    have hov := over_worst p8 (fun i hi => hc.mem i (mem_without.1 hi).1) hy (w := withoutL b d)
                    rw [getD_lt (by rw [hol]; exact hy)]
                    have : (overL t.houses.length x (withoutL b d))[y]'(by rw [hol]; exact hy) = over1 x (withoutL b d) y := by simp [overL]
                    omega
                  rw [hkb] at hKe
                  generalize bearsI t b = r at *
                  generalize overL t.houses.length x (withoutL b d) = L at *
                  by_cases hr : 0 ≤ r
                  · rw [if_pos hr] at hBe
                    have hle2 : ((withoutL b d).length : Int) ≤ b.length := by omega
                    have fin : ∀ nr : Bool, decide ((n : Int) ≤ r) = nr → Holds Try.prog G F.law03_CoolTrue [.agg t.cs, slOf intCs b, I n, .agg x.cs, slOf intCs d] (B true) := fun nr hnr => by
                      rw [hnr] at hKe
                      by_cases hle : (b.length : Int) - (withoutL b d).length ≤ r
                      · have hpos2 := hpos hle
                        have q5 : ¬ r < (b.length : Int) - (withoutL b d).length := by omega
                        generalize withoutL b d = W at *
                        cases nr <;>
                          ((refine holds_of_sem hG fn_law03_CoolTrue (by simp) fun w0 S0 hG0 D0 => ?_; unfold c_law03_CoolTrue cval enterEnv; simp only [List.zipIdx_cons, List.zipIdx_nil, List.map_cons, List.map_nil, Nat.zero_add, Nat.reduceAdd])
                           repeat' (first | ((first | refine o1 rfl ?_ | refine o0 rfl ?_); intro k hk; simp (disch := omega) only [ev0, sl_cells, simprocAttr, slOf, q3, q4, q5, hnr, hol, decide_false, decide_true]; refine hk _ _ ?_; clear hk k) | refine ono rfl ?_ | (apply ocall; (case he => (simp only [ev0, sl_cells, simprocAttr] <;> rfl)); (case hc => first | exact hS | exact hZ | exact hK | exact hA | exact hC | exact hF | exact hT | exact hKe | exact hBe | exact hW | exact hP); (case ht => rfl); (case hg => rfl)) | ((first | refine osplitG rfl (fun h => ?_) (fun h => ?_) | refine osplitB rfl (fun h => ?_) (fun h => ?_)) <;> (fail_if_success (simp only [eq_self, reduceCtorEq] at h))) | refine onx ?_ | refine onb ?_ | refine sreg ?_ | refine qT rfl ?_ | refine qF rfl ?_ | refine scondT rfl ?_ | refine scondF rfl ?_ | refine ocondP rfl (fun h => ?_) (fun h => ?_) | refine ocondB rfl (fun h => ?_) (fun h => ?_) | refine scondP rfl (fun h => ?_) (fun h => ?_) | refine scond rfl (fun h => ?_) (fun h => ?_) | refine oskip ?_ | refine oskipb ?_ | refine oret ?_ | refine sem_ret ?_ | refine sem_seq ?_ | refine sreg1 ?_)
                           refine sem_block ?_
                           
                           refine sem_loop (α := Nat) (fun i => ⟨[(17, .sl t.houses.length fun i => intCs (L.getD i default)), (19, I i)], [.row 25 0 2 [t.cs], .row 53 0 2 [x.cs]]⟩) (fun i => i ≤ t.houses.length) (fun i => t.houses.length - i) 0 (Nat.zero_le _) ?_ ?_
                           · (refine Le.same ?_; simp only [List.forall_mem_cons, List.forall_mem_nil, getE, selE, Nat.reduceBEq, List.not_mem_nil, false_implies, implies_true, and_true, true_and, and_self])
                             simp [CoolTown.cs, CoolTruth.cs]
                           · intro i hi
                             repeat' (first | ((first | refine o1 rfl ?_ | refine o0 rfl ?_); intro k hk; simp (disch := omega) only [ev0, sl_cells, simprocAttr, slOf]; refine hk _ _ ?_; clear hk k) | refine ono rfl ?_ | ((first | refine osplitG rfl (fun h => ?_) (fun h => ?_) | refine osplitB rfl (fun h => ?_) (fun h => ?_)) <;> (fail_if_success (simp only [eq_self, reduceCtorEq] at h))) | refine onx ?_ | refine onb ?_ | refine sreg ?_ | refine qT rfl ?_ | refine qF rfl ?_ | refine scondT rfl ?_ | refine scondF rfl ?_ | refine ocondP rfl (fun h => ?_) (fun h => ?_) | refine ocondB rfl (fun h => ?_) (fun h => ?_) | refine scondP rfl (fun h => ?_) (fun h => ?_) | refine scond rfl (fun h => ?_) (fun h => ?_) | refine oskip ?_ | refine oskipb ?_ | refine oret ?_ | refine sem_ret ?_ | refine sem_seq ?_ | refine sreg1 ?_)
                             · have hi' : i < t.houses.length := by omega
                               have hp := hpos2 i hi'
                               have hp2 : ¬ L.getD i default < 0 := by omega
                               refine sem_block ?_
                               repeat' (first | ((first | refine o1 rfl ?_ | refine o0 rfl ?_); intro k hk; simp (disch := omega) only [ev0, sl_cells, simprocAttr, slOf, intCs, hp2]; refine hk _ _ ?_; clear hk k) | refine ono rfl ?_ | ((first | refine osplitG rfl (fun h => ?_) (fun h => ?_) | refine osplitB rfl (fun h => ?_) (fun h => ?_)) <;> (fail_if_success (simp only [eq_self, reduceCtorEq] at h))) | refine onx ?_ | refine onb ?_ | refine sreg ?_ | refine qT rfl ?_ | refine qF rfl ?_ | refine scondT rfl ?_ | refine scondF rfl ?_ | refine ocondP rfl (fun h => ?_) (fun h => ?_) | refine ocondB rfl (fun h => ?_) (fun h => ?_) | refine scondP rfl (fun h => ?_) (fun h => ?_) | refine scond rfl (fun h => ?_) (fun h => ?_) | refine oskip ?_ | refine oskipb ?_ | refine oret ?_ | refine sem_ret ?_ | refine sem_seq ?_ | refine sreg1 ?_)
                               refine onil (lnext (i + 1) (by omega) (by omega) ?_)
                               (refine Le.same ?_; simp only [List.forall_mem_cons, List.forall_mem_nil, getE, selE, Nat.reduceBEq, List.not_mem_nil, false_implies, implies_true, and_true, true_and, and_self])
                               simp
                             · (refine sem_exit ?_; change sem _ _ _ _ _)
                               repeat' (first | ((first | refine o1 rfl ?_ | refine o0 rfl ?_); intro k hk; simp (disch := omega) only [ev0, sl_cells, simprocAttr]; refine hk _ _ ?_; clear hk k) | refine ono rfl ?_ | (apply ocall; (case he => (simp only [ev0, sl_cells, simprocAttr] <;> rfl)); (case hc => first | exact hK); (case ht => rfl); (case hg => rfl)) | ((first | refine osplitG rfl (fun h => ?_) (fun h => ?_) | refine osplitB rfl (fun h => ?_) (fun h => ?_)) <;> (fail_if_success (simp only [eq_self, reduceCtorEq] at h))) | refine onx ?_ | refine onb ?_ | refine sreg ?_ | refine qT rfl ?_ | refine qF rfl ?_ | refine scondT rfl ?_ | refine scondF rfl ?_ | refine ocondP rfl (fun h => ?_) (fun h => ?_) | refine ocondB rfl (fun h => ?_) (fun h => ?_) | refine scondP rfl (fun h => ?_) (fun h => ?_) | refine scond rfl (fun h => ?_) (fun h => ?_) | refine oskip ?_ | refine oskipb ?_ | refine oret ?_ | refine sem_ret ?_ | refine sem_seq ?_ | refine sreg1 ?_)
                               exact ⟨_, rfl, _, rfl, tree_eq rfl rfl⟩)
                      · have q5 : r < (b.length : Int) - (withoutL b d).length := by omega
                        generalize withoutL b d = W at *
                        cases nr <;>
                          ((refine holds_of_sem hG fn_law03_CoolTrue (by simp) fun w0 S0 hG0 D0 => ?_; unfold c_law03_CoolTrue cval enterEnv; simp only [List.zipIdx_cons, List.zipIdx_nil, List.map_cons, List.map_nil, Nat.zero_add, Nat.reduceAdd])
                           repeat' (first | ((first | refine o1 rfl ?_ | refine o0 rfl ?_); intro k hk; simp (disch := omega) only [ev0, sl_cells, simprocAttr, slOf, q3, q4, q5, hnr, hol, decide_true]; refine hk _ _ ?_; clear hk k) | refine ono rfl ?_ | (apply ocall; (case he => (simp only [ev0, sl_cells, simprocAttr] <;> rfl)); (case hc => first | exact hS | exact hZ | exact hK | exact hA | exact hC | exact hF | exact hT | exact hKe | exact hBe | exact hW | exact hP); (case ht => rfl); (case hg => rfl)) | ((first | refine osplitG rfl (fun h => ?_) (fun h => ?_) | refine osplitB rfl (fun h => ?_) (fun h => ?_)) <;> (fail_if_success (simp only [eq_self, reduceCtorEq] at h))) | refine onx ?_ | refine onb ?_ | refine sreg ?_ | refine qT rfl ?_ | refine qF rfl ?_ | refine scondT rfl ?_ | refine scondF rfl ?_ | refine ocondP rfl (fun h => ?_) (fun h => ?_) | refine ocondB rfl (fun h => ?_) (fun h => ?_) | refine scondP rfl (fun h => ?_) (fun h => ?_) | refine scond rfl (fun h => ?_) (fun h => ?_) | refine oskip ?_ | refine oskipb ?_ | refine oret ?_ | refine sem_ret ?_ | refine sem_seq ?_ | refine sreg1 ?_)
                           exact ⟨_, rfl, _, rfl, tree_eq rfl rfl⟩)
                    exact fin _ rfl
                  · rw [if_neg hr] at hBe
                    have hnr : ¬ (n : Int) ≤ r := by omega
                    have hnr1 : ¬ (n : Int) ≤ -1 := by omega
                    rw [decide_eq_false hnr] at hKe
                    have q5 : -1 < (b.length : Int) - (withoutL b d).length := by omega
                    generalize withoutL b d = W at *
                    (refine holds_of_sem hG fn_law03_CoolTrue (by simp) fun w0 S0 hG0 D0 => ?_; unfold c_law03_CoolTrue cval enterEnv; simp only [List.zipIdx_cons, List.zipIdx_nil, List.map_cons, List.map_nil, Nat.zero_add, Nat.reduceAdd])
                    repeat' (first | ((first | refine o1 rfl ?_ | refine o0 rfl ?_); intro k hk; simp (disch := omega) only [ev0, sl_cells, simprocAttr, slOf, q3, q4, q5, hnr1, hol, decide_true, decide_false]; refine hk _ _ ?_; clear hk k) | refine ono rfl ?_ | (apply ocall; (case he => (simp only [ev0, sl_cells, simprocAttr] <;> rfl)); (case hc => first | exact hS | exact hZ | exact hK | exact hA | exact hC | exact hF | exact hT | exact hKe | exact hBe | exact hW | exact hP); (case ht => rfl); (case hg => rfl)) | ((first | refine osplitG rfl (fun h => ?_) (fun h => ?_) | refine osplitB rfl (fun h => ?_) (fun h => ?_)) <;> (fail_if_success (simp only [eq_self, reduceCtorEq] at h))) | refine onx ?_ | refine onb ?_ | refine sreg ?_ | refine qT rfl ?_ | refine qF rfl ?_ | refine scondT rfl ?_ | refine scondF rfl ?_ | refine ocondP rfl (fun h => ?_) (fun h => ?_) | refine ocondB rfl (fun h => ?_) (fun h => ?_) | refine scondP rfl (fun h => ?_) (fun h => ?_) | refine scond rfl (fun h => ?_) (fun h => ?_) | refine oskip ?_ | refine oskipb ?_ | refine oret ?_ | refine sem_ret ?_ | refine sem_seq ?_ | refine sreg1 ?_)
                    exact ⟨_, rfl, _, rfl, tree_eq rfl rfl⟩
                · rw [decide_eq_false p8] at hT
                  (refine holds_of_sem hG fn_law03_CoolTrue (by simp) fun w0 S0 hG0 D0 => ?_; unfold c_law03_CoolTrue cval enterEnv; simp only [List.zipIdx_cons, List.zipIdx_nil, List.map_cons, List.map_nil, Nat.zero_add, Nat.reduceAdd])
                  repeat' (first | ((first | refine o1 rfl ?_ | refine o0 rfl ?_); intro k hk; simp (disch := omega) only [ev0, sl_cells, simprocAttr, slOf, q3, q4]; refine hk _ _ ?_; clear hk k) | refine ono rfl ?_ | (apply ocall; (case he => (simp only [ev0, sl_cells, simprocAttr] <;> rfl)); (case hc => first | exact hS | exact hZ | exact hK | exact hA | exact hC | exact hF | exact hT); (case ht => rfl); (case hg => rfl)) | ((first | refine osplitG rfl (fun h => ?_) (fun h => ?_) | refine osplitB rfl (fun h => ?_) (fun h => ?_)) <;> (fail_if_success (simp only [eq_self, reduceCtorEq] at h))) | refine onx ?_ | refine onb ?_ | refine sreg ?_ | refine qT rfl ?_ | refine qF rfl ?_ | refine scondT rfl ?_ | refine scondF rfl ?_ | refine ocondP rfl (fun h => ?_) (fun h => ?_) | refine ocondB rfl (fun h => ?_) (fun h => ?_) | refine scondP rfl (fun h => ?_) (fun h => ?_) | refine scond rfl (fun h => ?_) (fun h => ?_) | refine oskip ?_ | refine oskipb ?_ | refine oret ?_ | refine sem_ret ?_ | refine sem_seq ?_ | refine sreg1 ?_)
                  exact ⟨_, rfl, _, rfl, tree_eq rfl rfl⟩
              · rw [decide_eq_false p7] at hF
                (refine holds_of_sem hG fn_law03_CoolTrue (by simp) fun w0 S0 hG0 D0 => ?_; unfold c_law03_CoolTrue cval enterEnv; simp only [List.zipIdx_cons, List.zipIdx_nil, List.map_cons, List.map_nil, Nat.zero_add, Nat.reduceAdd])
                repeat' (first | ((first | refine o1 rfl ?_ | refine o0 rfl ?_); intro k hk; simp (disch := omega) only [ev0, sl_cells, simprocAttr, slOf, q3, q4]; refine hk _ _ ?_; clear hk k) | refine ono rfl ?_ | (apply ocall; (case he => (simp only [ev0, sl_cells, simprocAttr] <;> rfl)); (case hc => first | exact hS | exact hZ | exact hK | exact hA | exact hC | exact hF); (case ht => rfl); (case hg => rfl)) | ((first | refine osplitG rfl (fun h => ?_) (fun h => ?_) | refine osplitB rfl (fun h => ?_) (fun h => ?_)) <;> (fail_if_success (simp only [eq_self, reduceCtorEq] at h))) | refine onx ?_ | refine onb ?_ | refine sreg ?_ | refine qT rfl ?_ | refine qF rfl ?_ | refine scondT rfl ?_ | refine scondF rfl ?_ | refine ocondP rfl (fun h => ?_) (fun h => ?_) | refine ocondB rfl (fun h => ?_) (fun h => ?_) | refine scondP rfl (fun h => ?_) (fun h => ?_) | refine scond rfl (fun h => ?_) (fun h => ?_) | refine oskip ?_ | refine oskipb ?_ | refine oret ?_ | refine sem_ret ?_ | refine sem_seq ?_ | refine sreg1 ?_)
                exact ⟨_, rfl, _, rfl, tree_eq rfl rfl⟩
            · rw [decide_eq_false p6] at hC
              (refine holds_of_sem hG fn_law03_CoolTrue (by simp) fun w0 S0 hG0 D0 => ?_; unfold c_law03_CoolTrue cval enterEnv; simp only [List.zipIdx_cons, List.zipIdx_nil, List.map_cons, List.map_nil, Nat.zero_add, Nat.reduceAdd])
              repeat' (first | ((first | refine o1 rfl ?_ | refine o0 rfl ?_); intro k hk; simp (disch := omega) only [ev0, sl_cells, simprocAttr, slOf, q3, q4]; refine hk _ _ ?_; clear hk k) | refine ono rfl ?_ | (apply ocall; (case he => (simp only [ev0, sl_cells, simprocAttr] <;> rfl)); (case hc => first | exact hS | exact hZ | exact hK | exact hA | exact hC); (case ht => rfl); (case hg => rfl)) | ((first | refine osplitG rfl (fun h => ?_) (fun h => ?_) | refine osplitB rfl (fun h => ?_) (fun h => ?_)) <;> (fail_if_success (simp only [eq_self, reduceCtorEq] at h))) | refine onx ?_ | refine onb ?_ | refine sreg ?_ | refine qT rfl ?_ | refine qF rfl ?_ | refine scondT rfl ?_ | refine scondF rfl ?_ | refine ocondP rfl (fun h => ?_) (fun h => ?_) | refine ocondB rfl (fun h => ?_) (fun h => ?_) | refine scondP rfl (fun h => ?_) (fun h => ?_) | refine scond rfl (fun h => ?_) (fun h => ?_) | refine oskip ?_ | refine oskipb ?_ | refine oret ?_ | refine sem_ret ?_ | refine sem_seq ?_ | refine sreg1 ?_)
              exact ⟨_, rfl, _, rfl, tree_eq rfl rfl⟩
          · rw [decide_eq_false p5] at hA
            (refine holds_of_sem hG fn_law03_CoolTrue (by simp) fun w0 S0 hG0 D0 => ?_; unfold c_law03_CoolTrue cval enterEnv; simp only [List.zipIdx_cons, List.zipIdx_nil, List.map_cons, List.map_nil, Nat.zero_add, Nat.reduceAdd])
            repeat' (first | ((first | refine o1 rfl ?_ | refine o0 rfl ?_); intro k hk; simp (disch := omega) only [ev0, sl_cells, simprocAttr, slOf, q3, q4]; refine hk _ _ ?_; clear hk k) | refine ono rfl ?_ | (apply ocall; (case he => (simp only [ev0, sl_cells, simprocAttr] <;> rfl)); (case hc => first | exact hS | exact hZ | exact hK | exact hA); (case ht => rfl); (case hg => rfl)) | ((first | refine osplitG rfl (fun h => ?_) (fun h => ?_) | refine osplitB rfl (fun h => ?_) (fun h => ?_)) <;> (fail_if_success (simp only [eq_self, reduceCtorEq] at h))) | refine onx ?_ | refine onb ?_ | refine sreg ?_ | refine qT rfl ?_ | refine qF rfl ?_ | refine scondT rfl ?_ | refine scondF rfl ?_ | refine ocondP rfl (fun h => ?_) (fun h => ?_) | refine ocondB rfl (fun h => ?_) (fun h => ?_) | refine scondP rfl (fun h => ?_) (fun h => ?_) | refine scond rfl (fun h => ?_) (fun h => ?_) | refine oskip ?_ | refine oskipb ?_ | refine oret ?_ | refine sem_ret ?_ | refine sem_seq ?_ | refine sreg1 ?_)
            exact ⟨_, rfl, _, rfl, tree_eq rfl rfl⟩
        · have q4 : (15 : Int) < d.length := by omega
          (refine holds_of_sem hG fn_law03_CoolTrue (by simp) fun w0 S0 hG0 D0 => ?_; unfold c_law03_CoolTrue cval enterEnv; simp only [List.zipIdx_cons, List.zipIdx_nil, List.map_cons, List.map_nil, Nat.zero_add, Nat.reduceAdd])
          repeat' (first | ((first | refine o1 rfl ?_ | refine o0 rfl ?_); intro k hk; simp (disch := omega) only [ev0, sl_cells, simprocAttr, slOf, q3, q4, decide_true]; refine hk _ _ ?_; clear hk k) | refine ono rfl ?_ | (apply ocall; (case he => (simp only [ev0, sl_cells, simprocAttr] <;> rfl)); (case hc => first | exact hS | exact hZ | exact hK); (case ht => rfl); (case hg => rfl)) | ((first | refine osplitG rfl (fun h => ?_) (fun h => ?_) | refine osplitB rfl (fun h => ?_) (fun h => ?_)) <;> (fail_if_success (simp only [eq_self, reduceCtorEq] at h))) | refine onx ?_ | refine onb ?_ | refine sreg ?_ | refine qT rfl ?_ | refine qF rfl ?_ | refine scondT rfl ?_ | refine scondF rfl ?_ | refine ocondP rfl (fun h => ?_) (fun h => ?_) | refine ocondB rfl (fun h => ?_) (fun h => ?_) | refine scondP rfl (fun h => ?_) (fun h => ?_) | refine scond rfl (fun h => ?_) (fun h => ?_) | refine oskip ?_ | refine oskipb ?_ | refine oret ?_ | refine sem_ret ?_ | refine sem_seq ?_ | refine sreg1 ?_)
          exact ⟨_, rfl, _, rfl, tree_eq rfl rfl⟩
      · have q3 : (15 : Int) < b.length := by omega
        (refine holds_of_sem hG fn_law03_CoolTrue (by simp) fun w0 S0 hG0 D0 => ?_; unfold c_law03_CoolTrue cval enterEnv; simp only [List.zipIdx_cons, List.zipIdx_nil, List.map_cons, List.map_nil, Nat.zero_add, Nat.reduceAdd])
        repeat' (first | ((first | refine o1 rfl ?_ | refine o0 rfl ?_); intro k hk; simp (disch := omega) only [ev0, sl_cells, simprocAttr, slOf, q3, decide_true]; refine hk _ _ ?_; clear hk k) | refine ono rfl ?_ | (apply ocall; (case he => (simp only [ev0, sl_cells, simprocAttr] <;> rfl)); (case hc => first | exact hS | exact hZ | exact hK); (case ht => rfl); (case hg => rfl)) | ((first | refine osplitG rfl (fun h => ?_) (fun h => ?_) | refine osplitB rfl (fun h => ?_) (fun h => ?_)) <;> (fail_if_success (simp only [eq_self, reduceCtorEq] at h))) | refine onx ?_ | refine onb ?_ | refine sreg ?_ | refine qT rfl ?_ | refine qF rfl ?_ | refine scondT rfl ?_ | refine scondF rfl ?_ | refine ocondP rfl (fun h => ?_) (fun h => ?_) | refine ocondB rfl (fun h => ?_) (fun h => ?_) | refine scondP rfl (fun h => ?_) (fun h => ?_) | refine scond rfl (fun h => ?_) (fun h => ?_) | refine oskip ?_ | refine oskipb ?_ | refine oret ?_ | refine sem_ret ?_ | refine sem_seq ?_ | refine sreg1 ?_)
        exact ⟨_, rfl, _, rfl, tree_eq rfl rfl⟩
    · rw [decide_eq_false p2] at hZ
      (refine holds_of_sem hG fn_law03_CoolTrue (by simp) fun w0 S0 hG0 D0 => ?_; unfold c_law03_CoolTrue cval enterEnv; simp only [List.zipIdx_cons, List.zipIdx_nil, List.map_cons, List.map_nil, Nat.zero_add, Nat.reduceAdd])
      repeat' (first | ((first | refine o1 rfl ?_ | refine o0 rfl ?_); intro k hk; simp (disch := omega) only [ev0, sl_cells, simprocAttr, slOf]; refine hk _ _ ?_; clear hk k) | refine ono rfl ?_ | (apply ocall; (case he => (simp only [ev0, sl_cells, simprocAttr] <;> rfl)); (case hc => first | exact hS | exact hZ | exact hK); (case ht => rfl); (case hg => rfl)) | ((first | refine osplitG rfl (fun h => ?_) (fun h => ?_) | refine osplitB rfl (fun h => ?_) (fun h => ?_)) <;> (fail_if_success (simp only [eq_self, reduceCtorEq] at h))) | refine onx ?_ | refine onb ?_ | refine sreg ?_ | refine qT rfl ?_ | refine qF rfl ?_ | refine scondT rfl ?_ | refine scondF rfl ?_ | refine ocondP rfl (fun h => ?_) (fun h => ?_) | refine ocondB rfl (fun h => ?_) (fun h => ?_) | refine scondP rfl (fun h => ?_) (fun h => ?_) | refine scond rfl (fun h => ?_) (fun h => ?_) | refine oskip ?_ | refine oskipb ?_ | refine oret ?_ | refine sem_ret ?_ | refine sem_seq ?_ | refine sreg1 ?_)
      exact ⟨_, rfl, _, rfl, tree_eq rfl rfl⟩
  · rw [decide_eq_false p1] at hS
    (refine holds_of_sem hG fn_law03_CoolTrue (by simp) fun w0 S0 hG0 D0 => ?_; unfold c_law03_CoolTrue cval enterEnv; simp only [List.zipIdx_cons, List.zipIdx_nil, List.map_cons, List.map_nil, Nat.zero_add, Nat.reduceAdd])
    repeat' (first | ((first | refine o1 rfl ?_ | refine o0 rfl ?_); intro k hk; simp (disch := omega) only [ev0, sl_cells, simprocAttr, slOf]; refine hk _ _ ?_; clear hk k) | refine ono rfl ?_ | (apply ocall; (case he => (simp only [ev0, sl_cells, simprocAttr] <;> rfl)); (case hc => first | exact hS | exact hK); (case ht => rfl); (case hg => rfl)) | ((first | refine osplitG rfl (fun h => ?_) (fun h => ?_) | refine osplitB rfl (fun h => ?_) (fun h => ?_)) <;> (fail_if_success (simp only [eq_self, reduceCtorEq] at h))) | refine onx ?_ | refine onb ?_ | refine sreg ?_ | refine qT rfl ?_ | refine qF rfl ?_ | refine scondT rfl ?_ | refine scondF rfl ?_ | refine ocondP rfl (fun h => ?_) (fun h => ?_) | refine ocondB rfl (fun h => ?_) (fun h => ?_) | refine scondP rfl (fun h => ?_) (fun h => ?_) | refine scond rfl (fun h => ?_) (fun h => ?_) | refine oskip ?_ | refine oskipb ?_ | refine oret ?_ | refine sem_ret ?_ | refine sem_seq ?_ | refine sreg1 ?_)
    exact ⟨_, rfl, _, rfl, tree_eq rfl rfl⟩
end Go.Proofs.Ytnempffajbdneaa
