/- The law CoolRepairs over trees. -/
import Derived.Test.YtnempffajbdneaaPC46
import Derived.Test.YtnempffajbdneaaPC20
set_option linter.unusedVariables false
set_option linter.unusedSimpArgs false
set_option maxRecDepth 8000
set_option maxHeartbeats 4000000
namespace Go.Tk
open Go Go.Av
theorem findSome_filter {α β : Type} {p : α → Bool} {f : α → Option β} : ∀ {l : List α}, (l.filter p).findSome? f = l.findSome? fun x => if p x = true then f x else none
  | [] => rfl
  | x :: l => by
    have ih := findSome_filter (p := p) (f := f) (l := l)
    by_cases h : p x = true
    · rw [List.filter_cons_of_pos h, List.findSome?_cons, List.findSome?_cons, if_pos h, ih]
    · rw [List.filter_cons_of_neg h, List.findSome?_cons, if_neg h, ih]
theorem without_without (d o : List Int) (x : Int) : withoutL (withoutL d o) [x] = withoutL d (o ++ [x]) := by
  unfold withoutL
  rw [List.filter_filter]
  refine List.filter_congr fun y _ => ?_
  rw [Bool.eq_iff_iff]
  simp only [Bool.and_eq_true, Bool.not_eq_true', decide_eq_false_iff_not, List.mem_append, List.mem_singleton]
  exact ⟨fun h q => q.elim h.2 h.1, fun h => ⟨fun q => h (.inr q), fun q => h (.inl q)⟩⟩
theorem ords_eq {t : CoolTown} {b d : List Int} : ∀ (k : Nat) (o : List Int), ordsO t b k o (withoutL d o) = ordS t b d k o
  | 0, o => rfl
  | k + 1, o => by
    unfold ordsO ordS
    have e : (fun x => ordsO t b k (o ++ [x]) (withoutL (withoutL d o) [x])) = fun x => ordS t b d k (o ++ [x]) := by
      funext x
      rw [without_without, ords_eq k]
    rw [e]
    unfold withoutL
    rw [findSome_filter]
    congr 1
    funext x
    by_cases h : x ∈ o <;> simp [h]
theorem without_nil (d : List Int) : withoutL d [] = d := by
  unfold withoutL
  exact List.filter_eq_self.2 fun x _ => by simp
theorem sorted_iff {n : Nat} {b d : List Int} (hb : coolersOk n b) (ho : orderOk b d) : sortedP d ↔ coolersOk n d := by
  constructor
  · intro hs i hi
    have h1 := hb.mem _ (ho i hi).1
    refine ⟨⟨h1.1, by omega⟩, fun h0 => ?_⟩
    have h2 := hs i h0 hi
    have h3 := (ho i hi).2
    have h4 : d.getD (i - 1) default ∈ d.take i := by
      rw [getD_lt (show i - 1 < d.length by omega)]
      exact List.mem_iff_getElem.2 ⟨i - 1, by rw [List.length_take]; omega, by rw [List.getElem_take]⟩
    have h5 : d.getD i default ≠ d.getD (i - 1) default := fun e => h3 (e ▸ h4)
    omega
  · intro hc i h0 hi
    have := (hc i hi).2 h0
    omega
end Go.Tk
namespace Go.Proofs.Ytnempffajbdneaa
open Go Go.Av Go.Tk
attribute [local irreducible] Holds sem semL ACalls FnIs levelB levM ordS
variable {G : World → Prop} (hG : ∀ w w', G w → RowKit.Below w.heap.size w w' → G w')
include hG
theorem Repair_bad (t : CoolTown) (hs : t.short) (b d : List Int) (hd : d.length ≤ 6) (hbl : b.length ≤ 1000) (hn : ¬ (t.ok ∧ coolersOk t.sites.length b)) : Holds Try.prog G F.cool_Repair [.agg t.cs, slOf intCs b, slOf intCs d] (.tup [.nilsl, I 2]) := by
  refine holds_of_sem hG fn_cool_Repair (by simp) fun w0 S0 hG0 D0 => ?_
  have hgi := ((cool_given (K := ⟨Try.prog, w0, S0, G, hG0⟩) rfl hG t hs b hbl true).imp (R' := fun ae ν => ae = .ret (.tup [.nilp, I 2]) ∧ ν = [.row 25 0 2 [t.cs]]) fun ae ν hr => by rwa [if_neg (fun q => hn ⟨q.1, q.2.2⟩)] at hr).placed1 (μ2 := [.row 25 0 2 [t.cs], .row 28 0 1 [[slOf intCs d]]]) (args2 := [.agg t.cs, slOf intCs b, B true]) (x2 := .tup [.nilp, I 2]) (ν2 := [.row 25 0 2 [t.cs], .row 28 0 1 [[slOf intCs d]], .row 25 0 2 [t.cs]]) [] rfl rfl rfl rfl rfl rfl
  have q6 : ¬ (6 : Int) < d.length := by omega
  unfold c_cool_Repair cval enterEnv
  simp only [List.zipIdx_cons, List.zipIdx_nil, List.map_cons, List.map_nil, Nat.zero_add, Nat.reduceAdd]
  repeat' (first | ((first | refine o1 rfl ?_ | refine o0 rfl ?_); intro k hk; simp (disch := omega) only [ev0, sl_cells, simprocAttr, slOf, q6]; refine hk _ _ ?_; clear hk k) | refine ono rfl ?_ | ((first | refine osplitG rfl (fun h => ?_) (fun h => ?_) | refine osplitB rfl (fun h => ?_) (fun h => ?_)) <;> (fail_if_success (simp only [eq_self, reduceCtorEq] at h))) | refine onx ?_ | refine onb ?_ | refine sreg ?_ | refine qT rfl ?_ | refine qF rfl ?_ | refine scondT rfl ?_ | refine scondF rfl ?_ | refine ocondP rfl (fun h => ?_) (fun h => ?_) | refine ocondB rfl (fun h => ?_) (fun h => ?_) | refine scondP rfl (fun h => ?_) (fun h => ?_) | refine scond rfl (fun h => ?_) (fun h => ?_) | refine oskip ?_ | refine oskipb ?_ | refine oret ?_ | refine sem_ret ?_ | refine sem_seq ?_ | refine sreg1 ?_)
  refine semL_acall rfl (by exact hgi) fun ae μ hr => ?_
  obtain ⟨rfl, rfl⟩ := hr
  change semL _ _ _ ⟨(_, _) :: _, _⟩ _
  repeat' (first | ((first | refine o1 rfl ?_ | refine o0 rfl ?_); intro k hk; simp (disch := omega) only [ev0, sl_cells, simprocAttr]; refine hk _ _ ?_; clear hk k) | refine ono rfl ?_ | ((first | refine osplitG rfl (fun h => ?_) (fun h => ?_) | refine osplitB rfl (fun h => ?_) (fun h => ?_)) <;> (fail_if_success (simp only [eq_self, reduceCtorEq] at h))) | refine onx ?_ | refine onb ?_ | refine sreg ?_ | refine qT rfl ?_ | refine qF rfl ?_ | refine scondT rfl ?_ | refine scondF rfl ?_ | refine ocondP rfl (fun h => ?_) (fun h => ?_) | refine ocondB rfl (fun h => ?_) (fun h => ?_) | refine scondP rfl (fun h => ?_) (fun h => ?_) | refine scond rfl (fun h => ?_) (fun h => ?_) | refine oskip ?_ | refine oskipb ?_ | refine oret ?_ | refine sem_ret ?_ | refine sem_seq ?_ | refine sreg1 ?_)
  exact ⟨_, rfl, _, rfl, tree_eq rfl rfl⟩
theorem law03_CoolRepairs (t : CoolTown) (b d : List Int) : Holds Try.prog G F.law03_CoolRepairs [.agg t.cs, slOf intCs b, slOf intCs d] (B true) := by
  have hS := law03_short hG t
  have hK := law03_known hG
  by_cases p1 : t.short
  · rw [decide_eq_true p1] at hS
    by_cases p2 : b.length ≤ 15
    · have q2 : ¬ (15 : Int) < b.length := by omega
      by_cases p3 : d.length ≤ 15
      · have q3 : ¬ (15 : Int) < d.length := by omega
        have hR := law03_repaired hG t p1 b d (by omega) (by omega)
        by_cases p4 : 6 < d.length
        · have e : repI t b d = 3 := if_pos p4
          rw [e] at hR
          have q4 : (5 : Int) < d.length := by omega
          have q5 : ¬ (d.length : Int) ≤ 6 := by omega
          have hRe := Repair_long hG t b d p4 (by omega)
          (refine holds_of_sem hG fn_law03_CoolRepairs (by simp) fun w0 S0 hG0 D0 => ?_; unfold c_law03_CoolRepairs cval enterEnv; simp only [List.zipIdx_cons, List.zipIdx_nil, List.map_cons, List.map_nil, Nat.zero_add, Nat.reduceAdd])
          repeat' (first | ((first | refine o1 rfl ?_ | refine o0 rfl ?_); intro k hk; simp (disch := omega) only [ev0, sl_cells, simprocAttr, slOf, q2, q3, q4, q5, decide_true, decide_false]; refine hk _ _ ?_; clear hk k) | refine ono rfl ?_ | (apply ocall; (case he => (simp only [ev0, sl_cells, simprocAttr] <;> rfl)); (case hc => first | exact hS | exact hK | exact hR | exact hRe); (case ht => rfl); (case hg => rfl)) | ((first | refine osplitG rfl (fun h => ?_) (fun h => ?_) | refine osplitB rfl (fun h => ?_) (fun h => ?_)) <;> (fail_if_success (simp only [eq_self, reduceCtorEq] at h))) | refine onx ?_ | refine onb ?_ | refine sreg ?_ | refine qT rfl ?_ | refine qF rfl ?_ | refine scondT rfl ?_ | refine scondF rfl ?_ | refine ocondP rfl (fun h => ?_) (fun h => ?_) | refine ocondB rfl (fun h => ?_) (fun h => ?_) | refine scondP rfl (fun h => ?_) (fun h => ?_) | refine scond rfl (fun h => ?_) (fun h => ?_) | refine oskip ?_ | refine oskipb ?_ | refine oret ?_ | refine sem_ret ?_ | refine sem_seq ?_ | refine sreg1 ?_)
          exact ⟨_, rfl, _, rfl, tree_eq rfl rfl⟩
        · by_cases p5 : d.length ≤ 5
          · have q5 : ¬ (5 : Int) < d.length := by omega
            have hC := ref03_Coolers hG t (by have := p1.2.1; omega) d (by omega)
            by_cases ha : t.ok ∧ coolersOk t.sites.length b
            · have hRe := Repair_ok hG t p1 b d (by omega) (by omega) ha.1 ha.2
              by_cases hoo : orderOk b d
              · have e : repI t b d = 0 := by unfold repI; rw [if_neg p4, if_pos ⟨ha, hoo⟩]
                rw [e] at hR
                by_cases hst : sortedP d
                · have hco := (sorted_iff ha.2 hoo).1 hst
                  rw [decide_eq_true hco] at hC
                  rw [if_pos ⟨hoo, hst⟩] at hRe
                  have hRR := ref03_Repair hG t ha.1 b d (by omega) ha.2.mem (by omega) (up_nodup hco.up) hco.mem
                  have hoe := ords_eq (t := t) (b := b) (d := d) d.length []
                  rw [without_nil] at hoe
                  unfold ordsA at hRR
                  rw [hoe] at hRR
                  have hln := fun l => ordS_len (t := t) (b := b) (d := d) (n := d.length) (o := []) (l := l)
                  generalize ordS t b d d.length [] = res at *
                  cases res with
                  | none =>
                    unfold repV at hRe
                    dsimp only at hRR hRe
                    by_cases hn0 : d.length = 0
                    · rw [if_pos hn0] at hRR
                      (refine holds_of_sem hG fn_law03_CoolRepairs (by simp) fun w0 S0 hG0 D0 => ?_; unfold c_law03_CoolRepairs cval enterEnv; simp only [List.zipIdx_cons, List.zipIdx_nil, List.map_cons, List.map_nil, Nat.zero_add, Nat.reduceAdd])
                      repeat' (first | ((first | refine o1 rfl ?_ | refine o0 rfl ?_); intro k hk; simp (disch := omega) only [ev0, sl_cells, simprocAttr, slOf, q2, q3, q5, decide_true, decide_false]; refine hk _ _ ?_; clear hk k) | refine ono rfl ?_ | (apply ocall; (case he => (simp only [ev0, sl_cells, simprocAttr] <;> rfl)); (case hc => first | exact hS | exact hK | exact hR | exact hRe | exact hC | exact hRR); (case ht => rfl); (case hg => rfl)) | ((first | refine osplitG rfl (fun h => ?_) (fun h => ?_) | refine osplitB rfl (fun h => ?_) (fun h => ?_)) <;> (fail_if_success (simp only [eq_self, reduceCtorEq] at h))) | refine onx ?_ | refine onb ?_ | refine sreg ?_ | refine qT rfl ?_ | refine qF rfl ?_ | refine scondT rfl ?_ | refine scondF rfl ?_ | refine ocondP rfl (fun h => ?_) (fun h => ?_) | refine ocondB rfl (fun h => ?_) (fun h => ?_) | refine scondP rfl (fun h => ?_) (fun h => ?_) | refine scond rfl (fun h => ?_) (fun h => ?_) | refine oskip ?_ | refine oskipb ?_ | refine oret ?_ | refine sem_ret ?_ | refine sem_seq ?_ | refine sreg1 ?_)
                      exact ⟨_, rfl, _, rfl, tree_eq rfl rfl⟩
                    · rw [if_neg hn0] at hRR
                      (refine holds_of_sem hG fn_law03_CoolRepairs (by simp) fun w0 S0 hG0 D0 => ?_; unfold c_law03_CoolRepairs cval enterEnv; simp only [List.zipIdx_cons, List.zipIdx_nil, List.map_cons, List.map_nil, Nat.zero_add, Nat.reduceAdd])
                      repeat' (first | ((first | refine o1 rfl ?_ | refine o0 rfl ?_); intro k hk; simp (disch := omega) only [ev0, sl_cells, simprocAttr, slOf, q2, q3, q5, decide_true, decide_false]; refine hk _ _ ?_; clear hk k) | refine ono rfl ?_ | (apply ocall; (case he => (simp only [ev0, sl_cells, simprocAttr] <;> rfl)); (case hc => first | exact hS | exact hK | exact hR | exact hRe | exact hC | exact hRR); (case ht => rfl); (case hg => rfl)) | ((first | refine osplitG rfl (fun h => ?_) (fun h => ?_) | refine osplitB rfl (fun h => ?_) (fun h => ?_)) <;> (fail_if_success (simp only [eq_self, reduceCtorEq] at h))) | refine onx ?_ | refine onb ?_ | refine sreg ?_ | refine qT rfl ?_ | refine qF rfl ?_ | refine scondT rfl ?_ | refine scondF rfl ?_ | refine ocondP rfl (fun h => ?_) (fun h => ?_) | refine ocondB rfl (fun h => ?_) (fun h => ?_) | refine scondP rfl (fun h => ?_) (fun h => ?_) | refine scond rfl (fun h => ?_) (fun h => ?_) | refine oskip ?_ | refine oskipb ?_ | refine oret ?_ | refine sem_ret ?_ | refine sem_seq ?_ | refine sreg1 ?_)
                      exact ⟨_, rfl, _, rfl, tree_eq rfl rfl⟩
                  | some l =>
                    have hl := hln l rfl
                    simp only [List.length_nil] at hl
                    unfold repV at hRe
                    dsimp only at hRR hRe
                    have hSa := ref03_Same hG l l (by omega) (by omega)
                    rw [decide_eq_true rfl] at hSa
                    (refine holds_of_sem hG fn_law03_CoolRepairs (by simp) fun w0 S0 hG0 D0 => ?_; unfold c_law03_CoolRepairs cval enterEnv; simp only [List.zipIdx_cons, List.zipIdx_nil, List.map_cons, List.map_nil, Nat.zero_add, Nat.reduceAdd])
                    repeat' (first | ((first | refine o1 rfl ?_ | refine o0 rfl ?_); intro k hk; simp (disch := omega) only [ev0, sl_cells, simprocAttr, slOf, q2, q3, q5, decide_true, decide_false]; refine hk _ _ ?_; clear hk k) | refine ono rfl ?_ | (apply ocall; (case he => (simp only [ev0, sl_cells, simprocAttr] <;> rfl)); (case hc => first | exact hS | exact hK | exact hR | exact hRe | exact hC | exact hRR | exact hSa); (case ht => rfl); (case hg => rfl)) | ((first | refine osplitG rfl (fun h => ?_) (fun h => ?_) | refine osplitB rfl (fun h => ?_) (fun h => ?_)) <;> (fail_if_success (simp only [eq_self, reduceCtorEq] at h))) | refine onx ?_ | refine onb ?_ | refine sreg ?_ | refine qT rfl ?_ | refine qF rfl ?_ | refine scondT rfl ?_ | refine scondF rfl ?_ | refine ocondP rfl (fun h => ?_) (fun h => ?_) | refine ocondB rfl (fun h => ?_) (fun h => ?_) | refine scondP rfl (fun h => ?_) (fun h => ?_) | refine scond rfl (fun h => ?_) (fun h => ?_) | refine oskip ?_ | refine oskipb ?_ | refine oret ?_ | refine sem_ret ?_ | refine sem_seq ?_ | refine sreg1 ?_)
                    exact ⟨_, rfl, _, rfl, tree_eq rfl rfl⟩
                · have hco : ¬ coolersOk t.sites.length d := fun q => hst ((sorted_iff ha.2 hoo).2 q)
                  rw [decide_eq_false hco] at hC
                  rw [if_neg (fun q => hst q.2)] at hRe
                  (refine holds_of_sem hG fn_law03_CoolRepairs (by simp) fun w0 S0 hG0 D0 => ?_; unfold c_law03_CoolRepairs cval enterEnv; simp only [List.zipIdx_cons, List.zipIdx_nil, List.map_cons, List.map_nil, Nat.zero_add, Nat.reduceAdd])
                  repeat' (first | ((first | refine o1 rfl ?_ | refine o0 rfl ?_); intro k hk; simp (disch := omega) only [ev0, sl_cells, simprocAttr, slOf, q2, q3, q5, decide_true, decide_false]; refine hk _ _ ?_; clear hk k) | refine ono rfl ?_ | (apply ocall; (case he => (simp only [ev0, sl_cells, simprocAttr] <;> rfl)); (case hc => first | exact hS | exact hK | exact hR | exact hRe | exact hC); (case ht => rfl); (case hg => rfl)) | ((first | refine osplitG rfl (fun h => ?_) (fun h => ?_) | refine osplitB rfl (fun h => ?_) (fun h => ?_)) <;> (fail_if_success (simp only [eq_self, reduceCtorEq] at h))) | refine onx ?_ | refine onb ?_ | refine sreg ?_ | refine qT rfl ?_ | refine qF rfl ?_ | refine scondT rfl ?_ | refine scondF rfl ?_ | refine ocondP rfl (fun h => ?_) (fun h => ?_) | refine ocondB rfl (fun h => ?_) (fun h => ?_) | refine scondP rfl (fun h => ?_) (fun h => ?_) | refine scond rfl (fun h => ?_) (fun h => ?_) | refine oskip ?_ | refine oskipb ?_ | refine oret ?_ | refine sem_ret ?_ | refine sem_seq ?_ | refine sreg1 ?_)
                  exact ⟨_, rfl, _, rfl, tree_eq rfl rfl⟩
              · have e : repI t b d = 2 := by unfold repI; rw [if_neg p4, if_neg (fun q => hoo q.2)]
                rw [e] at hR
                rw [if_neg (fun q => hoo q.1)] at hRe
                (refine holds_of_sem hG fn_law03_CoolRepairs (by simp) fun w0 S0 hG0 D0 => ?_; unfold c_law03_CoolRepairs cval enterEnv; simp only [List.zipIdx_cons, List.zipIdx_nil, List.map_cons, List.map_nil, Nat.zero_add, Nat.reduceAdd])
                repeat' (first | ((first | refine o1 rfl ?_ | refine o0 rfl ?_); intro k hk; simp (disch := omega) only [ev0, sl_cells, simprocAttr, slOf, q2, q3, q5, decide_true, decide_false]; refine hk _ _ ?_; clear hk k) | refine ono rfl ?_ | (apply ocall; (case he => (simp only [ev0, sl_cells, simprocAttr] <;> rfl)); (case hc => first | exact hS | exact hK | exact hR | exact hRe); (case ht => rfl); (case hg => rfl)) | ((first | refine osplitG rfl (fun h => ?_) (fun h => ?_) | refine osplitB rfl (fun h => ?_) (fun h => ?_)) <;> (fail_if_success (simp only [eq_self, reduceCtorEq] at h))) | refine onx ?_ | refine onb ?_ | refine sreg ?_ | refine qT rfl ?_ | refine qF rfl ?_ | refine scondT rfl ?_ | refine scondF rfl ?_ | refine ocondP rfl (fun h => ?_) (fun h => ?_) | refine ocondB rfl (fun h => ?_) (fun h => ?_) | refine scondP rfl (fun h => ?_) (fun h => ?_) | refine scond rfl (fun h => ?_) (fun h => ?_) | refine oskip ?_ | refine oskipb ?_ | refine oret ?_ | refine sem_ret ?_ | refine sem_seq ?_ | refine sreg1 ?_)
                exact ⟨_, rfl, _, rfl, tree_eq rfl rfl⟩
            · have e : repI t b d = 2 := by unfold repI; rw [if_neg p4, if_neg (fun q => ha q.1)]
              rw [e] at hR
              have hRe := Repair_bad hG t p1 b d (by omega) (by omega) ha
              (refine holds_of_sem hG fn_law03_CoolRepairs (by simp) fun w0 S0 hG0 D0 => ?_; unfold c_law03_CoolRepairs cval enterEnv; simp only [List.zipIdx_cons, List.zipIdx_nil, List.map_cons, List.map_nil, Nat.zero_add, Nat.reduceAdd])
              repeat' (first | ((first | refine o1 rfl ?_ | refine o0 rfl ?_); intro k hk; simp (disch := omega) only [ev0, sl_cells, simprocAttr, slOf, q2, q3, q5, decide_true, decide_false]; refine hk _ _ ?_; clear hk k) | refine ono rfl ?_ | (apply ocall; (case he => (simp only [ev0, sl_cells, simprocAttr] <;> rfl)); (case hc => first | exact hS | exact hK | exact hR | exact hRe); (case ht => rfl); (case hg => rfl)) | ((first | refine osplitG rfl (fun h => ?_) (fun h => ?_) | refine osplitB rfl (fun h => ?_) (fun h => ?_)) <;> (fail_if_success (simp only [eq_self, reduceCtorEq] at h))) | refine onx ?_ | refine onb ?_ | refine sreg ?_ | refine qT rfl ?_ | refine qF rfl ?_ | refine scondT rfl ?_ | refine scondF rfl ?_ | refine ocondP rfl (fun h => ?_) (fun h => ?_) | refine ocondB rfl (fun h => ?_) (fun h => ?_) | refine scondP rfl (fun h => ?_) (fun h => ?_) | refine scond rfl (fun h => ?_) (fun h => ?_) | refine oskip ?_ | refine oskipb ?_ | refine oret ?_ | refine sem_ret ?_ | refine sem_seq ?_ | refine sreg1 ?_)
              exact ⟨_, rfl, _, rfl, tree_eq rfl rfl⟩
          · have q5 : (5 : Int) < d.length := by omega
            have q6 : (d.length : Int) ≤ 6 := by omega
            (refine holds_of_sem hG fn_law03_CoolRepairs (by simp) fun w0 S0 hG0 D0 => ?_; unfold c_law03_CoolRepairs cval enterEnv; simp only [List.zipIdx_cons, List.zipIdx_nil, List.map_cons, List.map_nil, Nat.zero_add, Nat.reduceAdd])
            repeat' (first | ((first | refine o1 rfl ?_ | refine o0 rfl ?_); intro k hk; simp (disch := omega) only [ev0, sl_cells, simprocAttr, slOf, q2, q5, q6, decide_true, decide_false]; refine hk _ _ ?_; clear hk k) | refine ono rfl ?_ | (apply ocall; (case he => (simp only [ev0, sl_cells, simprocAttr] <;> rfl)); (case hc => first | exact hS | exact hK); (case ht => rfl); (case hg => rfl)) | ((first | refine osplitG rfl (fun h => ?_) (fun h => ?_) | refine osplitB rfl (fun h => ?_) (fun h => ?_)) <;> (fail_if_success (simp only [eq_self, reduceCtorEq] at h))) | refine onx ?_ | refine onb ?_ | refine sreg ?_ | refine qT rfl ?_ | refine qF rfl ?_ | refine scondT rfl ?_ | refine scondF rfl ?_ | refine ocondP rfl (fun h => ?_) (fun h => ?_) | refine ocondB rfl (fun h => ?_) (fun h => ?_) | refine scondP rfl (fun h => ?_) (fun h => ?_) | refine scond rfl (fun h => ?_) (fun h => ?_) | refine oskip ?_ | refine oskipb ?_ | refine oret ?_ | refine sem_ret ?_ | refine sem_seq ?_ | refine sreg1 ?_)
            exact ⟨_, rfl, _, rfl, tree_eq rfl rfl⟩
      · have q3 : (15 : Int) < d.length := by omega
        have q4 : (5 : Int) < d.length := by omega
        have q5 : ¬ (d.length : Int) ≤ 6 := by omega
        (refine holds_of_sem hG fn_law03_CoolRepairs (by simp) fun w0 S0 hG0 D0 => ?_; unfold c_law03_CoolRepairs cval enterEnv; simp only [List.zipIdx_cons, List.zipIdx_nil, List.map_cons, List.map_nil, Nat.zero_add, Nat.reduceAdd])
        repeat' (first | ((first | refine o1 rfl ?_ | refine o0 rfl ?_); intro k hk; simp (disch := omega) only [ev0, sl_cells, simprocAttr, slOf, q2, q3, q4, q5, decide_true, decide_false]; refine hk _ _ ?_; clear hk k) | refine ono rfl ?_ | (apply ocall; (case he => (simp only [ev0, sl_cells, simprocAttr] <;> rfl)); (case hc => first | exact hS | exact hK); (case ht => rfl); (case hg => rfl)) | ((first | refine osplitG rfl (fun h => ?_) (fun h => ?_) | refine osplitB rfl (fun h => ?_) (fun h => ?_)) <;> (fail_if_success (simp only [eq_self, reduceCtorEq] at h))) | refine onx ?_ | refine onb ?_ | refine sreg ?_ | refine qT rfl ?_ | refine qF rfl ?_ | refine scondT rfl ?_ | refine scondF rfl ?_ | refine ocondP rfl (fun h => ?_) (fun h => ?_) | refine ocondB rfl (fun h => ?_) (fun h => ?_) | refine scondP rfl (fun h => ?_) (fun h => ?_) | refine scond rfl (fun h => ?_) (fun h => ?_) | refine oskip ?_ | refine oskipb ?_ | refine oret ?_ | refine sem_ret ?_ | refine sem_seq ?_ | refine sreg1 ?_)
        exact ⟨_, rfl, _, rfl, tree_eq rfl rfl⟩
    · have q2 : (15 : Int) < b.length := by omega
      (refine holds_of_sem hG fn_law03_CoolRepairs (by simp) fun w0 S0 hG0 D0 => ?_; unfold c_law03_CoolRepairs cval enterEnv; simp only [List.zipIdx_cons, List.zipIdx_nil, List.map_cons, List.map_nil, Nat.zero_add, Nat.reduceAdd])
      repeat' (first | ((first | refine o1 rfl ?_ | refine o0 rfl ?_); intro k hk; simp (disch := omega) only [ev0, sl_cells, simprocAttr, slOf, q2, decide_true]; refine hk _ _ ?_; clear hk k) | refine ono rfl ?_ | (apply ocall; (case he => (simp only [ev0, sl_cells, simprocAttr] <;> rfl)); (case hc => first | exact hS | exact hK); (case ht => rfl); (case hg => rfl)) | ((first | refine osplitG rfl (fun h => ?_) (fun h => ?_) | refine osplitB rfl (fun h => ?_) (fun h => ?_)) <;> (fail_if_success (simp only [eq_self, reduceCtorEq] at h))) | refine onx ?_ | refine onb ?_ | refine sreg ?_ | refine qT rfl ?_ | refine qF rfl ?_ | refine scondT rfl ?_ | refine scondF rfl ?_ | refine ocondP rfl (fun h => ?_) (fun h => ?_) | refine ocondB rfl (fun h => ?_) (fun h => ?_) | refine scondP rfl (fun h => ?_) (fun h => ?_) | refine scond rfl (fun h => ?_) (fun h => ?_) | refine oskip ?_ | refine oskipb ?_ | refine oret ?_ | refine sem_ret ?_ | refine sem_seq ?_ | refine sreg1 ?_)
      exact ⟨_, rfl, _, rfl, tree_eq rfl rfl⟩
  · rw [decide_eq_false p1] at hS
    (refine holds_of_sem hG fn_law03_CoolRepairs (by simp) fun w0 S0 hG0 D0 => ?_; unfold c_law03_CoolRepairs cval enterEnv; simp only [List.zipIdx_cons, List.zipIdx_nil, List.map_cons, List.map_nil, Nat.zero_add, Nat.reduceAdd])
    repeat' (first | ((first | refine o1 rfl ?_ | refine o0 rfl ?_); intro k hk; simp (disch := omega) only [ev0, sl_cells, simprocAttr, slOf]; refine hk _ _ ?_; clear hk k) | refine ono rfl ?_ | (apply ocall; (case he => (simp only [ev0, sl_cells, simprocAttr] <;> rfl)); (case hc => first | exact hS | exact hK); (case ht => rfl); (case hg => rfl)) | ((first | refine osplitG rfl (fun h => ?_) (fun h => ?_) | refine osplitB rfl (fun h => ?_) (fun h => ?_)) <;> (fail_if_success (simp only [eq_self, reduceCtorEq] at h))) | refine onx ?_ | refine onb ?_ | refine sreg ?_ | refine qT rfl ?_ | refine qF rfl ?_ | refine scondT rfl ?_ | refine scondF rfl ?_ | refine ocondP rfl (fun h => ?_) (fun h => ?_) | refine ocondB rfl (fun h => ?_) (fun h => ?_) | refine scondP rfl (fun h => ?_) (fun h => ?_) | refine scond rfl (fun h => ?_) (fun h => ?_) | refine oskip ?_ | refine oskipb ?_ | refine oret ?_ | refine sem_ret ?_ | refine sem_seq ?_ | refine sreg1 ?_)
    exact ⟨_, rfl, _, rfl, tree_eq rfl rfl⟩
end Go.Proofs.Ytnempffajbdneaa
