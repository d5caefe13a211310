/- A river: the spot to which a step leads. -/
import Derived.Test.YtcllnnjeaidppaaGreatDoorPF1
set_option linter.unusedVariables false
set_option linter.unusedSimpArgs false
set_option linter.unusedSectionVars false
set_option maxRecDepth 8000
set_option maxHeartbeats 2000000
namespace Go.Tk
open Go Go.Av
def dirL (riv : List Spot) (f : Nat) (s : Stp) : List Nat := if s.up then upL riv.length f else downL f
def stepV (riv : List Spot) (f : Nat) (s : Stp) : AV :=
  match hitL riv s.kind (dirL riv f s) s.count with
  | some i => .tup [I i, B (bankOk s (riv.getD i default))]
  | none => .tup [I 0, B false]
theorem dirL_lt {riv : List Spot} {f : Nat} {s : Stp} (hf : f < riv.length) : ∀ i ∈ dirL riv f s, i < riv.length := fun i hi => by
  unfold dirL at hi
  split at hi
  · exact upL_lt hi
  · have := downL_lt hi; omega
theorem dirL_len {riv : List Spot} {f : Nat} {s : Stp} (hf : f < riv.length) : (dirL riv f s).length ≤ riv.length := by
  unfold dirL
  split
  · rw [upL_len]; omega
  · rw [downL_len]; omega
/-- The walk along a list of spots: so often has the kind been met. -/
structure metS (riv : List Spot) (k : Int) (l : List Nat) (c : Int) (i : Nat) (m : Int) : Prop where
  met : m = metC riv k (l.take i)
  lt : m < c
theorem metS_start {riv : List Spot} {k : Int} {l : List Nat} {c : Int} (hc : 1 ≤ c) : metS riv k l c 0 0 := ⟨by simp [metC], by omega⟩
theorem metC_snoc {riv : List Spot} {k : Int} {l : List Nat} {i : Nat} (hi : i < l.length) : metC riv k (l.take (i + 1)) = metC riv k (l.take i) + if (riv.getD (l.getD i default) default).kind = k then 1 else 0 := by
  unfold metC
  rw [take_snoc hi, List.countP_append, List.countP_cons, List.countP_nil]
  simp
theorem metS_other {riv : List Spot} {k : Int} {l : List Nat} {c : Int} {i : Nat} {m : Int} (h : metS riv k l c i m) (hi : i < l.length) (hk : (riv.getD (l.getD i default) default).kind ≠ k) : metS riv k l c (i + 1) m :=
  ⟨by rw [metC_snoc hi, if_neg hk, h.met]; simp, h.lt⟩
theorem metS_next {riv : List Spot} {k : Int} {l : List Nat} {c : Int} {i : Nat} {m : Int} (h : metS riv k l c i m) (hi : i < l.length) (hk : (riv.getD (l.getD i default) default).kind = k) (hne : m + 1 ≠ c) : metS riv k l c (i + 1) (m + 1) :=
  ⟨by rw [metC_snoc hi, if_pos hk, h.met]; simp, by have := h.lt; omega⟩
theorem metS_hit {riv : List Spot} {k : Int} {l : List Nat} {c : Int} {i : Nat} {m : Int} (h : metS riv k l c i m) (hi : i < l.length) (hk : (riv.getD (l.getD i default) default).kind = k) (he : m + 1 = c) : hitL riv k l c = some (l.getD i default) := by
  have hd : l = l.take i ++ l.getD i default :: l.drop (i + 1) := by
    rw [getD_lt hi, List.getElem_cons_drop, List.take_append_drop]
  have hm := h.met
  have hl := h.lt
  rw [hd, hitL_skip (by omega)]
  rw [← hd] 
  unfold hitL
  rw [if_pos hk, if_pos (by omega)]
theorem metS_end {riv : List Spot} {k : Int} {l : List Nat} {c : Int} {m : Int} (h : metS riv k l c l.length m) : hitL riv k l c = none := by
  have hm := h.met
  have hl := h.lt
  rw [List.take_length] at hm
  have := hitL_skip (riv := riv) (k := k) (l := l) (r := []) (c := c) (by omega)
  rw [List.append_nil] at this
  rw [this]; rfl
end Go.Tk
namespace Go.Proofs.YtcllnnjeaidppaaGreatDoor
open Go Go.Av Go.Tk
attribute [local irreducible] Holds sem semL ACalls FnIs
variable {G : World → Prop} (hG : ∀ w w', G w → RowKit.Below w.heap.size w w' → G w')
include hG
theorem river_step (riv : List Spot) (f : Nat) (s : Stp) (hl : riv.length ≤ 100000) (hf : f < riv.length) (hs : s.ok) : Holds Tryz.prog G F.speak_river_step [.agg [slOf Spot.cs riv], I f, .agg s.cs] (stepV riv f s) := by
  have hup := river_up hG riv f hl hf
  have hdn := river_down hG riv f hl hf
  have hdl := dirL_len (s := s) hf
  have hdlt := dirL_lt (s := s) hf
  have h0 := metS_start (riv := riv) (k := s.kind) (l := dirL riv f s) (c := s.count) hs.1.1
  have hot := fun i m => metS_other (riv := riv) (k := s.kind) (l := dirL riv f s) (c := s.count) (i := i) (m := m)
  have hnx := fun i m => metS_next (riv := riv) (k := s.kind) (l := dirL riv f s) (c := s.count) (i := i) (m := m)
  have hht := fun i m => metS_hit (riv := riv) (k := s.kind) (l := dirL riv f s) (c := s.count) (i := i) (m := m)
  have hen := fun m => metS_end (riv := riv) (k := s.kind) (l := dirL riv f s) (c := s.count) (m := m)
  have hbd : ∀ i m, metS riv s.kind (dirL riv f s) s.count i m → 0 ≤ m ∧ m ≤ 9 := fun i m h => by
    have h1 := h.met
    have h2 := h.lt
    have := hs.1.2
    omega
  have hdir : (if s.up then upL riv.length f else downL f) = dirL riv f s := rfl
  unfold stepV
  (refine holds_of_sem hG fn_speak_river_step (by simp) fun w0 S0 hG0 D0 => ?_; unfold c_speak_river_step cval enterEnv; simp only [List.zipIdx_cons, List.zipIdx_nil, List.map_cons, List.map_nil, Nat.zero_add, Nat.reduceAdd])
  repeat' (first | ((first | refine o1 rfl ?_ | refine o0 rfl ?_); intro k hk; simp (disch := omega) only [ev0, sl_cells, simprocAttr, Spot.cs, Stp.cs]; refine hk _ _ ?_; clear hk k) | refine ono rfl ?_ | ((first | refine osplitG rfl (fun h => ?_) (fun h => ?_) | refine osplitB rfl (fun h => ?_) (fun h => ?_)) <;> (fail_if_success (simp only [eq_self, reduceCtorEq] at h))) | refine onx ?_ | refine onb ?_ | refine sreg ?_ | refine qT rfl ?_ | refine qF rfl ?_ | refine scondT rfl ?_ | refine scondF rfl ?_ | refine ocondP rfl (fun h => ?_) (fun h => ?_) | refine ocondB rfl (fun h => ?_) (fun h => ?_) | refine scondP rfl (fun h => ?_) (fun h => ?_) | refine scond rfl (fun h => ?_) (fun h => ?_) | refine oskip ?_ | refine oskipb ?_ | refine oret ?_ | refine sem_ret ?_ | refine sem_seq ?_ | refine sreg1 ?_)
  all_goals
    have hdn' : Holds Tryz.prog G (if s.up then F.speak_river_up else F.speak_river_down) [.agg [slOf Spot.cs riv], I f] (slOf natCs (dirL riv f s)) := by
      rw [← hdir]; split <;> assumption
    have hsup : s.up = true ∨ s.up = false := by cases s.up <;> simp
    simp only [*, if_true, if_false, Bool.false_eq_true, reduceIte] at hdn'
    (apply odyn; (case hx => (simp only [ev0, sl_cells, simprocAttr] <;> rfl)); (case he => (simp only [ev0, sl_cells, simprocAttr] <;> rfl)); (case hc => exact hdn'); (case ht => first | rfl | assumption); (case hg => rfl))
    clear hdn' hup hdn
    generalize dirL riv f s = dl at *
    repeat' (first | ((first | refine o1 rfl ?_ | refine o0 rfl ?_); intro k hk; simp (disch := omega) only [ev0, sl_cells, simprocAttr, slOf]; refine hk _ _ ?_; clear hk k) | refine ono rfl ?_ | ((first | refine osplitG rfl (fun h => ?_) (fun h => ?_) | refine osplitB rfl (fun h => ?_) (fun h => ?_)) <;> (fail_if_success (simp only [eq_self, reduceCtorEq] at h))) | refine onx ?_ | refine onb ?_ | refine sreg ?_ | refine qT rfl ?_ | refine qF rfl ?_ | refine scondT rfl ?_ | refine scondF rfl ?_ | refine ocondP rfl (fun h => ?_) (fun h => ?_) | refine ocondB rfl (fun h => ?_) (fun h => ?_) | refine scondP rfl (fun h => ?_) (fun h => ?_) | refine scond rfl (fun h => ?_) (fun h => ?_) | refine oskip ?_ | refine oskipb ?_ | refine oret ?_ | refine sem_ret ?_ | refine sem_seq ?_ | refine sreg1 ?_)
    refine sem_block ?_
    
    refine sem_loop (α := Nat × Int) (fun x => ⟨[(3, .ptr 0 0 1 0 0), (5, .ptr 1 0 4 0 0), (9, I x.2), (20, slOf natCs dl), (21, I dl.length), (22, I x.1)], [.row 141 0 1 [[slOf Spot.cs riv]], .row 99 0 4 [s.cs]]⟩) (fun x => x.1 ≤ dl.length ∧ metS riv s.kind dl s.count x.1 x.2) (fun x => dl.length - x.1) (0, 0) ⟨Nat.zero_le _, h0⟩ ?_ ?_
    · (refine Le.same ?_; simp only [List.forall_mem_cons, List.forall_mem_nil, getE, selE, Nat.reduceBEq, List.not_mem_nil, false_implies, implies_true, and_true, true_and, and_self])
      simp [slOf, Stp.cs]
    · rintro ⟨i, m⟩ ⟨h1, h2⟩
      simp only at h1 h2
      have hb2 := hbd i m h2
      repeat' (first | ((first | refine o1 rfl ?_ | refine o0 rfl ?_); intro k hk; simp (disch := omega) only [ev0, sl_cells, simprocAttr, slOf]; refine hk _ _ ?_; clear hk k) | refine ono rfl ?_ | ((first | refine osplitG rfl (fun h => ?_) (fun h => ?_) | refine osplitB rfl (fun h => ?_) (fun h => ?_)) <;> (fail_if_success (simp only [eq_self, reduceCtorEq] at h))) | refine onx ?_ | refine onb ?_ | refine sreg ?_ | refine qT rfl ?_ | refine qF rfl ?_ | refine scondT rfl ?_ | refine scondF rfl ?_ | refine ocondP rfl (fun h => ?_) (fun h => ?_) | refine ocondB rfl (fun h => ?_) (fun h => ?_) | refine scondP rfl (fun h => ?_) (fun h => ?_) | refine scond rfl (fun h => ?_) (fun h => ?_) | refine oskip ?_ | refine oskipb ?_ | refine oret ?_ | refine sem_ret ?_ | refine sem_seq ?_ | refine sreg1 ?_)
      · have hi : i < dl.length := by omega
        have hj := hdlt _ (mem_getD hi)
        have q1 := hot i m h2 hi
        have q2 := hnx i m h2 hi
        have q3 := hht i m h2 hi
        refine sem_block ?_
        repeat' (first | ((first | refine o1 rfl ?_ | refine o0 rfl ?_); intro k hk; simp (disch := omega) only [ev0, sl_cells, simprocAttr, slOf, natCs]; refine hk _ _ ?_; clear hk k) | refine ono rfl ?_ | ((first | refine osplitG rfl (fun h => ?_) (fun h => ?_) | refine osplitB rfl (fun h => ?_) (fun h => ?_)) <;> (fail_if_success (simp only [eq_self, reduceCtorEq] at h))) | refine onx ?_ | refine onb ?_ | refine sreg ?_ | refine qT rfl ?_ | refine qF rfl ?_ | refine scondT rfl ?_ | refine scondF rfl ?_ | refine ocondP rfl (fun h => ?_) (fun h => ?_) | refine ocondB rfl (fun h => ?_) (fun h => ?_) | refine scondP rfl (fun h => ?_) (fun h => ?_) | refine scond rfl (fun h => ?_) (fun h => ?_) | refine oskip ?_ | refine oskipb ?_ | refine oret ?_ | refine sem_ret ?_ | refine sem_seq ?_ | refine sreg1 ?_)
        generalize dl.getD i default = j at *
        generalize hsp : riv.getD j default = sp at *
        by_cases hk : sp.kind = s.kind
        · have hkk : (sp.kind = s.kind) = True := eq_true hk
          by_cases he : m + 1 = s.count
          · have hee : (m + 1 = s.count) = True := eq_true he
            rw [q3 hk he]
            simp only
            rw [hsp]
            ((refine sem_mgo 8 hmix (by kernel_rfl) ?_; simp only [nt]); (repeat' (first | ((first | apply mop | apply mop0); (case hg => rfl); (case hq => rfl); intro k hk; simp (disch := omega) only [ev0, sl_cells, simprocAttr, slOf, Spot.cs, Stp.cs, natCs, hsp, hkk, hee, decide_true, Bool.not_true]; refine hk _ _ rfl ?_; clear hk k) | (apply mno; (case hg => rfl)) | (apply mbox; (case hx => (simp only [wv, simprocAttr] <;> rfl)); (case hg => rfl); (case hall => rfl); (case hr => rfl); simp only [nm, Nat.reduceAdd]) | (apply mbldS; (case hb => (simp (disch := omega) only [ev0, sl_cells, simprocAttr] <;> rfl)); (case hg => rfl); (case hr => rfl); simp only [nm, Nat.reduceAdd]) | ((first | (apply msto (q := 0); (case hq => rfl)) | (apply msto (q := 1); (case hq => rfl)) | (apply msto (q := 2); (case hq => rfl)) | (apply msto (q := 3); (case hq => rfl))); (case hx => (simp only [wv, simprocAttr] <;> rfl)); (case haddr => (simp only [wv, simprocAttr] <;> rfl)); (case hg => rfl); (case hl1 => rfl); (case hl2 => rfl); (case hok => rfl); (case hr => rfl); simp only [nm, Nat.reduceAdd]) | (apply mnil; simp only [SlotR.fin, ns]) | (refine msplit rfl (fun h => ?_) (fun h => ?_) <;> simp only [h] <;> (try simp only [nb] at h)))) <;> (repeat' (first | ((first | refine o1 rfl ?_ | refine o0 rfl ?_); intro k hk; simp (disch := omega) only [ev0, sl_cells, simprocAttr, slOf, Spot.cs, Stp.cs, natCs, hsp, hkk, hee, decide_true, Bool.not_true]; refine hk _ _ ?_; clear hk k) | refine ono rfl ?_ | ((first | refine osplitG rfl (fun h => ?_) (fun h => ?_) | refine osplitB rfl (fun h => ?_) (fun h => ?_)) <;> (fail_if_success (simp only [eq_self, reduceCtorEq] at h))) | refine onx ?_ | refine onb ?_ | refine sreg ?_ | refine qT rfl ?_ | refine qF rfl ?_ | refine scondT rfl ?_ | refine scondF rfl ?_ | refine ocondP rfl (fun h => ?_) (fun h => ?_) | refine ocondB rfl (fun h => ?_) (fun h => ?_) | refine scondP rfl (fun h => ?_) (fun h => ?_) | refine scond rfl (fun h => ?_) (fun h => ?_) | refine oskip ?_ | refine oskipb ?_ | refine oret ?_ | refine sem_ret ?_ | refine sem_seq ?_ | refine sreg1 ?_)))
            by_cases hb0 : s.bank = 0
            · have hb00 : (s.bank = 0) = True := eq_true hb0
              rw [show bankOk s sp = true by simp [bankOk, hb0]]
              ((refine sem_mgo 17 hmix (by kernel_rfl) ?_; simp only [nt]); (repeat' (first | ((first | apply mop | apply mop0); (case hg => rfl); (case hq => rfl); intro k hk; simp (disch := omega) only [ev0, sl_cells, simprocAttr, slOf, Spot.cs, Stp.cs, natCs, hsp, hb00, decide_true, Bool.not_true]; refine hk _ _ rfl ?_; clear hk k) | (apply mno; (case hg => rfl)) | (apply mbox; (case hx => (simp only [wv, simprocAttr] <;> rfl)); (case hg => rfl); (case hall => rfl); (case hr => rfl); simp only [nm, Nat.reduceAdd]) | (apply mbldS; (case hb => (simp (disch := omega) only [ev0, sl_cells, simprocAttr] <;> rfl)); (case hg => rfl); (case hr => rfl); simp only [nm, Nat.reduceAdd]) | ((first | (apply msto (q := 0); (case hq => rfl)) | (apply msto (q := 1); (case hq => rfl)) | (apply msto (q := 2); (case hq => rfl)) | (apply msto (q := 3); (case hq => rfl))); (case hx => (simp only [wv, simprocAttr] <;> rfl)); (case haddr => (simp only [wv, simprocAttr] <;> rfl)); (case hg => rfl); (case hl1 => rfl); (case hl2 => rfl); (case hok => rfl); (case hr => rfl); simp only [nm, Nat.reduceAdd]) | (apply mnil; simp only [SlotR.fin, ns]) | (refine msplit rfl (fun h => ?_) (fun h => ?_) <;> simp only [h] <;> (try simp only [nb] at h)))) <;> (repeat' (first | ((first | refine o1 rfl ?_ | refine o0 rfl ?_); intro k hk; simp (disch := omega) only [ev0, sl_cells, simprocAttr, slOf, Spot.cs, Stp.cs, natCs, hsp, hb00, decide_true, Bool.not_true]; refine hk _ _ ?_; clear hk k) | refine ono rfl ?_ | ((first | refine osplitG rfl (fun h => ?_) (fun h => ?_) | refine osplitB rfl (fun h => ?_) (fun h => ?_)) <;> (fail_if_success (simp only [eq_self, reduceCtorEq] at h))) | refine onx ?_ | refine onb ?_ | refine sreg ?_ | refine qT rfl ?_ | refine qF rfl ?_ | refine scondT rfl ?_ | refine scondF rfl ?_ | refine ocondP rfl (fun h => ?_) (fun h => ?_) | refine ocondB rfl (fun h => ?_) (fun h => ?_) | refine scondP rfl (fun h => ?_) (fun h => ?_) | refine scond rfl (fun h => ?_) (fun h => ?_) | refine oskip ?_ | refine oskipb ?_ | refine oret ?_ | refine sem_ret ?_ | refine sem_seq ?_ | refine sreg1 ?_)))
              exact ⟨_, rfl, _, rfl, tree_eq rfl rfl⟩
            · have hb00 : (s.bank = 0) = False := eq_false hb0
              by_cases hb1 : s.bank = 1
              · have hb11 : (s.bank = 1) = True := eq_true hb1
                rw [show bankOk s sp = (false != (true == sp.left)) by simp [bankOk, hb0, hb1]]
                ((refine sem_mgo 17 hmix (by kernel_rfl) ?_; simp only [nt]); (repeat' (first | ((first | apply mop | apply mop0); (case hg => rfl); (case hq => rfl); intro k hk; simp (disch := omega) only [ev0, sl_cells, simprocAttr, slOf, Spot.cs, Stp.cs, natCs, hsp, hb00, hb11, decide_true, decide_false, Bool.not_false]; refine hk _ _ rfl ?_; clear hk k) | (apply mno; (case hg => rfl)) | (apply mbox; (case hx => (simp only [wv, simprocAttr] <;> rfl)); (case hg => rfl); (case hall => rfl); (case hr => rfl); simp only [nm, Nat.reduceAdd]) | (apply mbldS; (case hb => (simp (disch := omega) only [ev0, sl_cells, simprocAttr] <;> rfl)); (case hg => rfl); (case hr => rfl); simp only [nm, Nat.reduceAdd]) | ((first | (apply msto (q := 0); (case hq => rfl)) | (apply msto (q := 1); (case hq => rfl)) | (apply msto (q := 2); (case hq => rfl)) | (apply msto (q := 3); (case hq => rfl))); (case hx => (simp only [wv, simprocAttr] <;> rfl)); (case haddr => (simp only [wv, simprocAttr] <;> rfl)); (case hg => rfl); (case hl1 => rfl); (case hl2 => rfl); (case hok => rfl); (case hr => rfl); simp only [nm, Nat.reduceAdd]) | (apply mnil; simp only [SlotR.fin, ns]) | (refine msplit rfl (fun h => ?_) (fun h => ?_) <;> simp only [h] <;> (try simp only [nb] at h)))) <;> (repeat' (first | ((first | refine o1 rfl ?_ | refine o0 rfl ?_); intro k hk; simp (disch := omega) only [ev0, sl_cells, simprocAttr, slOf, Spot.cs, Stp.cs, natCs, hsp, hb00, hb11, decide_true, decide_false, Bool.not_false]; refine hk _ _ ?_; clear hk k) | refine ono rfl ?_ | ((first | refine osplitG rfl (fun h => ?_) (fun h => ?_) | refine osplitB rfl (fun h => ?_) (fun h => ?_)) <;> (fail_if_success (simp only [eq_self, reduceCtorEq] at h))) | refine onx ?_ | refine onb ?_ | refine sreg ?_ | refine qT rfl ?_ | refine qF rfl ?_ | refine scondT rfl ?_ | refine scondF rfl ?_ | refine ocondP rfl (fun h => ?_) (fun h => ?_) | refine ocondB rfl (fun h => ?_) (fun h => ?_) | refine scondP rfl (fun h => ?_) (fun h => ?_) | refine scond rfl (fun h => ?_) (fun h => ?_) | refine oskip ?_ | refine oskipb ?_ | refine oret ?_ | refine sem_ret ?_ | refine sem_seq ?_ | refine sreg1 ?_)))
                exact ⟨_, rfl, _, rfl, tree_eq rfl rfl⟩
              · have hb11 : (s.bank = 1) = False := eq_false hb1
                rw [show bankOk s sp = (false != (false == sp.left)) by simp [bankOk, hb0, hb1]]
                ((refine sem_mgo 17 hmix (by kernel_rfl) ?_; simp only [nt]); (repeat' (first | ((first | apply mop | apply mop0); (case hg => rfl); (case hq => rfl); intro k hk; simp (disch := omega) only [ev0, sl_cells, simprocAttr, slOf, Spot.cs, Stp.cs, natCs, hsp, hb00, hb11, decide_true, decide_false, Bool.not_false]; refine hk _ _ rfl ?_; clear hk k) | (apply mno; (case hg => rfl)) | (apply mbox; (case hx => (simp only [wv, simprocAttr] <;> rfl)); (case hg => rfl); (case hall => rfl); (case hr => rfl); simp only [nm, Nat.reduceAdd]) | (apply mbldS; (case hb => (simp (disch := omega) only [ev0, sl_cells, simprocAttr] <;> rfl)); (case hg => rfl); (case hr => rfl); simp only [nm, Nat.reduceAdd]) | ((first | (apply msto (q := 0); (case hq => rfl)) | (apply msto (q := 1); (case hq => rfl)) | (apply msto (q := 2); (case hq => rfl)) | (apply msto (q := 3); (case hq => rfl))); (case hx => (simp only [wv, simprocAttr] <;> rfl)); (case haddr => (simp only [wv, simprocAttr] <;> rfl)); (case hg => rfl); (case hl1 => rfl); (case hl2 => rfl); (case hok => rfl); (case hr => rfl); simp only [nm, Nat.reduceAdd]) | (apply mnil; simp only [SlotR.fin, ns]) | (refine msplit rfl (fun h => ?_) (fun h => ?_) <;> simp only [h] <;> (try simp only [nb] at h)))) <;> (repeat' (first | ((first | refine o1 rfl ?_ | refine o0 rfl ?_); intro k hk; simp (disch := omega) only [ev0, sl_cells, simprocAttr, slOf, Spot.cs, Stp.cs, natCs, hsp, hb00, hb11, decide_true, decide_false, Bool.not_false]; refine hk _ _ ?_; clear hk k) | refine ono rfl ?_ | ((first | refine osplitG rfl (fun h => ?_) (fun h => ?_) | refine osplitB rfl (fun h => ?_) (fun h => ?_)) <;> (fail_if_success (simp only [eq_self, reduceCtorEq] at h))) | refine onx ?_ | refine onb ?_ | refine sreg ?_ | refine qT rfl ?_ | refine qF rfl ?_ | refine scondT rfl ?_ | refine scondF rfl ?_ | refine ocondP rfl (fun h => ?_) (fun h => ?_) | refine ocondB rfl (fun h => ?_) (fun h => ?_) | refine scondP rfl (fun h => ?_) (fun h => ?_) | refine scond rfl (fun h => ?_) (fun h => ?_) | refine oskip ?_ | refine oskipb ?_ | refine oret ?_ | refine sem_ret ?_ | refine sem_seq ?_ | refine sreg1 ?_)))
                exact ⟨_, rfl, _, rfl, tree_eq rfl rfl⟩
          · have hee : (m + 1 = s.count) = False := eq_false he
            ((refine sem_mgo 8 hmix (by kernel_rfl) ?_; simp only [nt]); (repeat' (first | ((first | apply mop | apply mop0); (case hg => rfl); (case hq => rfl); intro k hk; simp (disch := omega) only [ev0, sl_cells, simprocAttr, slOf, Spot.cs, Stp.cs, natCs, hsp, hkk, hee, decide_true, decide_false, Bool.not_true]; refine hk _ _ rfl ?_; clear hk k) | (apply mno; (case hg => rfl)) | (apply mbox; (case hx => (simp only [wv, simprocAttr] <;> rfl)); (case hg => rfl); (case hall => rfl); (case hr => rfl); simp only [nm, Nat.reduceAdd]) | (apply mbldS; (case hb => (simp (disch := omega) only [ev0, sl_cells, simprocAttr] <;> rfl)); (case hg => rfl); (case hr => rfl); simp only [nm, Nat.reduceAdd]) | ((first | (apply msto (q := 0); (case hq => rfl)) | (apply msto (q := 1); (case hq => rfl)) | (apply msto (q := 2); (case hq => rfl)) | (apply msto (q := 3); (case hq => rfl))); (case hx => (simp only [wv, simprocAttr] <;> rfl)); (case haddr => (simp only [wv, simprocAttr] <;> rfl)); (case hg => rfl); (case hl1 => rfl); (case hl2 => rfl); (case hok => rfl); (case hr => rfl); simp only [nm, Nat.reduceAdd]) | (apply mnil; simp only [SlotR.fin, ns]) | (refine msplit rfl (fun h => ?_) (fun h => ?_) <;> simp only [h] <;> (try simp only [nb] at h)))) <;> (repeat' (first | ((first | refine o1 rfl ?_ | refine o0 rfl ?_); intro k hk; simp (disch := omega) only [ev0, sl_cells, simprocAttr, slOf, Spot.cs, Stp.cs, natCs, hsp, hkk, hee, decide_true, decide_false, Bool.not_true]; refine hk _ _ ?_; clear hk k) | refine ono rfl ?_ | ((first | refine osplitG rfl (fun h => ?_) (fun h => ?_) | refine osplitB rfl (fun h => ?_) (fun h => ?_)) <;> (fail_if_success (simp only [eq_self, reduceCtorEq] at h))) | refine onx ?_ | refine onb ?_ | refine sreg ?_ | refine qT rfl ?_ | refine qF rfl ?_ | refine scondT rfl ?_ | refine scondF rfl ?_ | refine ocondP rfl (fun h => ?_) (fun h => ?_) | refine ocondB rfl (fun h => ?_) (fun h => ?_) | refine scondP rfl (fun h => ?_) (fun h => ?_) | refine scond rfl (fun h => ?_) (fun h => ?_) | refine oskip ?_ | refine oskipb ?_ | refine oret ?_ | refine sem_ret ?_ | refine sem_seq ?_ | refine sreg1 ?_)))
            refine onil (lnext (i + 1, m + 1) ⟨by simp only; omega, q2 hk he⟩ (by simp only; omega) ?_)
            (refine Le.same ?_; simp only [List.forall_mem_cons, List.forall_mem_nil, getE, selE, Nat.reduceBEq, List.not_mem_nil, false_implies, implies_true, and_true, true_and, and_self])
            simp [slOf, Stp.cs]
        · have hkk : (sp.kind = s.kind) = False := eq_false hk
          ((refine sem_mgo 8 hmix (by kernel_rfl) ?_; simp only [nt]); (repeat' (first | ((first | apply mop | apply mop0); (case hg => rfl); (case hq => rfl); intro k hk; simp (disch := omega) only [ev0, sl_cells, simprocAttr, slOf, Spot.cs, Stp.cs, natCs, hsp, hkk, decide_false, Bool.not_false]; refine hk _ _ rfl ?_; clear hk k) | (apply mno; (case hg => rfl)) | (apply mbox; (case hx => (simp only [wv, simprocAttr] <;> rfl)); (case hg => rfl); (case hall => rfl); (case hr => rfl); simp only [nm, Nat.reduceAdd]) | (apply mbldS; (case hb => (simp (disch := omega) only [ev0, sl_cells, simprocAttr] <;> rfl)); (case hg => rfl); (case hr => rfl); simp only [nm, Nat.reduceAdd]) | ((first | (apply msto (q := 0); (case hq => rfl)) | (apply msto (q := 1); (case hq => rfl)) | (apply msto (q := 2); (case hq => rfl)) | (apply msto (q := 3); (case hq => rfl))); (case hx => (simp only [wv, simprocAttr] <;> rfl)); (case haddr => (simp only [wv, simprocAttr] <;> rfl)); (case hg => rfl); (case hl1 => rfl); (case hl2 => rfl); (case hok => rfl); (case hr => rfl); simp only [nm, Nat.reduceAdd]) | (apply mnil; simp only [SlotR.fin, ns]) | (refine msplit rfl (fun h => ?_) (fun h => ?_) <;> simp only [h] <;> (try simp only [nb] at h)))) <;> (repeat' (first | ((first | refine o1 rfl ?_ | refine o0 rfl ?_); intro k hk; simp (disch := omega) only [ev0, sl_cells, simprocAttr, slOf, Spot.cs, Stp.cs, natCs, hsp, hkk, decide_false, Bool.not_false]; refine hk _ _ ?_; clear hk k) | refine ono rfl ?_ | ((first | refine osplitG rfl (fun h => ?_) (fun h => ?_) | refine osplitB rfl (fun h => ?_) (fun h => ?_)) <;> (fail_if_success (simp only [eq_self, reduceCtorEq] at h))) | refine onx ?_ | refine onb ?_ | refine sreg ?_ | refine qT rfl ?_ | refine qF rfl ?_ | refine scondT rfl ?_ | refine scondF rfl ?_ | refine ocondP rfl (fun h => ?_) (fun h => ?_) | refine ocondB rfl (fun h => ?_) (fun h => ?_) | refine scondP rfl (fun h => ?_) (fun h => ?_) | refine scond rfl (fun h => ?_) (fun h => ?_) | refine oskip ?_ | refine oskipb ?_ | refine oret ?_ | refine sem_ret ?_ | refine sem_seq ?_ | refine sreg1 ?_)))
          (refine sem_exit ?_; change sem _ _ _ _ _)
          repeat' (first | ((first | refine o1 rfl ?_ | refine o0 rfl ?_); intro k hk; simp (disch := omega) only [ev0, sl_cells, simprocAttr]; refine hk _ _ ?_; clear hk k) | refine ono rfl ?_ | ((first | refine osplitG rfl (fun h => ?_) (fun h => ?_) | refine osplitB rfl (fun h => ?_) (fun h => ?_)) <;> (fail_if_success (simp only [eq_self, reduceCtorEq] at h))) | refine onx ?_ | refine onb ?_ | refine sreg ?_ | refine qT rfl ?_ | refine qF rfl ?_ | refine scondT rfl ?_ | refine scondF rfl ?_ | refine ocondP rfl (fun h => ?_) (fun h => ?_) | refine ocondB rfl (fun h => ?_) (fun h => ?_) | refine scondP rfl (fun h => ?_) (fun h => ?_) | refine scond rfl (fun h => ?_) (fun h => ?_) | refine oskip ?_ | refine oskipb ?_ | refine oret ?_ | refine sem_ret ?_ | refine sem_seq ?_ | refine sreg1 ?_)
          refine onil (lnext (i + 1, m) ⟨by simp only; omega, q1 hk⟩ (by simp only; omega) ?_)
          (refine Le.same ?_; simp only [List.forall_mem_cons, List.forall_mem_nil, getE, selE, Nat.reduceBEq, List.not_mem_nil, false_implies, implies_true, and_true, true_and, and_self])
          simp [slOf, Stp.cs]
      · have hi : i = dl.length := by omega
        subst hi
        rw [hen m h2]
        (refine sem_exit ?_; change sem _ _ _ _ _)
        repeat' (first | ((first | refine o1 rfl ?_ | refine o0 rfl ?_); intro k hk; simp (disch := omega) only [ev0, sl_cells, simprocAttr]; refine hk _ _ ?_; clear hk k) | refine ono rfl ?_ | ((first | refine osplitG rfl (fun h => ?_) (fun h => ?_) | refine osplitB rfl (fun h => ?_) (fun h => ?_)) <;> (fail_if_success (simp only [eq_self, reduceCtorEq] at h))) | refine onx ?_ | refine onb ?_ | refine sreg ?_ | refine qT rfl ?_ | refine qF rfl ?_ | refine scondT rfl ?_ | refine scondF rfl ?_ | refine ocondP rfl (fun h => ?_) (fun h => ?_) | refine ocondB rfl (fun h => ?_) (fun h => ?_) | refine scondP rfl (fun h => ?_) (fun h => ?_) | refine scond rfl (fun h => ?_) (fun h => ?_) | refine oskip ?_ | refine oskipb ?_ | refine oret ?_ | refine sem_ret ?_ | refine sem_seq ?_ | refine sreg1 ?_)
        exact ⟨_, rfl, _, rfl, tree_eq rfl rfl⟩
end Go.Proofs.YtcllnnjeaidppaaGreatDoor
