/- The colds of a house, the greatest first. -/
import Derived.Test.YtnempffajbdneaaPC13
set_option linter.unusedVariables false
set_option linter.unusedSimpArgs false
set_option maxRecDepth 8000
set_option maxHeartbeats 2000000
namespace Go.Tk
open Go Go.Av
abbrev ES := List (AV × AV)
/-- A town with coolers that were bought: what is kept, and the town, the coolers. -/
abbrev buyM (t : CoolTown) (m : Nat) (es : ES) : List AObj := [.map es, .row 96 0 4 [[slOf CoolHouse.cs t.houses, slOf CoolSite.cs t.sites, I m, .mp 0]]]
def boolE (es : ES) : Prop := ∀ p ∈ es, ∃ b, p.2 = .bool b
theorem boolE.ref {es : ES} (h : boolE es) (k : Nat) : es.all (fun p => refA k p.2) = true := List.all_eq_true.2 fun p hp => by
  obtain ⟨b, hb⟩ := h p hp
  rw [hb]; rfl
theorem boolE.frz {es : ES} (h : boolE es) {id g sz n : Nat} {F : Nat → List AV} : es.map (fun p => (p.1, frzA id g sz n F p.2)) = es := by
  conv => rhs; rw [← List.map_id es]
  refine List.map_congr_left fun p hp => ?_
  obtain ⟨b, hb⟩ := h p hp
  obtain ⟨k, v⟩ := p
  simp only at hb
  subst hb
  rfl
theorem boolE.ren {es : ES} (h : boolE es) {g : Nat → Nat} : es.map (fun p => (p.1, renA g p.2)) = es := by
  conv => rhs; rw [← List.map_id es]
  refine List.map_congr_left fun p hp => ?_
  obtain ⟨b, hb⟩ := h p hp
  obtain ⟨k, v⟩ := p
  simp only at hb
  subst hb
  rfl
theorem boolE.inn {es : ES} (h : boolE es) {q : Nat → Bool} : es.all (fun p => inA q p.2) = true := List.all_eq_true.2 fun p hp => by
  obtain ⟨b, hb⟩ := h p hp
  rw [hb]; rfl
def lowOf (t : CoolTown) (y : Nat) (i : Int) : Int := ((t.sites.getD i.toNat default).gives.getD y default).low
theorem lowOf_bound {t : CoolTown} (ht : t.ok) {y : Nat} (hy : y < t.houses.length) {i : Int} (hi : 0 ≤ i ∧ i < t.sites.length) : 0 ≤ lowOf t y i ∧ lowOf t y i ≤ 1000000 := by
  obtain ⟨a, b, c, d⟩ := all_getD.1 ht.2.2.2 i.toNat (by omega)
  obtain ⟨e, f, g⟩ := all_getD.1 d y (by omega)
  unfold lowOf
  omega
theorem ren_rowI {g : Nat → Nat} {l : List Int} : (rowL intCs l).map (renL g) = rowL intCs l := by
  unfold rowL
  rw [List.map_map]
  exact List.map_congr_left fun a _ => rfl
theorem in_rowI {q : Nat → Bool} {l : List Int} : (rowL intCs l).all (inL q) = true := List.all_eq_true.2 fun x hx => by
  obtain ⟨a, _, rfl⟩ := List.mem_map.1 hx
  rfl
def coldsL (t : CoolTown) (y : Nat) (c : Nat) : List Int := sortD ((listB c).map (lowOf t y))
end Go.Tk
namespace Go.Proofs.Ytnempffajbdneaa
open Go Go.Av Go.Tk
attribute [local irreducible] Holds sem semL ACalls FnIs
variable {K : Ctx} (hP : K.P = Try.prog) (hGK : ∀ w w', K.G w → RowKit.Below w.heap.size w w' → K.G w')
include hP hGK
theorem colds_1 (t : CoolTown) (ht : t.ok) (m : Nat) (es : ES) (y : Nat) (hy : y < t.houses.length) (n : Nat) (hn : n < t.sites.length) :
    ACalls K F.cool_bought_colds_1 [I n, .ptr 2 0 1 0 0, .ptr 3 0 1 0 0] (buyM t m es ++ [.row 90 0 1 [[.ptr 1 0 4 0 0]], .row 3 0 1 [[I y]]]) fun ae ν => ae = .ret (I (lowOf t y n)) ∧ ν = buyM t m es ++ [.row 90 0 1 [[.ptr 1 0 4 0 0]], .row 3 0 1 [[I y]]] := by
  have hgl : (t.sites.getD n default).gives.length = t.houses.length := (all_getD.1 ht.2.2.2 n hn).2.2.1
  obtain ⟨P, w0, S0, G, hG0⟩ := K
  simp only at hP hGK
  subst hP
  refine acalls_of_sem fn_cool_bought_colds_1 (by simp) fun D => ?_
  unfold c_cool_bought_colds_1 cval enterEnv buyM
  simp only [List.zipIdx_cons, List.zipIdx_nil, List.map_cons, List.map_nil, Nat.zero_add, Nat.reduceAdd, List.cons_append, List.nil_append]
  repeat' (first | ((first | refine o1 rfl ?_ | refine o0 rfl ?_); intro k hk; simp (disch := omega) only [ev0, sl_cells, simprocAttr]; refine hk _ _ ?_; clear hk k) | refine ono rfl ?_ | ((first | refine osplitG rfl (fun h => ?_) (fun h => ?_) | refine osplitB rfl (fun h => ?_) (fun h => ?_)) <;> (fail_if_success (simp only [eq_self, reduceCtorEq] at h))) | refine onx ?_ | refine onb ?_ | refine sreg ?_ | refine qT rfl ?_ | refine qF rfl ?_ | refine scondT rfl ?_ | refine scondF rfl ?_ | refine ocondP rfl (fun h => ?_) (fun h => ?_) | refine ocondB rfl (fun h => ?_) (fun h => ?_) | refine scondP rfl (fun h => ?_) (fun h => ?_) | refine scond rfl (fun h => ?_) (fun h => ?_) | refine oskip ?_ | refine oskipb ?_ | refine oret ?_ | refine sem_ret ?_ | refine sem_seq ?_ | refine sreg1 ?_)
  ((refine sem_mgo 10 hmix (by kernel_rfl) ?_; simp only [nt]); (repeat' (first | ((first | apply mop | apply mop0); (case hg => rfl); (case hq => rfl); intro k hk; simp (disch := omega) only [ev0, sl_cells, simprocAttr, slOf, CoolSite.cs, Span.cs]; refine hk _ _ rfl ?_; clear hk k) | (apply mno; (case hg => rfl)) | (apply mbox; (case hx => (simp only [wv, simprocAttr] <;> rfl)); (case hg => rfl); (case hall => rfl); (case hr => rfl); simp only [nm, Nat.reduceAdd]) | (apply mbldS; (case hb => (simp (disch := omega) only [ev0, sl_cells, simprocAttr] <;> rfl)); (case hg => rfl); (case hr => rfl); simp only [nm, Nat.reduceAdd]) | ((first | (apply msto (q := 0); (case hq => rfl)) | (apply msto (q := 1); (case hq => rfl)) | (apply msto (q := 2); (case hq => rfl)) | (apply msto (q := 3); (case hq => rfl))); (case hx => (simp only [wv, simprocAttr] <;> rfl)); (case haddr => (simp only [wv, simprocAttr] <;> rfl)); (case hg => rfl); (case hl1 => rfl); (case hl2 => rfl); (case hok => rfl); (case hr => rfl); simp only [nm, Nat.reduceAdd]) | (apply mnil; simp only [SlotR.fin, ns]) | (refine msplit rfl (fun h => ?_) (fun h => ?_) <;> simp only [h] <;> (try simp only [nb] at h)))) <;> (repeat' (first | ((first | refine o1 rfl ?_ | refine o0 rfl ?_); intro k hk; simp (disch := omega) only [ev0, sl_cells, simprocAttr, slOf, CoolSite.cs, Span.cs]; refine hk _ _ ?_; clear hk k) | refine ono rfl ?_ | ((first | refine osplitG rfl (fun h => ?_) (fun h => ?_) | refine osplitB rfl (fun h => ?_) (fun h => ?_)) <;> (fail_if_success (simp only [eq_self, reduceCtorEq] at h))) | refine onx ?_ | refine onb ?_ | refine sreg ?_ | refine qT rfl ?_ | refine qF rfl ?_ | refine scondT rfl ?_ | refine scondF rfl ?_ | refine ocondP rfl (fun h => ?_) (fun h => ?_) | refine ocondB rfl (fun h => ?_) (fun h => ?_) | refine scondP rfl (fun h => ?_) (fun h => ?_) | refine scond rfl (fun h => ?_) (fun h => ?_) | refine oskip ?_ | refine oskipb ?_ | refine oret ?_ | refine sem_ret ?_ | refine sem_seq ?_ | refine sreg1 ?_)))
  exact ⟨_, rfl, rfl, rfl⟩

theorem sorted_int (t : CoolTown) (ht : t.ok) (m : Nat) (es : ES) (hbe : boolE es) (y : Nat) (hy : y < t.houses.length) (l : List Int) (hl : l.length ≤ 10) (hlb : ∀ i ∈ l, 0 ≤ i ∧ i < t.sites.length) :
    ACalls K F.cool_sorted_int [slOf intCs l, .fn (.func F.cool_bought_colds_1) [] [.ptr 2 0 1 0 0, .ptr 3 0 1 0 0]] (buyM t m es ++ [.row 90 0 1 [[.ptr 1 0 4 0 0]], .row 3 0 1 [[I y]]])
      fun ae ν => ae = .ret (slOf intCs (sortD (l.map (lowOf t y)))) ∧ ν = buyM t m es ++ [.row 90 0 1 [[.ptr 1 0 4 0 0]], .row 3 0 1 [[I y]]] := by
  have hes := hbe.ref
  have hc1 := colds_1 hP hGK t ht m es y hy
  have hsf := sortFunc hP hGK (l.map (lowOf t y)) (by simpa using hl)
  obtain ⟨P, w0, S0, G, hG0⟩ := K
  simp only at hP hGK
  subst hP
  refine ACalls.drop (acalls_of_sem fn_cool_sorted_int (by simp) fun D => ?_) rfl (by simp [refM, refO, refA, refL, hes, slOf])
  unfold c_cool_sorted_int cval enterEnv buyM
  simp only [List.zipIdx_cons, List.zipIdx_nil, List.map_cons, List.map_nil, Nat.zero_add, Nat.reduceAdd, List.cons_append, List.nil_append]
  repeat' (first | ((first | refine o1 rfl ?_ | refine o0 rfl ?_); intro k hk; simp (disch := omega) only [ev0, sl_cells, simprocAttr]; refine hk _ _ ?_; clear hk k) | refine ono rfl ?_ | ((first | refine osplitG rfl (fun h => ?_) (fun h => ?_) | refine osplitB rfl (fun h => ?_) (fun h => ?_)) <;> (fail_if_success (simp only [eq_self, reduceCtorEq] at h))) | refine onx ?_ | refine onb ?_ | refine sreg ?_ | refine qT rfl ?_ | refine qF rfl ?_ | refine scondT rfl ?_ | refine scondF rfl ?_ | refine ocondP rfl (fun h => ?_) (fun h => ?_) | refine ocondB rfl (fun h => ?_) (fun h => ?_) | refine scondP rfl (fun h => ?_) (fun h => ?_) | refine scond rfl (fun h => ?_) (fun h => ?_) | refine oskip ?_ | refine oskipb ?_ | refine oret ?_ | refine sem_ret ?_ | refine sem_seq ?_ | refine sreg1 ?_)
  refine sem_block ?_
  (refine sem_ghost 5 3 1 rfl ?_; simp only [List.length_cons, List.length_nil, Nat.reduceAdd, Nat.zero_add, List.cons_append, List.nil_append])
  
  refine sem_loop (α := Nat) (fun i => ⟨[(1, .fn (.func F.cool_bought_colds_1) [] [.ptr 2 0 1 0 0, .ptr 3 0 1 0 0]), (5, .hsl 4 ((l.take i).map (lowOf t y)).length 1 ((l.take i).map (lowOf t y)).length), (8, slOf intCs l), (9, I l.length), (10, I i)], buyM t m es ++ [.row 90 0 1 [[.ptr 1 0 4 0 0]], .row 3 0 1 [[I y]], .row 3 ((l.take i).map (lowOf t y)).length 1 (rowL intCs ((l.take i).map (lowOf t y)))]⟩) (fun i => i ≤ l.length) (fun i => l.length - i) 0 (Nat.zero_le _) ?_ ?_
  · (refine Le.same ?_; simp only [List.forall_mem_cons, List.forall_mem_nil, getE, selE, Nat.reduceBEq, List.not_mem_nil, false_implies, implies_true, and_true, true_and, and_self])
    simp [slOf]
  · intro i hi
    have hLl : ((l.take i).map (lowOf t y)).length ≤ 1000 := by rw [List.length_map, List.length_take]; omega
    have hs := fun h : i < l.length => map_take_getD (lowOf t y) h
    generalize hL : (l.take i).map (lowOf t y) = L at *
    repeat' (first | ((first | refine o1 rfl ?_ | refine o0 rfl ?_); intro k hk; simp (disch := omega) only [ev0, sl_cells, simprocAttr, slOf]; refine hk _ _ ?_; clear hk k) | refine ono rfl ?_ | ((first | refine osplitG rfl (fun h => ?_) (fun h => ?_) | refine osplitB rfl (fun h => ?_) (fun h => ?_)) <;> (fail_if_success (simp only [eq_self, reduceCtorEq] at h))) | refine onx ?_ | refine onb ?_ | refine sreg ?_ | refine qT rfl ?_ | refine qF rfl ?_ | refine scondT rfl ?_ | refine scondF rfl ?_ | refine ocondP rfl (fun h => ?_) (fun h => ?_) | refine ocondB rfl (fun h => ?_) (fun h => ?_) | refine scondP rfl (fun h => ?_) (fun h => ?_) | refine scond rfl (fun h => ?_) (fun h => ?_) | refine oskip ?_ | refine oskipb ?_ | refine oret ?_ | refine sem_ret ?_ | refine sem_seq ?_ | refine sreg1 ?_)
    · have hi' : i < l.length := by omega
      have hb := hlb (l.getD i default) (by rw [getD_lt hi']; exact List.getElem_mem _)
      replace hs := hs hi'
      have e1 := rowL_take (enc := intCs) (l := L)
      obtain ⟨n, hn'⟩ := Int.eq_ofNat_of_zero_le hb.1
      generalize hwv : l.getD i default = v at *
      subst hn'
      have hnl : n < t.sites.length := by omega
      refine sem_block ?_
      repeat' (first | ((first | refine o1 rfl ?_ | refine o0 rfl ?_); intro k hk; simp (disch := omega) only [ev0, sl_cells, simprocAttr, slOf, intCs, hwv]; refine hk _ _ ?_; clear hk k) | refine ono rfl ?_ | ((first | refine osplitG rfl (fun h => ?_) (fun h => ?_) | refine osplitB rfl (fun h => ?_) (fun h => ?_)) <;> (fail_if_success (simp only [eq_self, reduceCtorEq] at h))) | refine onx ?_ | refine onb ?_ | refine sreg ?_ | refine qT rfl ?_ | refine qF rfl ?_ | refine scondT rfl ?_ | refine scondF rfl ?_ | refine ocondP rfl (fun h => ?_) (fun h => ?_) | refine ocondB rfl (fun h => ?_) (fun h => ?_) | refine scondP rfl (fun h => ?_) (fun h => ?_) | refine scond rfl (fun h => ?_) (fun h => ?_) | refine oskip ?_ | refine oskipb ?_ | refine oret ?_ | refine sem_ret ?_ | refine sem_seq ?_ | refine sreg1 ?_)
      have hcall := (hc1 n hnl).frame (es := [.row 3 L.length 1 (rowL intCs L)]) rfl (by simp [refM, refO, refA, refL, hes, slOf]) (by simp [refO, rowL_all (enc := intCs) (fun _ _ => rfl)]) rfl
      refine semL_dyn (R := fun ae μ => ae = .ret (I (lowOf t y n)) ∧ μ = buyM t m es ++ [.row 90 0 1 [[.ptr 1 0 4 0 0]], .row 3 0 1 [[I y]], .row 3 L.length 1 (rowL intCs L)]) rfl rfl (by exact hcall) fun ae μ hr => ?_
      obtain ⟨rfl, rfl⟩ := hr
      change semL _ _ _ ⟨(_, _) :: _, _⟩ _
      simp only [buyM, List.cons_append, List.nil_append]
      repeat' (first | ((first | refine o1 rfl ?_ | refine o0 rfl ?_); intro k hk; simp (disch := omega) only [ev0, sl_cells, simprocAttr]; refine hk _ _ ?_; clear hk k) | refine ono rfl ?_ | ((first | refine osplitG rfl (fun h => ?_) (fun h => ?_) | refine osplitB rfl (fun h => ?_) (fun h => ?_)) <;> (fail_if_success (simp only [eq_self, reduceCtorEq] at h))) | refine onx ?_ | refine onb ?_ | refine sreg ?_ | refine qT rfl ?_ | refine qF rfl ?_ | refine scondT rfl ?_ | refine scondF rfl ?_ | refine ocondP rfl (fun h => ?_) (fun h => ?_) | refine ocondB rfl (fun h => ?_) (fun h => ?_) | refine scondP rfl (fun h => ?_) (fun h => ?_) | refine scond rfl (fun h => ?_) (fun h => ?_) | refine oskip ?_ | refine oskipb ?_ | refine oret ?_ | refine sem_ret ?_ | refine sem_seq ?_ | refine sreg1 ?_)
      refine onil (lnext (i + 1) (by omega) (by omega) ?_)
      rw [hs, e1, show [[AV.int .i64 (lowOf t y n)]] = [intCs (lowOf t y n)] from rfl, rowL_snoc, List.length_append]
      (refine Le.drop ?_ rfl (by simp) rfl (by simp only [refM, refO, List.all_cons, List.all_nil, Bool.and_true, Bool.true_and, rowL_all (enc := intCs) (fun _ _ => rfl), hes, refL, refA]; first | done | rfl) ; simp only [List.forall_mem_cons, List.forall_mem_nil, getE, selE, Nat.reduceBEq, List.not_mem_nil, false_implies, implies_true, and_true, true_and, and_self])
      simp [slOf]
    · have hi' : i = l.length := by omega
      subst hi'
      rw [List.take_length] at hL
      subst hL
      (refine sem_exit ?_; change sem _ _ _ _ _)
      repeat' (first | ((first | refine o1 rfl ?_ | refine o0 rfl ?_); intro k hk; simp (disch := omega) only [ev0, sl_cells, simprocAttr]; refine hk _ _ ?_; clear hk k) | refine ono rfl ?_ | ((first | refine osplitG rfl (fun h => ?_) (fun h => ?_) | refine osplitB rfl (fun h => ?_) (fun h => ?_)) <;> (fail_if_success (simp only [eq_self, reduceCtorEq] at h))) | refine onx ?_ | refine onb ?_ | refine sreg ?_ | refine qT rfl ?_ | refine qF rfl ?_ | refine scondT rfl ?_ | refine scondF rfl ?_ | refine ocondP rfl (fun h => ?_) (fun h => ?_) | refine ocondB rfl (fun h => ?_) (fun h => ?_) | refine scondP rfl (fun h => ?_) (fun h => ?_) | refine scond rfl (fun h => ?_) (fun h => ?_) | refine oskip ?_ | refine oskipb ?_ | refine oret ?_ | refine sem_ret ?_ | refine sem_seq ?_ | refine sreg1 ?_)
      generalize hL : l.map (lowOf t y) = L at *
      have hLn : L.length = l.length := by rw [← hL, List.length_map]
      have hcall := (hsf L.length).placed (μ2 := buyM t m es ++ [.row 90 0 1 [[.ptr 1 0 4 0 0]], .row 3 0 1 [[I y]], .row 3 L.length 1 (rowL intCs L)]) (args2 := [.hsl 4 L.length 1 L.length, .fn (.func F.cool_sorted_int_1) [] []]) [4]
        (by simp [placeOK, inO, in_rowI]) (by show [AObj.row 3 L.length 1 ((rowL intCs L).map (renL (backOf [4])))] = _; rw [ren_rowI]) rfl rfl
      refine semL_acall rfl (by exact hcall) fun ae μ hr => ?_
      obtain ⟨_, _, ⟨rfl, rfl⟩, rfl, rfl⟩ := hr
      have hput : putL [4] (buyM t m es ++ [.row 90 0 1 [[.ptr 1 0 4 0 0]], .row 3 0 1 [[I y]], .row 3 L.length 1 (rowL intCs L)]) [.row 3 L.length 1 (rowL intCs (sortD L))] = [.map es, .row 96 0 4 [[slOf CoolHouse.cs t.houses, slOf CoolSite.cs t.sites, I m, .mp 0]], .row 90 0 1 [[.ptr 1 0 4 0 0]], .row 3 0 1 [[I y]], .row 3 L.length 1 (rowL intCs (sortD L))] := by
        show [.map es, .row 96 0 4 [[slOf CoolHouse.cs t.houses, slOf CoolSite.cs t.sites, I m, .mp 0]], .row 90 0 1 [[.ptr 1 0 4 0 0]], .row 3 0 1 [[I y]], AObj.row 3 L.length 1 ((rowL intCs (sortD L)).map (renL (posOf [4] 5)))] = _
        rw [ren_rowI]
      simp only [renEnd, renA, renL]
      rw [hput]
      change semL _ _ _ ⟨(_, _) :: _, _⟩ _
      have hlS : (sortD L).length = L.length := (sortD_perm L).length_eq
      rw [← hlS]
      (refine semL_frzlist (enc := intCs) (l := sortD L) 4 rfl (fun _ => rfl) ?_; simp only [frzE, frzM, frzA, frzL, frzO, frz_sl, List.map_cons, List.map_nil, List.set_cons_zero, List.set_cons_succ, Nat.reduceEqDiff, if_true, if_false, and_self, Nat.reduceLT, Nat.reduceLeDiff, reduceIte, Nat.le_refl, List.length_cons, List.length_nil, Nat.zero_add, Nat.reduceAdd, frz_house, frz_csite])
      rw [hbe.frz]
      repeat' (first | ((first | refine o1 rfl ?_ | refine o0 rfl ?_); intro k hk; simp (disch := omega) only [ev0, sl_cells, simprocAttr]; refine hk _ _ ?_; clear hk k) | refine ono rfl ?_ | ((first | refine osplitG rfl (fun h => ?_) (fun h => ?_) | refine osplitB rfl (fun h => ?_) (fun h => ?_)) <;> (fail_if_success (simp only [eq_self, reduceCtorEq] at h))) | refine onx ?_ | refine onb ?_ | refine sreg ?_ | refine qT rfl ?_ | refine qF rfl ?_ | refine scondT rfl ?_ | refine scondF rfl ?_ | refine ocondP rfl (fun h => ?_) (fun h => ?_) | refine ocondB rfl (fun h => ?_) (fun h => ?_) | refine scondP rfl (fun h => ?_) (fun h => ?_) | refine scond rfl (fun h => ?_) (fun h => ?_) | refine oskip ?_ | refine oskipb ?_ | refine oret ?_ | refine sem_ret ?_ | refine sem_seq ?_ | refine sreg1 ?_)
      exact ⟨_, rfl, rfl, rfl, by simp⟩

theorem bought_colds (t : CoolTown) (ht : t.ok) (m : Nat) (es : ES) (hbe : boolE es) (y : Nat) (hy : y < t.houses.length) (c : Nat) (hc : c < 2 ^ t.sites.length) :
    ACalls K F.cool_bought_colds [.ptr 1 0 4 0 0, I y, I c] (buyM t m es) fun ae ν => ae = .ret (slOf intCs (coldsL t y c)) ∧ ν = buyM t m es := by
  have hc2 : c < 1024 := Nat.lt_of_lt_of_le hc (show 2 ^ t.sites.length ≤ 2 ^ 10 from Nat.pow_le_pow_right (by omega) ht.2.1.2)
  have hes := hbe.ref
  have hso := sorted_int hP hGK t ht m es hbe y hy (listB c) (listB_len c) (fun i hi => by
    obtain ⟨n, rfl, h1, h2⟩ := listB_mem.1 hi
    refine ⟨by omega, ?_⟩
    have : n < t.sites.length := by
      rcases Nat.lt_or_ge n t.sites.length with h | h
      · exact h
      · rw [Nat.testBit_lt_two_pow (Nat.lt_of_lt_of_le hc (Nat.pow_le_pow_right (by omega) h))] at h2
        cases h2
    omega)
  obtain ⟨P, w0, S0, G, hG0⟩ := K
  simp only at hP hGK
  subst hP
  refine ACalls.drop (acalls_of_sem fn_cool_bought_colds (by simp) fun D => ?_) rfl (by simp [refM, refO, refA, refL, hes, slOf])
  unfold c_cool_bought_colds cval enterEnv buyM
  simp only [List.zipIdx_cons, List.zipIdx_nil, List.map_cons, List.map_nil, Nat.zero_add, Nat.reduceAdd, List.cons_append, List.nil_append]
  repeat' (first | ((first | refine o1 rfl ?_ | refine o0 rfl ?_); intro k hk; simp (disch := omega) only [ev0, sl_cells, simprocAttr]; refine hk _ _ ?_; clear hk k) | refine ono rfl ?_ | (apply ocall; (case he => (simp only [ev0, sl_cells, simprocAttr] <;> rfl)); (case hc => first | exact cool_set_list hGK c hc2); (case ht => rfl); (case hg => rfl)) | ((first | refine osplitG rfl (fun h => ?_) (fun h => ?_) | refine osplitB rfl (fun h => ?_) (fun h => ?_)) <;> (fail_if_success (simp only [eq_self, reduceCtorEq] at h))) | refine onx ?_ | refine onb ?_ | refine sreg ?_ | refine qT rfl ?_ | refine qF rfl ?_ | refine scondT rfl ?_ | refine scondF rfl ?_ | refine ocondP rfl (fun h => ?_) (fun h => ?_) | refine ocondB rfl (fun h => ?_) (fun h => ?_) | refine scondP rfl (fun h => ?_) (fun h => ?_) | refine scond rfl (fun h => ?_) (fun h => ?_) | refine oskip ?_ | refine oskipb ?_ | refine oret ?_ | refine sem_ret ?_ | refine sem_seq ?_ | refine sreg1 ?_)
  refine semL_acall rfl (by exact hso) fun ae μ hr => ?_
  obtain ⟨rfl, rfl⟩ := hr
  change semL _ _ _ ⟨(_, _) :: _, _⟩ _
  repeat' (first | ((first | refine o1 rfl ?_ | refine o0 rfl ?_); intro k hk; simp (disch := omega) only [ev0, sl_cells, simprocAttr]; refine hk _ _ ?_; clear hk k) | refine ono rfl ?_ | ((first | refine osplitG rfl (fun h => ?_) (fun h => ?_) | refine osplitB rfl (fun h => ?_) (fun h => ?_)) <;> (fail_if_success (simp only [eq_self, reduceCtorEq] at h))) | refine onx ?_ | refine onb ?_ | refine sreg ?_ | refine qT rfl ?_ | refine qF rfl ?_ | refine scondT rfl ?_ | refine scondF rfl ?_ | refine ocondP rfl (fun h => ?_) (fun h => ?_) | refine ocondB rfl (fun h => ?_) (fun h => ?_) | refine scondP rfl (fun h => ?_) (fun h => ?_) | refine scond rfl (fun h => ?_) (fun h => ?_) | refine oskip ?_ | refine oskipb ?_ | refine oret ?_ | refine sem_ret ?_ | refine sem_seq ?_ | refine sreg1 ?_)
  exact ⟨_, rfl, rfl, rfl, by simp⟩
end Go.Proofs.Ytnempffajbdneaa
