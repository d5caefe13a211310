/- The break of coolers. -/
import Derived.Test.YtnempffajbdneaaPC32
set_option linter.unusedVariables false
set_option linter.unusedSimpArgs false
set_option maxRecDepth 8000
set_option maxHeartbeats 4000000
namespace Go.Av
section rules
variable {K : Ctx} {μ : List AObj}
theorem any_eff1Q {F : Fcx} {Q : AExit → St → Prop} {l la lb lc : List SOper} {pre : List (List Nat)} {env : List (Nat × AV)} {ν1 ν2 : List AObj} (m p i0 k0 : Nat) {d0 e0 f : Nat} {c0 x v : AV} {y : SX} {args : List AV} (hok : winOK l pre 0 m = true) (he : eff1OK l pre m p i0 k0 = true)
    (hb0 : opAt l i0 = ⟨some d0, none, .box e0 (.c c0)⟩) (hc0 : leafC c0 = true) (hk0 : opAt l k0 = ⟨none, none, .store 1 (.t d0) y⟩)
    (hla : (fake1 l p i0 k0 x (.ptr μ.length 1 1 0 0)).take p = la) (hlb : ((fake1 l p i0 k0 x (.ptr μ.length 1 1 0 0)).take k0).drop p = lb) (hlc : ((fake1 l p i0 k0 x (.ptr μ.length 1 1 0 0)).take m).drop k0 = lc)
    {env' envp envk : List (Nat × AV)} {xa xb xc : List AV} (ha1 : QRun K μ la env none xa envp) (hb1 : qval lb envp μ = some (xb, envk)) (hc1 : qval lc envk μ = some (xc, env'))
    (hcl : callee (opAt l p).op envp = some (f, args)) (hl1 : ν1.length = μ.length)
    (hc : ∀ o, o = .row e0 0 1 [] ∨ o = .row e0 1 1 [[c0]] → ACalls K f args (μ ++ [o]) fun ae ν => ae = .ret x ∧ ν = ν1 ++ [o] ++ ν2)
    (hv : evX envk y = v) (hz1 : cellsOf v = [v]) (hz2 : okCell (ν1 ++ [.row e0 1 1 [[c0]]] ++ ν2) v = true) (hdk : getE envk d0 = .ptr μ.length 1 1 0 0)
    (h : AnyC K F Q l pre m ⟨env', ν1 ++ [.row e0 1 1 [[v]]] ++ ν2⟩) : AnyC K F Q l pre 0 ⟨env, μ⟩ := by
  subst hla hlb hlc hv
  exact any_eff1 m p i0 k0 hok he hb0 hc0 hk0 ha1 (qval_sound hb1) (qval_sound hc1) hcl hl1 hc hz1 hz2 hdk h
theorem qcall {s : SOper} {d f : Nat} {args : List SX} {env : List (Nat × AV)} {x : AV} (hs : s = ⟨some d, none, .call f args⟩) (hc : Holds K.P K.G f (args.map (evX env)) x) (ht : treeL (args.map (evX env)) = true) : QRun K μ [s] env none [x] ((d, x) :: env) := by
  subst hs
  exact .op (.inr (.inr ⟨rfl, f, args, rfl, fun es => ACalls.of_holds hc ht⟩)) .nil
end rules
end Go.Av
namespace Go.Tk
open Go Go.Av
def badW (t : CoolTown) (m y : Nat) (w : Nat) : Bool := !levM t y 0 (diffN m w)
def brkW (t : CoolTown) (b : List Int) (f y : Nat) : Option Nat := (List.range (f + 1)).findSome? fun k => firstW (badW t (setB b) y) 0 (setsL b k)
/-- The memory of a search for a break. -/
abbrev bM (t : CoolTown) (m : Nat) (es : ES) (y out : Nat) : List AObj := [.row 25 0 2 [t.cs], .row 90 1 1 [[.ptr 5 0 4 0 0]], .row 25 0 2 [t.cs], .row 25 0 2 [t.cs], .map es, .row 96 0 4 [[slOf CoolHouse.cs t.houses, slOf CoolSite.cs t.sites, I m, .mp 4]], .row 3 0 1 [[I y]], .row 86 0 1 [[I out]]]
def breakV (t : CoolTown) (b : List Int) (f : Nat) : AV := match brk t f (setB b) t.houses.length with
  | none => .tup [I 0, .nilsl, I 6]
  | some y => .tup [I y, slOf intCs (listB ((brkW t b f y).getD 0)), I 0]
end Go.Tk
namespace Go.Proofs.Ytnempffajbdneaa
open Go Go.Av Go.Tk
attribute [local irreducible] Holds sem semL ACalls FnIs YCalls levM
abbrev bC : LoopC := ⟨[46], .reg [⟨some 15, none, .mv (.t 46)⟩], c_cool_Break_l1, 63⟩
abbrev bS (l : List Int) : List AObj := [.row 127 0 1 [[.yl 8]], .row 128 0 1 [[.fn (.func F.cool_set_sets_1_1) [] [.ptr 9 0 1 0 0, .tptr [slOf intCs l] 0, .ptr 10 0 1 0 0]]]]
section
variable {K : Ctx} (hP : K.P = Try.prog) (hGK : ∀ w w', K.G w → RowKit.Below w.heap.size w w' → K.G w')
include hP hGK
theorem sets_1 (t : CoolTown) (m : Nat) (es : ES) (y : Nat) (e : List (Nat × AV)) (l : List Int) (hl : l.length ≤ 10) (hlb : ∀ x ∈ l, 0 ≤ x ∧ x < 10) (k : Nat) (hk : k ≤ 100) (J : List AObj → Prop) (E : Nat → List AObj → Prop) (bad : Nat → Bool)
    (hJ : ∀ μ, J μ → (∃ c st e, μ[8]? = some (.loop c st e)) ∧ μ[9]? = some (.row 127 0 1 [[.yl 8]]) ∧ μ[10]? = some (.row 128 0 1 [[.fn (.func F.cool_set_sets_1_1) [] [.ptr 9 0 1 0 0, .tptr [slOf intCs l] 0, .ptr 10 0 1 0 0]]]))
    (hY : ∀ (w : Nat) μ, w < 1024 → J μ → YCalls K 8 [I w] μ fun ae μ' => if bad w = true then ae = .ret (B false) ∧ E w μ' else ae = .ret (B true) ∧ J μ')
    (h0 : J (bM t m es y 0 ++ .loop bC .ready e :: bS l)) :
    ACalls K F.cool_set_sets_1 [.yl 8, .tptr [slOf intCs l] 0, .tptr [I k] 0] (bM t m es y 0 ++ [.loop bC .ready e]) fun ae μ' => (∃ x, ae = .ret x) ∧ match firstW bad 0 (setsL l k) with
      | some w => E w μ'
      | none => J μ' := by
  have hs := search hP hGK l hl hlb 8 9 10 J E bad hJ hY k 0 0 _ hk (Nat.zero_le _) (by omega) h0
  rw [List.drop_zero] at hs
  obtain ⟨P, w0, S0, G, hG0⟩ := K
  simp only at hP hGK
  subst hP
  refine acalls_of_sem fn_cool_set_sets_1 (by simp) fun D => ?_
  unfold c_cool_set_sets_1 cval enterEnv
  simp only [List.zipIdx_cons, List.zipIdx_nil, List.map_cons, List.map_nil, Nat.zero_add, Nat.reduceAdd, bM, List.cons_append, List.nil_append]
  repeat' (first | ((first | refine o1 rfl ?_ | refine o0 rfl ?_); intro k hk; simp (disch := omega) only [ev0, sl_cells, simprocAttr]; refine hk _ _ ?_; clear hk k) | refine ono rfl ?_ | ((first | refine osplitG rfl (fun h => ?_) (fun h => ?_) | refine osplitB rfl (fun h => ?_) (fun h => ?_)) <;> (fail_if_success (simp only [eq_self, reduceCtorEq] at h))) | refine onx ?_ | refine onb ?_ | refine sreg ?_ | refine qT rfl ?_ | refine qF rfl ?_ | refine scondT rfl ?_ | refine scondF rfl ?_ | refine ocondP rfl (fun h => ?_) (fun h => ?_) | refine ocondB rfl (fun h => ?_) (fun h => ?_) | refine scondP rfl (fun h => ?_) (fun h => ?_) | refine scond rfl (fun h => ?_) (fun h => ?_) | refine oskip ?_ | refine oskipb ?_ | refine oret ?_ | refine sem_ret ?_ | refine sem_seq ?_ | refine sreg1 ?_)
  refine semL_dyn rfl rfl (by exact hs) fun ae μ' hae => ?_
  cases hf : firstW bad 0 (setsL l k) with
  | some w =>
    rw [hf] at hae
    obtain ⟨rfl, hE⟩ := hae
    change semL _ _ _ ⟨_, _⟩ _
    exact onil ⟨_, rfl, ⟨_, rfl⟩, hE⟩
  | none =>
    rw [hf] at hae
    obtain ⟨rfl, hE⟩ := hae
    change semL _ _ _ ⟨_, _⟩ _
    exact onil ⟨_, rfl, ⟨_, rfl⟩, hE⟩
end
variable {G : World → Prop} (hG : ∀ w w', G w → RowKit.Below w.heap.size w w' → G w')
include hG
theorem Break_ok (t : CoolTown) (hs : t.short) (b : List Int) (hbl : b.length ≤ 1000) (ok : t.ok) (hc : coolersOk t.sites.length b) (f : Nat) (hf : f ≤ 3) : Holds Try.prog G F.cool_Break [.agg t.cs, slOf intCs b, I f] (breakV t b f) := by
  have hfa := cool_failing hG (f : Int)
  rw [decide_eq_true (show 0 ≤ (f : Int) ∧ (f : Int) ≤ 3 by omega)] at hfa
  have hns := ok.2.1
  have hnh := ok.1
  have hmb := setB_lt hc.mem
  have hp10 : 2 ^ t.sites.length ≤ 2 ^ 10 := Nat.pow_le_pow_right (by omega) ok.2.1.2
  refine holds_of_sem hG fn_cool_Break (by simp) fun w0 S0 hG0 D0 => ?_
  have hgi := (cool_given (K := ⟨Try.prog, w0, S0, G, hG0⟩) rfl hG t hs b hbl true).imp (R' := fun ae ν => ae = .ret (.tup [.ptr 3 0 4 0 0, I 0]) ∧ ν = givM t (setB b)) fun ae ν hr => by rwa [if_pos ⟨ok, rfl, hc⟩] at hr
  have hg2 : ∀ o, o = AObj.row 90 0 1 [] ∨ o = AObj.row 90 1 1 [[.nilp]] → ACalls ⟨Try.prog, w0, S0, G, hG0⟩ F.cool_given [.agg t.cs, slOf intCs b, B true] ([.row 25 0 2 [t.cs]] ++ [o]) fun ae ν => ae = .ret (.tup [.ptr 5 0 4 0 0, I 0]) ∧ ν = [.row 25 0 2 [t.cs]] ++ [o] ++ [.row 25 0 2 [t.cs], .row 25 0 2 [t.cs], .map [], .row 96 0 4 [[slOf CoolHouse.cs t.houses, slOf CoolSite.cs t.sites, I (setB b), .mp 4]]] := fun o ho => by
    rcases ho with rfl | rfl
    · exact hgi.placed1 [] rfl rfl rfl rfl rfl rfl
    · exact hgi.placed1 [] rfl rfl rfl rfl rfl rfl
  have hbr := broken_at (K := ⟨Try.prog, w0, S0, G, hG0⟩) rfl hG t ok (setB b) hmb f (by omega) [] valid_nil (μ2 := [.row 25 0 2 [t.cs], .row 90 1 1 [[.ptr 5 0 4 0 0]], .row 25 0 2 [t.cs], .row 25 0 2 [t.cs], .map [], .row 96 0 4 [[slOf CoolHouse.cs t.houses, slOf CoolSite.cs t.sites, I (setB b), .mp 4]]]) (p := 4) (q := 5) (by omega) rfl rfl
  unfold c_cool_Break cval enterEnv
  simp only [List.zipIdx_cons, List.zipIdx_nil, List.map_cons, List.map_nil, Nat.zero_add, Nat.reduceAdd]
  repeat' (first | ((first | refine o1 rfl ?_ | refine o0 rfl ?_); intro k hk; simp (disch := omega) only [ev0, sl_cells, simprocAttr]; refine hk _ _ ?_; clear hk k) | refine ono rfl ?_ | ((first | refine osplitG rfl (fun h => ?_) (fun h => ?_) | refine osplitB rfl (fun h => ?_) (fun h => ?_)) <;> (fail_if_success (simp only [eq_self, reduceCtorEq] at h))) | refine onx ?_ | refine onb ?_ | refine sreg ?_ | refine qT rfl ?_ | refine qF rfl ?_ | refine scondT rfl ?_ | refine scondF rfl ?_ | refine ocondP rfl (fun h => ?_) (fun h => ?_) | refine ocondB rfl (fun h => ?_) (fun h => ?_) | refine scondP rfl (fun h => ?_) (fun h => ?_) | refine scond rfl (fun h => ?_) (fun h => ?_) | refine oskip ?_ | refine oskipb ?_ | refine oret ?_ | refine sem_ret ?_ | refine sem_seq ?_ | refine sreg1 ?_)
  refine sem_scope ?_
  repeat' (first | ((first | refine o1 rfl ?_ | refine o0 rfl ?_); intro k hk; simp (disch := omega) only [ev0, sl_cells, simprocAttr]; refine hk _ _ ?_; clear hk k) | refine ono rfl ?_ | ((first | refine osplitG rfl (fun h => ?_) (fun h => ?_) | refine osplitB rfl (fun h => ?_) (fun h => ?_)) <;> (fail_if_success (simp only [eq_self, reduceCtorEq] at h))) | refine onx ?_ | refine onb ?_ | refine sreg ?_ | refine qT rfl ?_ | refine qF rfl ?_ | refine scondT rfl ?_ | refine scondF rfl ?_ | refine ocondP rfl (fun h => ?_) (fun h => ?_) | refine ocondB rfl (fun h => ?_) (fun h => ?_) | refine scondP rfl (fun h => ?_) (fun h => ?_) | refine scond rfl (fun h => ?_) (fun h => ?_) | refine oskip ?_ | refine oskipb ?_ | refine oret ?_ | refine sem_ret ?_ | refine sem_seq ?_ | refine sreg1 ?_)
  refine any_start hmix ?_
  have hq1 : qval [⟨some 17, none, .load true 2 (.t 3)⟩, ⟨some 18, none, .mv (.t 1)⟩, ⟨some 19, none, .mv (.t 2)⟩] [(8, .int .i64 0), (7, .nilsl), (6, .int .i64 0), (3, .ptr 0 0 t.cs.length 0 0), (0, .agg t.cs), (1, slOf intCs b), (2, I f)] [.row 25 0 t.cs.length [t.cs]] = some ([.agg (t.cs.take 2), slOf intCs b, I f], [(19, I f), (18, slOf intCs b), (17, .agg (t.cs.take 2)), (8, .int .i64 0), (7, .nilsl), (6, .int .i64 0), (3, .ptr 0 0 t.cs.length 0 0), (0, .agg t.cs), (1, slOf intCs b), (2, I f)]) := rfl
  have hq2 := (qval_sound (K := ⟨Try.prog, w0, S0, G, hG0⟩) hq1).append (qcall (s := ⟨some 20, none, .call 50 [.t 19]⟩) rfl hfa rfl)
  apply any_eff1Q (m := 11) (p := 4) (i0 := 8) (k0 := 9) (x := .tup [.ptr 5 0 4 0 0, I 0]) (v := .ptr 5 0 4 0 0) (c0 := .nilp) (e0 := 90) (d0 := 9) (y := .t 22) (ν1 := [.row 25 0 2 [t.cs]]) (ν2 := [.row 25 0 2 [t.cs], .row 25 0 2 [t.cs], .map [], .row 96 0 4 [[slOf CoolHouse.cs t.houses, slOf CoolSite.cs t.sites, I (setB b), .mp 4]]]) (hok := by kernel_rfl) (he := by kernel_rfl) (hb0 := rfl) (hc0 := rfl) (hk0 := rfl) (hla := rfl) (hlb := rfl) (hlc := rfl) (ha1 := hq2)
  case hb1 =>
    simp (disch := omega) only [List.take_succ_cons, List.take_zero, List.drop_succ_cons, List.drop_zero, fake1, List.set_cons_succ, List.set_cons_zero, opAt, List.getD_cons_succ, List.getD_cons_zero, qval, pushE, quietK, and_self, if_true, wv, simprocAttr, ev0, sl_cells]
    rfl
  case hc1 =>
    simp (disch := omega) only [List.take_succ_cons, List.take_zero, List.drop_succ_cons, List.drop_zero, fake1, List.set_cons_succ, List.set_cons_zero, opAt, List.getD_cons_succ, List.getD_cons_zero, qval, pushE, quietK, and_self, if_true, wv, simprocAttr, ev0, sl_cells]
    rfl
  case hcl => rfl
  case hl1 => rfl
  case hc => exact hg2
  case hv => rfl
  case hz1 => rfl
  case hz2 => rfl
  case hdk => rfl
  case h =>
    refine any_end 11 rfl ?_
    change sem _ _ _ _ _
    simp only [List.cons_append, List.nil_append]
    repeat' (first | ((first | refine o1 rfl ?_ | refine o0 rfl ?_); intro k hk; simp (disch := omega) only [ev0, sl_cells, simprocAttr]; refine hk _ _ ?_; clear hk k) | refine ono rfl ?_ | ((first | refine osplitG rfl (fun h => ?_) (fun h => ?_) | refine osplitB rfl (fun h => ?_) (fun h => ?_)) <;> (fail_if_success (simp only [eq_self, reduceCtorEq] at h))) | refine onx ?_ | refine onb ?_ | refine sreg ?_ | refine qT rfl ?_ | refine qF rfl ?_ | refine scondT rfl ?_ | refine scondF rfl ?_ | refine ocondP rfl (fun h => ?_) (fun h => ?_) | refine ocondB rfl (fun h => ?_) (fun h => ?_) | refine scondP rfl (fun h => ?_) (fun h => ?_) | refine scond rfl (fun h => ?_) (fun h => ?_) | refine oskip ?_ | refine oskipb ?_ | refine oret ?_ | refine sem_ret ?_ | refine sem_seq ?_ | refine sreg1 ?_)
    refine semL_acall rfl (by exact hbr) fun ae μ hr => ?_
    obtain ⟨es1, ⟨rfl, hv1⟩, rfl⟩ := hr
    unfold breakV
    cases hbk : brk t f (setB b) t.houses.length with
    | none =>
      change semL _ _ _ ⟨(_, .tup [I 0, B false]) :: _, _⟩ _
      simp only [List.set_cons_succ, List.set_cons_zero]
      repeat' (first | ((first | refine o1 rfl ?_ | refine o0 rfl ?_); intro k hk; simp (disch := omega) only [ev0, sl_cells, simprocAttr]; refine hk _ _ ?_; clear hk k) | refine ono rfl ?_ | ((first | refine osplitG rfl (fun h => ?_) (fun h => ?_) | refine osplitB rfl (fun h => ?_) (fun h => ?_)) <;> (fail_if_success (simp only [eq_self, reduceCtorEq] at h))) | refine onx ?_ | refine onb ?_ | refine sreg ?_ | refine qT rfl ?_ | refine qF rfl ?_ | refine scondT rfl ?_ | refine scondF rfl ?_ | refine ocondP rfl (fun h => ?_) (fun h => ?_) | refine ocondB rfl (fun h => ?_) (fun h => ?_) | refine scondP rfl (fun h => ?_) (fun h => ?_) | refine scond rfl (fun h => ?_) (fun h => ?_) | refine oskip ?_ | refine oskipb ?_ | refine oret ?_ | refine sem_ret ?_ | refine sem_seq ?_ | refine sreg1 ?_)
      exact ⟨_, rfl, _, rfl, tree_eq rfl rfl⟩
    | some y =>
      have hy : y < t.houses.length := by
        unfold brk at hbk
        rw [List.find?_range_eq_some] at hbk
        exact List.mem_range.1 hbk.2.1
      change semL _ _ _ ⟨(_, .tup [I y, B true]) :: _, _⟩ _
      simp only [List.set_cons_succ, List.set_cons_zero]
      repeat' (first | ((first | refine o1 rfl ?_ | refine o0 rfl ?_); intro k hk; simp (disch := omega) only [ev0, sl_cells, simprocAttr]; refine hk _ _ ?_; clear hk k) | refine ono rfl ?_ | ((first | refine osplitG rfl (fun h => ?_) (fun h => ?_) | refine osplitB rfl (fun h => ?_) (fun h => ?_)) <;> (fail_if_success (simp only [eq_self, reduceCtorEq] at h))) | refine onx ?_ | refine onb ?_ | refine sreg ?_ | refine qT rfl ?_ | refine qF rfl ?_ | refine scondT rfl ?_ | refine scondF rfl ?_ | refine ocondP rfl (fun h => ?_) (fun h => ?_) | refine ocondB rfl (fun h => ?_) (fun h => ?_) | refine scondP rfl (fun h => ?_) (fun h => ?_) | refine scond rfl (fun h => ?_) (fun h => ?_) | refine oskip ?_ | refine oskipb ?_ | refine oret ?_ | refine sem_ret ?_ | refine sem_seq ?_ | refine sreg1 ?_)
      have hbwd : ∀ k w, k ≤ f → (∀ j, j < k → firstW (badW t (setB b) y) 0 (setsL b j) = none) → firstW (badW t (setB b) y) 0 (setsL b k) = some w → brkW t b f y = some w := fun k w hk h1 h2 => by
        unfold brkW
        rw [List.findSome?_eq_some_iff]
        refine ⟨List.range k, k, (List.range (f - k)).map (k + 1 + ·), ?_, h2, fun j hj => h1 j (List.mem_range.1 hj)⟩
        rw [show f + 1 = k + (1 + (f - k)) by omega, List.range_add, List.range_add]
        simp [Nat.add_assoc]
      have hbwn : (∀ j, j < f + 1 → firstW (badW t (setB b) y) 0 (setsL b j) = none) → brkW t b f y = none := fun h1 => by
        unfold brkW
        rw [List.findSome?_eq_none_iff]
        exact fun j hj => h1 j (List.mem_range.1 hj)
      generalize brkW t b f y = bw at *
      have hset := set_sets hG (setB b) (by omega)
      rw [hc.list ok.2.1.2] at hset
      refine sem_block ?_
      
      refine sem_loop (α := Nat × ES) (fun x => ⟨[(9, .ptr 1 1 1 0 0), (11, .ptr 6 0 1 0 0), (13, .ptr 7 0 1 0 0), (36, I (f + 1)), (37, I x.1)], bM t (setB b) x.2 y 0⟩) (fun x => x.1 ≤ f + 1 ∧ validQ t x.2 ∧ ∀ j, j < x.1 → firstW (badW t (setB b) y) 0 (setsL b j) = none) (fun x => f + 1 - x.1) (0, es1) ⟨Nat.zero_le _, hv1, fun j hj => absurd hj (Nat.not_lt_zero _)⟩ ?_ ?_
      · (refine Le.same ?_; simp only [List.forall_mem_cons, List.forall_mem_nil, getE, selE, Nat.reduceBEq, List.not_mem_nil, false_implies, implies_true, and_true, true_and, and_self])
        simp
      · rintro ⟨k, es⟩ ⟨h1, h2, h3⟩
        simp only at h1 h2 h3
        simp only [bM]
        repeat' (first | ((first | refine o1 rfl ?_ | refine o0 rfl ?_); intro k hk; simp (disch := omega) only [ev0, sl_cells, simprocAttr]; refine hk _ _ ?_; clear hk k) | refine ono rfl ?_ | ((first | refine osplitG rfl (fun h => ?_) (fun h => ?_) | refine osplitB rfl (fun h => ?_) (fun h => ?_)) <;> (fail_if_success (simp only [eq_self, reduceCtorEq] at h))) | refine onx ?_ | refine onb ?_ | refine sreg ?_ | refine qT rfl ?_ | refine qF rfl ?_ | refine scondT rfl ?_ | refine scondF rfl ?_ | refine ocondP rfl (fun h => ?_) (fun h => ?_) | refine ocondB rfl (fun h => ?_) (fun h => ?_) | refine scondP rfl (fun h => ?_) (fun h => ?_) | refine scond rfl (fun h => ?_) (fun h => ?_) | refine oskip ?_ | refine oskipb ?_ | refine oret ?_ | refine sem_ret ?_ | refine sem_seq ?_ | refine sreg1 ?_)
        · have hk : k ≤ f := by omega
          have hsk := hset k
          refine sem_block ?_
          repeat' (first | ((first | refine o1 rfl ?_ | refine o0 rfl ?_); intro k hk; simp (disch := omega) only [ev0, sl_cells, simprocAttr]; refine hk _ _ ?_; clear hk k) | refine ono rfl ?_ | (apply ocall; (case he => (simp only [ev0, sl_cells, simprocAttr] <;> rfl)); (case hc => first | exact hsk); (case ht => rfl); (case hg => rfl)) | ((first | refine osplitG rfl (fun h => ?_) (fun h => ?_) | refine osplitB rfl (fun h => ?_) (fun h => ?_)) <;> (fail_if_success (simp only [eq_self, reduceCtorEq] at h))) | refine onx ?_ | refine onb ?_ | refine sreg ?_ | refine qT rfl ?_ | refine qF rfl ?_ | refine scondT rfl ?_ | refine scondF rfl ?_ | refine ocondP rfl (fun h => ?_) (fun h => ?_) | refine ocondB rfl (fun h => ?_) (fun h => ?_) | refine scondP rfl (fun h => ?_) (fun h => ?_) | refine scond rfl (fun h => ?_) (fun h => ?_) | refine oskip ?_ | refine oskipb ?_ | refine oret ?_ | refine sem_ret ?_ | refine sem_seq ?_ | refine sreg1 ?_)
          refine sem_block ?_
          obtain ⟨J, hJ⟩ : ∃ J : List AObj → Prop, J = fun μ => ∃ es e, validQ t es ∧ getE e 9 = .ptr 1 1 1 0 0 ∧ getE e 11 = .ptr 6 0 1 0 0 ∧ getE e 13 = .ptr 7 0 1 0 0 ∧ μ = bM t (setB b) es y 0 ++ .loop bC .ready e :: bS b := ⟨_, rfl⟩
          obtain ⟨E, hE⟩ : ∃ E : Nat → List AObj → Prop, E = fun w μ => ∃ es e, validQ t es ∧ μ = bM t (setB b) es y w ++ .loop bC (.done (.exit 0)) e :: bS b := ⟨_, rfl⟩
          refine sem_rng rfl rfl (R := fun ae μ' => (∃ x, ae = .ret x) ∧ match firstW (badW t (setB b) y) 0 (setsL b k) with
            | some w => E w μ'
            | none => J μ') (fun hp => sets_1 (K := ⟨Try.prog, w0, S0, G, hG0⟩) rfl hG t (setB b) es y _ b (by rw [← hc.list ok.2.1.2]; exact listB_len _) (fun x hx => by have := hc.mem x hx; omega) k (by omega) J E (badW t (setB b) y) ?_ ?_ ?_) ?_
          · intro μ h
            rw [hJ] at h
            obtain ⟨es', e, -, -, -, -, rfl⟩ := h
            exact ⟨⟨_, _, _, rfl⟩, rfl, rfl⟩
          · intro w μ hw h
            rw [hJ] at h
            obtain ⟨es', e, hv', he1, he2, he3, rfl⟩ := h
            have e2 := andNotN (a := setB b) (b := w) (by omega)
            have e3 := diffN_le (setB b) w (by omega)
            have hlv := fun e => level_at (K := ⟨Try.prog, w0, S0, G, hG0⟩) rfl hG t ok (setB b) es' hv' y hy 0 (by omega) (diffN (setB b) w) (by omega) (μ2 := bM t (setB b) es' y 0 ++ .loop bC .busy e :: bS b) (p := 4) (q := 5) (by omega) rfl rfl
            refine ycalls_of_sem rfl rfl hp fun _ => ?_
            simp only [bindPs, bM, List.cons_append, List.nil_append]
            repeat' (first | ((first | refine o1 rfl ?_ | refine o0 rfl ?_); intro k hk; simp (disch := omega) only [ev0, sl_cells, simprocAttr]; refine hk _ _ ?_; clear hk k) | refine ono rfl ?_ | ((first | refine osplitG rfl (fun h => ?_) (fun h => ?_) | refine osplitB rfl (fun h => ?_) (fun h => ?_)) <;> (fail_if_success (simp only [eq_self, reduceCtorEq] at h))) | refine onx ?_ | refine onb ?_ | refine sreg ?_ | refine qT rfl ?_ | refine qF rfl ?_ | refine scondT rfl ?_ | refine scondF rfl ?_ | refine ocondP rfl (fun h => ?_) (fun h => ?_) | refine ocondB rfl (fun h => ?_) (fun h => ?_) | refine scondP rfl (fun h => ?_) (fun h => ?_) | refine scond rfl (fun h => ?_) (fun h => ?_) | refine oskip ?_ | refine oskipb ?_ | refine oret ?_ | refine sem_ret ?_ | refine sem_seq ?_ | refine sreg1 ?_)
            refine onil ⟨_, _, rfl, ?_⟩
            simp only [List.set_cons_succ, List.set_cons_zero]
            change sem _ _ _ _ _
            unfold c_cool_Break_l1 cval
            refine sem_block ?_
            repeat' (first | ((first | refine o1 rfl ?_ | refine o0 rfl ?_); intro k hk; simp (disch := omega) only [ev0, sl_cells, simprocAttr, he1, he2, he3]; refine hk _ _ ?_; clear hk k) | refine ono rfl ?_ | ((first | refine osplitG rfl (fun h => ?_) (fun h => ?_) | refine osplitB rfl (fun h => ?_) (fun h => ?_)) <;> (fail_if_success (simp only [eq_self, reduceCtorEq] at h))) | refine onx ?_ | refine onb ?_ | refine sreg ?_ | refine qT rfl ?_ | refine qF rfl ?_ | refine scondT rfl ?_ | refine scondF rfl ?_ | refine ocondP rfl (fun h => ?_) (fun h => ?_) | refine ocondB rfl (fun h => ?_) (fun h => ?_) | refine scondP rfl (fun h => ?_) (fun h => ?_) | refine scond rfl (fun h => ?_) (fun h => ?_) | refine oskip ?_ | refine oskipb ?_ | refine oret ?_ | refine sem_ret ?_ | refine sem_seq ?_ | refine sreg1 ?_)
            ((refine sem_mgo 9 hmix (by kernel_rfl) ?_; simp only [nt]); (repeat' (first | ((first | apply mop | apply mop0); (case hg => rfl); (case hq => rfl); intro k hk; simp (disch := omega) only [ev0, sl_cells, simprocAttr, he1, he2, he3, e2]; refine hk _ _ rfl ?_; clear hk k) | (apply mno; (case hg => rfl)) | (apply mbox; (case hx => (simp only [wv, simprocAttr] <;> rfl)); (case hg => rfl); (case hall => rfl); (case hr => rfl); simp only [nm, Nat.reduceAdd]) | (apply mbldS; (case hb => (simp (disch := omega) only [ev0, sl_cells, simprocAttr] <;> rfl)); (case hg => rfl); (case hr => rfl); simp only [nm, Nat.reduceAdd]) | ((first | (apply msto (q := 0); (case hq => rfl)) | (apply msto (q := 1); (case hq => rfl)) | (apply msto (q := 2); (case hq => rfl)) | (apply msto (q := 3); (case hq => rfl))); (case hx => (simp only [wv, simprocAttr] <;> rfl)); (case haddr => (simp only [wv, simprocAttr] <;> rfl)); (case hg => rfl); (case hl1 => rfl); (case hl2 => rfl); (case hok => rfl); (case hr => rfl); simp only [nm, Nat.reduceAdd]) | (apply mnil; simp only [SlotR.fin, ns]) | (refine msplit rfl (fun h => ?_) (fun h => ?_) <;> simp only [h] <;> (try simp only [nb] at h)))) <;> (repeat' (first | ((first | refine o1 rfl ?_ | refine o0 rfl ?_); intro k hk; simp (disch := omega) only [ev0, sl_cells, simprocAttr, he1, he2, he3, e2]; refine hk _ _ ?_; clear hk k) | refine ono rfl ?_ | ((first | refine osplitG rfl (fun h => ?_) (fun h => ?_) | refine osplitB rfl (fun h => ?_) (fun h => ?_)) <;> (fail_if_success (simp only [eq_self, reduceCtorEq] at h))) | refine onx ?_ | refine onb ?_ | refine sreg ?_ | refine qT rfl ?_ | refine qF rfl ?_ | refine scondT rfl ?_ | refine scondF rfl ?_ | refine ocondP rfl (fun h => ?_) (fun h => ?_) | refine ocondB rfl (fun h => ?_) (fun h => ?_) | refine scondP rfl (fun h => ?_) (fun h => ?_) | refine scond rfl (fun h => ?_) (fun h => ?_) | refine oskip ?_ | refine oskipb ?_ | refine oret ?_ | refine sem_ret ?_ | refine sem_seq ?_ | refine sreg1 ?_)))
            refine semL_acall rfl (by exact hlv e) fun ae μ hr => ?_
            obtain ⟨es3, ⟨rfl, hv3⟩, rfl⟩ := hr
            change semL _ _ _ ⟨(_, B (levM t y 0 (diffN (setB b) w))) :: _, _⟩ _
            simp only [List.set_cons_succ, List.set_cons_zero, bM, List.cons_append, List.nil_append]
            have hbad : badW t (setB b) y w = !levM t y 0 (diffN (setB b) w) := rfl
            rw [hbad]
            cases levM t y 0 (diffN (setB b) w) with
            | true =>
              repeat' (first | ((first | refine o1 rfl ?_ | refine o0 rfl ?_); intro k hk; simp (disch := omega) only [ev0, sl_cells, simprocAttr]; refine hk _ _ ?_; clear hk k) | refine ono rfl ?_ | ((first | refine osplitG rfl (fun h => ?_) (fun h => ?_) | refine osplitB rfl (fun h => ?_) (fun h => ?_)) <;> (fail_if_success (simp only [eq_self, reduceCtorEq] at h))) | refine onx ?_ | refine onb ?_ | refine sreg ?_ | refine qT rfl ?_ | refine qF rfl ?_ | refine scondT rfl ?_ | refine scondF rfl ?_ | refine ocondP rfl (fun h => ?_) (fun h => ?_) | refine ocondB rfl (fun h => ?_) (fun h => ?_) | refine scondP rfl (fun h => ?_) (fun h => ?_) | refine scond rfl (fun h => ?_) (fun h => ?_) | refine oskip ?_ | refine oskipb ?_ | refine oret ?_ | refine sem_ret ?_ | refine sem_seq ?_ | refine sreg1 ?_)
              refine sem_skip ?_
              refine ⟨_, _, rfl, ?_⟩
              dsimp only
              rw [if_neg (by simp), hJ]
              exact ⟨rfl, es3, e, hv3, he1, he2, he3, rfl⟩
            | false =>
              repeat' (first | ((first | refine o1 rfl ?_ | refine o0 rfl ?_); intro k hk; simp (disch := omega) only [ev0, sl_cells, simprocAttr, he1, he2, he3]; refine hk _ _ ?_; clear hk k) | refine ono rfl ?_ | ((first | refine osplitG rfl (fun h => ?_) (fun h => ?_) | refine osplitB rfl (fun h => ?_) (fun h => ?_)) <;> (fail_if_success (simp only [eq_self, reduceCtorEq] at h))) | refine onx ?_ | refine onb ?_ | refine sreg ?_ | refine qT rfl ?_ | refine qF rfl ?_ | refine scondT rfl ?_ | refine scondF rfl ?_ | refine ocondP rfl (fun h => ?_) (fun h => ?_) | refine ocondB rfl (fun h => ?_) (fun h => ?_) | refine scondP rfl (fun h => ?_) (fun h => ?_) | refine scond rfl (fun h => ?_) (fun h => ?_) | refine oskip ?_ | refine oskipb ?_ | refine oret ?_ | refine sem_ret ?_ | refine sem_seq ?_ | refine sreg1 ?_)
              refine sem_exit ?_
              refine ⟨_, _, rfl, ?_⟩
              dsimp only
              rw [if_pos (by rfl), hE]
              exact ⟨rfl, es3, e, hv3, rfl⟩
          · rw [hJ]
            exact ⟨es, _, h2, rfl, rfl, rfl, rfl⟩
          · rintro ae μ' ⟨⟨x, rfl⟩, h⟩
            cases hfw : firstW (badW t (setB b) y) 0 (setsL b k) with
            | none =>
              rw [hfw, hJ] at h
              obtain ⟨es', e, hv', -, -, -, rfl⟩ := h
              refine ⟨_, _, _, rfl, ?_⟩
              simp only [List.length_cons, List.length_nil, Nat.reduceAdd, bM, bS, List.cons_append, List.nil_append, List.set_cons_succ, List.set_cons_zero]
              change sem _ _ _ _ _
              repeat' (first | ((first | refine o1 rfl ?_ | refine o0 rfl ?_); intro k hk; simp (disch := omega) only [ev0, sl_cells, simprocAttr]; refine hk _ _ ?_; clear hk k) | refine ono rfl ?_ | ((first | refine osplitG rfl (fun h => ?_) (fun h => ?_) | refine osplitB rfl (fun h => ?_) (fun h => ?_)) <;> (fail_if_success (simp only [eq_self, reduceCtorEq] at h))) | refine onx ?_ | refine onb ?_ | refine sreg ?_ | refine qT rfl ?_ | refine qF rfl ?_ | refine scondT rfl ?_ | refine scondF rfl ?_ | refine ocondP rfl (fun h => ?_) (fun h => ?_) | refine ocondB rfl (fun h => ?_) (fun h => ?_) | refine scondP rfl (fun h => ?_) (fun h => ?_) | refine scond rfl (fun h => ?_) (fun h => ?_) | refine oskip ?_ | refine oskipb ?_ | refine oret ?_ | refine sem_ret ?_ | refine sem_seq ?_ | refine sreg1 ?_)
              refine onil (lnext (k + 1, es') ⟨by simp only; omega, hv', fun j hj => ?_⟩ (by simp only; omega) ?_)
              · have hj' : j < k + 1 := hj
                by_cases e : j = k
                · subst e; exact hfw
                · exact h3 j (by omega)
              · (refine Le.drop ?_ rfl (by simp) rfl (by simp only [refM, refO, List.all_cons, List.all_nil, Bool.and_true, Bool.true_and, CoolTown.cs, slOf, refL, refA, hv'.bools.ref]; first | done | rfl) ; simp only [List.forall_mem_cons, List.forall_mem_nil, getE, selE, Nat.reduceBEq, List.not_mem_nil, false_implies, implies_true, and_true, true_and, and_self])
                simp
            | some w =>
              rw [hfw, hE] at h
              obtain ⟨es', e, hv', rfl⟩ := h
              rw [hbwd k w hk h3 hfw]
              refine ⟨_, _, _, rfl, .inr ⟨0, rfl, ?_⟩⟩
              simp only [List.length_cons, List.length_nil, Nat.reduceAdd, bM, bS, List.cons_append, List.nil_append, List.set_cons_succ, List.set_cons_zero]
              have hw : w < 1024 := by
                unfold firstW at hfw
                obtain ⟨s, hs1, rfl⟩ := List.mem_map.1 (List.mem_of_find?_eq_some hfw)
                have hs2 := (mem_sets.1 hs1).1
                have := setB_lt (n := 10) (l := s) fun x hx => by
                  have := hc.mem x (hs2.subset hx)
                  omega
                rw [Nat.zero_or]; omega
              have hli := cool_set_list hG w hw
              change sem _ _ _ _ _
              refine sem_seq ?_
              ((refine sem_mgo 3 hmix (by kernel_rfl) ?_; simp only [nt]); (repeat' (first | ((first | apply mop | apply mop0); (case hg => rfl); (case hq => rfl); intro k hk; simp (disch := omega) only [ev0, sl_cells, simprocAttr]; refine hk _ _ rfl ?_; clear hk k) | (apply mno; (case hg => rfl)) | (apply mcall; (case he => (simp only [ev0, sl_cells, simprocAttr] <;> rfl)); (case hc => first | exact hli); (case ht => rfl); (case hg => rfl); (case hr => rfl)) | (apply mbox; (case hx => (simp only [wv, simprocAttr] <;> rfl)); (case hg => rfl); (case hall => rfl); (case hr => rfl); simp only [nm, Nat.reduceAdd]) | (apply mbldS; (case hb => (simp (disch := omega) only [ev0, sl_cells, simprocAttr] <;> rfl)); (case hg => rfl); (case hr => rfl); simp only [nm, Nat.reduceAdd]) | ((first | (apply msto (q := 0); (case hq => rfl)) | (apply msto (q := 1); (case hq => rfl)) | (apply msto (q := 2); (case hq => rfl)) | (apply msto (q := 3); (case hq => rfl))); (case hx => (simp only [wv, simprocAttr] <;> rfl)); (case haddr => (simp only [wv, simprocAttr] <;> rfl)); (case hg => rfl); (case hl1 => rfl); (case hl2 => rfl); (case hok => rfl); (case hr => rfl); simp only [nm, Nat.reduceAdd]) | (apply mnil; simp only [SlotR.fin, ns]) | (refine msplit rfl (fun h => ?_) (fun h => ?_) <;> simp only [h] <;> (try simp only [nb] at h)))) <;> (repeat' (first | ((first | refine o1 rfl ?_ | refine o0 rfl ?_); intro k hk; simp (disch := omega) only [ev0, sl_cells, simprocAttr]; refine hk _ _ ?_; clear hk k) | refine ono rfl ?_ | (apply ocall; (case he => (simp only [ev0, sl_cells, simprocAttr] <;> rfl)); (case hc => first | exact hli); (case ht => rfl); (case hg => rfl)) | ((first | refine osplitG rfl (fun h => ?_) (fun h => ?_) | refine osplitB rfl (fun h => ?_) (fun h => ?_)) <;> (fail_if_success (simp only [eq_self, reduceCtorEq] at h))) | refine onx ?_ | refine onb ?_ | refine sreg ?_ | refine qT rfl ?_ | refine qF rfl ?_ | refine scondT rfl ?_ | refine scondF rfl ?_ | refine ocondP rfl (fun h => ?_) (fun h => ?_) | refine ocondB rfl (fun h => ?_) (fun h => ?_) | refine scondP rfl (fun h => ?_) (fun h => ?_) | refine scond rfl (fun h => ?_) (fun h => ?_) | refine oskip ?_ | refine oskipb ?_ | refine oret ?_ | refine sem_ret ?_ | refine sem_seq ?_ | refine sreg1 ?_)))
              exact ⟨_, rfl, _, rfl, tree_eq rfl rfl⟩
        · have hk : k = f + 1 := by omega
          subst hk
          rw [hbwn h3]
          (refine sem_exit ?_; change sem _ _ _ _ _)
          have hli := cool_set_list hG 0 (by omega)
          refine sem_seq ?_
          ((refine sem_mgo 3 hmix (by kernel_rfl) ?_; simp only [nt]); (repeat' (first | ((first | apply mop | apply mop0); (case hg => rfl); (case hq => rfl); intro k hk; simp (disch := omega) only [ev0, sl_cells, simprocAttr]; refine hk _ _ rfl ?_; clear hk k) | (apply mno; (case hg => rfl)) | (apply mcall; (case he => (simp only [ev0, sl_cells, simprocAttr] <;> rfl)); (case hc => first | exact hli); (case ht => rfl); (case hg => rfl); (case hr => rfl)) | (apply mbox; (case hx => (simp only [wv, simprocAttr] <;> rfl)); (case hg => rfl); (case hall => rfl); (case hr => rfl); simp only [nm, Nat.reduceAdd]) | (apply mbldS; (case hb => (simp (disch := omega) only [ev0, sl_cells, simprocAttr] <;> rfl)); (case hg => rfl); (case hr => rfl); simp only [nm, Nat.reduceAdd]) | ((first | (apply msto (q := 0); (case hq => rfl)) | (apply msto (q := 1); (case hq => rfl)) | (apply msto (q := 2); (case hq => rfl)) | (apply msto (q := 3); (case hq => rfl))); (case hx => (simp only [wv, simprocAttr] <;> rfl)); (case haddr => (simp only [wv, simprocAttr] <;> rfl)); (case hg => rfl); (case hl1 => rfl); (case hl2 => rfl); (case hok => rfl); (case hr => rfl); simp only [nm, Nat.reduceAdd]) | (apply mnil; simp only [SlotR.fin, ns]) | (refine msplit rfl (fun h => ?_) (fun h => ?_) <;> simp only [h] <;> (try simp only [nb] at h)))) <;> (repeat' (first | ((first | refine o1 rfl ?_ | refine o0 rfl ?_); intro k hk; simp (disch := omega) only [ev0, sl_cells, simprocAttr]; refine hk _ _ ?_; clear hk k) | refine ono rfl ?_ | (apply ocall; (case he => (simp only [ev0, sl_cells, simprocAttr] <;> rfl)); (case hc => first | exact hli); (case ht => rfl); (case hg => rfl)) | ((first | refine osplitG rfl (fun h => ?_) (fun h => ?_) | refine osplitB rfl (fun h => ?_) (fun h => ?_)) <;> (fail_if_success (simp only [eq_self, reduceCtorEq] at h))) | refine onx ?_ | refine onb ?_ | refine sreg ?_ | refine qT rfl ?_ | refine qF rfl ?_ | refine scondT rfl ?_ | refine scondF rfl ?_ | refine ocondP rfl (fun h => ?_) (fun h => ?_) | refine ocondB rfl (fun h => ?_) (fun h => ?_) | refine scondP rfl (fun h => ?_) (fun h => ?_) | refine scond rfl (fun h => ?_) (fun h => ?_) | refine oskip ?_ | refine oskipb ?_ | refine oret ?_ | refine sem_ret ?_ | refine sem_seq ?_ | refine sreg1 ?_)))
          exact ⟨_, rfl, _, rfl, tree_eq rfl rfl⟩
end Go.Proofs.Ytnempffajbdneaa
