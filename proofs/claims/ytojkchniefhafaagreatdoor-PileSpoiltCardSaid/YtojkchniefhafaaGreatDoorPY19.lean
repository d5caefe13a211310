/- The law PileSpoilt. -/
import Derived.Test.YtojkchniefhafaaGreatDoorPY16
import Derived.Test.YtojkchniefhafaaGreatDoorPY18
import Derived.Test.YtojkchniefhafaaGreatDoorPZS
set_option linter.unusedVariables false
set_option linter.unusedSimpArgs false
set_option linter.unusedSectionVars false
set_option maxRecDepth 8000
set_option maxHeartbeats 4000000
namespace Go.Tk
open Go Go.Av
abbrev u8Cs (b : UInt8) : List AV := [.int .u8 b.toNat]
theorem bytes_row (T : Bts) : ((strB T).data.toList.map fun b => [AV.int .u8 b.toNat]) = rowL u8Cs T := by rw [strB_list]; rfl
theorem bytesA_row : ∀ T : Bts, bytesA (rowL u8Cs T) = some T
  | [] => rfl
  | b :: T => by
    have ih := bytesA_row T
    show (bytesA (rowL u8Cs T)).map (UInt8.ofNat ((b.toNat : Int)).toNat :: ·) = _
    rw [ih, Int.toNat_natCast]
    simp
theorem cBT_row (T : Bts) : cBTA (.hsl 0 0 1 T.length) [.row 5 0 1 (rowL u8Cs T)] = some (.str (strB T)) := by
  have h : srcA 1 (.hsl 0 0 1 T.length) [.row 5 0 1 (rowL u8Cs T)] = some (rowL u8Cs T) := by
    show some ((rowL u8Cs T).take T.length) = _
    rw [List.take_of_length_le (by rw [rowL_len]; exact Nat.le_refl _)]
  unfold cBTA
  rw [h]
  dsimp only
  rw [bytesA_row]
  rfl
theorem row_set (T : Bts) (i : Nat) (c : UInt8) : (rowL u8Cs T).set i [AV.int .u8 c.toNat] = rowL u8Cs (T.set i c) := by
  unfold rowL
  rw [List.map_set]
/-- A byte of a text, set. -/
theorem set_mid {T : Bts} {i : Nat} (hi : i < T.length) (c : UInt8) : T = T.take i ++ T.getD i default :: T.drop (i + 1) ∧ T.set i c = T.take i ++ c :: T.drop (i + 1) := by
  constructor
  · conv => lhs; rw [← List.take_append_drop i T]
    rw [List.drop_eq_getElem_cons hi, getD_lt hi]
  · rw [List.set_eq_take_append_cons_drop, if_pos hi]
end Go.Tk
namespace Go.Proofs.YtojkchniefhafaaGreatDoor
open Go Go.Av Go.Tk
attribute [local irreducible] Holds sem semL ACalls FnIs strB
variable {G : World → Prop} (hG : ∀ w w', G w → RowKit.Below w.heap.size w w' → G w') (hT : ∀ w, G w → GB w)
include hG hT
theorem law02_PileSpoilt (l : List (List Int)) (at' digit : Int) (hll : l.length ≤ 9223372036854775807) (hrl : ∀ row ∈ l, row.length ≤ 9223372036854775807) : Holds Tryz.prog G F.law02_PileSpoilt [slOf intsCs l, I at', I digit] (B true) := by
  have hk := law02_known hG hT
  by_cases h10 : 10 < l.length
  · have h10' : (10 < (l.length : Int)) = True := eq_true (by omega)
    (refine holds_of_sem hG fn_law02_PileSpoilt (by simp) fun w0 S0 hG0 D0 => ?_; unfold c_law02_PileSpoilt cval enterEnv; simp only [List.zipIdx_cons, List.zipIdx_nil, List.map_cons, List.map_nil, Nat.zero_add, Nat.reduceAdd])
    repeat' (first | ((first | refine o1 rfl ?_ | refine o0 rfl ?_); intro k hk; simp (disch := omega) only [ev0, sl_cells, simprocAttr, slOf, h10', decide_true]; refine hk _ _ ?_; clear hk k) | refine ono rfl ?_ | (apply ocall; (case he => (simp only [ev0, sl_cells, simprocAttr] <;> rfl)); (case hc => first | exact hk); (case ht => rfl); (case hg => rfl)) | ((first | refine osplitG rfl (fun h => ?_) (fun h => ?_) | refine osplitB rfl (fun h => ?_) (fun h => ?_)) <;> (fail_if_success (simp only [eq_self, reduceCtorEq] at h))) | refine onx ?_ | refine onb ?_ | refine sreg ?_ | refine qT rfl ?_ | refine qF rfl ?_ | refine scondT rfl ?_ | refine scondF rfl ?_ | refine ocondP rfl (fun h => ?_) (fun h => ?_) | refine ocondB rfl (fun h => ?_) (fun h => ?_) | refine scondP rfl (fun h => ?_) (fun h => ?_) | refine scond rfl (fun h => ?_) (fun h => ?_) | refine oskip ?_ | refine oskipb ?_ | refine oret ?_ | refine sem_ret ?_ | refine sem_seq ?_ | refine sreg1 ?_)
    exact ⟨_, rfl, _, rfl, tree_eq rfl rfl⟩
  · have h10' : (10 < (l.length : Int)) = False := eq_false (by omega)
    have hb := ref02_Book hG l (by omega) hrl
    by_cases hbk : bookOk l
    · rw [decide_eq_true hbk] at hb
      by_cases hd : 0 ≤ digit ∧ digit ≤ 9
      · have hd1 : (digit < 0) = False := eq_false (by omega)
        have hd2 : (9 < digit) = False := eq_false (by omega)
        have hpr := pile_Print_ok hG hT l hbk
        have hv := book_valid hbk
        have hTl := book_len hbk
        generalize hTe : bookB l (l.getD 0 default).length = T at *
        by_cases ha : 0 ≤ at' ∧ at' < T.length
        · obtain ⟨i, rfl⟩ := Int.eq_ofNat_of_zero_le ha.1
          have hi : i < T.length := by omega
          obtain ⟨d, rfl⟩ := Int.eq_ofNat_of_zero_le hd.1
          have ha1 : ((i : Int) < 0) = False := eq_false (by omega)
          have ha2 : ((T.length : Int) ≤ (i : Int)) = False := eq_false (by omega)
          have hix := strB_ix hi
          obtain ⟨hm1, hm2⟩ := set_mid hi (UInt8.ofNat (48 + d))
          generalize hx : T.getD i default = x at *
          have hx256 : x.toNat < 256 := x.toNat_lt
          by_cases hdx : isD x = true
          · have hd' : 48 ≤ x.toNat ∧ x.toNat ≤ 57 := of_decide_eq_true hdx
            have g1 : ((x.toNat : Int) < 48) = False := eq_false (by omega)
            have g2 : (57 < (x.toNat : Int)) = False := eq_false (by omega)
            have g3 : IntKind.u8.wrap ((x.toNat : Int) - 48) = (x.toNat : Int) - 48 := wrap_u8' (by omega)
            have g4 : IntKind.i64.wrap ((x.toNat : Int) - 48) = (x.toNat : Int) - 48 := wrap_i64' (by omega)
            by_cases he : (x.toNat : Int) - 48 = d
            · have he' : ((x.toNat : Int) - 48 = d) = True := eq_true he
              (refine holds_of_sem hG fn_law02_PileSpoilt (by simp) fun w0 S0 hG0 D0 => ?_; unfold c_law02_PileSpoilt cval enterEnv; simp only [List.zipIdx_cons, List.zipIdx_nil, List.map_cons, List.map_nil, Nat.zero_add, Nat.reduceAdd])
              repeat' (first | ((first | refine o1 rfl ?_ | refine o0 rfl ?_); intro k hk; simp (disch := omega) only [ev0, sl_cells, simprocAttr, slOf, h10', hd1, hd2, ha1, ha2, g1, g2, g3, g4, he', hix, strB_size, decide_true, decide_false, Bool.not_true, Bool.not_false, Option.map_some]; refine hk _ _ ?_; clear hk k) | refine ono rfl ?_ | (apply ocall; (case he => (simp only [ev0, sl_cells, simprocAttr] <;> rfl)); (case hc => first | exact hb | exact hpr | exact hk); (case ht => rfl); (case hg => rfl)) | ((first | refine osplitG rfl (fun h => ?_) (fun h => ?_) | refine osplitB rfl (fun h => ?_) (fun h => ?_)) <;> (fail_if_success (simp only [eq_self, reduceCtorEq] at h))) | refine onx ?_ | refine onb ?_ | refine sreg ?_ | refine qT rfl ?_ | refine qF rfl ?_ | refine scondT rfl ?_ | refine scondF rfl ?_ | refine ocondP rfl (fun h => ?_) (fun h => ?_) | refine ocondB rfl (fun h => ?_) (fun h => ?_) | refine scondP rfl (fun h => ?_) (fun h => ?_) | refine scond rfl (fun h => ?_) (fun h => ?_) | refine oskip ?_ | refine oskipb ?_ | refine oret ?_ | refine sem_ret ?_ | refine sem_seq ?_ | refine sreg1 ?_)
              exact ⟨_, rfl, _, rfl, tree_eq rfl rfl⟩
            · have he' : ((x.toNat : Int) - 48 = d) = False := eq_false he
              have hne : x ≠ UInt8.ofNat (48 + d) := fun q => by
                have := congrArg UInt8.toNat q
                rw [ofNat_dig (by omega)] at this
                omega
              have hdd : isD (UInt8.ofNat (48 + d)) = true := by
                unfold isD
                rw [ofNat_dig (by omega)]
                exact decide_eq_true ⟨by omega, by omega⟩
              rw [hm1] at hv
              have hno := spoilt hdx hdd hne hbk hv
              rw [← hm2] at hno
              rw [← hm1] at hv
              have g5 : IntKind.u8.wrap (48 + (d : Int)) = ((UInt8.ofNat (48 + d)).toNat : Int) := by rw [ofNat_dig (by omega), wrap_u8' (by omega)]; omega
              have hbr := bytes_row T
              (refine holds_of_sem hG fn_law02_PileSpoilt (by simp) fun w0 S0 hG0 D0 => ?_; unfold c_law02_PileSpoilt cval enterEnv; simp only [List.zipIdx_cons, List.zipIdx_nil, List.map_cons, List.map_nil, Nat.zero_add, Nat.reduceAdd])
              repeat' (first | ((first | refine o1 rfl ?_ | refine o0 rfl ?_); intro k hk; simp (disch := omega) only [ev0, sl_cells, simprocAttr, slOf, h10', hd1, hd2, ha1, ha2, g1, g2, g3, g4, g5, he', hix, strB_size, decide_true, decide_false, Bool.not_true, Bool.not_false, Option.map_some]; refine hk _ _ ?_; clear hk k) | refine ono rfl ?_ | (apply ocall; (case he => (simp only [ev0, sl_cells, simprocAttr] <;> rfl)); (case hc => first | exact hb | exact hpr); (case ht => rfl); (case hg => rfl)) | ((first | refine osplitG rfl (fun h => ?_) (fun h => ?_) | refine osplitB rfl (fun h => ?_) (fun h => ?_)) <;> (fail_if_success (simp only [eq_self, reduceCtorEq] at h))) | refine onx ?_ | refine onb ?_ | refine sreg ?_ | refine qT rfl ?_ | refine qF rfl ?_ | refine scondT rfl ?_ | refine scondF rfl ?_ | refine ocondP rfl (fun h => ?_) (fun h => ?_) | refine ocondB rfl (fun h => ?_) (fun h => ?_) | refine scondP rfl (fun h => ?_) (fun h => ?_) | refine scond rfl (fun h => ?_) (fun h => ?_) | refine oskip ?_ | refine oskipb ?_ | refine oret ?_ | refine sem_ret ?_ | refine sem_seq ?_ | refine sreg1 ?_)
              refine semL_op rfl (x := .hsl 0 0 1 T.length) (μ := [.row 5 0 1 (rowL u8Cs T)]) (by
                show cTBA 5 (.str (strB T)) [] = _
                unfold cTBA
                dsimp only
                rw [if_pos (by rw [strB_size]; unfold maxLen; omega), hbr, strB_size]
                rfl) ?_
              simp only [St.put]
              have hrg := rowL_get (enc := u8Cs) hi
              rw [hx] at hrg
              have hrl2 : (rowL u8Cs T).length = T.length := rowL_len
              repeat' (first | ((first | refine o1 rfl ?_ | refine o0 rfl ?_); intro k hk; simp (disch := omega) only [ev0, sl_cells, simprocAttr, g5, hrg, hrl2]; refine hk _ _ ?_; clear hk k) | refine ono rfl ?_ | ((first | refine osplitG rfl (fun h => ?_) (fun h => ?_) | refine osplitB rfl (fun h => ?_) (fun h => ?_)) <;> (fail_if_success (simp only [eq_self, reduceCtorEq] at h))) | refine onx ?_ | refine onb ?_ | refine sreg ?_ | refine qT rfl ?_ | refine qF rfl ?_ | refine scondT rfl ?_ | refine scondF rfl ?_ | refine ocondP rfl (fun h => ?_) (fun h => ?_) | refine ocondB rfl (fun h => ?_) (fun h => ?_) | refine scondP rfl (fun h => ?_) (fun h => ?_) | refine scond rfl (fun h => ?_) (fun h => ?_) | refine oskip ?_ | refine oskipb ?_ | refine oret ?_ | refine sem_ret ?_ | refine sem_seq ?_ | refine sreg1 ?_)
              have hlen : (T.set i (UInt8.ofNat (48 + d))).length = T.length := List.length_set ..
              rw [row_set]
              refine semL_op rfl (x := .str (strB (T.set i (UInt8.ofNat (48 + d))))) (μ := [.row 5 0 1 (rowL u8Cs (T.set i (UInt8.ofNat (48 + d))))]) (by
                show withMu _ (cBTA (.hsl 0 0 1 T.length) _) = _
                rw [← hlen, cBT_row]
                rfl) ?_
              simp only [St.put]
              have hrd := ((Read_0 (K := ⟨Tryz.prog, w0, S0, G, hG0⟩) rfl hG hT (T.set i (UInt8.ofNat (48 + d))) (by omega)).imp (R' := fun ae ν => ae = .ret (.tup [.nilsl, I 4]) ∧ ν = []) fun ae ν hr => by
                obtain ⟨x, ⟨hx, rfl⟩, rfl⟩ := hr
                unfold readR at hx
                rw [if_neg (by omega)] at hx
                rcases hx with ⟨l', p', hv', -⟩ | ⟨-, rfl⟩
                · exact absurd hv' (hno _ _)
                · exact ⟨rfl, rfl⟩).beside (R := fun ae => ae = .ret (.tup [.nilsl, I 4])) (fun g ae hr => by rw [hr]; rfl) rfl rfl [.row 5 0 1 (rowL u8Cs (T.set i (UInt8.ofNat (48 + d))))]
              refine semL_acall rfl (by exact hrd) fun ae μ hr => ?_
              obtain ⟨rfl, rfl⟩ := hr
              change semL _ _ _ ⟨(_, .tup [.nilsl, I 4]) :: _, _⟩ _
              repeat' (first | ((first | refine o1 rfl ?_ | refine o0 rfl ?_); intro k hk; simp (disch := omega) only [ev0, sl_cells, simprocAttr]; refine hk _ _ ?_; clear hk k) | refine ono rfl ?_ | (apply ocall; (case he => (simp only [ev0, sl_cells, simprocAttr] <;> rfl)); (case hc => first | exact hk); (case ht => rfl); (case hg => rfl)) | ((first | refine osplitG rfl (fun h => ?_) (fun h => ?_) | refine osplitB rfl (fun h => ?_) (fun h => ?_)) <;> (fail_if_success (simp only [eq_self, reduceCtorEq] at h))) | refine onx ?_ | refine onb ?_ | refine sreg ?_ | refine qT rfl ?_ | refine qF rfl ?_ | refine scondT rfl ?_ | refine scondF rfl ?_ | refine ocondP rfl (fun h => ?_) (fun h => ?_) | refine ocondB rfl (fun h => ?_) (fun h => ?_) | refine scondP rfl (fun h => ?_) (fun h => ?_) | refine scond rfl (fun h => ?_) (fun h => ?_) | refine oskip ?_ | refine oskipb ?_ | refine oret ?_ | refine sem_ret ?_ | refine sem_seq ?_ | refine sreg1 ?_)
              exact ⟨_, rfl, _, rfl, tree_eq rfl rfl⟩
          · have hn : ¬ (48 ≤ x.toNat ∧ x.toNat ≤ 57) := fun q => hdx (decide_eq_true q)
            by_cases g : x.toNat < 48
            · have g1 : ((x.toNat : Int) < 48) = True := eq_true (by omega)
              (refine holds_of_sem hG fn_law02_PileSpoilt (by simp) fun w0 S0 hG0 D0 => ?_; unfold c_law02_PileSpoilt cval enterEnv; simp only [List.zipIdx_cons, List.zipIdx_nil, List.map_cons, List.map_nil, Nat.zero_add, Nat.reduceAdd])
              repeat' (first | ((first | refine o1 rfl ?_ | refine o0 rfl ?_); intro k hk; simp (disch := omega) only [ev0, sl_cells, simprocAttr, slOf, h10', hd1, hd2, ha1, ha2, g1, hix, strB_size, decide_true, decide_false, Bool.not_true, Bool.not_false, Option.map_some]; refine hk _ _ ?_; clear hk k) | refine ono rfl ?_ | (apply ocall; (case he => (simp only [ev0, sl_cells, simprocAttr] <;> rfl)); (case hc => first | exact hb | exact hpr | exact hk); (case ht => rfl); (case hg => rfl)) | ((first | refine osplitG rfl (fun h => ?_) (fun h => ?_) | refine osplitB rfl (fun h => ?_) (fun h => ?_)) <;> (fail_if_success (simp only [eq_self, reduceCtorEq] at h))) | refine onx ?_ | refine onb ?_ | refine sreg ?_ | refine qT rfl ?_ | refine qF rfl ?_ | refine scondT rfl ?_ | refine scondF rfl ?_ | refine ocondP rfl (fun h => ?_) (fun h => ?_) | refine ocondB rfl (fun h => ?_) (fun h => ?_) | refine scondP rfl (fun h => ?_) (fun h => ?_) | refine scond rfl (fun h => ?_) (fun h => ?_) | refine oskip ?_ | refine oskipb ?_ | refine oret ?_ | refine sem_ret ?_ | refine sem_seq ?_ | refine sreg1 ?_)
              exact ⟨_, rfl, _, rfl, tree_eq rfl rfl⟩
            · have g1 : ((x.toNat : Int) < 48) = False := eq_false (by omega)
              have g2 : (57 < (x.toNat : Int)) = True := eq_true (by omega)
              (refine holds_of_sem hG fn_law02_PileSpoilt (by simp) fun w0 S0 hG0 D0 => ?_; unfold c_law02_PileSpoilt cval enterEnv; simp only [List.zipIdx_cons, List.zipIdx_nil, List.map_cons, List.map_nil, Nat.zero_add, Nat.reduceAdd])
              repeat' (first | ((first | refine o1 rfl ?_ | refine o0 rfl ?_); intro k hk; simp (disch := omega) only [ev0, sl_cells, simprocAttr, slOf, h10', hd1, hd2, ha1, ha2, g1, g2, hix, strB_size, decide_true, decide_false, Bool.not_true, Bool.not_false, Option.map_some]; refine hk _ _ ?_; clear hk k) | refine ono rfl ?_ | (apply ocall; (case he => (simp only [ev0, sl_cells, simprocAttr] <;> rfl)); (case hc => first | exact hb | exact hpr | exact hk); (case ht => rfl); (case hg => rfl)) | ((first | refine osplitG rfl (fun h => ?_) (fun h => ?_) | refine osplitB rfl (fun h => ?_) (fun h => ?_)) <;> (fail_if_success (simp only [eq_self, reduceCtorEq] at h))) | refine onx ?_ | refine onb ?_ | refine sreg ?_ | refine qT rfl ?_ | refine qF rfl ?_ | refine scondT rfl ?_ | refine scondF rfl ?_ | refine ocondP rfl (fun h => ?_) (fun h => ?_) | refine ocondB rfl (fun h => ?_) (fun h => ?_) | refine scondP rfl (fun h => ?_) (fun h => ?_) | refine scond rfl (fun h => ?_) (fun h => ?_) | refine oskip ?_ | refine oskipb ?_ | refine oret ?_ | refine sem_ret ?_ | refine sem_seq ?_ | refine sreg1 ?_)
              exact ⟨_, rfl, _, rfl, tree_eq rfl rfl⟩
        · by_cases ha1 : at' < 0
          · have ha1' : (at' < 0) = True := eq_true ha1
            (refine holds_of_sem hG fn_law02_PileSpoilt (by simp) fun w0 S0 hG0 D0 => ?_; unfold c_law02_PileSpoilt cval enterEnv; simp only [List.zipIdx_cons, List.zipIdx_nil, List.map_cons, List.map_nil, Nat.zero_add, Nat.reduceAdd])
            repeat' (first | ((first | refine o1 rfl ?_ | refine o0 rfl ?_); intro k hk; simp (disch := omega) only [ev0, sl_cells, simprocAttr, slOf, h10', hd1, hd2, ha1', strB_size, decide_true, decide_false, Bool.not_true, Bool.not_false]; refine hk _ _ ?_; clear hk k) | refine ono rfl ?_ | (apply ocall; (case he => (simp only [ev0, sl_cells, simprocAttr] <;> rfl)); (case hc => first | exact hb | exact hpr | exact hk); (case ht => rfl); (case hg => rfl)) | ((first | refine osplitG rfl (fun h => ?_) (fun h => ?_) | refine osplitB rfl (fun h => ?_) (fun h => ?_)) <;> (fail_if_success (simp only [eq_self, reduceCtorEq] at h))) | refine onx ?_ | refine onb ?_ | refine sreg ?_ | refine qT rfl ?_ | refine qF rfl ?_ | refine scondT rfl ?_ | refine scondF rfl ?_ | refine ocondP rfl (fun h => ?_) (fun h => ?_) | refine ocondB rfl (fun h => ?_) (fun h => ?_) | refine scondP rfl (fun h => ?_) (fun h => ?_) | refine scond rfl (fun h => ?_) (fun h => ?_) | refine oskip ?_ | refine oskipb ?_ | refine oret ?_ | refine sem_ret ?_ | refine sem_seq ?_ | refine sreg1 ?_)
            exact ⟨_, rfl, _, rfl, tree_eq rfl rfl⟩
          · have ha1' : (at' < 0) = False := eq_false ha1
            have ha2 : ((T.length : Int) ≤ at') = True := eq_true (by omega)
            (refine holds_of_sem hG fn_law02_PileSpoilt (by simp) fun w0 S0 hG0 D0 => ?_; unfold c_law02_PileSpoilt cval enterEnv; simp only [List.zipIdx_cons, List.zipIdx_nil, List.map_cons, List.map_nil, Nat.zero_add, Nat.reduceAdd])
            repeat' (first | ((first | refine o1 rfl ?_ | refine o0 rfl ?_); intro k hk; simp (disch := omega) only [ev0, sl_cells, simprocAttr, slOf, h10', hd1, hd2, ha1', ha2, strB_size, decide_true, decide_false, Bool.not_true, Bool.not_false]; refine hk _ _ ?_; clear hk k) | refine ono rfl ?_ | (apply ocall; (case he => (simp only [ev0, sl_cells, simprocAttr] <;> rfl)); (case hc => first | exact hb | exact hpr | exact hk); (case ht => rfl); (case hg => rfl)) | ((first | refine osplitG rfl (fun h => ?_) (fun h => ?_) | refine osplitB rfl (fun h => ?_) (fun h => ?_)) <;> (fail_if_success (simp only [eq_self, reduceCtorEq] at h))) | refine onx ?_ | refine onb ?_ | refine sreg ?_ | refine qT rfl ?_ | refine qF rfl ?_ | refine scondT rfl ?_ | refine scondF rfl ?_ | refine ocondP rfl (fun h => ?_) (fun h => ?_) | refine ocondB rfl (fun h => ?_) (fun h => ?_) | refine scondP rfl (fun h => ?_) (fun h => ?_) | refine scond rfl (fun h => ?_) (fun h => ?_) | refine oskip ?_ | refine oskipb ?_ | refine oret ?_ | refine sem_ret ?_ | refine sem_seq ?_ | refine sreg1 ?_)
            exact ⟨_, rfl, _, rfl, tree_eq rfl rfl⟩
      · by_cases hd1 : digit < 0
        · have hd1' : (digit < 0) = True := eq_true hd1
          (refine holds_of_sem hG fn_law02_PileSpoilt (by simp) fun w0 S0 hG0 D0 => ?_; unfold c_law02_PileSpoilt cval enterEnv; simp only [List.zipIdx_cons, List.zipIdx_nil, List.map_cons, List.map_nil, Nat.zero_add, Nat.reduceAdd])
          repeat' (first | ((first | refine o1 rfl ?_ | refine o0 rfl ?_); intro k hk; simp (disch := omega) only [ev0, sl_cells, simprocAttr, slOf, h10', hd1', decide_true, decide_false, Bool.not_true, Bool.not_false]; refine hk _ _ ?_; clear hk k) | refine ono rfl ?_ | (apply ocall; (case he => (simp only [ev0, sl_cells, simprocAttr] <;> rfl)); (case hc => first | exact hb | exact hk); (case ht => rfl); (case hg => rfl)) | ((first | refine osplitG rfl (fun h => ?_) (fun h => ?_) | refine osplitB rfl (fun h => ?_) (fun h => ?_)) <;> (fail_if_success (simp only [eq_self, reduceCtorEq] at h))) | refine onx ?_ | refine onb ?_ | refine sreg ?_ | refine qT rfl ?_ | refine qF rfl ?_ | refine scondT rfl ?_ | refine scondF rfl ?_ | refine ocondP rfl (fun h => ?_) (fun h => ?_) | refine ocondB rfl (fun h => ?_) (fun h => ?_) | refine scondP rfl (fun h => ?_) (fun h => ?_) | refine scond rfl (fun h => ?_) (fun h => ?_) | refine oskip ?_ | refine oskipb ?_ | refine oret ?_ | refine sem_ret ?_ | refine sem_seq ?_ | refine sreg1 ?_)
          exact ⟨_, rfl, _, rfl, tree_eq rfl rfl⟩
        · have hd1' : (digit < 0) = False := eq_false hd1
          have hd2 : (9 < digit) = True := eq_true (by omega)
          (refine holds_of_sem hG fn_law02_PileSpoilt (by simp) fun w0 S0 hG0 D0 => ?_; unfold c_law02_PileSpoilt cval enterEnv; simp only [List.zipIdx_cons, List.zipIdx_nil, List.map_cons, List.map_nil, Nat.zero_add, Nat.reduceAdd])
          repeat' (first | ((first | refine o1 rfl ?_ | refine o0 rfl ?_); intro k hk; simp (disch := omega) only [ev0, sl_cells, simprocAttr, slOf, h10', hd1', hd2, decide_true, decide_false, Bool.not_true, Bool.not_false]; refine hk _ _ ?_; clear hk k) | refine ono rfl ?_ | (apply ocall; (case he => (simp only [ev0, sl_cells, simprocAttr] <;> rfl)); (case hc => first | exact hb | exact hk); (case ht => rfl); (case hg => rfl)) | ((first | refine osplitG rfl (fun h => ?_) (fun h => ?_) | refine osplitB rfl (fun h => ?_) (fun h => ?_)) <;> (fail_if_success (simp only [eq_self, reduceCtorEq] at h))) | refine onx ?_ | refine onb ?_ | refine sreg ?_ | refine qT rfl ?_ | refine qF rfl ?_ | refine scondT rfl ?_ | refine scondF rfl ?_ | refine ocondP rfl (fun h => ?_) (fun h => ?_) | refine ocondB rfl (fun h => ?_) (fun h => ?_) | refine scondP rfl (fun h => ?_) (fun h => ?_) | refine scond rfl (fun h => ?_) (fun h => ?_) | refine oskip ?_ | refine oskipb ?_ | refine oret ?_ | refine sem_ret ?_ | refine sem_seq ?_ | refine sreg1 ?_)
          exact ⟨_, rfl, _, rfl, tree_eq rfl rfl⟩
    · rw [decide_eq_false hbk] at hb
      (refine holds_of_sem hG fn_law02_PileSpoilt (by simp) fun w0 S0 hG0 D0 => ?_; unfold c_law02_PileSpoilt cval enterEnv; simp only [List.zipIdx_cons, List.zipIdx_nil, List.map_cons, List.map_nil, Nat.zero_add, Nat.reduceAdd])
      repeat' (first | ((first | refine o1 rfl ?_ | refine o0 rfl ?_); intro k hk; simp (disch := omega) only [ev0, sl_cells, simprocAttr, slOf, h10', decide_true, decide_false, Bool.not_true, Bool.not_false]; refine hk _ _ ?_; clear hk k) | refine ono rfl ?_ | (apply ocall; (case he => (simp only [ev0, sl_cells, simprocAttr] <;> rfl)); (case hc => first | exact hb | exact hk); (case ht => rfl); (case hg => rfl)) | ((first | refine osplitG rfl (fun h => ?_) (fun h => ?_) | refine osplitB rfl (fun h => ?_) (fun h => ?_)) <;> (fail_if_success (simp only [eq_self, reduceCtorEq] at h))) | refine onx ?_ | refine onb ?_ | refine sreg ?_ | refine qT rfl ?_ | refine qF rfl ?_ | refine scondT rfl ?_ | refine scondF rfl ?_ | refine ocondP rfl (fun h => ?_) (fun h => ?_) | refine ocondB rfl (fun h => ?_) (fun h => ?_) | refine scondP rfl (fun h => ?_) (fun h => ?_) | refine scond rfl (fun h => ?_) (fun h => ?_) | refine oskip ?_ | refine oskipb ?_ | refine oret ?_ | refine sem_ret ?_ | refine sem_seq ?_ | refine sreg1 ?_)
      exact ⟨_, rfl, _, rfl, tree_eq rfl rfl⟩
end Go.Proofs.YtojkchniefhafaaGreatDoor
