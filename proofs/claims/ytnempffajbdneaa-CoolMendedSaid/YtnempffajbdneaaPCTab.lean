/- The functions' table for the evaluator: written by a program of mine (tab). -/
import Derived.Test.YtnempffajbdneaaPCCode
import Derived.Test.YtnempffajbdneaaPCCodea
import Derived.Test.YtnempffajbdneaaPCCodeb
import Derived.Test.YtnempffajbdneaaPCCodec
import Derived.Test.YtnempffajbdneaaPCCoded
import Derived.Test.YtnempffajbdneaaPMo
set_option maxRecDepth 100000
namespace Go.Proofs.Ytnempffajbdneaa
open Go Go.Av
def tab : List (Nat × Ent) := [
  (4, ⟨159, c_law03_CoolRivals, [.tmp 6], false, .plain⟩),
  (7, ⟨225, c_law03_CoolMended, [.tmp 8], false, .plain⟩),
  (10, ⟨63, c_law03_CoolPlays, [.tmp 6], false, .plain⟩),
  (14, ⟨87, c_ref03_Town, [.tmp 2], true, .plain⟩),
  (15, ⟨124, c_law03_known, [.tmp 0], false, .plain⟩),
  (23, ⟨12, c_law03_asked, [.tmp 4], true, .plain⟩),
  (46, ⟨18, c_ref03_Cold, [.tmp 2], true, .plain⟩),
  (49, ⟨26, c_cool_valid, [.tmp 2], true, .plain⟩),
  (50, ⟨5, c_cool_failing, [.tmp 2], true, .plain⟩),
  (54, ⟨22, .skip, [.cell 4 false 1, .cell 5 false 1], false, (.dfr c_cool_bought_broken)⟩),
  (55, ⟨31, c_cool_Floor_1, [.tmp 6], false, .plain⟩),
  (56, ⟨11, c_cool_bought_colds, [.tmp 6], false, .plain⟩),
  (58, ⟨45, c_ref03_Sets, [.tmp 4], false, .plain⟩),
  (59, ⟨17, c_ref03_Sites, [.tmp 2], false, .plain⟩),
  (77, ⟨13, c_cool_valid_1, [.tmp 2], true, .plain⟩),
  (81, ⟨9, c_slices_ContainsFunc_apiSpan, [.tmp 4], true, .plain⟩),
  (82, ⟨6, c_cool_valid_2_1, [.tmp 2], true, .plain⟩),
  (83, ⟨10, c_cool_choice_costs, [.tmp 4], false, .plain⟩),
  (84, ⟨12, c_cool_choice_many, [.tmp 4], false, .plain⟩),
  (88, ⟨24, c_cool_sorted_int, [.tmp 4], false, .plain⟩),
  (89, ⟨18, c_cool_bought_colds_1, [.tmp 4], false, .plain⟩),
  (93, ⟨37, c_ref03_Good, [.tmp 6], false, .plain⟩),
  (95, ⟨37, c_cool_set_sets_1_1, [.tmp 9], false, .plain⟩),
  (108, ⟨67, c_slices_breakPatternsCmpFunc_int, [], false, .plain⟩),
  (109, ⟨63, c_slices_choosePivotCmpFunc_int, [.tmp 8, .tmp 9], false, .plain⟩),
  (110, ⟨34, c_slices_reverseRangeCmpFunc_int, [], false, .plain⟩),
  (114, ⟨19, c_math_bits_Len32, [.tmp 2], false, .plain⟩),
  (115, ⟨25, c_math_bits_Len64, [.tmp 2], false, .plain⟩),
  (116, ⟨82, c_slices_siftDownCmpFunc_int, [], false, .plain⟩),
  (120, ⟨41, c_slices_medianCmpFunc_int, [.tmp 12], false, .plain⟩),
  (3, ⟨140, c_law03_CoolBests, [.tmp 4], false, .plain⟩),
  (5, ⟨61, c_law03_CoolAgains, [.tmp 6], false, .plain⟩),
  (12, ⟨216, c_law03_CoolBroken, [.tmp 8], false, .plain⟩),
  (13, ⟨33, c_law03_short, [.tmp 2], true, .plain⟩),
  (17, ⟨50, c_cool_Floor, [.tmp 4, .tmp 5], false, .plain⟩),
  (18, ⟨5, c_ref03_Fails, [.tmp 2], true, .plain⟩),
  (24, ⟨31, c_cool_Keeps, [.tmp 6, .tmp 7], false, .plain⟩),
  (27, ⟨33, c_cool_Again, [.tmp 6, .tmp 7], false, .plain⟩),
  (33, ⟨106, c_ref03_Truth, [.tmp 4], true, .plain⟩),
  (38, ⟨6, c_cool_Check, [.tmp 2], false, .plain⟩),
  (39, ⟨63, c_cool_Break, [.tmp 6, .tmp 7, .tmp 8], false, .plain⟩),
  (43, ⟨145, c_cool_Play, [.tmp 6, .tmp 7], false, .plain⟩),
  (44, ⟨48, c_ref03_Over, [.tmp 6], false, .plain⟩),
  (45, ⟨61, c_ref03_Worst, [.cell 2 true 2], false, .plain⟩),
  (47, ⟨15, c_ref03_in, [.tmp 6], true, .plain⟩),
  (48, ⟨24, c_law03_T, [.cell 0 true 2], false, .plain⟩),
  (57, ⟨17, c_cool_sum, [.tmp 2], false, .plain⟩),
  (60, ⟨18, c_ref03_Keeps, [.tmp 6], false, .plain⟩),
  (62, ⟨28, c_cool_given, [.tmp 6, .tmp 7], false, .plain⟩),
  (63, ⟨41, c_cool_bought_ordered, [.tmp 4], false, .plain⟩),
  (69, ⟨9, c_slices_Contains_int, [.tmp 4], false, .plain⟩),
  (75, ⟨10, c_cool_set_has, [.tmp 4], true, .plain⟩),
  (76, ⟨9, c_slices_ContainsFunc_apiCoolHouse, [.tmp 4], true, .plain⟩),
  (78, ⟨18, c_cool_span, [.tmp 2], true, .plain⟩),
  (80, ⟨28, c_cool_valid_2, [.tmp 3], true, .plain⟩),
  (92, ⟨19, c_slices_Index_int, [.tmp 4], false, .plain⟩),
  (94, ⟨9, c_cool_set_sets_1, [], false, .plain⟩),
  (97, ⟨19, c_slices_IndexFunc_apiCoolSite, [.tmp 4], true, .plain⟩),
  (118, ⟨33, c_slices_xorshift_Next, [.tmp 2], false, .plain⟩),
  (121, ⟨32, c_slices_order2CmpFunc_int, [.tmp 10, .tmp 11], false, .plain⟩),
  (19, ⟨57, c_ref03_Best, [.tmp 4, .tmp 5], false, .plain⟩),
  (22, ⟨25, c_ref03_Cost, [.tmp 4], true, .plain⟩),
  (30, ⟨42, c_cool_Repair, [.tmp 6, .tmp 7], false, .plain⟩),
  (31, ⟨14, c_ref03_Repair, [.tmp 6, .tmp 7], false, .plain⟩),
  (34, ⟨18, c_ref03_Has, [.tmp 4], true, .plain⟩),
  (35, ⟨29, c_ref03_Order, [.tmp 4], true, .plain⟩),
  (37, ⟨8, c_law03_span, [.cell 4 true 2], true, .plain⟩),
  (40, ⟨33, c_cool_Bears, [.tmp 4, .tmp 5], false, .plain⟩),
  (42, ⟨29, c_ref03_Break, [.tmp 6, .tmp 7], false, .plain⟩),
  (51, ⟨17, c_cool_set_list, [.tmp 2], false, .plain⟩),
  (64, ⟨73, c_cool_bought_again, [.tmp 4], false, .plain⟩),
  (65, ⟨16, c_ref03_Level, [.tmp 6], false, .plain⟩),
  (66, ⟨21, c_slices_IsSorted_int, [.tmp 2], false, .plain⟩),
  (67, ⟨36, c_cool_Repair_1, [.tmp 4], false, .plain⟩),
  (68, ⟨29, c_cool_bought_good, [.tmp 4], false, .plain⟩),
  (71, ⟨9, c_cool_set_sets, [.tmp 4], false, .plain⟩),
  (73, ⟨42, c_cool_bits, [.tmp 4, .tmp 5], false, .plain⟩),
  (74, ⟨15, c_cool_in, [.tmp 6], true, .plain⟩),
  (86, ⟨13, c_cool_bought_broken_1, [], false, (.rcv 5)⟩),
  (98, ⟨19, c_slices_IndexFunc_apiSpan, [.tmp 4], true, .plain⟩),
  (100, ⟨36, c_slices_Compare_int, [.tmp 4], false, .plain⟩),
  (104, ⟨148, c_slices_pdqsortCmpFunc_int, [], false, .plain⟩),
  (105, ⟨8, c_math_bits_Len, [.tmp 2], false, .plain⟩),
  (106, ⟨53, c_slices_insertionSortCmpFunc_int, [], false, .plain⟩),
  (107, ⟨60, c_slices_heapSortCmpFunc_int, [], false, .plain⟩),
  (111, ⟨141, c_slices_partialInsertionSortCmpFunc_int, [.tmp 8], false, .plain⟩),
  (112, ⟨90, c_slices_partitionEqualCmpFunc_int, [.tmp 10], false, .plain⟩),
  (113, ⟨178, c_slices_partitionCmpFunc_int, [.tmp 10, .tmp 11], false, .plain⟩),
  (117, ⟨7, c_slices_nextPowerOfTwo, [.tmp 2], false, .plain⟩),
  (6, ⟨97, c_law03_CoolRepairs, [.tmp 6], false, .plain⟩),
  (8, ⟨206, c_law03_CoolMore, [.tmp 12], false, .plain⟩),
  (9, ⟨204, c_law03_CoolKeeps, [.tmp 6], false, .plain⟩),
  (11, ⟨133, c_law03_CoolTrue, [.tmp 10], false, .plain⟩),
  (16, ⟨76, c_cool_Best, [.tmp 4, .tmp 5, .tmp 6], false, .plain⟩),
  (20, ⟨60, c_ref03_Floor, [.tmp 4], false, .plain⟩),
  (21, ⟨26, c_ref03_Same, [.tmp 4], true, .plain⟩),
  (25, ⟨38, c_ref03_Coolers, [.tmp 4], true, .plain⟩),
  (26, ⟨36, c_ref03_Before, [.tmp 4], true, .plain⟩),
  (28, ⟨20, c_law03_repaired, [.tmp 6], true, .plain⟩),
  (29, ⟨57, c_ref03_Again, [.tmp 6], false, .plain⟩),
  (32, ⟨32, c_law03_sized, [.tmp 2], true, .plain⟩),
  (36, ⟨28, c_ref03_Without, [.tmp 4], false, .plain⟩),
  (41, ⟨18, c_ref03_Bears, [.tmp 4], false, .plain⟩),
  (52, ⟨26, c_cool_choice_before, [.tmp 4], false, .plain⟩),
  (53, ⟨10, c_cool_buy, [.tmp 4], false, .plain⟩),
  (61, ⟨47, c_ref03_Breaks, [.tmp 8, .tmp 9], false, .plain⟩),
  (70, ⟨52, c_ref03_orders, [.tmp 8, .tmp 9], false, .plain⟩),
  (72, ⟨52, c_cool_bought_level, [.tmp 4], false, .plain⟩),
  (79, ⟨9, c_slices_ContainsFunc_apiCoolSite, [.tmp 4], true, .plain⟩),
  (85, ⟨10, c_cool_choice_order, [.tmp 4], false, .plain⟩),
  (87, ⟨19, c_cool_bought_must, [], false, .plain⟩),
  (90, ⟨27, c_cool_bought_again_1, [], false, .plain⟩),
  (91, ⟨17, c_cmp_Less_int, [.tmp 4], false, .plain⟩),
  (96, ⟨19, c_slices_IndexFunc_apiCoolHouse, [.tmp 4], true, .plain⟩),
  (99, ⟨20, c_cmp_Compare_int, [.tmp 4], false, .plain⟩),
  (101, ⟨14, c_slices_SortFunc_int, [], false, .plain⟩),
  (102, ⟨8, c_cool_sorted_int_1, [.tmp 4], false, .plain⟩),
  (103, ⟨6, c_cmp_isNaN_int, [.tmp 2], false, .plain⟩),
  (119, ⟨18, c_slices_medianAdjacentCmpFunc_int, [.tmp 8], false, .plain⟩)]
theorem tabOK : ∀ p ∈ tab, EntOK Try.prog p.1 p.2 := by
  unfold tab
  simp only [List.forall_mem_cons, List.not_mem_nil, false_implies, implies_true, and_true]
  exact ⟨fn_law03_CoolRivals, fn_law03_CoolMended, fn_law03_CoolPlays, fn_ref03_Town, fn_law03_known, fn_law03_asked, fn_ref03_Cold, fn_cool_valid, fn_cool_failing, fn_cool_bought_broken, fn_cool_Floor_1, fn_cool_bought_colds, fn_ref03_Sets, fn_ref03_Sites, fn_cool_valid_1, fn_slices_ContainsFunc_apiSpan, fn_cool_valid_2_1, fn_cool_choice_costs, fn_cool_choice_many, fn_cool_sorted_int, fn_cool_bought_colds_1, fn_ref03_Good, fn_cool_set_sets_1_1, fn_slices_breakPatternsCmpFunc_int, fn_slices_choosePivotCmpFunc_int, fn_slices_reverseRangeCmpFunc_int, fn_math_bits_Len32, fn_math_bits_Len64, fn_slices_siftDownCmpFunc_int, fn_slices_medianCmpFunc_int, fn_law03_CoolBests, fn_law03_CoolAgains, fn_law03_CoolBroken, fn_law03_short, fn_cool_Floor, fn_ref03_Fails, fn_cool_Keeps, fn_cool_Again, fn_ref03_Truth, fn_cool_Check, fn_cool_Break, fn_cool_Play, fn_ref03_Over, fn_ref03_Worst, fn_ref03_in, fn_law03_T, fn_cool_sum, fn_ref03_Keeps, fn_cool_given, fn_cool_bought_ordered, fn_slices_Contains_int, fn_cool_set_has, fn_slices_ContainsFunc_apiCoolHouse, fn_cool_span, fn_cool_valid_2, fn_slices_Index_int, fn_cool_set_sets_1, fn_slices_IndexFunc_apiCoolSite, fn_slices_xorshift_Next, fn_slices_order2CmpFunc_int, fn_ref03_Best, fn_ref03_Cost, fn_cool_Repair, fn_ref03_Repair, fn_ref03_Has, fn_ref03_Order, fn_law03_span, fn_cool_Bears, fn_ref03_Break, fn_cool_set_list, fn_cool_bought_again, fn_ref03_Level, fn_slices_IsSorted_int, fn_cool_Repair_1, fn_cool_bought_good, fn_cool_set_sets, fn_cool_bits, fn_cool_in, fn_cool_bought_broken_1, fn_slices_IndexFunc_apiSpan, fn_slices_Compare_int, fn_slices_pdqsortCmpFunc_int, fn_math_bits_Len, fn_slices_insertionSortCmpFunc_int, fn_slices_heapSortCmpFunc_int, fn_slices_partialInsertionSortCmpFunc_int, fn_slices_partitionEqualCmpFunc_int, fn_slices_partitionCmpFunc_int, fn_slices_nextPowerOfTwo, fn_law03_CoolRepairs, fn_law03_CoolMore, fn_law03_CoolKeeps, fn_law03_CoolTrue, fn_cool_Best, fn_ref03_Floor, fn_ref03_Same, fn_ref03_Coolers, fn_ref03_Before, fn_law03_repaired, fn_ref03_Again, fn_law03_sized, fn_ref03_Without, fn_ref03_Bears, fn_cool_choice_before, fn_cool_buy, fn_ref03_Breaks, fn_ref03_orders, fn_cool_bought_level, fn_slices_ContainsFunc_apiCoolSite, fn_cool_choice_order, fn_cool_bought_must, fn_cool_bought_again_1, fn_cmp_Less_int, fn_slices_IndexFunc_apiCoolHouse, fn_cmp_Compare_int, fn_slices_SortFunc_int, fn_cool_sorted_int_1, fn_cmp_isNaN_int, fn_slices_medianAdjacentCmpFunc_int⟩
def lookT : List (Nat × Ent) → Nat → Option Ent
  | [], _ => none
  | (k, e) :: r, f => bif Nat.beq k f then some e else lookT r f
theorem lookT_mem : ∀ {l : List (Nat × Ent)} {f : Nat} {e : Ent}, lookT l f = some e → (f, e) ∈ l
  | [], f, e, h => by simp [lookT] at h
  | (k, x) :: r, f, e, h => by
    simp only [lookT] at h
    cases hb : Nat.beq k f with
    | true =>
      rw [hb] at h
      have := Nat.eq_of_beq_eq_true hb
      subst this
      cases h
      exact List.mem_cons_self
    | false =>
      rw [hb] at h
      exact List.mem_cons_of_mem _ (lookT_mem h)
def T (f : Nat) : Option Ent := lookT tab f
theorem kok {G : World → Prop} {X : Nat → List AV → Option AV} (hG : ∀ w w', G w → RowKit.Below w.heap.size w w' → G w') (hX : ∀ f args r, X f args = some r → Holds Try.prog G f args r) (K : Ctx) (hP : K.P = Try.prog) (hKG : K.G = G) : KOK T X K :=
  ⟨fun f e h => by rw [hP]; exact tabOK _ (lookT_mem h), by rw [hP]; kernel_rfl, by rw [hKG]; exact hG, by rw [hP, hKG]; exact hX⟩
end Go.Proofs.Ytnempffajbdneaa
