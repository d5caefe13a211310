/- The functions' table for the evaluator: written by a program of mine (tab). -/
import Derived.Test.YtojkchniefhafaaGreatDoorPZCode
import Derived.Test.YtojkchniefhafaaGreatDoorPZCodea
import Derived.Test.YtojkchniefhafaaGreatDoorPZCodeb
import Derived.Test.YtojkchniefhafaaGreatDoorPZCodec
import Derived.Test.YtojkchniefhafaaGreatDoorPZCoded
import Derived.Test.YtojkchniefhafaaGreatDoorPMo
set_option maxRecDepth 100000
namespace Go.Proofs.YtojkchniefhafaaGreatDoor
open Go Go.Av
def tab : List (Nat × Ent) := [
  (4, ⟨79, c_law02_PileReads, [.tmp 2], false, .plain⟩),
  (6, ⟨104, c_law02_known, [.tmp 0], false, .plain⟩),
  (13, ⟨33, c_pile_Levels, [.tmp 6, .tmp 7], false, .plain⟩),
  (19, ⟨53, c_ref02_SameSpans, [.tmp 4], true, .plain⟩),
  (29, ⟨34, c_ref02_split, [.tmp 4], false, .plain⟩),
  (34, ⟨57, c_pile_site_fault, [.cell 6 true 3], true, .plain⟩),
  (36, ⟨45, c_pile_site_next, [.cell 4 true 13], true, .plain⟩),
  (39, ⟨20, c_pile_site_jack, [.cell 6 true 13], true, .plain⟩),
  (42, ⟨24, c_pile_span, [.tmp 6], true, .plain⟩),
  (45, ⟨9, c_slices_ContainsFunc_int, [.tmp 4], true, .plain⟩),
  (50, ⟨11, c_strings_CutSuffix, [.tmp 4, .tmp 5], false, .plain⟩),
  (55, ⟨17, c_pile_site_given_1, [.tmp 3], true, .plain⟩),
  (58, ⟨15, c_pile_site_planned_1, [.tmp 3], true, .plain⟩),
  (59, ⟨41, c_pile_site_low, [.tmp 6], true, .plain⟩),
  (61, ⟨8, c_slices_Clone_apiSpan, [.tmp 2], false, .plain⟩),
  (75, ⟨23, c_pile_book_head, [], false, .plain⟩),
  (78, ⟨6, c_pile_valid_1, [.tmp 2], true, .plain⟩),
  (84, ⟨19, c_pile_jacked_1, [], false, .plain⟩),
  (91, ⟨48, c_pile_number, [.tmp 2], false, .plain⟩),
  (92, ⟨19, c_slices_IndexFunc_apiPile, [.tmp 4], true, .plain⟩),
  (102, ⟨8, c_strings_TrimPrefix, [.tmp 4], false, .plain⟩),
  (9, ⟨14, .skip, [.cell 2 false 1, .cell 3 false 1], false, (.dfr c_pile_Read)⟩),
  (11, ⟨27, c_ref02_SameRows, [.tmp 4], true, .plain⟩),
  (14, ⟨16, c_law02_Site, [.cell 0 true 6], false, .plain⟩),
  (17, ⟨55, c_pile_Best, [.tmp 4, .tmp 5, .tmp 6], false, .plain⟩),
  (20, ⟨26, c_ref02_Same, [.tmp 4], true, .plain⟩),
  (28, ⟨58, c_ref02_Check, [.tmp 2], false, .plain⟩),
  (32, ⟨19, c_pile_site_planned, [.tmp 4], true, .plain⟩),
  (35, ⟨57, c_pile_Best_1, [.cell 7 true 3], false, .plain⟩),
  (37, ⟨39, c_pile_cheapest_int, [.tmp 4, .tmp 5, .tmp 6], false, .plain⟩),
  (44, ⟨17, c_pile_carries, [.tmp 4], true, .plain⟩),
  (52, ⟨3, c_pile_kinds, [.tmp 0], false, .plain⟩),
  (53, ⟨102, c_pile_valid, [.tmp 2], true, .plain⟩),
  (54, ⟨9, c_slices_ContainsFunc_apiSpan, [.tmp 4], true, .plain⟩),
  (57, ⟨6, c_pile_site_given_1_1, [.tmp 2], true, .plain⟩),
  (62, ⟨4, c_pile_jacked, [.tmp 2], false, .plain⟩),
  (63, ⟨15, c_pile_first, [.tmp 4], true, .plain⟩),
  (64, ⟨9, c_pile_site_fault_1, [.tmp 4], true, .plain⟩),
  (65, ⟨40, c_pile_site_loses, [.tmp 6], true, .plain⟩),
  (71, ⟨19, c_slices_IndexFunc_int_71, [.tmp 4], true, .plain⟩),
  (81, ⟨19, c_slices_IndexFunc_apiSpan, [.tmp 4], true, .plain⟩),
  (83, ⟨56, c_pile_site_row, [.cell 8 true 3, .tmp 9], true, .plain⟩),
  (8, ⟨51, c_ref02_Book, [.tmp 2], false, .plain⟩),
  (18, ⟨91, c_pile_Ready, [.tmp 6, .tmp 7], true, .plain⟩),
  (24, ⟨15, c_ref02_in, [.tmp 6], true, .plain⟩),
  (27, ⟨29, c_ref02_Decimal, [.tmp 2], false, .plain⟩),
  (30, ⟨60, c_ref02_number, [.tmp 2, .tmp 3], false, .plain⟩),
  (33, ⟨82, c_pile_site_levels, [.tmp 4], false, .plain⟩),
  (38, ⟨22, c_pile_Best_1_1, [.tmp 5, .tmp 6], false, .plain⟩),
  (41, ⟨31, c_pile_pile, [.tmp 2], true, .plain⟩),
  (46, ⟨15, c_pile_booked_1, [.tmp 3], false, .plain⟩),
  (48, ⟨6, c_pile_booked_1_1, [.tmp 2], false, .plain⟩),
  (51, ⟨8, c_strings_Split, [.tmp 4], false, .plain⟩),
  (60, ⟨41, c_pile_site_high, [.tmp 6], true, .plain⟩),
  (68, ⟨17, c_pile_site_fault_3, [.tmp 4], true, .plain⟩),
  (69, ⟨48, c_pile_site_fault_4, [.tmp 4], true, .plain⟩),
  (70, ⟨19, c_slices_IndexFunc_int, [.tmp 4], true, .plain⟩),
  (76, ⟨52, c_pile_book_year, [], false, .plain⟩),
  (77, ⟨9, c_slices_ContainsFunc_apiPile, [.tmp 4], true, .plain⟩),
  (79, ⟨9, c_slices_ContainsFunc_apiPilePair, [.tmp 4], true, .plain⟩),
  (80, ⟨25, c_pile_valid_2, [.tmp 3], true, .plain⟩),
  (93, ⟨19, c_slices_IndexFunc_apiPilePair, [.tmp 4], true, .plain⟩),
  (103, ⟨18, c_strconv_Atoi, [.tmp 2, .tmp 3], false, .plain⟩),
  (3, ⟨71, c_law02_PileBooks, [.tmp 2], false, .plain⟩),
  (7, ⟨37, c_pile_Print, [.tmp 2, .tmp 3], false, .plain⟩),
  (10, ⟨56, c_ref02_Print, [.tmp 4], false, .plain⟩),
  (12, ⟨88, c_ref02_Read, [.tmp 2, .tmp 3], false, .plain⟩),
  (15, ⟨17, c_law02_Thaws, [.tmp 2], false, .plain⟩),
  (16, ⟨46, c_pile_Fault, [.cell 6 true 3, .tmp 7], true, .plain⟩),
  (21, ⟨19, c_pile_booked, [.tmp 2], false, .plain⟩),
  (22, ⟨21, c_pile_line, [.tmp 4], false, .plain⟩),
  (23, ⟨58, c_pile_end, [.tmp 2], false, .plain⟩),
  (25, ⟨11, c_pile_Read_1, [], false, (.rcv 5)⟩),
  (26, ⟨84, c_pile_read, [.tmp 2], false, .plain⟩),
  (31, ⟨34, c_pile_site_given, [.tmp 6], true, .plain⟩),
  (40, ⟨22, c_pile_site_cost, [.tmp 4], true, .plain⟩),
  (43, ⟨15, c_pile_in, [.tmp 6], true, .plain⟩),
  (47, ⟨9, c_slices_ContainsFunc_int_47, [.tmp 4], true, .plain⟩),
  (49, ⟨5, c_strconv_Itoa, [.tmp 2], false, .plain⟩),
  (56, ⟨9, c_slices_ContainsFunc_apiSpan_56, [.tmp 4], true, .plain⟩),
  (66, ⟨9, c_pile_site_fault_2, [.tmp 4], true, .plain⟩),
  (67, ⟨39, c_pile_site_fails, [.tmp 6], true, .plain⟩),
  (82, ⟨19, c_slices_IndexFunc_apiSpan_82, [.tmp 4], true, .plain⟩),
  (90, ⟨12, c_pile_amount, [.tmp 2], false, .plain⟩)]
theorem tabOK : ∀ p ∈ tab, EntOK Tryz.prog p.1 p.2 := by
  unfold tab
  simp only [List.forall_mem_cons, List.not_mem_nil, false_implies, implies_true, and_true]
  exact ⟨fn_law02_PileReads, fn_law02_known, fn_pile_Levels, fn_ref02_SameSpans, fn_ref02_split, fn_pile_site_fault, fn_pile_site_next, fn_pile_site_jack, fn_pile_span, fn_slices_ContainsFunc_int, fn_strings_CutSuffix, fn_pile_site_given_1, fn_pile_site_planned_1, fn_pile_site_low, fn_slices_Clone_apiSpan, fn_pile_book_head, fn_pile_valid_1, fn_pile_jacked_1, fn_pile_number, fn_slices_IndexFunc_apiPile, fn_strings_TrimPrefix, fn_pile_Read, fn_ref02_SameRows, fn_law02_Site, fn_pile_Best, fn_ref02_Same, fn_ref02_Check, fn_pile_site_planned, fn_pile_Best_1, fn_pile_cheapest_int, fn_pile_carries, fn_pile_kinds, fn_pile_valid, fn_slices_ContainsFunc_apiSpan, fn_pile_site_given_1_1, fn_pile_jacked, fn_pile_first, fn_pile_site_fault_1, fn_pile_site_loses, fn_slices_IndexFunc_int_71, fn_slices_IndexFunc_apiSpan, fn_pile_site_row, fn_ref02_Book, fn_pile_Ready, fn_ref02_in, fn_ref02_Decimal, fn_ref02_number, fn_pile_site_levels, fn_pile_Best_1_1, fn_pile_pile, fn_pile_booked_1, fn_pile_booked_1_1, fn_strings_Split, fn_pile_site_high, fn_pile_site_fault_3, fn_pile_site_fault_4, fn_slices_IndexFunc_int, fn_pile_book_year, fn_slices_ContainsFunc_apiPile, fn_slices_ContainsFunc_apiPilePair, fn_pile_valid_2, fn_slices_IndexFunc_apiPilePair, fn_strconv_Atoi, fn_law02_PileBooks, fn_pile_Print, fn_ref02_Print, fn_ref02_Read, fn_law02_Thaws, fn_pile_Fault, fn_pile_booked, fn_pile_line, fn_pile_end, fn_pile_Read_1, fn_pile_read, fn_pile_site_given, fn_pile_site_cost, fn_pile_in, fn_slices_ContainsFunc_int_47, fn_strconv_Itoa, fn_slices_ContainsFunc_apiSpan_56, fn_pile_site_fault_2, fn_pile_site_fails, fn_slices_IndexFunc_apiSpan_82, fn_pile_amount⟩
def lookT : List (Nat × Ent) → Nat → Option Ent
  | [], _ => none
  | (k, e) :: r, f => bif Nat.beq k f then some e else lookT r f
theorem lookT_mem : ∀ {l : List (Nat × Ent)} {f : Nat} {e : Ent}, lookT l f = some e → (f, e) ∈ l
  | [], f, e, h => by simp [lookT] at h
  | (k, x) :: r, f, e, h => by
    simp only [lookT] at h
    cases hb : Nat.beq k f with
    | true =>
      rw [hb] at h
      have := Nat.eq_of_beq_eq_true hb
      subst this
      cases h
      exact List.mem_cons_self
    | false =>
      rw [hb] at h
      exact List.mem_cons_of_mem _ (lookT_mem h)
def T (f : Nat) : Option Ent := lookT tab f
theorem kok {G : World → Prop} {X : Nat → List AV → Option AV} (hG : ∀ w w', G w → RowKit.Below w.heap.size w w' → G w') (hX : ∀ f args r, X f args = some r → Holds Tryz.prog G f args r) (K : Ctx) (hP : K.P = Tryz.prog) (hKG : K.G = G) : KOK T X K :=
  ⟨fun f e h => by rw [hP]; exact tabOK _ (lookT_mem h), by rw [hP]; kernel_rfl, by rw [hKG]; exact hG, by rw [hP, hKG]; exact hX⟩
end Go.Proofs.YtojkchniefhafaaGreatDoor
