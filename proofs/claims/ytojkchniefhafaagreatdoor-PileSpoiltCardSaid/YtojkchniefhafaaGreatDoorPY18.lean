/- Plain: the theorem of checks. -/
import Derived.Test.YtojkchniefhafaaGreatDoorPY17
set_option linter.unusedVariables false
set_option linter.unusedSimpArgs false
set_option linter.unusedSectionVars false
set_option maxRecDepth 8000
namespace Go.Tk
open Go Go.Av
theorem getD_ge {α : Type} [Inhabited α] {l : List α} {j : Nat} (h : l.length ≤ j) : l.getD j default = default := by
  rw [List.getD_eq_getElem?_getD, List.getElem?_eq_none h]; rfl
theorem dig_ne {x c : UInt8} (hx : isD x = true) (hc : isD c = false) : x ≠ c := fun e => by rw [e, hc] at hx; cases hx
theorem end_inj {s s' : Nat} (hs : s < 997) (hs' : s' < 997) (h : endV s = endV s') : s = s' := by
  have one : ∀ m : Nat, m < 10 → Lib.itoa (m : Int) = [UInt8.ofNat (48 + m)] := fun m hm => by
    rw [itoa_pos, dec_rest]
    unfold restD
    rw [if_pos hm, Nat.mod_eq_of_lt hm]
    rfl
  have inj : ∀ a b : Nat, a < 10 → b < 10 → UInt8.ofNat (48 + a) = UInt8.ofNat (48 + b) → a = b := fun a b ha hb h => by
    have := congrArg UInt8.toNat h
    rw [ofNat_dig ha, ofNat_dig hb] at this
    omega
  unfold endV at h
  rw [one (s / 100) (by omega), one (s / 10 % 10) (by omega), one (s % 10) (by omega), one (s' / 100) (by omega), one (s' / 10 % 10) (by omega), one (s' % 10) (by omega)] at h
  have h2 := List.append_cancel_left h
  simp only [List.cons_append, List.nil_append, List.cons.injEq, and_true, true_and] at h2
  have a1 := inj _ _ (by omega) (by omega) h2.1
  have a2 := inj _ _ (by omega) (by omega) h2.2.1
  have a3 := inj _ _ (by omega) (by omega) h2.2.2
  omega
theorem ls_len {T : Bts} {l : List (List Int)} {p : Nat} (h : validT T l p) : (splitL 10 T).length = l.length + 3 := by
  rw [valid_ls h]; simp [lines_len]
/-- One digit of a level book's text is another one: it is no such text. -/
theorem spoilt {A B : Bts} {x x' : UInt8} (hx : isD x = true) (hx' : isD x' = true) (hne : x ≠ x') {l : List (List Int)} (hb : bookOk l) (hv : validT (A ++ x :: B) l (l.getD 0 default).length) : ∀ l' p', ¬ validT (A ++ x' :: B) l' p' := fun l' p' hv' => by
  obtain ⟨L1, u, v, L2, hL⟩ := split_mid 10 B A
  have s1 := hL x (dig_ne hx (by decide))
  have s2 := hL x' (dig_ne hx' (by decide))
  have n1 := ls_len hv
  have n2 := ls_len hv'
  have n3 : l.length = l'.length := by
    rw [s1] at n1
    rw [s2] at n2
    simp only [List.length_append, List.length_cons] at n1 n2
    omega
  have hk : L1.length < l.length + 3 := by
    rw [s1] at n1
    simp only [List.length_append, List.length_cons] at n1
    omega
  have hother : ∀ j, j ≠ L1.length → (splitL 10 (A ++ x :: B)).getD j default = (splitL 10 (A ++ x' :: B)).getD j default := fun j hj => by
    rw [s1, s2]; exact mid_ne hj
  have hm1 : (splitL 10 (A ++ x :: B)).getD L1.length default = u ++ x :: v := by rw [s1]; exact mid_at
  have hm2 : (splitL 10 (A ++ x' :: B)).getD L1.length default = u ++ x' :: v := by rw [s2]; exact mid_at
  have hdiff : (splitL 10 (A ++ x :: B)).getD L1.length default ≠ (splitL 10 (A ++ x' :: B)).getD L1.length default := by
    rw [hm1, hm2]
    intro q
    have := List.append_cancel_left q
    exact hne (by injection this)
  generalize hk0 : L1.length = k at *
  have Y1 : 1 ≤ l.length := hb.1.1
  -- the lines of both
  have hd1 : (splitL 10 (A ++ x :: B)).getD 0 default = wordsL headW [(l.length : Int), ((l.getD 0 default).length : Int)] := by rw [ls_getD hv (by omega), lines_head]
  have hd2 : (splitL 10 (A ++ x' :: B)).getD 0 default = wordsL headW [(l'.length : Int), (p' : Int)] := by rw [ls_getD hv' (by omega), lines_head]
  have yr1 : ∀ y, y < l.length → (splitL 10 (A ++ x :: B)).getD (y + 1) default = yearV l y := fun y hy => by rw [ls_getD hv (by omega), lines_year _ _ hy]
  have yr2 : ∀ y, y < l.length → (splitL 10 (A ++ x' :: B)).getD (y + 1) default = yearV l' y := fun y hy => by rw [ls_getD hv' (by omega), lines_year _ _ (by omega)]
  have en1 : (splitL 10 (A ++ x :: B)).getD (l.length + 1) default = endV (sumB l) := by rw [ls_getD hv (by omega), lines_end]
  have en2 : (splitL 10 (A ++ x' :: B)).getD (l.length + 1) default = endV (sumB l') := by rw [ls_getD hv' (by omega), n3, lines_end]
  have row_eq : ∀ y, y < l.length → y + 1 ≠ k → l.getD y default = l'.getD y default := fun y hy hyk => by
    have h := hother (y + 1) hyk
    rw [yr1 y hy, yr2 y hy] at h
    unfold yearV at h
    have := words_inj (w := yearW) (by decide) h
    injection this
  have hp : (l.getD 0 default).length = p' := by
    by_cases h0 : k = 0
    · rw [row_eq 0 (by omega) (by omega)]
      exact (hv'.row 0 (by omega)).1
    · have h := hother 0 (Ne.symm h0)
      rw [hd1, hd2] at h
      have := words_inj (w := headW) (by decide) h
      simp only [List.cons.injEq, and_true] at this
      omega
  by_cases h0 : k = 0
  · subst h0
    rw [hd1, hd2, ← n3, hp] at hdiff
    exact hdiff rfl
  · by_cases hky : k ≤ l.length
    · obtain ⟨y, rfl⟩ : ∃ y, k = y + 1 := ⟨k - 1, by omega⟩
      have hy : y < l.length := by omega
      have hsum : sumB l = sumB l' := by
        have h := hother (l.length + 1) (by omega)
        rw [en1, en2] at h
        exact end_inj (sumAll_lt _ _) (sumAll_lt _ _) h
      obtain ⟨W1, a, b, W2, hW⟩ := split_mid 32 v u
      have w1 := hW x (dig_ne hx (by decide))
      have w2 := hW x' (dig_ne hx' (by decide))
      rw [← hm1, yr1 y hy] at w1
      rw [← hm2, yr2 y hy] at w2
      unfold yearV at w1 w2
      rw [words_split (by decide)] at w1 w2
      rw [List.map_cons] at w1 w2
      obtain ⟨r1, r2⟩ := hv.row y hy
      obtain ⟨q1, q2⟩ := hv'.row y (by omega)
      have hlen : (l.getD y default).length = (l'.getD y default).length := by omega
      have wn : ∀ j, j ≠ W1.length → (yearW :: Lib.itoa (y : Int) :: (l.getD y default).map Lib.itoa).getD j default = (yearW :: Lib.itoa (y : Int) :: (l'.getD y default).map Lib.itoa).getD j default := fun j hj => by
        rw [w1, w2]; exact mid_ne hj
      have wm1 : (yearW :: Lib.itoa (y : Int) :: (l.getD y default).map Lib.itoa).getD W1.length default = a ++ x :: b := by rw [w1]; exact mid_at
      have wm2 : (yearW :: Lib.itoa (y : Int) :: (l'.getD y default).map Lib.itoa).getD W1.length default = a ++ x' :: b := by rw [w2]; exact mid_at
      have wlen : W1.length < (l.getD y default).length + 2 := by
        have := congrArg List.length w1
        simp only [List.length_append, List.length_cons, List.length_map] at this
        omega
      have wne : ¬ a ++ x :: b = a ++ x' :: b := fun q => by
        have := List.append_cancel_left q
        exact hne (by injection this)
      have getm : ∀ (r : List Int) i, i < r.length → (yearW :: Lib.itoa (y : Int) :: r.map Lib.itoa).getD (i + 2) default = Lib.itoa (r.getD i default) := fun r i hi => by
        rw [List.getD_cons_succ, List.getD_cons_succ, getD_lt (by simpa using hi), List.getElem_map, getD_lt hi]
      generalize hw0 : W1.length = j at *
      match j, wlen, wm1, wm2, wn with
      | 0, _, e1, e2, _ => exact wne (e1.symm.trans e2)
      | 1, _, e1, e2, _ => exact wne (e1.symm.trans e2)
      | i + 2, wl, e1, e2, wn =>
        have hi : i < (l.getD y default).length := by omega
        rw [getm _ i hi] at e1
        rw [getm _ i (by omega)] at e2
        have hrow : ∀ j, j ≠ i → (l.getD y default).getD j default = (l'.getD y default).getD j default := fun j hj => by
          by_cases hjl : j < (l.getD y default).length
          · have := wn (j + 2) (by omega)
            rw [getm _ j hjl, getm _ j (by omega)] at this
            exact itoa_inj this
          · rw [getD_ge (by omega), getD_ge (by omega)]
        have hl2 : ∀ j, j ≠ y → l.getD j default = l'.getD j default := fun j hj => by
          by_cases hjl : j < l.length
          · exact row_eq j hjl (by omega)
          · rw [getD_ge (by omega), getD_ge (by omega)]
        have hdv := dvd_all (i := i) hl2 hrow hlen hi rfl l.length
        unfold sumB at hsum
        rw [← n3] at hsum
        rw [hsum, if_pos hy] at hdv
        have hnum := num_mid hx hx' e1 e2
        have htl := tail_len hx e1 (r2 _ (mem_getD hi))
        have hi6 : i < 6 := by have := hb.2.1; omega
        have hy10 : y < 10 := by have := hb.1; omega
        have hd : 48 ≤ x.toNat ∧ x.toNat ≤ 57 := of_decide_eq_true hx
        have hd' : 48 ≤ x'.toNat ∧ x'.toNat ≤ 57 := of_decide_eq_true hx'
        have hxx : x.toNat ≠ x'.toNat := fun q => hne (UInt8.toNat_inj.1 q)
        have key : ∀ N : Nat, N < 10 → N ≠ 0 → ((x.toNat : Int) - (x'.toNat : Int) = N ∨ (x.toNat : Int) - (x'.toNat : Int) = -(N : Int)) → False := fun N hN h0 hs => by
          have hpr := prime_997 ⟨N, hN⟩ ⟨b.length, by omega⟩ ⟨i, hi6⟩ ⟨y, hy10⟩ h0
          simp only at hpr
          generalize kN ((l.getD y default).getD i default) = K1 at *
          generalize kN ((l'.getD y default).getD i default) = K2 at *
          generalize hP : 10 ^ b.length = P at *
          have e3 : (((K1 * (i + 1) * (y + 1) : Nat) : Int) - ((K2 * (i + 1) * (y + 1) : Nat) : Int)) = ((K1 : Int) - (K2 : Int)) * (((i + 1) * (y + 1) : Nat) : Int) := by
            push_cast
            rw [Int.sub_mul, Int.mul_assoc, Int.mul_assoc]
          have e4 : ((K1 : Int) - (K2 : Int)) * (((i + 1) * (y + 1) : Nat) : Int) = ((2 * N * P * (i + 1) * (y + 1) : Nat) : Int) ∨ ((K1 : Int) - (K2 : Int)) * (((i + 1) * (y + 1) : Nat) : Int) = -((2 * N * P * (i + 1) * (y + 1) : Nat) : Int) := by
            rcases hs with hs | hs
            · left
              rw [hnum, hs]
              push_cast
              simp only [Int.mul_assoc]
            · right
              rw [hnum, hs]
              push_cast
              simp only [Int.mul_assoc, Int.neg_mul, Int.mul_neg]
          rw [e3] at hdv
          generalize 2 * N * P * (i + 1) * (y + 1) = M at *
          generalize ((K1 : Int) - (K2 : Int)) * (((i + 1) * (y + 1) : Nat) : Int) = Z at *
          generalize sumAll l' l.length = s at *
          rcases e4 with e4 | e4 <;> omega
        by_cases hlt : x'.toNat ≤ x.toNat
        · exact key (x.toNat - x'.toNat) (by omega) (by omega) (.inl (by omega))
        · exact key (x'.toNat - x.toNat) (by omega) (by omega) (.inr (by omega))
    · by_cases hke : k = l.length + 1
      · have hll : l = l' := by
          apply List.ext_getElem n3
          intro j g1 g2
          rw [← getD_lt g1, ← getD_lt g2]
          exact row_eq j g1 (by omega)
        rw [hke, en1, en2, hll] at hdiff
        exact hdiff rfl
      · have hke2 : k = l.length + 2 := by omega
        have hl1 : (splitL 10 (A ++ x :: B)).getD (l.length + 2) default = [] := by
          rw [valid_ls hv, getD_lt (by simp [lines_len]), List.getElem_append_right (by rw [lines_len]; omega)]
          simp [lines_len]
        rw [hke2, hl1] at hm1
        simp at hm1
end Go.Tk
