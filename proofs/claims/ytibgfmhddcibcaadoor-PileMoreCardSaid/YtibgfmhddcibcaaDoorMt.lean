import Derived.Test.YtibgfmhddcibcaaDoorMq
import Derived.Test.YtibgfmhddcibcaaDoorMp
import Derived.Test.YtibgfmhddcibcaaDoorMk
set_option linter.unusedVariables false
set_option linter.unusedSimpArgs false
set_option maxRecDepth 8000
/- Thaws that are known better, or deeper; a jacking more. -/
namespace Go.Tk
open Go Go.Av Go.Proofs.YtibgfmhddcibcaaDoor
theorem len_sl {α : Type} [Inhabited α] (enc : α → List AV) (l : List α) (μ : List AObj) : lenA (slOf enc l) μ = some (.int .i64 l.length) := rfl
def narS (lo hi : Int) (x : Span) : Span := ⟨partI x lo, partI x hi⟩
def deepS (d : Int) (x : Span) : Span := ⟨min 50000 (x.low + d), min 50000 (x.high + d)⟩
def mapRow (f : Span → Span) (l : List Span) : List Span := (List.range l.length).map fun i => f (l.getD i default)
def mapTh (f : Span → Span) (th : List (List Span)) : List (List Span) := (List.range th.length).map fun t => mapRow f (th.getD t default)
section
variable {f : Span → Span} {th : List (List Span)} {s : PileSite} {plan : List Int}
theorem mapTh_len : (mapTh f th).length = th.length := by simp [mapTh]
theorem mapTh_row {t : Nat} (h : t < th.length) : (mapTh f th).getD t default = mapRow f (th.getD t default) := getD_range h
theorem mapRow_len {l : List Span} : (mapRow f l).length = l.length := by simp [mapRow]
theorem mapRow_at {l : List Span} {i : Nat} (h : i < l.length) : (mapRow f l).getD i default = f (l.getD i default) := getD_range h
theorem mapTh_at {t i : Nat} (ht : t < th.length) (hi : i < (th.getD t default).length) : ((mapTh f th).getD t default).getD i default = f ((th.getD t default).getD i default) := by
  rw [mapTh_row ht, mapRow_at hi]
theorem mapTh_short (h : shortP s th) : shortP s (mapTh f th) := by
  refine ⟨fun t ht h20 => ?_, h.2.1, h.2.2.1, h.2.2.2.1, by rw [mapTh_len]; exact h.2.2.2.2⟩
  rw [mapTh_len] at ht
  rw [mapTh_row ht, mapRow_len]
  exact h.1 t ht h20
theorem mapTh_ok (h : thawsOk s th) (hf : ∀ x : Span, x.in 0 50000 → (f x).in 0 50000) : thawsOk s (mapTh f th) := by
  intro l hl
  unfold mapTh at hl
  obtain ⟨t, ht, rfl⟩ := List.mem_map.1 hl
  have ht := List.mem_range.1 ht
  have hr := h (th.getD t default) (by rw [getD_lt ht]; exact List.getElem_mem _)
  refine ⟨by rw [mapRow_len]; exact hr.1, fun x hx => ?_⟩
  unfold mapRow at hx
  obtain ⟨i, hi, rfl⟩ := List.mem_map.1 hx
  have hi := List.mem_range.1 hi
  exact hf _ (hr.2 _ (by rw [getD_lt hi]; exact List.getElem_mem _))
theorem mapTh_planned (h : plannedE s th plan = 0) (ht : thawsOk s (mapTh f th)) : plannedE s (mapTh f th) plan = 0 := by
  obtain ⟨a, b, c, d⟩ := planned_0 h
  have := c.1
  unfold plannedE
  rw [if_neg (by rw [mapTh_len]; omega), if_pos ⟨a, ht, by rw [mapTh_len]; exact c.1, c.2⟩]
end
theorem nar_in {lo hi : Int} (h : 0 ≤ lo ∧ lo ≤ hi ∧ hi ≤ 100) {x : Span} (hx : x.in 0 50000) : (narS lo hi x).in 0 50000 ∧ x.low ≤ (narS lo hi x).low ∧ (narS lo hi x).high ≤ x.high := by
  have hx6 : x.in 0 1000000 := by simp only [Span.in] at *; omega
  have h1 := part_in hx6 (q := lo) (by omega)
  have h2 := part_in hx6 (q := hi) (by omega)
  have h3 : (x.high - x.low) * lo ≤ (x.high - x.low) * hi := Int.mul_le_mul_of_nonneg_left h.2.1 (by simp only [Span.in] at hx; omega)
  have h4 : partI x lo ≤ partI x hi := by
    unfold partI
    generalize (x.high - x.low) * lo = a at *
    generalize (x.high - x.low) * hi = b at *
    omega
  simp only [Span.in, narS] at *
  omega
theorem deep_in {d : Int} (h : 0 ≤ d ∧ d ≤ 50000) {x : Span} (hx : x.in 0 50000) : (deepS d x).in 0 50000 ∧ x.low ≤ (deepS d x).low ∧ x.high ≤ (deepS d x).high := by
  simp only [Span.in, deepS] at *
  omega
theorem car_at {s : PileSite} {th : List (List Span)} {t i : Nat} (ht : t < th.length) (hi : i < s.piles.length) : ((carOf s th).getD t default).getD i default = carS s (th.getD t default) i := by
  rw [show (carOf s th).getD t default = carRow s th t from getD_range ht]
  exact getD_range hi
theorem car_len {s : PileSite} {th : List (List Span)} : (carOf s th).length = th.length := by simp [carOf]
theorem car_rlen {s : PileSite} {th : List (List Span)} {t : Nat} (ht : t < th.length) : ((carOf s th).getD t default).length = s.piles.length := by
  rw [show (carOf s th).getD t default = carRow s th t from getD_range ht]; simp [carRow]
theorem lev_at {s : PileSite} {th : List (List Span)} {plan : List Int} {t i : Nat} (ht : t < plan.length) (hi : i < s.piles.length) : ((levOf s th plan).getD t default).getD i default = sunkS s th (fun y => plan.getD y default) t i := by
  rw [lev_row ht]
  exact getD_range hi
theorem nar_car {s : PileSite} (hs : s.ok) {th : List (List Span)} (ht : thawsOk s th) {lo hi : Int} (h : 0 ≤ lo ∧ lo ≤ hi ∧ hi ≤ 100) {t i : Nat} (htl : t < th.length) (hi' : i < s.piles.length) :
    (((carOf s th).getD t default).getD i default).low ≤ (((carOf s (mapTh (narS lo hi) th)).getD t default).getD i default).low ∧ (((carOf s (mapTh (narS lo hi) th)).getD t default).getD i default).high ≤ (((carOf s th).getD t default).getD i default).high := by
  obtain ⟨hl, hx⟩ := thaw_at ht htl hi'
  obtain ⟨-, h1, h2⟩ := nar_in h hx
  rw [car_at htl hi', car_at (by rw [mapTh_len]; exact htl) hi']
  unfold carS
  rw [mapTh_at htl (by omega)]
  exact ⟨carr_anti (pile_at hs hi') h2, carr_anti (pile_at hs hi') h1⟩
theorem deep_car {s : PileSite} (hs : s.ok) {th : List (List Span)} (ht : thawsOk s th) {d : Int} (h : 0 ≤ d ∧ d ≤ 50000) {t i : Nat} (htl : t < th.length) (hi' : i < s.piles.length) :
    (((carOf s (mapTh (deepS d) th)).getD t default).getD i default).low ≤ (((carOf s th).getD t default).getD i default).low ∧ (((carOf s (mapTh (deepS d) th)).getD t default).getD i default).high ≤ (((carOf s th).getD t default).getD i default).high := by
  obtain ⟨hl, hx⟩ := thaw_at ht htl hi'
  obtain ⟨-, h1, h2⟩ := deep_in h hx
  rw [car_at htl hi', car_at (by rw [mapTh_len]; exact htl) hi']
  unfold carS
  rw [mapTh_at htl (by omega)]
  exact ⟨carr_anti (pile_at hs hi') h2, carr_anti (pile_at hs hi') h1⟩
theorem nar_lev {s : PileSite} (hs : s.ok) {th : List (List Span)} (ht : thawsOk s th) {plan : List Int} (hp : plan.length = th.length) {lo hi : Int} (h : 0 ≤ lo ∧ lo ≤ hi ∧ hi ≤ 100) {t i : Nat} (htl : t < th.length) (hi' : i < s.piles.length) :
    (((levOf s th plan).getD t default).getD i default).low ≤ (((levOf s (mapTh (narS lo hi) th) plan).getD t default).getD i default).low ∧ (((levOf s (mapTh (narS lo hi) th) plan).getD t default).getD i default).high ≤ (((levOf s th plan).getD t default).getD i default).high := by
  have hp' := pile_at hs hi'
  have hpl := hp'.2.2.2.1
  have hb : ∀ z, z < th.length → lowOf s (mapTh (narS lo hi) th) z i ≤ lowOf s th z i ∧ highOf s th z i ≤ highOf s (mapTh (narS lo hi) th) z i := fun z hz => by
    obtain ⟨hl, hx⟩ := thaw_at ht hz hi'
    obtain ⟨-, h1, h2⟩ := nar_in h hx
    unfold lowOf highOf
    rw [mapTh_at hz (by omega)]
    simp only [Span.in] at hpl
    exact ⟨(rowOf_mono hs _ (carr_anti hp' h2) (Int.le_refl _) (by omega)).2.1, (rowOf_mono hs _ (carr_anti hp' h1) (Int.le_refl _) (by omega)).1⟩
  rw [lev_at (by omega) hi', lev_at (by omega) hi']
  have h1 := headAt_mono (st := lowOf s th) (st' := lowOf s (mapTh (narS lo hi) th)) (pl := fun y => plan.getD y default) (k := i) t (fun z hz => (hb z (by omega)).1)
  have h2 := headAt_mono (st := highOf s (mapTh (narS lo hi) th)) (st' := highOf s th) (pl := fun y => plan.getD y default) (k := i) t (fun z hz => (hb z (by omega)).2)
  have h3 := hb t htl
  unfold sunkS
  dsimp only
  omega
theorem headAt_more {st : Nat → Nat → Int} {pl pl' : Nat → Int} {k m : Nat} (hst : ∀ y k, y < m → 0 ≤ st y k ∧ st y k ≤ 1000) (h : ∀ y, y < m → hasBit (pl y) k = true → hasBit (pl' y) k = true) : ∀ y, y ≤ m → headAt st pl y k ≤ headAt st pl' y k
  | 0, _ => Int.le_refl _
  | y + 1, hy => by
    have h1 := headAt_more hst h y (by omega)
    have h2 := hst y k (by omega)
    have h3 := headAt_bound (pl := pl) hst y k (by omega)
    simp only [headAt]
    cases hb : hasBit (pl y) k with
    | true => rw [h y (by omega) hb]; simp
    | false =>
      cases hb' : hasBit (pl' y) k with
      | true => simp; omega
      | false => simp; omega
def moreOf (plan : List Int) (y a : Nat) : List Int := (List.range plan.length).map fun k => if k = y then plan.getD y default + 2 ^ a else plan.getD k default
theorem bits_more : ∀ n : Fin 7, ∀ b : Fin 64, ∀ a : Fin 6, b.val < 2 ^ n.val → a.val < n.val → hasBit b.val a.val = false → ((b.val : Int) + 2 ^ a.val ≤ 2 ^ n.val - 1 ∧ ∀ j : Fin 6, hasBit b.val j.val = true → hasBit ((b.val : Int) + 2 ^ a.val) j.val = true) := by decide +kernel
theorem bit_more {n a : Nat} {b : Int} (hn : n ≤ 6) (hb : 0 ≤ b ∧ b ≤ 2 ^ n - 1) (ha : a < n) (h : hasBit b a = false) : b + 2 ^ a ≤ 2 ^ n - 1 ∧ ∀ j, j < 6 → hasBit b j = true → hasBit (b + 2 ^ a) j = true := by
  have pow : ∀ i : Nat, i ≤ 6 → (2 : Int) ^ i ≤ 64 := by decide
  have hp := pow n hn
  obtain ⟨c, rfl⟩ : ∃ c : Nat, b = c := ⟨b.toNat, by omega⟩
  have hc : c < 2 ^ n := by
    have : (c : Int) < ((2 ^ n : Nat) : Int) := by rw [Int.natCast_pow]; exact Int.lt_of_le_sub_one hb.2
    exact_mod_cast this
  have h2 := bits_more ⟨n, by omega⟩ ⟨c, by omega⟩ ⟨a, by omega⟩ hc ha h
  exact ⟨h2.1, fun j hj => h2.2 ⟨j, hj⟩⟩
theorem more_ok {s : PileSite} (hs : s.ok) {th : List (List Span)} {plan : List Int} (hp : planOk s th plan) {y a : Nat} (hy : y < plan.length) (ha : a < s.piles.length) (h : hasBit (plan.getD y default) a = false) : planOk s th (moreOf plan y a) := by
  have hn : s.piles.length ≤ 6 := hs.2.1.2
  refine ⟨by simp [moreOf, hp.1], fun x hx => ?_⟩
  unfold moreOf at hx
  obtain ⟨k, hk, rfl⟩ := List.mem_map.1 hx
  have hk := List.mem_range.1 hk
  have hb := hp.2 (plan.getD y default) (by rw [getD_lt hy]; exact List.getElem_mem _)
  have h2 : (0 : Int) ≤ 2 ^ a := Int.le_of_lt (Int.pow_pos (by decide))
  try dsimp only
  split
  · exact ⟨by omega, (bit_more hn hb ha h).1⟩
  · exact hp.2 _ (by rw [getD_lt hk]; exact List.getElem_mem _)
theorem more_lev {s : PileSite} (hs : s.ok) {th : List (List Span)} {plan : List Int} (hp : planOk s th plan) {y a : Nat} (hy : y < plan.length) (ha : a < s.piles.length) (h : hasBit (plan.getD y default) a = false) {t i : Nat} (htl : t < plan.length) (hi' : i < s.piles.length) :
    (((levOf s th plan).getD t default).getD i default).low ≤ (((levOf s th (moreOf plan y a)).getD t default).getD i default).low ∧ (((levOf s th plan).getD t default).getD i default).high ≤ (((levOf s th (moreOf plan y a)).getD t default).getD i default).high := by
  have hn : s.piles.length ≤ 6 := hs.2.1.2
  have hb := hp.2 (plan.getD y default) (by rw [getD_lt hy]; exact List.getElem_mem _)
  have hbits : ∀ z, z < plan.length → hasBit (plan.getD z default) i = true → hasBit ((moreOf plan y a).getD z default) i = true := fun z hz hbz => by
    rw [show (moreOf plan y a).getD z default = if z = y then plan.getD y default + 2 ^ a else plan.getD z default from getD_range hz]
    split
    · rename_i e; subst e; exact (bit_more hn hb ha h).2 i (by omega) hbz
    · exact hbz
  rw [lev_at htl hi', lev_at (by simp [moreOf]; exact htl) hi']
  have h1 := headAt_more (st := lowOf s th) (m := plan.length) (fun y k _ => lowOf_bound hs th y k) hbits t (by omega)
  have h2 := headAt_more (st := highOf s th) (m := plan.length) (fun y k _ => highOf_bound hs th y k) hbits t (by omega)
  unfold sunkS
  dsimp only
  omega
end Go.Tk
