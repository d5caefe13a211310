/- Plain: motions as trees, and what reads them. -/
import Derived.Test.YtcllnnjeaidppaaGreatDoorPE
set_option linter.unusedVariables false
set_option linter.unusedSimpArgs false
namespace Go.Tk
open Go Go.Av
/-- A motion as a tree. -/
inductive Nd where
  | cl (d : Deed)
  | no (a : Nd)
  | two (k : Int) (a b : Nd)
  deriving Inhabited, DecidableEq
def Deed.ok (d : Deed) : Prop := (1 ≤ d.act ∧ d.act ≤ 4) ∧ (1 ≤ d.thing ∧ d.thing ≤ 4) ∧ (1 ≤ d.number ∧ d.number ≤ 99)
instance (d : Deed) : Decidable d.ok := by unfold Deed.ok; infer_instance
def Part.deed (p : Part) : Deed := ⟨p.act, p.number, p.thing⟩
def Deed.part (d : Deed) : Part := ⟨1, d.act, d.number, d.thing⟩
def Nd.ok : Nd → Prop
  | .cl d => d.ok
  | .no a => a.ok
  | .two k a b => (k = 3 ∨ k = 4) ∧ a.ok ∧ b.ok
def Nd.flat : Nd → List Part
  | .cl d => [d.part]
  | .no a => ⟨2, 0, 0, 0⟩ :: a.flat
  | .two k a b => ⟨k, 0, 0, 0⟩ :: (a.flat ++ b.flat)
def Nd.clauses : Nd → List Deed
  | .cl d => [d]
  | .no a => a.clauses
  | .two _ a b => a.clauses ++ b.clauses
def fits1 (l : List Deed) (d : Deed) : Bool := l.any fun e => decide (e.act = d.act ∧ e.thing = d.thing ∧ d.number ≤ e.number)
def Nd.holds (l : List Deed) : Nd → Bool
  | .cl d => fits1 l d
  | .no a => !a.holds l
  | .two k a b => if k = 3 then a.holds l && b.holds l else a.holds l || b.holds l
/-- A part that is no clause, as it must be. -/
def Part.op (p : Part) : Prop := (p.act = 0 ∧ p.number = 0 ∧ p.thing = 0) ∧ 2 ≤ p.kind ∧ p.kind ≤ 4
instance (p : Part) : Decidable p.op := by unfold Part.op; infer_instance
/-- The operand that begins somewhere, and where it ends. -/
def opdN : Nat → List Part → Nat → Option (Nd × Nat)
  | 0, _, _ => none
  | n + 1, m, i => match m[i]? with
    | none => none
    | some p => if p.kind = 1 then (if p.deed.ok then some (.cl p.deed, i + 1) else none)
      else if p.op then (match opdN n m (i + 1) with
        | none => none
        | some (a, j) => if p.kind = 2 then some (.no a, j) else match opdN n m j with
          | none => none
          | some (b, k) => some (.two p.kind a b, k))
      else none
theorem opdN_lt : ∀ {n : Nat} {m : List Part} {i : Nat} {a : Nd} {j : Nat}, opdN n m i = some (a, j) → i < j ∧ j ≤ m.length
  | 0, _, _, _, _, h => by simp [opdN] at h
  | n + 1, m, i, a, j, h => by
    simp only [opdN] at h
    split at h
    · cases h
    · next p hp =>
      have hl := (List.getElem?_eq_some_iff.1 hp).1
      split at h
      · split at h
        · simp only [Option.some.injEq, Prod.mk.injEq] at h
          omega
        · cases h
      · split at h
        · split at h
          · cases h
          · next a1 j1 h1 =>
            have := opdN_lt h1
            split at h
            · simp only [Option.some.injEq, Prod.mk.injEq] at h
              omega
            · split at h
              · cases h
              · next b k h2 =>
                have := opdN_lt h2
                simp only [Option.some.injEq, Prod.mk.injEq] at h
                omega
        · cases h
/-- How far one looks does not matter, if it is far enough. -/
theorem opdN_far : ∀ {n n' : Nat} {m : List Part} {i : Nat}, m.length < n + i → m.length < n' + i → opdN n m i = opdN n' m i
  | 0, 0, m, i, _, _ => rfl
  | 0, n' + 1, m, i, h, _ => by
    have : m[i]? = none := List.getElem?_eq_none (by omega)
    simp only [opdN, this]
  | n + 1, 0, m, i, _, h => by
    have : m[i]? = none := List.getElem?_eq_none (by omega)
    simp only [opdN, this]
  | n + 1, n' + 1, m, i, h, h' => by
    simp only [opdN]
    rw [opdN_far (n := n) (n' := n') (i := i + 1) (by omega) (by omega)]
    cases hm : m[i]? with
    | none => rfl
    | some p =>
      cases ho : opdN n' m (i + 1) with
      | none => rfl
      | some q =>
        obtain ⟨a, j⟩ := q
        have := opdN_lt ho
        simp only
        rw [opdN_far (n := n) (n' := n') (i := j) (by omega) (by omega)]
def opd (m : List Part) (i : Nat) : Option (Nd × Nat) := opdN (m.length + 1 - i) m i
theorem opd_lt {m : List Part} {i j : Nat} {a : Nd} (h : opd m i = some (a, j)) : i < j ∧ j ≤ m.length := opdN_lt h
theorem opd_end {m : List Part} {i : Nat} (h : m.length ≤ i) : opd m i = none := by
  unfold opd
  have : m[i]? = none := List.getElem?_eq_none h
  cases m.length + 1 - i with
  | zero => rfl
  | succ n => simp only [opdN, this]
theorem opd_eq {m : List Part} {i : Nat} (hi : i < m.length) : opd m i = (let p := m.getD i default
    if p.kind = 1 then (if p.deed.ok then some (.cl p.deed, i + 1) else none)
      else if p.op then (match opd m (i + 1) with
        | none => none
        | some (a, j) => if p.kind = 2 then some (.no a, j) else match opd m j with
          | none => none
          | some (b, k) => some (.two p.kind a b, k))
      else none) := by
  have e : m[i]? = some (m.getD i default) := by rw [getD_lt hi]; exact List.getElem?_eq_getElem hi
  conv => lhs; unfold opd
  obtain ⟨n, hn⟩ : ∃ n, m.length + 1 - i = n + 1 := ⟨m.length - i, by omega⟩
  rw [hn]
  simp only [opdN, e]
  rw [show opdN n m (i + 1) = opd m (i + 1) from opdN_far (by omega) (by omega)]
  cases ho : opd m (i + 1) with
  | none => rfl
  | some q =>
    obtain ⟨a, j⟩ := q
    have := opd_lt ho
    simp only
    rw [show opdN n m j = opd m j from opdN_far (by omega) (by omega)]
/-- What is read is as it must be, and is written as it stood. -/
theorem opdN_flat : ∀ {n : Nat} {m : List Part} {i : Nat} {a : Nd} {j : Nat}, opdN n m i = some (a, j) → a.ok ∧ m.drop i = a.flat ++ m.drop j
  | 0, _, _, _, _, h => by simp [opdN] at h
  | n + 1, m, i, a, j, h => by
    simp only [opdN] at h
    split at h
    · cases h
    · next p hp =>
      obtain ⟨hl, hpe⟩ := List.getElem?_eq_some_iff.1 hp
      have hd : m.drop i = p :: m.drop (i + 1) := by rw [List.drop_eq_getElem_cons hl, hpe]
      obtain ⟨pk, pa, pn, pt⟩ := p
      split at h
      · next hk =>
        split at h
        · next hok =>
          simp only [Option.some.injEq, Prod.mk.injEq] at h
          obtain ⟨rfl, rfl⟩ := h
          simp only at hk
          subst hk
          exact ⟨hok, by rw [hd]; rfl⟩
        · cases h
      · split at h
        · next hop =>
          obtain ⟨⟨o1, o2, o3⟩, o4, o5⟩ := hop
          simp only at o1 o2 o3 o4 o5
          subst o1 o2 o3
          split at h
          · cases h
          · next a1 j1 h1 =>
            obtain ⟨g1, g2⟩ := opdN_flat h1
            split at h
            · next hk =>
              simp only [Option.some.injEq, Prod.mk.injEq] at h
              obtain ⟨rfl, rfl⟩ := h
              simp only at hk
              subst hk
              exact ⟨g1, by rw [hd, g2]; rfl⟩
            · next hk1 hk2 =>
              split at h
              · cases h
              · next b k h2 =>
                obtain ⟨g3, g4⟩ := opdN_flat h2
                simp only [Option.some.injEq, Prod.mk.injEq] at h
                obtain ⟨rfl, rfl⟩ := h
                simp only at hk1 hk2
                refine ⟨⟨by omega, g1, g3⟩, ?_⟩
                rw [hd, g2, g4]
                simp only [Nd.flat, List.cons_append, List.append_assoc]
        · cases h
theorem opd_flat {m : List Part} {i j : Nat} {a : Nd} (h : opd m i = some (a, j)) : a.ok ∧ m.drop i = a.flat ++ m.drop j := opdN_flat h
/-- The motion that a list is. -/
def treeOf9 (m : List Part) : Option Nd := match opd m 0 with
  | some (a, j) => if j = m.length then some a else none
  | none => none
end Go.Tk
