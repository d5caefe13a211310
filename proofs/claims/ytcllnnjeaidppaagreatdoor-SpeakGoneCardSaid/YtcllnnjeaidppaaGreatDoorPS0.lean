/- A row that the library's sort has turned. -/
import Derived.Test.YtcllnnjeaidppaaGreatDoorPIt
import Derived.Test.YtcllnnjeaidppaaGreatDoorPE
set_option linter.unusedVariables false
set_option linter.unusedSimpArgs false
set_option linter.unusedSectionVars false
set_option maxRecDepth 8000
namespace Go.Av
open Go Go.RowKit
theorem putRow_set {β : Type} [Inhabited β] {w : World} {B : Nat} {cur : Array Value} {e : TypeId} (h : Cel w B cur e) (enc : β → Value) (d : Array β) : Sort.putRow enc w B 0 d = w.setRow B (Sort.putCells enc 0 d cur) := by
  obtain ⟨mk, h1, -⟩ := h
  unfold Sort.putRow Sort.mapBlock World.setRow
  congr 1
  apply Array.ext_getElem?
  intro k
  simp only [Array.getElem?_modify]
  by_cases hk : B = k
  · subst hk
    simp only [if_true, h1, Option.map_some, Sort.onCells]
  · simp [hk]
theorem RepMu.sorted {K : Ctx} {ρ S μ w} (h : RepMu K ρ S μ w) {id e g sz : Nat} {es es' : List (List AV)} {B cap : Nat} {cur : Array Value} (ho : μ[id]? = some (.row e g sz es)) (hr : ρ id = some (B, cap)) (hcur : Cel w B cur e) (hcs : cur.size = cap * sz) (hlc : es.length ≤ cap) (hcm : cap ≤ maxLen)
    {β : Type} [Inhabited β] (enc : β → Value) (d : Array β) (n : Nat) (os : Array Obj) (hl : es'.length = es.length) (hd : d.size = es.length * sz)
    (hv : ∀ i cs, es'[i]? = some cs → cs.length = sz ∧ ∀ j c, cs[j]? = some c → VR μ ρ S w c (enc d[i * sz + j]!) ∧ (enc d[i * sz + j]!).oneCell' = true) :
    RepMu K ρ S (μ.set id (.row e g sz es')) (Sort.grow (Sort.putRow enc (Sort.ahead w n) B 0 d) os) ∧ Stab μ ρ S w (μ.set id (.row e g sz es')) ρ S (Sort.grow (Sort.putRow enc (Sort.ahead w n) B 0 d) os) := by
  have hb1 : Below w.heap.size w (Sort.ahead w n) := ⟨rfl, rfl, rfl, Nat.le_refl _, fun _ _ => rfl⟩
  obtain ⟨a1, a2⟩ := h.same hb1 rfl
  have hcur1 : Cel (Sort.ahead w n) B cur e := hcur.heap rfl
  rw [putRow_set hcur1]
  have hps : (Sort.putCells enc 0 d cur).size = cap * sz := by simp [Sort.putCells, hcs]
  obtain ⟨c1, c2⟩ := a1.setRow (es' := es') ho hr hcur1 hcs hps hcm g (.inl ⟨rfl, by omega⟩) (by omega) fun i cs hi => by
    obtain ⟨e1, e2⟩ := hv i cs hi
    have hil : i < es.length := by rw [← hl]; exact (List.getElem?_eq_some_iff.1 hi).1
    refine ⟨e1, fun j c hj => ?_⟩
    obtain ⟨e3, e4⟩ := e2 j c hj
    have hjl : j < sz := by rw [← e1]; exact (List.getElem?_eq_some_iff.1 hj).1
    have hlt : i * sz + j < d.size := by
      rw [hd]
      have : (i + 1) * sz ≤ es.length * sz := Nat.mul_le_mul_right _ (by omega)
      rw [Nat.succ_mul] at this
      omega
    have hlt2 : i * sz + j < cur.size := by
      rw [hcs]
      have : es.length * sz ≤ cap * sz := Nat.mul_le_mul_right _ hlc
      omega
    refine ⟨_, ?_, e3.stab a2, e4⟩
    rw [Sort.putCells, Array.getElem?_mapIdx, Array.getElem?_eq_getElem hlt2]
    simp [hlt]
  have hb2 : Below ((Sort.ahead w n).setRow B (Sort.putCells enc 0 d cur)).heap.size ((Sort.ahead w n).setRow B (Sort.putCells enc 0 d cur)) (Sort.grow ((Sort.ahead w n).setRow B (Sort.putCells enc 0 d cur)) os) := by
    refine ⟨rfl, rfl, rfl, by simp [Sort.grow], fun b hb => ?_⟩
    simp only [Sort.grow, Array.getElem?_append_left hb]
  obtain ⟨g1, g2⟩ := c1.more hb2 (fun _ h => h) (fun b hb => Nat.lt_of_lt_of_le (c1.st b hb) hb2.size) (fun b hb _ => hb)
  exact ⟨g1, (a2.trans c2).trans g2⟩
end Go.Av
namespace Go.Tk
open Go Go.Av
def sortA (l : List Int) : List Int := l.mergeSort fun x y => decide (x ≤ y)
end Go.Tk
namespace Go.Proofs.YtcllnnjeaidppaaGreatDoor
open Go Go.Av Go.Tk Go.RowKit
theorem slices_Sort {K : Ctx} (hP : K.P = Tryz.prog) (l : List Int) (hl : l.length ≤ 100000) (hne : l ≠ []) (e g : Nat) :
    ACalls K F.slices_Sort_int [.hsl 0 g 1 l.length] [.row e g 1 (rowL intCs l)] fun ae ν => ae = .ret (.tup []) ∧ ν = [.row e g 1 (rowL intCs (sortA l))] := by
  obtain ⟨P, w0, S0, G, hG0⟩ := K
  simp only at hP
  subst hP
  obtain ⟨fn, cd, q1, q2, q3, q4⟩ := fn_slices_Sort_int
  refine ⟨⟨fn, q1, q2, by rw [q3]; rfl⟩, fun ρ S w vs hm hlv hv => ?_⟩
  have h0 := hv 0 _ _ rfl (Array.getElem?_eq_getElem (show 0 < vs.size by rw [hlv]; simp))
  have hvs : vs = #[vs[0]'(by rw [hlv]; simp)] := by
    apply Array.ext
    · simpa using hlv
    · intro i q1 q2
      have : i = 0 := by simp at q2; omega
      subst this; rfl
  rw [hvs]
  generalize vs[0]'(by rw [hlv]; simp) = v0 at h0
  have hpos : 0 < l.length := by cases l with | nil => exact absurd rfl hne | cons => simp
  have hb : ∃ B cap, v0 = .slice (some ⟨B, 0, none⟩) l.length cap ∧ ρ 0 = some (B, cap) := by
    have gen : ∀ n, n = l.length → VR [.row e g 1 (rowL intCs l)] ρ S w (.hsl 0 g 1 n) v0 → ∃ B cap, v0 = .slice (some ⟨B, 0, none⟩) n cap ∧ ρ 0 = some (B, cap) := fun n hn h0 => by
      cases h0 with
      | t h' => cases h'
      | hsl h1 h2 h3 => exact ⟨_, _, rfl, h3⟩
      | hsl0 h1 h2 => omega
      | hslOld _ h1 h2 => simp at h1; omega
      | hslGone _ h1 => simp at h1
    exact gen _ rfl h0
  obtain ⟨B, cap, rfl, hB⟩ := hb
  rcases hm.ob 0 _ rfl with ⟨h1, -⟩ | ⟨B', cap', cur, h1, h2, h3, h4, h5, h6, h7, h8⟩
  · rw [hB] at h1; cases h1
  · rw [hB] at h1; cases h1
    rw [rowL_len] at h6
    have hcell : ∀ i (hi : i < l.length), cur[i]? = some (.int .i64 l[i]) := fun i hi => by
      obtain ⟨-, k2⟩ := h8 i (intCs l[i]) (by rw [rowL, List.getElem?_map, List.getElem?_eq_getElem hi]; rfl)
      obtain ⟨v, k3, k4, -⟩ := k2 0 _ rfl
      rw [vt_int (k4.tree rfl)] at k3
      simpa using k3
    have hH : Sort.Holds (Value.int .i64) w B 0 l.toArray := fun j hj => by
      have hj' : j < l.length := by simpa using hj
      have hlt : j < cur.size := by rw [h5]; omega
      refine ⟨?_, by rw [Nat.zero_add]; exact h4.free hlt⟩
      rw [Nat.zero_add, h4.cell, hcell j hj', getElem!_pos l.toArray j hj]
      simp
    refine (Tryz.slices_Sort_int B 0 cap l w hH h4.lt (by omega)).mono ?_
    rintro ee w' ⟨rfl, n, os, rfl⟩
    have hsl : (sortA l).length = l.length := List.length_mergeSort l
    obtain ⟨m1, m2⟩ := hm.sorted (id := 0) (es' := rowL intCs (sortA l)) rfl hB h4 h5 (by rw [rowL_len]; exact h6) h7 (Value.int .i64) (sortA l).toArray n os (by rw [rowL_len, rowL_len, hsl]) (by rw [rowL_len]; simp [hsl]) fun i cs hi => by
      rw [rowL, List.getElem?_map] at hi
      obtain ⟨x, hx, rfl⟩ := Option.map_eq_some_iff.1 hi
      have hil : i < (sortA l).length := (List.getElem?_eq_some_iff.1 hx).1
      refine ⟨rfl, fun j c hj => ?_⟩
      match j, hj with
      | 0, hj =>
        simp [intCs] at hj
        subst hj
        have : (sortA l).toArray[i * 1 + 0]! = x := by
          rw [getElem!_pos (sortA l).toArray _ (by simpa using hil)]
          simpa using (List.getElem?_eq_some_iff.1 hx).2
        rw [this]
        exact ⟨.t (.int _ _), rfl⟩
      | j + 1, hj => simp [intCs] at hj
    exact ⟨.ret (.tup []), _, ρ, S, ⟨rfl, rfl⟩, .t (.tup [] #[] rfl (by simp)), m1, m2⟩
end Go.Proofs.YtcllnnjeaidppaaGreatDoor
