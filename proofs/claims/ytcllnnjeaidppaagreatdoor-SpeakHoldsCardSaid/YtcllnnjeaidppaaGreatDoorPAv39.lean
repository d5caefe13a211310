/- Objects that nothing names any longer are left out, amid a region. -/
import Derived.Test.YtcllnnjeaidppaaGreatDoorPMq
set_option linter.unusedVariables false
set_option linter.unusedSimpArgs false
namespace Go.Av
open Go.RowKit
section rules
variable {K : Ctx}
theorem semL_ghostC {F : Fcx} {Q : AExit → St → Prop} {s : List SOper} {env : List (Nat × AV)} {μ μ' : List AObj} (id i j e' sz' : Nat) {e g sz : Nat} {es : List (List AV)} (ho : μ[id]? = some (.row e g sz es)) (hn : (es.getD i []).getD j .dead = .nilsl)
    (hμ : ghC μ id i j e' sz' = μ') (h : semL K F s ⟨env, μ'⟩ Q) : semL K F s ⟨env, μ⟩ Q := by
  intro all k0 ol hol hc a w ρ S ha μ0 ρ0 S0 w0 hst
  obtain ⟨a1, k⟩ := ha.mu.addNil e' sz'
  have hlt := (List.getElem?_eq_some_iff.1 ho).1
  have ho' : (μ ++ [AObj.row e' 0 sz' []])[id]? = some (.row e g sz es) := by rw [List.getElem?_append_left hlt]; exact ho
  obtain ⟨b1, k2⟩ := a1.recell (es' := es.set i ((es.getD i []).set j (.hsl μ.length 0 sz' 0))) ho' (by simp) fun i' cs' hi' => by
    by_cases e1 : i' = i
    · subst e1
      have hl : i' < es.length := by have := (List.getElem?_eq_some_iff.1 hi').1; simpa using this
      rw [List.getElem?_set_self hl] at hi'
      cases hi'
      have hg : es.getD i' [] = es[i'] := by simp [List.getD, hl]
      refine ⟨es[i'], List.getElem?_eq_getElem hl, by rw [List.length_set, hg], fun j' c' hj' => ?_⟩
      rw [hg] at hj' hn
      by_cases e2 : j' = j
      · subst e2
        have hl2 : j' < es[i'].length := by have := (List.getElem?_eq_some_iff.1 hj').1; simpa using this
        rw [List.getElem?_set_self hl2] at hj'
        cases hj'
        refine ⟨_, List.getElem?_eq_getElem hl2, fun v hv => ?_⟩
        have hn' : es[i'][j'] = .nilsl := by simpa [List.getD, hl2] using hn
        rw [hn'] at hv
        cases hv with
        | t h' => cases h'; exact .hsl0 (e := e') (es := []) (by simp) (by simp)
      · rw [List.getElem?_set_ne (Ne.symm e2)] at hj'
        exact ⟨c', hj', fun v hv => hv⟩
    · rw [List.getElem?_set_ne (Ne.symm e1)] at hi'
      exact ⟨cs', hi', rfl, fun j' c' hj' => ⟨c', hj', fun v hv => hv⟩⟩
  have hμ' : (μ ++ [AObj.row e' 0 sz' []]).set id (.row e g sz (es.set i ((es.getD i []).set j (.hsl μ.length 0 sz' 0)))) = μ' := by
    rw [← hμ]; simp only [ghC, ho]
  rw [hμ'] at b1 k2
  have k3 := k.trans k2
  exact h all k0 ol hol hc a w _ S ⟨b1, ha.size, ha.defers.stab k3, fun u => (ha.env u).stab k3⟩ μ0 ρ0 S0 w0 (hst.trans k3)
end rules
end Go.Av
