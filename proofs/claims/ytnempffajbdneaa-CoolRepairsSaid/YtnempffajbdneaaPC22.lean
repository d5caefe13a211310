/- Plain: what is left when the greatest fail; whether a house is surely level with failures. -/
import Derived.Test.YtnempffajbdneaaPC19
import Derived.Test.YtnempffajbdneaaPC21
set_option linter.unusedVariables false
set_option linter.unusedSimpArgs false
set_option maxRecDepth 8000
namespace Go.Tk
open Go Go.Av
theorem up_nodup {l : List Int} (h : l.Pairwise (· < ·)) : l.Nodup := h.imp fun h e => by omega
theorem coolersOk_of {n : Nat} {l : List Int} (hu : l.Pairwise (· < ·)) (hb : ∀ x ∈ l, 0 ≤ x ∧ x < n) : coolersOk n l := fun i hi => by
  have h1 := hb (l.getD i default) (by rw [getD_lt hi]; exact List.getElem_mem _)
  refine ⟨⟨h1.1, by omega⟩, fun h0 => ?_⟩
  rw [getD_lt hi, getD_lt (show i - 1 < l.length by omega)]
  exact List.pairwise_iff_getElem.1 hu _ _ _ _ (by omega)
theorem coolersOk.without {n : Nat} {b f : List Int} (hb : coolersOk n b) : coolersOk n (withoutL b f) := coolersOk_of (without_up hb.up) fun x hx => hb.mem x (mem_without.1 hx).1
section
variable {t : CoolTown} (ht : t.ok) {b : List Int} (hb : coolersOk t.sites.length b)
include ht hb
end
end Go.Tk
