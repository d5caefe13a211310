/- Plain: the break is the first of the fewest. -/
import Derived.Test.YtnempffajbdneaaPC33
import Derived.Test.YtnempffajbdneaaPC30
set_option linter.unusedVariables false
set_option linter.unusedSimpArgs false
set_option linter.unusedSectionVars false
set_option maxRecDepth 8000
namespace Go.Tk
open Go Go.Av
section
variable {t : CoolTown} (ht : t.ok) {b : List Int} (hb : coolersOk t.sites.length b)
include ht hb
theorem sub_ok {s : List Int} (hs : s.Sublist b) : coolersOk t.sites.length s := coolersOk_of (hb.up.sublist hs) fun x hx => hb.mem x (hs.subset hx)
end
end Go.Tk
