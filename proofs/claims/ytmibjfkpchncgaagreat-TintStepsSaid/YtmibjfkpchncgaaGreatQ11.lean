/- The program's fractions (frac): floors, roundings; the document's sameness. -/
import Derived.Test.YtmibjfkpchncgaaGreatQ10
import Derived.Deep.DeepCutAuto
namespace Go.Proofs.YtmibjfkpchncgaaGreat
set_option linter.unusedVariables false
open Go Go.RowKit

theorem RetW.mk {w u : World} {z z' : Int} {b : Bool} {a : Option Addr} {n c : Nat} (hz : z' = z) (hb : b = decide (z < 0)) (h1 : Nc u a n c z.natAbs) (he : Ext w u) : RetW w z' (.returned (.agg #[.bool b, .slice a n c])) u := by
  subst hz; subst hb
  exact ⟨a, n, c, rfl, h1, he⟩

end Go.Proofs.YtmibjfkpchncgaaGreat
