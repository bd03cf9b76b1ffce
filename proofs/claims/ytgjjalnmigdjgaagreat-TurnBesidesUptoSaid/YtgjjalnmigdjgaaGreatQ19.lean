/- The document's fractions on rationals: floors. -/
import Derived.Test.YtgjjalnmigdjgaaGreatQ18
namespace Go.Proofs.YtgjjalnmigdjgaaGreat
set_option linter.unusedVariables false
open Go Go.RowKit
section
variable {b b' : Bool} {a d a' d' : Option Addr} {n c m k n' c' m' k' N N' : Nat} {q q' : Rat} {w : World}
end
end Go.Proofs.YtgjjalnmigdjgaaGreat
