/- Arguments that are rows of points, lines. -/
import Derived.Test.YtgjjalnmigdjgaaGreatLP
import Derived.Test.YtgjjalnmigdjgaaGreatPT
import Derived.Deep.Slices
namespace Go.Proofs.YtgjjalnmigdjgaaGreat
open Go Go.RowKit Go.ChangeShapes Go.WideShapes Go.ChangeAt Go.Deep
set_option linter.unusedVariables false
section
variable {H : Type} {enc : TypeId × Value → H} {W : World} {spare : Nat → Bool} {held : Bool} {base : Nat}
end
end Go.Proofs.YtgjjalnmigdjgaaGreat
