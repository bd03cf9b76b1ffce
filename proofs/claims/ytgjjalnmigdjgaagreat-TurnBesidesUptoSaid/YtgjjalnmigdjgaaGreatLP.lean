/- Arguments that are points. -/
import Derived.Test.YtgjjalnmigdjgaaGreatM7
import Derived.ChangeSame
namespace Go.Proofs.YtgjjalnmigdjgaaGreat
open Go Go.RowKit Go.ChangeShapes Go.WideShapes Go.ChangeAt
set_option linter.unusedVariables false
theorem lpP : Tryz.prog.cellsOf 51 = 2 := by kernel_rfl
section
variable {H : Type} {enc : TypeId × Value → H} {W : World} {spare : Nat → Bool} {held : Bool} {base : Nat}
end
end Go.Proofs.YtgjjalnmigdjgaaGreat
