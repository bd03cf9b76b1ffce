/- The program's fractions on rationals: negatives, halves. -/
import Derived.Test.YtgjjalnmigdjgaaGreatQ18
namespace Go.Proofs.YtgjjalnmigdjgaaGreat
set_option linter.unusedVariables false
open Go Go.RowKit
theorem w_Neg {neg : Bool} {a : Option Addr} {n cap : Nat} {z : Int} {w : World} (h : WhIn w neg a n cap z) : Calls Tryz.prog 215 #[.agg #[.bool neg, .slice a n cap]] w (RetW w (-z)) := w_Neg_any neg a n cap z w h
section
variable {b b' : Bool} {a d a' d' : Option Addr} {n c m k n' c' m' k' N N' : Nat} {q q' : Rat} {w : World}
end
end Go.Proofs.YtgjjalnmigdjgaaGreat
