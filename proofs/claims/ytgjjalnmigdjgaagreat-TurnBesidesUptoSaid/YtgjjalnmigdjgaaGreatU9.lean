/- Turns, in the document. -/
import Derived.Test.YtgjjalnmigdjgaaGreatU8
namespace Go.Proofs.YtgjjalnmigdjgaaGreat
set_option linter.unusedVariables false
set_option linter.unusedSimpArgs false
open Go Go.RowKit
theorem cmpQ_neg (a b : Rat) : cmpQ a b = -1 ↔ a < b := by
  have h := decide_eq_decide.1 (cmpQ_lt a b)
  have h1 := cmpQ_bd a b
  rw [← h]
  omega
theorem cmpQ_one (a b : Rat) : cmpQ a b = 1 ↔ b < a := by
  have h := decide_eq_decide.1 (cmpQ_le a b)
  have h1 := cmpQ_bd a b
  rw [← Rat.not_le, ← h]
  omega
end Go.Proofs.YtgjjalnmigdjgaaGreat
