/- The laws of fractions live. -/
import Derived.Test.YtmibjfkpchncgaaGreatQ12
namespace Go.Proofs.YtmibjfkpchncgaaGreat
set_option linter.unusedVariables false
open Go Go.RowKit

theorem fl_text : textF (-3) 2 = ⟨#[45, 51, 47, 50]⟩ := by
  unfold textF
  rw [if_neg (by decide)]
  have h3 : decS 3 = ⟨#[51]⟩ := by unfold decS; rw [decD_small (by decide)]; rfl
  have h2 : decS 2 = ⟨#[50]⟩ := by unfold decS; rw [decD_small (by decide)]; rfl
  have hz : textZ (-3) = ⟨#[45]⟩ ++ decS 3 := by unfold textZ; rw [if_pos (by decide)]; rfl
  rw [hz, h3, h2]; rfl

end Go.Proofs.YtmibjfkpchncgaaGreat
