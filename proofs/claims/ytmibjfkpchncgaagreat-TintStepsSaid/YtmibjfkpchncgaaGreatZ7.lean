/- Paints: the document's word on what of them plays a part. -/
import Derived.Test.YtmibjfkpchncgaaGreatZ6
namespace Go.Proofs.YtmibjfkpchncgaaGreat
set_option linter.unusedVariables false
set_option linter.unusedSimpArgs false
open Go Go.RowKit

/-- A block of 22 cells. -/
def B22 (w : World) (g : Nat) (l : List Value) : Prop := Bl w g l.toArray ∧ l.length = 22
theorem B22.set {w : World} {g j : Nat} {l : List Value} {v : Value} (h : B22 w g l) (hj : j < 22) : B22 (w.setCell ⟨g, j, none⟩ v) g (l.set j v) := ⟨by
    have := h.1.set (v := v) (by show j < l.toArray.size; rw [List.size_toArray, h.2]; exact hj)
    rwa [List.setIfInBounds_toArray] at this, by rw [List.length_set]; exact h.2⟩

end Go.Proofs.YtmibjfkpchncgaaGreat
