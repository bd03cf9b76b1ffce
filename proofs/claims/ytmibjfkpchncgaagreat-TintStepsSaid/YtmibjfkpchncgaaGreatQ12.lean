/- The program's fractions (frac): texts. -/
import Derived.Test.YtmibjfkpchncgaaGreatQ11
namespace Go.Proofs.YtmibjfkpchncgaaGreat
set_option linter.unusedVariables false
open Go Go.RowKit

theorem dec_len {V N : Nat} (h : dl V ≤ N) : (decD V).length ≤ 10 * N + 1 := by
  have := decD_len' (Ws.dig V) (n := N) h
  rwa [val_dig B32_two] at this
theorem textZ_sz (z : Int) : (textZ z).size ≤ (decD z.natAbs).length + 1 := by
  unfold textZ
  split
  · rw [ByteArray.size_append]; unfold decS; rw [decB_size]; simp [ByteArray.size]; omega
  · unfold decS; rw [decB_size]; omega
/-- A fraction's text. -/
def textF (z : Int) (D : Nat) : ByteArray := if D = 1 then textZ z else textZ z ++ ⟨#[47]⟩ ++ decS D

end Go.Proofs.YtmibjfkpchncgaaGreat
