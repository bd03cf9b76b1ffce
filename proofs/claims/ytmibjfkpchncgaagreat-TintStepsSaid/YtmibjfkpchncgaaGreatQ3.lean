/- The program's fractions (frac): reduced, of ints, products. -/
import Derived.Test.YtmibjfkpchncgaaGreatQ2
namespace Go.Proofs.YtmibjfkpchncgaaGreat
set_option linter.unusedVariables false
open Go Go.RowKit

/-- What a fraction's parts stand for: 0 where the lower one is 0. -/
def pz (z : Int) (D : Nat) : Int := if D = 0 then 0 else z
def pd (D : Nat) : Nat := if D = 0 then 1 else D
theorem pd_ne (D : Nat) : pd D ≠ 0 := by unfold pd; split <;> omega
theorem pz_len (z : Int) (D : Nat) : dl (pz z D).natAbs ≤ dl z.natAbs := by
  unfold pz
  split
  · rw [Int.natAbs_zero, dl_zero]; omega
  · exact Nat.le_refl _
theorem pd_len (D : Nat) : dl (pd D) ≤ dl D + 1 := by
  unfold pd
  split
  · have := dl_small (a := 1) (by omega); omega
  · omega
/-- Reduced. -/
def rz (z : Int) (D : Nat) : Int := z / (fg z D : Int)
def rd (z : Int) (D : Nat) : Nat := D / fg z D

end Go.Proofs.YtmibjfkpchncgaaGreat
