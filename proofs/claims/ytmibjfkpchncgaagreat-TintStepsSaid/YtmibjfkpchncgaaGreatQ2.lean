/- The program's fractions (frac): what is reduced. -/
import Derived.Test.YtmibjfkpchncgaaGreatQ1
namespace Go.Proofs.YtmibjfkpchncgaaGreat
set_option linter.unusedVariables false
open Go Go.RowKit

/-- The common factor of a fraction's parts. -/
def fg (z : Int) (D : Nat) : Nat := Nat.gcd z.natAbs D
theorem fg_pos {z : Int} {D : Nat} (h : D ≠ 0) : 0 < fg z D := by
  unfold fg
  rcases Nat.eq_zero_or_pos (Nat.gcd z.natAbs D) with h0 | h0
  · exact absurd (Nat.eq_zero_of_gcd_eq_zero_right h0) h
  · exact h0
theorem fg_sign {z : Int} {D : Nat} (hD : D ≠ 0) : wz (decide (z < 0)) (z.natAbs / fg z D) = z / (fg z D : Int) := by
  have hp := fg_pos (z := z) hD
  have hd : fg z D ∣ z.natAbs := Nat.gcd_dvd_left _ _
  generalize fg z D = g at *
  obtain ⟨k, hk⟩ := hd
  have h1 : z.natAbs / g = k := by rw [hk, Nat.mul_div_cancel_left _ hp]
  rw [h1]
  rcases Int.lt_or_le z 0 with h | h
  · have e : z = (g : Int) * (-(k : Int)) := by
      rw [Int.mul_neg, ← Int.natCast_mul, ← hk]; omega
    rw [decide_eq_true h]
    show -(k : Int) = _
    rw [e, Int.mul_ediv_cancel_left _ (by omega)]
  · have e : z = (g : Int) * (k : Int) := by
      rw [← Int.natCast_mul, ← hk]; omega
    rw [decide_eq_false (by omega)]
    show (k : Int) = _
    rw [e, Int.mul_ediv_cancel_left _ (by omega)]
theorem fg_zero {D : Nat} (h : D ≠ 0) : (0 : Int) / (fg 0 D : Int) = 0 ∧ D / fg 0 D = 1 := by
  have e : fg 0 D = D := by unfold fg; simp
  rw [e]
  exact ⟨Int.zero_ediv _, Nat.div_self (Nat.pos_of_ne_zero h)⟩
theorem fg_one {z : Int} : z / (fg z 1 : Int) = z ∧ 1 / fg z 1 = 1 := by
  have e : fg z 1 = 1 := by unfold fg; exact Nat.gcd_one_right _
  rw [e]
  exact ⟨Int.ediv_one z, rfl⟩
theorem zabs_pos {z : Int} (h : z ≠ 0) : z.natAbs ≠ 0 := by omega

end Go.Proofs.YtmibjfkpchncgaaGreat
