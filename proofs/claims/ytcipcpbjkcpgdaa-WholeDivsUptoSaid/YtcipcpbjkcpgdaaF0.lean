/- Numbers as decimal digits, in plain Lean. -/
import Derived.Test.YtcipcpbjkcpgdaaA10
namespace Go.Proofs.Ytcipcpbjkcpgdaa
set_option linter.unusedVariables false
open Go Go.RowKit

/-- What is left of a number that is told in chunks of nine digits. -/
theorem chunk_step {part V2 k : Nat} (hk : k < 9) (h : 0 < part ∨ 0 < V2) :
    dig 10 (part + 10 ^ (9 - k) * V2) = part % 10 :: dig 10 (part / 10 + 10 ^ (9 - (k + 1)) * V2) := by
  have e : 10 ^ (9 - k) * V2 = 10 * (10 ^ (9 - (k + 1)) * V2) := by
    rw [show 9 - k = (9 - (k + 1)) + 1 by omega, Nat.pow_succ, Nat.mul_comm (10 ^ (9 - (k + 1))) 10, Nat.mul_assoc]
  have hp : 0 < V2 → 0 < 10 ^ (9 - (k + 1)) * V2 := fun h => Nat.mul_pos (Nat.pow_pos (by decide)) h
  rw [e]
  generalize 10 ^ (9 - (k + 1)) * V2 = P at *
  have hne : part + 10 * P ≠ 0 := by
    rcases h with h | h
    · omega
    · have := hp h; omega
  rw [dig_pos (by decide) hne]
  have e1 : (part + 10 * P) % 10 = part % 10 := by omega
  have e2 : (part + 10 * P) / 10 = part / 10 + P := by omega
  rw [e1, e2]
theorem chunk_end {part V2 : Nat} (h : part < 10 ^ (9 - 9)) : part + 10 ^ (9 - 9) * V2 = V2 := by
  simp at h ⊢
  omega
theorem chunk_lt {part k : Nat} (hk : k < 9) (h : part < 10 ^ (9 - k)) : part / 10 < 10 ^ (9 - (k + 1)) := by
  rw [show 9 - k = (9 - (k + 1)) + 1 by omega, Nat.pow_succ] at h
  exact (Nat.div_lt_iff_lt_mul (by decide)).2 h

theorem dig10_len {n : Nat} {l : List Nat} (hl : Ws l) (hn : l.length ≤ n) : (dig 10 (val B32 l)).length ≤ 10 * n := by
  have h1 := val_lt (B := B32) (by decide) l hl
  have h2 : B32 ^ l.length ≤ B32 ^ n := Nat.pow_le_pow_right (by decide) hn
  have h3 : B32 ^ n ≤ 10 ^ (10 * n) := by
    rw [Nat.pow_mul]
    exact Nat.pow_le_pow_left (by decide) n
  exact dig_len_le (by decide) (by omega)
theorem decD_len' {n : Nat} {l : List Nat} (hl : Ws l) (hn : l.length ≤ n) : (decD (val B32 l)).length ≤ 10 * n + 1 := by
  unfold decD
  split
  · simp
  · rw [List.length_reverse]
    have := dig10_len hl hn
    omega

theorem live_mul : dig B32 (val B32 [4294967295] * val B32 [4294967295]) = [1, 4294967294] := by
  have e : val B32 [4294967295] * val B32 [4294967295] = 18446744065119617025 := by simp [val]
  rw [e, dig_pos B32_two (by decide), dig_pos B32_two (by unfold B32; decide), show 18446744065119617025 / B32 / B32 = 0 by unfold B32; decide, dig_zero]
  unfold B32
  rfl
theorem live_text : decD (val B32 [0, 1]) = [4, 2, 9, 4, 9, 6, 7, 2, 9, 6] := by
  have e : val B32 [0, 1] = 4294967296 := by simp [val, B32]
  rw [e, decD_step (by decide), decD_step (by decide), decD_step (by decide), decD_step (by decide), decD_step (by decide), decD_step (by decide), decD_step (by decide), decD_step (by decide), decD_step (by decide), decD_small (by decide)]
  rfl

end Go.Proofs.Ytcipcpbjkcpgdaa
