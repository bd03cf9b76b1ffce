/- The text of a number, as a list of digits: it is read back as that number. -/
import Derived.Test.YtcipcpbjkcpgdaaA10
import Derived.Test.YtcipcpbjkcpgdaaD3
namespace Go.Proofs.Ytcipcpbjkcpgdaa
set_option linter.unusedVariables false
open Go Go.RowKit

theorem decD_le9 (m : Nat) : ∀ d ∈ decD m, d ≤ 9 := by
  unfold decD
  split
  · simp
  · intro d hd
    have := dig_lt (B := 10) (by decide) m d (by simpa using hd)
    omega
def dTx (m : Nat) : List Nat := (decD m).map (48 + ·)
theorem natsOf_decS (m : Nat) : natsOf (decS m) = dTx m := by
  unfold natsOf decS decB dTx
  simp only [List.map_map]
  refine List.map_congr_left fun d hd => ?_
  have h := decD_le9 m d hd
  show (UInt8.ofNat (48 + d)).toNat = 48 + d
  rw [UInt8.toNat_ofNat']
  omega
theorem dTx_small {m : Nat} (h : m < 10) : dTx m = [48 + m] := by unfold dTx; rw [decD_small h]; rfl
theorem dTx_step {m : Nat} (h : 10 ≤ m) : dTx m = dTx (m / 10) ++ [48 + m % 10] := by unfold dTx; rw [decD_step h]; simp
theorem dTx_dval (m : Nat) : dval (dTx m) = m := by
  induction m using Nat.strongRecOn with
  | _ m ih =>
    by_cases h : m < 10
    · rw [dTx_small h]; simp [dval]
    · rw [dTx_step (by omega), dval_snoc, ih _ (by omega)]; omega
theorem dTx_ne (m : Nat) : dTx m ≠ [] := by
  by_cases h : m < 10
  · rw [dTx_small h]; simp
  · rw [dTx_step (by omega)]; simp
theorem dTx_head {m : Nat} (h : m ≠ 0) : (dTx m).getD 0 0 ≠ 48 := by
  induction m using Nat.strongRecOn with
  | _ m ih =>
    by_cases h9 : m < 10
    · rw [dTx_small h9]; simp; omega
    · have h1 := ih (m / 10) (by omega) (by omega)
      rw [dTx_step (by omega)]
      cases hd : dTx (m / 10) with
      | nil => exact absurd hd (dTx_ne _)
      | cons x r => rw [hd] at h1; simpa using h1
theorem dTx_at (m : Nat) : ∀ c ∈ dTx m, 48 ≤ c ∧ c ≤ 57 := by
  intro c hc
  unfold dTx at hc
  simp only [List.mem_map] at hc
  obtain ⟨d, hd, rfl⟩ := hc
  have := decD_le9 m d hd
  omega
theorem dTx_plain (m : Nat) : PlainL (dTx m) := by
  refine ⟨dTx_ne m, fun h => ?_, dTx_at m⟩
  by_cases h0 : m = 0
  · rw [h0, dTx_small (by decide)]; simp
  · exact absurd h (dTx_head h0)

end Go.Proofs.Ytcipcpbjkcpgdaa
