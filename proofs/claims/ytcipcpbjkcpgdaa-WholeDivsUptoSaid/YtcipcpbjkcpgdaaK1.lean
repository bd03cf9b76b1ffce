/- The plain law of shifts, word by word. -/
import Derived.Test.YtcipcpbjkcpgdaaCore
namespace Go.Proofs.Ytcipcpbjkcpgdaa
set_option linter.unusedVariables false

theorem shl_step {B P M c x v X : Nat} (hv : v = x * M + c) {E : Nat} (h : E + P * c = X * M) : E + P * (v % B) + P * B * (v / B) = (X + P * x) * M := by
  have hdm := Nat.div_add_mod v B
  have e : P * (v % B) + P * B * (v / B) = P * v := by rw [Nat.mul_assoc, ← Nat.mul_add, Nat.add_comm, hdm]
  have e2 : (X + P * x) * M = X * M + P * (x * M) := by rw [Nat.add_mul, Nat.mul_assoc]
  rw [e2, hv] at *
  rw [Nat.mul_add] at e
  omega
theorem val_zeros_append (B k : Nat) (l : List Nat) : val B (List.replicate k 0 ++ l) = B ^ k * val B l := by
  rw [val_append, List.length_replicate]
  have : val B (List.replicate k 0) = 0 := by
    induction k with
    | zero => rfl
    | succ n ih => simp [List.replicate_succ, val, ih]
  rw [this, Nat.zero_add]
theorem val_drop_div (B : Nat) (hB : 0 < B) (l : List Nat) (hl : ∀ x ∈ l, x < B) (j : Nat) (hj : j ≤ l.length) : val B l / B ^ j = val B (l.drop j) ∧ val B l % B ^ j = val B (l.take j) := by
  have h1 := val_append B (l.take j) (l.drop j)
  rw [List.take_append_drop, List.length_take, Nat.min_eq_left hj] at h1
  have h2 := val_lt hB (l.take j) (fun x hx => hl x (List.mem_of_mem_take hx))
  rw [List.length_take, Nat.min_eq_left hj] at h2
  have hp : 0 < B ^ j := Nat.pow_pos hB
  constructor
  · rw [h1, Nat.add_comm, Nat.mul_add_div hp, Nat.div_eq_of_lt h2, Nat.add_zero]
  · rw [h1, Nat.add_comm, Nat.mul_add_mod, Nat.mod_eq_of_lt h2]
theorem val_two (B : Nat) (l : List Nat) : ∃ r, val B l = l.getD 0 0 + B * l.getD 1 0 + B * B * r := by
  cases l with
  | nil => exact ⟨0, by simp [val]⟩
  | cons x r =>
    cases r with
    | nil => exact ⟨0, by simp [val]⟩
    | cons y r => exact ⟨val B r, by simp [val, Nat.mul_add, Nat.mul_assoc, Nat.add_assoc]⟩
/-- One word of a number by a power of two. -/
theorem shr_step {l : List Nat} {k j less : Nat} (hless : less ≤ 32) (hl : ∀ x ∈ l, x < 4294967296) (hj : j ≤ l.length) {E : Nat} (h : E = val 4294967296 l / 2 ^ less % 4294967296 ^ j) :
    E + 4294967296 ^ j * ((l.getD j 0 + 4294967296 * l.getD (j + 1) 0) / 2 ^ less % 4294967296) = val 4294967296 l / 2 ^ less % 4294967296 ^ (j + 1) := by
  obtain ⟨r, hr⟩ := val_two 4294967296 (l.drop j)
  have h1 := (val_drop_div 4294967296 (by decide) l hl j hj).1
  have g0 : (l.drop j).getD 0 0 = l.getD j 0 := by simp [List.getD_eq_getElem?_getD]
  have g1 : (l.drop j).getD 1 0 = l.getD (j + 1) 0 := by simp [List.getD_eq_getElem?_getD]
  rw [hr, g0, g1] at h1
  have h2 : val 4294967296 l / 2 ^ less / 4294967296 ^ j = (l.getD j 0 + 4294967296 * l.getD (j + 1) 0) / 2 ^ less + 4294967296 * (2 ^ (32 - less) * r) := by
    rw [Nat.div_div_eq_div_mul, Nat.mul_comm, ← Nat.div_div_eq_div_mul, h1]
    have hp : (4294967296 : Nat) = 2 ^ less * 2 ^ (32 - less) := by rw [← Nat.pow_add, show less + (32 - less) = 32 by omega]
    have e : 4294967296 * 4294967296 * r = 2 ^ less * (4294967296 * (2 ^ (32 - less) * r)) := by
      calc 4294967296 * 4294967296 * r = 4294967296 * (2 ^ less * 2 ^ (32 - less)) * r := by rw [← hp]
        _ = 2 ^ less * (4294967296 * (2 ^ (32 - less) * r)) := by
          generalize (4294967296 : Nat) = b
          generalize 2 ^ less = p
          generalize 2 ^ (32 - less) = q
          rw [← Nat.mul_assoc b, Nat.mul_comm b p, Nat.mul_assoc p b, Nat.mul_assoc p, Nat.mul_assoc b]
    rw [e, Nat.add_mul_div_left _ _ (Nat.two_pow_pos less)]
  have h3 : val 4294967296 l / 2 ^ less % 4294967296 ^ (j + 1) = val 4294967296 l / 2 ^ less % 4294967296 ^ j + 4294967296 ^ j * (val 4294967296 l / 2 ^ less / 4294967296 ^ j % 4294967296) := by
    rw [Nat.pow_succ, Nat.mod_mul]
  rw [h3, h2, ← h, Nat.add_mul_mod_self_left]
theorem shr_end {l : List Nat} {ws less : Nat} (hl : ∀ x ∈ l, x < 4294967296) (hw : ws ≤ l.length) :
    val 4294967296 (l.drop ws) / 2 ^ less % 4294967296 ^ (l.length - ws) = val 4294967296 l / 2 ^ (32 * ws + less) := by
  have h1 := (val_drop_div 4294967296 (by decide) l hl ws hw).1
  have hlt := val_lt (B := 4294967296) (by decide) (l.drop ws) (fun x hx => hl x (List.mem_of_mem_drop hx))
  rw [List.length_drop] at hlt
  rw [Nat.mod_eq_of_lt (Nat.lt_of_le_of_lt (Nat.div_le_self _ _) hlt), ← h1, Nat.div_div_eq_div_mul, Nat.pow_add]
  congr 2
  rw [Nat.pow_mul]

end Go.Proofs.Ytcipcpbjkcpgdaa
