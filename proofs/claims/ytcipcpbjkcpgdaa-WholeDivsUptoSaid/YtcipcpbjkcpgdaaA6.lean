/- The document's numbers (frisketref01): bits, small numbers, numbers of 64 bits, powers of 2. -/
import Derived.Test.YtcipcpbjkcpgdaaA5
namespace Go.Proofs.Ytcipcpbjkcpgdaa
set_option linter.unusedVariables false
open Go Go.RowKit

set_option maxHeartbeats 1000000 in
theorem r01_Of_any (v : Nat) (hv : v ≤ 18446744073709551615) (w : World) :
    Calls Try.prog 33 #[.int .u64 v] w (RetSl w (ints .u32 (dig B32 v))) := by
  go_enter Try.func33, Try.ntmps33
  go_wp2_with fail
  refine (r01_words_any _ 4 4 [v % 65536, v / 65536 % 65536, v / 65536 / 65536 % 65536, v / 65536 / 65536 / 65536] _ (Sl.lit w _ _ 4 rfl (by omega)) ?_ (by omega)).mono ?_
  · intro x hx
    simp at hx
    unfold B16
    rcases hx with rfl | rfl | rfl | rfl <;> omega
  have hval : val B16 [v % 65536, v / 65536 % 65536, v / 65536 / 65536 % 65536, v / 65536 / 65536 / 65536] = v := by
    simp only [val, B16]; omega
  rw [hval]
  clear hval
  rintro e w' ⟨a5, n5, cap5, rfl, hs5, he5⟩
  go_wp2
  go_ret
  exact ⟨_, _, _, rfl, hs5, ((Ext.refl _).alloc _).trans he5⟩

theorem digit_at {B : Nat} (hB : 0 < B) : ∀ (j : Nat) (l : List Nat), (∀ x ∈ l, x < B) → val B l / B ^ j % B = l.getD j 0
  | 0, l, h => by
    rw [val_head B l, Nat.pow_zero, Nat.div_one, Nat.add_mul_mod_self_left, Nat.mod_eq_of_lt (getD_lt hB h 0)]
  | j + 1, l, h => by
    rw [Nat.pow_succ, Nat.mul_comm, ← Nat.div_div_eq_div_mul]
    have e : val B l / B = val B l.tail := by
      rw [val_head B l, Nat.add_mul_div_left _ _ hB, Nat.div_eq_of_lt (getD_lt hB h 0), Nat.zero_add]
    rw [e, digit_at hB j l.tail (fun x hx => h x (List.mem_of_mem_tail hx)), getD_tail]
theorem bit_at {l : List Nat} (hl : Hs l) (i : Nat) : val B16 l / 2 ^ i % 2 = l.getD (i / 16) 0 / 2 ^ (i % 16) % 2 := by
  have e : i = 16 * (i / 16) + i % 16 := by omega
  have hr : i % 16 < 16 := Nat.mod_lt _ (by decide)
  rw [← digit_at (by decide : 0 < B16) (i / 16) l hl]
  generalize val B16 l = V at *
  generalize i / 16 = j at *
  generalize i % 16 = r at *
  subst e
  have e2 : (2 : Nat) ^ (16 * j + r) = B16 ^ j * 2 ^ r := by
    rw [Nat.pow_add, Nat.pow_mul]; rfl
  rw [e2, ← Nat.div_div_eq_div_mul]
  generalize V / B16 ^ j = x
  rw [← Nat.toNat_testBit, ← Nat.toNat_testBit]
  have : x % B16 = x % 2 ^ 16 := rfl
  rw [this, Nat.testBit_mod_two_pow]
  simp [hr]

set_option maxHeartbeats 1000000 in
theorem r01_bit_any (a : Option Addr) (n cap : Nat) (l : List Nat) (i : Nat) (w : World) (hs : Sl w a n cap (ints .u64 l)) (hl : Hs l) (hn : n ≤ 17592186044416) (hi : i ≤ 281474976710656) :
    Calls Try.prog 121 #[.slice a n cap, .int .i64 i] w fun e w' => e = .returned (.int .u64 (val B16 l / 2 ^ i % 2 : Nat)) ∧ w = w' := by
  have hlt := getD_lt (by unfold B16; omega) hl (i / 16)
  generalize hP : l.getD (i / 16) 0 = p at *
  have HP := hidP hP; clear hP
  have hpq : p < 65536 := by unfold B16 at hlt; omega
  clear hlt
  go_enter Try.func121, Try.ntmps121
  go_wp2_with fail
  refine (r01_at_any a n cap l (i / 16) _ hs hn).mono ?_
  rw [HP.out]
  rintro e w' ⟨rfl, rfl⟩
  go_wp2
  go_ret
  exact ⟨ret_int (by rw [bit_at hl i, HP.out]; rfl), rfl⟩

set_option maxHeartbeats 1000000 in
theorem r01_small_any (a : Option Addr) (n cap : Nat) (l : List Nat) (w : World) (hs : Sl w a n cap (ints .u64 l)) (hl : Hs l) (hn : n ≤ 4) :
    Calls Try.prog 135 #[.slice a n cap] w fun e w' => e = .returned (.int .u64 (val B16 l : Nat)) ∧ w = w' := by
  have hl1 := hs.int_len
  go_enter Try.func135, Try.ntmps135
  go_wp2_with fail
  go_loop [3, 4] (fun v i => ∃ k V : Nat, k ≤ n ∧ i = .int .i64 ((k : Int) - 1) ∧ v = .int .u64 V ∧ V = val B16 (l.drop k)) (fun _ i => (intOf i + 1).toNat)
  case atStart => exact ⟨n, 0, by omega, rfl, rfl, by rw [List.drop_of_length_le (by omega)]; rfl⟩
  case round =>
    obtain ⟨k, V, hk, rfl, rfl, hv⟩ := hrel
    have hlt := val_lt (B := B16) (by unfold B16; omega) (l.drop k) (fun x hx => hl x (List.mem_of_mem_drop hx))
    rw [← hv] at hlt
    have HV := hidP hv; clear hv
    by_cases h0 : 0 < k
    · obtain ⟨i, rfl⟩ : ∃ i, k = i + 1 := ⟨k - 1, by omega⟩
      have e1 : ((i + 1 : Nat) : Int) - 1 = (i : Int) := by omega
      rw [e1]
      clear e1
      obtain ⟨b, off, rfl, hc⟩ := hs.at_int (by omega)
      have hck := hc i (by omega)
      have hx := hl.at i (by omega)
      clear hc
      have hV : V < 281474976710656 := by
        have : B16 ^ (l.drop (i + 1)).length ≤ B16 ^ 3 := Nat.pow_le_pow_right (by decide) (by rw [List.length_drop]; omega)
        have e : B16 ^ 3 = 281474976710656 := by decide
        omega
      clear hlt
      go_wp2
      go_round
      case rel => exact ⟨i, l[i] + 65536 * V, by omega, by go_num, by refine congrArg _ ?_; omega, by rw [List.drop_eq_getElem_cons (by omega), val, HV.out]; rfl⟩
      case measure => simp [intOf]
    · obtain rfl : k = 0 := by omega
      go_wp2
      go_ret
      exact ⟨ret_int (by rw [HV.out]; simp), rfl⟩

end Go.Proofs.Ytcipcpbjkcpgdaa
