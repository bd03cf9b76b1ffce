/- The document's numbers (frisketref01): how many bits; powers of 2. -/
import Derived.Test.YtbhjookpdmfdnaaDoorA6
import Derived.Test.YtbhjookpdmfdnaaDoorBit
namespace Go.Proofs.YtbhjookpdmfdnaaDoor
set_option linter.unusedVariables false
open Go Go.RowKit

set_option maxHeartbeats 1000000 in
theorem r01_Bits_any (a : Option Addr) (n cap : Nat) (x : List Nat) (w : World) (hs : Sl w a n cap (ints .u32 x)) (hx : Ws x) (hn : n ≤ 1099511627776) :
    Calls Tryd.prog 53 #[.slice a n cap] w fun e w' => e = .returned (.int .i64 (bitlen (val B32 x) : Nat)) ∧ Ext w w' := by
  go_enter Tryd.func53, Tryd.ntmps53
  go_wp2_with fail
  refine (r01_half_any a n cap x _ hs hx hn).mono ?_
  rintro e w1 ⟨a1, n1, cap1, rfl, hs1, he1⟩
  have hn1 := half_len hs hx hs1
  have hl1 := hs1.int_len
  have HL := hidP hl1; clear hl1
  go_wp2_with fail
  go_loop [4] (fun i => ∃ k : Nat, k ≤ 16 * n1 ∧ i = .int .i64 ((k : Int) - 1) ∧ val B32 x < 2 ^ k) (fun i => (intOf i + 1).toNat)
  case atStart =>
    refine ⟨16 * n1, by omega, by go_num, ?_⟩
    have := val_lt (B := B16) (by decide) (dig B16 (val B32 x)) (Hs.dig _)
    rw [val_dig B16_two, HL.out] at this
    rw [Nat.pow_mul]; exact this
  case round =>
    obtain ⟨k, hk, rfl, hv⟩ := hrel
    have HV := hidP hv; clear hv
    by_cases h0 : 0 < k
    · obtain ⟨i, rfl⟩ : ∃ i, k = i + 1 := ⟨k - 1, by omega⟩
      have e1 : ((i + 1 : Nat) : Int) - 1 = (i : Int) := by omega
      rw [e1]
      clear e1
      by_cases hb : val B32 x / 2 ^ i % 2 = 1
      · have HB := hidP hb; clear hb
        have HR : Hid (bitlen (val B32 x) = i + 1) := hidP (by
          refine bitlen_of ?_ HV.out
          have hb := HB.out
          rcases Nat.lt_or_ge (val B32 x) (2 ^ i) with h | h
          · rw [Nat.div_eq_of_lt h] at hb; simp at hb
          · exact h)
        go_wp2_with fail
        refine (r01_bit_any a1 n1 cap1 _ i _ hs1 (Hs.dig _) (by omega) (by omega)).mono ?_
        rw [val_dig B16_two, HB.out]
        rintro e w' ⟨rfl, rfl⟩
        go_wp2
        go_ret
        exact ⟨ret_int (by rw [HR.out]; rfl), he1⟩
      · have hb0 : val B32 x / 2 ^ i % 2 = 0 := by omega
        have HB := hidP hb0
        have HR : Hid (val B32 x < 2 ^ i) := hidP (by
          have h1 := HV.out
          rw [Nat.pow_succ] at h1
          have h2 : val B32 x / 2 ^ i < 2 := (Nat.div_lt_iff_lt_mul (Nat.two_pow_pos i)).2 (by omega)
          have h3 : val B32 x / 2 ^ i = 0 := by
            have h5 := HB.out
            generalize val B32 x / 2 ^ i = q at *
            omega
          rcases Nat.lt_or_ge (val B32 x) (2 ^ i) with h | h
          · exact h
          · have := Nat.div_pos h (Nat.two_pow_pos i); omega)
        clear hb hb0
        go_wp2_with fail
        refine (r01_bit_any a1 n1 cap1 _ i _ hs1 (Hs.dig _) (by omega) (by omega)).mono ?_
        rw [val_dig B16_two, HB.out]
        rintro e w' ⟨rfl, rfl⟩
        go_wp2
        go_round
        case rel => exact ⟨i, by omega, rfl, HR.out⟩
        case measure => simp [intOf]
    · obtain rfl : k = 0 := by omega
      have HR : Hid (bitlen (val B32 x) = 0) := hidP (by
        have := HV.out
        have h0 : val B32 x = 0 := by omega
        rw [h0]; rfl)
      go_wp2
      go_ret
      exact ⟨ret_int (by rw [HR.out]; rfl), he1⟩

end Go.Proofs.YtbhjookpdmfdnaaDoor
