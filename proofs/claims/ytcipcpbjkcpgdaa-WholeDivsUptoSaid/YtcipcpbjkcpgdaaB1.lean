/- The program's numbers (nat): small functions. -/
import Derived.Test.YtcipcpbjkcpgdaaA1
import Derived.Test.YtcipcpbjkcpgdaaMem2
import Derived.Test.YtcipcpbjkcpgdaaBit
import Derived.Test.YtcipcpbjkcpgdaaShelf
namespace Go.Proofs.Ytcipcpbjkcpgdaa
set_option linter.unusedVariables false
open Go Go.RowKit

theorem T_u64' : SlT Try.prog 37 32 (.int .u64 0) 8 :=
  let ⟨i, h1, h2, h3, h4⟩ := info_parts (P := Try.prog) (e := 32) (z := .int .u64 0) (size := 1) (bytes := 8) (by kernel_rfl); ⟨Try.underlying37, i, h1, h2, h3, h4, rfl⟩
theorem T_u32' : SlT Try.prog 22 57 (.int .u32 0) 4 :=
  let ⟨i, h1, h2, h3, h4⟩ := info_parts (P := Try.prog) (e := 57) (z := .int .u32 0) (size := 1) (bytes := 4) (by kernel_rfl); ⟨Try.underlying22, i, h1, h2, h3, h4, rfl⟩

theorem ret_int2 {k j : IntKind} {a b c d : Int} (h1 : a = b) (h2 : c = d) : Ending.returned (.tuple #[.int k a, .int j c]) = .returned (.tuple #[.int k b, .int j d]) := by rw [h1, h2]

set_option maxHeartbeats 400000 in
theorem bits_Add32_any (x y c : Nat) (w : World) (hx : x ≤ 4294967295) (hy : y ≤ 4294967295) (hc : c ≤ 1) :
    Calls Try.prog 128 #[.int .u32 x, .int .u32 y, .int .u32 c] w fun e w' => e = .returned (.tuple #[.int .u32 ((x + y + c) % 4294967296 : Nat), .int .u32 ((x + y + c) / 4294967296 : Nat)]) ∧ w = w' := by
  go_enter Try.func128, Try.ntmps128
  go_wp2
  go_ret2
  exact ⟨rfl, rfl⟩

set_option maxHeartbeats 400000 in
theorem bits_Sub32_any (x y c : Nat) (w : World) (hx : x ≤ 4294967295) (hy : y ≤ 4294967295) (hc : c ≤ 1) :
    Calls Try.prog 125 #[.int .u32 x, .int .u32 y, .int .u32 c] w fun e w' => e = .returned (.tuple #[.int .u32 ((4294967296 + x - y - c) % 4294967296 : Nat), .int .u32 (1 - (4294967296 + x - y - c) / 4294967296 : Nat)]) ∧ w = w' := by
  have HB := hidP (borrow_bits x y c hx hy hc)
  go_enter Try.func125, Try.ntmps125
  go_wp2
  go_ret2
  exact ⟨ret_int2 (by omega) HB.out, rfl⟩

theorem bits_Len32_any (x : Nat) (w : World) (hx : x ≤ 4294967295) :
    Calls Try.prog 130 #[.int .u32 x] w fun e w' => e = .returned (.int .i64 (bitlen x : Nat)) ∧ w = w' := by
  refine (Try.bits_Len32 x w (by omega) (by omega)).mono ?_
  rintro e w' ⟨rfl, rfl⟩
  refine ⟨ret_int ?_, rfl⟩
  rw [Int.toNat_natCast, Lib.bitLen, bitLen_eq 64 x (by omega)]

theorem bits_LeadingZeros32_any (x : Nat) (w : World) (hx : x ≤ 4294967295) :
    Calls Try.prog 131 #[.int .u32 x] w fun e w' => e = .returned (.int .i64 (32 - bitlen x : Nat)) ∧ w = w' := by
  refine (Try.bits_LeadingZeros32 x w (by omega) (by omega)).mono ?_
  rintro e w' ⟨rfl, rfl⟩
  refine ⟨ret_int ?_, rfl⟩
  have : bitlen x ≤ 32 := bitlen_le (by omega)
  rw [Int.toNat_natCast, Lib.bitLen, bitLen_eq 64 x (by omega)]
  omega

set_option maxHeartbeats 1000000 in
theorem nat_Trim_any (a : Option Addr) (n cap : Nat) (l : List Nat) (w : World) (hs : Sl w a n cap (ints .u32 l)) (hl : Ws l) (hn : n ≤ 1099511627776) :
    Calls Try.prog 31 #[.slice a n cap] w (RetSl w (ints .u32 (dig B32 (val B32 l)))) := by
  have hlen := hs.int_len
  have HT := hidP (take_dig_len B32_two l hl)
  have HL := hidP (dig_val_len B32_two l hl)
  obtain ⟨m, hm2⟩ : ∃ m, m = (dig B32 (val B32 l)).length := ⟨_, rfl⟩
  have hmn : m ≤ n := by have := HL.out; omega
  have HM := hidP hm2; clear hm2
  by_cases h0 : m = 0
  · have HD : Hid (dig B32 (val B32 l) = []) := hidP (List.eq_nil_of_length_eq_zero (by rw [← HM.out]; exact h0))
    go_enter Try.func31, Try.ntmps31
    go_wp2_with fail
    refine (nat_size_any a n cap l _ hs hl (by omega)).mono ?_
    rw [← HM.out]; rintro e w' ⟨rfl, rfl⟩
    go_wp2
    go_ret
    exact ⟨none, 0, 0, rfl, by rw [HD.out]; exact Sl.nil _, Ext.refl _⟩
  · obtain ⟨k, rfl⟩ : ∃ k, m = k + 1 := ⟨m - 1, by omega⟩
    have hz : (((k + 1 : Nat) : Int) == 0) = false := by simp; omega
    go_enter Try.func31, Try.ntmps31
    go_wp2_with fail
    refine (nat_size_any a n cap l _ hs hl (by omega)).mono ?_
    rw [← HM.out]; rintro e w' ⟨rfl, rfl⟩
    go_wp2_with (first | (at_make; refine wpList_make (W := w) (n := k + 1) T_u32' rfl _ _ rfl rfl rfl (Ext.refl _) (by omega) (by omega) rfl ?_; intro w1 hown he hsz) | (have _h := hown; refine wpList_copyRow (k := k + 1) T_u32' rfl _ _ rfl rfl rfl hown he (hs.ext he) (ints_one _ _) (Nat.min_eq_right hmn).symm ?_; intro w2 hown2 he2))
    go_ret
    refine ⟨_, _, _, rfl, ?_, he2⟩
    have h2 := Sl.of_owns' hown2
    have ht := HT.out
    rw [← HM.out] at ht
    have hr : (List.replicate (k + 1) (Value.int IntKind.u32 0)).drop (k + 1) = [] := by simp
    rw [hr, List.append_nil, ints_take, ht] at h2
    exact h2

set_option maxHeartbeats 1000000 in
theorem nat_Of_any (v : Nat) (w : World) (hv : v ≤ 18446744073709551615) :
    Calls Try.prog 32 #[.int .u64 v] w (RetSl w (ints .u32 (dig B32 v))) := by
  have hlo := lo32 v hv
  go_enter Try.func32, Try.ntmps32
  go_wp2_with fail
  refine (nat_Trim_any _ 2 2 [v % 4294967296, v / 4294967296] _ (Sl.lit w _ _ 2 rfl (by omega)) ?_ (by omega)).mono ?_
  · intro x hx
    simp at hx
    unfold B32
    rcases hx with rfl | rfl <;> omega
  have hval : val B32 [v % 4294967296, v / 4294967296] = v := by
    simp only [val, B32]; omega
  rw [hval]
  clear hval
  rintro e w' ⟨a5, n5, cap5, rfl, hs5, he5⟩
  go_wp2
  go_ret
  exact ⟨_, _, _, rfl, hs5, ((Ext.refl _).alloc _).trans he5⟩

set_option maxHeartbeats 1000000 in
theorem nat_Bits_any (a : Option Addr) (n cap : Nat) (l : List Nat) (w : World) (hs : Sl w a n cap (ints .u32 l)) (hl : Ws l) (hn : n ≤ 1099511627776) :
    Calls Try.prog 42 #[.slice a n cap] w fun e w' => e = .returned (.int .i64 (bitlen (val B32 l) : Nat)) ∧ w = w' := by
  have hlen := hs.int_len
  have HT := hidP (take_dig_len B32_two l hl)
  have HL := hidP (dig_val_len B32_two l hl)
  obtain ⟨m, hm2⟩ : ∃ m, m = (dig B32 (val B32 l)).length := ⟨_, rfl⟩
  have hmn : m ≤ n := by have := HL.out; omega
  have HM := hidP hm2; clear hm2
  by_cases h0 : m = 0
  · have HD : Hid (bitlen (val B32 l) = 0) := hidP (by
      have h1 : dig B32 (val B32 l) = [] := List.eq_nil_of_length_eq_zero (by rw [← HM.out]; exact h0)
      have h2 := val_dig B32_two (val B32 l)
      rw [h1] at h2
      rw [← h2]; rfl)
    go_enter Try.func42, Try.ntmps42
    go_wp2_with fail
    refine (nat_size_any a n cap l _ hs hl (by omega)).mono ?_
    rw [← HM.out]; rintro e w' ⟨rfl, rfl⟩
    go_wp2
    go_ret
    exact ⟨ret_int (by rw [HD.out]; rfl), rfl⟩
  · have hz : ((m : Int) == 0) = false := by simp [h0]
    obtain ⟨k, rfl⟩ : ∃ k, m = k + 1 := ⟨m - 1, by omega⟩
    obtain ⟨b, off, rfl, hc⟩ := hs.at_int (by omega)
    have hck := hc k (by omega)
    have hx := hl.at k (by omega)
    have HBL : Hid (bitlen (val B32 l) = k * 32 + bitlen l[k]) := hidP (by
      have ht := HT.out
      rw [← HM.out] at ht
      have h1 := val_dig B32_two (val B32 l)
      rw [← ht, List.take_succ_eq_append_getElem (by omega), val_snoc, List.length_take, Nat.min_eq_left (by omega)] at h1
      have hlow := val_lt (B := B32) (by decide) (l.take k) (fun d hd => hl d (List.mem_of_mem_take hd))
      rw [List.length_take, Nat.min_eq_left (by omega)] at hlow
      have hne : l[k] ≠ 0 := by
        intro h0
        rw [h0, Nat.mul_zero, Nat.add_zero] at h1
        rw [h1] at hlow
        have := dig_len_le B32_two hlow
        have := HM.out
        omega
      rw [← h1]
      exact bitlen_top hlow hne)
    clear hc
    go_enter Try.func42, Try.ntmps42
    go_wp2_with fail
    refine (nat_size_any _ n cap l _ hs hl (by omega)).mono ?_
    rw [← HM.out]; rintro e w' ⟨rfl, rfl⟩
    go_wp2_with fail
    refine (bits_Len32_any l[k] _ (by omega)).mono ?_
    have hbl : bitlen l[k] ≤ 32 := bitlen_le (by omega)
    generalize bitlen l[k] = bl at *
    rintro e w' ⟨rfl, rfl⟩
    go_wp2
    go_ret
    exact ⟨ret_int (by rw [HBL.out]; omega), rfl⟩
end Go.Proofs.Ytcipcpbjkcpgdaa
