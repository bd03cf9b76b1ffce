/- The document's numbers (frisketref01): how many bits; powers of 2. -/
import Derived.Test.YtcipcpbjkcpgdaaA6
import Derived.Test.YtcipcpbjkcpgdaaBit
namespace Go.Proofs.Ytcipcpbjkcpgdaa
set_option linter.unusedVariables false
open Go Go.RowKit

set_option maxHeartbeats 1000000 in
theorem r01_Bits_any (a : Option Addr) (n cap : Nat) (x : List Nat) (w : World) (hs : Sl w a n cap (ints .u32 x)) (hx : Ws x) (hn : n ≤ 1099511627776) :
    Calls Try.prog 28 #[.slice a n cap] w fun e w' => e = .returned (.int .i64 (bitlen (val B32 x) : Nat)) ∧ Ext w w' := by
  go_enter Try.func28, Try.ntmps28
  go_wp2_with fail
  refine (r01_half_any a n cap x _ hs hx hn).mono ?_
  rintro e w1 ⟨a1, n1, cap1, rfl, hs1, he1⟩
  have hn1 := half_len hs hx hs1
  have hl1 := hs1.int_len
  have HL := hidP hl1; clear hl1
  go_wp2_with fail
  go_loop [4] (fun i => ∃ k : Nat, k ≤ 16 * n1 ∧ i = .int .i64 ((k : Int) - 1) ∧ val B32 x < 2 ^ k) (fun i => (intOf i + 1).toNat)
  case atStart =>
    refine ⟨16 * n1, by omega, by go_num, ?_⟩
    have := val_lt (B := B16) (by decide) (dig B16 (val B32 x)) (Hs.dig _)
    rw [val_dig B16_two, HL.out] at this
    rw [Nat.pow_mul]; exact this
  case round =>
    obtain ⟨k, hk, rfl, hv⟩ := hrel
    have HV := hidP hv; clear hv
    by_cases h0 : 0 < k
    · obtain ⟨i, rfl⟩ : ∃ i, k = i + 1 := ⟨k - 1, by omega⟩
      have e1 : ((i + 1 : Nat) : Int) - 1 = (i : Int) := by omega
      rw [e1]
      clear e1
      by_cases hb : val B32 x / 2 ^ i % 2 = 1
      · have HB := hidP hb; clear hb
        have HR : Hid (bitlen (val B32 x) = i + 1) := hidP (by
          refine bitlen_of ?_ HV.out
          have hb := HB.out
          rcases Nat.lt_or_ge (val B32 x) (2 ^ i) with h | h
          · rw [Nat.div_eq_of_lt h] at hb; simp at hb
          · exact h)
        go_wp2_with fail
        refine (r01_bit_any a1 n1 cap1 _ i _ hs1 (Hs.dig _) (by omega) (by omega)).mono ?_
        rw [val_dig B16_two, HB.out]
        rintro e w' ⟨rfl, rfl⟩
        go_wp2
        go_ret
        exact ⟨ret_int (by rw [HR.out]; rfl), he1⟩
      · have hb0 : val B32 x / 2 ^ i % 2 = 0 := by omega
        have HB := hidP hb0
        have HR : Hid (val B32 x < 2 ^ i) := hidP (by
          have h1 := HV.out
          rw [Nat.pow_succ] at h1
          have h2 : val B32 x / 2 ^ i < 2 := (Nat.div_lt_iff_lt_mul (Nat.two_pow_pos i)).2 (by omega)
          have h3 : val B32 x / 2 ^ i = 0 := by
            have h5 := HB.out
            generalize val B32 x / 2 ^ i = q at *
            omega
          rcases Nat.lt_or_ge (val B32 x) (2 ^ i) with h | h
          · exact h
          · have := Nat.div_pos h (Nat.two_pow_pos i); omega)
        clear hb hb0
        go_wp2_with fail
        refine (r01_bit_any a1 n1 cap1 _ i _ hs1 (Hs.dig _) (by omega) (by omega)).mono ?_
        rw [val_dig B16_two, HB.out]
        rintro e w' ⟨rfl, rfl⟩
        go_wp2
        go_round
        case rel => exact ⟨i, by omega, rfl, HR.out⟩
        case measure => simp [intOf]
    · obtain rfl : k = 0 := by omega
      have HR : Hid (bitlen (val B32 x) = 0) := hidP (by
        have := HV.out
        have h0 : val B32 x = 0 := by omega
        rw [h0]; rfl)
      go_wp2
      go_ret
      exact ⟨ret_int (by rw [HR.out]; rfl), he1⟩

set_option maxHeartbeats 1000000 in
theorem r01_twice_any (a : Option Addr) (n cap : Nat) (X : List Nat) (m : Nat) (w : World) (hs : Sl w a n cap (ints .u64 X)) (hX : Hs X) (hm : m ≤ 1) (hn : n ≤ 4398046511104) :
    Calls Try.prog 159 #[.slice a n cap, .int .u64 m] w (RetSl w (ints .u64 (dig B16 (2 * val B16 X + m)))) := by
  have hl1 := hs.int_len
  go_enter Try.func159, Try.ntmps159
  go_wp2_with fail
  go_loopw [5, 6, 7] (fun v c i wr => ∃ (k cc : Nat) (D : List Nat), k ≤ n + 1 ∧ i = .int .i64 k ∧ c = .int .u64 (cc : Nat) ∧ wr.ownsRow w.heap.size 32 1 v k (ints .u64 D) ∧ Ext w wr ∧ cc ≤ 1 ∧ D.length = k ∧ Hs D ∧ val B16 D + B16 ^ k * cc = (val B16 (X.take k) + val B16 (X.take k)) + m) (fun _ _ i _ => n + 1 - (intOf i).toNat)
  case atStart => exact ⟨0, m, [], by omega, rfl, rfl, by simpa [ints] using World.ownsRow_nil w w.heap.size 32 1, Ext.refl _, by omega, rfl, by simp [Hs], by simp [val]⟩
  case round =>
    obtain ⟨k, cc, D, hk, rfl, rfl, hown, he, hcc, hDl, hD, hv⟩ := hrel
    have HV := hidP hv; clear hv
    have hsx := hs.ext he
    by_cases h0 : k < n + 1
    · have hxi := getD_lt (by unfold B16; omega) hX k
      generalize hP : X.getD k 0 = p at *
      have HP := hidP hP; clear hP
      have hpq : p < 65536 := by unfold B16 at hxi; omega
      clear hxi
      go_wp2_with fail
      refine (r01_at_any a n cap X k _ hsx (by omega)).mono ?_
      rw [HP.out]; rintro e w' ⟨rfl, rfl⟩
      go_wp2_with (at_builtin; refine wpList_app1 T_u64 rfl _ _ rfl hown he _ rfl rfl rfl (by omega) (by omega) ?_; intro v' w' hown' he')
      go_roundw
      case rel =>
        refine ⟨k + 1, (2 * p + cc) / 65536, D ++ [(2 * p + cc) % 65536], by omega, by go_num, rfl, ?_, he', by omega, by simp [hDl], ?_, ?_⟩
        · rw [ints_append]; exact hown'
        · intro d hd
          rcases List.mem_append.1 hd with hd | hd
          · exact hD d hd
          · simp at hd; subst hd; exact Nat.mod_lt _ (by decide)
        · have := add_step (B := B16) (P := B16 ^ k) (x := p) (y := p) (X := val B16 (X.take k) + m) (Y := val B16 (X.take k)) (d := val B16 D) (c := cc) (by rw [HV.out]; omega)
          rw [val_take_snoc, HP.out, val_snoc, hDl, Nat.pow_succ, show 2 * p + cc = p + p + cc by omega]
          have e : val B16 D + B16 ^ k * ((p + p + cc) % 65536) + B16 ^ k * B16 * ((p + p + cc) / 65536) = val B16 (X.take k) + m + B16 ^ k * p + (val B16 (X.take k) + B16 ^ k * p) := this
          omega
      case measure => simp only [intOf]; omega
    · have hk5 : n < k := by omega
      have hk7 : k ≤ 4398046511105 := by omega
      clear hk h0
      obtain ⟨a5, cap5, rfl, hsl⟩ := Sl.of_owns hown
      have hv := HV.out
      rw [List.take_of_length_le (by omega)] at hv
      have HV2 : Hid (val B16 D = 2 * val B16 X + m) := hidP (by
        obtain ⟨j, rfl⟩ : ∃ j, k = j + 1 := ⟨k - 1, by omega⟩
        have h1 := val_lt (B := B16) (by decide) X hX
        have h3 : B16 ^ X.length ≤ B16 ^ j := Nat.pow_le_pow_right (by decide) (by omega)
        rw [Nat.pow_succ] at hv
        have h4 : B16 ^ j * B16 * cc = B16 ^ j * (B16 * cc) := Nat.mul_assoc _ _ _
        match cc, hcc with
        | 0, _ => simp only [Nat.mul_zero, Nat.add_zero] at hv; omega
        | 1, _ => simp only [Nat.mul_one] at hv; unfold B16 at *; omega)
      clear hv
      go_wp2_with fail
      refine (r01_cut_any _ _ _ _ _ hsl hD (by omega)).mono ?_
      rintro e w' ⟨rfl, rfl⟩
      go_wp2
      go_ret
      exact ⟨_, _, _, rfl, by rw [← HV2.out]; exact cut_sl hsl hD, he⟩

set_option maxHeartbeats 1000000 in
theorem r01_Power_any (n : Nat) (w : World) (hn : n ≤ 35184372088832) :
    Calls Try.prog 124 #[.int .i64 n] w (RetSl w (ints .u32 (dig B32 (2 ^ n)))) := by
  go_enter Try.func124, Try.ntmps124
  go_wp2_with fail
  have hlit := Sl.lit w 32 #[.int .u64 1] 1 rfl (by omega)
  have he0 : Ext w (w.alloc (.cells #[.int .u64 1] 32)) := (Ext.refl _).alloc _
  generalize w.alloc _ = w0 at *
  go_loopw [3, 4] (fun v i wr => ∃ (k m cap : Nat) (a : Option Addr), k ≤ n ∧ i = .int .i64 k ∧ v = .slice a m cap ∧ Sl wr a m cap (ints .u64 (dig B16 (2 ^ k))) ∧ Ext w wr) (fun _ i _ => n - (intOf i).toNat)
  case atStart => exact ⟨0, 1, 1, _, by omega, rfl, rfl, hlit, he0⟩
  case round =>
    obtain ⟨k, m, cap, a, hk, rfl, rfl, hsl, he⟩ := hrel
    have hm : m ≤ k / 16 + 1 := by
      have := hsl.int_len
      have h2 : (dig B16 (2 ^ k)).length ≤ k / 16 + 1 := dig_len_le B16_two (by
        have : B16 ^ (k / 16 + 1) = 2 ^ (16 * (k / 16 + 1)) := by rw [Nat.pow_mul]; rfl
        rw [this]
        exact Nat.pow_lt_pow_right (by decide) (by omega))
      omega
    by_cases h0 : k < n
    · go_wp2_with fail
      refine (r01_twice_any a m cap _ 0 _ hsl (Hs.dig _) (by omega) (by omega)).mono ?_
      rw [val_dig B16_two]
      rintro e w1 ⟨a1, m1, cap1, rfl, hs1, he1⟩
      go_wp2_with fail
      go_roundw
      case rel => exact ⟨k + 1, m1, cap1, a1, by omega, by go_num, rfl, by rw [Nat.pow_succ, Nat.mul_comm]; exact hs1, he.trans he1⟩
      case measure => simp only [intOf]; omega
    · obtain rfl : k = n := by omega
      go_wp2_with fail
      refine (r01_words_any a m cap _ _ hsl (Hs.dig _) (by omega)).mono ?_
      rw [val_dig B16_two]
      rintro e w1 ⟨a1, m1, cap1, rfl, hs1, he1⟩
      go_wp2
      go_ret
      exact ⟨_, _, _, rfl, hs1, he.trans he1⟩

end Go.Proofs.Ytcipcpbjkcpgdaa
