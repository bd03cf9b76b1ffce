/- The law of words of numbers: its walk. -/
import Derived.Test.YtcipcpbjkcpgdaaF3
import Derived.Test.YtcipcpbjkcpgdaaE2
import Derived.Test.YtcipcpbjkcpgdaaW2
import Derived.Test.YtcipcpbjkcpgdaaK3
namespace Go.Proofs.Ytcipcpbjkcpgdaa
set_option linter.unusedVariables false
open Go Go.RowKit

theorem uintR_yes {V : Nat} (h : V ≤ 18446744073709551615) : uintR V = .tuple #[.int .u64 (V : Int), .bool true] := by unfold uintR; rw [if_pos h]
theorem uintR_no {V : Nat} (h : ¬ V ≤ 18446744073709551615) : uintR V = .tuple #[.int .u64 0, .bool false] := by unfold uintR; rw [if_neg h]
theorem bitlen_64 {V : Nat} (h : V ≤ 18446744073709551615) : bitlen V ≤ 64 := bitlen_le (by omega)
theorem bitlen_64' {V : Nat} (h : ¬ V ≤ 18446744073709551615) : 64 < bitlen V := by
  rcases Nat.lt_or_ge 64 (bitlen V) with h1 | h1
  · exact h1
  · have h2 := lt_bitlen V
    have h3 : 2 ^ bitlen V ≤ 2 ^ 64 := Nat.pow_le_pow_right (by decide) h1
    exact absurd (Nat.lt_of_lt_of_le h2 h3) (by omega)

theorem shl_len {V m N M : Nat} (h : V < B32 ^ N) (hm : m ≤ 32 * M) : (dig B32 (V * 2 ^ m)).length ≤ N + M := by
  refine dig_len_le B32_two ?_
  have h2 : 2 ^ m ≤ 2 ^ (32 * M) := Nat.pow_le_pow_right (by decide) hm
  have h3 : 2 ^ (32 * M) = B32 ^ M := by rw [Nat.pow_mul]; rfl
  rw [Nat.pow_add, ← h3]
  exact Nat.lt_of_lt_of_le (Nat.mul_lt_mul_of_pos_right h (Nat.two_pow_pos _)) (Nat.mul_le_mul_left _ h2)
theorem shl32_len {k : Int} (x : List Nat) (hx : Ws x) : (shl32 (val B32 x) k).length ≤ x.length + 128 := by
  unfold shl32
  split
  · simp
  · split
    · exact shl_len (val_lt (B := B32) (by decide) x hx) (by omega)
    · have h1 := dig_mono B32_two (Nat.div_le_self (val B32 x) (2 ^ (-k).toNat))
      have h2 := dig_val_len B32_two x hx
      omega

set_option maxRecDepth 100000 in
set_option maxHeartbeats 4000000 in
theorem natWords_any (a : Option Addr) (n cap : Nat) (x : List Nat) (v : Nat) (k : Int) (w : World) (hs : Sl w a n cap (ints .u32 x)) (hx : Ws x) (hn : n ≤ 1048576) (hv : v ≤ 18446744073709551615) (hk1 : -9223372036854775808 ≤ k) (hk2 : k ≤ 9223372036854775807) :
    Calls Try.prog 4 #[.slice a n cap, .int .u64 v, .int .i64 k] w fun e w' => e = .returned (.bool true) ∧ Ext w w' := by
  have hlx := hs.int_len
  have hdl : (dig B32 (val B32 x)).length ≤ 1048576 := by have := dig_val_len B32_two x hx; omega
  have hdl16 := dig16_len_le x (fun d hd => hx d hd)
  have hdv : (dig B32 v).length ≤ 2 := dig_len_le B32_two (by unfold B32; omega)
  have hsh : (shl32 (val B32 x) k).length ≤ 1048705 := by have := shl32_len (k := k) x hx; omega
  have HS := hidP hs
  have s1 := fun u h => nat_Uint_any a n cap x u h hx (by omega)
  have s2 := fun u h => r01_Bits_any a n cap x u h hx (by omega)
  have s3 := fun u h => r01_half_any a n cap x u h hx (by omega)
  have s5 := fun u h => nat_Trim_any a n cap x u h hx (by omega)
  have s6 := fun u => nat_Of_any v u hv
  have s7 := fun u => r01_Of_any v hv u
  have s8 := fun u h => nat_Shift_any a n cap x k u h hx (by omega) ⟨hk1, hk2⟩
  have s9 := fun u h => r01_Shift_any a n cap x k u h hx (by omega)
  have HDV := hidP (val_dig B16_two (val B32 x))
  have hs16 : Hs (dig B16 (val B32 x)) := Hs.dig _
  have hl16 : (dig B16 (val B32 x)).length ≤ 2097152 := by
    have : (dig B16 (val B32 x)).length ≤ 2 * x.length := hdl16
    omega
  clear hdl16
  have hyes := fun h => uintR_yes (V := val B32 x) h
  have hno := fun h => uintR_no (V := val B32 x) h
  have b1 := fun h => bitlen_64 (V := val B32 x) h
  have b2 := fun h => bitlen_64' (V := val B32 x) h
  generalize hD16 : dig B16 (val B32 x) = D16 at *
  generalize shl32 (val B32 x) k = DS at *
  generalize dig B32 v = DV at *
  generalize uintR (val B32 x) = ur at *
  generalize bitlen (val B32 x) = bl at *
  have s10 := fun V hV u => r01_Of_any V hV u
  clear hD16
  generalize val B32 x = V at *
  generalize hD : dig B32 V = D at *
  have HD := hidP hD.symm
  clear hD
  have S1 := hidP s1; have S2 := hidP s2; have S3 := hidP s3; have S5 := hidP s5; have S6 := hidP s6; have S7 := hidP s7; have S8 := hidP s8; have S9 := hidP s9; have S10 := hidP s10
  have HYES := hidP hyes; have HNO := hidP hno; have HB1 := hidP b1; have HB2 := hidP b2
  clear s1 s2 s3 s5 s6 s7 s8 s9 s10 hs hlx hyes hno b1 b2
  by_cases hyes : V ≤ 18446744073709551615
  · skip
    have hur := HYES.out hyes
    have hbl : bl ≤ 64 := HB1.out hyes
    have hbd : decide ((bl : Int) ≤ 64) = true := decide_eq_true (by omega)
    subst hur
    have HY := hidP hyes; clear hyes
    go_enter Try.func4, Try.ntmps4
    go_wp2_with fail
    refine (S1.out _ HS.out).mono ?_
    rintro e u1 ⟨rfl, rfl⟩
    go_wp2_with fail
    refine (S2.out _ HS.out).mono ?_
    rintro e u2 ⟨rfl, heq2⟩
    have HE := heq2
    clear heq2
    go_wp2_with fail
    refine (S3.out _ (HS.out.ext HE)).mono ?_
    rintro e u3 ⟨a3, n3, c3, rfl, hs3, heq3⟩
    replace HE := HE.trans heq3
    clear heq3
    have hn3 : n3 ≤ 2097152 := by have := hs3.int_len; omega
    go_wp2_with fail
    refine (r01_words_any _ _ _ _ _ hs3 hs16 (by omega)).mono ?_
    rw [HDV.out, ← HD.out]
    rintro e u4 ⟨a4, n4, c4, rfl, hs4, heq4⟩
    replace hs3 := hs3.ext heq4
    replace HE := HE.trans heq4
    clear heq4
    clear hs3
    go_wp2_with fail
    refine (S5.out _ (HS.out.ext HE)).mono ?_
    rintro e u5 ⟨a5, n5, c5, rfl, hs5, heq5⟩
    replace hs4 := hs4.ext heq5
    replace HE := HE.trans heq5
    clear heq5
    go_wp2_with fail
    refine (S3.out _ (HS.out.ext HE)).mono ?_
    rintro e u6 ⟨a6, n6, c6, rfl, hs6, heq6⟩
    replace hs4 := hs4.ext heq6
    replace hs5 := hs5.ext heq6
    replace HE := HE.trans heq6
    clear heq6
    have hn6 : n6 ≤ 2097152 := by have := hs6.int_len; omega
    go_wp2_with fail
    refine (r01_words_any _ _ _ _ _ hs6 hs16 (by omega)).mono ?_
    rw [HDV.out, ← HD.out]
    rintro e u7 ⟨a7, n7, c7, rfl, hs7, heq7⟩
    replace hs4 := hs4.ext heq7
    replace hs5 := hs5.ext heq7
    replace hs6 := hs6.ext heq7
    replace HE := HE.trans heq7
    clear heq7
    clear hs6
    have hn5 : n5 ≤ 1048576 := by have := hs5.int_len; omega
    go_wp2_with fail
    refine (r01_Same_any a5 a7 n5 c5 n7 c7 D D _ hs5 hs7 (by omega)).mono ?_
    rw [decide_eq_true rfl]
    rintro e u8 ⟨rfl, heq8⟩
    replace hs4 := hs4.ext heq8
    replace hs5 := hs5.ext heq8
    replace hs7 := hs7.ext heq8
    replace HE := HE.trans heq8
    clear heq8
    clear hs5 hs7
    go_wp2_with fail
    refine (S6.out _).mono ?_
    rintro e u9 ⟨a9, n9, c9, rfl, hs9, heq9⟩
    replace hs4 := hs4.ext heq9
    replace HE := HE.trans heq9
    clear heq9
    go_wp2_with fail
    refine (S7.out _).mono ?_
    rintro e u10 ⟨a10, n10, c10, rfl, hs10, heq10⟩
    replace hs4 := hs4.ext heq10
    replace hs9 := hs9.ext heq10
    replace HE := HE.trans heq10
    clear heq10
    have hn9 : n9 ≤ 2 := by have := hs9.int_len; omega
    go_wp2_with fail
    refine (r01_Same_any a9 a10 n9 c9 n10 c10 DV DV _ hs9 hs10 (by omega)).mono ?_
    rw [decide_eq_true rfl]
    rintro e u11 ⟨rfl, heq11⟩
    replace hs4 := hs4.ext heq11
    replace hs9 := hs9.ext heq11
    replace hs10 := hs10.ext heq11
    replace HE := HE.trans heq11
    clear heq11
    clear hs9 hs10
    go_wp2_with fail
    refine (S10.out V HY.out _).mono ?_
    rw [← HD.out]
    rintro e u12 ⟨a12, n12, c12, rfl, hs12, heq12⟩
    replace hs4 := hs4.ext heq12
    replace HE := HE.trans heq12
    clear heq12
    have hn12 : n12 ≤ 1048576 := by have := hs12.int_len; omega
    go_wp2_with fail
    refine (r01_Same_any a12 a4 n12 c12 n4 c4 D D _ hs12 hs4 (by omega)).mono ?_
    rw [decide_eq_true rfl]
    rintro e u13 ⟨rfl, heq13⟩
    replace hs4 := hs4.ext heq13
    replace hs12 := hs12.ext heq13
    replace HE := HE.trans heq13
    clear heq13
    clear hs12 hs4
    go_wp2_with fail
    refine (S8.out _ (HS.out.ext HE)).mono ?_
    rintro e u14 ⟨a14, n14, c14, rfl, hs14, heq14⟩
    replace HE := HE.trans heq14
    clear heq14
    go_wp2_with fail
    refine (S9.out _ (HS.out.ext HE)).mono ?_
    rintro e u15 ⟨a15, n15, c15, rfl, hs15, heq15⟩
    replace hs14 := hs14.ext heq15
    replace HE := HE.trans heq15
    clear heq15
    have hn14 : n14 ≤ 1048705 := by have := hs14.int_len; omega
    go_wp2_with fail
    refine (r01_Same_any a14 a15 n14 c14 n15 c15 DS DS _ hs14 hs15 (by omega)).mono ?_
    rw [decide_eq_true rfl]
    rintro e u16 ⟨rfl, heq16⟩
    replace hs14 := hs14.ext heq16
    replace hs15 := hs15.ext heq16
    replace HE := HE.trans heq16
    clear heq16
    clear hs14 hs15
    go_wp2_with fail
    refine (n_lives_any _).mono ?_
    rintro e u17 ⟨rfl, heq17⟩
    replace HE := HE.trans heq17
    clear heq17
    go_wp2_with fail
    go_ret
    exact ⟨rfl, HE⟩
  · skip
    have hur := HNO.out hyes
    have hbl : ¬ bl ≤ 64 := by have := HB2.out hyes; omega
    have hbd : decide ((bl : Int) ≤ 64) = false := decide_eq_false (by omega)
    subst hur
    have HY := hidP hyes; clear hyes
    go_enter Try.func4, Try.ntmps4
    go_wp2_with fail
    refine (S1.out _ HS.out).mono ?_
    rintro e u1 ⟨rfl, rfl⟩
    go_wp2_with fail
    refine (S2.out _ HS.out).mono ?_
    rintro e u2 ⟨rfl, heq2⟩
    have HE := heq2
    clear heq2
    go_wp2_with fail
    refine (S5.out _ (HS.out.ext HE)).mono ?_
    rintro e u5 ⟨a5, n5, c5, rfl, hs5, heq5⟩
    replace HE := HE.trans heq5
    clear heq5
    go_wp2_with fail
    refine (S3.out _ (HS.out.ext HE)).mono ?_
    rintro e u6 ⟨a6, n6, c6, rfl, hs6, heq6⟩
    replace hs5 := hs5.ext heq6
    replace HE := HE.trans heq6
    clear heq6
    have hn6 : n6 ≤ 2097152 := by have := hs6.int_len; omega
    go_wp2_with fail
    refine (r01_words_any _ _ _ _ _ hs6 hs16 (by omega)).mono ?_
    rw [HDV.out, ← HD.out]
    rintro e u7 ⟨a7, n7, c7, rfl, hs7, heq7⟩
    replace hs5 := hs5.ext heq7
    replace hs6 := hs6.ext heq7
    replace HE := HE.trans heq7
    clear heq7
    clear hs6
    have hn5 : n5 ≤ 1048576 := by have := hs5.int_len; omega
    go_wp2_with fail
    refine (r01_Same_any a5 a7 n5 c5 n7 c7 D D _ hs5 hs7 (by omega)).mono ?_
    rw [decide_eq_true rfl]
    rintro e u8 ⟨rfl, heq8⟩
    replace hs5 := hs5.ext heq8
    replace hs7 := hs7.ext heq8
    replace HE := HE.trans heq8
    clear heq8
    clear hs5 hs7
    go_wp2_with fail
    refine (S6.out _).mono ?_
    rintro e u9 ⟨a9, n9, c9, rfl, hs9, heq9⟩
    replace HE := HE.trans heq9
    clear heq9
    go_wp2_with fail
    refine (S7.out _).mono ?_
    rintro e u10 ⟨a10, n10, c10, rfl, hs10, heq10⟩
    replace hs9 := hs9.ext heq10
    replace HE := HE.trans heq10
    clear heq10
    have hn9 : n9 ≤ 2 := by have := hs9.int_len; omega
    go_wp2_with fail
    refine (r01_Same_any a9 a10 n9 c9 n10 c10 DV DV _ hs9 hs10 (by omega)).mono ?_
    rw [decide_eq_true rfl]
    rintro e u11 ⟨rfl, heq11⟩
    replace hs9 := hs9.ext heq11
    replace hs10 := hs10.ext heq11
    replace HE := HE.trans heq11
    clear heq11
    clear hs9 hs10
    go_wp2_with fail
    refine (S10.out 0 (by omega) _).mono ?_
    rw [dig_zero]
    rintro e u12 ⟨a12, n12, c12, rfl, hs12, heq12⟩
    replace HE := HE.trans heq12
    clear heq12
    have hn12 : n12 ≤ 1048576 := by have := hs12.int_len; simp at this; omega
    go_wp2_with fail
    refine (r01_Same_any a12 none n12 c12 0 0 [] [] _ hs12 (Sl.nil _) (by omega)).mono ?_
    rw [decide_eq_true rfl]
    rintro e u13 ⟨rfl, heq13⟩
    replace hs12 := hs12.ext heq13
    replace HE := HE.trans heq13
    clear heq13
    clear hs12
    go_wp2_with fail
    refine (S8.out _ (HS.out.ext HE)).mono ?_
    rintro e u14 ⟨a14, n14, c14, rfl, hs14, heq14⟩
    replace HE := HE.trans heq14
    clear heq14
    go_wp2_with fail
    refine (S9.out _ (HS.out.ext HE)).mono ?_
    rintro e u15 ⟨a15, n15, c15, rfl, hs15, heq15⟩
    replace hs14 := hs14.ext heq15
    replace HE := HE.trans heq15
    clear heq15
    have hn14 : n14 ≤ 1048705 := by have := hs14.int_len; omega
    go_wp2_with fail
    refine (r01_Same_any a14 a15 n14 c14 n15 c15 DS DS _ hs14 hs15 (by omega)).mono ?_
    rw [decide_eq_true rfl]
    rintro e u16 ⟨rfl, heq16⟩
    replace hs14 := hs14.ext heq16
    replace hs15 := hs15.ext heq16
    replace HE := HE.trans heq16
    clear heq16
    clear hs14 hs15
    go_wp2_with fail
    refine (n_lives_any _).mono ?_
    rintro e u17 ⟨rfl, heq17⟩
    replace HE := HE.trans heq17
    clear heq17
    go_wp2_with fail
    go_ret
    exact ⟨rfl, HE⟩

end Go.Proofs.Ytcipcpbjkcpgdaa
