/- The law of what is found again: its walk. -/
import Derived.Test.YtcipcpbjkcpgdaaF3
import Derived.Test.YtcipcpbjkcpgdaaK10
import Derived.Test.YtcipcpbjkcpgdaaT1
namespace Go.Proofs.Ytcipcpbjkcpgdaa
set_option linter.unusedVariables false
open Go Go.RowKit

theorem parse_dec {A : Nat} (u : World) (h : (decS A).size ≤ 2000) : Calls Try.prog 21 #[.string (decS A)] u fun e w' => ∃ a n cap, e = .returned (.tuple #[.slice a n cap, .int .i64 0]) ∧ Nc w' a n cap A ∧ Ext u w' := by
  refine (nat_Parse_any (decS A) u).mono ?_
  have hl := natsOf_len (decS A)
  have hd := natsOf_decS A
  have hp := dTx_plain A
  have hv := dTx_dval A
  rintro e w' (⟨h1, _⟩ | ⟨_, h2, _⟩ | ⟨_, _, a, n, cap, rfl, hs, he⟩)
  · omega
  · rw [hd] at h2; exact absurd hp h2
  · rw [hd, hv] at hs; exact ⟨a, n, cap, rfl, hs, he⟩
theorem parse_big {s : ByteArray} (u : World) (h : 2000 < s.size) : Calls Try.prog 21 #[.string s] u fun e w' => e = .returned (.tuple #[.slice none 0 0, .int .i64 4]) ∧ Ext u w' := by
  refine (nat_Parse_any s u).mono ?_
  have hl := natsOf_len s
  rintro e w' (⟨h1, rfl, he⟩ | ⟨h1, _⟩ | ⟨h1, _⟩)
  · exact ⟨rfl, he⟩
  · omega
  · omega
theorem bitlen_ne {V : Nat} (h : V ≠ 0) : 1 ≤ bitlen V := (bitlen_low h).1

set_option maxRecDepth 100000 in
set_option maxHeartbeats 8000000 in
theorem natBack_any (a : Option Addr) (n cap : Nat) (x : List Nat) (a' : Option Addr) (n' cap' : Nat) (y : List Nat) (a'' : Option Addr) (n'' cap'' : Nat) (z : List Nat) (w : World) (hs : Sl w a n cap (ints .u32 x)) (hx : Ws x) (hn : n ≤ 1048576) (hs' : Sl w a' n' cap' (ints .u32 y)) (hy : Ws y) (hn' : n' ≤ 1048576) (hs'' : Sl w a'' n'' cap'' (ints .u32 z)) (hz : Ws z) (hn'' : n'' ≤ 1048576) :
    Calls Try.prog 7 #[.slice a n cap, .slice a' n' cap', .slice a'' n'' cap''] w fun e w' => e = .returned (.bool true) ∧ Ext w w' := by
  have hA : Nu w a n cap (val B32 x) := ⟨⟨x, hs, hx, rfl⟩, by omega⟩
  have hB : Nu w a' n' cap' (val B32 y) := ⟨⟨y, hs', hy, rfl⟩, by omega⟩
  have hC : Nu w a'' n'' cap'' (val B32 z) := ⟨⟨z, hs'', hz, rfl⟩, by omega⟩
  generalize val B32 x = A at *
  generalize val B32 y = B at *
  generalize val B32 z = C at *
  have dA := hA.dl
  have dB := hB.dl
  have dC := hC.dl
  have hd1 : dl (A + B) ≤ 1048577 := dl_add (by omega) (by omega)
  have hd2 : dl (B + C) ≤ 1048577 := dl_add (by omega) (by omega)
  have hd3 : dl (A * B) ≤ 2097152 := by have := dl_mul A B; omega
  have hd4 : dl (A * B + C) ≤ 2097153 := dl_add (by omega) (by omega)
  have hd5 : dl ((A * B + C) / B) ≤ 2097153 := by have := dl_div (A * B + C) B; omega
  have hd6 : dl ((A * B + C) % B) ≤ 2097153 := by have := dl_mod (A * B + C) B; omega
  have hd7 : dl ((A * B + C) / B * B) ≤ 4194304 := by have := dl_mul ((A * B + C) / B) B; omega
  have hd8 : dl (A * C) ≤ 2097152 := by have := dl_mul A C; omega
  have hd9 : dl (A * (B + C)) ≤ 4194304 := by have := dl_mul A (B + C); omega
  have hdm : (A * B + C) / B * B + (A * B + C) % B = A * B + C := Nat.div_add_mod' _ _
  have hmul : A * (B + C) = A * B + A * C := Nat.mul_add _ _ _
  have hsub : A + B - B = A := Nat.add_sub_cancel _ _
  have hmod : 0 < B → (A * B + C) % B < B := fun h => Nat.mod_lt _ h
  have htx : (decS A).size ≤ 2000 → ∀ u, _ := fun h u => parse_dec (A := A) u h
  have htb : 2000 < (decS A).size → ∀ u, _ := fun h u => parse_big (s := decS A) u h
  have hT := fun u h => @n_Text a n cap A u h
  obtain ⟨D1, hD1⟩ : ∃ D1, D1 = A + B := ⟨_, rfl⟩
  obtain ⟨D2, hD2⟩ : ∃ D2, D2 = B + C := ⟨_, rfl⟩
  obtain ⟨P, hP⟩ : ∃ P, P = A * B := ⟨_, rfl⟩
  obtain ⟨P2, hP2⟩ : ∃ P2, P2 = A * C := ⟨_, rfl⟩
  obtain ⟨L, hL⟩ : ∃ L, L = P + C := ⟨_, rfl⟩
  have S1 := hidP (fun u h h' => hD1 ▸ @n_Add a a' n cap n' cap' A B u h h')
  generalize decS A = tx at *
  have HA := hidP hA; have HB := hidP hB; have HC := hidP hC
  have HDM := hidP hdm; have HMUL := hidP hmul; have HSUB := hidP hsub; have HMOD := hidP hmod; have HTX := hidP htx; have HTB := hidP htb; have HT := hidP hT
  have d1 := hidP hd1; have d2 := hidP hd2; have d3 := hidP hd3; have d4 := hidP hd4; have d5 := hidP hd5; have d6 := hidP hd6; have d7 := hidP hd7; have d8 := hidP hd8; have d9 := hidP hd9
  have dA' := hidP dA
  clear hA hB hC hdm hmul hsub hmod htx htb hT hd1 hd2 hd3 hd4 hd5 hd6 hd7 hd8 hd9 dA dB dC hs hs' hs'' hD1 hD2 hP hP2 hL S1
  by_cases hz0 : B = 0
  · have HZ := hidP hz0
    have HBL : Hid (bitlen B = 0) := hidP (by rw [HZ.out]; rfl)
    clear hz0
    by_cases hbig : 2000 < tx.size
    · have hbi : (2000 : Int) < (tx.size : Int) := by omega
      go_enter Try.func7, Try.ntmps7
      go_wp2_with fail
      refine (n_Add HA.out HB.out).mono ?_
      rintro e u1 ⟨a1, n1, c1, rfl, hs1, heq1⟩
      have HE := heq1
      clear heq1
      go_wp2_with fail
      refine (n_Sub (hs1.nu (by have := d1.out; omega)) (HB.out.ext HE)).mono ?_
      rw [HSUB.out, decide_eq_true (Nat.le_add_left B A)]
      rintro e u2 ⟨a2, n2, c2, rfl, hs2, heq2⟩
      replace hs1 := hs1.ext heq2
      replace HE := HE.trans heq2
      clear heq2
      clear hs1
      go_wp2_with fail
      refine (n_Add (HB.out.ext HE) (HC.out.ext HE)).mono ?_
      rintro e u3 ⟨a3, n3, c3, rfl, hs3, heq3⟩
      replace hs2 := hs2.ext heq3
      replace HE := HE.trans heq3
      clear heq3
      go_wp2_with fail
      refine (n_Mul (HA.out.ext HE) (hs3.nu (by have := d2.out; omega))).mono ?_
      rintro e u4 ⟨a4, n4, c4, rfl, hs4, heq4⟩
      replace hs2 := hs2.ext heq4
      replace hs3 := hs3.ext heq4
      replace HE := HE.trans heq4
      clear heq4
      clear hs3
      go_wp2_with fail
      refine (n_Mul (HA.out.ext HE) (HB.out.ext HE)).mono ?_
      rintro e u5 ⟨a5, n5, c5, rfl, hs5, heq5⟩
      replace hs2 := hs2.ext heq5
      replace hs4 := hs4.ext heq5
      replace HE := HE.trans heq5
      clear heq5
      go_wp2_with fail
      refine (n_Add (hs5.nu (by have := d3.out; omega)) (HC.out.ext HE)).mono ?_
      rintro e u6 ⟨a6, n6, c6, rfl, hs6, heq6⟩
      replace hs2 := hs2.ext heq6
      replace hs4 := hs4.ext heq6
      replace hs5 := hs5.ext heq6
      replace HE := HE.trans heq6
      clear heq6
      clear hs5
      have hq := @n_Div a6 a' n6 c6 n' cap' (A * B + C) B u6 (hs6.nu (by have := d4.out; omega)) (HB.out.ext HE)
      unfold RetQR at hq
      rw [decide_eq_false (by simp [HZ.out]), if_pos HZ.out, if_pos HZ.out] at hq
      have HQ := hidP hq
      clear hq
      go_wp2_with fail
      refine (HQ.out).mono ?_
      rintro e u7 ⟨a7q, n7q, c7q, a7r, n7r, c7r, rfl, hs7q, hs7r, heq7⟩
      replace hs2 := hs2.ext heq7
      replace hs4 := hs4.ext heq7
      replace hs6 := hs6.ext heq7
      replace HE := HE.trans heq7
      clear heq7
      clear HQ
      clear hs6
      go_wp2_with fail
      refine (HT.out _ (HA.out.ext HE)).mono ?_
      rintro e u8 ⟨rfl, heq8⟩
      replace hs2 := hs2.ext heq8
      replace hs4 := hs4.ext heq8
      replace hs7q := hs7q.ext heq8
      replace hs7r := hs7r.ext heq8
      replace HE := HE.trans heq8
      clear heq8
      go_wp2_with fail
      refine (HTB.out hbig _).mono ?_
      rintro e u9 ⟨rfl, heq9⟩
      replace hs2 := hs2.ext heq9
      replace hs4 := hs4.ext heq9
      replace hs7q := hs7q.ext heq9
      replace hs7r := hs7r.ext heq9
      replace HE := HE.trans heq9
      clear heq9
      go_wp2_with fail
      refine (n_Bits (HB.out.ext HE)).mono ?_
      rw [HBL.out]
      rintro e u10 ⟨rfl, rfl⟩
      clear hs7q hs7r
      go_wp2_with fail
      refine (n_Trim (HA.out.ext HE)).mono ?_
      rintro e u17 ⟨a17, n17, c17, rfl, hs17, heq17⟩
      replace hs2 := hs2.ext heq17
      replace hs4 := hs4.ext heq17
      replace HE := HE.trans heq17
      clear heq17
      go_wp2_with fail
      refine (d_Same_eq hs2 hs17 (by have := dA'.out; omega)).mono ?_
      rintro e u18 ⟨rfl, heq18⟩
      replace hs2 := hs2.ext heq18
      replace hs4 := hs4.ext heq18
      replace hs17 := hs17.ext heq18
      replace HE := HE.trans heq18
      clear heq18
      clear hs2 hs17
      go_wp2_with fail
      refine (n_Mul (HA.out.ext HE) (HB.out.ext HE)).mono ?_
      rintro e u19 ⟨a19, n19, c19, rfl, hs19, heq19⟩
      replace hs4 := hs4.ext heq19
      replace HE := HE.trans heq19
      clear heq19
      go_wp2_with fail
      refine (n_Mul (HA.out.ext HE) (HC.out.ext HE)).mono ?_
      rintro e u20 ⟨a20, n20, c20, rfl, hs20, heq20⟩
      replace hs4 := hs4.ext heq20
      replace hs19 := hs19.ext heq20
      replace HE := HE.trans heq20
      clear heq20
      go_wp2_with fail
      refine (n_Add (hs19.nu (by have := d3.out; omega)) (hs20.nu (by have := d8.out; omega))).mono ?_
      rw [← HMUL.out]
      rintro e u21 ⟨a21, n21, c21, rfl, hs21, heq21⟩
      replace hs4 := hs4.ext heq21
      replace hs19 := hs19.ext heq21
      replace hs20 := hs20.ext heq21
      replace HE := HE.trans heq21
      clear heq21
      clear hs19 hs20
      go_wp2_with fail
      refine (d_Same_eq hs4 hs21 (by have := d9.out; omega)).mono ?_
      rintro e u22 ⟨rfl, heq22⟩
      replace hs4 := hs4.ext heq22
      replace hs21 := hs21.ext heq22
      replace HE := HE.trans heq22
      clear heq22
      clear hs4 hs21
      go_wp2_with fail
      refine (n_lives_any _).mono ?_
      rintro e u25 ⟨rfl, heq25⟩
      replace HE := HE.trans heq25
      clear heq25
      go_wp2_with fail
      go_ret
      exact ⟨rfl, HE⟩
    · replace hbig : tx.size ≤ 2000 := by omega
      have hbi : ¬ (2000 : Int) < (tx.size : Int) := by omega
      go_enter Try.func7, Try.ntmps7
      go_wp2_with fail
      refine (n_Add HA.out HB.out).mono ?_
      rintro e u1 ⟨a1, n1, c1, rfl, hs1, heq1⟩
      have HE := heq1
      clear heq1
      go_wp2_with fail
      refine (n_Sub (hs1.nu (by have := d1.out; omega)) (HB.out.ext HE)).mono ?_
      rw [HSUB.out, decide_eq_true (Nat.le_add_left B A)]
      rintro e u2 ⟨a2, n2, c2, rfl, hs2, heq2⟩
      replace hs1 := hs1.ext heq2
      replace HE := HE.trans heq2
      clear heq2
      clear hs1
      go_wp2_with fail
      refine (n_Add (HB.out.ext HE) (HC.out.ext HE)).mono ?_
      rintro e u3 ⟨a3, n3, c3, rfl, hs3, heq3⟩
      replace hs2 := hs2.ext heq3
      replace HE := HE.trans heq3
      clear heq3
      go_wp2_with fail
      refine (n_Mul (HA.out.ext HE) (hs3.nu (by have := d2.out; omega))).mono ?_
      rintro e u4 ⟨a4, n4, c4, rfl, hs4, heq4⟩
      replace hs2 := hs2.ext heq4
      replace hs3 := hs3.ext heq4
      replace HE := HE.trans heq4
      clear heq4
      clear hs3
      go_wp2_with fail
      refine (n_Mul (HA.out.ext HE) (HB.out.ext HE)).mono ?_
      rintro e u5 ⟨a5, n5, c5, rfl, hs5, heq5⟩
      replace hs2 := hs2.ext heq5
      replace hs4 := hs4.ext heq5
      replace HE := HE.trans heq5
      clear heq5
      go_wp2_with fail
      refine (n_Add (hs5.nu (by have := d3.out; omega)) (HC.out.ext HE)).mono ?_
      rintro e u6 ⟨a6, n6, c6, rfl, hs6, heq6⟩
      replace hs2 := hs2.ext heq6
      replace hs4 := hs4.ext heq6
      replace hs5 := hs5.ext heq6
      replace HE := HE.trans heq6
      clear heq6
      clear hs5
      have hq := @n_Div a6 a' n6 c6 n' cap' (A * B + C) B u6 (hs6.nu (by have := d4.out; omega)) (HB.out.ext HE)
      unfold RetQR at hq
      rw [decide_eq_false (by simp [HZ.out]), if_pos HZ.out, if_pos HZ.out] at hq
      have HQ := hidP hq
      clear hq
      go_wp2_with fail
      refine (HQ.out).mono ?_
      rintro e u7 ⟨a7q, n7q, c7q, a7r, n7r, c7r, rfl, hs7q, hs7r, heq7⟩
      replace hs2 := hs2.ext heq7
      replace hs4 := hs4.ext heq7
      replace hs6 := hs6.ext heq7
      replace HE := HE.trans heq7
      clear heq7
      clear HQ
      clear hs6
      go_wp2_with fail
      refine (HT.out _ (HA.out.ext HE)).mono ?_
      rintro e u8 ⟨rfl, heq8⟩
      replace hs2 := hs2.ext heq8
      replace hs4 := hs4.ext heq8
      replace hs7q := hs7q.ext heq8
      replace hs7r := hs7r.ext heq8
      replace HE := HE.trans heq8
      clear heq8
      go_wp2_with fail
      refine (HTX.out hbig _).mono ?_
      rintro e u9 ⟨a9, n9, c9, rfl, hs9, heq9⟩
      replace hs2 := hs2.ext heq9
      replace hs4 := hs4.ext heq9
      replace hs7q := hs7q.ext heq9
      replace hs7r := hs7r.ext heq9
      replace HE := HE.trans heq9
      clear heq9
      go_wp2_with fail
      refine (n_Bits (HB.out.ext HE)).mono ?_
      rw [HBL.out]
      rintro e u10 ⟨rfl, rfl⟩
      clear hs7q hs7r
      go_wp2_with fail
      refine (n_Trim (HA.out.ext HE)).mono ?_
      rintro e u17 ⟨a17, n17, c17, rfl, hs17, heq17⟩
      replace hs2 := hs2.ext heq17
      replace hs4 := hs4.ext heq17
      replace hs9 := hs9.ext heq17
      replace HE := HE.trans heq17
      clear heq17
      go_wp2_with fail
      refine (d_Same_eq hs2 hs17 (by have := dA'.out; omega)).mono ?_
      rintro e u18 ⟨rfl, heq18⟩
      replace hs2 := hs2.ext heq18
      replace hs4 := hs4.ext heq18
      replace hs9 := hs9.ext heq18
      replace hs17 := hs17.ext heq18
      replace HE := HE.trans heq18
      clear heq18
      clear hs2 hs17
      go_wp2_with fail
      refine (n_Mul (HA.out.ext HE) (HB.out.ext HE)).mono ?_
      rintro e u19 ⟨a19, n19, c19, rfl, hs19, heq19⟩
      replace hs4 := hs4.ext heq19
      replace hs9 := hs9.ext heq19
      replace HE := HE.trans heq19
      clear heq19
      go_wp2_with fail
      refine (n_Mul (HA.out.ext HE) (HC.out.ext HE)).mono ?_
      rintro e u20 ⟨a20, n20, c20, rfl, hs20, heq20⟩
      replace hs4 := hs4.ext heq20
      replace hs9 := hs9.ext heq20
      replace hs19 := hs19.ext heq20
      replace HE := HE.trans heq20
      clear heq20
      go_wp2_with fail
      refine (n_Add (hs19.nu (by have := d3.out; omega)) (hs20.nu (by have := d8.out; omega))).mono ?_
      rw [← HMUL.out]
      rintro e u21 ⟨a21, n21, c21, rfl, hs21, heq21⟩
      replace hs4 := hs4.ext heq21
      replace hs9 := hs9.ext heq21
      replace hs19 := hs19.ext heq21
      replace hs20 := hs20.ext heq21
      replace HE := HE.trans heq21
      clear heq21
      clear hs19 hs20
      go_wp2_with fail
      refine (d_Same_eq hs4 hs21 (by have := d9.out; omega)).mono ?_
      rintro e u22 ⟨rfl, heq22⟩
      replace hs4 := hs4.ext heq22
      replace hs9 := hs9.ext heq22
      replace hs21 := hs21.ext heq22
      replace HE := HE.trans heq22
      clear heq22
      clear hs4 hs21
      go_wp2_with fail
      refine (n_Trim (HA.out.ext HE)).mono ?_
      rintro e u23 ⟨a23, n23, c23, rfl, hs23, heq23⟩
      replace hs9 := hs9.ext heq23
      replace HE := HE.trans heq23
      clear heq23
      go_wp2_with fail
      refine (d_Same_eq hs9 hs23 (by have := dA'.out; omega)).mono ?_
      rintro e u24 ⟨rfl, heq24⟩
      replace hs9 := hs9.ext heq24
      replace hs23 := hs23.ext heq24
      replace HE := HE.trans heq24
      clear heq24
      clear hs9 hs23
      go_wp2_with fail
      refine (n_lives_any _).mono ?_
      rintro e u25 ⟨rfl, heq25⟩
      replace HE := HE.trans heq25
      clear heq25
      go_wp2_with fail
      go_ret
      exact ⟨rfl, HE⟩
  · have HZ := hidP hz0
    have HBL : Hid (1 ≤ bitlen B) := hidP (bitlen_ne HZ.out)
    clear hz0
    by_cases hbig : 2000 < tx.size
    · have hbi : (2000 : Int) < (tx.size : Int) := by omega
      go_enter Try.func7, Try.ntmps7
      go_wp2_with fail
      refine (n_Add HA.out HB.out).mono ?_
      rintro e u1 ⟨a1, n1, c1, rfl, hs1, heq1⟩
      have HE := heq1
      clear heq1
      go_wp2_with fail
      refine (n_Sub (hs1.nu (by have := d1.out; omega)) (HB.out.ext HE)).mono ?_
      rw [HSUB.out, decide_eq_true (Nat.le_add_left B A)]
      rintro e u2 ⟨a2, n2, c2, rfl, hs2, heq2⟩
      replace hs1 := hs1.ext heq2
      replace HE := HE.trans heq2
      clear heq2
      clear hs1
      go_wp2_with fail
      refine (n_Add (HB.out.ext HE) (HC.out.ext HE)).mono ?_
      rintro e u3 ⟨a3, n3, c3, rfl, hs3, heq3⟩
      replace hs2 := hs2.ext heq3
      replace HE := HE.trans heq3
      clear heq3
      go_wp2_with fail
      refine (n_Mul (HA.out.ext HE) (hs3.nu (by have := d2.out; omega))).mono ?_
      rintro e u4 ⟨a4, n4, c4, rfl, hs4, heq4⟩
      replace hs2 := hs2.ext heq4
      replace hs3 := hs3.ext heq4
      replace HE := HE.trans heq4
      clear heq4
      clear hs3
      go_wp2_with fail
      refine (n_Mul (HA.out.ext HE) (HB.out.ext HE)).mono ?_
      rintro e u5 ⟨a5, n5, c5, rfl, hs5, heq5⟩
      replace hs2 := hs2.ext heq5
      replace hs4 := hs4.ext heq5
      replace HE := HE.trans heq5
      clear heq5
      go_wp2_with fail
      refine (n_Add (hs5.nu (by have := d3.out; omega)) (HC.out.ext HE)).mono ?_
      rintro e u6 ⟨a6, n6, c6, rfl, hs6, heq6⟩
      replace hs2 := hs2.ext heq6
      replace hs4 := hs4.ext heq6
      replace hs5 := hs5.ext heq6
      replace HE := HE.trans heq6
      clear heq6
      clear hs5
      have hq := @n_Div a6 a' n6 c6 n' cap' (A * B + C) B u6 (hs6.nu (by have := d4.out; omega)) (HB.out.ext HE)
      unfold RetQR at hq
      rw [decide_eq_true HZ.out, if_neg HZ.out, if_neg HZ.out] at hq
      have HQ := hidP hq
      clear hq
      go_wp2_with fail
      refine (HQ.out).mono ?_
      rintro e u7 ⟨a7q, n7q, c7q, a7r, n7r, c7r, rfl, hs7q, hs7r, heq7⟩
      replace hs2 := hs2.ext heq7
      replace hs4 := hs4.ext heq7
      replace hs6 := hs6.ext heq7
      replace HE := HE.trans heq7
      clear heq7
      clear HQ
      clear hs6
      go_wp2_with fail
      refine (HT.out _ (HA.out.ext HE)).mono ?_
      rintro e u8 ⟨rfl, heq8⟩
      replace hs2 := hs2.ext heq8
      replace hs4 := hs4.ext heq8
      replace hs7q := hs7q.ext heq8
      replace hs7r := hs7r.ext heq8
      replace HE := HE.trans heq8
      clear heq8
      go_wp2_with fail
      refine (HTB.out hbig _).mono ?_
      rintro e u9 ⟨rfl, heq9⟩
      replace hs2 := hs2.ext heq9
      replace hs4 := hs4.ext heq9
      replace hs7q := hs7q.ext heq9
      replace hs7r := hs7r.ext heq9
      replace HE := HE.trans heq9
      clear heq9
      go_wp2_with fail
      refine (n_Bits (HB.out.ext HE)).mono ?_
      rintro e u10 ⟨rfl, rfl⟩
      have hbl := HBL.out
      generalize bitlen B = bl at *
      go_wp2_with fail
      refine (n_Cmp (hs7r.nu (by have := d6.out; omega)) (HB.out.ext HE)).mono ?_
      rw [cmpI_lt (HMOD.out (Nat.pos_of_ne_zero HZ.out))]
      rintro e u11 ⟨rfl, heq11⟩
      replace hs2 := hs2.ext heq11
      replace hs4 := hs4.ext heq11
      replace hs7q := hs7q.ext heq11
      replace hs7r := hs7r.ext heq11
      replace HE := HE.trans heq11
      clear heq11
      go_wp2_with fail
      refine (n_Mul (hs7q.nu (by have := d5.out; omega)) (HB.out.ext HE)).mono ?_
      rintro e u12 ⟨a12, n12, c12, rfl, hs12, heq12⟩
      replace hs2 := hs2.ext heq12
      replace hs4 := hs4.ext heq12
      replace hs7q := hs7q.ext heq12
      replace hs7r := hs7r.ext heq12
      replace HE := HE.trans heq12
      clear heq12
      clear hs7q
      go_wp2_with fail
      refine (n_Add (hs12.nu (by have := d7.out; omega)) (hs7r.nu (by have := d6.out; omega))).mono ?_
      rw [HDM.out]
      rintro e u13 ⟨a13, n13, c13, rfl, hs13, heq13⟩
      replace hs2 := hs2.ext heq13
      replace hs4 := hs4.ext heq13
      replace hs7r := hs7r.ext heq13
      replace hs12 := hs12.ext heq13
      replace HE := HE.trans heq13
      clear heq13
      clear hs12 hs7r
      go_wp2_with fail
      refine (n_Mul (HA.out.ext HE) (HB.out.ext HE)).mono ?_
      rintro e u14 ⟨a14, n14, c14, rfl, hs14, heq14⟩
      replace hs2 := hs2.ext heq14
      replace hs4 := hs4.ext heq14
      replace hs13 := hs13.ext heq14
      replace HE := HE.trans heq14
      clear heq14
      go_wp2_with fail
      refine (n_Add (hs14.nu (by have := d3.out; omega)) (HC.out.ext HE)).mono ?_
      rintro e u15 ⟨a15, n15, c15, rfl, hs15, heq15⟩
      replace hs2 := hs2.ext heq15
      replace hs4 := hs4.ext heq15
      replace hs13 := hs13.ext heq15
      replace hs14 := hs14.ext heq15
      replace HE := HE.trans heq15
      clear heq15
      clear hs14
      go_wp2_with fail
      refine (d_Same_eq hs13 hs15 (by have := d4.out; omega)).mono ?_
      rintro e u16 ⟨rfl, heq16⟩
      replace hs2 := hs2.ext heq16
      replace hs4 := hs4.ext heq16
      replace hs13 := hs13.ext heq16
      replace hs15 := hs15.ext heq16
      replace HE := HE.trans heq16
      clear heq16
      clear hs13 hs15
      go_wp2_with fail
      refine (n_Trim (HA.out.ext HE)).mono ?_
      rintro e u17 ⟨a17, n17, c17, rfl, hs17, heq17⟩
      replace hs2 := hs2.ext heq17
      replace hs4 := hs4.ext heq17
      replace HE := HE.trans heq17
      clear heq17
      go_wp2_with fail
      refine (d_Same_eq hs2 hs17 (by have := dA'.out; omega)).mono ?_
      rintro e u18 ⟨rfl, heq18⟩
      replace hs2 := hs2.ext heq18
      replace hs4 := hs4.ext heq18
      replace hs17 := hs17.ext heq18
      replace HE := HE.trans heq18
      clear heq18
      clear hs2 hs17
      go_wp2_with fail
      refine (n_Mul (HA.out.ext HE) (HB.out.ext HE)).mono ?_
      rintro e u19 ⟨a19, n19, c19, rfl, hs19, heq19⟩
      replace hs4 := hs4.ext heq19
      replace HE := HE.trans heq19
      clear heq19
      go_wp2_with fail
      refine (n_Mul (HA.out.ext HE) (HC.out.ext HE)).mono ?_
      rintro e u20 ⟨a20, n20, c20, rfl, hs20, heq20⟩
      replace hs4 := hs4.ext heq20
      replace hs19 := hs19.ext heq20
      replace HE := HE.trans heq20
      clear heq20
      go_wp2_with fail
      refine (n_Add (hs19.nu (by have := d3.out; omega)) (hs20.nu (by have := d8.out; omega))).mono ?_
      rw [← HMUL.out]
      rintro e u21 ⟨a21, n21, c21, rfl, hs21, heq21⟩
      replace hs4 := hs4.ext heq21
      replace hs19 := hs19.ext heq21
      replace hs20 := hs20.ext heq21
      replace HE := HE.trans heq21
      clear heq21
      clear hs19 hs20
      go_wp2_with fail
      refine (d_Same_eq hs4 hs21 (by have := d9.out; omega)).mono ?_
      rintro e u22 ⟨rfl, heq22⟩
      replace hs4 := hs4.ext heq22
      replace hs21 := hs21.ext heq22
      replace HE := HE.trans heq22
      clear heq22
      clear hs4 hs21
      go_wp2_with fail
      refine (n_lives_any _).mono ?_
      rintro e u25 ⟨rfl, heq25⟩
      replace HE := HE.trans heq25
      clear heq25
      go_wp2_with fail
      go_ret
      exact ⟨rfl, HE⟩
    · replace hbig : tx.size ≤ 2000 := by omega
      have hbi : ¬ (2000 : Int) < (tx.size : Int) := by omega
      go_enter Try.func7, Try.ntmps7
      go_wp2_with fail
      refine (n_Add HA.out HB.out).mono ?_
      rintro e u1 ⟨a1, n1, c1, rfl, hs1, heq1⟩
      have HE := heq1
      clear heq1
      go_wp2_with fail
      refine (n_Sub (hs1.nu (by have := d1.out; omega)) (HB.out.ext HE)).mono ?_
      rw [HSUB.out, decide_eq_true (Nat.le_add_left B A)]
      rintro e u2 ⟨a2, n2, c2, rfl, hs2, heq2⟩
      replace hs1 := hs1.ext heq2
      replace HE := HE.trans heq2
      clear heq2
      clear hs1
      go_wp2_with fail
      refine (n_Add (HB.out.ext HE) (HC.out.ext HE)).mono ?_
      rintro e u3 ⟨a3, n3, c3, rfl, hs3, heq3⟩
      replace hs2 := hs2.ext heq3
      replace HE := HE.trans heq3
      clear heq3
      go_wp2_with fail
      refine (n_Mul (HA.out.ext HE) (hs3.nu (by have := d2.out; omega))).mono ?_
      rintro e u4 ⟨a4, n4, c4, rfl, hs4, heq4⟩
      replace hs2 := hs2.ext heq4
      replace hs3 := hs3.ext heq4
      replace HE := HE.trans heq4
      clear heq4
      clear hs3
      go_wp2_with fail
      refine (n_Mul (HA.out.ext HE) (HB.out.ext HE)).mono ?_
      rintro e u5 ⟨a5, n5, c5, rfl, hs5, heq5⟩
      replace hs2 := hs2.ext heq5
      replace hs4 := hs4.ext heq5
      replace HE := HE.trans heq5
      clear heq5
      go_wp2_with fail
      refine (n_Add (hs5.nu (by have := d3.out; omega)) (HC.out.ext HE)).mono ?_
      rintro e u6 ⟨a6, n6, c6, rfl, hs6, heq6⟩
      replace hs2 := hs2.ext heq6
      replace hs4 := hs4.ext heq6
      replace hs5 := hs5.ext heq6
      replace HE := HE.trans heq6
      clear heq6
      clear hs5
      have hq := @n_Div a6 a' n6 c6 n' cap' (A * B + C) B u6 (hs6.nu (by have := d4.out; omega)) (HB.out.ext HE)
      unfold RetQR at hq
      rw [decide_eq_true HZ.out, if_neg HZ.out, if_neg HZ.out] at hq
      have HQ := hidP hq
      clear hq
      go_wp2_with fail
      refine (HQ.out).mono ?_
      rintro e u7 ⟨a7q, n7q, c7q, a7r, n7r, c7r, rfl, hs7q, hs7r, heq7⟩
      replace hs2 := hs2.ext heq7
      replace hs4 := hs4.ext heq7
      replace hs6 := hs6.ext heq7
      replace HE := HE.trans heq7
      clear heq7
      clear HQ
      clear hs6
      go_wp2_with fail
      refine (HT.out _ (HA.out.ext HE)).mono ?_
      rintro e u8 ⟨rfl, heq8⟩
      replace hs2 := hs2.ext heq8
      replace hs4 := hs4.ext heq8
      replace hs7q := hs7q.ext heq8
      replace hs7r := hs7r.ext heq8
      replace HE := HE.trans heq8
      clear heq8
      go_wp2_with fail
      refine (HTX.out hbig _).mono ?_
      rintro e u9 ⟨a9, n9, c9, rfl, hs9, heq9⟩
      replace hs2 := hs2.ext heq9
      replace hs4 := hs4.ext heq9
      replace hs7q := hs7q.ext heq9
      replace hs7r := hs7r.ext heq9
      replace HE := HE.trans heq9
      clear heq9
      go_wp2_with fail
      refine (n_Bits (HB.out.ext HE)).mono ?_
      rintro e u10 ⟨rfl, rfl⟩
      have hbl := HBL.out
      generalize bitlen B = bl at *
      go_wp2_with fail
      refine (n_Cmp (hs7r.nu (by have := d6.out; omega)) (HB.out.ext HE)).mono ?_
      rw [cmpI_lt (HMOD.out (Nat.pos_of_ne_zero HZ.out))]
      rintro e u11 ⟨rfl, heq11⟩
      replace hs2 := hs2.ext heq11
      replace hs4 := hs4.ext heq11
      replace hs7q := hs7q.ext heq11
      replace hs7r := hs7r.ext heq11
      replace hs9 := hs9.ext heq11
      replace HE := HE.trans heq11
      clear heq11
      go_wp2_with fail
      refine (n_Mul (hs7q.nu (by have := d5.out; omega)) (HB.out.ext HE)).mono ?_
      rintro e u12 ⟨a12, n12, c12, rfl, hs12, heq12⟩
      replace hs2 := hs2.ext heq12
      replace hs4 := hs4.ext heq12
      replace hs7q := hs7q.ext heq12
      replace hs7r := hs7r.ext heq12
      replace hs9 := hs9.ext heq12
      replace HE := HE.trans heq12
      clear heq12
      clear hs7q
      go_wp2_with fail
      refine (n_Add (hs12.nu (by have := d7.out; omega)) (hs7r.nu (by have := d6.out; omega))).mono ?_
      rw [HDM.out]
      rintro e u13 ⟨a13, n13, c13, rfl, hs13, heq13⟩
      replace hs2 := hs2.ext heq13
      replace hs4 := hs4.ext heq13
      replace hs7r := hs7r.ext heq13
      replace hs9 := hs9.ext heq13
      replace hs12 := hs12.ext heq13
      replace HE := HE.trans heq13
      clear heq13
      clear hs12 hs7r
      go_wp2_with fail
      refine (n_Mul (HA.out.ext HE) (HB.out.ext HE)).mono ?_
      rintro e u14 ⟨a14, n14, c14, rfl, hs14, heq14⟩
      replace hs2 := hs2.ext heq14
      replace hs4 := hs4.ext heq14
      replace hs9 := hs9.ext heq14
      replace hs13 := hs13.ext heq14
      replace HE := HE.trans heq14
      clear heq14
      go_wp2_with fail
      refine (n_Add (hs14.nu (by have := d3.out; omega)) (HC.out.ext HE)).mono ?_
      rintro e u15 ⟨a15, n15, c15, rfl, hs15, heq15⟩
      replace hs2 := hs2.ext heq15
      replace hs4 := hs4.ext heq15
      replace hs9 := hs9.ext heq15
      replace hs13 := hs13.ext heq15
      replace hs14 := hs14.ext heq15
      replace HE := HE.trans heq15
      clear heq15
      clear hs14
      go_wp2_with fail
      refine (d_Same_eq hs13 hs15 (by have := d4.out; omega)).mono ?_
      rintro e u16 ⟨rfl, heq16⟩
      replace hs2 := hs2.ext heq16
      replace hs4 := hs4.ext heq16
      replace hs9 := hs9.ext heq16
      replace hs13 := hs13.ext heq16
      replace hs15 := hs15.ext heq16
      replace HE := HE.trans heq16
      clear heq16
      clear hs13 hs15
      go_wp2_with fail
      refine (n_Trim (HA.out.ext HE)).mono ?_
      rintro e u17 ⟨a17, n17, c17, rfl, hs17, heq17⟩
      replace hs2 := hs2.ext heq17
      replace hs4 := hs4.ext heq17
      replace hs9 := hs9.ext heq17
      replace HE := HE.trans heq17
      clear heq17
      go_wp2_with fail
      refine (d_Same_eq hs2 hs17 (by have := dA'.out; omega)).mono ?_
      rintro e u18 ⟨rfl, heq18⟩
      replace hs2 := hs2.ext heq18
      replace hs4 := hs4.ext heq18
      replace hs9 := hs9.ext heq18
      replace hs17 := hs17.ext heq18
      replace HE := HE.trans heq18
      clear heq18
      clear hs2 hs17
      go_wp2_with fail
      refine (n_Mul (HA.out.ext HE) (HB.out.ext HE)).mono ?_
      rintro e u19 ⟨a19, n19, c19, rfl, hs19, heq19⟩
      replace hs4 := hs4.ext heq19
      replace hs9 := hs9.ext heq19
      replace HE := HE.trans heq19
      clear heq19
      go_wp2_with fail
      refine (n_Mul (HA.out.ext HE) (HC.out.ext HE)).mono ?_
      rintro e u20 ⟨a20, n20, c20, rfl, hs20, heq20⟩
      replace hs4 := hs4.ext heq20
      replace hs9 := hs9.ext heq20
      replace hs19 := hs19.ext heq20
      replace HE := HE.trans heq20
      clear heq20
      go_wp2_with fail
      refine (n_Add (hs19.nu (by have := d3.out; omega)) (hs20.nu (by have := d8.out; omega))).mono ?_
      rw [← HMUL.out]
      rintro e u21 ⟨a21, n21, c21, rfl, hs21, heq21⟩
      replace hs4 := hs4.ext heq21
      replace hs9 := hs9.ext heq21
      replace hs19 := hs19.ext heq21
      replace hs20 := hs20.ext heq21
      replace HE := HE.trans heq21
      clear heq21
      clear hs19 hs20
      go_wp2_with fail
      refine (d_Same_eq hs4 hs21 (by have := d9.out; omega)).mono ?_
      rintro e u22 ⟨rfl, heq22⟩
      replace hs4 := hs4.ext heq22
      replace hs9 := hs9.ext heq22
      replace hs21 := hs21.ext heq22
      replace HE := HE.trans heq22
      clear heq22
      clear hs4 hs21
      go_wp2_with fail
      refine (n_Trim (HA.out.ext HE)).mono ?_
      rintro e u23 ⟨a23, n23, c23, rfl, hs23, heq23⟩
      replace hs9 := hs9.ext heq23
      replace HE := HE.trans heq23
      clear heq23
      go_wp2_with fail
      refine (d_Same_eq hs9 hs23 (by have := dA'.out; omega)).mono ?_
      rintro e u24 ⟨rfl, heq24⟩
      replace hs9 := hs9.ext heq24
      replace hs23 := hs23.ext heq24
      replace HE := HE.trans heq24
      clear heq24
      clear hs9 hs23
      go_wp2_with fail
      refine (n_lives_any _).mono ?_
      rintro e u25 ⟨rfl, heq25⟩
      replace HE := HE.trans heq25
      clear heq25
      go_wp2_with fail
      go_ret
      exact ⟨rfl, HE⟩

end Go.Proofs.Ytcipcpbjkcpgdaa
