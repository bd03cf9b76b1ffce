/- The law of shares: its walk. -/
import Derived.Test.YtcipcpbjkcpgdaaR7
namespace Go.Proofs.Ytcipcpbjkcpgdaa
set_option linter.unusedVariables false
open Go Go.RowKit

theorem isq_sq (a : Nat) : isq (a * a) = a := (isq_uniq (Nat.le_refl _) (Nat.mul_lt_mul'' (by omega) (by omega))).symm
theorem gcd_lcm (A B : Nat) : Nat.gcd A B * (A * B / Nat.gcd A B) = A * B := Nat.mul_div_cancel' (Nat.dvd_trans (Nat.gcd_dvd_left A B) ⟨B, rfl⟩)
theorem gcd_red {A B : Nat} (h : A ≠ 0 ∨ B ≠ 0) : Nat.gcd (A / Nat.gcd A B) (B / Nat.gcd A B) = 1 := by
  have hp : 0 < Nat.gcd A B := by
    rcases Nat.eq_zero_or_pos (Nat.gcd A B) with h0 | h0
    · rcases h with h | h
      · exact absurd (Nat.eq_zero_of_gcd_eq_zero_left h0) h
      · exact absurd (Nat.eq_zero_of_gcd_eq_zero_right h0) h
    · exact h0
  rw [Nat.gcd_div (Nat.gcd_dvd_left A B) (Nat.gcd_dvd_right A B), Nat.div_self hp]
theorem bl_pos {V : Nat} (h : V ≠ 0) : 1 ≤ bitlen V := (bitlen_low h).1

set_option maxRecDepth 100000 in
set_option maxHeartbeats 8000000 in
theorem rootShares_any (a : Option Addr) (n cap : Nat) (x : List Nat) (a' : Option Addr) (n' cap' : Nat) (y : List Nat) (w : World) (hs : Sl w a n cap (ints .u32 x)) (hx : Ws x) (hn : n ≤ 1048576) (hs' : Sl w a' n' cap' (ints .u32 y)) (hy : Ws y) (hn' : n' ≤ 1048576) :
    Calls Try.prog 10 #[.slice a n cap, .slice a' n' cap'] w fun e w' => e = .returned (.bool true) ∧ Ext w w' := by
  have hA : Nu w a n cap (val B32 x) := ⟨⟨x, hs, hx, rfl⟩, by omega⟩
  have hB : Nu w a' n' cap' (val B32 y) := ⟨⟨y, hs', hy, rfl⟩, by omega⟩
  generalize val B32 x = A at *
  generalize val B32 y = B at *
  have dA : dl A ≤ 1048576 := by have := hA.dl; omega
  have dB : dl B ≤ 1048576 := by have := hB.dl; omega
  have hgd : dl (Nat.gcd A B) ≤ 1048576 := by
    rcases Nat.eq_zero_or_pos A with ha | ha
    · rw [ha, Nat.gcd_zero_left]; omega
    · exact Nat.le_trans (dl_mono (Nat.gcd_le_left B ha)) (by omega)
  have hq1 : dl (A / Nat.gcd A B) ≤ 1048576 := by have := dl_div A (Nat.gcd A B); omega
  have hq2 : dl (B / Nat.gcd A B) ≤ 1048576 := by have := dl_div B (Nat.gcd A B); omega
  have hlm : dl (A * B / Nat.gcd A B) ≤ 2097152 := by have := dl_div (A * B) (Nat.gcd A B); have := dl_mul A B; omega
  have hgl := gcd_lcm A B
  have hsq := isq_sq A
  have hab : dl (A * B) ≤ 2097152 := by have := dl_mul A B; omega
  have haa : dl (A * A) ≤ 2097152 := by have := dl_mul A A; omega
  have hr1 := fun h => @gcd_red A B h
  have HGL := hidP hgl; have HSQ := hidP hsq; have DAB := hidP hab; have DAA := hidP haa; have HR1 := hidP hr1
  clear hgl hsq hab haa hr1
  have HA := hidP hA; have HB := hidP hB; have DG := hidP hgd; have DQ1 := hidP hq1; have DQ2 := hidP hq2; have DL := hidP hlm; have DA := hidP dA; have DB := hidP dB
  clear hA hB hs hs' dA dB hgd hq1 hq2 hlm
  by_cases hA0 : A = 0
  · by_cases hB0 : B = 0
    · have HBA : Hid (bitlen A = 0) := hidP (by rw [hA0]; rfl)
      have HBB : Hid (bitlen B = 0) := hidP (by rw [hB0]; rfl)
      clear hA0 hB0
      go_enter Try.func10, Try.ntmps10
      go_wp2_with fail
      refine (p_Reduce HA.out HB.out).mono ?_
      rintro e u1 ⟨a1x, n1x, c1x, a1y, n1y, c1y, rfl, hs1x, hs1y, hx⟩
      have HE := hx
      clear hx
      go_wp2_with fail
      refine (p_Gcd (hs1x.nu (by have := DQ1.out; omega)) (hs1y.nu (by have := DQ2.out; omega))).mono ?_
      rintro e u2 ⟨a2, n2, c2, rfl, hs2, hx⟩
      replace hs1x := hs1x.ext hx
      replace hs1y := hs1y.ext hx
      replace HE := HE.trans hx
      clear hx
      clear hs1x hs1y
      go_wp2_with fail
      refine (d_Bits (HA.out.ext HE)).mono ?_
      rw [HBA.out]
      rintro e u3 ⟨rfl, hx⟩
      replace hs2 := hs2.ext hx
      replace HE := HE.trans hx
      clear hx
      go_wp2_with fail
      refine (d_Bits (HB.out.ext HE)).mono ?_
      rw [HBB.out]
      rintro e u4 ⟨rfl, hx⟩
      replace hs2 := hs2.ext hx
      replace HE := HE.trans hx
      clear hx
      go_wp2_with fail
      refine (p_Gcd (HA.out.ext HE) (HB.out.ext HE)).mono ?_
      rintro e u6 ⟨a6, n6, c6, rfl, hs6, hx⟩
      replace hs2 := hs2.ext hx
      replace HE := HE.trans hx
      clear hx
      go_wp2_with fail
      refine (p_Lcm (HA.out.ext HE) (HB.out.ext HE)).mono ?_
      rintro e u7 ⟨a7, n7, c7, rfl, hs7, hx⟩
      replace hs2 := hs2.ext hx
      replace hs6 := hs6.ext hx
      replace HE := HE.trans hx
      clear hx
      go_wp2_with fail
      refine (d_Mul (hs6.nu (by have := DG.out; omega)) (hs7.nu (by have := DL.out; omega))).mono ?_
      rw [HGL.out]
      rintro e u8 ⟨a8, n8, c8, rfl, hs8, hx⟩
      replace hs2 := hs2.ext hx
      replace hs6 := hs6.ext hx
      replace hs7 := hs7.ext hx
      replace HE := HE.trans hx
      clear hx
      clear hs6 hs7
      go_wp2_with fail
      refine (d_Mul (HA.out.ext HE) (HB.out.ext HE)).mono ?_
      rintro e u9 ⟨a9, n9, c9, rfl, hs9, hx⟩
      replace hs2 := hs2.ext hx
      replace hs8 := hs8.ext hx
      replace HE := HE.trans hx
      clear hx
      go_wp2_with fail
      refine (d_Same_eq hs8 hs9 (by have := DAB.out; omega)).mono ?_
      rintro e u10 ⟨rfl, hx⟩
      replace hs2 := hs2.ext hx
      replace hs8 := hs8.ext hx
      replace hs9 := hs9.ext hx
      replace HE := HE.trans hx
      clear hx
      clear hs8 hs9
      go_wp2_with fail
      refine (d_Mul (HA.out.ext HE) (HA.out.ext HE)).mono ?_
      rintro e u11 ⟨a11, n11, c11, rfl, hs11, hx⟩
      replace hs2 := hs2.ext hx
      replace HE := HE.trans hx
      clear hx
      go_wp2_with fail
      refine (p_Square (hs11.nu (by have := DAA.out; omega)) (by have := DAA.out; omega)).mono ?_
      rw [HSQ.out, decide_eq_true rfl]
      rintro e u12 ⟨rfl, hx⟩
      replace hs2 := hs2.ext hx
      replace hs11 := hs11.ext hx
      replace HE := HE.trans hx
      clear hx
      clear hs11
      go_wp2_with fail
      refine (d_Mul (HA.out.ext HE) (HA.out.ext HE)).mono ?_
      rintro e u13 ⟨a13, n13, c13, rfl, hs13, hx⟩
      replace hs2 := hs2.ext hx
      replace HE := HE.trans hx
      clear hx
      go_wp2_with fail
      refine (p_Sqrt (hs13.nu (by have := DAA.out; omega)) (by have := DAA.out; omega)).mono ?_
      rw [HSQ.out]
      rintro e u14 ⟨a14, n14, c14, rfl, hs14, hx⟩
      replace hs2 := hs2.ext hx
      replace hs13 := hs13.ext hx
      replace HE := HE.trans hx
      clear hx
      clear hs13
      go_wp2_with fail
      refine (d_Half (HA.out.ext HE)).mono ?_
      rintro e u15 ⟨a15, n15, c15, rfl, hs15, hn15, hx⟩
      replace hs2 := hs2.ext hx
      replace hs14 := hs14.ext hx
      replace HE := HE.trans hx
      clear hx
      go_wp2_with fail
      refine (d_Words hs15 hn15).mono ?_
      rintro e u16 ⟨a16, n16, c16, rfl, hs16, hx⟩
      replace hs2 := hs2.ext hx
      replace hs14 := hs14.ext hx
      replace hs15 := hs15.ext hx
      replace HE := HE.trans hx
      clear hx
      clear hs15
      clear hn15
      go_wp2_with fail
      refine (d_Same_eq hs14 hs16 (by have := DA.out; omega)).mono ?_
      rintro e u17 ⟨rfl, hx⟩
      replace hs2 := hs2.ext hx
      replace hs14 := hs14.ext hx
      replace hs16 := hs16.ext hx
      replace HE := HE.trans hx
      clear hx
      clear hs14 hs16
      go_wp2_with fail
      refine (rt_lives _).mono ?_
      rintro e u18 ⟨rfl, hx⟩
      replace hs2 := hs2.ext hx
      replace HE := HE.trans hx
      clear hx
      go_wp2_with fail
      go_ret
      exact ⟨rfl, HE⟩
    · have HBA : Hid (bitlen A = 0) := hidP (by rw [hA0]; rfl)
      have HBL := hidP (bl_pos hB0)
      have HR := hidP (HR1.out (.inr hB0))
      clear hA0 hB0
      go_enter Try.func10, Try.ntmps10
      go_wp2_with fail
      refine (p_Reduce HA.out HB.out).mono ?_
      rintro e u1 ⟨a1x, n1x, c1x, a1y, n1y, c1y, rfl, hs1x, hs1y, hx⟩
      have HE := hx
      clear hx
      go_wp2_with fail
      refine (p_Gcd (hs1x.nu (by have := DQ1.out; omega)) (hs1y.nu (by have := DQ2.out; omega))).mono ?_
      rw [HR.out]
      rintro e u2 ⟨a2, n2, c2, rfl, hs2, hx⟩
      replace hs1x := hs1x.ext hx
      replace hs1y := hs1y.ext hx
      replace HE := HE.trans hx
      clear hx
      clear hs1x hs1y
      go_wp2_with fail
      refine (d_Bits (HA.out.ext HE)).mono ?_
      rw [HBA.out]
      rintro e u3 ⟨rfl, hx⟩
      replace hs2 := hs2.ext hx
      replace HE := HE.trans hx
      clear hx
      go_wp2_with fail
      refine (d_Bits (HB.out.ext HE)).mono ?_
      rintro e u4 ⟨rfl, hx⟩
      replace hs2 := hs2.ext hx
      replace HE := HE.trans hx
      clear hx
      have hbl := HBL.out
      generalize bitlen B = bl at *
      go_wp2_with fail
      refine absC (fun x1 hx1 => ?_)
      have hx : Ext u4 x1 := by rw [hx1]; exact ((Ext.refl _).alloc _)
      replace hs2 := hs2.ext hx
      replace HE := HE.trans hx
      clear hx
      have l1 : Nc x1 (some ⟨u4.heap.size, 0, none⟩) 1 1 1 := by rw [hx1]; exact Nc.litAt rfl 1 (by omega) (by omega) _
      clear hx1
      refine (d_Same_eq hs2 l1 (by have := dl_small (a := 1) (by omega); omega)).mono ?_
      rintro e u5 ⟨rfl, hx⟩
      replace hs2 := hs2.ext hx
      replace HE := HE.trans hx
      clear hx
      clear hs2
      clear l1
      go_wp2_with fail
      refine (p_Gcd (HA.out.ext HE) (HB.out.ext HE)).mono ?_
      rintro e u6 ⟨a6, n6, c6, rfl, hs6, hx⟩
      replace HE := HE.trans hx
      clear hx
      go_wp2_with fail
      refine (p_Lcm (HA.out.ext HE) (HB.out.ext HE)).mono ?_
      rintro e u7 ⟨a7, n7, c7, rfl, hs7, hx⟩
      replace hs6 := hs6.ext hx
      replace HE := HE.trans hx
      clear hx
      go_wp2_with fail
      refine (d_Mul (hs6.nu (by have := DG.out; omega)) (hs7.nu (by have := DL.out; omega))).mono ?_
      rw [HGL.out]
      rintro e u8 ⟨a8, n8, c8, rfl, hs8, hx⟩
      replace hs6 := hs6.ext hx
      replace hs7 := hs7.ext hx
      replace HE := HE.trans hx
      clear hx
      clear hs6 hs7
      go_wp2_with fail
      refine (d_Mul (HA.out.ext HE) (HB.out.ext HE)).mono ?_
      rintro e u9 ⟨a9, n9, c9, rfl, hs9, hx⟩
      replace hs8 := hs8.ext hx
      replace HE := HE.trans hx
      clear hx
      go_wp2_with fail
      refine (d_Same_eq hs8 hs9 (by have := DAB.out; omega)).mono ?_
      rintro e u10 ⟨rfl, hx⟩
      replace hs8 := hs8.ext hx
      replace hs9 := hs9.ext hx
      replace HE := HE.trans hx
      clear hx
      clear hs8 hs9
      go_wp2_with fail
      refine (d_Mul (HA.out.ext HE) (HA.out.ext HE)).mono ?_
      rintro e u11 ⟨a11, n11, c11, rfl, hs11, hx⟩
      replace HE := HE.trans hx
      clear hx
      go_wp2_with fail
      refine (p_Square (hs11.nu (by have := DAA.out; omega)) (by have := DAA.out; omega)).mono ?_
      rw [HSQ.out, decide_eq_true rfl]
      rintro e u12 ⟨rfl, hx⟩
      replace hs11 := hs11.ext hx
      replace HE := HE.trans hx
      clear hx
      clear hs11
      go_wp2_with fail
      refine (d_Mul (HA.out.ext HE) (HA.out.ext HE)).mono ?_
      rintro e u13 ⟨a13, n13, c13, rfl, hs13, hx⟩
      replace HE := HE.trans hx
      clear hx
      go_wp2_with fail
      refine (p_Sqrt (hs13.nu (by have := DAA.out; omega)) (by have := DAA.out; omega)).mono ?_
      rw [HSQ.out]
      rintro e u14 ⟨a14, n14, c14, rfl, hs14, hx⟩
      replace hs13 := hs13.ext hx
      replace HE := HE.trans hx
      clear hx
      clear hs13
      go_wp2_with fail
      refine (d_Half (HA.out.ext HE)).mono ?_
      rintro e u15 ⟨a15, n15, c15, rfl, hs15, hn15, hx⟩
      replace hs14 := hs14.ext hx
      replace HE := HE.trans hx
      clear hx
      go_wp2_with fail
      refine (d_Words hs15 hn15).mono ?_
      rintro e u16 ⟨a16, n16, c16, rfl, hs16, hx⟩
      replace hs14 := hs14.ext hx
      replace hs15 := hs15.ext hx
      replace HE := HE.trans hx
      clear hx
      clear hs15
      clear hn15
      go_wp2_with fail
      refine (d_Same_eq hs14 hs16 (by have := DA.out; omega)).mono ?_
      rintro e u17 ⟨rfl, hx⟩
      replace hs14 := hs14.ext hx
      replace hs16 := hs16.ext hx
      replace HE := HE.trans hx
      clear hx
      clear hs14 hs16
      go_wp2_with fail
      refine (rt_lives _).mono ?_
      rintro e u18 ⟨rfl, hx⟩
      replace HE := HE.trans hx
      clear hx
      go_wp2_with fail
      go_ret
      exact ⟨rfl, HE⟩
  · have HBL := hidP (bl_pos hA0)
    have HR := hidP (HR1.out (.inl hA0))
    clear hA0
    go_enter Try.func10, Try.ntmps10
    go_wp2_with fail
    refine (p_Reduce HA.out HB.out).mono ?_
    rintro e u1 ⟨a1x, n1x, c1x, a1y, n1y, c1y, rfl, hs1x, hs1y, hx⟩
    have HE := hx
    clear hx
    go_wp2_with fail
    refine (p_Gcd (hs1x.nu (by have := DQ1.out; omega)) (hs1y.nu (by have := DQ2.out; omega))).mono ?_
    rw [HR.out]
    rintro e u2 ⟨a2, n2, c2, rfl, hs2, hx⟩
    replace hs1x := hs1x.ext hx
    replace hs1y := hs1y.ext hx
    replace HE := HE.trans hx
    clear hx
    clear hs1x hs1y
    go_wp2_with fail
    refine (d_Bits (HA.out.ext HE)).mono ?_
    rintro e u3 ⟨rfl, hx⟩
    replace hs2 := hs2.ext hx
    replace HE := HE.trans hx
    clear hx
    have hbl := HBL.out
    generalize bitlen A = bl at *
    go_wp2_with fail
    refine absC (fun x1 hx1 => ?_)
    have hx : Ext u3 x1 := by rw [hx1]; exact ((Ext.refl _).alloc _)
    replace hs2 := hs2.ext hx
    replace HE := HE.trans hx
    clear hx
    have l1 : Nc x1 (some ⟨u3.heap.size, 0, none⟩) 1 1 1 := by rw [hx1]; exact Nc.litAt rfl 1 (by omega) (by omega) _
    clear hx1
    refine (d_Same_eq hs2 l1 (by have := dl_small (a := 1) (by omega); omega)).mono ?_
    rintro e u5 ⟨rfl, hx⟩
    replace hs2 := hs2.ext hx
    replace HE := HE.trans hx
    clear hx
    clear hs2
    clear l1
    go_wp2_with fail
    refine (p_Gcd (HA.out.ext HE) (HB.out.ext HE)).mono ?_
    rintro e u6 ⟨a6, n6, c6, rfl, hs6, hx⟩
    replace HE := HE.trans hx
    clear hx
    go_wp2_with fail
    refine (p_Lcm (HA.out.ext HE) (HB.out.ext HE)).mono ?_
    rintro e u7 ⟨a7, n7, c7, rfl, hs7, hx⟩
    replace hs6 := hs6.ext hx
    replace HE := HE.trans hx
    clear hx
    go_wp2_with fail
    refine (d_Mul (hs6.nu (by have := DG.out; omega)) (hs7.nu (by have := DL.out; omega))).mono ?_
    rw [HGL.out]
    rintro e u8 ⟨a8, n8, c8, rfl, hs8, hx⟩
    replace hs6 := hs6.ext hx
    replace hs7 := hs7.ext hx
    replace HE := HE.trans hx
    clear hx
    clear hs6 hs7
    go_wp2_with fail
    refine (d_Mul (HA.out.ext HE) (HB.out.ext HE)).mono ?_
    rintro e u9 ⟨a9, n9, c9, rfl, hs9, hx⟩
    replace hs8 := hs8.ext hx
    replace HE := HE.trans hx
    clear hx
    go_wp2_with fail
    refine (d_Same_eq hs8 hs9 (by have := DAB.out; omega)).mono ?_
    rintro e u10 ⟨rfl, hx⟩
    replace hs8 := hs8.ext hx
    replace hs9 := hs9.ext hx
    replace HE := HE.trans hx
    clear hx
    clear hs8 hs9
    go_wp2_with fail
    refine (d_Mul (HA.out.ext HE) (HA.out.ext HE)).mono ?_
    rintro e u11 ⟨a11, n11, c11, rfl, hs11, hx⟩
    replace HE := HE.trans hx
    clear hx
    go_wp2_with fail
    refine (p_Square (hs11.nu (by have := DAA.out; omega)) (by have := DAA.out; omega)).mono ?_
    rw [HSQ.out, decide_eq_true rfl]
    rintro e u12 ⟨rfl, hx⟩
    replace hs11 := hs11.ext hx
    replace HE := HE.trans hx
    clear hx
    clear hs11
    go_wp2_with fail
    refine (d_Mul (HA.out.ext HE) (HA.out.ext HE)).mono ?_
    rintro e u13 ⟨a13, n13, c13, rfl, hs13, hx⟩
    replace HE := HE.trans hx
    clear hx
    go_wp2_with fail
    refine (p_Sqrt (hs13.nu (by have := DAA.out; omega)) (by have := DAA.out; omega)).mono ?_
    rw [HSQ.out]
    rintro e u14 ⟨a14, n14, c14, rfl, hs14, hx⟩
    replace hs13 := hs13.ext hx
    replace HE := HE.trans hx
    clear hx
    clear hs13
    go_wp2_with fail
    refine (d_Half (HA.out.ext HE)).mono ?_
    rintro e u15 ⟨a15, n15, c15, rfl, hs15, hn15, hx⟩
    replace hs14 := hs14.ext hx
    replace HE := HE.trans hx
    clear hx
    go_wp2_with fail
    refine (d_Words hs15 hn15).mono ?_
    rintro e u16 ⟨a16, n16, c16, rfl, hs16, hx⟩
    replace hs14 := hs14.ext hx
    replace hs15 := hs15.ext hx
    replace HE := HE.trans hx
    clear hx
    clear hs15
    clear hn15
    go_wp2_with fail
    refine (d_Same_eq hs14 hs16 (by have := DA.out; omega)).mono ?_
    rintro e u17 ⟨rfl, hx⟩
    replace hs14 := hs14.ext hx
    replace hs16 := hs16.ext hx
    replace HE := HE.trans hx
    clear hx
    clear hs14 hs16
    go_wp2_with fail
    refine (rt_lives _).mono ?_
    rintro e u18 ⟨rfl, hx⟩
    replace HE := HE.trans hx
    clear hx
    go_wp2_with fail
    go_ret
    exact ⟨rfl, HE⟩

end Go.Proofs.Ytcipcpbjkcpgdaa
