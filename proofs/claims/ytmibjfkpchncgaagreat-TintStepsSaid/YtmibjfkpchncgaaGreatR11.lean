/- Square roots: of ints, and the document's. -/
import Derived.Test.YtmibjfkpchncgaaGreatR7
namespace Go.Proofs.YtmibjfkpchncgaaGreat
set_option linter.unusedVariables false
open Go Go.RowKit

/-- What holds at the label. -/
def SiJ (n : Int) (v : Nat) (w : World) (a' : Act) (w' : World) : Prop :=
  ∃ (X : Nat) (u5 u6 u7 u8 u9 u10 u11 u12 u13 u14 u15 u16 u17 u18 u19 u20 u21 u22 u23 u24 u25 u26 : Value), a' = { tmps := #[.int .i64 n, undef, .int .i64 0, .int .u64 (v : Int), .int .u64 (X : Int), u5, u6, u7, u8, u9, u10, u11, u12, u13, u14, u15, u16, u17, u18, u19, u20, u21, u22, u23, u24, u25, u26], defers := [] } ∧ isq v ≤ X ∧ X ≤ 4294967296 ∧ v ≠ 0 ∧ w = w'

theorem cmpI_le {a b : Nat} (h : a ≤ b) : cmpI a b ≤ 0 := by
  unfold cmpI
  split
  · omega
  · rw [if_neg (by omega)]; exact Int.le_refl _
theorem cmpI_gt {a b : Nat} (h : b < a) : cmpI a b = 1 := by
  unfold cmpI
  rw [if_neg (by omega), if_pos h]
theorem sq_step (R e : Nat) : (R + e + e) = R + 2 * e := by omega

set_option maxRecDepth 100000 in
set_option maxHeartbeats 2000000 in
theorem q_Sqrt {a : Option Addr} {n cap A : Nat} {w : World} (h : Nu w a n cap A) (hb : dl A ≤ 274877906944) :
    Calls Tryz.prog 31 #[.slice a n cap] w (RetN w (isq A)) := by
  have H := hidP h
  have hblt := lt_bitlen A
  have hbl : bitlen A ≤ 32 * dl A := bitlen_le (by rw [Nat.pow_mul]; exact dl_lt A)
  have HST : Hid (A < (0 + 2 ^ (bitlen A / 2 + 1 + 1)) * (0 + 2 ^ (bitlen A / 2 + 1 + 1))) := hidP (by
    rw [Nat.zero_add, ← Nat.pow_add]
    exact Nat.lt_of_lt_of_le hblt (Nat.pow_le_pow_right (by decide) (by omega)))
  have BL := hidP (fun u hh => @d_Bits a n cap A u hh)
  generalize bitlen A = bl at *
  have hbd : (bl : Int) / 2 = ((bl / 2 : Nat) : Int) := by omega
  have hblb : bl ≤ 8796093022208 := by omega
  have hb2 : bl / 2 ≤ 4398046511104 := by omega
  have hb3 : bl / 2 + 1 ≤ 16 * dl A + 1 := by omega
  generalize bl / 2 = h2 at *
  have HB := hidP hb; have HB3 := hidP hb3
  clear h hblt hbl hb hb3
  go_enter Tryz.func31, Tryz.ntmps31
  go_wp2_with fail
  refine (BL.out _ H.out).mono ?_
  rintro e u1 ⟨rfl, he⟩
  go_wp2_with fail
  go_loopw [3, 4] (fun rv iv wr => ∃ (k R : Nat) (ar : Option Addr) (nr cr : Nat), k ≤ h2 + 2 ∧ iv = .int .i64 ((k : Int) - 1) ∧ rv = .slice ar nr cr ∧ Nc wr ar nr cr R ∧ R * R ≤ A ∧ A < (R + 2 ^ k) * (R + 2 ^ k) ∧ Ext w wr) (fun _ iv _ => (intOf iv + 1).toNat)
  case atStart => exact ⟨h2 + 1 + 1, 0, none, 0, 0, by omega, by go_num, rfl, Nc.zero _, by omega, HST.out, he⟩
  case round =>
    clear HST he
    obtain ⟨k, R, ar, nr, cr, hk, rfl, rfl, hr, hRA, hAR, he⟩ := hrel
    have HR := hidP hr; have HRA := hidP hRA; have HAR := hidP hAR; have HE := hidP he
    have HDR : Hid (dl R ≤ dl A) := hidP (by
      refine dl_mono ?_
      rcases Nat.eq_zero_or_pos R with h0 | h0
      · omega
      · exact Nat.le_trans (Nat.le_mul_of_pos_right _ h0) hRA)
    clear hr hRA hAR he
    by_cases h0 : 0 < k
    · obtain ⟨i, rfl⟩ : ∃ i, k = i + 1 := ⟨k - 1, by omega⟩
      have e1 : ((i + 1 : Nat) : Int) - 1 = (i : Int) := by omega
      rw [e1]
      clear e1
      have HDP : Hid (dl (2 ^ i) ≤ dl A + 2) := hidP (by have := dl_pow i; have := HB3.out; omega)
      have HDX : Hid (dl (R + 2 ^ i) ≤ dl A + 3) := hidP (dl_add (by have := HDR.out; omega) HDP.out)
      have HDXX : Hid (dl ((R + 2 ^ i) * (R + 2 ^ i)) ≤ 1099511627776) := hidP (by have := dl_mul (R + 2 ^ i) (R + 2 ^ i); have := HDX.out; have := HB.out; omega)
      have HUP : Hid (A < (R + 2 ^ i + 2 ^ i) * (R + 2 ^ i + 2 ^ i)) := hidP (by
        have h9 := HAR.out
        rw [sq_step, show 2 * 2 ^ i = 2 ^ (i + 1) by rw [Nat.pow_succ, Nat.mul_comm]]
        exact h9)
      have hib : i ≤ 35184372088832 := by omega
      go_wp2_with fail
      refine (d_Power i _ hib).mono ?_
      generalize hpi : 2 ^ i = p at *
      have HPI := hidP hpi
      clear hpi
      rintro e u2 ⟨a2, n2, c2, rfl, hs2, he2⟩
      have HS2 := hidP hs2; have HR2 := hidP (HR.out.ext he2); have HE2 := hidP (HE.out.trans he2)
      clear hs2 he2
      go_wp2_with fail
      refine (d_Add (HR2.out.nu (by have := HDR.out; have := HB.out; omega)) (HS2.out.nu (by have := HDP.out; have := HB.out; omega))).mono ?_
      obtain ⟨X, hX⟩ : ∃ X, X = R + p := ⟨_, rfl⟩
      rw [← hX] at HDX HDXX HUP
      rw [← hX]
      have HXE := hidP hX
      clear hX
      rintro e u3 ⟨a3, n3, c3, rfl, hs3, he3⟩
      have HS3 := hidP hs3; have HR3 := hidP (HR2.out.ext he3); have HE3 := hidP (HE2.out.trans he3)
      clear hs3 he3
      go_wp2_with fail
      refine (d_Mul (HS3.out.nu (by have := HDX.out; have := HB.out; omega)) (HS3.out.nu (by have := HDX.out; have := HB.out; omega))).mono ?_
      rintro e u4 ⟨a4, n4, c4, rfl, hs4, he4⟩
      have HS4 := hidP hs4; have HX4 := hidP (HS3.out.ext he4); have HR4 := hidP (HR3.out.ext he4); have HE4 := hidP (HE3.out.trans he4)
      clear hs4 he4
      have hcm := d_Cmp (HS4.out.nu HDXX.out) (H.out.ext HE4.out)
      by_cases hle : X * X ≤ A
      · have hc := cmpI_le hle
        have HLE := hidP hle
        generalize cmpI (X * X) A = cc at *
        have HCM := hidP hcm
        clear hcm hle
        go_wp2_with fail
        refine HCM.out.mono ?_
        rintro e u5 ⟨rfl, he5⟩
        have HX5 := hidP (HX4.out.ext he5); have HE5 := hidP (HE4.out.trans he5)
        clear he5
        go_wp2_with fail
        go_roundw
        case rel => exact ⟨i, X, a3, n3, c3, by omega, rfl, rfl, HX5.out, HLE.out, by rw [HPI.out]; exact HUP.out, HE5.out⟩
        case measure => simp [intOf]
      · have hc := cmpI_gt (a := X * X) (b := A) (by omega)
        have HLE := hidP hle
        rw [hc] at hcm
        have HCM := hidP hcm
        clear hcm hle hc
        go_wp2_with fail
        refine HCM.out.mono ?_
        rintro e u5 ⟨rfl, he5⟩
        have HR5 := hidP (HR4.out.ext he5); have HE5 := hidP (HE4.out.trans he5)
        clear he5
        go_wp2_with fail
        go_roundw
        case rel => exact ⟨i, R, ar, nr, cr, by omega, rfl, rfl, HR5.out, HRA.out, by have h8 := HLE.out; rw [HXE.out] at h8; rw [HPI.out]; omega, HE5.out⟩
        case measure => simp [intOf]
    · obtain rfl : k = 0 := by omega
      have HEQ : Hid (R = isq A) := hidP (isq_uniq HRA.out (by have := HAR.out; rwa [Nat.pow_zero] at this))
      go_wp2_with fail
      go_ret
      exact ⟨_, _, _, rfl, by rw [← HEQ.out]; exact HR.out, HE.out⟩

end Go.Proofs.YtmibjfkpchncgaaGreat
