/- Square roots: of ints, and the document's. -/
import Derived.Test.YtogcmnagiepofaaR7
namespace Go.Proofs.Ytogcmnagiepofaa
set_option linter.unusedVariables false
open Go Go.RowKit

theorem bits_Len64_any (x : Nat) (w : World) (hx : x ≤ 18446744073709551615) :
    Calls Try.prog 131 #[.int .u64 x] w fun e w' => e = .returned (.int .i64 (bitlen x : Nat)) ∧ w = w' := by
  refine (Try.bits_Len64 x w (by omega) (by omega)).mono ?_
  rintro e w' ⟨rfl, rfl⟩
  refine ⟨ret_int ?_, rfl⟩
  rw [Int.toNat_natCast, Lib.bitLen, bitLen_eq 64 x (by omega)]

/-- What holds at the label. -/
def SiJ (n : Int) (v : Nat) (w : World) (a' : Act) (w' : World) : Prop :=
  ∃ (X : Nat) (u5 u6 u7 u8 u9 u10 u11 u12 u13 u14 u15 u16 u17 u18 u19 u20 u21 u22 u23 u24 u25 u26 : Value), a' = { tmps := #[.int .i64 n, undef, .int .i64 0, .int .u64 (v : Int), .int .u64 (X : Int), u5, u6, u7, u8, u9, u10, u11, u12, u13, u14, u15, u16, u17, u18, u19, u20, u21, u22, u23, u24, u25, u26], defers := [] } ∧ isq v ≤ X ∧ X ≤ 4294967296 ∧ v ≠ 0 ∧ w = w'

set_option maxRecDepth 100000 in
set_option maxHeartbeats 2000000 in
theorem p_SqrtInt (n : Int) (w : World) (h1 : -9223372036854775808 ≤ n) (h2 : n ≤ 9223372036854775807) :
    Calls Try.prog 90 #[.int .i64 n] w fun e w' => e = .returned (.int .i64 (isq n.toNat : Nat)) ∧ w = w' := by
  by_cases hn : n ≤ 0
  · have HZ : Hid (isq n.toNat = 0) := hidP (by rw [show n.toNat = 0 by omega]; rfl)
    have hnd : decide (n ≤ 0) = true := decide_eq_true hn
    go_enter Try.func90, Try.ntmps90
    go_wp2
    refine wp_scope_again 0 (fun _ _ => False) (fun _ _ => 0) rfl (fun _ _ h => h.elim) ?_
    intro _
    go_wp2
    simp only [Exit.jump]
    go_ret
    exact ⟨ret_int (by rw [HZ.out]; rfl), rfl⟩
  · obtain ⟨v, rfl⟩ : ∃ v : Nat, n = v := ⟨n.toNat, by omega⟩
    have hv0 : v ≠ 0 := by omega
    have hvb : v ≤ 9223372036854775807 := by omega
    rw [Int.toNat_natCast]
    have hvd : decide ((v : Int) ≤ 0) = false := decide_eq_false hn
    have hblt := lt_bitlen v
    have hbl1 := (bitlen_low hv0).1
    have hbl2 : bitlen v ≤ 63 := bitlen_le (by omega)
    have HPOW : Hid (isq v ≤ 2 ^ ((bitlen v + 1) / 2)) := hidP (by
      obtain ⟨h1, h2⟩ := isq_spec v
      refine Nat.le_of_lt (sq_lt (Nat.lt_of_le_of_lt h1 (Nat.lt_of_lt_of_le hblt ?_)))
      rw [← Nat.pow_add]
      exact Nat.pow_le_pow_right (by decide) (by omega))
    have HPB : Hid (2 ^ ((bitlen v + 1) / 2) ≤ 4294967296) := hidP (by
      have : 2 ^ ((bitlen v + 1) / 2) ≤ 2 ^ 32 := Nat.pow_le_pow_right (by decide) (by omega)
      omega)
    have BL := hidP (fun u => bits_Len64_any v u (by omega))
    generalize hb : bitlen v = bl at *
    have hex : ((bl : Int) + 1) / 2 = (((bl + 1) / 2 : Nat) : Int) := by omega
    have hexb : (bl + 1) / 2 ≤ 32 := by omega
    generalize (bl + 1) / 2 = ex at *
    have HV0 := hidP hv0
    obtain ⟨p, hp⟩ : ∃ p, p = 2 ^ ex := ⟨_, rfl⟩
    rw [← hp] at HPOW HPB
    have hpb := HPB.out
    have hsh : IntKind.u64.wrap ((2 : Int) ^ ex) = (p : Int) := by
      have e : (2 : Int) ^ ex = ((2 ^ ex : Nat) : Int) := by rw [Int.natCast_pow]; rfl
      rw [e, ← hp]
      exact IntWalk.u64_in _ (by omega)
    have hsh2 : (2 : Int) ^ ex = (p : Int) := by
      have e : (2 : Int) ^ ex = ((2 ^ ex : Nat) : Int) := by rw [Int.natCast_pow]; rfl
      rw [e, ← hp]
    clear hn hv0 hblt hb hp
    go_enter Try.func90, Try.ntmps90
    go_wp2
    refine wp_scope_again 0 (SiJ (v : Int) v w) (fun a' _ => (intOf (a'.tmps.getD 4 undef)).toNat) rfl ?_ ?_
    · rintro a' w' ⟨X, u5, u6, u7, u8, u9, u10, u11, u12, u13, u14, u15, u16, u17, u18, u19, u20, u21, u22, u23, u24, u25, u26, rfl, hge, hXb, hv, rfl⟩
      have hX0 : 0 < X := by have := isq_pos hv; omega
      have hNG := newton_ge (A := v) hX0
      have hNE := fun h => newton_end (A := v) hX0 h
      have hw1 : IntKind.u64.wrap ((v : Int) / (X : Int)) = ((v / X : Nat) : Int) := by
        rw [← Int.natCast_ediv]
        have : v / X ≤ v := Nat.div_le_self _ _
        generalize v / X = q at *
        exact IntWalk.u64_in _ (by omega)
      have hqb : v / X ≤ v := Nat.div_le_self _ _
      have hXz : ¬ X = 0 := by omega
      generalize v / X = q at *
      obtain ⟨Y, hY⟩ : ∃ Y, Y = (X + q) / 2 := ⟨_, rfl⟩
      have hYi : ((X : Int) + (q : Int)) / 2 = (Y : Int) := by omega
      rw [← hY] at hNG hNE
      have HNG := hidP hNG; have HNE := hidP hNE; have HGE := hidP hge
      have hYb : Y ≤ 9223372036854775807 := by omega
      clear hY hNG hNE hge
      by_cases hlt : Y < X
      · have hd : decide ((X : Int) ≤ (Y : Int)) = false := decide_eq_false (by omega)
        have hd2 : decide (X ≤ Y) = false := decide_eq_false (by omega)
        go_wp2
        go_step3
        rw [hYi]
        refine ⟨rfl, ⟨Y, _, _, _, _, _, _, _, _, _, _, _, _, _, _, _, _, _, _, _, _, _, _, rfl, HNG.out, by omega, hv, rfl⟩, ?_⟩
        show Y < X
        exact hlt
      · have hd : decide ((X : Int) ≤ (Y : Int)) = true := decide_eq_true (by omega)
        have hd2 : decide (X ≤ Y) = true := decide_eq_true (by omega)
        have HEQ : Hid (X = isq v) := hidP (by have := HNE.out (by omega); have := HGE.out; omega)
        go_wp2
        simp only [Exit.jump]
        go_ret
        exact ⟨ret_int (by rw [HEQ.out]), rfl⟩
    · intro hrest
      have HREST := hidP hrest
      clear hrest
      go_wp2_with fail
      refine (BL.out _).mono ?_
      rintro e u ⟨rfl, rfl⟩
      go_wp2_with fail
      go_step3
      refine ‹∀ (a : Act) (w : World), Code.wp _ _ _ a w → _› _ _ ?_
      exact HREST.out _ _ ⟨p, _, _, _, _, _, _, _, _, _, _, _, _, _, _, _, _, _, _, _, _, _, _, rfl, HPOW.out, HPB.out, HV0.out, rfl⟩

theorem cmpI_le {a b : Nat} (h : a ≤ b) : cmpI a b ≤ 0 := by
  unfold cmpI
  split
  · omega
  · rw [if_neg (by omega)]; exact Int.le_refl _
theorem cmpI_gt {a b : Nat} (h : b < a) : cmpI a b = 1 := by
  unfold cmpI
  rw [if_neg (by omega), if_pos h]
theorem sq_step (R e : Nat) : (R + e + e) = R + 2 * e := by omega

set_option maxRecDepth 100000 in
set_option maxHeartbeats 2000000 in
theorem q_Sqrt {a : Option Addr} {n cap A : Nat} {w : World} (h : Nu w a n cap A) (hb : dl A ≤ 274877906944) :
    Calls Try.prog 132 #[.slice a n cap] w (RetN w (isq A)) := by
  have H := hidP h
  have hblt := lt_bitlen A
  have hbl : bitlen A ≤ 32 * dl A := bitlen_le (by rw [Nat.pow_mul]; exact dl_lt A)
  have HST : Hid (A < (0 + 2 ^ (bitlen A / 2 + 1 + 1)) * (0 + 2 ^ (bitlen A / 2 + 1 + 1))) := hidP (by
    rw [Nat.zero_add, ← Nat.pow_add]
    exact Nat.lt_of_lt_of_le hblt (Nat.pow_le_pow_right (by decide) (by omega)))
  have BL := hidP (fun u hh => @d_Bits a n cap A u hh)
  generalize bitlen A = bl at *
  have hbd : (bl : Int) / 2 = ((bl / 2 : Nat) : Int) := by omega
  have hblb : bl ≤ 8796093022208 := by omega
  have hb2 : bl / 2 ≤ 4398046511104 := by omega
  have hb3 : bl / 2 + 1 ≤ 16 * dl A + 1 := by omega
  generalize bl / 2 = h2 at *
  have HB := hidP hb; have HB3 := hidP hb3
  clear h hblt hbl hb hb3
  go_enter Try.func132, Try.ntmps132
  go_wp2_with fail
  refine (BL.out _ H.out).mono ?_
  rintro e u1 ⟨rfl, he⟩
  go_wp2_with fail
  go_loopw [3, 4] (fun rv iv wr => ∃ (k R : Nat) (ar : Option Addr) (nr cr : Nat), k ≤ h2 + 2 ∧ iv = .int .i64 ((k : Int) - 1) ∧ rv = .slice ar nr cr ∧ Nc wr ar nr cr R ∧ R * R ≤ A ∧ A < (R + 2 ^ k) * (R + 2 ^ k) ∧ Ext w wr) (fun _ iv _ => (intOf iv + 1).toNat)
  case atStart => exact ⟨h2 + 1 + 1, 0, none, 0, 0, by omega, by go_num, rfl, Nc.zero _, by omega, HST.out, he⟩
  case round =>
    clear HST he
    obtain ⟨k, R, ar, nr, cr, hk, rfl, rfl, hr, hRA, hAR, he⟩ := hrel
    have HR := hidP hr; have HRA := hidP hRA; have HAR := hidP hAR; have HE := hidP he
    have HDR : Hid (dl R ≤ dl A) := hidP (by
      refine dl_mono ?_
      rcases Nat.eq_zero_or_pos R with h0 | h0
      · omega
      · exact Nat.le_trans (Nat.le_mul_of_pos_right _ h0) hRA)
    clear hr hRA hAR he
    by_cases h0 : 0 < k
    · obtain ⟨i, rfl⟩ : ∃ i, k = i + 1 := ⟨k - 1, by omega⟩
      have e1 : ((i + 1 : Nat) : Int) - 1 = (i : Int) := by omega
      rw [e1]
      clear e1
      have HDP : Hid (dl (2 ^ i) ≤ dl A + 2) := hidP (by have := dl_pow i; have := HB3.out; omega)
      have HDX : Hid (dl (R + 2 ^ i) ≤ dl A + 3) := hidP (dl_add (by have := HDR.out; omega) HDP.out)
      have HDXX : Hid (dl ((R + 2 ^ i) * (R + 2 ^ i)) ≤ 1099511627776) := hidP (by have := dl_mul (R + 2 ^ i) (R + 2 ^ i); have := HDX.out; have := HB.out; omega)
      have HUP : Hid (A < (R + 2 ^ i + 2 ^ i) * (R + 2 ^ i + 2 ^ i)) := hidP (by
        have h9 := HAR.out
        rw [sq_step, show 2 * 2 ^ i = 2 ^ (i + 1) by rw [Nat.pow_succ, Nat.mul_comm]]
        exact h9)
      have hib : i ≤ 35184372088832 := by omega
      go_wp2_with fail
      refine (d_Power i _ hib).mono ?_
      generalize hpi : 2 ^ i = p at *
      have HPI := hidP hpi
      clear hpi
      rintro e u2 ⟨a2, n2, c2, rfl, hs2, he2⟩
      have HS2 := hidP hs2; have HR2 := hidP (HR.out.ext he2); have HE2 := hidP (HE.out.trans he2)
      clear hs2 he2
      go_wp2_with fail
      refine (d_Add (HR2.out.nu (by have := HDR.out; have := HB.out; omega)) (HS2.out.nu (by have := HDP.out; have := HB.out; omega))).mono ?_
      obtain ⟨X, hX⟩ : ∃ X, X = R + p := ⟨_, rfl⟩
      rw [← hX] at HDX HDXX HUP
      rw [← hX]
      have HXE := hidP hX
      clear hX
      rintro e u3 ⟨a3, n3, c3, rfl, hs3, he3⟩
      have HS3 := hidP hs3; have HR3 := hidP (HR2.out.ext he3); have HE3 := hidP (HE2.out.trans he3)
      clear hs3 he3
      go_wp2_with fail
      refine (d_Mul (HS3.out.nu (by have := HDX.out; have := HB.out; omega)) (HS3.out.nu (by have := HDX.out; have := HB.out; omega))).mono ?_
      rintro e u4 ⟨a4, n4, c4, rfl, hs4, he4⟩
      have HS4 := hidP hs4; have HX4 := hidP (HS3.out.ext he4); have HR4 := hidP (HR3.out.ext he4); have HE4 := hidP (HE3.out.trans he4)
      clear hs4 he4
      have hcm := d_Cmp (HS4.out.nu HDXX.out) (H.out.ext HE4.out)
      by_cases hle : X * X ≤ A
      · have hc := cmpI_le hle
        have HLE := hidP hle
        generalize cmpI (X * X) A = cc at *
        have HCM := hidP hcm
        clear hcm hle
        go_wp2_with fail
        refine HCM.out.mono ?_
        rintro e u5 ⟨rfl, he5⟩
        have HX5 := hidP (HX4.out.ext he5); have HE5 := hidP (HE4.out.trans he5)
        clear he5
        go_wp2_with fail
        go_roundw
        case rel => exact ⟨i, X, a3, n3, c3, by omega, rfl, rfl, HX5.out, HLE.out, by rw [HPI.out]; exact HUP.out, HE5.out⟩
        case measure => simp [intOf]
      · have hc := cmpI_gt (a := X * X) (b := A) (by omega)
        have HLE := hidP hle
        rw [hc] at hcm
        have HCM := hidP hcm
        clear hcm hle hc
        go_wp2_with fail
        refine HCM.out.mono ?_
        rintro e u5 ⟨rfl, he5⟩
        have HR5 := hidP (HR4.out.ext he5); have HE5 := hidP (HE4.out.trans he5)
        clear he5
        go_wp2_with fail
        go_roundw
        case rel => exact ⟨i, R, ar, nr, cr, by omega, rfl, rfl, HR5.out, HRA.out, by have h8 := HLE.out; rw [HXE.out] at h8; rw [HPI.out]; omega, HE5.out⟩
        case measure => simp [intOf]
    · obtain rfl : k = 0 := by omega
      have HEQ : Hid (R = isq A) := hidP (isq_uniq HRA.out (by have := HAR.out; rwa [Nat.pow_zero] at this))
      go_wp2_with fail
      go_ret
      exact ⟨_, _, _, rfl, by rw [← HEQ.out]; exact HR.out, HE.out⟩

end Go.Proofs.Ytogcmnagiepofaa
