/- The law of roots: its walk. -/
import Derived.Test.YtcipcpbjkcpgdaaR11
namespace Go.Proofs.Ytcipcpbjkcpgdaa
set_option linter.unusedVariables false
open Go Go.RowKit

set_option maxRecDepth 100000 in
set_option maxHeartbeats 8000000 in
theorem rootRoots_any (a : Option Addr) (n cap : Nat) (x : List Nat) (k : Int) (w : World) (hs : Sl w a n cap (ints .u32 x)) (hx : Ws x) (hn : n ≤ 1048576) (hk1 : -9223372036854775808 ≤ k) (hk2 : k ≤ 9223372036854775807) :
    Calls Try.prog 12 #[.slice a n cap, .int .i64 k] w fun e w' => e = .returned (.bool true) ∧ Ext w w' := by
  have hA : Nu w a n cap (val B32 x) := ⟨⟨x, hs, hx, rfl⟩, by omega⟩
  generalize val B32 x = A at *
  have dA : dl A ≤ 1048576 := by have := hA.dl; omega
  have hsm : ∀ m : Nat, isq m ≤ m := fun m => by
    obtain ⟨h1, h2⟩ := isq_spec m
    rcases Nat.eq_zero_or_pos (isq m) with h0 | h0
    · omega
    · exact Nat.le_trans (Nat.le_mul_of_pos_right _ h0) h1
  have dS : dl (isq A) ≤ 1048576 := Nat.le_trans (dl_mono (hsm A)) dA
  have dSS : dl (isq A * isq A) ≤ 2097152 := by have := dl_mul (isq A) (isq A); omega
  have hcz : (cmpI (isq A * isq A) A == 0) = decide (isq A * isq A = A) := by rw [Bool.eq_iff_iff]; simp [cmpI_eq]
  have hkm := hsm k.toNat
  have hkb : isq k.toNat ≤ 9223372036854775807 := by omega
  have PS := hidP (fun u => p_SqrtInt k u hk1 hk2)
  have P1 := hidP (fun u (hh : Nu u a n cap A) => p_Sqrt hh (by omega))
  have P2 := hidP (fun u (hh : Nu u a n cap A) => q_Sqrt hh (by omega))
  have P3 := hidP (fun u (hh : Nu u a n cap A) => p_Square hh (by omega))
  have HKS : Hid (isq k.toNat = isq k.toNat) := hidP rfl
  have HK0 : Hid (k ≤ 0 → isq k.toNat = 0) := hidP (fun h => by rw [show k.toNat = 0 by omega]; rfl)
  obtain ⟨s, hsd⟩ : ∃ s, s = isq k.toNat := ⟨_, rfl⟩
  rw [← hsd] at PS HK0 hkb
  have HSD := hidP hsd
  generalize isq A = S at *
  have HA := hidP hA; have DA := hidP dA; have DS := hidP dS; have DSS := hidP dSS; have HCZ := hidP hcz
  clear hA hs dA dS dSS hcz hkm hsm HKS hsd
  have hs0 : (0 : Int) ≤ (s : Int) := by omega
  have hsd0 : decide ((0 : Int) ≤ (s : Int)) = true := decide_eq_true hs0
  have hdl2 : dl s ≤ 2 := dl_u64 (by omega)
  by_cases hk0 : k ≤ 0
  · have hkd : decide ((0 : Int) < k) = false := decide_eq_false (by omega)
    go_enter Try.func12, Try.ntmps12
    go_wp2_with fail
    refine (P2.out _ HA.out).mono ?_
    rintro e u1 ⟨a1, n1, c1, rfl, hs1, hx⟩
    have HE := hx
    clear hx
    go_wp2_with fail
    refine (PS.out _).mono ?_
    rintro e u4 ⟨rfl, rfl⟩
    go_wp2_with fail
    refine (P1.out _ (HA.out.ext HE)).mono ?_
    rintro e u5 ⟨a5, n5, c5, rfl, hs5, hx⟩
    replace hs1 := hs1.ext hx
    replace HE := HE.trans hx
    clear hx
    go_wp2_with fail
    refine (d_Same_eq hs5 hs1 (by have := DS.out; omega)).mono ?_
    rintro e u6 ⟨rfl, hx⟩
    replace hs1 := hs1.ext hx
    replace hs5 := hs5.ext hx
    replace HE := HE.trans hx
    clear hx
    clear hs5
    go_wp2_with fail
    refine (P3.out _ (HA.out.ext HE)).mono ?_
    rintro e u7 ⟨rfl, hx⟩
    replace hs1 := hs1.ext hx
    replace HE := HE.trans hx
    clear hx
    go_wp2_with fail
    refine (d_Mul (hs1.nu (by have := DS.out; omega)) (hs1.nu (by have := DS.out; omega))).mono ?_
    rintro e u8 ⟨a8, n8, c8, rfl, hs8, hx⟩
    replace hs1 := hs1.ext hx
    replace HE := HE.trans hx
    clear hx
    go_wp2_with fail
    refine (d_Cmp (hs8.nu (by have := DSS.out; omega)) (HA.out.ext HE)).mono ?_
    rintro e u9 ⟨rfl, hx⟩
    replace hs1 := hs1.ext hx
    replace hs8 := hs8.ext hx
    replace HE := HE.trans hx
    clear hx
    clear hs8 hs1
    have hcz2 := HCZ.out
    generalize hbb : decide (S * S = A) = bb at *
    generalize hcc : cmpI (S * S) A = cc at *
    have HBB := hidP hbb; have HCC := hidP hcc; clear hbb hcc
    go_wp2_with fail
    refine (d_Of s _ (by omega)).mono ?_
    rintro e u10 ⟨a10, n10, c10, rfl, hs10, hx⟩
    replace HE := HE.trans hx
    clear hx
    have hs0z := HK0.out hk0
    have HZ0 : Hid (Nc u10 none 0 0 s) := hidP (by rw [hs0z]; exact Nc.zero _)
    clear hs0z
    go_wp2_with fail
    refine (d_Same_eq hs10 HZ0.out (by omega)).mono ?_
    rintro e u11 ⟨rfl, hx⟩
    replace hs10 := hs10.ext hx
    replace HE := HE.trans hx
    clear hx
    clear hs10
    go_wp2_with fail
    refine (rt_lives _).mono ?_
    rintro e u12 ⟨rfl, hx⟩
    replace HE := HE.trans hx
    clear hx
    go_wp2_with fail
    go_ret
    exact ⟨rfl, HE⟩
  · obtain ⟨v, rfl⟩ : ∃ v : Nat, k = v := ⟨k.toNat, by omega⟩
    have hkd : decide ((0 : Int) < (v : Int)) = true := decide_eq_true (by omega)
    have HVS : Hid (isq v = s) := hidP (by rw [HSD.out, Int.toNat_natCast])
    have HVD : Hid (dl v ≤ 2) := hidP (dl_u64 (by omega))
    clear HSD
    go_enter Try.func12, Try.ntmps12
    go_wp2_with fail
    refine (P2.out _ HA.out).mono ?_
    rintro e u1 ⟨a1, n1, c1, rfl, hs1, hx⟩
    have HE := hx
    clear hx
    go_wp2_with fail
    refine (d_Of v _ (by omega)).mono ?_
    rintro e u2 ⟨a2, n2, c2, rfl, hs2, hx⟩
    replace hs1 := hs1.ext hx
    replace HE := HE.trans hx
    clear hx
    go_wp2_with fail
    refine (q_Sqrt (hs2.nu (by have := HVD.out; omega)) (by have := HVD.out; omega)).mono ?_
    rw [HVS.out]
    rintro e u3 ⟨a3, n3, c3, rfl, hs3, hx⟩
    replace hs1 := hs1.ext hx
    replace hs2 := hs2.ext hx
    replace HE := HE.trans hx
    clear hx
    clear hs2
    go_wp2_with fail
    refine (PS.out _).mono ?_
    rintro e u4 ⟨rfl, rfl⟩
    go_wp2_with fail
    refine (P1.out _ (HA.out.ext HE)).mono ?_
    rintro e u5 ⟨a5, n5, c5, rfl, hs5, hx⟩
    replace hs1 := hs1.ext hx
    replace hs3 := hs3.ext hx
    replace HE := HE.trans hx
    clear hx
    go_wp2_with fail
    refine (d_Same_eq hs5 hs1 (by have := DS.out; omega)).mono ?_
    rintro e u6 ⟨rfl, hx⟩
    replace hs1 := hs1.ext hx
    replace hs3 := hs3.ext hx
    replace hs5 := hs5.ext hx
    replace HE := HE.trans hx
    clear hx
    clear hs5
    go_wp2_with fail
    refine (P3.out _ (HA.out.ext HE)).mono ?_
    rintro e u7 ⟨rfl, hx⟩
    replace hs1 := hs1.ext hx
    replace hs3 := hs3.ext hx
    replace HE := HE.trans hx
    clear hx
    go_wp2_with fail
    refine (d_Mul (hs1.nu (by have := DS.out; omega)) (hs1.nu (by have := DS.out; omega))).mono ?_
    rintro e u8 ⟨a8, n8, c8, rfl, hs8, hx⟩
    replace hs1 := hs1.ext hx
    replace hs3 := hs3.ext hx
    replace HE := HE.trans hx
    clear hx
    go_wp2_with fail
    refine (d_Cmp (hs8.nu (by have := DSS.out; omega)) (HA.out.ext HE)).mono ?_
    rintro e u9 ⟨rfl, hx⟩
    replace hs1 := hs1.ext hx
    replace hs3 := hs3.ext hx
    replace hs8 := hs8.ext hx
    replace HE := HE.trans hx
    clear hx
    clear hs8 hs1
    have hcz2 := HCZ.out
    generalize hbb : decide (S * S = A) = bb at *
    generalize hcc : cmpI (S * S) A = cc at *
    have HBB := hidP hbb; have HCC := hidP hcc; clear hbb hcc
    go_wp2_with fail
    refine (d_Of s _ (by omega)).mono ?_
    rintro e u10 ⟨a10, n10, c10, rfl, hs10, hx⟩
    replace hs3 := hs3.ext hx
    replace HE := HE.trans hx
    clear hx
    go_wp2_with fail
    refine (d_Same_eq hs10 hs3 (by omega)).mono ?_
    rintro e u11 ⟨rfl, hx⟩
    replace hs3 := hs3.ext hx
    replace hs10 := hs10.ext hx
    replace HE := HE.trans hx
    clear hx
    clear hs10 hs3
    go_wp2_with fail
    refine (rt_lives _).mono ?_
    rintro e u12 ⟨rfl, hx⟩
    replace HE := HE.trans hx
    clear hx
    go_wp2_with fail
    go_ret
    exact ⟨rfl, HE⟩

end Go.Proofs.Ytcipcpbjkcpgdaa
