/- The laws of roots live; the law of common factors: its walk. -/
import Derived.Test.YtcipcpbjkcpgdaaM6
namespace Go.Proofs.Ytcipcpbjkcpgdaa
set_option linter.unusedVariables false
open Go Go.RowKit

theorem Nc.litAt {w : World} {g : Nat} (hg : g = w.heap.size) (d : Nat) (h : 1 ≤ d) (h2 : d ≤ 4294967295) (e : TypeId) : Nc (w.alloc (.cells #[.int .u32 (d : Int)] e)) (some ⟨g, 0, none⟩) 1 1 d := by
  subst hg; exact Nc.lit1 w d h h2 e
theorem isq_24 : isq 24 = 4 := (isq_uniq (by decide) (by decide)).symm
theorem isq_25 : isq 25 = 5 := (isq_uniq (by decide) (by decide)).symm

set_option maxRecDepth 100000 in
set_option maxHeartbeats 4000000 in
theorem rt_lives (w : World) : Calls Try.prog 57 #[] w fun e w' => e = .returned (.bool true) ∧ Ext w w' := by
  have hd : ∀ d : Nat, d ≤ 4294967295 → dl d ≤ 1 := fun d h => dl_small h
  have HD := hidP hd
  clear hd
  go_enter Try.func57, Try.ntmps57
  go_wp2_with fail
  refine absC (fun x1 hx1 => ?_)
  have hx : Ext w x1 := by rw [hx1]; exact (((Ext.refl _).alloc _).alloc _)
  have HE := hx
  clear hx
  have l12 : Nc x1 (some ⟨w.heap.size, 0, none⟩) 1 1 12 := by rw [hx1]; exact (Nc.litAt rfl 12 (by omega) (by omega) _).ext ((Ext.refl _).alloc _)
  have l18 : Nc x1 (some ⟨w.heap.size + 1, 0, none⟩) 1 1 18 := by rw [hx1]; exact Nc.litAt (by simp) 18 (by omega) (by omega) _
  clear hx1
  refine (p_Gcd (l12.nu (by have := HD.out 12 (by omega); omega)) (l18.nu (by have := HD.out 18 (by omega); omega))).mono ?_
  rw [show Nat.gcd 12 18 = 6 from rfl]
  rintro e u1 ⟨a1, n1, c1, rfl, hs1, hx⟩
  replace HE := HE.trans hx
  clear hx
  clear l12 l18
  go_wp2_with fail
  refine absC (fun x2 hx2 => ?_)
  have hx : Ext u1 x2 := by rw [hx2]; exact ((Ext.refl _).alloc _)
  replace hs1 := hs1.ext hx
  replace HE := HE.trans hx
  clear hx
  have l6 : Nc x2 (some ⟨u1.heap.size, 0, none⟩) 1 1 6 := by rw [hx2]; exact Nc.litAt rfl 6 (by omega) (by omega) _
  clear hx2
  refine (d_Same_eq hs1 l6 (by have := HD.out 6 (by omega); omega)).mono ?_
  rintro e u2 ⟨rfl, hx⟩
  replace hs1 := hs1.ext hx
  replace HE := HE.trans hx
  clear hx
  clear hs1
  clear l6
  go_wp2_with fail
  refine absC (fun x3 hx3 => ?_)
  have hx : Ext u2 x3 := by rw [hx3]; exact ((Ext.refl _).alloc _)
  replace HE := HE.trans hx
  clear hx
  have l24 : Nc x3 (some ⟨u2.heap.size, 0, none⟩) 1 1 24 := by rw [hx3]; exact Nc.litAt rfl 24 (by omega) (by omega) _
  clear hx3
  refine (p_Sqrt (l24.nu (by have := HD.out 24 (by omega); omega)) (by have := HD.out 24 (by omega); omega)).mono ?_
  rw [isq_24]
  rintro e u3 ⟨a3, n3, c3, rfl, hs3, hx⟩
  replace HE := HE.trans hx
  clear hx
  clear l24
  go_wp2_with fail
  refine absC (fun x4 hx4 => ?_)
  have hx : Ext u3 x4 := by rw [hx4]; exact ((Ext.refl _).alloc _)
  replace hs3 := hs3.ext hx
  replace HE := HE.trans hx
  clear hx
  have l4 : Nc x4 (some ⟨u3.heap.size, 0, none⟩) 1 1 4 := by rw [hx4]; exact Nc.litAt rfl 4 (by omega) (by omega) _
  clear hx4
  refine (d_Same_eq hs3 l4 (by have := HD.out 4 (by omega); omega)).mono ?_
  rintro e u4 ⟨rfl, hx⟩
  replace hs3 := hs3.ext hx
  replace HE := HE.trans hx
  clear hx
  clear hs3
  clear l4
  go_wp2_with fail
  refine absC (fun x5 hx5 => ?_)
  have hx : Ext u4 x5 := by rw [hx5]; exact ((Ext.refl _).alloc _)
  replace HE := HE.trans hx
  clear hx
  have l25 : Nc x5 (some ⟨u4.heap.size, 0, none⟩) 1 1 25 := by rw [hx5]; exact Nc.litAt rfl 25 (by omega) (by omega) _
  clear hx5
  refine (p_Square (l25.nu (by have := HD.out 25 (by omega); omega)) (by have := HD.out 25 (by omega); omega)).mono ?_
  rw [isq_25, decide_eq_true (rfl : 5 * 5 = 25)]
  rintro e u5 ⟨rfl, hx⟩
  replace HE := HE.trans hx
  clear hx
  clear l25
  go_wp2_with fail
  go_ret
  exact ⟨rfl, HE⟩

set_option maxRecDepth 100000 in
set_option maxHeartbeats 8000000 in
theorem rootFactors_any (a : Option Addr) (n cap : Nat) (x : List Nat) (a' : Option Addr) (n' cap' : Nat) (y : List Nat) (w : World) (hs : Sl w a n cap (ints .u32 x)) (hx : Ws x) (hn : n ≤ 1048576) (hs' : Sl w a' n' cap' (ints .u32 y)) (hy : Ws y) (hn' : n' ≤ 1048576) :
    Calls Try.prog 9 #[.slice a n cap, .slice a' n' cap'] w fun e w' => e = .returned (.bool true) ∧ Ext w w' := by
  have hA : Nu w a n cap (val B32 x) := ⟨⟨x, hs, hx, rfl⟩, by omega⟩
  have hB : Nu w a' n' cap' (val B32 y) := ⟨⟨y, hs', hy, rfl⟩, by omega⟩
  generalize val B32 x = A at *
  generalize val B32 y = B at *
  have dA : dl A ≤ 1048576 := by have := hA.dl; omega
  have dB : dl B ≤ 1048576 := by have := hB.dl; omega
  have hgd : dl (Nat.gcd A B) ≤ 1048576 := by
    rcases Nat.eq_zero_or_pos A with ha | ha
    · rw [ha, Nat.gcd_zero_left]; omega
    · exact Nat.le_trans (dl_mono (Nat.gcd_le_left B ha)) (by omega)
  have hq1 : dl (A / Nat.gcd A B) ≤ 1048576 := by have := dl_div A (Nat.gcd A B); omega
  have hq2 : dl (B / Nat.gcd A B) ≤ 1048576 := by have := dl_div B (Nat.gcd A B); omega
  have hlm : dl (A * B / Nat.gcd A B) ≤ 2097152 := by have := dl_div (A * B) (Nat.gcd A B); have := dl_mul A B; omega
  have HA := hidP hA; have HB := hidP hB; have DG := hidP hgd; have DQ1 := hidP hq1; have DQ2 := hidP hq2; have DL := hidP hlm; have DA := hidP dA; have DB := hidP dB
  clear hA hB hs hs' dA dB hgd hq1 hq2 hlm
  go_enter Try.func9, Try.ntmps9
  go_wp2_with fail
  refine (p_Reduce HA.out HB.out).mono ?_
  rintro e u1 ⟨a1x, n1x, c1x, a1y, n1y, c1y, rfl, hs1x, hs1y, hx⟩
  have HE := hx
  clear hx
  go_wp2_with fail
  refine (q_Reduce (HA.out.ext HE) (HB.out.ext HE)).mono ?_
  rintro e u2 ⟨a2x, n2x, c2x, a2y, n2y, c2y, rfl, hs2x, hs2y, hx⟩
  replace hs1x := hs1x.ext hx
  replace hs1y := hs1y.ext hx
  replace HE := HE.trans hx
  clear hx
  go_wp2_with fail
  refine (p_Gcd (HA.out.ext HE) (HB.out.ext HE)).mono ?_
  rintro e u3 ⟨a3, n3, c3, rfl, hs3, hx⟩
  replace hs1x := hs1x.ext hx
  replace hs1y := hs1y.ext hx
  replace hs2x := hs2x.ext hx
  replace hs2y := hs2y.ext hx
  replace HE := HE.trans hx
  clear hx
  go_wp2_with fail
  refine (q_Gcd (HA.out.ext HE) (HB.out.ext HE)).mono ?_
  rintro e u4 ⟨a4, n4, c4, rfl, hs4, hx⟩
  replace hs1x := hs1x.ext hx
  replace hs1y := hs1y.ext hx
  replace hs2x := hs2x.ext hx
  replace hs2y := hs2y.ext hx
  replace hs3 := hs3.ext hx
  replace HE := HE.trans hx
  clear hx
  go_wp2_with fail
  refine (d_Same_eq hs3 hs4 (by have := DG.out; omega)).mono ?_
  rintro e u5 ⟨rfl, hx⟩
  replace hs1x := hs1x.ext hx
  replace hs1y := hs1y.ext hx
  replace hs2x := hs2x.ext hx
  replace hs2y := hs2y.ext hx
  replace hs3 := hs3.ext hx
  replace hs4 := hs4.ext hx
  replace HE := HE.trans hx
  clear hx
  clear hs3 hs4
  go_wp2_with fail
  refine (p_Lcm (HA.out.ext HE) (HB.out.ext HE)).mono ?_
  rintro e u6 ⟨a6, n6, c6, rfl, hs6, hx⟩
  replace hs1x := hs1x.ext hx
  replace hs1y := hs1y.ext hx
  replace hs2x := hs2x.ext hx
  replace hs2y := hs2y.ext hx
  replace HE := HE.trans hx
  clear hx
  go_wp2_with fail
  refine (q_Lcm (HA.out.ext HE) (HB.out.ext HE) (by have := DA.out; have := DB.out; omega)).mono ?_
  rintro e u7 ⟨a7, n7, c7, rfl, hs7, hx⟩
  replace hs1x := hs1x.ext hx
  replace hs1y := hs1y.ext hx
  replace hs2x := hs2x.ext hx
  replace hs2y := hs2y.ext hx
  replace hs6 := hs6.ext hx
  replace HE := HE.trans hx
  clear hx
  go_wp2_with fail
  refine (d_Same_eq hs6 hs7 (by have := DL.out; omega)).mono ?_
  rintro e u8 ⟨rfl, hx⟩
  replace hs1x := hs1x.ext hx
  replace hs1y := hs1y.ext hx
  replace hs2x := hs2x.ext hx
  replace hs2y := hs2y.ext hx
  replace hs6 := hs6.ext hx
  replace hs7 := hs7.ext hx
  replace HE := HE.trans hx
  clear hx
  clear hs6 hs7
  go_wp2_with fail
  refine (d_Same_eq hs1x hs2x (by have := DQ1.out; omega)).mono ?_
  rintro e u9 ⟨rfl, hx⟩
  replace hs1x := hs1x.ext hx
  replace hs1y := hs1y.ext hx
  replace hs2x := hs2x.ext hx
  replace hs2y := hs2y.ext hx
  replace HE := HE.trans hx
  clear hx
  clear hs1x hs2x
  go_wp2_with fail
  refine (d_Same_eq hs1y hs2y (by have := DQ2.out; omega)).mono ?_
  rintro e u10 ⟨rfl, hx⟩
  replace hs1y := hs1y.ext hx
  replace hs2y := hs2y.ext hx
  replace HE := HE.trans hx
  clear hx
  clear hs1y hs2y
  go_wp2_with fail
  refine (rt_lives _).mono ?_
  rintro e u11 ⟨rfl, hx⟩
  replace HE := HE.trans hx
  clear hx
  go_wp2_with fail
  go_ret
  exact ⟨rfl, HE⟩

end Go.Proofs.Ytcipcpbjkcpgdaa
