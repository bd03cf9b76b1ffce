/- Rasters: the law of parts: its walk. -/
import Derived.Test.YtogcmnagiepofaaR15
namespace Go.Proofs.Ytogcmnagiepofaa
set_option linter.unusedVariables false
set_option linter.unusedSimpArgs false
open Go Go.RowKit


set_option maxRecDepth 100000 in
set_option maxHeartbeats 8000000 in
theorem pamParts_any (x y : Int) (a : Option Addr) (n c : Nat) (l : List Col) (i j u v : Int) (w : World)
    (ix1 : -9223372036854775808 ≤ x) (ix2 : x ≤ 9223372036854775807) (iy1 : -9223372036854775808 ≤ y) (iy2 : y ≤ 9223372036854775807) (h : SlC w a n c l) (hl : ∀ p ∈ l, p.1 ≤ 255 ∧ p.2.1 ≤ 255 ∧ p.2.2.1 ≤ 255 ∧ p.2.2.2 ≤ 255)
    (k1 : -9223372036854775808 ≤ i) (k2 : i ≤ 9223372036854775807) (k3 : -9223372036854775808 ≤ j) (k4 : j ≤ 9223372036854775807) (k5 : -9223372036854775808 ≤ u) (k6 : u ≤ 9223372036854775807) (k7 : -9223372036854775808 ≤ v) (k8 : v ≤ 9223372036854775807) :
    Calls Try.prog 10 #[rst x y a n c, .agg #[.int .i64 i, .int .i64 j, .int .i64 u, .int .i64 v]] w fun e w' => e = .returned (.bool true) ∧ Ext w w' := by
  have H := hidP h
  have A1 := hidP (fun (w : World) (t : SlC w a n c l) => p_At x y a n c l i j w t)
  have A2 := hidP (fun (w : World) (t : SlC w a n c l) => d_At x y a n c l i j w t)
  have A3 := hidP (fun (w : World) (t : SlC w a n c l) => p_Crop x y a n c l i j u v w t k1 k2 k3 k4)
  have A4 := hidP (fun (w : World) (t : SlC w a n c l) => d_Crop x y a n c l i j u v w t k1 k2 k3 k4)
  have A5 := hidP (fun (w : World) => p_May x y a n c w)
  have A6 := hidP (fun (w : World) => d_May x y a n c w)
  have A7 := hidP (fun (w : World) => p_Blank u v w)
  have A8 := hidP (fun (w : World) => d_Blank u v w)
  have S1 := hidP (fun (w : World) (x y : Int) (a a' : Option Addr) (n c n' c' : Nat) (l : List Col) (t : SlC w a n c l) (t' : SlC w a' n' c' l) => (by
    have := d_SameR x y x y a a' n c n' c' l l w t t'
    rw [show decide (x = x ∧ y = y ∧ l = l) = true by simp] at this
    exact this : Calls Try.prog 65 #[rst x y a n c, rst x y a' n' c'] w fun e w' => e = .returned (.bool true) ∧ Ext w w'))
  generalize atR x y n l i j = q at *
  generalize cropR x y n l i j u v = r at *
  generalize blankR u v = b at *
  generalize mayR x y n = mm at *
  obtain ⟨⟨q0, q1, q2, q3⟩, q4⟩ := q
  obtain ⟨⟨r0, r1, r2⟩, r3⟩ := r
  obtain ⟨b0, b1, b2⟩ := b
  clear h hl ix1 ix2 iy1 iy2 k1 k2 k3 k4 k5 k6 k7 k8
  go_enter Try.func10, Try.ntmps10
  go_wp2_with fail
  refine absC (fun x1 hx1 => ?_)
  have hx : Ext w x1 := by rw [hx1]; exact (((Ext.refl _).alloc _).alloc _)
  have bp : Bl x1 (w.heap.size) #[.int .i64 x, .int .i64 y, .slice a n c] := by rw [hx1]; exact ((Bl.new (by simp)).alloc (by simp))
  have bz : Bl x1 (w.heap.size + 1) #[.int .i64 i, .int .i64 j, .int .i64 u, .int .i64 v] := by rw [hx1]; exact (Bl.new (by simp))
  have HE := hx
  clear hx
  clear hx1
  refine (A1.out _ (H.out.ext HE)).mono ?_
  rintro e u1 ⟨rfl, hx⟩
  replace bp := Bl.ext hx bp (Nat.succ_pos _)
  replace bz := Bl.ext hx bz (Nat.succ_pos _)
  replace HE := HE.trans hx
  clear hx
  go_upto_region 2 with fail
  refine absW (fun x2 hx2 => ?_)
  have hx : Ext u1 x2 := by rw [hx2]; exact ((Ext.refl _).alloc _)
  have bc1 : Bl x2 (u1.heap.size) #[.int .u8 (q0 : Int), .int .u8 (q1 : Int), .int .u8 (q2 : Int), .int .u8 (q3 : Int)] := by rw [hx2]; exact (Bl.new (by simp))
  replace bp := Bl.ext hx bp (Nat.succ_pos _)
  replace bz := Bl.ext hx bz (Nat.succ_pos _)
  replace HE := HE.trans hx
  clear hx
  clear hx2
  go_wp2_with fail
  refine (A2.out _ (H.out.ext HE)).mono ?_
  rintro e u2 ⟨rfl, hx⟩
  replace bp := Bl.ext hx bp (Nat.succ_pos _)
  replace bz := Bl.ext hx bz (Nat.succ_pos _)
  replace bc1 := Bl.ext hx bc1 (Nat.succ_pos _)
  replace HE := HE.trans hx
  clear hx
  go_upto_region 3 with fail
  refine absW (fun x3 hx3 => ?_)
  have hx : Ext u2 x3 := by rw [hx3]; exact ((Ext.refl _).alloc _)
  have bc2 : Bl x3 (u2.heap.size) #[.int .u8 (q0 : Int), .int .u8 (q1 : Int), .int .u8 (q2 : Int), .int .u8 (q3 : Int)] := by rw [hx3]; exact (Bl.new (by simp))
  replace bp := Bl.ext hx bp (Nat.succ_pos _)
  replace bz := Bl.ext hx bz (Nat.succ_pos _)
  replace bc1 := Bl.ext hx bc1 (Nat.succ_pos _)
  replace HE := HE.trans hx
  clear hx
  clear hx3
  go_wp2_with fail
  refine (A3.out _ (H.out.ext HE)).mono ?_
  rintro e u3 ⟨a3, n3, c3, rfl, hs3, hx⟩
  replace bp := Bl.ext hx bp (Nat.succ_pos _)
  replace bz := Bl.ext hx bz (Nat.succ_pos _)
  replace bc1 := Bl.ext hx bc1 (Nat.succ_pos _)
  replace bc2 := Bl.ext hx bc2 (Nat.succ_pos _)
  replace HE := HE.trans hx
  clear hx
  replace hs3 : SlC u3 a3 n3 c3 r2 := hs3
  go_upto_region 4 with fail
  refine absW (fun x4 hx4 => ?_)
  have hx : Ext u3 x4 := by rw [hx4]; exact ((Ext.refl _).alloc _)
  have bd1 : Bl x4 (u3.heap.size) #[.int .i64 r0, .int .i64 r1, .slice a3 n3 c3] := by rw [hx4]; exact (Bl.new (by simp))
  replace bp := Bl.ext hx bp (Nat.succ_pos _)
  replace bz := Bl.ext hx bz (Nat.succ_pos _)
  replace bc1 := Bl.ext hx bc1 (Nat.succ_pos _)
  replace bc2 := Bl.ext hx bc2 (Nat.succ_pos _)
  replace hs3 := hs3.ext hx
  replace HE := HE.trans hx
  clear hx
  clear hx4
  go_wp2_with fail
  refine (A4.out _ (H.out.ext HE)).mono ?_
  rintro e u4 ⟨a4, n4, c4, rfl, hs4, hx⟩
  replace bp := Bl.ext hx bp (Nat.succ_pos _)
  replace bz := Bl.ext hx bz (Nat.succ_pos _)
  replace bc1 := Bl.ext hx bc1 (Nat.succ_pos _)
  replace bc2 := Bl.ext hx bc2 (Nat.succ_pos _)
  replace bd1 := Bl.ext hx bd1 (Nat.succ_pos _)
  replace hs3 := hs3.ext hx
  replace HE := HE.trans hx
  clear hx
  replace hs4 : SlC u4 a4 n4 c4 r2 := hs4
  go_upto_region 5 with fail
  refine absW (fun x5 hx5 => ?_)
  have hx : Ext u4 x5 := by rw [hx5]; exact ((Ext.refl _).alloc _)
  have bd2 : Bl x5 (u4.heap.size) #[.int .i64 r0, .int .i64 r1, .slice a4 n4 c4] := by rw [hx5]; exact (Bl.new (by simp))
  replace bp := Bl.ext hx bp (Nat.succ_pos _)
  replace bz := Bl.ext hx bz (Nat.succ_pos _)
  replace bc1 := Bl.ext hx bc1 (Nat.succ_pos _)
  replace bc2 := Bl.ext hx bc2 (Nat.succ_pos _)
  replace bd1 := Bl.ext hx bd1 (Nat.succ_pos _)
  replace hs3 := hs3.ext hx
  replace hs4 := hs4.ext hx
  replace HE := HE.trans hx
  clear hx
  clear hx5
  go_wp2_with fail
  refine wp_region_plan (R := Ext) (.q 0 (.q 2 (.l 1 (.l 3 (.q 4 (.q 5 (.q 6 (.q 7 (.q 8 (.q 9 (.q 10 (.q 11 (.q 12 (.q 13 (.q 14 (.q 15 (.q 16 (.q 17 (.l 18 (.q 19 (.q 20 (.q 21 (.q 22 (.q 23 (.q 24 (.q 25 (.q 26 (.q 27 (.q 28 (.q 29 (.q 31 (.q 32 (.q 33 (.q 34 (.l 30 (.l 35 (.l 36 (.q 37 (.q 38 (.l 39 (.q 40 (.q 41 .done)))))))))))))))))))))))))))))))))))))))))) (by kernel_rfl) (by kernel_rfl) (by kernel_rfl) (by kernel_rfl) Ext.refl (fun _ _ _ => Ext.trans) ?_
  refine absE (fun x6 hx6 => ?_)
  have hx : Ext x5 x6 := by rw [hx6]; exact (Ext.refl _).drew
  replace bp := Bl.ext hx bp (Nat.succ_pos _)
  replace bz := Bl.ext hx bz (Nat.succ_pos _)
  replace bc1 := Bl.ext hx bc1 (Nat.succ_pos _)
  replace bc2 := Bl.ext hx bc2 (Nat.succ_pos _)
  replace bd1 := Bl.ext hx bd1 (Nat.succ_pos _)
  replace bd2 := Bl.ext hx bd2 (Nat.succ_pos _)
  replace hs3 := hs3.ext hx
  replace hs4 := hs4.ext hx
  replace HE := HE.trans hx
  clear hx
  clear hx6
  repeat (refine wpE_q (v := ?_) rfl rfl (fun u hu => ?_) ?_; rotate_left 1; (focus (have kp := Bl.ext hu bp (Nat.succ_pos _); have kz := Bl.ext hu bz (Nat.succ_pos _); have kc1 := Bl.ext hu bc1 (Nat.succ_pos _); have kc2 := Bl.ext hu bc2 (Nat.succ_pos _); have kd1 := Bl.ext hu bd1 (Nat.succ_pos _); have kd2 := Bl.ext hu bd2 (Nat.succ_pos _); go_simp; (try rfl))); simp only [Act.put, List.setIfInBounds_toArray, List.set_cons_zero, List.set_cons_succ])
  refine wpE_l rfl rfl (fun K hK => ?_)
  go_simp
  refine (A5.out _).mono ?_
  rintro e u5 ⟨rfl, hx⟩
  refine hK.out _ _ hx ?_
  clear hK K
  try simp only [Act.put, List.setIfInBounds_toArray, List.set_cons_zero, List.set_cons_succ]
  replace bp := Bl.ext hx bp (Nat.succ_pos _)
  replace bz := Bl.ext hx bz (Nat.succ_pos _)
  replace bc1 := Bl.ext hx bc1 (Nat.succ_pos _)
  replace bc2 := Bl.ext hx bc2 (Nat.succ_pos _)
  replace bd1 := Bl.ext hx bd1 (Nat.succ_pos _)
  replace bd2 := Bl.ext hx bd2 (Nat.succ_pos _)
  replace hs3 := hs3.ext hx
  replace hs4 := hs4.ext hx
  replace HE := HE.trans hx
  clear hx
  refine wpE_l rfl rfl (fun K hK => ?_)
  go_simp
  refine (A6.out _).mono ?_
  rintro e u6 ⟨rfl, hx⟩
  refine hK.out _ _ hx ?_
  clear hK K
  try simp only [Act.put, List.setIfInBounds_toArray, List.set_cons_zero, List.set_cons_succ]
  replace bp := Bl.ext hx bp (Nat.succ_pos _)
  replace bz := Bl.ext hx bz (Nat.succ_pos _)
  replace bc1 := Bl.ext hx bc1 (Nat.succ_pos _)
  replace bc2 := Bl.ext hx bc2 (Nat.succ_pos _)
  replace bd1 := Bl.ext hx bd1 (Nat.succ_pos _)
  replace bd2 := Bl.ext hx bd2 (Nat.succ_pos _)
  replace hs3 := hs3.ext hx
  replace hs4 := hs4.ext hx
  replace HE := HE.trans hx
  clear hx
  repeat (refine wpE_q (v := ?_) rfl rfl (fun u hu => ?_) ?_; rotate_left 1; (focus (have kp := Bl.ext hu bp (Nat.succ_pos _); have kz := Bl.ext hu bz (Nat.succ_pos _); have kc1 := Bl.ext hu bc1 (Nat.succ_pos _); have kc2 := Bl.ext hu bc2 (Nat.succ_pos _); have kd1 := Bl.ext hu bd1 (Nat.succ_pos _); have kd2 := Bl.ext hu bd2 (Nat.succ_pos _); go_simp; (try rfl))); simp only [Act.put, List.setIfInBounds_toArray, List.set_cons_zero, List.set_cons_succ])
  refine wpE_l rfl rfl (fun K hK => ?_)
  go_simp
  refine (S1.out _ r0 r1 _ _ _ _ _ _ _ hs3 hs4).mono ?_
  rintro e u7 ⟨rfl, hx⟩
  refine hK.out _ _ hx ?_
  clear hK K
  try simp only [Act.put, List.setIfInBounds_toArray, List.set_cons_zero, List.set_cons_succ]
  replace bp := Bl.ext hx bp (Nat.succ_pos _)
  replace bz := Bl.ext hx bz (Nat.succ_pos _)
  replace bc1 := Bl.ext hx bc1 (Nat.succ_pos _)
  replace bc2 := Bl.ext hx bc2 (Nat.succ_pos _)
  replace bd1 := Bl.ext hx bd1 (Nat.succ_pos _)
  replace bd2 := Bl.ext hx bd2 (Nat.succ_pos _)
  replace hs3 := hs3.ext hx
  replace hs4 := hs4.ext hx
  replace HE := HE.trans hx
  clear hx
  repeat (refine wpE_q (v := ?_) rfl rfl (fun u hu => ?_) ?_; rotate_left 1; (focus (have kp := Bl.ext hu bp (Nat.succ_pos _); have kz := Bl.ext hu bz (Nat.succ_pos _); have kc1 := Bl.ext hu bc1 (Nat.succ_pos _); have kc2 := Bl.ext hu bc2 (Nat.succ_pos _); have kd1 := Bl.ext hu bd1 (Nat.succ_pos _); have kd2 := Bl.ext hu bd2 (Nat.succ_pos _); go_simp; (try rfl))); simp only [Act.put, List.setIfInBounds_toArray, List.set_cons_zero, List.set_cons_succ])
  refine wpE_l rfl rfl (fun K hK => ?_)
  go_simp
  refine (A7.out _).mono ?_
  rintro e u8 ⟨a8, n8, c8, rfl, hs8, hx⟩
  refine hK.out _ _ hx ?_
  clear hK K
  try simp only [Act.put, List.setIfInBounds_toArray, List.set_cons_zero, List.set_cons_succ]
  replace bp := Bl.ext hx bp (Nat.succ_pos _)
  replace bz := Bl.ext hx bz (Nat.succ_pos _)
  replace bc1 := Bl.ext hx bc1 (Nat.succ_pos _)
  replace bc2 := Bl.ext hx bc2 (Nat.succ_pos _)
  replace bd1 := Bl.ext hx bd1 (Nat.succ_pos _)
  replace bd2 := Bl.ext hx bd2 (Nat.succ_pos _)
  replace hs3 := hs3.ext hx
  replace hs4 := hs4.ext hx
  replace HE := HE.trans hx
  clear hx
  replace hs8 : SlC u8 a8 n8 c8 b2 := hs8
  refine wpE_l rfl rfl (fun K hK => ?_)
  go_simp
  refine (A8.out _).mono ?_
  rintro e u9 ⟨a9, n9, c9, rfl, hs9, hx⟩
  refine hK.out _ _ hx ?_
  clear hK K
  try simp only [Act.put, List.setIfInBounds_toArray, List.set_cons_zero, List.set_cons_succ]
  replace bp := Bl.ext hx bp (Nat.succ_pos _)
  replace bz := Bl.ext hx bz (Nat.succ_pos _)
  replace bc1 := Bl.ext hx bc1 (Nat.succ_pos _)
  replace bc2 := Bl.ext hx bc2 (Nat.succ_pos _)
  replace bd1 := Bl.ext hx bd1 (Nat.succ_pos _)
  replace bd2 := Bl.ext hx bd2 (Nat.succ_pos _)
  replace hs3 := hs3.ext hx
  replace hs4 := hs4.ext hx
  replace hs8 := hs8.ext hx
  replace HE := HE.trans hx
  clear hx
  replace hs9 : SlC u9 a9 n9 c9 b2 := hs9
  refine wpE_l rfl rfl (fun K hK => ?_)
  go_simp
  refine (S1.out _ b0 b1 _ _ _ _ _ _ _ hs8 hs9).mono ?_
  rintro e u10 ⟨rfl, hx⟩
  refine hK.out _ _ hx ?_
  clear hK K
  try simp only [Act.put, List.setIfInBounds_toArray, List.set_cons_zero, List.set_cons_succ]
  replace bp := Bl.ext hx bp (Nat.succ_pos _)
  replace bz := Bl.ext hx bz (Nat.succ_pos _)
  replace bc1 := Bl.ext hx bc1 (Nat.succ_pos _)
  replace bc2 := Bl.ext hx bc2 (Nat.succ_pos _)
  replace bd1 := Bl.ext hx bd1 (Nat.succ_pos _)
  replace bd2 := Bl.ext hx bd2 (Nat.succ_pos _)
  replace hs3 := hs3.ext hx
  replace hs4 := hs4.ext hx
  replace hs8 := hs8.ext hx
  replace hs9 := hs9.ext hx
  replace HE := HE.trans hx
  clear hx
  repeat (refine wpE_q (v := ?_) rfl rfl (fun u hu => ?_) ?_; rotate_left 1; (focus (have kp := Bl.ext hu bp (Nat.succ_pos _); have kz := Bl.ext hu bz (Nat.succ_pos _); have kc1 := Bl.ext hu bc1 (Nat.succ_pos _); have kc2 := Bl.ext hu bc2 (Nat.succ_pos _); have kd1 := Bl.ext hu bd1 (Nat.succ_pos _); have kd2 := Bl.ext hu bd2 (Nat.succ_pos _); go_simp; (try rfl))); simp only [Act.put, List.setIfInBounds_toArray, List.set_cons_zero, List.set_cons_succ])
  refine wpE_l rfl rfl (fun K hK => ?_)
  go_simp
  refine (pam_lives _).mono ?_
  rintro e u11 ⟨rfl, hx⟩
  refine hK.out _ _ hx ?_
  clear hK K
  try simp only [Act.put, List.setIfInBounds_toArray, List.set_cons_zero, List.set_cons_succ]
  replace bp := Bl.ext hx bp (Nat.succ_pos _)
  replace bz := Bl.ext hx bz (Nat.succ_pos _)
  replace bc1 := Bl.ext hx bc1 (Nat.succ_pos _)
  replace bc2 := Bl.ext hx bc2 (Nat.succ_pos _)
  replace bd1 := Bl.ext hx bd1 (Nat.succ_pos _)
  replace bd2 := Bl.ext hx bd2 (Nat.succ_pos _)
  replace hs3 := hs3.ext hx
  replace hs4 := hs4.ext hx
  replace hs8 := hs8.ext hx
  replace hs9 := hs9.ext hx
  replace HE := HE.trans hx
  clear hx
  repeat (refine wpE_q (v := ?_) rfl rfl (fun u hu => ?_) ?_; rotate_left 1; (focus (have kp := Bl.ext hu bp (Nat.succ_pos _); have kz := Bl.ext hu bz (Nat.succ_pos _); have kc1 := Bl.ext hu bc1 (Nat.succ_pos _); have kc2 := Bl.ext hu bc2 (Nat.succ_pos _); have kd1 := Bl.ext hu bd1 (Nat.succ_pos _); have kd2 := Bl.ext hu bd2 (Nat.succ_pos _); go_simp; (try rfl))); simp only [Act.put, List.setIfInBounds_toArray, List.set_cons_zero, List.set_cons_succ])
  refine wpE_done ?_
  go_wp2_with fail
  go_ret
  exact ⟨rfl, HE⟩

end Go.Proofs.Ytogcmnagiepofaa
