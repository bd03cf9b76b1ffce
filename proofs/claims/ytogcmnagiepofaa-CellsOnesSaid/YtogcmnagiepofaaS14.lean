/- Sets of cells: the law of single cells: its walk. -/
import Derived.Test.YtogcmnagiepofaaS13
import Derived.Test.YtogcmnagiepofaaS6
namespace Go.Proofs.Ytogcmnagiepofaa
set_option linter.unusedVariables false
set_option linter.unusedSimpArgs false
open Go Go.RowKit


set_option maxRecDepth 100000 in
set_option maxHeartbeats 8000000 in
theorem cellsOnes_any (x y : Int) (a : Option Addr) (n c : Nat) (l : List Bool) (i j k : Int) (w : World) (ix1 : -9223372036854775808 ≤ x) (ix2 : x ≤ 9223372036854775807) (iy1 : -9223372036854775808 ≤ y) (iy2 : y ≤ 9223372036854775807) (h : SlB w a n c l) (ii1 : -9223372036854775808 ≤ i) (ii2 : i ≤ 9223372036854775807) (ij1 : -9223372036854775808 ≤ j) (ij2 : j ≤ 9223372036854775807) (ik1 : -9223372036854775808 ≤ k) (ik2 : k ≤ 9223372036854775807) :
    Calls Try.prog 8 #[rst x y a n c, .agg #[.int .i64 i, .int .i64 j], .int .i64 k] w fun e w' => e = .returned (.bool true) ∧ Ext w w' := by
  have H := hidP h
  clear h ix1 ix2 iy1 iy2 ii1 ii2 ij1 ij2 ik1 ik2
  have A1 := hidP (fun (u : World) (t : SlB u a n c l) => c_With x y a n c l i j u t)
  have A2 := hidP (fun (u : World) (t : SlB u a n c l) => e_With x y a n c l i j u t)
  have A3 := hidP (fun (u : World) (t : SlB u a n c l) => c_Grow x y a n c l k u t)
  have A4 := hidP (fun (u : World) (t : SlB u a n c l) => e_Grow x y a n c l k u t)
  rw [growB_eq] at A3
  have A5 := hidP (fun (u : World) (t : SlB u a n c l) => c_Has x y a n c l i j u t)
  have A6 := hidP (fun (u : World) (t : SlB u a n c l) => e_Has x y a n c l i j u t)
  have A7 := hidP (fun (u : World) (t : SlB u a n c l) => c_Count x y a n c l u t)
  have A8 := hidP (fun (u : World) (t : SlB u a n c l) => e_Count x y a n c l u t)
  have A9 := hidP (fun (u : World) => (c_New i j u).mono fun e w' h => RetBo.ret h)
  have A10 := hidP (fun (u : World) => (e_New i j u).mono fun e w' h => RetBo.ret h)
  have S1 := hidP (fun (u : World) (x y : Int) (a a' : Option Addr) (n c n' c' : Nat) (l : List Bool) (t : SlB u a n c l) (t' : SlB u a' n' c' l) => (by
    have := e_Same x y x y a a' n c n' c' l l u t t'
    rw [show decide (x = x ∧ y = y ∧ l = l) = true by simp] at this
    exact this : Calls Try.prog 38 #[rst x y a n c, rst x y a' n' c'] u fun e w' => e = .returned (.bool true) ∧ Ext u w'))
  generalize withB x y n l i j = r at *
  generalize growD x y n l k = s at *
  generalize hasB x y n l i j = bb at *
  generalize countB x y n l = cc at *
  generalize newB i j = v at *
  obtain ⟨⟨r0, r1, r2⟩, r3⟩ := r
  obtain ⟨⟨s0, s1, s2⟩, s3⟩ := s
  obtain ⟨v0, v1, v2⟩ := v
  go_enter Try.func8, Try.ntmps8
  go_wp2_with fail
  refine absC (fun x1 hx1 => ?_)
  have hx : Ext w x1 := by rw [hx1]; exact (((Ext.refl _).alloc _).alloc _)
  have bp : Bl x1 (w.heap.size) #[.int .i64 x, .int .i64 y, .slice a n c] := by rw [hx1]; exact ((Bl.new (by simp)).alloc (by simp))
  have bz : Bl x1 (w.heap.size + 1) #[.int .i64 i, .int .i64 j] := by rw [hx1]; exact (Bl.new (by simp))
  have HE := hx
  clear hx
  clear hx1
  refine (A1.out _ (H.out.ext HE)).mono ?_
  rintro e u1 ⟨a1, n1, c1, rfl, hs1, hx⟩
  replace bp := Bl.ext hx bp (Nat.succ_pos _)
  replace bz := Bl.ext hx bz (Nat.succ_pos _)
  replace HE := HE.trans hx
  clear hx
  replace hs1 : SlB u1 a1 n1 c1 r2 := hs1
  go_upto_region 2 with fail
  refine absW (fun x2 hx2 => ?_)
  have hx : Ext u1 x2 := by rw [hx2]; exact ((Ext.refl _).alloc _)
  have bc1 : Bl x2 (u1.heap.size) #[.int .i64 r0, .int .i64 r1, .slice a1 n1 c1] := by rw [hx2]; exact (Bl.new (by simp))
  replace bp := Bl.ext hx bp (Nat.succ_pos _)
  replace bz := Bl.ext hx bz (Nat.succ_pos _)
  replace hs1 := hs1.ext hx
  replace HE := HE.trans hx
  clear hx
  clear hx2
  go_wp2_with fail
  refine (A2.out _ (H.out.ext HE)).mono ?_
  rintro e u2 ⟨a2, n2, c2, rfl, hs2, hx⟩
  replace bp := Bl.ext hx bp (Nat.succ_pos _)
  replace bz := Bl.ext hx bz (Nat.succ_pos _)
  replace bc1 := Bl.ext hx bc1 (Nat.succ_pos _)
  replace hs1 := hs1.ext hx
  replace HE := HE.trans hx
  clear hx
  replace hs2 : SlB u2 a2 n2 c2 r2 := hs2
  go_upto_region 3 with fail
  refine absW (fun x3 hx3 => ?_)
  have hx : Ext u2 x3 := by rw [hx3]; exact ((Ext.refl _).alloc _)
  have bc2 : Bl x3 (u2.heap.size) #[.int .i64 r0, .int .i64 r1, .slice a2 n2 c2] := by rw [hx3]; exact (Bl.new (by simp))
  replace bp := Bl.ext hx bp (Nat.succ_pos _)
  replace bz := Bl.ext hx bz (Nat.succ_pos _)
  replace bc1 := Bl.ext hx bc1 (Nat.succ_pos _)
  replace hs1 := hs1.ext hx
  replace hs2 := hs2.ext hx
  replace HE := HE.trans hx
  clear hx
  clear hx3
  go_wp2_with fail
  refine (A3.out _ (H.out.ext HE)).mono ?_
  rintro e u3 ⟨a3, n3, c3, rfl, hs3, hx⟩
  replace bp := Bl.ext hx bp (Nat.succ_pos _)
  replace bz := Bl.ext hx bz (Nat.succ_pos _)
  replace bc1 := Bl.ext hx bc1 (Nat.succ_pos _)
  replace bc2 := Bl.ext hx bc2 (Nat.succ_pos _)
  replace hs1 := hs1.ext hx
  replace hs2 := hs2.ext hx
  replace HE := HE.trans hx
  clear hx
  replace hs3 : SlB u3 a3 n3 c3 s2 := hs3
  go_upto_region 4 with fail
  refine absW (fun x4 hx4 => ?_)
  have hx : Ext u3 x4 := by rw [hx4]; exact ((Ext.refl _).alloc _)
  have bc3 : Bl x4 (u3.heap.size) #[.int .i64 s0, .int .i64 s1, .slice a3 n3 c3] := by rw [hx4]; exact (Bl.new (by simp))
  replace bp := Bl.ext hx bp (Nat.succ_pos _)
  replace bz := Bl.ext hx bz (Nat.succ_pos _)
  replace bc1 := Bl.ext hx bc1 (Nat.succ_pos _)
  replace bc2 := Bl.ext hx bc2 (Nat.succ_pos _)
  replace hs1 := hs1.ext hx
  replace hs2 := hs2.ext hx
  replace hs3 := hs3.ext hx
  replace HE := HE.trans hx
  clear hx
  clear hx4
  go_wp2_with fail
  refine (A4.out _ (H.out.ext HE)).mono ?_
  rintro e u4 ⟨a4, n4, c4, rfl, hs4, hx⟩
  replace bp := Bl.ext hx bp (Nat.succ_pos _)
  replace bz := Bl.ext hx bz (Nat.succ_pos _)
  replace bc1 := Bl.ext hx bc1 (Nat.succ_pos _)
  replace bc2 := Bl.ext hx bc2 (Nat.succ_pos _)
  replace bc3 := Bl.ext hx bc3 (Nat.succ_pos _)
  replace hs1 := hs1.ext hx
  replace hs2 := hs2.ext hx
  replace hs3 := hs3.ext hx
  replace HE := HE.trans hx
  clear hx
  replace hs4 : SlB u4 a4 n4 c4 s2 := hs4
  go_upto_region 5 with fail
  refine absW (fun x5 hx5 => ?_)
  have hx : Ext u4 x5 := by rw [hx5]; exact ((Ext.refl _).alloc _)
  have bc4 : Bl x5 (u4.heap.size) #[.int .i64 s0, .int .i64 s1, .slice a4 n4 c4] := by rw [hx5]; exact (Bl.new (by simp))
  replace bp := Bl.ext hx bp (Nat.succ_pos _)
  replace bz := Bl.ext hx bz (Nat.succ_pos _)
  replace bc1 := Bl.ext hx bc1 (Nat.succ_pos _)
  replace bc2 := Bl.ext hx bc2 (Nat.succ_pos _)
  replace bc3 := Bl.ext hx bc3 (Nat.succ_pos _)
  replace hs1 := hs1.ext hx
  replace hs2 := hs2.ext hx
  replace hs3 := hs3.ext hx
  replace hs4 := hs4.ext hx
  replace HE := HE.trans hx
  clear hx
  clear hx5
  refine wp_region_plan (R := Ext) (.q 0 (.q 1 (.q 2 (.q 3 (.q 4 (.q 6 (.q 7 (.q 8 (.q 9 (.q 10 (.l 5 (.l 11 (.q 12 (.q 13 (.q 14 (.q 15 (.l 16 (.q 17 (.q 18 (.q 19 (.q 20 (.q 21 (.q 22 (.q 23 (.q 24 (.q 25 (.l 26 (.q 27 (.q 28 (.q 29 (.q 30 (.q 31 (.q 32 (.q 33 (.q 34 (.q 36 (.l 35 (.l 37 (.q 38 (.q 39 (.q 40 (.q 41 (.q 42 (.q 43 (.q 44 (.q 46 (.q 47 (.q 48 (.q 49 (.l 45 (.l 50 (.l 51 (.q 52 (.q 53 (.l 54 (.q 55 (.q 56 .done))))))))))))))))))))))))))))))))))))))))))))))))))))))))) (by kernel_rfl) (by kernel_rfl) (by kernel_rfl) (by kernel_rfl) Ext.refl (fun _ _ _ => Ext.trans) ?_
  refine absE (fun x6 hx6 => ?_)
  have hx : Ext x5 x6 := by rw [hx6]; exact (Ext.refl _).drew
  replace bp := Bl.ext hx bp (Nat.succ_pos _)
  replace bz := Bl.ext hx bz (Nat.succ_pos _)
  replace bc1 := Bl.ext hx bc1 (Nat.succ_pos _)
  replace bc2 := Bl.ext hx bc2 (Nat.succ_pos _)
  replace bc3 := Bl.ext hx bc3 (Nat.succ_pos _)
  replace bc4 := Bl.ext hx bc4 (Nat.succ_pos _)
  replace hs1 := hs1.ext hx
  replace hs2 := hs2.ext hx
  replace hs3 := hs3.ext hx
  replace hs4 := hs4.ext hx
  replace HE := HE.trans hx
  clear hx
  clear hx6
  repeat (refine wpE_q (v := ?_) rfl rfl (fun u hu => ?_) ?_; rotate_left 1; (focus (have kp := Bl.ext hu bp (Nat.succ_pos _); have kz := Bl.ext hu bz (Nat.succ_pos _); have kc1 := Bl.ext hu bc1 (Nat.succ_pos _); have kc2 := Bl.ext hu bc2 (Nat.succ_pos _); have kc3 := Bl.ext hu bc3 (Nat.succ_pos _); have kc4 := Bl.ext hu bc4 (Nat.succ_pos _); go_simp; (try rfl))); simp only [Act.put, List.setIfInBounds_toArray, List.set_cons_zero, List.set_cons_succ])
  refine wpE_l rfl rfl (fun K hK => ?_)
  go_simp
  refine (A5.out _ (H.out.ext HE)).mono ?_
  rintro e u5 ⟨rfl, hx⟩
  refine hK.out _ _ hx ?_
  clear hK K
  try simp only [Act.put, List.setIfInBounds_toArray, List.set_cons_zero, List.set_cons_succ]
  replace bp := Bl.ext hx bp (Nat.succ_pos _)
  replace bz := Bl.ext hx bz (Nat.succ_pos _)
  replace bc1 := Bl.ext hx bc1 (Nat.succ_pos _)
  replace bc2 := Bl.ext hx bc2 (Nat.succ_pos _)
  replace bc3 := Bl.ext hx bc3 (Nat.succ_pos _)
  replace bc4 := Bl.ext hx bc4 (Nat.succ_pos _)
  replace hs1 := hs1.ext hx
  replace hs2 := hs2.ext hx
  replace hs3 := hs3.ext hx
  replace hs4 := hs4.ext hx
  replace HE := HE.trans hx
  clear hx
  refine wpE_l rfl rfl (fun K hK => ?_)
  go_simp
  refine (A6.out _ (H.out.ext HE)).mono ?_
  rintro e u6 ⟨rfl, hx⟩
  refine hK.out _ _ hx ?_
  clear hK K
  try simp only [Act.put, List.setIfInBounds_toArray, List.set_cons_zero, List.set_cons_succ]
  replace bp := Bl.ext hx bp (Nat.succ_pos _)
  replace bz := Bl.ext hx bz (Nat.succ_pos _)
  replace bc1 := Bl.ext hx bc1 (Nat.succ_pos _)
  replace bc2 := Bl.ext hx bc2 (Nat.succ_pos _)
  replace bc3 := Bl.ext hx bc3 (Nat.succ_pos _)
  replace bc4 := Bl.ext hx bc4 (Nat.succ_pos _)
  replace hs1 := hs1.ext hx
  replace hs2 := hs2.ext hx
  replace hs3 := hs3.ext hx
  replace hs4 := hs4.ext hx
  replace HE := HE.trans hx
  clear hx
  repeat (refine wpE_q (v := ?_) rfl rfl (fun u hu => ?_) ?_; rotate_left 1; (focus (have kp := Bl.ext hu bp (Nat.succ_pos _); have kz := Bl.ext hu bz (Nat.succ_pos _); have kc1 := Bl.ext hu bc1 (Nat.succ_pos _); have kc2 := Bl.ext hu bc2 (Nat.succ_pos _); have kc3 := Bl.ext hu bc3 (Nat.succ_pos _); have kc4 := Bl.ext hu bc4 (Nat.succ_pos _); go_simp; (try rfl))); simp only [Act.put, List.setIfInBounds_toArray, List.set_cons_zero, List.set_cons_succ])
  refine wpE_l rfl rfl (fun K hK => ?_)
  go_simp
  refine (S1.out _ r0 r1 _ _ _ _ _ _ _ hs1 hs2).mono ?_
  rintro e u7 ⟨rfl, hx⟩
  refine hK.out _ _ hx ?_
  clear hK K
  try simp only [Act.put, List.setIfInBounds_toArray, List.set_cons_zero, List.set_cons_succ]
  replace bp := Bl.ext hx bp (Nat.succ_pos _)
  replace bz := Bl.ext hx bz (Nat.succ_pos _)
  replace bc1 := Bl.ext hx bc1 (Nat.succ_pos _)
  replace bc2 := Bl.ext hx bc2 (Nat.succ_pos _)
  replace bc3 := Bl.ext hx bc3 (Nat.succ_pos _)
  replace bc4 := Bl.ext hx bc4 (Nat.succ_pos _)
  replace hs1 := hs1.ext hx
  replace hs2 := hs2.ext hx
  replace hs3 := hs3.ext hx
  replace hs4 := hs4.ext hx
  replace HE := HE.trans hx
  clear hx
  repeat (refine wpE_q (v := ?_) rfl rfl (fun u hu => ?_) ?_; rotate_left 1; (focus (have kp := Bl.ext hu bp (Nat.succ_pos _); have kz := Bl.ext hu bz (Nat.succ_pos _); have kc1 := Bl.ext hu bc1 (Nat.succ_pos _); have kc2 := Bl.ext hu bc2 (Nat.succ_pos _); have kc3 := Bl.ext hu bc3 (Nat.succ_pos _); have kc4 := Bl.ext hu bc4 (Nat.succ_pos _); go_simp; (try rfl))); simp only [Act.put, List.setIfInBounds_toArray, List.set_cons_zero, List.set_cons_succ])
  refine wpE_l rfl rfl (fun K hK => ?_)
  go_simp
  refine (S1.out _ s0 s1 _ _ _ _ _ _ _ hs3 hs4).mono ?_
  rintro e u8 ⟨rfl, hx⟩
  refine hK.out _ _ hx ?_
  clear hK K
  try simp only [Act.put, List.setIfInBounds_toArray, List.set_cons_zero, List.set_cons_succ]
  replace bp := Bl.ext hx bp (Nat.succ_pos _)
  replace bz := Bl.ext hx bz (Nat.succ_pos _)
  replace bc1 := Bl.ext hx bc1 (Nat.succ_pos _)
  replace bc2 := Bl.ext hx bc2 (Nat.succ_pos _)
  replace bc3 := Bl.ext hx bc3 (Nat.succ_pos _)
  replace bc4 := Bl.ext hx bc4 (Nat.succ_pos _)
  replace hs1 := hs1.ext hx
  replace hs2 := hs2.ext hx
  replace hs3 := hs3.ext hx
  replace hs4 := hs4.ext hx
  replace HE := HE.trans hx
  clear hx
  repeat (refine wpE_q (v := ?_) rfl rfl (fun u hu => ?_) ?_; rotate_left 1; (focus (have kp := Bl.ext hu bp (Nat.succ_pos _); have kz := Bl.ext hu bz (Nat.succ_pos _); have kc1 := Bl.ext hu bc1 (Nat.succ_pos _); have kc2 := Bl.ext hu bc2 (Nat.succ_pos _); have kc3 := Bl.ext hu bc3 (Nat.succ_pos _); have kc4 := Bl.ext hu bc4 (Nat.succ_pos _); go_simp; (try rfl))); simp only [Act.put, List.setIfInBounds_toArray, List.set_cons_zero, List.set_cons_succ])
  refine wpE_l rfl rfl (fun K hK => ?_)
  go_simp
  refine (A7.out _ (H.out.ext HE)).mono ?_
  rintro e u9 ⟨rfl, hx⟩
  refine hK.out _ _ hx ?_
  clear hK K
  try simp only [Act.put, List.setIfInBounds_toArray, List.set_cons_zero, List.set_cons_succ]
  replace bp := Bl.ext hx bp (Nat.succ_pos _)
  replace bz := Bl.ext hx bz (Nat.succ_pos _)
  replace bc1 := Bl.ext hx bc1 (Nat.succ_pos _)
  replace bc2 := Bl.ext hx bc2 (Nat.succ_pos _)
  replace bc3 := Bl.ext hx bc3 (Nat.succ_pos _)
  replace bc4 := Bl.ext hx bc4 (Nat.succ_pos _)
  replace hs1 := hs1.ext hx
  replace hs2 := hs2.ext hx
  replace hs3 := hs3.ext hx
  replace hs4 := hs4.ext hx
  replace HE := HE.trans hx
  clear hx
  refine wpE_l rfl rfl (fun K hK => ?_)
  go_simp
  refine (A8.out _ (H.out.ext HE)).mono ?_
  rintro e u10 ⟨rfl, hx⟩
  refine hK.out _ _ hx ?_
  clear hK K
  try simp only [Act.put, List.setIfInBounds_toArray, List.set_cons_zero, List.set_cons_succ]
  replace bp := Bl.ext hx bp (Nat.succ_pos _)
  replace bz := Bl.ext hx bz (Nat.succ_pos _)
  replace bc1 := Bl.ext hx bc1 (Nat.succ_pos _)
  replace bc2 := Bl.ext hx bc2 (Nat.succ_pos _)
  replace bc3 := Bl.ext hx bc3 (Nat.succ_pos _)
  replace bc4 := Bl.ext hx bc4 (Nat.succ_pos _)
  replace hs1 := hs1.ext hx
  replace hs2 := hs2.ext hx
  replace hs3 := hs3.ext hx
  replace hs4 := hs4.ext hx
  replace HE := HE.trans hx
  clear hx
  repeat (refine wpE_q (v := ?_) rfl rfl (fun u hu => ?_) ?_; rotate_left 1; (focus (have kp := Bl.ext hu bp (Nat.succ_pos _); have kz := Bl.ext hu bz (Nat.succ_pos _); have kc1 := Bl.ext hu bc1 (Nat.succ_pos _); have kc2 := Bl.ext hu bc2 (Nat.succ_pos _); have kc3 := Bl.ext hu bc3 (Nat.succ_pos _); have kc4 := Bl.ext hu bc4 (Nat.succ_pos _); go_simp; (try rfl))); simp only [Act.put, List.setIfInBounds_toArray, List.set_cons_zero, List.set_cons_succ])
  refine wpE_l rfl rfl (fun K hK => ?_)
  go_simp
  refine (A9.out _).mono ?_
  rintro e u11 ⟨a11, n11, c11, rfl, hs11, hx⟩
  refine hK.out _ _ hx ?_
  clear hK K
  try simp only [Act.put, List.setIfInBounds_toArray, List.set_cons_zero, List.set_cons_succ]
  replace bp := Bl.ext hx bp (Nat.succ_pos _)
  replace bz := Bl.ext hx bz (Nat.succ_pos _)
  replace bc1 := Bl.ext hx bc1 (Nat.succ_pos _)
  replace bc2 := Bl.ext hx bc2 (Nat.succ_pos _)
  replace bc3 := Bl.ext hx bc3 (Nat.succ_pos _)
  replace bc4 := Bl.ext hx bc4 (Nat.succ_pos _)
  replace hs1 := hs1.ext hx
  replace hs2 := hs2.ext hx
  replace hs3 := hs3.ext hx
  replace hs4 := hs4.ext hx
  replace HE := HE.trans hx
  clear hx
  replace hs11 : SlB u11 a11 n11 c11 v2 := hs11
  refine wpE_l rfl rfl (fun K hK => ?_)
  go_simp
  refine (A10.out _).mono ?_
  rintro e u12 ⟨a12, n12, c12, rfl, hs12, hx⟩
  refine hK.out _ _ hx ?_
  clear hK K
  try simp only [Act.put, List.setIfInBounds_toArray, List.set_cons_zero, List.set_cons_succ]
  replace bp := Bl.ext hx bp (Nat.succ_pos _)
  replace bz := Bl.ext hx bz (Nat.succ_pos _)
  replace bc1 := Bl.ext hx bc1 (Nat.succ_pos _)
  replace bc2 := Bl.ext hx bc2 (Nat.succ_pos _)
  replace bc3 := Bl.ext hx bc3 (Nat.succ_pos _)
  replace bc4 := Bl.ext hx bc4 (Nat.succ_pos _)
  replace hs1 := hs1.ext hx
  replace hs2 := hs2.ext hx
  replace hs3 := hs3.ext hx
  replace hs4 := hs4.ext hx
  replace hs11 := hs11.ext hx
  replace HE := HE.trans hx
  clear hx
  replace hs12 : SlB u12 a12 n12 c12 v2 := hs12
  refine wpE_l rfl rfl (fun K hK => ?_)
  go_simp
  refine (S1.out _ v0 v1 _ _ _ _ _ _ _ hs11 hs12).mono ?_
  rintro e u13 ⟨rfl, hx⟩
  refine hK.out _ _ hx ?_
  clear hK K
  try simp only [Act.put, List.setIfInBounds_toArray, List.set_cons_zero, List.set_cons_succ]
  replace bp := Bl.ext hx bp (Nat.succ_pos _)
  replace bz := Bl.ext hx bz (Nat.succ_pos _)
  replace bc1 := Bl.ext hx bc1 (Nat.succ_pos _)
  replace bc2 := Bl.ext hx bc2 (Nat.succ_pos _)
  replace bc3 := Bl.ext hx bc3 (Nat.succ_pos _)
  replace bc4 := Bl.ext hx bc4 (Nat.succ_pos _)
  replace hs1 := hs1.ext hx
  replace hs2 := hs2.ext hx
  replace hs3 := hs3.ext hx
  replace hs4 := hs4.ext hx
  replace hs11 := hs11.ext hx
  replace hs12 := hs12.ext hx
  replace HE := HE.trans hx
  clear hx
  repeat (refine wpE_q (v := ?_) rfl rfl (fun u hu => ?_) ?_; rotate_left 1; (focus (have kp := Bl.ext hu bp (Nat.succ_pos _); have kz := Bl.ext hu bz (Nat.succ_pos _); have kc1 := Bl.ext hu bc1 (Nat.succ_pos _); have kc2 := Bl.ext hu bc2 (Nat.succ_pos _); have kc3 := Bl.ext hu bc3 (Nat.succ_pos _); have kc4 := Bl.ext hu bc4 (Nat.succ_pos _); go_simp; (try rfl))); simp only [Act.put, List.setIfInBounds_toArray, List.set_cons_zero, List.set_cons_succ])
  refine wpE_l rfl rfl (fun K hK => ?_)
  go_simp
  refine (cells_lives _).mono ?_
  rintro e u14 ⟨rfl, hx⟩
  refine hK.out _ _ hx ?_
  clear hK K
  try simp only [Act.put, List.setIfInBounds_toArray, List.set_cons_zero, List.set_cons_succ]
  replace bp := Bl.ext hx bp (Nat.succ_pos _)
  replace bz := Bl.ext hx bz (Nat.succ_pos _)
  replace bc1 := Bl.ext hx bc1 (Nat.succ_pos _)
  replace bc2 := Bl.ext hx bc2 (Nat.succ_pos _)
  replace bc3 := Bl.ext hx bc3 (Nat.succ_pos _)
  replace bc4 := Bl.ext hx bc4 (Nat.succ_pos _)
  replace hs1 := hs1.ext hx
  replace hs2 := hs2.ext hx
  replace hs3 := hs3.ext hx
  replace hs4 := hs4.ext hx
  replace hs11 := hs11.ext hx
  replace hs12 := hs12.ext hx
  replace HE := HE.trans hx
  clear hx
  repeat (refine wpE_q (v := ?_) rfl rfl (fun u hu => ?_) ?_; rotate_left 1; (focus (have kp := Bl.ext hu bp (Nat.succ_pos _); have kz := Bl.ext hu bz (Nat.succ_pos _); have kc1 := Bl.ext hu bc1 (Nat.succ_pos _); have kc2 := Bl.ext hu bc2 (Nat.succ_pos _); have kc3 := Bl.ext hu bc3 (Nat.succ_pos _); have kc4 := Bl.ext hu bc4 (Nat.succ_pos _); go_simp; (try rfl))); simp only [Act.put, List.setIfInBounds_toArray, List.set_cons_zero, List.set_cons_succ])
  refine wpE_done ?_
  go_wp2_with fail
  go_ret
  exact ⟨rfl, HE⟩

end Go.Proofs.Ytogcmnagiepofaa
