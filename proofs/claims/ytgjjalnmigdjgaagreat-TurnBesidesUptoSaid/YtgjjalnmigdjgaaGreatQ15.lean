/- The document's fractions (frisketref04): products. -/
import Derived.Test.YtgjjalnmigdjgaaGreatQ10
import Derived.Deep.DeepCutAuto
namespace Go.Proofs.YtgjjalnmigdjgaaGreat
set_option linter.unusedVariables false
open Go Go.RowKit
set_option maxRecDepth 100000 in
set_option maxHeartbeats 4000000 in
theorem g_Mul (neg neg' : Bool) (a d a' d' : Option Addr) (n cap m c n' cap' m' c' : Nat) (z z' : Int) (D D' : Nat) (w : World) (hz : WhIn w neg a n cap z) (hd : Nu w d m c D) (hm : m ≤ 549755813888) (hz' : WhIn w neg' a' n' cap' z') (hd' : Nu w d' m' c' D') (hm' : m' ≤ 549755813888)
    (hb1 : dl z.natAbs ≤ 137438953472) (hb2 : dl D ≤ 137438953472) (hb3 : dl z'.natAbs ≤ 137438953472) (hb4 : dl D' ≤ 137438953472) :
    Calls Tryz.prog 54 #[.agg #[.bool neg, .slice a n cap, .slice d m c], .agg #[.bool neg', .slice a' n' cap', .slice d' m' c']] w
      (RetF w (rz (pz z D * pz z' D') (pd D * pd D')) (rd (pz z D * pz z' D') (pd D * pd D'))) := by
 have HP1 := hidP (fun u t1 t2 => g_worth neg a d n cap m c z D u t1 t2 hm)
 have HP2 := hidP (fun u t1 t2 => g_worth neg' a' d' n' cap' m' c' z' D' u t1 t2 hm')
 have B1 : Hid (dl (pz z D).natAbs ≤ 137438953473) := hidP (by have := pz_len z D; omega)
 have B2 : Hid (dl (pd D) ≤ 137438953473) := hidP (by have := pd_len D; omega)
 have B3 : Hid (dl (pz z' D').natAbs ≤ 137438953473) := hidP (by have := pz_len z' D'; omega)
 have B4 : Hid (dl (pd D') ≤ 137438953473) := hidP (by have := pd_len D'; omega)
 have HZ := hidP hz; have HD := hidP hd; have HZ' := hidP hz'; have HD' := hidP hd'
 clear hz hd hz' hd' hb1 hb2 hb3 hb4 hm hm'
 have N1 := hidP (pd_ne D); have N2 := hidP (pd_ne D')
 generalize pz z D = Z at *
 generalize pd D = E at *
 generalize pz z' D' = Y at *
 generalize pd D' = F at *
 have Q1 : Hid (dl (Z * Y).natAbs ≤ 549755813888) := hidP (by have := dz_mul Z Y; have := B1.out; have := B3.out; omega)
 have Q2 : Hid (dl (E * F) ≤ 549755813888) := hidP (by have := dl_mul E F; have := B2.out; have := B4.out; omega)
 have Q3 : Hid (pz (Z * Y) (E * F) = Z * Y ∧ pd (E * F) = E * F) := hidP (by
  have := N1.out; have := N2.out
  have h : E * F ≠ 0 := Nat.mul_ne_zero N1.out N2.out
  exact ⟨if_neg h, if_neg h⟩)
 go_enter Tryz.func54, Tryz.ntmps54
 go_wp2_with fail
 refine wp_region_plan (R := Ext) (.q 0 (.q 2 (.l 1 (.l 3 (.b 4 (.b 5 .done)))))) (by kernel_rfl) (by kernel_rfl) (by kernel_rfl) (by kernel_rfl) Ext.refl (fun _ _ _ => Ext.trans) ?_
 refine absE (fun x1 hx1 => ?_)
 have hx : Ext w x1 := by rw [hx1]; exact ((((Ext.refl _).alloc _).alloc _).alloc _).drew
 have bp : Bl x1 (w.heap.size) #[.bool neg, .slice a n cap, .slice d m c] := by rw [hx1]; exact (((Bl.new (by simp)).alloc (by simp)).alloc (by simp)).drew
 have fp : Fz x1 (w.heap.size) := by rw [hx1]; exact (((Fz.new (by simp)).alloc (Bl.new (by simp)) (by simp)).alloc ((Bl.new (by simp)).alloc (by simp)) (by simp)).drew
 have bq : Bl x1 (w.heap.size + 1) #[.bool neg', .slice a' n' cap', .slice d' m' c'] := by rw [hx1]; exact ((Bl.new (by simp)).alloc (by simp)).drew
 have fq : Fz x1 (w.heap.size + 1) := by rw [hx1]; exact ((Fz.new (by simp)).alloc (Bl.new (by simp)) (by simp)).drew
 have bs : Bl x1 (w.heap.size + 1 + 1) #[.bool false, .slice none 0 0, .slice none 0 0] := by rw [hx1]; exact (Bl.new (by simp)).drew
 have fs : Fz x1 (w.heap.size + 1 + 1) := by rw [hx1]; exact (Fz.new (by simp)).drew
 have HE := hx
 clear hx
 clear hx1
 repeat (refine wpE_q (v := ?_) rfl rfl (fun u hu => ?_) ?_; rotate_left 1; (focus (have kp := q1b hu bp; have kq := q1b hu bq; have ks := q1b hu bs; go_simp; (try rfl))); simp only [PU])
 refine wpE_l rfl rfl (fun K hK => ?_)
 go_simp
 refine (HP1.out _ (HZ.out.ext HE) (HD.out.ext HE)).mono ?_
 rintro e u1 ⟨b1, a1, n1, c1, d1, m1, k1, rfl, hw1, hu1, hm1, hx⟩
 refine hK.out _ _ hx ?_
 clear hK K
 try simp only [PU]
 replace fp := q1f hx fp bp
 replace bp := q1b hx bp
 replace fq := q1f hx fq bq
 replace bq := q1b hx bq
 replace fs := q1f hx fs bs
 replace bs := q1b hx bs
 replace HE := HE.trans hx
 clear hx
 have HM1 := hidP hm1
 clear hm1
 refine wpE_l rfl rfl (fun K hK => ?_)
 go_simp
 refine (HP2.out _ (HZ'.out.ext HE) (HD'.out.ext HE)).mono ?_
 rintro e u2 ⟨b2, a2, n2, c2, d2, m2, k2, rfl, hw2, hu2, hm2, hx⟩
 refine hK.out _ _ hx ?_
 clear hK K
 try simp only [PU]
 replace fp := q1f hx fp bp
 replace bp := q1b hx bp
 replace fq := q1f hx fq bq
 replace bq := q1b hx bq
 replace fs := q1f hx fs bs
 replace bs := q1b hx bs
 replace hw1 := hw1.ext hx
 replace hu1 := hu1.ext hx
 replace HE := HE.trans hx
 clear hx
 have HM2 := hidP hm2
 clear hm2
 refine wpE_b rfl rfl (fun K hK => ?_)
 go_simp
 refine hK.out _ _ ?_
 clear hK K
 try simp only [PU]
 refine absE (fun x2 hx2 => ?_)
 have hbut : But u2 x2 (w.heap.size) := by rw [hx2]; exact (But.refl _ _).store.store.store
 have hbn : Bl x2 (w.heap.size) #[.bool b1, .slice a1 n1 c1, .slice d1 m1 k1] := by rw [hx2]; exact (Bl.set (Bl.set (Bl.set bp (by simp)) (by simp)) (by simp))
 replace hw1 := hw1.but bp (not_ints3 nb_bool nb_slice nb_slice) hbut
 replace hu1 := hu1.but bp (not_ints3 nb_bool nb_slice nb_slice) hbut
 replace hw2 := hw2.but bp (not_ints3 nb_bool nb_slice nb_slice) hbut
 replace hu2 := hu2.but bp (not_ints3 nb_bool nb_slice nb_slice) hbut
 replace fq := But.fz hbut fq bq (Nat.succ_pos _) (by omega)
 replace bq := But.bl hbut bq (Nat.succ_pos _) (by omega)
 replace fs := But.fz hbut fs bs (Nat.succ_pos _) (by omega)
 replace bs := But.bl hbut bs (Nat.succ_pos _) (by omega)
 replace fp : Fz x2 (w.heap.size) := by rw [hx2]; exact (Fz.set (Fz.set (Fz.set fp)))
 replace HE : Ext w x2 := by rw [hx2]; exact (((HE.store (by show w.heap.size ≤ w.heap.size; omega) _).store (by show w.heap.size ≤ w.heap.size; omega) _).store (by show w.heap.size ≤ w.heap.size; omega) _)
 clear bp hbut hx2
 have bp := hbn
 clear hbn
 refine wpE_b rfl rfl (fun K hK => ?_)
 go_simp
 refine hK.out _ _ ?_
 clear hK K
 try simp only [PU]
 refine absE (fun x3 hx3 => ?_)
 have hbut : But x2 x3 (w.heap.size + 1) := by rw [hx3]; exact (But.refl _ _).store.store.store
 have hbn : Bl x3 (w.heap.size + 1) #[.bool b2, .slice a2 n2 c2, .slice d2 m2 k2] := by rw [hx3]; exact (Bl.set (Bl.set (Bl.set bq (by simp)) (by simp)) (by simp))
 replace hw1 := hw1.but bq (not_ints3 nb_bool nb_slice nb_slice) hbut
 replace hu1 := hu1.but bq (not_ints3 nb_bool nb_slice nb_slice) hbut
 replace hw2 := hw2.but bq (not_ints3 nb_bool nb_slice nb_slice) hbut
 replace hu2 := hu2.but bq (not_ints3 nb_bool nb_slice nb_slice) hbut
 replace fp := But.fz hbut fp bp (Nat.succ_pos _) (by omega)
 replace bp := But.bl hbut bp (Nat.succ_pos _) (by omega)
 replace fs := But.fz hbut fs bs (Nat.succ_pos _) (by omega)
 replace bs := But.bl hbut bs (Nat.succ_pos _) (by omega)
 replace fq : Fz x3 (w.heap.size + 1) := by rw [hx3]; exact (Fz.set (Fz.set (Fz.set fq)))
 replace HE : Ext w x3 := by rw [hx3]; exact (((HE.store (by show w.heap.size ≤ w.heap.size + 1; omega) _).store (by show w.heap.size ≤ w.heap.size + 1; omega) _).store (by show w.heap.size ≤ w.heap.size + 1; omega) _)
 clear bq hbut hx3
 have bq := hbn
 clear hbn
 refine wpE_done ?_
 go_wp2_with fail
 refine wp_region_plan (R := Ext) (.q 0 (.q 1 (.q 2 (.q 3 (.q 5 (.q 6 (.q 7 (.q 8 (.l 4 (.l 9 (.q 10 (.l 11 (.b 12 .done))))))))))))) (by kernel_rfl) (by kernel_rfl) (by kernel_rfl) (by kernel_rfl) Ext.refl (fun _ _ _ => Ext.trans) ?_
 refine absE (fun x4 hx4 => ?_)
 have hx : Ext x3 x4 := by rw [hx4]; exact (Ext.refl _).drew
 replace fp := q1f hx fp bp
 replace bp := q1b hx bp
 replace fq := q1f hx fq bq
 replace bq := q1b hx bq
 replace fs := q1f hx fs bs
 replace bs := q1b hx bs
 replace hw1 := hw1.ext hx
 replace hu1 := hu1.ext hx
 replace hw2 := hw2.ext hx
 replace hu2 := hu2.ext hx
 replace HE := HE.trans hx
 clear hx
 clear hx4
 repeat (refine wpE_q (v := ?_) rfl rfl (fun u hu => ?_) ?_; rotate_left 1; (focus (have kp := q1b hu bp; have kq := q1b hu bq; have ks := q1b hu bs; go_simp; (try rfl))); simp only [PU])
 refine wpE_l rfl rfl (fun K hK => ?_)
 go_simp
 refine (r02_Mul_any b1 b2 a1 a2 n1 c1 n2 c2 Z Y _ hw1 hw2).mono ?_
 rintro e u4 ⟨a4, n4, c4, rfl, hs4, hx⟩
 refine hK.out _ _ hx ?_
 clear hK K
 try simp only [PU]
 replace fp := q1f hx fp bp
 replace bp := q1b hx bp
 replace fq := q1f hx fq bq
 replace bq := q1b hx bq
 replace fs := q1f hx fs bs
 replace bs := q1b hx bs
 replace hw1 := hw1.ext hx
 replace hu1 := hu1.ext hx
 replace hw2 := hw2.ext hx
 replace hu2 := hu2.ext hx
 replace HE := HE.trans hx
 clear hx
 replace hs4 : Nc u4 a4 n4 c4 (Z * Y).natAbs := hs4
 refine wpE_l rfl rfl (fun K hK => ?_)
 go_simp
 refine (d_Mul hu1 hu2).mono ?_
 rintro e u5 ⟨a5, n5, c5, rfl, hs5, hx⟩
 refine hK.out _ _ hx ?_
 clear hK K
 try simp only [PU]
 replace fp := q1f hx fp bp
 replace bp := q1b hx bp
 replace fq := q1f hx fq bq
 replace bq := q1b hx bq
 replace fs := q1f hx fs bs
 replace bs := q1b hx bs
 replace hw1 := hw1.ext hx
 replace hu1 := hu1.ext hx
 replace hw2 := hw2.ext hx
 replace hu2 := hu2.ext hx
 replace hs4 := hs4.ext hx
 replace HE := HE.trans hx
 clear hx
 repeat (refine wpE_q (v := ?_) rfl rfl (fun u hu => ?_) ?_; rotate_left 1; (focus (have kp := q1b hu bp; have kq := q1b hu bq; have ks := q1b hu bs; go_simp; (try rfl))); simp only [PU])
 refine wpE_l rfl rfl (fun K hK => ?_)
 go_simp
 refine (g_Reduce _ a4 a5 n4 c4 n5 c5 (Z * Y) (E * F) _ (hs4.wh Q1.out) (hs5.nu (by have := Q2.out; omega))).mono ?_
 rw [Q3.out.1, Q3.out.2]
 rintro e u6 ⟨a6, n6, c6, d6, m6, k6, rfl, hs6, ht6, hx⟩
 refine hK.out _ _ hx ?_
 clear hK K
 try simp only [PU]
 replace fp := q1f hx fp bp
 replace bp := q1b hx bp
 replace fq := q1f hx fq bq
 replace bq := q1b hx bq
 replace fs := q1f hx fs bs
 replace bs := q1b hx bs
 replace hw1 := hw1.ext hx
 replace hu1 := hu1.ext hx
 replace hw2 := hw2.ext hx
 replace hu2 := hu2.ext hx
 replace hs4 := hs4.ext hx
 replace hs5 := hs5.ext hx
 replace HE := HE.trans hx
 clear hx
 replace hs6 : Nc u6 a6 n6 c6 (rz (Z * Y) (E * F)).natAbs := hs6
 replace ht6 : Nc u6 d6 m6 k6 (rd (Z * Y) (E * F)) := ht6
 refine wpE_b rfl rfl (fun K hK => ?_)
 go_simp
 refine hK.out _ _ ?_
 clear hK K
 try simp only [PU]
 refine absE (fun x5 hx5 => ?_)
 have hbut : But u6 x5 (w.heap.size + 1 + 1) := by rw [hx5]; exact (But.refl _ _).store.store.store
 have hbn : Bl x5 (w.heap.size + 1 + 1) #[(.bool (decide (rz (Z * Y) (E * F) < 0))), .slice a6 n6 c6, .slice d6 m6 k6] := by rw [hx5]; exact (Bl.set (Bl.set (Bl.set bs (by simp)) (by simp)) (by simp))
 replace hw1 := hw1.but bs (not_ints3 nb_bool nb_slice nb_slice) hbut
 replace hu1 := hu1.but bs (not_ints3 nb_bool nb_slice nb_slice) hbut
 replace hw2 := hw2.but bs (not_ints3 nb_bool nb_slice nb_slice) hbut
 replace hu2 := hu2.but bs (not_ints3 nb_bool nb_slice nb_slice) hbut
 replace hs4 := hs4.but bs (not_ints3 nb_bool nb_slice nb_slice) hbut
 replace hs5 := hs5.but bs (not_ints3 nb_bool nb_slice nb_slice) hbut
 replace hs6 := hs6.but bs (not_ints3 nb_bool nb_slice nb_slice) hbut
 replace ht6 := ht6.but bs (not_ints3 nb_bool nb_slice nb_slice) hbut
 replace fp := But.fz hbut fp bp (Nat.succ_pos _) (by omega)
 replace bp := But.bl hbut bp (Nat.succ_pos _) (by omega)
 replace fq := But.fz hbut fq bq (Nat.succ_pos _) (by omega)
 replace bq := But.bl hbut bq (Nat.succ_pos _) (by omega)
 replace fs : Fz x5 (w.heap.size + 1 + 1) := by rw [hx5]; exact (Fz.set (Fz.set (Fz.set fs)))
 replace HE : Ext w x5 := by rw [hx5]; exact (((HE.store (by show w.heap.size ≤ w.heap.size + 1 + 1; omega) _).store (by show w.heap.size ≤ w.heap.size + 1 + 1; omega) _).store (by show w.heap.size ≤ w.heap.size + 1 + 1; omega) _)
 clear bs hbut hx5
 have bs := hbn
 clear hbn
 refine wpE_done ?_
 go_wp2_with fail
 refine bodyPost_cells rfl rfl Tryz.underlying29 rfl (by kernel_rfl) (bl_three bs) rfl ?_
 exact RetF.of rfl rfl rfl hs6 ht6 HE
end Go.Proofs.YtgjjalnmigdjgaaGreat
