/- The document's fractions (frisketref04): negatives. -/
import Derived.Test.YtgjjalnmigdjgaaGreatQ16
namespace Go.Proofs.YtgjjalnmigdjgaaGreat
set_option linter.unusedVariables false
open Go Go.RowKit
set_option maxRecDepth 100000 in
set_option maxHeartbeats 4000000 in
theorem g_Neg (neg : Bool) (a d : Option Addr) (n cap m c : Nat) (z : Int) (D : Nat) (w : World) (hz : WhIn w neg a n cap z) (hd : Nu w d m c D) (hm : m ≤ 549755813888)
    (hb1 : dl z.natAbs ≤ 137438953472) (hb2 : dl D ≤ 137438953472) :
    Calls Tryz.prog 104 #[.agg #[.bool neg, .slice a n cap, .slice d m c]] w
      (RetF w (rz (-pz z D) (pd D)) (rd (-pz z D) (pd D))) := by
 have HP1 := hidP (fun u t1 t2 => g_worth neg a d n cap m c z D u t1 t2 hm)
 have B1 : Hid (dl (pz z D).natAbs ≤ 137438953473) := hidP (by have := pz_len z D; omega)
 have B2 : Hid (dl (pd D) ≤ 137438953473) := hidP (by have := pd_len D; omega)
 have HZ := hidP hz; have HD := hidP hd
 clear hz hd hb1 hb2 hm
 have N1 := hidP (pd_ne D)
 generalize pz z D = Z at *
 generalize pd D = E at *
 have Q1 : Hid (dl (-Z).natAbs ≤ 549755813888) := hidP (by have := B1.out; rw [Int.natAbs_neg]; omega)
 have Q3 : Hid (pz (-Z) E = -Z ∧ pd E = E) := hidP ⟨if_neg N1.out, if_neg N1.out⟩
 have HNG : Hid (∀ b a n c u, WhIn u b a n c Z → Calls Tryz.prog 150 #[.agg #[.bool b, .slice a n c]] u (RetW u (-Z))) := hidP (fun b a n c u t => r02_Neg_any b a n c Z u t)
 generalize -Z = Y at *
 go_enter Tryz.func104, Tryz.ntmps104
 go_wp2_with fail
 refine absC (fun x1 hx1 => ?_)
 have hx : Ext w x1 := by rw [hx1]; exact (((Ext.refl _).alloc _).alloc _)
 have bp : Bl x1 (w.heap.size) #[.bool neg, .slice a n cap, .slice d m c] := by rw [hx1]; exact ((Bl.new (by simp)).alloc (by simp))
 have fp : Fz x1 (w.heap.size) := by rw [hx1]; exact ((Fz.new (by simp)).alloc (Bl.new (by simp)) (by simp))
 have bs : Bl x1 (w.heap.size + 1) #[.bool false, .slice none 0 0, .slice none 0 0] := by rw [hx1]; exact (Bl.new (by simp))
 have fs : Fz x1 (w.heap.size + 1) := by rw [hx1]; exact (Fz.new (by simp))
 have HE := hx
 clear hx
 clear hx1
 refine (HP1.out _ (HZ.out.ext HE) (HD.out.ext HE)).mono ?_
 rintro e u1 ⟨b1, a1, n1, c1, d1, m1, k1, rfl, hw1, hu1, hm1, hx⟩
 replace fp := q1f hx fp bp
 replace bp := q1b hx bp
 replace fs := q1f hx fs bs
 replace bs := q1b hx bs
 replace HE := HE.trans hx
 clear hx
 have HM1 := hidP hm1
 clear hm1
 go_wp2_with fail
 refine absW (fun x2 hx2 => ?_)
 have hbut : But u1 x2 (w.heap.size) := by rw [hx2]; exact (But.refl _ _).store.store.store
 have hbn : Bl x2 (w.heap.size) #[.bool b1, .slice a1 n1 c1, .slice d1 m1 k1] := by rw [hx2]; exact (Bl.set (Bl.set (Bl.set bp (by simp)) (by simp)) (by simp))
 replace hw1 := hw1.but bp (not_ints3 nb_bool nb_slice nb_slice) hbut
 replace hu1 := hu1.but bp (not_ints3 nb_bool nb_slice nb_slice) hbut
 replace fs := But.fz hbut fs bs (Nat.succ_pos _) (by omega)
 replace bs := But.bl hbut bs (Nat.succ_pos _) (by omega)
 replace fp : Fz x2 (w.heap.size) := by rw [hx2]; exact (Fz.set (Fz.set (Fz.set fp)))
 replace HE : Ext w x2 := by rw [hx2]; exact (((HE.store (by show w.heap.size ≤ w.heap.size; omega) _).store (by show w.heap.size ≤ w.heap.size; omega) _).store (by show w.heap.size ≤ w.heap.size; omega) _)
 clear bp hbut hx2
 have bp := hbn
 clear hbn
 refine wp_region_plan (R := Ext) (.q 0 (.q 1 (.q 3 (.q 4 (.l 2 (.q 5 (.l 6 (.b 7 .done)))))))) (by kernel_rfl) (by kernel_rfl) (by kernel_rfl) (by kernel_rfl) Ext.refl (fun _ _ _ => Ext.trans) ?_
 refine absE (fun x3 hx3 => ?_)
 have hx : Ext x2 x3 := by rw [hx3]; exact (Ext.refl _).drew
 replace fp := q1f hx fp bp
 replace bp := q1b hx bp
 replace fs := q1f hx fs bs
 replace bs := q1b hx bs
 replace hw1 := hw1.ext hx
 replace hu1 := hu1.ext hx
 replace HE := HE.trans hx
 clear hx
 clear hx3
 repeat (refine wpE_q (v := ?_) rfl rfl (fun u hu => ?_) ?_; rotate_left 1; (focus (have kp := q1b hu bp; have ks := q1b hu bs; go_simp; (try rfl))); simp only [PU])
 refine wpE_l rfl rfl (fun K hK => ?_)
 go_simp
 refine (HNG.out b1 a1 n1 c1 _ hw1).mono ?_
 rintro e u2 ⟨a2, n2, c2, rfl, hs2, hx⟩
 refine hK.out _ _ hx ?_
 clear hK K
 try simp only [PU]
 replace fp := q1f hx fp bp
 replace bp := q1b hx bp
 replace fs := q1f hx fs bs
 replace bs := q1b hx bs
 replace hw1 := hw1.ext hx
 replace hu1 := hu1.ext hx
 replace HE := HE.trans hx
 clear hx
 replace hs2 : Nc u2 a2 n2 c2 (Y).natAbs := hs2
 repeat (refine wpE_q (v := ?_) rfl rfl (fun u hu => ?_) ?_; rotate_left 1; (focus (have kp := q1b hu bp; have ks := q1b hu bs; go_simp; (try rfl))); simp only [PU])
 refine wpE_l rfl rfl (fun K hK => ?_)
 go_simp
 refine (g_Reduce _ a2 d1 n2 c2 m1 k1 Y E _ (hs2.wh Q1.out) hu1).mono ?_
 rw [Q3.out.1, Q3.out.2]
 rintro e u3 ⟨a3, n3, c3, d3, m3, k3, rfl, hs3, ht3, hx⟩
 refine hK.out _ _ hx ?_
 clear hK K
 try simp only [PU]
 replace fp := q1f hx fp bp
 replace bp := q1b hx bp
 replace fs := q1f hx fs bs
 replace bs := q1b hx bs
 replace hw1 := hw1.ext hx
 replace hu1 := hu1.ext hx
 replace hs2 := hs2.ext hx
 replace HE := HE.trans hx
 clear hx
 replace hs3 : Nc u3 a3 n3 c3 (rz Y E).natAbs := hs3
 replace ht3 : Nc u3 d3 m3 k3 (rd Y E) := ht3
 refine wpE_b rfl rfl (fun K hK => ?_)
 go_simp
 refine hK.out _ _ ?_
 clear hK K
 try simp only [PU]
 refine absE (fun x4 hx4 => ?_)
 have hbut : But u3 x4 (w.heap.size + 1) := by rw [hx4]; exact (But.refl _ _).store.store.store
 have hbn : Bl x4 (w.heap.size + 1) #[(.bool (decide (rz Y E < 0))), .slice a3 n3 c3, .slice d3 m3 k3] := by rw [hx4]; exact (Bl.set (Bl.set (Bl.set bs (by simp)) (by simp)) (by simp))
 replace hw1 := hw1.but bs (not_ints3 nb_bool nb_slice nb_slice) hbut
 replace hu1 := hu1.but bs (not_ints3 nb_bool nb_slice nb_slice) hbut
 replace hs2 := hs2.but bs (not_ints3 nb_bool nb_slice nb_slice) hbut
 replace hs3 := hs3.but bs (not_ints3 nb_bool nb_slice nb_slice) hbut
 replace ht3 := ht3.but bs (not_ints3 nb_bool nb_slice nb_slice) hbut
 replace fp := But.fz hbut fp bp (Nat.succ_pos _) (by omega)
 replace bp := But.bl hbut bp (Nat.succ_pos _) (by omega)
 replace fs : Fz x4 (w.heap.size + 1) := by rw [hx4]; exact (Fz.set (Fz.set (Fz.set fs)))
 replace HE : Ext w x4 := by rw [hx4]; exact (((HE.store (by show w.heap.size ≤ w.heap.size + 1; omega) _).store (by show w.heap.size ≤ w.heap.size + 1; omega) _).store (by show w.heap.size ≤ w.heap.size + 1; omega) _)
 clear bs hbut hx4
 have bs := hbn
 clear hbn
 refine wpE_done ?_
 go_wp2_with fail
 refine bodyPost_cells rfl rfl Tryz.underlying29 rfl (by kernel_rfl) (bl_three bs) rfl ?_
 exact RetF.of rfl rfl rfl hs3 ht3 HE
end Go.Proofs.YtgjjalnmigdjgaaGreat
