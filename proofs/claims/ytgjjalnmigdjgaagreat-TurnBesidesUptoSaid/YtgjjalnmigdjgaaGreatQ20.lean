/- The program's fractions on rationals: negatives, halves. -/
import Derived.Test.YtgjjalnmigdjgaaGreatQ18
namespace Go.Proofs.YtgjjalnmigdjgaaGreat
set_option linter.unusedVariables false
open Go Go.RowKit
theorem w_Neg {neg : Bool} {a : Option Addr} {n cap : Nat} {z : Int} {w : World} (h : WhIn w neg a n cap z) : Calls Tryz.prog 215 #[.agg #[.bool neg, .slice a n cap]] w (RetW w (-z)) := w_Neg_any neg a n cap z w h
theorem half_mk (z : Int) (D : Nat) : mkRat z D * mkRat 1 2 = mkRat z (D * 2) := by
  rw [Rat.mkRat_mul_mkRat, Int.mul_one]
section
variable {b b' : Bool} {a d a' d' : Option Addr} {n c m k n' c' m' k' N N' : Nat} {q q' : Rat} {w : World}
set_option maxRecDepth 100000 in
set_option maxHeartbeats 4000000 in
theorem fq_Half (h : Fq w b a n c d m k q N) (hN : N ≤ 137438953472) :
    Calls Tryz.prog 86 #[.agg #[.bool b, .slice a n c, .slice d m k]] w (RetF w (q * mkRat 1 2).num (q * mkRat 1 2).den) := by
 obtain ⟨z, D, hz, hd, hm, hb1, hb2, rfl⟩ := h
 have HP : Hid (∀ u, WhIn u b a n c z → Nu u d m k D → Calls Tryz.prog 88 #[.agg #[.bool b, .slice a n c, .slice d m k]] u (RetF u (pz z D) (pd D))) := hidP (fun u t1 t2 => f_parts b a d n c m k z D u t1 t2)
 have B1 : Hid (dl (pz z D).natAbs ≤ 137438953472) := hidP (by have := pz_len z D; omega)
 have B2 : Hid (dl (pd D) ≤ 137438953473) := hidP (by have := pd_len D; omega)
 have E0 := hidP (pd_ne D)
 have hr1 := rz_num (z := pz z D) (D := pd D * 2) (by have := pd_ne D; omega)
 rw [show mkRat (pz z D) (pd D * 2) = mkRat z D * mkRat 1 2 from by rw [← mk_pr z D, half_mk]] at hr1
 have HR := hidP hr1
 clear hr1
 generalize (mkRat z D * mkRat 1 2).num = rn at *
 generalize (mkRat z D * mkRat 1 2).den = rdn at *
 have HZ := hidP hz; have HD := hidP hd
 clear hz hd hb1 hb2 hm hN
 generalize pz z D = Z at *
 generalize pd D = E at *
 have HSH : Hid (∀ a n c u, Nu u a n c E → Calls Tryz.prog 131 #[.slice a n c, .int .i64 1] u (RetN u (E * 2))) := hidP (fun a n c u t => n_Shift_up t 1 (by omega))
 have B3 : Hid (dl (E * 2) ≤ 549755813888) := hidP (by have := B2.out; have := dl_mul E 2; have := dl_small (a := 2) (by omega); omega)
 have E1 : Hid (E * 2 ≠ 0) := hidP (by have := E0.out; omega)
 generalize E * 2 = F at *
 go_enter Tryz.func86, Tryz.ntmps86
 go_wp2_with fail
 refine absC (fun x1 hx1 => ?_)
 have hx : Ext w x1 := by rw [hx1]; exact (((Ext.refl _).alloc _).alloc _)
 have bp : Bl x1 (w.heap.size) #[.bool b, .slice a n c, .slice d m k] := by rw [hx1]; exact ((Bl.new (by simp)).alloc (by simp))
 have bs : Bl x1 (w.heap.size + 1) #[.bool false, .slice none 0 0, .slice none 0 0] := by rw [hx1]; exact (Bl.new (by simp))
 have fs : Fz x1 (w.heap.size + 1) := by rw [hx1]; exact (Fz.new (by simp))
 have HE := hx
 clear hx
 clear hx1
 refine (HP.out _ (HZ.out.ext HE) (HD.out.ext HE)).mono ?_
 rintro e u1 ⟨a1, n1, c1, d1, m1, k1, rfl, hs1, ht1, hx⟩
 replace bp := q1b hx bp
 replace fs := q1f hx fs bs
 replace bs := q1b hx bs
 replace HE := HE.trans hx
 clear hx
 replace hs1 : Nc u1 a1 n1 c1 (Z).natAbs := hs1
 replace ht1 : Nc u1 d1 m1 k1 (E) := ht1
 go_upto_region 2 with fail
 have lpr := bp.lt (Nat.succ_pos _)
 have lsr := bs.lt (Nat.succ_pos _)
 refine absW (fun x2 hx2 => ?_)
 have hx : Ext u1 x2 := by rw [hx2]; exact ((Ext.refl _).alloc _)
 have br : Bl x2 (u1.heap.size) #[.bool (decide (Z < 0)), .slice a1 n1 c1, .slice d1 m1 k1] := by rw [hx2]; exact (Bl.new (by simp))
 replace bp := q1b hx bp
 replace fs := q1f hx fs bs
 replace bs := q1b hx bs
 replace hs1 := hs1.ext hx
 replace ht1 := ht1.ext hx
 replace HE := HE.trans hx
 clear hx
 clear hx2
 refine wp_region_plan (R := Ext) (.q 0 (.q 1 (.q 2 (.q 3 (.l 4 (.q 5 (.l 6 (.b 7 .done)))))))) (by kernel_rfl) (by kernel_rfl) (by kernel_rfl) (by kernel_rfl) Ext.refl (fun _ _ _ => Ext.trans) ?_
 refine absE (fun x3 hx3 => ?_)
 have hx : Ext x2 x3 := by rw [hx3]; exact (Ext.refl _).drew
 replace bp := q1b hx bp
 replace fs := q1f hx fs bs
 replace bs := q1b hx bs
 replace br := q1b hx br
 replace hs1 := hs1.ext hx
 replace ht1 := ht1.ext hx
 replace HE := HE.trans hx
 clear hx
 clear hx3
 repeat (refine wpE_q (v := ?_) rfl rfl (fun u hu => ?_) ?_; rotate_left 1; (focus (have kp := q1b hu bp; have ks := q1b hu bs; have kr := q1b hu br; go_simp; (try rfl))); simp only [PU])
 refine wpE_l rfl rfl (fun K hK => ?_)
 go_simp
 refine (HSH.out _ _ _ _ (ht1.nu (by have := B2.out; omega))).mono ?_
 rintro e u2 ⟨a2, n2, c2, rfl, hs2, hx⟩
 refine hK.out _ _ hx ?_
 clear hK K
 try simp only [PU]
 replace bp := q1b hx bp
 replace fs := q1f hx fs bs
 replace bs := q1b hx bs
 replace br := q1b hx br
 replace hs1 := hs1.ext hx
 replace ht1 := ht1.ext hx
 replace HE := HE.trans hx
 clear hx
 repeat (refine wpE_q (v := ?_) rfl rfl (fun u hu => ?_) ?_; rotate_left 1; (focus (have kp := q1b hu bp; have ks := q1b hu bs; have kr := q1b hu br; go_simp; (try rfl))); simp only [PU])
 refine wpE_l rfl rfl (fun K hK => ?_)
 go_simp
 refine (f_frac hs1 hs2 E1.out (by have := B1.out; omega) B3.out).mono ?_
 rintro e u3 ⟨a3, n3, c3, d3, m3, k3, rfl, hs3, ht3, hx⟩
 refine hK.out _ _ hx ?_
 clear hK K
 try simp only [PU]
 replace bp := q1b hx bp
 replace fs := q1f hx fs bs
 replace bs := q1b hx bs
 replace br := q1b hx br
 replace hs1 := hs1.ext hx
 replace ht1 := ht1.ext hx
 replace hs2 := hs2.ext hx
 replace HE := HE.trans hx
 clear hx
 replace hs3 : Nc u3 a3 n3 c3 (rz Z F).natAbs := hs3
 replace ht3 : Nc u3 d3 m3 k3 (rd Z F) := ht3
 refine wpE_b rfl rfl (fun K hK => ?_)
 go_simp
 refine hK.out _ _ ?_
 clear hK K
 try simp only [PU]
 refine absE (fun x4 hx4 => ?_)
 have hbut : But u3 x4 (w.heap.size + 1) := by rw [hx4]; exact (But.refl _ _).store.store.store
 have hbn : Bl x4 (w.heap.size + 1) #[(.bool (decide (rz Z F < 0))), .slice a3 n3 c3, .slice d3 m3 k3] := by rw [hx4]; exact (Bl.set (Bl.set (Bl.set bs (by simp)) (by simp)) (by simp))
 replace hs1 := hs1.but bs (not_ints3 nb_bool nb_slice nb_slice) hbut
 replace ht1 := ht1.but bs (not_ints3 nb_bool nb_slice nb_slice) hbut
 replace hs2 := hs2.but bs (not_ints3 nb_bool nb_slice nb_slice) hbut
 replace hs3 := hs3.but bs (not_ints3 nb_bool nb_slice nb_slice) hbut
 replace ht3 := ht3.but bs (not_ints3 nb_bool nb_slice nb_slice) hbut
 replace bp := But.bl hbut bp (Nat.succ_pos _) (by omega)
 replace br := But.bl hbut br (Nat.succ_pos _) (by omega)
 replace fs : Fz x4 (w.heap.size + 1) := by rw [hx4]; exact (Fz.set (Fz.set (Fz.set fs)))
 replace HE : Ext w x4 := by rw [hx4]; exact (((HE.store (by show w.heap.size ≤ w.heap.size + 1; omega) _).store (by show w.heap.size ≤ w.heap.size + 1; omega) _).store (by show w.heap.size ≤ w.heap.size + 1; omega) _)
 clear bs hbut hx4
 have bs := hbn
 clear hbn
 refine wpE_done ?_
 go_wp2_with fail
 refine bodyPost_cells rfl rfl Tryz.underlying29 rfl (by kernel_rfl) (bl_three bs) rfl ?_
 exact RetF.of HR.out.1.symm HR.out.2.symm rfl hs3 ht3 HE
end
end Go.Proofs.YtgjjalnmigdjgaaGreat
