/- The program's fractions (frac): sums. -/
import Derived.Test.YtgjjalnmigdjgaaGreatQ9
import Derived.Deep.DeepCutAuto
namespace Go.Proofs.YtgjjalnmigdjgaaGreat
set_option linter.unusedVariables false
open Go Go.RowKit
theorem w_Add {neg neg' : Bool} {a a' : Option Addr} {n cap n' cap' : Nat} {z z' : Int} {w : World} (h : WhIn w neg a n cap z) (h' : WhIn w neg' a' n' cap' z') :
    Calls Tryz.prog 174 #[.agg #[.bool neg, .slice a n cap], .agg #[.bool neg', .slice a' n' cap']] w (RetW w (z + z')) := w_Add_any neg neg' a a' n cap n' cap' z z' w h h'
theorem Nc.wf {w : World} {d : Option Addr} {m k D : Nat} (h : Nc w d m k D) (hb : dl D ≤ 549755813888) : WhIn w false d m k (D : Int) :=
  (h.nu (by omega)).wh (by rw [h.len]; exact hb)
/-- A sum's parts. -/
def az (z : Int) (D : Nat) (z' : Int) (D' : Nat) : Int := if D = D' then z + z' else z * (D' : Int) + z' * (D : Int)
def ad (D D' : Nat) : Nat := if D = D' then D else D * D'
set_option maxRecDepth 100000 in
set_option maxHeartbeats 4000000 in
theorem f_add (neg neg' : Bool) (a d a' d' : Option Addr) (n cap m c n' cap' m' c' : Nat) (z z' : Int) (D D' : Nat) (w : World) (hz : WhIn w neg a n cap z) (hd : Nc w d m c D) (hz' : WhIn w neg' a' n' cap' z') (hd' : Nc w d' m' c' D')
    (hb1 : dl z.natAbs ≤ 137438953473) (hb2 : dl D ≤ 137438953473) (hb3 : dl z'.natAbs ≤ 137438953473) (hb4 : dl D' ≤ 137438953473) :
    Calls Tryz.prog 134 #[.agg #[.bool neg, .slice a n cap, .slice d m c], .agg #[.bool neg', .slice a' n' cap', .slice d' m' c']] w
      (RetF w (az z D z' D') (ad D D')) := by
 have HZ := hidP hz; have HD := hidP hd; have HZ' := hidP hz'; have HD' := hidP hd'
 have B2 : Hid (dl D ≤ 549755813888) := hidP (by omega)
 have B4 : Hid (dl D' ≤ 549755813888) := hidP (by omega)
 have Q1 : Hid (dl (z * (D' : Int)).natAbs ≤ 549755813888) := hidP (by have := dz_mul z (D' : Int); rw [Int.natAbs_natCast] at this; omega)
 have Q2 : Hid (dl (z' * (D : Int)).natAbs ≤ 549755813888) := hidP (by have := dz_mul z' (D : Int); rw [Int.natAbs_natCast] at this; omega)
 clear hz hd hz' hd' hb1 hb2 hb3 hb4
 by_cases hDD : D = D'
 · have HR : Hid (az z D z' D' = z + z' ∧ ad D D' = D) := hidP ⟨if_pos hDD, if_pos hDD⟩
   have HC : Hid (cmpI D D' = 0) := hidP (cmpI_eq.2 hDD)
   clear hDD
   go_enter Tryz.func134, Tryz.ntmps134
   go_wp2_with fail
   refine absC (fun x1 hx1 => ?_)
   have hx : Ext w x1 := by rw [hx1]; exact ((((Ext.refl _).alloc _).alloc _).alloc _)
   have bp : Bl x1 (w.heap.size) #[.bool neg, .slice a n cap, .slice d m c] := by rw [hx1]; exact (((Bl.new (by simp)).alloc (by simp)).alloc (by simp))
   have bq : Bl x1 (w.heap.size + 1) #[.bool neg', .slice a' n' cap', .slice d' m' c'] := by rw [hx1]; exact ((Bl.new (by simp)).alloc (by simp))
   have bs : Bl x1 (w.heap.size + 1 + 1) #[.bool false, .slice none 0 0, .slice none 0 0] := by rw [hx1]; exact (Bl.new (by simp))
   have fs : Fz x1 (w.heap.size + 1 + 1) := by rw [hx1]; exact (Fz.new (by simp))
   have HE := hx
   clear hx
   clear hx1
   refine (n_Cmp ((HD.out.ext HE).nu (by have := B2.out; omega)) ((HD'.out.ext HE).nu (by have := B4.out; omega))).mono ?_
   rw [HC.out]
   rintro e u1 ⟨rfl, hx⟩
   replace bp := q1b hx bp
   replace bq := q1b hx bq
   replace fs := q1f hx fs bs
   replace bs := q1b hx bs
   replace HE := HE.trans hx
   clear hx
   go_wp2_with fail
   have hd1 := HD.out.ext HE
   refine wp_region_plan (R := Ext) (.q 0 (.q 1 (.q 2 (.q 3 (.q 5 (.q 6 (.l 4 (.q 7 (.b 8 .done))))))))) (by kernel_rfl) (by kernel_rfl) (by kernel_rfl) (by kernel_rfl) Ext.refl (fun _ _ _ => Ext.trans) ?_
   refine absE (fun x2 hx2 => ?_)
   have hx : Ext u1 x2 := by rw [hx2]; exact (Ext.refl _).drew
   replace bp := q1b hx bp
   replace bq := q1b hx bq
   replace fs := q1f hx fs bs
   replace bs := q1b hx bs
   replace hd1 := hd1.ext hx
   replace HE := HE.trans hx
   clear hx
   clear hx2
   repeat (refine wpE_q (v := ?_) rfl rfl (fun u hu => ?_) ?_; rotate_left 1; (focus (have kp := q1b hu bp; have kq := q1b hu bq; have ks := q1b hu bs; go_simp; (try rfl))); simp only [PU])
   refine wpE_l rfl rfl (fun K hK => ?_)
   go_simp
   refine (w_Add (HZ.out.ext HE) (HZ'.out.ext HE)).mono ?_
   rintro e u2 ⟨a2, n2, c2, rfl, hs2, hx⟩
   refine hK.out _ _ hx ?_
   clear hK K
   try simp only [PU]
   replace bp := q1b hx bp
   replace bq := q1b hx bq
   replace fs := q1f hx fs bs
   replace bs := q1b hx bs
   replace hd1 := hd1.ext hx
   replace HE := HE.trans hx
   clear hx
   replace hs2 : Nc u2 a2 n2 c2 (z + z').natAbs := hs2
   repeat (refine wpE_q (v := ?_) rfl rfl (fun u hu => ?_) ?_; rotate_left 1; (focus (have kp := q1b hu bp; have kq := q1b hu bq; have ks := q1b hu bs; go_simp; (try rfl))); simp only [PU])
   refine wpE_b rfl rfl (fun K hK => ?_)
   go_simp
   refine hK.out _ _ ?_
   clear hK K
   try simp only [PU]
   refine absE (fun x3 hx3 => ?_)
   have hbut : But u2 x3 (w.heap.size + 1 + 1) := by rw [hx3]; exact (But.refl _ _).store.store.store
   have hbn : Bl x3 (w.heap.size + 1 + 1) #[(.bool (decide (z + z' < 0))), .slice a2 n2 c2, .slice d m c] := by rw [hx3]; exact (Bl.set (Bl.set (Bl.set bs (by simp)) (by simp)) (by simp))
   replace hd1 := hd1.but bs (not_ints3 nb_bool nb_slice nb_slice) hbut
   replace hs2 := hs2.but bs (not_ints3 nb_bool nb_slice nb_slice) hbut
   replace bp := But.bl hbut bp (Nat.succ_pos _) (by omega)
   replace bq := But.bl hbut bq (Nat.succ_pos _) (by omega)
   replace fs : Fz x3 (w.heap.size + 1 + 1) := by rw [hx3]; exact (Fz.set (Fz.set (Fz.set fs)))
   replace HE : Ext w x3 := by rw [hx3]; exact (((HE.store (by show w.heap.size ≤ w.heap.size + 1 + 1; omega) _).store (by show w.heap.size ≤ w.heap.size + 1 + 1; omega) _).store (by show w.heap.size ≤ w.heap.size + 1 + 1; omega) _)
   clear bs hbut hx3
   have bs := hbn
   clear hbn
   refine wpE_done ?_
   go_wp2_with fail
   refine bodyPost_cells rfl rfl Tryz.underlying129 rfl (by kernel_rfl) (bl_three bs) rfl ?_
   exact RetF.of HR.out.1 HR.out.2 rfl hs2 hd1 HE
 have HR : Hid (az z D z' D' = z * (D' : Int) + z' * (D : Int) ∧ ad D D' = D * D') := hidP ⟨if_neg hDD, if_neg hDD⟩
 have hc0 : ¬ cmpI D D' = 0 := fun h => hDD (cmpI_eq.1 h)
 have hcb : (cmpI D D' == 0) = false := by simpa using hc0
 have HCM := hidP (fun u (t1 : Nu u d m c D) (t2 : Nu u d' m' c' D') => n_Cmp t1 t2)
 generalize cmpI D D' = cc at *
 have HC0 := hidP hc0
 clear hDD hc0
 go_enter Tryz.func134, Tryz.ntmps134
 go_wp2_with fail
 refine absC (fun x1 hx1 => ?_)
 have hx : Ext w x1 := by rw [hx1]; exact ((((Ext.refl _).alloc _).alloc _).alloc _)
 have bp : Bl x1 (w.heap.size) #[.bool neg, .slice a n cap, .slice d m c] := by rw [hx1]; exact (((Bl.new (by simp)).alloc (by simp)).alloc (by simp))
 have bq : Bl x1 (w.heap.size + 1) #[.bool neg', .slice a' n' cap', .slice d' m' c'] := by rw [hx1]; exact ((Bl.new (by simp)).alloc (by simp))
 have bs : Bl x1 (w.heap.size + 1 + 1) #[.bool false, .slice none 0 0, .slice none 0 0] := by rw [hx1]; exact (Bl.new (by simp))
 have fs : Fz x1 (w.heap.size + 1 + 1) := by rw [hx1]; exact (Fz.new (by simp))
 have HE := hx
 clear hx
 clear hx1
 refine (HCM.out _ ((HD.out.ext HE).nu (by have := B2.out; omega)) ((HD'.out.ext HE).nu (by have := B4.out; omega))).mono ?_
 rintro e u1 ⟨rfl, hx⟩
 replace bp := q1b hx bp
 replace bq := q1b hx bq
 replace fs := q1f hx fs bs
 replace bs := q1b hx bs
 replace HE := HE.trans hx
 clear hx
 go_wp2_with fail
 refine (w_Mul (HZ.out.ext HE) ((HD'.out.ext HE).wf B4.out)).mono ?_
 rintro e u2 ⟨a2, n2, c2, rfl, hs2, hx⟩
 replace bp := q1b hx bp
 replace bq := q1b hx bq
 replace fs := q1f hx fs bs
 replace bs := q1b hx bs
 replace HE := HE.trans hx
 clear hx
 replace hs2 : Nc u2 a2 n2 c2 (z * (D' : Int)).natAbs := hs2
 go_upto_region 4 with fail
 have lpx := bp.lt (Nat.succ_pos _)
 have lqx := bq.lt (Nat.succ_pos _)
 have lsx := bs.lt (Nat.succ_pos _)
 refine absW (fun x2 hx2 => ?_)
 have hx : Ext u2 x2 := by rw [hx2]; exact ((Ext.refl _).alloc _)
 have bx : Bl x2 (u2.heap.size) #[(.bool (decide (z * (D' : Int) < 0))), .slice a2 n2 c2] := by rw [hx2]; exact (Bl.new (by simp))
 replace bp := q1b hx bp
 replace bq := q1b hx bq
 replace fs := q1f hx fs bs
 replace bs := q1b hx bs
 replace hs2 := hs2.ext hx
 replace HE := HE.trans hx
 clear hx
 clear hx2
 go_wp2_with fail
 refine (w_Mul (HZ'.out.ext HE) ((HD.out.ext HE).wf B2.out)).mono ?_
 rintro e u3 ⟨a3, n3, c3, rfl, hs3, hx⟩
 replace bp := q1b hx bp
 replace bq := q1b hx bq
 replace fs := q1f hx fs bs
 replace bs := q1b hx bs
 replace bx := q1b hx bx
 replace hs2 := hs2.ext hx
 replace HE := HE.trans hx
 clear hx
 replace hs3 : Nc u3 a3 n3 c3 (z' * (D : Int)).natAbs := hs3
 go_upto_region 5 with fail
 have lpz := bp.lt (Nat.succ_pos _)
 have lqz := bq.lt (Nat.succ_pos _)
 have lsz := bs.lt (Nat.succ_pos _)
 have lxz := bx.lt (Nat.succ_pos _)
 refine absW (fun x3 hx3 => ?_)
 have hx : Ext u3 x3 := by rw [hx3]; exact ((Ext.refl _).alloc _)
 have bz : Bl x3 (u3.heap.size) #[(.bool (decide (z' * (D : Int) < 0))), .slice a3 n3 c3] := by rw [hx3]; exact (Bl.new (by simp))
 replace bp := q1b hx bp
 replace bq := q1b hx bq
 replace fs := q1f hx fs bs
 replace bs := q1b hx bs
 replace bx := q1b hx bx
 replace hs2 := hs2.ext hx
 replace hs3 := hs3.ext hx
 replace HE := HE.trans hx
 clear hx
 clear hx3
 refine wp_region_plan (R := Ext) (.q 0 (.q 1 (.q 3 (.q 4 (.q 5 (.q 6 (.l 2 (.l 7 (.q 8 (.b 9 .done)))))))))) (by kernel_rfl) (by kernel_rfl) (by kernel_rfl) (by kernel_rfl) Ext.refl (fun _ _ _ => Ext.trans) ?_
 refine absE (fun x4 hx4 => ?_)
 have hx : Ext x3 x4 := by rw [hx4]; exact (Ext.refl _).drew
 replace bp := q1b hx bp
 replace bq := q1b hx bq
 replace fs := q1f hx fs bs
 replace bs := q1b hx bs
 replace bx := q1b hx bx
 replace bz := q1b hx bz
 replace hs2 := hs2.ext hx
 replace hs3 := hs3.ext hx
 replace HE := HE.trans hx
 clear hx
 clear hx4
 repeat (refine wpE_q (v := ?_) rfl rfl (fun u hu => ?_) ?_; rotate_left 1; (focus (have kp := q1b hu bp; have kq := q1b hu bq; have ks := q1b hu bs; have kx := q1b hu bx; have kz := q1b hu bz; go_simp; (try rfl))); simp only [PU])
 refine wpE_l rfl rfl (fun K hK => ?_)
 go_simp
 refine (w_Add (hs2.wh Q1.out) (hs3.wh Q2.out)).mono ?_
 rintro e u4 ⟨a4, n4, c4, rfl, hs4, hx⟩
 refine hK.out _ _ hx ?_
 clear hK K
 try simp only [PU]
 replace bp := q1b hx bp
 replace bq := q1b hx bq
 replace fs := q1f hx fs bs
 replace bs := q1b hx bs
 replace bx := q1b hx bx
 replace bz := q1b hx bz
 replace hs2 := hs2.ext hx
 replace hs3 := hs3.ext hx
 replace HE := HE.trans hx
 clear hx
 replace hs4 : Nc u4 a4 n4 c4 (z * (D' : Int) + z' * (D : Int)).natAbs := hs4
 refine wpE_l rfl rfl (fun K hK => ?_)
 go_simp
 refine (n_Mul ((HD.out.ext HE).nu (by have := B2.out; omega)) ((HD'.out.ext HE).nu (by have := B4.out; omega))).mono ?_
 rintro e u5 ⟨a5, n5, c5, rfl, hs5, hx⟩
 refine hK.out _ _ hx ?_
 clear hK K
 try simp only [PU]
 replace bp := q1b hx bp
 replace bq := q1b hx bq
 replace fs := q1f hx fs bs
 replace bs := q1b hx bs
 replace bx := q1b hx bx
 replace bz := q1b hx bz
 replace hs2 := hs2.ext hx
 replace hs3 := hs3.ext hx
 replace hs4 := hs4.ext hx
 replace HE := HE.trans hx
 clear hx
 repeat (refine wpE_q (v := ?_) rfl rfl (fun u hu => ?_) ?_; rotate_left 1; (focus (have kp := q1b hu bp; have kq := q1b hu bq; have ks := q1b hu bs; have kx := q1b hu bx; have kz := q1b hu bz; go_simp; (try rfl))); simp only [PU])
 refine wpE_b rfl rfl (fun K hK => ?_)
 go_simp
 refine hK.out _ _ ?_
 clear hK K
 try simp only [PU]
 refine absE (fun x5 hx5 => ?_)
 have hbut : But u5 x5 (w.heap.size + 1 + 1) := by rw [hx5]; exact (But.refl _ _).store.store.store
 have hbn : Bl x5 (w.heap.size + 1 + 1) #[(.bool (decide (z * (D' : Int) + z' * (D : Int) < 0))), .slice a4 n4 c4, .slice a5 n5 c5] := by rw [hx5]; exact (Bl.set (Bl.set (Bl.set bs (by simp)) (by simp)) (by simp))
 replace hs2 := hs2.but bs (not_ints3 nb_bool nb_slice nb_slice) hbut
 replace hs3 := hs3.but bs (not_ints3 nb_bool nb_slice nb_slice) hbut
 replace hs4 := hs4.but bs (not_ints3 nb_bool nb_slice nb_slice) hbut
 replace hs5 := hs5.but bs (not_ints3 nb_bool nb_slice nb_slice) hbut
 replace bp := But.bl hbut bp (Nat.succ_pos _) (by omega)
 replace bq := But.bl hbut bq (Nat.succ_pos _) (by omega)
 replace bx := But.bl hbut bx (Nat.succ_pos _) (by omega)
 replace bz := But.bl hbut bz (Nat.succ_pos _) (by omega)
 replace fs : Fz x5 (w.heap.size + 1 + 1) := by rw [hx5]; exact (Fz.set (Fz.set (Fz.set fs)))
 replace HE : Ext w x5 := by rw [hx5]; exact (((HE.store (by show w.heap.size ≤ w.heap.size + 1 + 1; omega) _).store (by show w.heap.size ≤ w.heap.size + 1 + 1; omega) _).store (by show w.heap.size ≤ w.heap.size + 1 + 1; omega) _)
 clear bs hbut hx5
 have bs := hbn
 clear hbn
 refine wpE_done ?_
 go_wp2_with fail
 refine bodyPost_cells rfl rfl Tryz.underlying129 rfl (by kernel_rfl) (bl_three bs) rfl ?_
 exact RetF.of HR.out.1 HR.out.2 rfl hs4 hs5 HE
end Go.Proofs.YtgjjalnmigdjgaaGreat
