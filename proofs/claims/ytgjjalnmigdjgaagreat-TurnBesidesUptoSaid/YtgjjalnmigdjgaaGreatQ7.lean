/- The document's fractions (frisketref04): of ints, made. -/
import Derived.Test.YtgjjalnmigdjgaaGreatQ6
namespace Go.Proofs.YtgjjalnmigdjgaaGreat
set_option linter.unusedVariables false
open Go Go.RowKit
set_option maxRecDepth 100000 in
set_option maxHeartbeats 2000000 in
theorem g_Int (n : Int) (w : World) (h1 : -9223372036854775808 ≤ n) (h2 : n ≤ 9223372036854775807) :
    Calls Tryz.prog 57 #[.int .i64 n] w (RetF w n 1) := by
  have H := hidP (fun u => r02_Of_any n u h1 h2)
  clear h1 h2
  go_enter Tryz.func57, Tryz.ntmps57
  go_wp2_with fail
  refine absC (fun x1 hx1 => ?_)
  have hx : Ext w x1 := by rw [hx1]; exact ((Ext.refl _).alloc _)
  have bs : Bl x1 (w.heap.size) #[.bool false, .slice none 0 0, .slice none 0 0] := by rw [hx1]; exact (Bl.new (by simp))
  have fs : Fz x1 (w.heap.size) := by rw [hx1]; exact (Fz.new (by simp))
  have HE := hx
  clear hx
  clear hx1
  refine (H.out _).mono ?_
  rintro e u1 ⟨a1, n1, c1, rfl, hs1, hx⟩
  replace fs := q1f hx fs bs
  replace bs := q1b hx bs
  replace HE := HE.trans hx
  clear hx
  replace hs1 : Nc u1 a1 n1 c1 (n).natAbs := hs1
  have lsu := bs.lt (Nat.succ_pos _)
  have lsn : w.heap.size ≠ u1.heap.size := by omega
  have HS1 := hidP hs1
  clear hs1
  go_wp2_with fail
  refine absB (fun ue hue => ?_)
  have hbs : Bl ue (w.heap.size) #[.bool (decide (n < 0)), .slice a1 n1 c1, .slice (some ⟨u1.heap.size, 0, none⟩) 1 1] := by rw [hue]; exact Bl.alloc (((bs.set (by simp)).set (by simp)).set (by simp)) (by simp)
  have hl2 : Nc ue (some ⟨u1.heap.size, 0, none⟩) 1 1 1 := by rw [hue]; exact nc_litAt (by simp) 1 (by omega) (by omega) _
  have hl1 : Nc ue a1 n1 c1 n.natAbs := by rw [hue]; exact (HS1.out.but bs (not_ints3 nb_bool nb_slice nb_slice) ((But.refl _ _).store.store.store)).ext ((Ext.refl _).alloc _)
  have heu : Ext w ue := by rw [hue]; exact (((HE.store (by show w.heap.size ≤ w.heap.size; omega) _).store (by show w.heap.size ≤ w.heap.size; omega) _).store (by show w.heap.size ≤ w.heap.size; omega) _).alloc _
  clear hue
  refine bodyPost_cells rfl rfl Tryz.underlying29 rfl (by kernel_rfl) (bl_three hbs) rfl ?_
  exact RetF.of rfl rfl rfl hl1 hl2 heu
set_option maxRecDepth 100000 in
set_option maxHeartbeats 4000000 in
theorem g_Make (neg neg' : Bool) (a a' : Option Addr) (n cap n' cap' : Nat) (z z' : Int) (w : World) (hz : WhIn w neg a n cap z) (hz' : WhIn w neg' a' n' cap' z') :
    Calls Tryz.prog 153 #[.agg #[.bool neg, .slice a n cap], .agg #[.bool neg', .slice a' n' cap']] w (RetFE w (mkz z z') (mkd z z') (mke z')) := by
 have hsn : z = wz neg z.natAbs := hz.sgn
 have hsn' : z' = wz neg' z'.natAbs := hz'.sgn
 have HZ := hidP hz; have HZ' := hidP hz'
 by_cases h0 : z' = 0
 · have HS : Hid (sgn z' = 0) := hidP (by rw [h0]; rfl)
   have HR : Hid (mkz z z' = 0 ∧ mkd z z' = 0 ∧ mke z' = 5) := hidP ⟨if_pos h0, if_pos h0, if_pos h0⟩
   clear hz hz' hsn hsn' h0
   go_enter Tryz.func153, Tryz.ntmps153
   go_wp2_with fail
   refine absC (fun x1 hx1 => ?_)
   have hx : Ext w x1 := by rw [hx1]; exact ((((Ext.refl _).alloc _).alloc _).alloc _)
   have bp : Bl x1 (w.heap.size) #[.bool neg, .slice a n cap] := by rw [hx1]; exact (((Bl.new (by simp)).alloc (by simp)).alloc (by simp))
   have bq : Bl x1 (w.heap.size + 1) #[.bool neg', .slice a' n' cap'] := by rw [hx1]; exact ((Bl.new (by simp)).alloc (by simp))
   have bs : Bl x1 (w.heap.size + 1 + 1) #[.bool false, .slice none 0 0, .slice none 0 0] := by rw [hx1]; exact (Bl.new (by simp))
   have fs : Fz x1 (w.heap.size + 1 + 1) := by rw [hx1]; exact (Fz.new (by simp))
   have HE := hx
   clear hx
   clear hx1
   refine (r02_Sign_any neg' a' n' cap' z' _ (HZ'.out.ext HE)).mono ?_
   rw [HS.out]
   rintro e u1 ⟨rfl, hx⟩
   replace bp := q1b hx bp
   replace bq := q1b hx bq
   replace fs := q1f hx fs bs
   replace bs := q1b hx bs
   replace HE := HE.trans hx
   clear hx
   go_wp2_with fail
   refine absB (fun ue hue => ?_)
   have hbs : Bl ue (w.heap.size + 1 + 1) #[.bool false, .slice none 0 0, .slice none 0 0] := by rw [hue]; exact (((bs.set (by simp)).set (by simp)).set (by simp))
   have hnc : ∀ {aa : Option Addr} {nn cc VV : Nat}, Nc u1 aa nn cc VV → Nc ue aa nn cc VV := fun h => by
    rw [hue]
    exact h.but bs (not_ints3 nb_bool nb_slice nb_slice) ((But.refl _ _).store.store.store)
   have heu : Ext w ue := by rw [hue]; exact ((HE.store (by show w.heap.size ≤ w.heap.size + 1 + 1; omega) _).store (by show w.heap.size ≤ w.heap.size + 1 + 1; omega) _).store (by show w.heap.size ≤ w.heap.size + 1 + 1; omega) _
   clear hue
   refine bodyPost_cells_tmp2 rfl rfl Tryz.underlying29 rfl (by kernel_rfl) (bl_three hbs) rfl rfl ?_
   exact RetFE.of HR.out.1 HR.out.2.1 HR.out.2.2 rfl (Nc.zero _) (Nc.zero _) heu
 have hne : z'.natAbs ≠ 0 := by omega
 have HR : Hid (mkz z z' = rz (pz (mz z z') z'.natAbs) (pd z'.natAbs) ∧ mkd z z' = rd (pz (mz z z') z'.natAbs) (pd z'.natAbs) ∧ mke z' = 0) := hidP (by
  unfold pz pd mkz mkd mke
  rw [if_neg h0, if_neg h0, if_neg h0, if_neg hne, if_neg hne]
  exact ⟨rfl, rfl, rfl⟩)
 have hsg : ¬ sgn z' = 0 := by rcases sgn_cases z' with h | h | h <;> omega
 have hsz : (sgn z' == 0) = false := by simpa using hsg
 have HMZ : Hid (wz (neg != neg') z.natAbs = mz z z') := hidP (by
  have h9 := mz_of (neg := neg) (neg' := neg') (A := z.natAbs) (B := z'.natAbs) hne
  rw [← hsn, ← hsn'] at h9
  exact h9)
 have hbm : dl (mz z z').natAbs ≤ 549755813888 := by rw [mz_abs]; have := hz.nu.dl; have := hz.le; omega
 have HB := hidP hbm
 have HSG := hidP hsg
 have HNU : Hid (∀ u, Ext w u → Nu u a n cap z.natAbs) := hidP (fun u h => hz.nu.ext h)
 have HNU' : Hid (∀ u, Ext w u → Nu u a' n' cap' z'.natAbs) := hidP (fun u h => hz'.nu.ext h)
 generalize hM : mz z z' = M at *
 clear hz hz' hsn hsn' h0 hsg hM hne hbm
 go_enter Tryz.func153, Tryz.ntmps153
 go_wp2_with fail
 refine absC (fun x1 hx1 => ?_)
 have hx : Ext w x1 := by rw [hx1]; exact ((((Ext.refl _).alloc _).alloc _).alloc _)
 have bp : Bl x1 (w.heap.size) #[.bool neg, .slice a n cap] := by rw [hx1]; exact (((Bl.new (by simp)).alloc (by simp)).alloc (by simp))
 have bq : Bl x1 (w.heap.size + 1) #[.bool neg', .slice a' n' cap'] := by rw [hx1]; exact ((Bl.new (by simp)).alloc (by simp))
 have bs : Bl x1 (w.heap.size + 1 + 1) #[.bool false, .slice none 0 0, .slice none 0 0] := by rw [hx1]; exact (Bl.new (by simp))
 have fs : Fz x1 (w.heap.size + 1 + 1) := by rw [hx1]; exact (Fz.new (by simp))
 have HE := hx
 clear hx
 clear hx1
 refine (r02_Sign_any neg' a' n' cap' z' _ (HZ'.out.ext HE)).mono ?_
 rintro e u1 ⟨rfl, hx⟩
 replace bp := q1b hx bp
 replace bq := q1b hx bq
 replace fs := q1f hx fs bs
 replace bs := q1b hx bs
 replace HE := HE.trans hx
 clear hx
 go_wp2_with fail
 refine wp_region_plan (R := Ext) (.q 0 (.q 1 (.q 2 (.q 3 (.q 4 (.q 5 (.q 6 (.q 8 (.q 9 (.l 7 (.q 10 (.l 11 (.b 12 (.q 13 .done)))))))))))))) (by kernel_rfl) (by kernel_rfl) (by kernel_rfl) (by kernel_rfl) Ext.refl (fun _ _ _ => Ext.trans) ?_
 refine absE (fun x2 hx2 => ?_)
 have hx : Ext u1 x2 := by rw [hx2]; exact (Ext.refl _).drew
 replace bp := q1b hx bp
 replace bq := q1b hx bq
 replace fs := q1f hx fs bs
 replace bs := q1b hx bs
 replace HE := HE.trans hx
 clear hx
 clear hx2
 repeat (refine wpE_q (v := ?_) rfl rfl (fun u hu => ?_) ?_; rotate_left 1; (focus (have kp := q1b hu bp; have kq := q1b hu bq; have ks := q1b hu bs; go_simp; (try rfl))); simp only [PU])
 refine wpE_l rfl rfl (fun K hK => ?_)
 go_simp
 refine (d_Make (neg != neg') (HNU.out _ HE)).mono ?_
 rw [HMZ.out]
 rintro e u2 ⟨a2, n2, c2, rfl, hs2, hx⟩
 refine hK.out _ _ hx ?_
 clear hK K
 try simp only [PU]
 replace bp := q1b hx bp
 replace bq := q1b hx bq
 replace fs := q1f hx fs bs
 replace bs := q1b hx bs
 replace HE := HE.trans hx
 clear hx
 replace hs2 : Nc u2 a2 n2 c2 (M).natAbs := hs2
 repeat (refine wpE_q (v := ?_) rfl rfl (fun u hu => ?_) ?_; rotate_left 1; (focus (have kp := q1b hu bp; have kq := q1b hu bq; have ks := q1b hu bs; go_simp; (try rfl))); simp only [PU])
 refine wpE_l rfl rfl (fun K hK => ?_)
 go_simp
 refine (g_Reduce _ a2 a' n2 c2 n' cap' M z'.natAbs _ (hs2.wh HB.out) (HNU'.out _ HE)).mono ?_
 rintro e u4 ⟨a4, n4, c4, d4, m4, k4, rfl, hs4, ht4, hx⟩
 refine hK.out _ _ hx ?_
 clear hK K
 try simp only [PU]
 replace bp := q1b hx bp
 replace bq := q1b hx bq
 replace fs := q1f hx fs bs
 replace bs := q1b hx bs
 replace hs2 := hs2.ext hx
 replace HE := HE.trans hx
 clear hx
 replace hs4 : Nc u4 a4 n4 c4 (rz (pz M z'.natAbs) (pd z'.natAbs)).natAbs := hs4
 replace ht4 : Nc u4 d4 m4 k4 (rd (pz M z'.natAbs) (pd z'.natAbs)) := ht4
 refine wpE_b rfl rfl (fun K hK => ?_)
 go_simp
 refine hK.out _ _ ?_
 clear hK K
 try simp only [PU]
 refine absE (fun x3 hx3 => ?_)
 have hbut : But u4 x3 (w.heap.size + 1 + 1) := by rw [hx3]; exact (But.refl _ _).store.store.store
 have hbn : Bl x3 (w.heap.size + 1 + 1) #[(.bool (decide (rz (pz M z'.natAbs) (pd z'.natAbs) < 0))), .slice a4 n4 c4, .slice d4 m4 k4] := by rw [hx3]; exact (Bl.set (Bl.set (Bl.set bs (by simp)) (by simp)) (by simp))
 replace hs2 := hs2.but bs (not_ints3 nb_bool nb_slice nb_slice) hbut
 replace hs4 := hs4.but bs (not_ints3 nb_bool nb_slice nb_slice) hbut
 replace ht4 := ht4.but bs (not_ints3 nb_bool nb_slice nb_slice) hbut
 replace bp := But.bl hbut bp (Nat.succ_pos _) (by omega)
 replace bq := But.bl hbut bq (Nat.succ_pos _) (by omega)
 replace fs : Fz x3 (w.heap.size + 1 + 1) := by rw [hx3]; exact (Fz.set (Fz.set (Fz.set fs)))
 replace HE : Ext w x3 := by rw [hx3]; exact (((HE.store (by show w.heap.size ≤ w.heap.size + 1 + 1; omega) _).store (by show w.heap.size ≤ w.heap.size + 1 + 1; omega) _).store (by show w.heap.size ≤ w.heap.size + 1 + 1; omega) _)
 clear bs hbut hx3
 have bs := hbn
 clear hbn
 repeat (refine wpE_q (v := ?_) rfl rfl (fun u hu => ?_) ?_; rotate_left 1; (focus (have kp := q1b hu bp; have kq := q1b hu bq; have ks := q1b hu bs; go_simp; (try rfl))); simp only [PU])
 refine wpE_done ?_
 go_wp2_with fail
 refine bodyPost_cells_tmp2 rfl rfl Tryz.underlying29 rfl (by kernel_rfl) (bl_three bs) rfl rfl ?_
 exact RetFE.of HR.out.1 HR.out.2.1 HR.out.2.2 rfl hs4 ht4 HE
end Go.Proofs.YtgjjalnmigdjgaaGreat
