/- The program's fractions (frac): quotients. -/
import Derived.Test.YtcipcpbjkcpgdaaQ4
import Derived.Deep.DeepCutAuto
namespace Go.Proofs.Ytcipcpbjkcpgdaa
set_option linter.unusedVariables false
open Go Go.RowKit

/-- Across. -/
theorem back_law {Z Y : Int} {E F : Nat} (hY : Y ≠ 0) (hE : E ≠ 0) : mz (Z * F) (Y * E) = Z * wz (decide (Y < 0)) F ∧ (Y * E).natAbs = E * Y.natAbs ∧ Y * E ≠ 0 := by
  have hE' : (0 : Int) < (E : Int) := by omega
  refine ⟨?_, ?_, ?_⟩
  · unfold mz
    rcases Int.lt_or_le Y 0 with h | h
    · rw [if_pos (Int.mul_neg_of_neg_of_pos h hE'), decide_eq_true h]
      show -(Z * (F : Int)) = Z * -(F : Int)
      rw [Int.mul_neg]
    · rw [if_neg (by have := Int.mul_nonneg h (Int.le_of_lt hE'); omega), decide_eq_false (by omega)]
      rfl
  · rw [Int.natAbs_mul, Nat.mul_comm]; rfl
  · exact Int.mul_ne_zero hY (by omega)

set_option maxRecDepth 100000 in
set_option maxHeartbeats 4000000 in
theorem f_Div (neg neg' : Bool) (a d a' d' : Option Addr) (n cap m c n' cap' m' c' : Nat) (z z' : Int) (D D' : Nat) (w : World) (hz : WhIn w neg a n cap z) (hd : Nu w d m c D) (hz' : WhIn w neg' a' n' cap' z') (hd' : Nu w d' m' c' D')
    (hb1 : dl z.natAbs ≤ 137438953472) (hb2 : dl D ≤ 137438953472) (hb3 : dl z'.natAbs ≤ 137438953472) (hb4 : dl D' ≤ 137438953472) :
    Calls Try.prog 85 #[.agg #[.bool neg, .slice a n cap, .slice d m c], .agg #[.bool neg', .slice a' n' cap', .slice d' m' c']] w
      (RetFE w (mkz (pz z D * pd D') (pz z' D' * pd D)) (mkd (pz z D * pd D') (pz z' D' * pd D)) (mke (pz z' D' * pd D))) := by
  have HP1 : Hid (∀ u, WhIn u neg a n cap z → Nu u d m c D → Calls Try.prog 147 #[.agg #[.bool neg, .slice a n cap, .slice d m c]] u (RetF u (pz z D) (pd D))) := hidP (fun u t1 t2 => f_parts neg a d n cap m c z D u t1 t2)
  have HP2 : Hid (∀ u, WhIn u neg' a' n' cap' z' → Nu u d' m' c' D' → Calls Try.prog 147 #[.agg #[.bool neg', .slice a' n' cap', .slice d' m' c']] u (RetF u (pz z' D') (pd D'))) := hidP (fun u t1 t2 => f_parts neg' a' d' n' cap' m' c' z' D' u t1 t2)
  have B1 : Hid (dl (pz z D).natAbs ≤ 137438953473) := hidP (by have := pz_len z D; omega)
  have B2 : Hid (dl (pd D) ≤ 137438953473) := hidP (by have := pd_len D; omega)
  have B3 : Hid (dl (pz z' D').natAbs ≤ 137438953473) := hidP (by have := pz_len z' D'; omega)
  have B4 : Hid (dl (pd D') ≤ 137438953473) := hidP (by have := pd_len D'; omega)
  have E1 := hidP (pd_ne D); have E2 := hidP (pd_ne D')
  have HZ := hidP hz; have HD := hidP hd; have HZ' := hidP hz'; have HD' := hidP hd'
  clear hz hd hz' hd' hb1 hb2 hb3 hb4
  generalize pz z D = Z at *
  generalize pd D = E at *
  generalize pz z' D' = Y at *
  generalize pd D' = F at *
  by_cases h0 : Y = 0
  · have HS : Hid (sgn Y = 0) := hidP (by rw [h0]; rfl)
    have HB3 : Hid (dl Y.natAbs ≤ 549755813888) := hidP (by have := B3.out; omega)
    have hye : Y * (E : Int) = 0 := by rw [h0, Int.zero_mul]
    have HR : Hid (mkz (Z * F) (Y * E) = 0 ∧ mkd (Z * F) (Y * E) = 0 ∧ mke (Y * E) = 5) := hidP ⟨if_pos hye, if_pos hye, if_pos hye⟩
    clear h0 hye
    go_enter Try.func85, Try.ntmps85
    go_wp2_with fail
    refine absC (fun x1 hx1 => ?_)
    have hx : Ext w x1 := by rw [hx1]; exact ((((Ext.refl _).alloc _).alloc _).alloc _)
    have bp : Bl x1 (w.heap.size) #[.bool neg, .slice a n cap, .slice d m c] := by rw [hx1]; exact (((Bl.new (by simp)).alloc (by simp)).alloc (by simp))
    have bq : Bl x1 (w.heap.size + 1) #[.bool neg', .slice a' n' cap', .slice d' m' c'] := by rw [hx1]; exact ((Bl.new (by simp)).alloc (by simp))
    have bs : Bl x1 (w.heap.size + 1 + 1) #[.bool false, .slice none 0 0, .slice none 0 0] := by rw [hx1]; exact (Bl.new (by simp))
    have fs : Fz x1 (w.heap.size + 1 + 1) := by rw [hx1]; exact (Fz.new (by simp))
    have HE := hx
    clear hx
    clear hx1
    refine (HP2.out _ (HZ'.out.ext HE) (HD'.out.ext HE)).mono ?_
    rintro e u1 ⟨a1, n1, c1, d1, m1, k1, rfl, hs1, ht1, hx⟩
    replace bp := Bl.ext hx bp (Nat.succ_pos _)
    replace bq := Bl.ext hx bq (Nat.succ_pos _)
    replace fs := Fz.ext hx fs bs (Nat.succ_pos _)
    replace bs := Bl.ext hx bs (Nat.succ_pos _)
    replace HE := HE.trans hx
    clear hx
    replace hs1 : Nc u1 a1 n1 c1 (Y).natAbs := hs1
    replace ht1 : Nc u1 d1 m1 k1 (F) := ht1
    go_upto_region 2 with fail
    have lpr := bp.lt (Nat.succ_pos _)
    have lqr := bq.lt (Nat.succ_pos _)
    have lsr := bs.lt (Nat.succ_pos _)
    refine absW (fun x2 hx2 => ?_)
    have hx : Ext u1 x2 := by rw [hx2]; exact ((Ext.refl _).alloc _)
    have br : Bl x2 (u1.heap.size) #[.bool (decide (Y < 0)), .slice a1 n1 c1, .slice d1 m1 k1] := by rw [hx2]; exact (Bl.new (by simp))
    replace bp := Bl.ext hx bp (Nat.succ_pos _)
    replace bq := Bl.ext hx bq (Nat.succ_pos _)
    replace fs := Fz.ext hx fs bs (Nat.succ_pos _)
    replace bs := Bl.ext hx bs (Nat.succ_pos _)
    replace hs1 := hs1.ext hx
    replace ht1 := ht1.ext hx
    replace HE := HE.trans hx
    clear hx
    clear hx2
    go_wp2_with fail
    refine (w_Sign_any _ a1 n1 c1 Y _ (hs1.wh HB3.out)).mono ?_
    rw [HS.out]
    rintro e u2 ⟨rfl, hx⟩
    replace bp := Bl.ext hx bp (Nat.succ_pos _)
    replace bq := Bl.ext hx bq (Nat.succ_pos _)
    replace fs := Fz.ext hx fs bs (Nat.succ_pos _)
    replace bs := Bl.ext hx bs (Nat.succ_pos _)
    replace br := Bl.ext hx br (Nat.succ_pos _)
    replace hs1 := hs1.ext hx
    replace ht1 := ht1.ext hx
    replace HE := HE.trans hx
    clear hx
    clear hs1 ht1
    go_wp2_with fail
    refine absB (fun ue hue => ?_)
    have hbs : Bl ue (w.heap.size + 1 + 1) #[.bool false, .slice none 0 0, .slice none 0 0] := by rw [hue]; exact (((bs.set (by simp)).set (by simp)).set (by simp))
    have hnc : ∀ {aa : Option Addr} {nn cc VV : Nat}, Nc u2 aa nn cc VV → Nc ue aa nn cc VV := fun h => by
      rw [hue]
      exact h.but bs (not_ints3 nb_bool nb_slice nb_slice) ((But.refl _ _).store.store.store)
    have heu : Ext w ue := by rw [hue]; exact ((HE.store (by show w.heap.size ≤ w.heap.size + 1 + 1; omega) _).store (by show w.heap.size ≤ w.heap.size + 1 + 1; omega) _).store (by show w.heap.size ≤ w.heap.size + 1 + 1; omega) _
    clear hue
    refine bodyPost_cells_tmp2 rfl rfl Try.underlying79 rfl (by kernel_rfl) (bl_three hbs) rfl rfl ?_
    exact RetFE.of HR.out.1 HR.out.2.1 HR.out.2.2 rfl (Nc.zero _) (Nc.zero _) heu
  · have hbl := back_law (Z := Z) (F := F) h0 E1.out
    have HR : Hid (mkz (Z * F) (Y * E) = Z * wz (decide (Y < 0)) F / (fg (Z * wz (decide (Y < 0)) F) (E * Y.natAbs) : Int) ∧ mkd (Z * F) (Y * E) = E * Y.natAbs / fg (Z * wz (decide (Y < 0)) F) (E * Y.natAbs) ∧ mke (Y * E) = 0) := hidP (by
      unfold mkz mkd mke
      rw [if_neg hbl.2.2, if_neg hbl.2.2, if_neg hbl.2.2, hbl.1, hbl.2.1]
      exact ⟨rfl, rfl, rfl⟩)
    have hsg : ¬ sgn Y = 0 := by rcases sgn_cases Y with h | h | h <;> omega
    have hsz : (sgn Y == 0) = false := by simpa using hsg
    have HB3 : Hid (dl Y.natAbs ≤ 549755813888) := hidP (by have := B3.out; omega)
    have HN0 : Hid (E * Y.natAbs ≠ 0) := hidP (Nat.mul_ne_zero E1.out (by omega))
    have HQ1 : Hid (dl (Z * wz (decide (Y < 0)) F).natAbs ≤ 549755813888) := hidP (by
      have := dz_mul Z (wz (decide (Y < 0)) F)
      rw [wz_abs] at this
      have := B1.out; have := B4.out; omega)
    have HQ2 : Hid (dl (E * Y.natAbs) ≤ 549755813888) := hidP (by have := dl_mul E Y.natAbs; have := B2.out; have := B3.out; omega)
    clear hbl h0 hsg
    go_enter Try.func85, Try.ntmps85
    go_wp2_with fail
    refine absC (fun x1 hx1 => ?_)
    have hx : Ext w x1 := by rw [hx1]; exact ((((Ext.refl _).alloc _).alloc _).alloc _)
    have bp : Bl x1 (w.heap.size) #[.bool neg, .slice a n cap, .slice d m c] := by rw [hx1]; exact (((Bl.new (by simp)).alloc (by simp)).alloc (by simp))
    have bq : Bl x1 (w.heap.size + 1) #[.bool neg', .slice a' n' cap', .slice d' m' c'] := by rw [hx1]; exact ((Bl.new (by simp)).alloc (by simp))
    have bs : Bl x1 (w.heap.size + 1 + 1) #[.bool false, .slice none 0 0, .slice none 0 0] := by rw [hx1]; exact (Bl.new (by simp))
    have fs : Fz x1 (w.heap.size + 1 + 1) := by rw [hx1]; exact (Fz.new (by simp))
    have HE := hx
    clear hx
    clear hx1
    refine (HP2.out _ (HZ'.out.ext HE) (HD'.out.ext HE)).mono ?_
    rintro e u1 ⟨a1, n1, c1, d1, m1, k1, rfl, hs1, ht1, hx⟩
    replace bp := Bl.ext hx bp (Nat.succ_pos _)
    replace bq := Bl.ext hx bq (Nat.succ_pos _)
    replace fs := Fz.ext hx fs bs (Nat.succ_pos _)
    replace bs := Bl.ext hx bs (Nat.succ_pos _)
    replace HE := HE.trans hx
    clear hx
    replace hs1 : Nc u1 a1 n1 c1 (Y).natAbs := hs1
    replace ht1 : Nc u1 d1 m1 k1 (F) := ht1
    go_upto_region 2 with fail
    have lpr := bp.lt (Nat.succ_pos _)
    have lqr := bq.lt (Nat.succ_pos _)
    have lsr := bs.lt (Nat.succ_pos _)
    refine absW (fun x2 hx2 => ?_)
    have hx : Ext u1 x2 := by rw [hx2]; exact ((Ext.refl _).alloc _)
    have br : Bl x2 (u1.heap.size) #[.bool (decide (Y < 0)), .slice a1 n1 c1, .slice d1 m1 k1] := by rw [hx2]; exact (Bl.new (by simp))
    replace bp := Bl.ext hx bp (Nat.succ_pos _)
    replace bq := Bl.ext hx bq (Nat.succ_pos _)
    replace fs := Fz.ext hx fs bs (Nat.succ_pos _)
    replace bs := Bl.ext hx bs (Nat.succ_pos _)
    replace hs1 := hs1.ext hx
    replace ht1 := ht1.ext hx
    replace HE := HE.trans hx
    clear hx
    clear hx2
    go_wp2_with fail
    refine (w_Sign_any _ a1 n1 c1 Y _ (hs1.wh HB3.out)).mono ?_
    rintro e u2 ⟨rfl, hx⟩
    replace bp := Bl.ext hx bp (Nat.succ_pos _)
    replace bq := Bl.ext hx bq (Nat.succ_pos _)
    replace fs := Fz.ext hx fs bs (Nat.succ_pos _)
    replace bs := Bl.ext hx bs (Nat.succ_pos _)
    replace br := Bl.ext hx br (Nat.succ_pos _)
    replace hs1 := hs1.ext hx
    replace ht1 := ht1.ext hx
    replace HE := HE.trans hx
    clear hx
    go_upto_region 5 with fail
    have lpk := bp.lt (Nat.succ_pos _)
    have lqk := bq.lt (Nat.succ_pos _)
    have lsk := bs.lt (Nat.succ_pos _)
    have lrk := br.lt (Nat.succ_pos _)
    generalize hyb : decide (Y < 0) = yb at *
    have HYB := hidP hyb
    clear hyb
    refine absW (fun x3 hx3 => ?_)
    have hx : Ext u2 x3 := by rw [hx3]; exact ((Ext.refl _).alloc _)
    have bk : Bl x3 (u2.heap.size) #[.bool yb, .slice d1 m1 k1, .slice a1 n1 c1] := by rw [hx3]; exact (Bl.new (by simp))
    replace bp := Bl.ext hx bp (Nat.succ_pos _)
    replace bq := Bl.ext hx bq (Nat.succ_pos _)
    replace fs := Fz.ext hx fs bs (Nat.succ_pos _)
    replace bs := Bl.ext hx bs (Nat.succ_pos _)
    replace br := Bl.ext hx br (Nat.succ_pos _)
    replace hs1 := hs1.ext hx
    replace ht1 := ht1.ext hx
    replace HE := HE.trans hx
    clear hx
    clear hx3
    refine wp_region_plan (R := Ext) (.q 0 (.q 2 (.l 1 (.l 3 (.l 4 (.b 5 (.q 6 .done))))))) (by kernel_rfl) (by kernel_rfl) (by kernel_rfl) (by kernel_rfl) Ext.refl (fun _ _ _ => Ext.trans) ?_
    refine absE (fun x4 hx4 => ?_)
    have hx : Ext x3 x4 := by rw [hx4]; exact (Ext.refl _).drew
    replace bp := Bl.ext hx bp (Nat.succ_pos _)
    replace bq := Bl.ext hx bq (Nat.succ_pos _)
    replace fs := Fz.ext hx fs bs (Nat.succ_pos _)
    replace bs := Bl.ext hx bs (Nat.succ_pos _)
    replace br := Bl.ext hx br (Nat.succ_pos _)
    replace bk := Bl.ext hx bk (Nat.succ_pos _)
    replace hs1 := hs1.ext hx
    replace ht1 := ht1.ext hx
    replace HE := HE.trans hx
    clear hx
    clear hx4
    repeat (refine wpE_q (v := ?_) rfl rfl (fun u hu => ?_) ?_; rotate_left 1; (focus (have kp := Bl.ext hu bp (Nat.succ_pos _); have kq := Bl.ext hu bq (Nat.succ_pos _); have ks := Bl.ext hu bs (Nat.succ_pos _); have kr := Bl.ext hu br (Nat.succ_pos _); have kk := Bl.ext hu bk (Nat.succ_pos _); go_simp; (try rfl))); simp only [Act.put, List.setIfInBounds_toArray, List.set_cons_zero, List.set_cons_succ])
    refine wpE_l rfl rfl (fun K hK => ?_)
    go_simp
    refine (HP1.out _ (HZ.out.ext HE) (HD.out.ext HE)).mono ?_
    rintro e u3 ⟨a3, n3, c3, d3, m3, k3, rfl, hs3, ht3, hx⟩
    refine hK.out _ _ hx ?_
    clear hK K
    try simp only [Act.put, List.setIfInBounds_toArray, List.set_cons_zero, List.set_cons_succ]
    replace bp := Bl.ext hx bp (Nat.succ_pos _)
    replace bq := Bl.ext hx bq (Nat.succ_pos _)
    replace fs := Fz.ext hx fs bs (Nat.succ_pos _)
    replace bs := Bl.ext hx bs (Nat.succ_pos _)
    replace br := Bl.ext hx br (Nat.succ_pos _)
    replace bk := Bl.ext hx bk (Nat.succ_pos _)
    replace hs1 := hs1.ext hx
    replace ht1 := ht1.ext hx
    replace HE := HE.trans hx
    clear hx
    replace hs3 : Nc u3 a3 n3 c3 (Z).natAbs := hs3
    replace ht3 : Nc u3 d3 m3 k3 (E) := ht3
    refine wpE_l rfl rfl (fun K hK => ?_)
    go_simp
    have hwF : WhIn u3 yb d1 m1 k1 (wz yb F) := ⟨⟨_, ht1, Ws.dig _, by rw [val_dig B32_two]⟩, by have := Nc.len ht1; have := B4.out; omega⟩
    refine (f_mul _ yb a3 d3 d1 a1 n3 c3 m3 k3 m1 k1 n1 c1 Z (wz yb F) E Y.natAbs _ (hs3.wh (by have := B1.out; omega)) (ht3.nu (by have := B2.out; omega)) hwF (hs1.nu (by have := B3.out; omega))).mono ?_
    rintro e u4 ⟨a4, n4, c4, d4, m4, k4, rfl, hs4, ht4, hx⟩
    refine hK.out _ _ hx ?_
    clear hK K
    try simp only [Act.put, List.setIfInBounds_toArray, List.set_cons_zero, List.set_cons_succ]
    replace bp := Bl.ext hx bp (Nat.succ_pos _)
    replace bq := Bl.ext hx bq (Nat.succ_pos _)
    replace fs := Fz.ext hx fs bs (Nat.succ_pos _)
    replace bs := Bl.ext hx bs (Nat.succ_pos _)
    replace br := Bl.ext hx br (Nat.succ_pos _)
    replace bk := Bl.ext hx bk (Nat.succ_pos _)
    replace hs1 := hs1.ext hx
    replace ht1 := ht1.ext hx
    replace hs3 := hs3.ext hx
    replace ht3 := ht3.ext hx
    replace HE := HE.trans hx
    clear hx
    replace hs4 : Nc u4 a4 n4 c4 (Z * wz yb F).natAbs := hs4
    replace ht4 : Nc u4 d4 m4 k4 (E * Y.natAbs) := ht4
    clear hwF
    refine wpE_l rfl rfl (fun K hK => ?_)
    go_simp
    refine (f_frac hs4 ht4 HN0.out HQ1.out HQ2.out).mono ?_
    rintro e u5 ⟨a5, n5, c5, d5, m5, k5, rfl, hs5, ht5, hx⟩
    refine hK.out _ _ hx ?_
    clear hK K
    try simp only [Act.put, List.setIfInBounds_toArray, List.set_cons_zero, List.set_cons_succ]
    replace bp := Bl.ext hx bp (Nat.succ_pos _)
    replace bq := Bl.ext hx bq (Nat.succ_pos _)
    replace fs := Fz.ext hx fs bs (Nat.succ_pos _)
    replace bs := Bl.ext hx bs (Nat.succ_pos _)
    replace br := Bl.ext hx br (Nat.succ_pos _)
    replace bk := Bl.ext hx bk (Nat.succ_pos _)
    replace hs1 := hs1.ext hx
    replace ht1 := ht1.ext hx
    replace hs3 := hs3.ext hx
    replace ht3 := ht3.ext hx
    replace hs4 := hs4.ext hx
    replace ht4 := ht4.ext hx
    replace HE := HE.trans hx
    clear hx
    replace hs5 : Nc u5 a5 n5 c5 (Z * wz yb F / (fg (Z * wz yb F) (E * Y.natAbs) : Int)).natAbs := hs5
    replace ht5 : Nc u5 d5 m5 k5 (E * Y.natAbs / fg (Z * wz yb F) (E * Y.natAbs)) := ht5
    refine wpE_b rfl rfl (fun K hK => ?_)
    go_simp
    refine hK.out _ _ ?_
    clear hK K
    try simp only [Act.put, List.setIfInBounds_toArray, List.set_cons_zero, List.set_cons_succ]
    refine absE (fun x5 hx5 => ?_)
    have hbut : But u5 x5 (w.heap.size + 1 + 1) := by rw [hx5]; exact (But.refl _ _).store.store.store
    have hbn : Bl x5 (w.heap.size + 1 + 1) #[(.bool (decide (Z * wz yb F / (fg (Z * wz yb F) (E * Y.natAbs) : Int) < 0))), .slice a5 n5 c5, .slice d5 m5 k5] := by rw [hx5]; exact (Bl.set (Bl.set (Bl.set bs (by simp)) (by simp)) (by simp))
    replace hs1 := hs1.but bs (not_ints3 nb_bool nb_slice nb_slice) hbut
    replace ht1 := ht1.but bs (not_ints3 nb_bool nb_slice nb_slice) hbut
    replace hs3 := hs3.but bs (not_ints3 nb_bool nb_slice nb_slice) hbut
    replace ht3 := ht3.but bs (not_ints3 nb_bool nb_slice nb_slice) hbut
    replace hs4 := hs4.but bs (not_ints3 nb_bool nb_slice nb_slice) hbut
    replace ht4 := ht4.but bs (not_ints3 nb_bool nb_slice nb_slice) hbut
    replace hs5 := hs5.but bs (not_ints3 nb_bool nb_slice nb_slice) hbut
    replace ht5 := ht5.but bs (not_ints3 nb_bool nb_slice nb_slice) hbut
    replace bp := But.bl hbut bp (Nat.succ_pos _) (by omega)
    replace bq := But.bl hbut bq (Nat.succ_pos _) (by omega)
    replace br := But.bl hbut br (Nat.succ_pos _) (by omega)
    replace bk := But.bl hbut bk (Nat.succ_pos _) (by omega)
    replace fs : Fz x5 (w.heap.size + 1 + 1) := by rw [hx5]; exact (Fz.set (Fz.set (Fz.set fs)))
    replace HE : Ext w x5 := by rw [hx5]; exact (((HE.store (by show w.heap.size ≤ w.heap.size + 1 + 1; omega) _).store (by show w.heap.size ≤ w.heap.size + 1 + 1; omega) _).store (by show w.heap.size ≤ w.heap.size + 1 + 1; omega) _)
    clear bs hbut hx5
    have bs := hbn
    clear hbn
    repeat (refine wpE_q (v := ?_) rfl rfl (fun u hu => ?_) ?_; rotate_left 1; (focus (have kp := Bl.ext hu bp (Nat.succ_pos _); have kq := Bl.ext hu bq (Nat.succ_pos _); have ks := Bl.ext hu bs (Nat.succ_pos _); have kr := Bl.ext hu br (Nat.succ_pos _); have kk := Bl.ext hu bk (Nat.succ_pos _); go_simp; (try rfl))); simp only [Act.put, List.setIfInBounds_toArray, List.set_cons_zero, List.set_cons_succ])
    refine wpE_done ?_
    go_wp2_with fail
    refine bodyPost_cells_tmp2 rfl rfl Try.underlying79 rfl (by kernel_rfl) (bl_three bs) rfl rfl ?_
    exact RetFE.of HR.out.1 HR.out.2.1 HR.out.2.2 rfl hs5 ht5 HE

end Go.Proofs.Ytcipcpbjkcpgdaa
