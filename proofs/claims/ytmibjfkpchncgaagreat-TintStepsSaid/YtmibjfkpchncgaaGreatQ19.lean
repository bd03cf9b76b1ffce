/- The document's fractions on rationals: floors. -/
import Derived.Test.YtmibjfkpchncgaaGreatQ18
namespace Go.Proofs.YtmibjfkpchncgaaGreat
set_option linter.unusedVariables false
open Go Go.RowKit

theorem pd_len' (D : Nat) : dl (pd D) ≤ max (dl D) 1 := by
  unfold pd
  split
  · rw [dl_one]; exact Nat.le_max_right _ _
  · exact Nat.le_max_left _ _
section
variable {b b' : Bool} {a d a' d' : Option Addr} {n c m k n' c' m' k' N N' : Nat} {q q' : Rat} {w : World}

set_option maxRecDepth 100000 in
set_option maxHeartbeats 4000000 in
theorem gq_Floor (h : Fq w b a n c d m k q N) (hN : N ≤ 137438953472) :
    Calls Tryz.prog 32 #[.agg #[.bool b, .slice a n c, .slice d m k]] w (RetW w q.floor) := by
  obtain ⟨z, D, hz, hd, hm, hb1, hb2, rfl⟩ := h
  have HP1 := hidP (fun u t1 t2 => g_worth b a d n c m k z D u t1 t2 hm)
  have B1 : Hid (dl (pz z D).natAbs ≤ 137438953472) := hidP (by have := pz_len z D; omega)
  have B2 : Hid (dl (pd D) ≤ 137438953472) := hidP (by have := pd_len' D; omega)
  have hr := floor_mk (z := pz z D) (pd_ne D)
  rw [mk_pr] at hr
  have E0 : Hid (((pd D : Nat) : Int) ≠ 0) := hidP (by have := pd_ne D; omega)
  have HR := hidP hr
  clear hr
  generalize (mkRat z D).floor = rr at *
  have HZ := hidP hz; have HD := hidP hd
  clear hz hd hb1 hb2 hm hN
  generalize pz z D = Z at *
  generalize pd D = E at *
  have hv := fun u b1 a1 n1 c1 b2 a2 n2 c2 (t1 : WhIn u b1 a1 n1 c1 Z) (t2 : WhIn u b2 a2 n2 c2 (E : Int)) => r02_Div_any b1 b2 a1 a2 n1 c1 n2 c2 Z (E : Int) u t1 t2 B1.out (by rw [Int.natAbs_natCast]; have := B2.out; omega)
  unfold RetWD at hv
  rw [← HR.out] at hv
  generalize hqb : decide (rr < 0) = qb at *
  generalize decide (zmod Z (E : Int) < 0) = rb at *
  generalize decide ((E : Int) ≠ 0) = ok at *
  generalize (zmod Z (E : Int)).natAbs = mm at *
  have HV := hidP hv; have HQB := hidP hqb
  clear hv hqb HR B1 B2 E0
  go_enter Tryz.func32, Tryz.ntmps32
  go_wp2_with fail
  refine absC (fun x1 hx1 => ?_)
  have hx : Ext w x1 := by rw [hx1]; exact (((Ext.refl _).alloc _).alloc _)
  have bp : Bl x1 (w.heap.size) #[.bool b, .slice a n c, .slice d m k] := by rw [hx1]; exact ((Bl.new (by simp)).alloc (by simp))
  have fp : Fz x1 (w.heap.size) := by rw [hx1]; exact ((Fz.new (by simp)).alloc (Bl.new (by simp)) (by simp))
  have bs : Bl x1 (w.heap.size + 1) #[.bool false, .slice none 0 0] := by rw [hx1]; exact (Bl.new (by simp))
  have fs : Fz x1 (w.heap.size + 1) := by rw [hx1]; exact (Fz.new (by simp))
  have HE := hx
  clear hx
  clear hx1
  refine (HP1.out _ (HZ.out.ext HE) (HD.out.ext HE)).mono ?_
  rintro e u1 ⟨b1, a1, n1, c1, d1, m1, k1, rfl, hw1, hu1, hm1, hx⟩
  replace fp := Fz.ext hx fp bp (Nat.succ_pos _)
  replace bp := Bl.ext hx bp (Nat.succ_pos _)
  replace fs := Fz.ext hx fs bs (Nat.succ_pos _)
  replace bs := Bl.ext hx bs (Nat.succ_pos _)
  replace HE := HE.trans hx
  clear hx
  have HM1 := hidP hm1
  clear hm1
  go_upto_region 2 with fail
  refine absW (fun x2 hx2 => ?_)
  have hbut : But u1 x2 (w.heap.size) := by rw [hx2]; exact (But.refl _ _).store.store.store
  have hbn : Bl x2 (w.heap.size) #[.bool b1, .slice a1 n1 c1, .slice d1 m1 k1] := by rw [hx2]; exact (Bl.set (Bl.set (Bl.set bp (by simp)) (by simp)) (by simp))
  replace hw1 := hw1.but bp (not_ints3 nb_bool nb_slice nb_slice) hbut
  replace hu1 := hu1.but bp (not_ints3 nb_bool nb_slice nb_slice) hbut
  replace fs := But.fz hbut fs bs (Nat.succ_pos _) (by omega)
  replace bs := But.bl hbut bs (Nat.succ_pos _) (by omega)
  replace fp : Fz x2 (w.heap.size) := by rw [hx2]; exact (Fz.set (Fz.set (Fz.set fp)))
  replace HE : Ext w x2 := by rw [hx2]; exact (((HE.store (by show w.heap.size ≤ w.heap.size; omega) _).store (by show w.heap.size ≤ w.heap.size; omega) _).store (by show w.heap.size ≤ w.heap.size; omega) _)
  clear bp hbut hx2
  have bp := hbn
  clear hbn
  have lop := bp.lt (Nat.succ_pos _)
  have los := bs.lt (Nat.succ_pos _)
  have hlo : x2.heap.size ≤ x2.heap.size := Nat.le_refl _
  refine wp_region_plan (R := Below x2.heap.size) (.q 0 (.q 1 (.q 2 (.br 3 (.br 4 (.q 5 (.q 6 (.q 7 (.q 8 (.br 9 (.l 10 (.l 11 (.l 12 (.q 13 .done)))) (.l 10 (.l 9 (.l 11 (.l 12 (.q 13 .done)))))))))) (.br 9 (.br 4 (.q 5 (.q 6 (.q 7 (.q 8 (.l 10 (.l 11 (.l 12 (.q 13 .done)))))))) (.l 10 (.l 4 (.q 5 (.q 6 (.q 7 (.q 8 (.l 11 (.l 12 (.q 13 .done)))))))))) (.l 10 (.br 4 (.q 5 (.q 6 (.q 7 (.q 8 (.l 9 (.l 11 (.l 12 (.q 13 .done)))))))) (.l 9 (.l 4 (.q 5 (.q 6 (.q 7 (.q 8 (.l 11 (.l 12 (.q 13 .done))))))))))))) (.br 9 (.br 3 (.br 4 (.q 5 (.q 6 (.q 7 (.q 8 (.l 10 (.l 11 (.l 12 (.q 13 .done)))))))) (.l 10 (.l 4 (.q 5 (.q 6 (.q 7 (.q 8 (.l 11 (.l 12 (.q 13 .done)))))))))) (.l 10 (.l 3 (.l 4 (.q 5 (.q 6 (.q 7 (.q 8 (.l 11 (.l 12 (.q 13 .done))))))))))) (.l 10 (.br 3 (.br 4 (.q 5 (.q 6 (.q 7 (.q 8 (.l 9 (.l 11 (.l 12 (.q 13 .done)))))))) (.l 9 (.l 4 (.q 5 (.q 6 (.q 7 (.q 8 (.l 11 (.l 12 (.q 13 .done)))))))))) (.l 9 (.l 3 (.l 4 (.q 5 (.q 6 (.q 7 (.q 8 (.l 11 (.l 12 (.q 13 .done))))))))))))))))) (by kernel_rfl) (by kernel_rfl) (by kernel_rfl) (by kernel_rfl) (Below.refl _) (fun _ _ _ => Below.trans) ?_
  refine absE (fun x3 hx3 => ?_)
  have hx : Ext x2 x3 := by rw [hx3]; exact (Ext.refl _).drew
  replace hlo := Nat.le_trans hlo hx.size
  replace fp := Fz.ext hx fp bp (Nat.succ_pos _)
  replace bp := Bl.ext hx bp (Nat.succ_pos _)
  replace fs := Fz.ext hx fs bs (Nat.succ_pos _)
  replace bs := Bl.ext hx bs (Nat.succ_pos _)
  replace hw1 := hw1.ext hx
  replace hu1 := hu1.ext hx
  replace HE := HE.trans hx
  clear hx
  clear hx3
  repeat (refine wpE_q (v := ?_) rfl rfl (fun u hu => ?_) ?_; rotate_left 1; (focus (have kp := Bl.low hu bp lop; have ks := Bl.low hu bs los; go_simp; (try rfl))); simp only [Act.put, List.setIfInBounds_toArray, List.set_cons_zero, List.set_cons_succ])
  refine wpE_br rfl rfl (fun K hK => ?_) ?_
  · go_simp
    refine (g_up b1 a1 d1 n1 c1 m1 k1 _).mono ?_
    rintro e u3 ⟨rfl, hx⟩
    refine hK.out _ _ (Below.mono hx hlo) ?_
    clear hK K
    try simp only [Act.put, List.setIfInBounds_toArray, List.set_cons_zero, List.set_cons_succ]
    replace hlo := Nat.le_trans hlo hx.size
    replace fp := Fz.ext hx fp bp (Nat.succ_pos _)
    replace bp := Bl.ext hx bp (Nat.succ_pos _)
    replace fs := Fz.ext hx fs bs (Nat.succ_pos _)
    replace bs := Bl.ext hx bs (Nat.succ_pos _)
    replace hw1 := hw1.ext hx
    replace hu1 := hu1.ext hx
    replace HE := HE.trans hx
    clear hx
    refine wpE_br rfl rfl (fun K hK => ?_) ?_
    · go_simp
      refine (HV.out _ _ _ _ _ _ _ _ _ hw1 (hu1.wh HM1.out)).mono ?_
      rintro e u4 ⟨a4q, n4q, c4q, a4r, n4r, c4r, rfl, hs4q, hs4r, hx⟩
      refine hK.out _ _ (Below.mono hx hlo) ?_
      clear hK K
      try simp only [Act.put, List.setIfInBounds_toArray, List.set_cons_zero, List.set_cons_succ]
      replace hlo := Nat.le_trans hlo hx.size
      replace fp := Fz.ext hx fp bp (Nat.succ_pos _)
      replace bp := Bl.ext hx bp (Nat.succ_pos _)
      replace fs := Fz.ext hx fs bs (Nat.succ_pos _)
      replace bs := Bl.ext hx bs (Nat.succ_pos _)
      replace hw1 := hw1.ext hx
      replace hu1 := hu1.ext hx
      replace HE := HE.trans hx
      clear hx
      repeat (refine wpE_q (v := ?_) rfl rfl (fun u hu => ?_) ?_; rotate_left 1; (focus (have kp := Bl.low hu bp lop; have ks := Bl.low hu bs los; go_simp; (try rfl))); simp only [Act.put, List.setIfInBounds_toArray, List.set_cons_zero, List.set_cons_succ])
      refine wpE_br rfl rfl (fun K hK => ?_) ?_
      · go_simp
        refine hK.out _ _ ((Below.refl _ _).alloc hlo _) ?_
        clear hK K
        try simp only [Act.put, List.setIfInBounds_toArray, List.set_cons_zero, List.set_cons_succ]
        have gex := hlo
        have lpx := bp.lt (Nat.succ_pos _)
        have lsx := bs.lt (Nat.succ_pos _)
        have l0x := HE.size
        refine absE (fun x4 hx4 => ?_)
        have hx : Ext u4 x4 := by rw [hx4]; exact ((Ext.refl _).alloc _)
        have bx : Bl x4 (u4.heap.size) #[.bool false, .slice none 0 0] := by rw [hx4]; exact (Bl.new (by simp))
        have fx : Fz x4 (u4.heap.size) := by rw [hx4]; exact (Fz.new (by simp))
        replace hlo := Nat.le_trans hlo hx.size
        replace fp := Fz.ext hx fp bp (Nat.succ_pos _)
        replace bp := Bl.ext hx bp (Nat.succ_pos _)
        replace fs := Fz.ext hx fs bs (Nat.succ_pos _)
        replace bs := Bl.ext hx bs (Nat.succ_pos _)
        replace hw1 := hw1.ext hx
        replace hu1 := hu1.ext hx
        replace hs4q := hs4q.ext hx
        replace hs4r := hs4r.ext hx
        replace HE := HE.trans hx
        clear hx
        clear hx4
        refine wpE_l rfl rfl (fun K hK => ?_)
        go_simp
        refine hK.out _ _ ((Below.refl _ _).alloc hlo _) ?_
        clear hK K
        try simp only [Act.put, List.setIfInBounds_toArray, List.set_cons_zero, List.set_cons_succ]
        have gev := hlo
        have lpv := bp.lt (Nat.succ_pos _)
        have lsv := bs.lt (Nat.succ_pos _)
        have lxv := bx.lt (Nat.succ_pos _)
        have l0v := HE.size
        refine absE (fun x5 hx5 => ?_)
        have hx : Ext x4 x5 := by rw [hx5]; exact ((Ext.refl _).alloc _)
        have bv : Bl x5 (x4.heap.size) #[.bool false, .slice none 0 0] := by rw [hx5]; exact (Bl.new (by simp))
        have fv : Fz x5 (x4.heap.size) := by rw [hx5]; exact (Fz.new (by simp))
        replace hlo := Nat.le_trans hlo hx.size
        replace fp := Fz.ext hx fp bp (Nat.succ_pos _)
        replace bp := Bl.ext hx bp (Nat.succ_pos _)
        replace fs := Fz.ext hx fs bs (Nat.succ_pos _)
        replace bs := Bl.ext hx bs (Nat.succ_pos _)
        replace fx := Fz.ext hx fx bx (Nat.succ_pos _)
        replace bx := Bl.ext hx bx (Nat.succ_pos _)
        replace hw1 := hw1.ext hx
        replace hu1 := hu1.ext hx
        replace hs4q := hs4q.ext hx
        replace hs4r := hs4r.ext hx
        replace HE := HE.trans hx
        clear hx
        clear hx5
        refine wpE_l rfl rfl (fun K hK => ?_)
        go_simp
        refine hK.out _ _ (((Below.refl _ _).setCell (by show x2.heap.size ≤ u4.heap.size; omega) _).setCell (by show x2.heap.size ≤ u4.heap.size; omega) _) ?_
        clear hK K
        try simp only [Act.put, List.setIfInBounds_toArray, List.set_cons_zero, List.set_cons_succ]
        refine absE (fun x6 hx6 => ?_)
        have hbut : But x5 x6 (u4.heap.size) := by rw [hx6]; exact (But.refl _ _).store.store
        have hbn : Bl x6 (u4.heap.size) #[.bool qb, .slice a4q n4q c4q] := by rw [hx6]; exact (Bl.set (Bl.set bx (by simp)) (by simp))
        replace hw1 := hw1.but bx (not_ints2 nb_bool nb_slice) hbut
        replace hu1 := hu1.but bx (not_ints2 nb_bool nb_slice) hbut
        replace hs4q := hs4q.but bx (not_ints2 nb_bool nb_slice) hbut
        replace hs4r := hs4r.but bx (not_ints2 nb_bool nb_slice) hbut
        replace fp := But.fz hbut fp bp (Nat.succ_pos _) (by omega)
        replace bp := But.bl hbut bp (Nat.succ_pos _) (by omega)
        replace fs := But.fz hbut fs bs (Nat.succ_pos _) (by omega)
        replace bs := But.bl hbut bs (Nat.succ_pos _) (by omega)
        replace fv := But.fz hbut fv bv (Nat.succ_pos _) (by omega)
        replace bv := But.bl hbut bv (Nat.succ_pos _) (by omega)
        replace fx : Fz x6 (u4.heap.size) := by rw [hx6]; exact (Fz.set (Fz.set fx))
        replace HE : Ext w x6 := by rw [hx6]; exact ((HE.store (by show w.heap.size ≤ u4.heap.size; omega) _).store (by show w.heap.size ≤ u4.heap.size; omega) _)
        replace hlo : x2.heap.size ≤ x6.heap.size := Nat.le_trans hlo hbut.1
        clear bx hbut hx6
        have bx := hbn
        clear hbn
        refine wpE_l rfl rfl (fun K hK => ?_)
        go_simp
        refine hK.out _ _ (((Below.refl _ _).setCell (by show x2.heap.size ≤ x4.heap.size; omega) _).setCell (by show x2.heap.size ≤ x4.heap.size; omega) _) ?_
        clear hK K
        try simp only [Act.put, List.setIfInBounds_toArray, List.set_cons_zero, List.set_cons_succ]
        refine absE (fun x7 hx7 => ?_)
        have hbut : But x6 x7 (x4.heap.size) := by rw [hx7]; exact (But.refl _ _).store.store
        have hbn : Bl x7 (x4.heap.size) #[.bool rb, .slice a4r n4r c4r] := by rw [hx7]; exact (Bl.set (Bl.set bv (by simp)) (by simp))
        replace hw1 := hw1.but bv (not_ints2 nb_bool nb_slice) hbut
        replace hu1 := hu1.but bv (not_ints2 nb_bool nb_slice) hbut
        replace hs4q := hs4q.but bv (not_ints2 nb_bool nb_slice) hbut
        replace hs4r := hs4r.but bv (not_ints2 nb_bool nb_slice) hbut
        replace fp := But.fz hbut fp bp (Nat.succ_pos _) (by omega)
        replace bp := But.bl hbut bp (Nat.succ_pos _) (by omega)
        replace fs := But.fz hbut fs bs (Nat.succ_pos _) (by omega)
        replace bs := But.bl hbut bs (Nat.succ_pos _) (by omega)
        replace fx := But.fz hbut fx bx (Nat.succ_pos _) (by omega)
        replace bx := But.bl hbut bx (Nat.succ_pos _) (by omega)
        replace fv : Fz x7 (x4.heap.size) := by rw [hx7]; exact (Fz.set (Fz.set fv))
        replace HE : Ext w x7 := by rw [hx7]; exact ((HE.store (by show w.heap.size ≤ x4.heap.size; omega) _).store (by show w.heap.size ≤ x4.heap.size; omega) _)
        replace hlo : x2.heap.size ≤ x7.heap.size := Nat.le_trans hlo hbut.1
        clear bv hbut hx7
        have bv := hbn
        clear hbn
        repeat (refine wpE_q (v := ?_) rfl rfl (fun u hu => ?_) ?_; rotate_left 1; (focus (have kp := Bl.low hu bp lop; have ks := Bl.low hu bs los; go_simp; (try rfl))); simp only [Act.put, List.setIfInBounds_toArray, List.set_cons_zero, List.set_cons_succ])
        refine wpE_done ?_
        clear hlo
        go_wp2_with fail
        refine absB (fun ue hue => ?_)
        have hbs : Bl ue (w.heap.size + 1) #[.bool qb, .slice a4q n4q c4q] := by rw [hue]; exact ((bs.set (by simp)).set (by simp))
        have hnc : ∀ {aa : Option Addr} {nn cc VV : Nat}, Nc x7 aa nn cc VV → Nc ue aa nn cc VV := fun h => by
          rw [hue]
          exact h.but bs (not_ints2 nb_bool nb_slice) ((But.refl _ _).store.store)
        have heu : Ext w ue := by rw [hue]; exact (HE.store (by show w.heap.size ≤ w.heap.size + 1; omega) _).store (by show w.heap.size ≤ w.heap.size + 1; omega) _
        clear hue
        refine bodyPost_cells rfl rfl Tryz.underlying48 rfl (by kernel_rfl) (bl_two hbs) rfl ?_
        exact RetW.mk rfl HQB.out.symm (hnc hs4q) heu
      · refine wpE_l rfl rfl (fun K hK => ?_)
        go_simp
        refine hK.out _ _ ((Below.refl _ _).alloc hlo _) ?_
        clear hK K
        try simp only [Act.put, List.setIfInBounds_toArray, List.set_cons_zero, List.set_cons_succ]
        have gev := hlo
        have lpv := bp.lt (Nat.succ_pos _)
        have lsv := bs.lt (Nat.succ_pos _)
        have l0v := HE.size
        refine absE (fun x4 hx4 => ?_)
        have hx : Ext u4 x4 := by rw [hx4]; exact ((Ext.refl _).alloc _)
        have bv : Bl x4 (u4.heap.size) #[.bool false, .slice none 0 0] := by rw [hx4]; exact (Bl.new (by simp))
        have fv : Fz x4 (u4.heap.size) := by rw [hx4]; exact (Fz.new (by simp))
        replace hlo := Nat.le_trans hlo hx.size
        replace fp := Fz.ext hx fp bp (Nat.succ_pos _)
        replace bp := Bl.ext hx bp (Nat.succ_pos _)
        replace fs := Fz.ext hx fs bs (Nat.succ_pos _)
        replace bs := Bl.ext hx bs (Nat.succ_pos _)
        replace hw1 := hw1.ext hx
        replace hu1 := hu1.ext hx
        replace hs4q := hs4q.ext hx
        replace hs4r := hs4r.ext hx
        replace HE := HE.trans hx
        clear hx
        clear hx4
        refine wpE_l rfl rfl (fun K hK => ?_)
        go_simp
        refine hK.out _ _ ((Below.refl _ _).alloc hlo _) ?_
        clear hK K
        try simp only [Act.put, List.setIfInBounds_toArray, List.set_cons_zero, List.set_cons_succ]
        have gex := hlo
        have lpx := bp.lt (Nat.succ_pos _)
        have lsx := bs.lt (Nat.succ_pos _)
        have lvx := bv.lt (Nat.succ_pos _)
        have l0x := HE.size
        refine absE (fun x5 hx5 => ?_)
        have hx : Ext x4 x5 := by rw [hx5]; exact ((Ext.refl _).alloc _)
        have bx : Bl x5 (x4.heap.size) #[.bool false, .slice none 0 0] := by rw [hx5]; exact (Bl.new (by simp))
        have fx : Fz x5 (x4.heap.size) := by rw [hx5]; exact (Fz.new (by simp))
        replace hlo := Nat.le_trans hlo hx.size
        replace fp := Fz.ext hx fp bp (Nat.succ_pos _)
        replace bp := Bl.ext hx bp (Nat.succ_pos _)
        replace fs := Fz.ext hx fs bs (Nat.succ_pos _)
        replace bs := Bl.ext hx bs (Nat.succ_pos _)
        replace fv := Fz.ext hx fv bv (Nat.succ_pos _)
        replace bv := Bl.ext hx bv (Nat.succ_pos _)
        replace hw1 := hw1.ext hx
        replace hu1 := hu1.ext hx
        replace hs4q := hs4q.ext hx
        replace hs4r := hs4r.ext hx
        replace HE := HE.trans hx
        clear hx
        clear hx5
        refine wpE_l rfl rfl (fun K hK => ?_)
        go_simp
        refine hK.out _ _ (((Below.refl _ _).setCell (by show x2.heap.size ≤ x4.heap.size; omega) _).setCell (by show x2.heap.size ≤ x4.heap.size; omega) _) ?_
        clear hK K
        try simp only [Act.put, List.setIfInBounds_toArray, List.set_cons_zero, List.set_cons_succ]
        refine absE (fun x6 hx6 => ?_)
        have hbut : But x5 x6 (x4.heap.size) := by rw [hx6]; exact (But.refl _ _).store.store
        have hbn : Bl x6 (x4.heap.size) #[.bool qb, .slice a4q n4q c4q] := by rw [hx6]; exact (Bl.set (Bl.set bx (by simp)) (by simp))
        replace hw1 := hw1.but bx (not_ints2 nb_bool nb_slice) hbut
        replace hu1 := hu1.but bx (not_ints2 nb_bool nb_slice) hbut
        replace hs4q := hs4q.but bx (not_ints2 nb_bool nb_slice) hbut
        replace hs4r := hs4r.but bx (not_ints2 nb_bool nb_slice) hbut
        replace fp := But.fz hbut fp bp (Nat.succ_pos _) (by omega)
        replace bp := But.bl hbut bp (Nat.succ_pos _) (by omega)
        replace fs := But.fz hbut fs bs (Nat.succ_pos _) (by omega)
        replace bs := But.bl hbut bs (Nat.succ_pos _) (by omega)
        replace fv := But.fz hbut fv bv (Nat.succ_pos _) (by omega)
        replace bv := But.bl hbut bv (Nat.succ_pos _) (by omega)
        replace fx : Fz x6 (x4.heap.size) := by rw [hx6]; exact (Fz.set (Fz.set fx))
        replace HE : Ext w x6 := by rw [hx6]; exact ((HE.store (by show w.heap.size ≤ x4.heap.size; omega) _).store (by show w.heap.size ≤ x4.heap.size; omega) _)
        replace hlo : x2.heap.size ≤ x6.heap.size := Nat.le_trans hlo hbut.1
        clear bx hbut hx6
        have bx := hbn
        clear hbn
        refine wpE_l rfl rfl (fun K hK => ?_)
        go_simp
        refine hK.out _ _ (((Below.refl _ _).setCell (by show x2.heap.size ≤ u4.heap.size; omega) _).setCell (by show x2.heap.size ≤ u4.heap.size; omega) _) ?_
        clear hK K
        try simp only [Act.put, List.setIfInBounds_toArray, List.set_cons_zero, List.set_cons_succ]
        refine absE (fun x7 hx7 => ?_)
        have hbut : But x6 x7 (u4.heap.size) := by rw [hx7]; exact (But.refl _ _).store.store
        have hbn : Bl x7 (u4.heap.size) #[.bool rb, .slice a4r n4r c4r] := by rw [hx7]; exact (Bl.set (Bl.set bv (by simp)) (by simp))
        replace hw1 := hw1.but bv (not_ints2 nb_bool nb_slice) hbut
        replace hu1 := hu1.but bv (not_ints2 nb_bool nb_slice) hbut
        replace hs4q := hs4q.but bv (not_ints2 nb_bool nb_slice) hbut
        replace hs4r := hs4r.but bv (not_ints2 nb_bool nb_slice) hbut
        replace fp := But.fz hbut fp bp (Nat.succ_pos _) (by omega)
        replace bp := But.bl hbut bp (Nat.succ_pos _) (by omega)
        replace fs := But.fz hbut fs bs (Nat.succ_pos _) (by omega)
        replace bs := But.bl hbut bs (Nat.succ_pos _) (by omega)
        replace fx := But.fz hbut fx bx (Nat.succ_pos _) (by omega)
        replace bx := But.bl hbut bx (Nat.succ_pos _) (by omega)
        replace fv : Fz x7 (u4.heap.size) := by rw [hx7]; exact (Fz.set (Fz.set fv))
        replace HE : Ext w x7 := by rw [hx7]; exact ((HE.store (by show w.heap.size ≤ u4.heap.size; omega) _).store (by show w.heap.size ≤ u4.heap.size; omega) _)
        replace hlo : x2.heap.size ≤ x7.heap.size := Nat.le_trans hlo hbut.1
        clear bv hbut hx7
        have bv := hbn
        clear hbn
        repeat (refine wpE_q (v := ?_) rfl rfl (fun u hu => ?_) ?_; rotate_left 1; (focus (have kp := Bl.low hu bp lop; have ks := Bl.low hu bs los; go_simp; (try rfl))); simp only [Act.put, List.setIfInBounds_toArray, List.set_cons_zero, List.set_cons_succ])
        refine wpE_done ?_
        clear hlo
        go_wp2_with fail
        refine absB (fun ue hue => ?_)
        have hbs : Bl ue (w.heap.size + 1) #[.bool qb, .slice a4q n4q c4q] := by rw [hue]; exact ((bs.set (by simp)).set (by simp))
        have hnc : ∀ {aa : Option Addr} {nn cc VV : Nat}, Nc x7 aa nn cc VV → Nc ue aa nn cc VV := fun h => by
          rw [hue]
          exact h.but bs (not_ints2 nb_bool nb_slice) ((But.refl _ _).store.store)
        have heu : Ext w ue := by rw [hue]; exact (HE.store (by show w.heap.size ≤ w.heap.size + 1; omega) _).store (by show w.heap.size ≤ w.heap.size + 1; omega) _
        clear hue
        refine bodyPost_cells rfl rfl Tryz.underlying48 rfl (by kernel_rfl) (bl_two hbs) rfl ?_
        exact RetW.mk rfl HQB.out.symm (hnc hs4q) heu
    refine wpE_br rfl rfl (fun K hK => ?_) ?_
    · go_simp
      refine hK.out _ _ ((Below.refl _ _).alloc hlo _) ?_
      clear hK K
      try simp only [Act.put, List.setIfInBounds_toArray, List.set_cons_zero, List.set_cons_succ]
      have gex := hlo
      have lpx := bp.lt (Nat.succ_pos _)
      have lsx := bs.lt (Nat.succ_pos _)
      have l0x := HE.size
      refine absE (fun x4 hx4 => ?_)
      have hx : Ext u3 x4 := by rw [hx4]; exact ((Ext.refl _).alloc _)
      have bx : Bl x4 (u3.heap.size) #[.bool false, .slice none 0 0] := by rw [hx4]; exact (Bl.new (by simp))
      have fx : Fz x4 (u3.heap.size) := by rw [hx4]; exact (Fz.new (by simp))
      replace hlo := Nat.le_trans hlo hx.size
      replace fp := Fz.ext hx fp bp (Nat.succ_pos _)
      replace bp := Bl.ext hx bp (Nat.succ_pos _)
      replace fs := Fz.ext hx fs bs (Nat.succ_pos _)
      replace bs := Bl.ext hx bs (Nat.succ_pos _)
      replace hw1 := hw1.ext hx
      replace hu1 := hu1.ext hx
      replace HE := HE.trans hx
      clear hx
      clear hx4
      refine wpE_br rfl rfl (fun K hK => ?_) ?_
      · go_simp
        refine (HV.out _ _ _ _ _ _ _ _ _ hw1 (hu1.wh HM1.out)).mono ?_
        rintro e u4 ⟨a4q, n4q, c4q, a4r, n4r, c4r, rfl, hs4q, hs4r, hx⟩
        refine hK.out _ _ (Below.mono hx hlo) ?_
        clear hK K
        try simp only [Act.put, List.setIfInBounds_toArray, List.set_cons_zero, List.set_cons_succ]
        replace hlo := Nat.le_trans hlo hx.size
        replace fp := Fz.ext hx fp bp (Nat.succ_pos _)
        replace bp := Bl.ext hx bp (Nat.succ_pos _)
        replace fs := Fz.ext hx fs bs (Nat.succ_pos _)
        replace bs := Bl.ext hx bs (Nat.succ_pos _)
        replace fx := Fz.ext hx fx bx (Nat.succ_pos _)
        replace bx := Bl.ext hx bx (Nat.succ_pos _)
        replace hw1 := hw1.ext hx
        replace hu1 := hu1.ext hx
        replace HE := HE.trans hx
        clear hx
        repeat (refine wpE_q (v := ?_) rfl rfl (fun u hu => ?_) ?_; rotate_left 1; (focus (have kp := Bl.low hu bp lop; have ks := Bl.low hu bs los; go_simp; (try rfl))); simp only [Act.put, List.setIfInBounds_toArray, List.set_cons_zero, List.set_cons_succ])
        refine wpE_l rfl rfl (fun K hK => ?_)
        go_simp
        refine hK.out _ _ ((Below.refl _ _).alloc hlo _) ?_
        clear hK K
        try simp only [Act.put, List.setIfInBounds_toArray, List.set_cons_zero, List.set_cons_succ]
        have gev := hlo
        have lpv := bp.lt (Nat.succ_pos _)
        have lsv := bs.lt (Nat.succ_pos _)
        have lxv := bx.lt (Nat.succ_pos _)
        have l0v := HE.size
        refine absE (fun x5 hx5 => ?_)
        have hx : Ext u4 x5 := by rw [hx5]; exact ((Ext.refl _).alloc _)
        have bv : Bl x5 (u4.heap.size) #[.bool false, .slice none 0 0] := by rw [hx5]; exact (Bl.new (by simp))
        have fv : Fz x5 (u4.heap.size) := by rw [hx5]; exact (Fz.new (by simp))
        replace hlo := Nat.le_trans hlo hx.size
        replace fp := Fz.ext hx fp bp (Nat.succ_pos _)
        replace bp := Bl.ext hx bp (Nat.succ_pos _)
        replace fs := Fz.ext hx fs bs (Nat.succ_pos _)
        replace bs := Bl.ext hx bs (Nat.succ_pos _)
        replace fx := Fz.ext hx fx bx (Nat.succ_pos _)
        replace bx := Bl.ext hx bx (Nat.succ_pos _)
        replace hw1 := hw1.ext hx
        replace hu1 := hu1.ext hx
        replace hs4q := hs4q.ext hx
        replace hs4r := hs4r.ext hx
        replace HE := HE.trans hx
        clear hx
        clear hx5
        refine wpE_l rfl rfl (fun K hK => ?_)
        go_simp
        refine hK.out _ _ (((Below.refl _ _).setCell (by show x2.heap.size ≤ u3.heap.size; omega) _).setCell (by show x2.heap.size ≤ u3.heap.size; omega) _) ?_
        clear hK K
        try simp only [Act.put, List.setIfInBounds_toArray, List.set_cons_zero, List.set_cons_succ]
        refine absE (fun x6 hx6 => ?_)
        have hbut : But x5 x6 (u3.heap.size) := by rw [hx6]; exact (But.refl _ _).store.store
        have hbn : Bl x6 (u3.heap.size) #[.bool qb, .slice a4q n4q c4q] := by rw [hx6]; exact (Bl.set (Bl.set bx (by simp)) (by simp))
        replace hw1 := hw1.but bx (not_ints2 nb_bool nb_slice) hbut
        replace hu1 := hu1.but bx (not_ints2 nb_bool nb_slice) hbut
        replace hs4q := hs4q.but bx (not_ints2 nb_bool nb_slice) hbut
        replace hs4r := hs4r.but bx (not_ints2 nb_bool nb_slice) hbut
        replace fp := But.fz hbut fp bp (Nat.succ_pos _) (by omega)
        replace bp := But.bl hbut bp (Nat.succ_pos _) (by omega)
        replace fs := But.fz hbut fs bs (Nat.succ_pos _) (by omega)
        replace bs := But.bl hbut bs (Nat.succ_pos _) (by omega)
        replace fv := But.fz hbut fv bv (Nat.succ_pos _) (by omega)
        replace bv := But.bl hbut bv (Nat.succ_pos _) (by omega)
        replace fx : Fz x6 (u3.heap.size) := by rw [hx6]; exact (Fz.set (Fz.set fx))
        replace HE : Ext w x6 := by rw [hx6]; exact ((HE.store (by show w.heap.size ≤ u3.heap.size; omega) _).store (by show w.heap.size ≤ u3.heap.size; omega) _)
        replace hlo : x2.heap.size ≤ x6.heap.size := Nat.le_trans hlo hbut.1
        clear bx hbut hx6
        have bx := hbn
        clear hbn
        refine wpE_l rfl rfl (fun K hK => ?_)
        go_simp
        refine hK.out _ _ (((Below.refl _ _).setCell (by show x2.heap.size ≤ u4.heap.size; omega) _).setCell (by show x2.heap.size ≤ u4.heap.size; omega) _) ?_
        clear hK K
        try simp only [Act.put, List.setIfInBounds_toArray, List.set_cons_zero, List.set_cons_succ]
        refine absE (fun x7 hx7 => ?_)
        have hbut : But x6 x7 (u4.heap.size) := by rw [hx7]; exact (But.refl _ _).store.store
        have hbn : Bl x7 (u4.heap.size) #[.bool rb, .slice a4r n4r c4r] := by rw [hx7]; exact (Bl.set (Bl.set bv (by simp)) (by simp))
        replace hw1 := hw1.but bv (not_ints2 nb_bool nb_slice) hbut
        replace hu1 := hu1.but bv (not_ints2 nb_bool nb_slice) hbut
        replace hs4q := hs4q.but bv (not_ints2 nb_bool nb_slice) hbut
        replace hs4r := hs4r.but bv (not_ints2 nb_bool nb_slice) hbut
        replace fp := But.fz hbut fp bp (Nat.succ_pos _) (by omega)
        replace bp := But.bl hbut bp (Nat.succ_pos _) (by omega)
        replace fs := But.fz hbut fs bs (Nat.succ_pos _) (by omega)
        replace bs := But.bl hbut bs (Nat.succ_pos _) (by omega)
        replace fx := But.fz hbut fx bx (Nat.succ_pos _) (by omega)
        replace bx := But.bl hbut bx (Nat.succ_pos _) (by omega)
        replace fv : Fz x7 (u4.heap.size) := by rw [hx7]; exact (Fz.set (Fz.set fv))
        replace HE : Ext w x7 := by rw [hx7]; exact ((HE.store (by show w.heap.size ≤ u4.heap.size; omega) _).store (by show w.heap.size ≤ u4.heap.size; omega) _)
        replace hlo : x2.heap.size ≤ x7.heap.size := Nat.le_trans hlo hbut.1
        clear bv hbut hx7
        have bv := hbn
        clear hbn
        repeat (refine wpE_q (v := ?_) rfl rfl (fun u hu => ?_) ?_; rotate_left 1; (focus (have kp := Bl.low hu bp lop; have ks := Bl.low hu bs los; go_simp; (try rfl))); simp only [Act.put, List.setIfInBounds_toArray, List.set_cons_zero, List.set_cons_succ])
        refine wpE_done ?_
        clear hlo
        go_wp2_with fail
        refine absB (fun ue hue => ?_)
        have hbs : Bl ue (w.heap.size + 1) #[.bool qb, .slice a4q n4q c4q] := by rw [hue]; exact ((bs.set (by simp)).set (by simp))
        have hnc : ∀ {aa : Option Addr} {nn cc VV : Nat}, Nc x7 aa nn cc VV → Nc ue aa nn cc VV := fun h => by
          rw [hue]
          exact h.but bs (not_ints2 nb_bool nb_slice) ((But.refl _ _).store.store)
        have heu : Ext w ue := by rw [hue]; exact (HE.store (by show w.heap.size ≤ w.heap.size + 1; omega) _).store (by show w.heap.size ≤ w.heap.size + 1; omega) _
        clear hue
        refine bodyPost_cells rfl rfl Tryz.underlying48 rfl (by kernel_rfl) (bl_two hbs) rfl ?_
        exact RetW.mk rfl HQB.out.symm (hnc hs4q) heu
      · refine wpE_l rfl rfl (fun K hK => ?_)
        go_simp
        refine hK.out _ _ ((Below.refl _ _).alloc hlo _) ?_
        clear hK K
        try simp only [Act.put, List.setIfInBounds_toArray, List.set_cons_zero, List.set_cons_succ]
        have gev := hlo
        have lpv := bp.lt (Nat.succ_pos _)
        have lsv := bs.lt (Nat.succ_pos _)
        have lxv := bx.lt (Nat.succ_pos _)
        have l0v := HE.size
        refine absE (fun x5 hx5 => ?_)
        have hx : Ext x4 x5 := by rw [hx5]; exact ((Ext.refl _).alloc _)
        have bv : Bl x5 (x4.heap.size) #[.bool false, .slice none 0 0] := by rw [hx5]; exact (Bl.new (by simp))
        have fv : Fz x5 (x4.heap.size) := by rw [hx5]; exact (Fz.new (by simp))
        replace hlo := Nat.le_trans hlo hx.size
        replace fp := Fz.ext hx fp bp (Nat.succ_pos _)
        replace bp := Bl.ext hx bp (Nat.succ_pos _)
        replace fs := Fz.ext hx fs bs (Nat.succ_pos _)
        replace bs := Bl.ext hx bs (Nat.succ_pos _)
        replace fx := Fz.ext hx fx bx (Nat.succ_pos _)
        replace bx := Bl.ext hx bx (Nat.succ_pos _)
        replace hw1 := hw1.ext hx
        replace hu1 := hu1.ext hx
        replace HE := HE.trans hx
        clear hx
        clear hx5
        refine wpE_l rfl rfl (fun K hK => ?_)
        go_simp
        refine (HV.out _ _ _ _ _ _ _ _ _ hw1 (hu1.wh HM1.out)).mono ?_
        rintro e u4 ⟨a4q, n4q, c4q, a4r, n4r, c4r, rfl, hs4q, hs4r, hx⟩
        refine hK.out _ _ (Below.mono hx hlo) ?_
        clear hK K
        try simp only [Act.put, List.setIfInBounds_toArray, List.set_cons_zero, List.set_cons_succ]
        replace hlo := Nat.le_trans hlo hx.size
        replace fp := Fz.ext hx fp bp (Nat.succ_pos _)
        replace bp := Bl.ext hx bp (Nat.succ_pos _)
        replace fs := Fz.ext hx fs bs (Nat.succ_pos _)
        replace bs := Bl.ext hx bs (Nat.succ_pos _)
        replace fx := Fz.ext hx fx bx (Nat.succ_pos _)
        replace bx := Bl.ext hx bx (Nat.succ_pos _)
        replace fv := Fz.ext hx fv bv (Nat.succ_pos _)
        replace bv := Bl.ext hx bv (Nat.succ_pos _)
        replace hw1 := hw1.ext hx
        replace hu1 := hu1.ext hx
        replace HE := HE.trans hx
        clear hx
        repeat (refine wpE_q (v := ?_) rfl rfl (fun u hu => ?_) ?_; rotate_left 1; (focus (have kp := Bl.low hu bp lop; have ks := Bl.low hu bs los; go_simp; (try rfl))); simp only [Act.put, List.setIfInBounds_toArray, List.set_cons_zero, List.set_cons_succ])
        refine wpE_l rfl rfl (fun K hK => ?_)
        go_simp
        refine hK.out _ _ (((Below.refl _ _).setCell (by show x2.heap.size ≤ u3.heap.size; omega) _).setCell (by show x2.heap.size ≤ u3.heap.size; omega) _) ?_
        clear hK K
        try simp only [Act.put, List.setIfInBounds_toArray, List.set_cons_zero, List.set_cons_succ]
        refine absE (fun x6 hx6 => ?_)
        have hbut : But u4 x6 (u3.heap.size) := by rw [hx6]; exact (But.refl _ _).store.store
        have hbn : Bl x6 (u3.heap.size) #[.bool qb, .slice a4q n4q c4q] := by rw [hx6]; exact (Bl.set (Bl.set bx (by simp)) (by simp))
        replace hw1 := hw1.but bx (not_ints2 nb_bool nb_slice) hbut
        replace hu1 := hu1.but bx (not_ints2 nb_bool nb_slice) hbut
        replace hs4q := hs4q.but bx (not_ints2 nb_bool nb_slice) hbut
        replace hs4r := hs4r.but bx (not_ints2 nb_bool nb_slice) hbut
        replace fp := But.fz hbut fp bp (Nat.succ_pos _) (by omega)
        replace bp := But.bl hbut bp (Nat.succ_pos _) (by omega)
        replace fs := But.fz hbut fs bs (Nat.succ_pos _) (by omega)
        replace bs := But.bl hbut bs (Nat.succ_pos _) (by omega)
        replace fv := But.fz hbut fv bv (Nat.succ_pos _) (by omega)
        replace bv := But.bl hbut bv (Nat.succ_pos _) (by omega)
        replace fx : Fz x6 (u3.heap.size) := by rw [hx6]; exact (Fz.set (Fz.set fx))
        replace HE : Ext w x6 := by rw [hx6]; exact ((HE.store (by show w.heap.size ≤ u3.heap.size; omega) _).store (by show w.heap.size ≤ u3.heap.size; omega) _)
        replace hlo : x2.heap.size ≤ x6.heap.size := Nat.le_trans hlo hbut.1
        clear bx hbut hx6
        have bx := hbn
        clear hbn
        refine wpE_l rfl rfl (fun K hK => ?_)
        go_simp
        refine hK.out _ _ (((Below.refl _ _).setCell (by show x2.heap.size ≤ x4.heap.size; omega) _).setCell (by show x2.heap.size ≤ x4.heap.size; omega) _) ?_
        clear hK K
        try simp only [Act.put, List.setIfInBounds_toArray, List.set_cons_zero, List.set_cons_succ]
        refine absE (fun x7 hx7 => ?_)
        have hbut : But x6 x7 (x4.heap.size) := by rw [hx7]; exact (But.refl _ _).store.store
        have hbn : Bl x7 (x4.heap.size) #[.bool rb, .slice a4r n4r c4r] := by rw [hx7]; exact (Bl.set (Bl.set bv (by simp)) (by simp))
        replace hw1 := hw1.but bv (not_ints2 nb_bool nb_slice) hbut
        replace hu1 := hu1.but bv (not_ints2 nb_bool nb_slice) hbut
        replace hs4q := hs4q.but bv (not_ints2 nb_bool nb_slice) hbut
        replace hs4r := hs4r.but bv (not_ints2 nb_bool nb_slice) hbut
        replace fp := But.fz hbut fp bp (Nat.succ_pos _) (by omega)
        replace bp := But.bl hbut bp (Nat.succ_pos _) (by omega)
        replace fs := But.fz hbut fs bs (Nat.succ_pos _) (by omega)
        replace bs := But.bl hbut bs (Nat.succ_pos _) (by omega)
        replace fx := But.fz hbut fx bx (Nat.succ_pos _) (by omega)
        replace bx := But.bl hbut bx (Nat.succ_pos _) (by omega)
        replace fv : Fz x7 (x4.heap.size) := by rw [hx7]; exact (Fz.set (Fz.set fv))
        replace HE : Ext w x7 := by rw [hx7]; exact ((HE.store (by show w.heap.size ≤ x4.heap.size; omega) _).store (by show w.heap.size ≤ x4.heap.size; omega) _)
        replace hlo : x2.heap.size ≤ x7.heap.size := Nat.le_trans hlo hbut.1
        clear bv hbut hx7
        have bv := hbn
        clear hbn
        repeat (refine wpE_q (v := ?_) rfl rfl (fun u hu => ?_) ?_; rotate_left 1; (focus (have kp := Bl.low hu bp lop; have ks := Bl.low hu bs los; go_simp; (try rfl))); simp only [Act.put, List.setIfInBounds_toArray, List.set_cons_zero, List.set_cons_succ])
        refine wpE_done ?_
        clear hlo
        go_wp2_with fail
        refine absB (fun ue hue => ?_)
        have hbs : Bl ue (w.heap.size + 1) #[.bool qb, .slice a4q n4q c4q] := by rw [hue]; exact ((bs.set (by simp)).set (by simp))
        have hnc : ∀ {aa : Option Addr} {nn cc VV : Nat}, Nc x7 aa nn cc VV → Nc ue aa nn cc VV := fun h => by
          rw [hue]
          exact h.but bs (not_ints2 nb_bool nb_slice) ((But.refl _ _).store.store)
        have heu : Ext w ue := by rw [hue]; exact (HE.store (by show w.heap.size ≤ w.heap.size + 1; omega) _).store (by show w.heap.size ≤ w.heap.size + 1; omega) _
        clear hue
        refine bodyPost_cells rfl rfl Tryz.underlying48 rfl (by kernel_rfl) (bl_two hbs) rfl ?_
        exact RetW.mk rfl HQB.out.symm (hnc hs4q) heu
    · refine wpE_l rfl rfl (fun K hK => ?_)
      go_simp
      refine hK.out _ _ ((Below.refl _ _).alloc hlo _) ?_
      clear hK K
      try simp only [Act.put, List.setIfInBounds_toArray, List.set_cons_zero, List.set_cons_succ]
      have gev := hlo
      have lpv := bp.lt (Nat.succ_pos _)
      have lsv := bs.lt (Nat.succ_pos _)
      have l0v := HE.size
      refine absE (fun x4 hx4 => ?_)
      have hx : Ext u3 x4 := by rw [hx4]; exact ((Ext.refl _).alloc _)
      have bv : Bl x4 (u3.heap.size) #[.bool false, .slice none 0 0] := by rw [hx4]; exact (Bl.new (by simp))
      have fv : Fz x4 (u3.heap.size) := by rw [hx4]; exact (Fz.new (by simp))
      replace hlo := Nat.le_trans hlo hx.size
      replace fp := Fz.ext hx fp bp (Nat.succ_pos _)
      replace bp := Bl.ext hx bp (Nat.succ_pos _)
      replace fs := Fz.ext hx fs bs (Nat.succ_pos _)
      replace bs := Bl.ext hx bs (Nat.succ_pos _)
      replace hw1 := hw1.ext hx
      replace hu1 := hu1.ext hx
      replace HE := HE.trans hx
      clear hx
      clear hx4
      refine wpE_br rfl rfl (fun K hK => ?_) ?_
      · go_simp
        refine (HV.out _ _ _ _ _ _ _ _ _ hw1 (hu1.wh HM1.out)).mono ?_
        rintro e u4 ⟨a4q, n4q, c4q, a4r, n4r, c4r, rfl, hs4q, hs4r, hx⟩
        refine hK.out _ _ (Below.mono hx hlo) ?_
        clear hK K
        try simp only [Act.put, List.setIfInBounds_toArray, List.set_cons_zero, List.set_cons_succ]
        replace hlo := Nat.le_trans hlo hx.size
        replace fp := Fz.ext hx fp bp (Nat.succ_pos _)
        replace bp := Bl.ext hx bp (Nat.succ_pos _)
        replace fs := Fz.ext hx fs bs (Nat.succ_pos _)
        replace bs := Bl.ext hx bs (Nat.succ_pos _)
        replace fv := Fz.ext hx fv bv (Nat.succ_pos _)
        replace bv := Bl.ext hx bv (Nat.succ_pos _)
        replace hw1 := hw1.ext hx
        replace hu1 := hu1.ext hx
        replace HE := HE.trans hx
        clear hx
        repeat (refine wpE_q (v := ?_) rfl rfl (fun u hu => ?_) ?_; rotate_left 1; (focus (have kp := Bl.low hu bp lop; have ks := Bl.low hu bs los; go_simp; (try rfl))); simp only [Act.put, List.setIfInBounds_toArray, List.set_cons_zero, List.set_cons_succ])
        refine wpE_l rfl rfl (fun K hK => ?_)
        go_simp
        refine hK.out _ _ ((Below.refl _ _).alloc hlo _) ?_
        clear hK K
        try simp only [Act.put, List.setIfInBounds_toArray, List.set_cons_zero, List.set_cons_succ]
        have gex := hlo
        have lpx := bp.lt (Nat.succ_pos _)
        have lsx := bs.lt (Nat.succ_pos _)
        have lvx := bv.lt (Nat.succ_pos _)
        have l0x := HE.size
        refine absE (fun x5 hx5 => ?_)
        have hx : Ext u4 x5 := by rw [hx5]; exact ((Ext.refl _).alloc _)
        have bx : Bl x5 (u4.heap.size) #[.bool false, .slice none 0 0] := by rw [hx5]; exact (Bl.new (by simp))
        have fx : Fz x5 (u4.heap.size) := by rw [hx5]; exact (Fz.new (by simp))
        replace hlo := Nat.le_trans hlo hx.size
        replace fp := Fz.ext hx fp bp (Nat.succ_pos _)
        replace bp := Bl.ext hx bp (Nat.succ_pos _)
        replace fs := Fz.ext hx fs bs (Nat.succ_pos _)
        replace bs := Bl.ext hx bs (Nat.succ_pos _)
        replace fv := Fz.ext hx fv bv (Nat.succ_pos _)
        replace bv := Bl.ext hx bv (Nat.succ_pos _)
        replace hw1 := hw1.ext hx
        replace hu1 := hu1.ext hx
        replace hs4q := hs4q.ext hx
        replace hs4r := hs4r.ext hx
        replace HE := HE.trans hx
        clear hx
        clear hx5
        refine wpE_l rfl rfl (fun K hK => ?_)
        go_simp
        refine hK.out _ _ (((Below.refl _ _).setCell (by show x2.heap.size ≤ u4.heap.size; omega) _).setCell (by show x2.heap.size ≤ u4.heap.size; omega) _) ?_
        clear hK K
        try simp only [Act.put, List.setIfInBounds_toArray, List.set_cons_zero, List.set_cons_succ]
        refine absE (fun x6 hx6 => ?_)
        have hbut : But x5 x6 (u4.heap.size) := by rw [hx6]; exact (But.refl _ _).store.store
        have hbn : Bl x6 (u4.heap.size) #[.bool qb, .slice a4q n4q c4q] := by rw [hx6]; exact (Bl.set (Bl.set bx (by simp)) (by simp))
        replace hw1 := hw1.but bx (not_ints2 nb_bool nb_slice) hbut
        replace hu1 := hu1.but bx (not_ints2 nb_bool nb_slice) hbut
        replace hs4q := hs4q.but bx (not_ints2 nb_bool nb_slice) hbut
        replace hs4r := hs4r.but bx (not_ints2 nb_bool nb_slice) hbut
        replace fp := But.fz hbut fp bp (Nat.succ_pos _) (by omega)
        replace bp := But.bl hbut bp (Nat.succ_pos _) (by omega)
        replace fs := But.fz hbut fs bs (Nat.succ_pos _) (by omega)
        replace bs := But.bl hbut bs (Nat.succ_pos _) (by omega)
        replace fv := But.fz hbut fv bv (Nat.succ_pos _) (by omega)
        replace bv := But.bl hbut bv (Nat.succ_pos _) (by omega)
        replace fx : Fz x6 (u4.heap.size) := by rw [hx6]; exact (Fz.set (Fz.set fx))
        replace HE : Ext w x6 := by rw [hx6]; exact ((HE.store (by show w.heap.size ≤ u4.heap.size; omega) _).store (by show w.heap.size ≤ u4.heap.size; omega) _)
        replace hlo : x2.heap.size ≤ x6.heap.size := Nat.le_trans hlo hbut.1
        clear bx hbut hx6
        have bx := hbn
        clear hbn
        refine wpE_l rfl rfl (fun K hK => ?_)
        go_simp
        refine hK.out _ _ (((Below.refl _ _).setCell (by show x2.heap.size ≤ u3.heap.size; omega) _).setCell (by show x2.heap.size ≤ u3.heap.size; omega) _) ?_
        clear hK K
        try simp only [Act.put, List.setIfInBounds_toArray, List.set_cons_zero, List.set_cons_succ]
        refine absE (fun x7 hx7 => ?_)
        have hbut : But x6 x7 (u3.heap.size) := by rw [hx7]; exact (But.refl _ _).store.store
        have hbn : Bl x7 (u3.heap.size) #[.bool rb, .slice a4r n4r c4r] := by rw [hx7]; exact (Bl.set (Bl.set bv (by simp)) (by simp))
        replace hw1 := hw1.but bv (not_ints2 nb_bool nb_slice) hbut
        replace hu1 := hu1.but bv (not_ints2 nb_bool nb_slice) hbut
        replace hs4q := hs4q.but bv (not_ints2 nb_bool nb_slice) hbut
        replace hs4r := hs4r.but bv (not_ints2 nb_bool nb_slice) hbut
        replace fp := But.fz hbut fp bp (Nat.succ_pos _) (by omega)
        replace bp := But.bl hbut bp (Nat.succ_pos _) (by omega)
        replace fs := But.fz hbut fs bs (Nat.succ_pos _) (by omega)
        replace bs := But.bl hbut bs (Nat.succ_pos _) (by omega)
        replace fx := But.fz hbut fx bx (Nat.succ_pos _) (by omega)
        replace bx := But.bl hbut bx (Nat.succ_pos _) (by omega)
        replace fv : Fz x7 (u3.heap.size) := by rw [hx7]; exact (Fz.set (Fz.set fv))
        replace HE : Ext w x7 := by rw [hx7]; exact ((HE.store (by show w.heap.size ≤ u3.heap.size; omega) _).store (by show w.heap.size ≤ u3.heap.size; omega) _)
        replace hlo : x2.heap.size ≤ x7.heap.size := Nat.le_trans hlo hbut.1
        clear bv hbut hx7
        have bv := hbn
        clear hbn
        repeat (refine wpE_q (v := ?_) rfl rfl (fun u hu => ?_) ?_; rotate_left 1; (focus (have kp := Bl.low hu bp lop; have ks := Bl.low hu bs los; go_simp; (try rfl))); simp only [Act.put, List.setIfInBounds_toArray, List.set_cons_zero, List.set_cons_succ])
        refine wpE_done ?_
        clear hlo
        go_wp2_with fail
        refine absB (fun ue hue => ?_)
        have hbs : Bl ue (w.heap.size + 1) #[.bool qb, .slice a4q n4q c4q] := by rw [hue]; exact ((bs.set (by simp)).set (by simp))
        have hnc : ∀ {aa : Option Addr} {nn cc VV : Nat}, Nc x7 aa nn cc VV → Nc ue aa nn cc VV := fun h => by
          rw [hue]
          exact h.but bs (not_ints2 nb_bool nb_slice) ((But.refl _ _).store.store)
        have heu : Ext w ue := by rw [hue]; exact (HE.store (by show w.heap.size ≤ w.heap.size + 1; omega) _).store (by show w.heap.size ≤ w.heap.size + 1; omega) _
        clear hue
        refine bodyPost_cells rfl rfl Tryz.underlying48 rfl (by kernel_rfl) (bl_two hbs) rfl ?_
        exact RetW.mk rfl HQB.out.symm (hnc hs4q) heu
      · refine wpE_l rfl rfl (fun K hK => ?_)
        go_simp
        refine hK.out _ _ ((Below.refl _ _).alloc hlo _) ?_
        clear hK K
        try simp only [Act.put, List.setIfInBounds_toArray, List.set_cons_zero, List.set_cons_succ]
        have gex := hlo
        have lpx := bp.lt (Nat.succ_pos _)
        have lsx := bs.lt (Nat.succ_pos _)
        have lvx := bv.lt (Nat.succ_pos _)
        have l0x := HE.size
        refine absE (fun x5 hx5 => ?_)
        have hx : Ext x4 x5 := by rw [hx5]; exact ((Ext.refl _).alloc _)
        have bx : Bl x5 (x4.heap.size) #[.bool false, .slice none 0 0] := by rw [hx5]; exact (Bl.new (by simp))
        have fx : Fz x5 (x4.heap.size) := by rw [hx5]; exact (Fz.new (by simp))
        replace hlo := Nat.le_trans hlo hx.size
        replace fp := Fz.ext hx fp bp (Nat.succ_pos _)
        replace bp := Bl.ext hx bp (Nat.succ_pos _)
        replace fs := Fz.ext hx fs bs (Nat.succ_pos _)
        replace bs := Bl.ext hx bs (Nat.succ_pos _)
        replace fv := Fz.ext hx fv bv (Nat.succ_pos _)
        replace bv := Bl.ext hx bv (Nat.succ_pos _)
        replace hw1 := hw1.ext hx
        replace hu1 := hu1.ext hx
        replace HE := HE.trans hx
        clear hx
        clear hx5
        refine wpE_l rfl rfl (fun K hK => ?_)
        go_simp
        refine (HV.out _ _ _ _ _ _ _ _ _ hw1 (hu1.wh HM1.out)).mono ?_
        rintro e u4 ⟨a4q, n4q, c4q, a4r, n4r, c4r, rfl, hs4q, hs4r, hx⟩
        refine hK.out _ _ (Below.mono hx hlo) ?_
        clear hK K
        try simp only [Act.put, List.setIfInBounds_toArray, List.set_cons_zero, List.set_cons_succ]
        replace hlo := Nat.le_trans hlo hx.size
        replace fp := Fz.ext hx fp bp (Nat.succ_pos _)
        replace bp := Bl.ext hx bp (Nat.succ_pos _)
        replace fs := Fz.ext hx fs bs (Nat.succ_pos _)
        replace bs := Bl.ext hx bs (Nat.succ_pos _)
        replace fv := Fz.ext hx fv bv (Nat.succ_pos _)
        replace bv := Bl.ext hx bv (Nat.succ_pos _)
        replace fx := Fz.ext hx fx bx (Nat.succ_pos _)
        replace bx := Bl.ext hx bx (Nat.succ_pos _)
        replace hw1 := hw1.ext hx
        replace hu1 := hu1.ext hx
        replace HE := HE.trans hx
        clear hx
        repeat (refine wpE_q (v := ?_) rfl rfl (fun u hu => ?_) ?_; rotate_left 1; (focus (have kp := Bl.low hu bp lop; have ks := Bl.low hu bs los; go_simp; (try rfl))); simp only [Act.put, List.setIfInBounds_toArray, List.set_cons_zero, List.set_cons_succ])
        refine wpE_l rfl rfl (fun K hK => ?_)
        go_simp
        refine hK.out _ _ (((Below.refl _ _).setCell (by show x2.heap.size ≤ x4.heap.size; omega) _).setCell (by show x2.heap.size ≤ x4.heap.size; omega) _) ?_
        clear hK K
        try simp only [Act.put, List.setIfInBounds_toArray, List.set_cons_zero, List.set_cons_succ]
        refine absE (fun x6 hx6 => ?_)
        have hbut : But u4 x6 (x4.heap.size) := by rw [hx6]; exact (But.refl _ _).store.store
        have hbn : Bl x6 (x4.heap.size) #[.bool qb, .slice a4q n4q c4q] := by rw [hx6]; exact (Bl.set (Bl.set bx (by simp)) (by simp))
        replace hw1 := hw1.but bx (not_ints2 nb_bool nb_slice) hbut
        replace hu1 := hu1.but bx (not_ints2 nb_bool nb_slice) hbut
        replace hs4q := hs4q.but bx (not_ints2 nb_bool nb_slice) hbut
        replace hs4r := hs4r.but bx (not_ints2 nb_bool nb_slice) hbut
        replace fp := But.fz hbut fp bp (Nat.succ_pos _) (by omega)
        replace bp := But.bl hbut bp (Nat.succ_pos _) (by omega)
        replace fs := But.fz hbut fs bs (Nat.succ_pos _) (by omega)
        replace bs := But.bl hbut bs (Nat.succ_pos _) (by omega)
        replace fv := But.fz hbut fv bv (Nat.succ_pos _) (by omega)
        replace bv := But.bl hbut bv (Nat.succ_pos _) (by omega)
        replace fx : Fz x6 (x4.heap.size) := by rw [hx6]; exact (Fz.set (Fz.set fx))
        replace HE : Ext w x6 := by rw [hx6]; exact ((HE.store (by show w.heap.size ≤ x4.heap.size; omega) _).store (by show w.heap.size ≤ x4.heap.size; omega) _)
        replace hlo : x2.heap.size ≤ x6.heap.size := Nat.le_trans hlo hbut.1
        clear bx hbut hx6
        have bx := hbn
        clear hbn
        refine wpE_l rfl rfl (fun K hK => ?_)
        go_simp
        refine hK.out _ _ (((Below.refl _ _).setCell (by show x2.heap.size ≤ u3.heap.size; omega) _).setCell (by show x2.heap.size ≤ u3.heap.size; omega) _) ?_
        clear hK K
        try simp only [Act.put, List.setIfInBounds_toArray, List.set_cons_zero, List.set_cons_succ]
        refine absE (fun x7 hx7 => ?_)
        have hbut : But x6 x7 (u3.heap.size) := by rw [hx7]; exact (But.refl _ _).store.store
        have hbn : Bl x7 (u3.heap.size) #[.bool rb, .slice a4r n4r c4r] := by rw [hx7]; exact (Bl.set (Bl.set bv (by simp)) (by simp))
        replace hw1 := hw1.but bv (not_ints2 nb_bool nb_slice) hbut
        replace hu1 := hu1.but bv (not_ints2 nb_bool nb_slice) hbut
        replace hs4q := hs4q.but bv (not_ints2 nb_bool nb_slice) hbut
        replace hs4r := hs4r.but bv (not_ints2 nb_bool nb_slice) hbut
        replace fp := But.fz hbut fp bp (Nat.succ_pos _) (by omega)
        replace bp := But.bl hbut bp (Nat.succ_pos _) (by omega)
        replace fs := But.fz hbut fs bs (Nat.succ_pos _) (by omega)
        replace bs := But.bl hbut bs (Nat.succ_pos _) (by omega)
        replace fx := But.fz hbut fx bx (Nat.succ_pos _) (by omega)
        replace bx := But.bl hbut bx (Nat.succ_pos _) (by omega)
        replace fv : Fz x7 (u3.heap.size) := by rw [hx7]; exact (Fz.set (Fz.set fv))
        replace HE : Ext w x7 := by rw [hx7]; exact ((HE.store (by show w.heap.size ≤ u3.heap.size; omega) _).store (by show w.heap.size ≤ u3.heap.size; omega) _)
        replace hlo : x2.heap.size ≤ x7.heap.size := Nat.le_trans hlo hbut.1
        clear bv hbut hx7
        have bv := hbn
        clear hbn
        repeat (refine wpE_q (v := ?_) rfl rfl (fun u hu => ?_) ?_; rotate_left 1; (focus (have kp := Bl.low hu bp lop; have ks := Bl.low hu bs los; go_simp; (try rfl))); simp only [Act.put, List.setIfInBounds_toArray, List.set_cons_zero, List.set_cons_succ])
        refine wpE_done ?_
        clear hlo
        go_wp2_with fail
        refine absB (fun ue hue => ?_)
        have hbs : Bl ue (w.heap.size + 1) #[.bool qb, .slice a4q n4q c4q] := by rw [hue]; exact ((bs.set (by simp)).set (by simp))
        have hnc : ∀ {aa : Option Addr} {nn cc VV : Nat}, Nc x7 aa nn cc VV → Nc ue aa nn cc VV := fun h => by
          rw [hue]
          exact h.but bs (not_ints2 nb_bool nb_slice) ((But.refl _ _).store.store)
        have heu : Ext w ue := by rw [hue]; exact (HE.store (by show w.heap.size ≤ w.heap.size + 1; omega) _).store (by show w.heap.size ≤ w.heap.size + 1; omega) _
        clear hue
        refine bodyPost_cells rfl rfl Tryz.underlying48 rfl (by kernel_rfl) (bl_two hbs) rfl ?_
        exact RetW.mk rfl HQB.out.symm (hnc hs4q) heu
  refine wpE_br rfl rfl (fun K hK => ?_) ?_
  · go_simp
    refine hK.out _ _ ((Below.refl _ _).alloc hlo _) ?_
    clear hK K
    try simp only [Act.put, List.setIfInBounds_toArray, List.set_cons_zero, List.set_cons_succ]
    have gex := hlo
    have lpx := bp.lt (Nat.succ_pos _)
    have lsx := bs.lt (Nat.succ_pos _)
    have l0x := HE.size
    refine absE (fun x4 hx4 => ?_)
    have hx : Ext x3 x4 := by rw [hx4]; exact ((Ext.refl _).alloc _)
    have bx : Bl x4 (x3.heap.size) #[.bool false, .slice none 0 0] := by rw [hx4]; exact (Bl.new (by simp))
    have fx : Fz x4 (x3.heap.size) := by rw [hx4]; exact (Fz.new (by simp))
    replace hlo := Nat.le_trans hlo hx.size
    replace fp := Fz.ext hx fp bp (Nat.succ_pos _)
    replace bp := Bl.ext hx bp (Nat.succ_pos _)
    replace fs := Fz.ext hx fs bs (Nat.succ_pos _)
    replace bs := Bl.ext hx bs (Nat.succ_pos _)
    replace hw1 := hw1.ext hx
    replace hu1 := hu1.ext hx
    replace HE := HE.trans hx
    clear hx
    clear hx4
    refine wpE_br rfl rfl (fun K hK => ?_) ?_
    · go_simp
      refine (g_up b1 a1 d1 n1 c1 m1 k1 _).mono ?_
      rintro e u3 ⟨rfl, hx⟩
      refine hK.out _ _ (Below.mono hx hlo) ?_
      clear hK K
      try simp only [Act.put, List.setIfInBounds_toArray, List.set_cons_zero, List.set_cons_succ]
      replace hlo := Nat.le_trans hlo hx.size
      replace fp := Fz.ext hx fp bp (Nat.succ_pos _)
      replace bp := Bl.ext hx bp (Nat.succ_pos _)
      replace fs := Fz.ext hx fs bs (Nat.succ_pos _)
      replace bs := Bl.ext hx bs (Nat.succ_pos _)
      replace fx := Fz.ext hx fx bx (Nat.succ_pos _)
      replace bx := Bl.ext hx bx (Nat.succ_pos _)
      replace hw1 := hw1.ext hx
      replace hu1 := hu1.ext hx
      replace HE := HE.trans hx
      clear hx
      refine wpE_br rfl rfl (fun K hK => ?_) ?_
      · go_simp
        refine (HV.out _ _ _ _ _ _ _ _ _ hw1 (hu1.wh HM1.out)).mono ?_
        rintro e u4 ⟨a4q, n4q, c4q, a4r, n4r, c4r, rfl, hs4q, hs4r, hx⟩
        refine hK.out _ _ (Below.mono hx hlo) ?_
        clear hK K
        try simp only [Act.put, List.setIfInBounds_toArray, List.set_cons_zero, List.set_cons_succ]
        replace hlo := Nat.le_trans hlo hx.size
        replace fp := Fz.ext hx fp bp (Nat.succ_pos _)
        replace bp := Bl.ext hx bp (Nat.succ_pos _)
        replace fs := Fz.ext hx fs bs (Nat.succ_pos _)
        replace bs := Bl.ext hx bs (Nat.succ_pos _)
        replace fx := Fz.ext hx fx bx (Nat.succ_pos _)
        replace bx := Bl.ext hx bx (Nat.succ_pos _)
        replace hw1 := hw1.ext hx
        replace hu1 := hu1.ext hx
        replace HE := HE.trans hx
        clear hx
        repeat (refine wpE_q (v := ?_) rfl rfl (fun u hu => ?_) ?_; rotate_left 1; (focus (have kp := Bl.low hu bp lop; have ks := Bl.low hu bs los; go_simp; (try rfl))); simp only [Act.put, List.setIfInBounds_toArray, List.set_cons_zero, List.set_cons_succ])
        refine wpE_l rfl rfl (fun K hK => ?_)
        go_simp
        refine hK.out _ _ ((Below.refl _ _).alloc hlo _) ?_
        clear hK K
        try simp only [Act.put, List.setIfInBounds_toArray, List.set_cons_zero, List.set_cons_succ]
        have gev := hlo
        have lpv := bp.lt (Nat.succ_pos _)
        have lsv := bs.lt (Nat.succ_pos _)
        have lxv := bx.lt (Nat.succ_pos _)
        have l0v := HE.size
        refine absE (fun x5 hx5 => ?_)
        have hx : Ext u4 x5 := by rw [hx5]; exact ((Ext.refl _).alloc _)
        have bv : Bl x5 (u4.heap.size) #[.bool false, .slice none 0 0] := by rw [hx5]; exact (Bl.new (by simp))
        have fv : Fz x5 (u4.heap.size) := by rw [hx5]; exact (Fz.new (by simp))
        replace hlo := Nat.le_trans hlo hx.size
        replace fp := Fz.ext hx fp bp (Nat.succ_pos _)
        replace bp := Bl.ext hx bp (Nat.succ_pos _)
        replace fs := Fz.ext hx fs bs (Nat.succ_pos _)
        replace bs := Bl.ext hx bs (Nat.succ_pos _)
        replace fx := Fz.ext hx fx bx (Nat.succ_pos _)
        replace bx := Bl.ext hx bx (Nat.succ_pos _)
        replace hw1 := hw1.ext hx
        replace hu1 := hu1.ext hx
        replace hs4q := hs4q.ext hx
        replace hs4r := hs4r.ext hx
        replace HE := HE.trans hx
        clear hx
        clear hx5
        refine wpE_l rfl rfl (fun K hK => ?_)
        go_simp
        refine hK.out _ _ (((Below.refl _ _).setCell (by show x2.heap.size ≤ x3.heap.size; omega) _).setCell (by show x2.heap.size ≤ x3.heap.size; omega) _) ?_
        clear hK K
        try simp only [Act.put, List.setIfInBounds_toArray, List.set_cons_zero, List.set_cons_succ]
        refine absE (fun x6 hx6 => ?_)
        have hbut : But x5 x6 (x3.heap.size) := by rw [hx6]; exact (But.refl _ _).store.store
        have hbn : Bl x6 (x3.heap.size) #[.bool qb, .slice a4q n4q c4q] := by rw [hx6]; exact (Bl.set (Bl.set bx (by simp)) (by simp))
        replace hw1 := hw1.but bx (not_ints2 nb_bool nb_slice) hbut
        replace hu1 := hu1.but bx (not_ints2 nb_bool nb_slice) hbut
        replace hs4q := hs4q.but bx (not_ints2 nb_bool nb_slice) hbut
        replace hs4r := hs4r.but bx (not_ints2 nb_bool nb_slice) hbut
        replace fp := But.fz hbut fp bp (Nat.succ_pos _) (by omega)
        replace bp := But.bl hbut bp (Nat.succ_pos _) (by omega)
        replace fs := But.fz hbut fs bs (Nat.succ_pos _) (by omega)
        replace bs := But.bl hbut bs (Nat.succ_pos _) (by omega)
        replace fv := But.fz hbut fv bv (Nat.succ_pos _) (by omega)
        replace bv := But.bl hbut bv (Nat.succ_pos _) (by omega)
        replace fx : Fz x6 (x3.heap.size) := by rw [hx6]; exact (Fz.set (Fz.set fx))
        replace HE : Ext w x6 := by rw [hx6]; exact ((HE.store (by show w.heap.size ≤ x3.heap.size; omega) _).store (by show w.heap.size ≤ x3.heap.size; omega) _)
        replace hlo : x2.heap.size ≤ x6.heap.size := Nat.le_trans hlo hbut.1
        clear bx hbut hx6
        have bx := hbn
        clear hbn
        refine wpE_l rfl rfl (fun K hK => ?_)
        go_simp
        refine hK.out _ _ (((Below.refl _ _).setCell (by show x2.heap.size ≤ u4.heap.size; omega) _).setCell (by show x2.heap.size ≤ u4.heap.size; omega) _) ?_
        clear hK K
        try simp only [Act.put, List.setIfInBounds_toArray, List.set_cons_zero, List.set_cons_succ]
        refine absE (fun x7 hx7 => ?_)
        have hbut : But x6 x7 (u4.heap.size) := by rw [hx7]; exact (But.refl _ _).store.store
        have hbn : Bl x7 (u4.heap.size) #[.bool rb, .slice a4r n4r c4r] := by rw [hx7]; exact (Bl.set (Bl.set bv (by simp)) (by simp))
        replace hw1 := hw1.but bv (not_ints2 nb_bool nb_slice) hbut
        replace hu1 := hu1.but bv (not_ints2 nb_bool nb_slice) hbut
        replace hs4q := hs4q.but bv (not_ints2 nb_bool nb_slice) hbut
        replace hs4r := hs4r.but bv (not_ints2 nb_bool nb_slice) hbut
        replace fp := But.fz hbut fp bp (Nat.succ_pos _) (by omega)
        replace bp := But.bl hbut bp (Nat.succ_pos _) (by omega)
        replace fs := But.fz hbut fs bs (Nat.succ_pos _) (by omega)
        replace bs := But.bl hbut bs (Nat.succ_pos _) (by omega)
        replace fx := But.fz hbut fx bx (Nat.succ_pos _) (by omega)
        replace bx := But.bl hbut bx (Nat.succ_pos _) (by omega)
        replace fv : Fz x7 (u4.heap.size) := by rw [hx7]; exact (Fz.set (Fz.set fv))
        replace HE : Ext w x7 := by rw [hx7]; exact ((HE.store (by show w.heap.size ≤ u4.heap.size; omega) _).store (by show w.heap.size ≤ u4.heap.size; omega) _)
        replace hlo : x2.heap.size ≤ x7.heap.size := Nat.le_trans hlo hbut.1
        clear bv hbut hx7
        have bv := hbn
        clear hbn
        repeat (refine wpE_q (v := ?_) rfl rfl (fun u hu => ?_) ?_; rotate_left 1; (focus (have kp := Bl.low hu bp lop; have ks := Bl.low hu bs los; go_simp; (try rfl))); simp only [Act.put, List.setIfInBounds_toArray, List.set_cons_zero, List.set_cons_succ])
        refine wpE_done ?_
        clear hlo
        go_wp2_with fail
        refine absB (fun ue hue => ?_)
        have hbs : Bl ue (w.heap.size + 1) #[.bool qb, .slice a4q n4q c4q] := by rw [hue]; exact ((bs.set (by simp)).set (by simp))
        have hnc : ∀ {aa : Option Addr} {nn cc VV : Nat}, Nc x7 aa nn cc VV → Nc ue aa nn cc VV := fun h => by
          rw [hue]
          exact h.but bs (not_ints2 nb_bool nb_slice) ((But.refl _ _).store.store)
        have heu : Ext w ue := by rw [hue]; exact (HE.store (by show w.heap.size ≤ w.heap.size + 1; omega) _).store (by show w.heap.size ≤ w.heap.size + 1; omega) _
        clear hue
        refine bodyPost_cells rfl rfl Tryz.underlying48 rfl (by kernel_rfl) (bl_two hbs) rfl ?_
        exact RetW.mk rfl HQB.out.symm (hnc hs4q) heu
      · refine wpE_l rfl rfl (fun K hK => ?_)
        go_simp
        refine hK.out _ _ ((Below.refl _ _).alloc hlo _) ?_
        clear hK K
        try simp only [Act.put, List.setIfInBounds_toArray, List.set_cons_zero, List.set_cons_succ]
        have gev := hlo
        have lpv := bp.lt (Nat.succ_pos _)
        have lsv := bs.lt (Nat.succ_pos _)
        have lxv := bx.lt (Nat.succ_pos _)
        have l0v := HE.size
        refine absE (fun x5 hx5 => ?_)
        have hx : Ext u3 x5 := by rw [hx5]; exact ((Ext.refl _).alloc _)
        have bv : Bl x5 (u3.heap.size) #[.bool false, .slice none 0 0] := by rw [hx5]; exact (Bl.new (by simp))
        have fv : Fz x5 (u3.heap.size) := by rw [hx5]; exact (Fz.new (by simp))
        replace hlo := Nat.le_trans hlo hx.size
        replace fp := Fz.ext hx fp bp (Nat.succ_pos _)
        replace bp := Bl.ext hx bp (Nat.succ_pos _)
        replace fs := Fz.ext hx fs bs (Nat.succ_pos _)
        replace bs := Bl.ext hx bs (Nat.succ_pos _)
        replace fx := Fz.ext hx fx bx (Nat.succ_pos _)
        replace bx := Bl.ext hx bx (Nat.succ_pos _)
        replace hw1 := hw1.ext hx
        replace hu1 := hu1.ext hx
        replace HE := HE.trans hx
        clear hx
        clear hx5
        refine wpE_l rfl rfl (fun K hK => ?_)
        go_simp
        refine (HV.out _ _ _ _ _ _ _ _ _ hw1 (hu1.wh HM1.out)).mono ?_
        rintro e u4 ⟨a4q, n4q, c4q, a4r, n4r, c4r, rfl, hs4q, hs4r, hx⟩
        refine hK.out _ _ (Below.mono hx hlo) ?_
        clear hK K
        try simp only [Act.put, List.setIfInBounds_toArray, List.set_cons_zero, List.set_cons_succ]
        replace hlo := Nat.le_trans hlo hx.size
        replace fp := Fz.ext hx fp bp (Nat.succ_pos _)
        replace bp := Bl.ext hx bp (Nat.succ_pos _)
        replace fs := Fz.ext hx fs bs (Nat.succ_pos _)
        replace bs := Bl.ext hx bs (Nat.succ_pos _)
        replace fx := Fz.ext hx fx bx (Nat.succ_pos _)
        replace bx := Bl.ext hx bx (Nat.succ_pos _)
        replace fv := Fz.ext hx fv bv (Nat.succ_pos _)
        replace bv := Bl.ext hx bv (Nat.succ_pos _)
        replace hw1 := hw1.ext hx
        replace hu1 := hu1.ext hx
        replace HE := HE.trans hx
        clear hx
        repeat (refine wpE_q (v := ?_) rfl rfl (fun u hu => ?_) ?_; rotate_left 1; (focus (have kp := Bl.low hu bp lop; have ks := Bl.low hu bs los; go_simp; (try rfl))); simp only [Act.put, List.setIfInBounds_toArray, List.set_cons_zero, List.set_cons_succ])
        refine wpE_l rfl rfl (fun K hK => ?_)
        go_simp
        refine hK.out _ _ (((Below.refl _ _).setCell (by show x2.heap.size ≤ x3.heap.size; omega) _).setCell (by show x2.heap.size ≤ x3.heap.size; omega) _) ?_
        clear hK K
        try simp only [Act.put, List.setIfInBounds_toArray, List.set_cons_zero, List.set_cons_succ]
        refine absE (fun x6 hx6 => ?_)
        have hbut : But u4 x6 (x3.heap.size) := by rw [hx6]; exact (But.refl _ _).store.store
        have hbn : Bl x6 (x3.heap.size) #[.bool qb, .slice a4q n4q c4q] := by rw [hx6]; exact (Bl.set (Bl.set bx (by simp)) (by simp))
        replace hw1 := hw1.but bx (not_ints2 nb_bool nb_slice) hbut
        replace hu1 := hu1.but bx (not_ints2 nb_bool nb_slice) hbut
        replace hs4q := hs4q.but bx (not_ints2 nb_bool nb_slice) hbut
        replace hs4r := hs4r.but bx (not_ints2 nb_bool nb_slice) hbut
        replace fp := But.fz hbut fp bp (Nat.succ_pos _) (by omega)
        replace bp := But.bl hbut bp (Nat.succ_pos _) (by omega)
        replace fs := But.fz hbut fs bs (Nat.succ_pos _) (by omega)
        replace bs := But.bl hbut bs (Nat.succ_pos _) (by omega)
        replace fv := But.fz hbut fv bv (Nat.succ_pos _) (by omega)
        replace bv := But.bl hbut bv (Nat.succ_pos _) (by omega)
        replace fx : Fz x6 (x3.heap.size) := by rw [hx6]; exact (Fz.set (Fz.set fx))
        replace HE : Ext w x6 := by rw [hx6]; exact ((HE.store (by show w.heap.size ≤ x3.heap.size; omega) _).store (by show w.heap.size ≤ x3.heap.size; omega) _)
        replace hlo : x2.heap.size ≤ x6.heap.size := Nat.le_trans hlo hbut.1
        clear bx hbut hx6
        have bx := hbn
        clear hbn
        refine wpE_l rfl rfl (fun K hK => ?_)
        go_simp
        refine hK.out _ _ (((Below.refl _ _).setCell (by show x2.heap.size ≤ u3.heap.size; omega) _).setCell (by show x2.heap.size ≤ u3.heap.size; omega) _) ?_
        clear hK K
        try simp only [Act.put, List.setIfInBounds_toArray, List.set_cons_zero, List.set_cons_succ]
        refine absE (fun x7 hx7 => ?_)
        have hbut : But x6 x7 (u3.heap.size) := by rw [hx7]; exact (But.refl _ _).store.store
        have hbn : Bl x7 (u3.heap.size) #[.bool rb, .slice a4r n4r c4r] := by rw [hx7]; exact (Bl.set (Bl.set bv (by simp)) (by simp))
        replace hw1 := hw1.but bv (not_ints2 nb_bool nb_slice) hbut
        replace hu1 := hu1.but bv (not_ints2 nb_bool nb_slice) hbut
        replace hs4q := hs4q.but bv (not_ints2 nb_bool nb_slice) hbut
        replace hs4r := hs4r.but bv (not_ints2 nb_bool nb_slice) hbut
        replace fp := But.fz hbut fp bp (Nat.succ_pos _) (by omega)
        replace bp := But.bl hbut bp (Nat.succ_pos _) (by omega)
        replace fs := But.fz hbut fs bs (Nat.succ_pos _) (by omega)
        replace bs := But.bl hbut bs (Nat.succ_pos _) (by omega)
        replace fx := But.fz hbut fx bx (Nat.succ_pos _) (by omega)
        replace bx := But.bl hbut bx (Nat.succ_pos _) (by omega)
        replace fv : Fz x7 (u3.heap.size) := by rw [hx7]; exact (Fz.set (Fz.set fv))
        replace HE : Ext w x7 := by rw [hx7]; exact ((HE.store (by show w.heap.size ≤ u3.heap.size; omega) _).store (by show w.heap.size ≤ u3.heap.size; omega) _)
        replace hlo : x2.heap.size ≤ x7.heap.size := Nat.le_trans hlo hbut.1
        clear bv hbut hx7
        have bv := hbn
        clear hbn
        repeat (refine wpE_q (v := ?_) rfl rfl (fun u hu => ?_) ?_; rotate_left 1; (focus (have kp := Bl.low hu bp lop; have ks := Bl.low hu bs los; go_simp; (try rfl))); simp only [Act.put, List.setIfInBounds_toArray, List.set_cons_zero, List.set_cons_succ])
        refine wpE_done ?_
        clear hlo
        go_wp2_with fail
        refine absB (fun ue hue => ?_)
        have hbs : Bl ue (w.heap.size + 1) #[.bool qb, .slice a4q n4q c4q] := by rw [hue]; exact ((bs.set (by simp)).set (by simp))
        have hnc : ∀ {aa : Option Addr} {nn cc VV : Nat}, Nc x7 aa nn cc VV → Nc ue aa nn cc VV := fun h => by
          rw [hue]
          exact h.but bs (not_ints2 nb_bool nb_slice) ((But.refl _ _).store.store)
        have heu : Ext w ue := by rw [hue]; exact (HE.store (by show w.heap.size ≤ w.heap.size + 1; omega) _).store (by show w.heap.size ≤ w.heap.size + 1; omega) _
        clear hue
        refine bodyPost_cells rfl rfl Tryz.underlying48 rfl (by kernel_rfl) (bl_two hbs) rfl ?_
        exact RetW.mk rfl HQB.out.symm (hnc hs4q) heu
    · refine wpE_l rfl rfl (fun K hK => ?_)
      go_simp
      refine hK.out _ _ ((Below.refl _ _).alloc hlo _) ?_
      clear hK K
      try simp only [Act.put, List.setIfInBounds_toArray, List.set_cons_zero, List.set_cons_succ]
      have gev := hlo
      have lpv := bp.lt (Nat.succ_pos _)
      have lsv := bs.lt (Nat.succ_pos _)
      have lxv := bx.lt (Nat.succ_pos _)
      have l0v := HE.size
      refine absE (fun x5 hx5 => ?_)
      have hx : Ext x4 x5 := by rw [hx5]; exact ((Ext.refl _).alloc _)
      have bv : Bl x5 (x4.heap.size) #[.bool false, .slice none 0 0] := by rw [hx5]; exact (Bl.new (by simp))
      have fv : Fz x5 (x4.heap.size) := by rw [hx5]; exact (Fz.new (by simp))
      replace hlo := Nat.le_trans hlo hx.size
      replace fp := Fz.ext hx fp bp (Nat.succ_pos _)
      replace bp := Bl.ext hx bp (Nat.succ_pos _)
      replace fs := Fz.ext hx fs bs (Nat.succ_pos _)
      replace bs := Bl.ext hx bs (Nat.succ_pos _)
      replace fx := Fz.ext hx fx bx (Nat.succ_pos _)
      replace bx := Bl.ext hx bx (Nat.succ_pos _)
      replace hw1 := hw1.ext hx
      replace hu1 := hu1.ext hx
      replace HE := HE.trans hx
      clear hx
      clear hx5
      refine wpE_l rfl rfl (fun K hK => ?_)
      go_simp
      refine (g_up b1 a1 d1 n1 c1 m1 k1 _).mono ?_
      rintro e u3 ⟨rfl, hx⟩
      refine hK.out _ _ (Below.mono hx hlo) ?_
      clear hK K
      try simp only [Act.put, List.setIfInBounds_toArray, List.set_cons_zero, List.set_cons_succ]
      replace hlo := Nat.le_trans hlo hx.size
      replace fp := Fz.ext hx fp bp (Nat.succ_pos _)
      replace bp := Bl.ext hx bp (Nat.succ_pos _)
      replace fs := Fz.ext hx fs bs (Nat.succ_pos _)
      replace bs := Bl.ext hx bs (Nat.succ_pos _)
      replace fx := Fz.ext hx fx bx (Nat.succ_pos _)
      replace bx := Bl.ext hx bx (Nat.succ_pos _)
      replace fv := Fz.ext hx fv bv (Nat.succ_pos _)
      replace bv := Bl.ext hx bv (Nat.succ_pos _)
      replace hw1 := hw1.ext hx
      replace hu1 := hu1.ext hx
      replace HE := HE.trans hx
      clear hx
      refine wpE_l rfl rfl (fun K hK => ?_)
      go_simp
      refine (HV.out _ _ _ _ _ _ _ _ _ hw1 (hu1.wh HM1.out)).mono ?_
      rintro e u4 ⟨a4q, n4q, c4q, a4r, n4r, c4r, rfl, hs4q, hs4r, hx⟩
      refine hK.out _ _ (Below.mono hx hlo) ?_
      clear hK K
      try simp only [Act.put, List.setIfInBounds_toArray, List.set_cons_zero, List.set_cons_succ]
      replace hlo := Nat.le_trans hlo hx.size
      replace fp := Fz.ext hx fp bp (Nat.succ_pos _)
      replace bp := Bl.ext hx bp (Nat.succ_pos _)
      replace fs := Fz.ext hx fs bs (Nat.succ_pos _)
      replace bs := Bl.ext hx bs (Nat.succ_pos _)
      replace fx := Fz.ext hx fx bx (Nat.succ_pos _)
      replace bx := Bl.ext hx bx (Nat.succ_pos _)
      replace fv := Fz.ext hx fv bv (Nat.succ_pos _)
      replace bv := Bl.ext hx bv (Nat.succ_pos _)
      replace hw1 := hw1.ext hx
      replace hu1 := hu1.ext hx
      replace HE := HE.trans hx
      clear hx
      repeat (refine wpE_q (v := ?_) rfl rfl (fun u hu => ?_) ?_; rotate_left 1; (focus (have kp := Bl.low hu bp lop; have ks := Bl.low hu bs los; go_simp; (try rfl))); simp only [Act.put, List.setIfInBounds_toArray, List.set_cons_zero, List.set_cons_succ])
      refine wpE_l rfl rfl (fun K hK => ?_)
      go_simp
      refine hK.out _ _ (((Below.refl _ _).setCell (by show x2.heap.size ≤ x3.heap.size; omega) _).setCell (by show x2.heap.size ≤ x3.heap.size; omega) _) ?_
      clear hK K
      try simp only [Act.put, List.setIfInBounds_toArray, List.set_cons_zero, List.set_cons_succ]
      refine absE (fun x6 hx6 => ?_)
      have hbut : But u4 x6 (x3.heap.size) := by rw [hx6]; exact (But.refl _ _).store.store
      have hbn : Bl x6 (x3.heap.size) #[.bool qb, .slice a4q n4q c4q] := by rw [hx6]; exact (Bl.set (Bl.set bx (by simp)) (by simp))
      replace hw1 := hw1.but bx (not_ints2 nb_bool nb_slice) hbut
      replace hu1 := hu1.but bx (not_ints2 nb_bool nb_slice) hbut
      replace hs4q := hs4q.but bx (not_ints2 nb_bool nb_slice) hbut
      replace hs4r := hs4r.but bx (not_ints2 nb_bool nb_slice) hbut
      replace fp := But.fz hbut fp bp (Nat.succ_pos _) (by omega)
      replace bp := But.bl hbut bp (Nat.succ_pos _) (by omega)
      replace fs := But.fz hbut fs bs (Nat.succ_pos _) (by omega)
      replace bs := But.bl hbut bs (Nat.succ_pos _) (by omega)
      replace fv := But.fz hbut fv bv (Nat.succ_pos _) (by omega)
      replace bv := But.bl hbut bv (Nat.succ_pos _) (by omega)
      replace fx : Fz x6 (x3.heap.size) := by rw [hx6]; exact (Fz.set (Fz.set fx))
      replace HE : Ext w x6 := by rw [hx6]; exact ((HE.store (by show w.heap.size ≤ x3.heap.size; omega) _).store (by show w.heap.size ≤ x3.heap.size; omega) _)
      replace hlo : x2.heap.size ≤ x6.heap.size := Nat.le_trans hlo hbut.1
      clear bx hbut hx6
      have bx := hbn
      clear hbn
      refine wpE_l rfl rfl (fun K hK => ?_)
      go_simp
      refine hK.out _ _ (((Below.refl _ _).setCell (by show x2.heap.size ≤ x4.heap.size; omega) _).setCell (by show x2.heap.size ≤ x4.heap.size; omega) _) ?_
      clear hK K
      try simp only [Act.put, List.setIfInBounds_toArray, List.set_cons_zero, List.set_cons_succ]
      refine absE (fun x7 hx7 => ?_)
      have hbut : But x6 x7 (x4.heap.size) := by rw [hx7]; exact (But.refl _ _).store.store
      have hbn : Bl x7 (x4.heap.size) #[.bool rb, .slice a4r n4r c4r] := by rw [hx7]; exact (Bl.set (Bl.set bv (by simp)) (by simp))
      replace hw1 := hw1.but bv (not_ints2 nb_bool nb_slice) hbut
      replace hu1 := hu1.but bv (not_ints2 nb_bool nb_slice) hbut
      replace hs4q := hs4q.but bv (not_ints2 nb_bool nb_slice) hbut
      replace hs4r := hs4r.but bv (not_ints2 nb_bool nb_slice) hbut
      replace fp := But.fz hbut fp bp (Nat.succ_pos _) (by omega)
      replace bp := But.bl hbut bp (Nat.succ_pos _) (by omega)
      replace fs := But.fz hbut fs bs (Nat.succ_pos _) (by omega)
      replace bs := But.bl hbut bs (Nat.succ_pos _) (by omega)
      replace fx := But.fz hbut fx bx (Nat.succ_pos _) (by omega)
      replace bx := But.bl hbut bx (Nat.succ_pos _) (by omega)
      replace fv : Fz x7 (x4.heap.size) := by rw [hx7]; exact (Fz.set (Fz.set fv))
      replace HE : Ext w x7 := by rw [hx7]; exact ((HE.store (by show w.heap.size ≤ x4.heap.size; omega) _).store (by show w.heap.size ≤ x4.heap.size; omega) _)
      replace hlo : x2.heap.size ≤ x7.heap.size := Nat.le_trans hlo hbut.1
      clear bv hbut hx7
      have bv := hbn
      clear hbn
      repeat (refine wpE_q (v := ?_) rfl rfl (fun u hu => ?_) ?_; rotate_left 1; (focus (have kp := Bl.low hu bp lop; have ks := Bl.low hu bs los; go_simp; (try rfl))); simp only [Act.put, List.setIfInBounds_toArray, List.set_cons_zero, List.set_cons_succ])
      refine wpE_done ?_
      clear hlo
      go_wp2_with fail
      refine absB (fun ue hue => ?_)
      have hbs : Bl ue (w.heap.size + 1) #[.bool qb, .slice a4q n4q c4q] := by rw [hue]; exact ((bs.set (by simp)).set (by simp))
      have hnc : ∀ {aa : Option Addr} {nn cc VV : Nat}, Nc x7 aa nn cc VV → Nc ue aa nn cc VV := fun h => by
        rw [hue]
        exact h.but bs (not_ints2 nb_bool nb_slice) ((But.refl _ _).store.store)
      have heu : Ext w ue := by rw [hue]; exact (HE.store (by show w.heap.size ≤ w.heap.size + 1; omega) _).store (by show w.heap.size ≤ w.heap.size + 1; omega) _
      clear hue
      refine bodyPost_cells rfl rfl Tryz.underlying48 rfl (by kernel_rfl) (bl_two hbs) rfl ?_
      exact RetW.mk rfl HQB.out.symm (hnc hs4q) heu
  · refine wpE_l rfl rfl (fun K hK => ?_)
    go_simp
    refine hK.out _ _ ((Below.refl _ _).alloc hlo _) ?_
    clear hK K
    try simp only [Act.put, List.setIfInBounds_toArray, List.set_cons_zero, List.set_cons_succ]
    have gev := hlo
    have lpv := bp.lt (Nat.succ_pos _)
    have lsv := bs.lt (Nat.succ_pos _)
    have l0v := HE.size
    refine absE (fun x4 hx4 => ?_)
    have hx : Ext x3 x4 := by rw [hx4]; exact ((Ext.refl _).alloc _)
    have bv : Bl x4 (x3.heap.size) #[.bool false, .slice none 0 0] := by rw [hx4]; exact (Bl.new (by simp))
    have fv : Fz x4 (x3.heap.size) := by rw [hx4]; exact (Fz.new (by simp))
    replace hlo := Nat.le_trans hlo hx.size
    replace fp := Fz.ext hx fp bp (Nat.succ_pos _)
    replace bp := Bl.ext hx bp (Nat.succ_pos _)
    replace fs := Fz.ext hx fs bs (Nat.succ_pos _)
    replace bs := Bl.ext hx bs (Nat.succ_pos _)
    replace hw1 := hw1.ext hx
    replace hu1 := hu1.ext hx
    replace HE := HE.trans hx
    clear hx
    clear hx4
    refine wpE_br rfl rfl (fun K hK => ?_) ?_
    · go_simp
      refine (g_up b1 a1 d1 n1 c1 m1 k1 _).mono ?_
      rintro e u3 ⟨rfl, hx⟩
      refine hK.out _ _ (Below.mono hx hlo) ?_
      clear hK K
      try simp only [Act.put, List.setIfInBounds_toArray, List.set_cons_zero, List.set_cons_succ]
      replace hlo := Nat.le_trans hlo hx.size
      replace fp := Fz.ext hx fp bp (Nat.succ_pos _)
      replace bp := Bl.ext hx bp (Nat.succ_pos _)
      replace fs := Fz.ext hx fs bs (Nat.succ_pos _)
      replace bs := Bl.ext hx bs (Nat.succ_pos _)
      replace fv := Fz.ext hx fv bv (Nat.succ_pos _)
      replace bv := Bl.ext hx bv (Nat.succ_pos _)
      replace hw1 := hw1.ext hx
      replace hu1 := hu1.ext hx
      replace HE := HE.trans hx
      clear hx
      refine wpE_br rfl rfl (fun K hK => ?_) ?_
      · go_simp
        refine (HV.out _ _ _ _ _ _ _ _ _ hw1 (hu1.wh HM1.out)).mono ?_
        rintro e u4 ⟨a4q, n4q, c4q, a4r, n4r, c4r, rfl, hs4q, hs4r, hx⟩
        refine hK.out _ _ (Below.mono hx hlo) ?_
        clear hK K
        try simp only [Act.put, List.setIfInBounds_toArray, List.set_cons_zero, List.set_cons_succ]
        replace hlo := Nat.le_trans hlo hx.size
        replace fp := Fz.ext hx fp bp (Nat.succ_pos _)
        replace bp := Bl.ext hx bp (Nat.succ_pos _)
        replace fs := Fz.ext hx fs bs (Nat.succ_pos _)
        replace bs := Bl.ext hx bs (Nat.succ_pos _)
        replace fv := Fz.ext hx fv bv (Nat.succ_pos _)
        replace bv := Bl.ext hx bv (Nat.succ_pos _)
        replace hw1 := hw1.ext hx
        replace hu1 := hu1.ext hx
        replace HE := HE.trans hx
        clear hx
        repeat (refine wpE_q (v := ?_) rfl rfl (fun u hu => ?_) ?_; rotate_left 1; (focus (have kp := Bl.low hu bp lop; have ks := Bl.low hu bs los; go_simp; (try rfl))); simp only [Act.put, List.setIfInBounds_toArray, List.set_cons_zero, List.set_cons_succ])
        refine wpE_l rfl rfl (fun K hK => ?_)
        go_simp
        refine hK.out _ _ ((Below.refl _ _).alloc hlo _) ?_
        clear hK K
        try simp only [Act.put, List.setIfInBounds_toArray, List.set_cons_zero, List.set_cons_succ]
        have gex := hlo
        have lpx := bp.lt (Nat.succ_pos _)
        have lsx := bs.lt (Nat.succ_pos _)
        have lvx := bv.lt (Nat.succ_pos _)
        have l0x := HE.size
        refine absE (fun x5 hx5 => ?_)
        have hx : Ext u4 x5 := by rw [hx5]; exact ((Ext.refl _).alloc _)
        have bx : Bl x5 (u4.heap.size) #[.bool false, .slice none 0 0] := by rw [hx5]; exact (Bl.new (by simp))
        have fx : Fz x5 (u4.heap.size) := by rw [hx5]; exact (Fz.new (by simp))
        replace hlo := Nat.le_trans hlo hx.size
        replace fp := Fz.ext hx fp bp (Nat.succ_pos _)
        replace bp := Bl.ext hx bp (Nat.succ_pos _)
        replace fs := Fz.ext hx fs bs (Nat.succ_pos _)
        replace bs := Bl.ext hx bs (Nat.succ_pos _)
        replace fv := Fz.ext hx fv bv (Nat.succ_pos _)
        replace bv := Bl.ext hx bv (Nat.succ_pos _)
        replace hw1 := hw1.ext hx
        replace hu1 := hu1.ext hx
        replace hs4q := hs4q.ext hx
        replace hs4r := hs4r.ext hx
        replace HE := HE.trans hx
        clear hx
        clear hx5
        refine wpE_l rfl rfl (fun K hK => ?_)
        go_simp
        refine hK.out _ _ (((Below.refl _ _).setCell (by show x2.heap.size ≤ u4.heap.size; omega) _).setCell (by show x2.heap.size ≤ u4.heap.size; omega) _) ?_
        clear hK K
        try simp only [Act.put, List.setIfInBounds_toArray, List.set_cons_zero, List.set_cons_succ]
        refine absE (fun x6 hx6 => ?_)
        have hbut : But x5 x6 (u4.heap.size) := by rw [hx6]; exact (But.refl _ _).store.store
        have hbn : Bl x6 (u4.heap.size) #[.bool qb, .slice a4q n4q c4q] := by rw [hx6]; exact (Bl.set (Bl.set bx (by simp)) (by simp))
        replace hw1 := hw1.but bx (not_ints2 nb_bool nb_slice) hbut
        replace hu1 := hu1.but bx (not_ints2 nb_bool nb_slice) hbut
        replace hs4q := hs4q.but bx (not_ints2 nb_bool nb_slice) hbut
        replace hs4r := hs4r.but bx (not_ints2 nb_bool nb_slice) hbut
        replace fp := But.fz hbut fp bp (Nat.succ_pos _) (by omega)
        replace bp := But.bl hbut bp (Nat.succ_pos _) (by omega)
        replace fs := But.fz hbut fs bs (Nat.succ_pos _) (by omega)
        replace bs := But.bl hbut bs (Nat.succ_pos _) (by omega)
        replace fv := But.fz hbut fv bv (Nat.succ_pos _) (by omega)
        replace bv := But.bl hbut bv (Nat.succ_pos _) (by omega)
        replace fx : Fz x6 (u4.heap.size) := by rw [hx6]; exact (Fz.set (Fz.set fx))
        replace HE : Ext w x6 := by rw [hx6]; exact ((HE.store (by show w.heap.size ≤ u4.heap.size; omega) _).store (by show w.heap.size ≤ u4.heap.size; omega) _)
        replace hlo : x2.heap.size ≤ x6.heap.size := Nat.le_trans hlo hbut.1
        clear bx hbut hx6
        have bx := hbn
        clear hbn
        refine wpE_l rfl rfl (fun K hK => ?_)
        go_simp
        refine hK.out _ _ (((Below.refl _ _).setCell (by show x2.heap.size ≤ x3.heap.size; omega) _).setCell (by show x2.heap.size ≤ x3.heap.size; omega) _) ?_
        clear hK K
        try simp only [Act.put, List.setIfInBounds_toArray, List.set_cons_zero, List.set_cons_succ]
        refine absE (fun x7 hx7 => ?_)
        have hbut : But x6 x7 (x3.heap.size) := by rw [hx7]; exact (But.refl _ _).store.store
        have hbn : Bl x7 (x3.heap.size) #[.bool rb, .slice a4r n4r c4r] := by rw [hx7]; exact (Bl.set (Bl.set bv (by simp)) (by simp))
        replace hw1 := hw1.but bv (not_ints2 nb_bool nb_slice) hbut
        replace hu1 := hu1.but bv (not_ints2 nb_bool nb_slice) hbut
        replace hs4q := hs4q.but bv (not_ints2 nb_bool nb_slice) hbut
        replace hs4r := hs4r.but bv (not_ints2 nb_bool nb_slice) hbut
        replace fp := But.fz hbut fp bp (Nat.succ_pos _) (by omega)
        replace bp := But.bl hbut bp (Nat.succ_pos _) (by omega)
        replace fs := But.fz hbut fs bs (Nat.succ_pos _) (by omega)
        replace bs := But.bl hbut bs (Nat.succ_pos _) (by omega)
        replace fx := But.fz hbut fx bx (Nat.succ_pos _) (by omega)
        replace bx := But.bl hbut bx (Nat.succ_pos _) (by omega)
        replace fv : Fz x7 (x3.heap.size) := by rw [hx7]; exact (Fz.set (Fz.set fv))
        replace HE : Ext w x7 := by rw [hx7]; exact ((HE.store (by show w.heap.size ≤ x3.heap.size; omega) _).store (by show w.heap.size ≤ x3.heap.size; omega) _)
        replace hlo : x2.heap.size ≤ x7.heap.size := Nat.le_trans hlo hbut.1
        clear bv hbut hx7
        have bv := hbn
        clear hbn
        repeat (refine wpE_q (v := ?_) rfl rfl (fun u hu => ?_) ?_; rotate_left 1; (focus (have kp := Bl.low hu bp lop; have ks := Bl.low hu bs los; go_simp; (try rfl))); simp only [Act.put, List.setIfInBounds_toArray, List.set_cons_zero, List.set_cons_succ])
        refine wpE_done ?_
        clear hlo
        go_wp2_with fail
        refine absB (fun ue hue => ?_)
        have hbs : Bl ue (w.heap.size + 1) #[.bool qb, .slice a4q n4q c4q] := by rw [hue]; exact ((bs.set (by simp)).set (by simp))
        have hnc : ∀ {aa : Option Addr} {nn cc VV : Nat}, Nc x7 aa nn cc VV → Nc ue aa nn cc VV := fun h => by
          rw [hue]
          exact h.but bs (not_ints2 nb_bool nb_slice) ((But.refl _ _).store.store)
        have heu : Ext w ue := by rw [hue]; exact (HE.store (by show w.heap.size ≤ w.heap.size + 1; omega) _).store (by show w.heap.size ≤ w.heap.size + 1; omega) _
        clear hue
        refine bodyPost_cells rfl rfl Tryz.underlying48 rfl (by kernel_rfl) (bl_two hbs) rfl ?_
        exact RetW.mk rfl HQB.out.symm (hnc hs4q) heu
      · refine wpE_l rfl rfl (fun K hK => ?_)
        go_simp
        refine hK.out _ _ ((Below.refl _ _).alloc hlo _) ?_
        clear hK K
        try simp only [Act.put, List.setIfInBounds_toArray, List.set_cons_zero, List.set_cons_succ]
        have gex := hlo
        have lpx := bp.lt (Nat.succ_pos _)
        have lsx := bs.lt (Nat.succ_pos _)
        have lvx := bv.lt (Nat.succ_pos _)
        have l0x := HE.size
        refine absE (fun x5 hx5 => ?_)
        have hx : Ext u3 x5 := by rw [hx5]; exact ((Ext.refl _).alloc _)
        have bx : Bl x5 (u3.heap.size) #[.bool false, .slice none 0 0] := by rw [hx5]; exact (Bl.new (by simp))
        have fx : Fz x5 (u3.heap.size) := by rw [hx5]; exact (Fz.new (by simp))
        replace hlo := Nat.le_trans hlo hx.size
        replace fp := Fz.ext hx fp bp (Nat.succ_pos _)
        replace bp := Bl.ext hx bp (Nat.succ_pos _)
        replace fs := Fz.ext hx fs bs (Nat.succ_pos _)
        replace bs := Bl.ext hx bs (Nat.succ_pos _)
        replace fv := Fz.ext hx fv bv (Nat.succ_pos _)
        replace bv := Bl.ext hx bv (Nat.succ_pos _)
        replace hw1 := hw1.ext hx
        replace hu1 := hu1.ext hx
        replace HE := HE.trans hx
        clear hx
        clear hx5
        refine wpE_l rfl rfl (fun K hK => ?_)
        go_simp
        refine (HV.out _ _ _ _ _ _ _ _ _ hw1 (hu1.wh HM1.out)).mono ?_
        rintro e u4 ⟨a4q, n4q, c4q, a4r, n4r, c4r, rfl, hs4q, hs4r, hx⟩
        refine hK.out _ _ (Below.mono hx hlo) ?_
        clear hK K
        try simp only [Act.put, List.setIfInBounds_toArray, List.set_cons_zero, List.set_cons_succ]
        replace hlo := Nat.le_trans hlo hx.size
        replace fp := Fz.ext hx fp bp (Nat.succ_pos _)
        replace bp := Bl.ext hx bp (Nat.succ_pos _)
        replace fs := Fz.ext hx fs bs (Nat.succ_pos _)
        replace bs := Bl.ext hx bs (Nat.succ_pos _)
        replace fv := Fz.ext hx fv bv (Nat.succ_pos _)
        replace bv := Bl.ext hx bv (Nat.succ_pos _)
        replace fx := Fz.ext hx fx bx (Nat.succ_pos _)
        replace bx := Bl.ext hx bx (Nat.succ_pos _)
        replace hw1 := hw1.ext hx
        replace hu1 := hu1.ext hx
        replace HE := HE.trans hx
        clear hx
        repeat (refine wpE_q (v := ?_) rfl rfl (fun u hu => ?_) ?_; rotate_left 1; (focus (have kp := Bl.low hu bp lop; have ks := Bl.low hu bs los; go_simp; (try rfl))); simp only [Act.put, List.setIfInBounds_toArray, List.set_cons_zero, List.set_cons_succ])
        refine wpE_l rfl rfl (fun K hK => ?_)
        go_simp
        refine hK.out _ _ (((Below.refl _ _).setCell (by show x2.heap.size ≤ u3.heap.size; omega) _).setCell (by show x2.heap.size ≤ u3.heap.size; omega) _) ?_
        clear hK K
        try simp only [Act.put, List.setIfInBounds_toArray, List.set_cons_zero, List.set_cons_succ]
        refine absE (fun x6 hx6 => ?_)
        have hbut : But u4 x6 (u3.heap.size) := by rw [hx6]; exact (But.refl _ _).store.store
        have hbn : Bl x6 (u3.heap.size) #[.bool qb, .slice a4q n4q c4q] := by rw [hx6]; exact (Bl.set (Bl.set bx (by simp)) (by simp))
        replace hw1 := hw1.but bx (not_ints2 nb_bool nb_slice) hbut
        replace hu1 := hu1.but bx (not_ints2 nb_bool nb_slice) hbut
        replace hs4q := hs4q.but bx (not_ints2 nb_bool nb_slice) hbut
        replace hs4r := hs4r.but bx (not_ints2 nb_bool nb_slice) hbut
        replace fp := But.fz hbut fp bp (Nat.succ_pos _) (by omega)
        replace bp := But.bl hbut bp (Nat.succ_pos _) (by omega)
        replace fs := But.fz hbut fs bs (Nat.succ_pos _) (by omega)
        replace bs := But.bl hbut bs (Nat.succ_pos _) (by omega)
        replace fv := But.fz hbut fv bv (Nat.succ_pos _) (by omega)
        replace bv := But.bl hbut bv (Nat.succ_pos _) (by omega)
        replace fx : Fz x6 (u3.heap.size) := by rw [hx6]; exact (Fz.set (Fz.set fx))
        replace HE : Ext w x6 := by rw [hx6]; exact ((HE.store (by show w.heap.size ≤ u3.heap.size; omega) _).store (by show w.heap.size ≤ u3.heap.size; omega) _)
        replace hlo : x2.heap.size ≤ x6.heap.size := Nat.le_trans hlo hbut.1
        clear bx hbut hx6
        have bx := hbn
        clear hbn
        refine wpE_l rfl rfl (fun K hK => ?_)
        go_simp
        refine hK.out _ _ (((Below.refl _ _).setCell (by show x2.heap.size ≤ x3.heap.size; omega) _).setCell (by show x2.heap.size ≤ x3.heap.size; omega) _) ?_
        clear hK K
        try simp only [Act.put, List.setIfInBounds_toArray, List.set_cons_zero, List.set_cons_succ]
        refine absE (fun x7 hx7 => ?_)
        have hbut : But x6 x7 (x3.heap.size) := by rw [hx7]; exact (But.refl _ _).store.store
        have hbn : Bl x7 (x3.heap.size) #[.bool rb, .slice a4r n4r c4r] := by rw [hx7]; exact (Bl.set (Bl.set bv (by simp)) (by simp))
        replace hw1 := hw1.but bv (not_ints2 nb_bool nb_slice) hbut
        replace hu1 := hu1.but bv (not_ints2 nb_bool nb_slice) hbut
        replace hs4q := hs4q.but bv (not_ints2 nb_bool nb_slice) hbut
        replace hs4r := hs4r.but bv (not_ints2 nb_bool nb_slice) hbut
        replace fp := But.fz hbut fp bp (Nat.succ_pos _) (by omega)
        replace bp := But.bl hbut bp (Nat.succ_pos _) (by omega)
        replace fs := But.fz hbut fs bs (Nat.succ_pos _) (by omega)
        replace bs := But.bl hbut bs (Nat.succ_pos _) (by omega)
        replace fx := But.fz hbut fx bx (Nat.succ_pos _) (by omega)
        replace bx := But.bl hbut bx (Nat.succ_pos _) (by omega)
        replace fv : Fz x7 (x3.heap.size) := by rw [hx7]; exact (Fz.set (Fz.set fv))
        replace HE : Ext w x7 := by rw [hx7]; exact ((HE.store (by show w.heap.size ≤ x3.heap.size; omega) _).store (by show w.heap.size ≤ x3.heap.size; omega) _)
        replace hlo : x2.heap.size ≤ x7.heap.size := Nat.le_trans hlo hbut.1
        clear bv hbut hx7
        have bv := hbn
        clear hbn
        repeat (refine wpE_q (v := ?_) rfl rfl (fun u hu => ?_) ?_; rotate_left 1; (focus (have kp := Bl.low hu bp lop; have ks := Bl.low hu bs los; go_simp; (try rfl))); simp only [Act.put, List.setIfInBounds_toArray, List.set_cons_zero, List.set_cons_succ])
        refine wpE_done ?_
        clear hlo
        go_wp2_with fail
        refine absB (fun ue hue => ?_)
        have hbs : Bl ue (w.heap.size + 1) #[.bool qb, .slice a4q n4q c4q] := by rw [hue]; exact ((bs.set (by simp)).set (by simp))
        have hnc : ∀ {aa : Option Addr} {nn cc VV : Nat}, Nc x7 aa nn cc VV → Nc ue aa nn cc VV := fun h => by
          rw [hue]
          exact h.but bs (not_ints2 nb_bool nb_slice) ((But.refl _ _).store.store)
        have heu : Ext w ue := by rw [hue]; exact (HE.store (by show w.heap.size ≤ w.heap.size + 1; omega) _).store (by show w.heap.size ≤ w.heap.size + 1; omega) _
        clear hue
        refine bodyPost_cells rfl rfl Tryz.underlying48 rfl (by kernel_rfl) (bl_two hbs) rfl ?_
        exact RetW.mk rfl HQB.out.symm (hnc hs4q) heu
    · refine wpE_l rfl rfl (fun K hK => ?_)
      go_simp
      refine hK.out _ _ ((Below.refl _ _).alloc hlo _) ?_
      clear hK K
      try simp only [Act.put, List.setIfInBounds_toArray, List.set_cons_zero, List.set_cons_succ]
      have gex := hlo
      have lpx := bp.lt (Nat.succ_pos _)
      have lsx := bs.lt (Nat.succ_pos _)
      have lvx := bv.lt (Nat.succ_pos _)
      have l0x := HE.size
      refine absE (fun x5 hx5 => ?_)
      have hx : Ext x4 x5 := by rw [hx5]; exact ((Ext.refl _).alloc _)
      have bx : Bl x5 (x4.heap.size) #[.bool false, .slice none 0 0] := by rw [hx5]; exact (Bl.new (by simp))
      have fx : Fz x5 (x4.heap.size) := by rw [hx5]; exact (Fz.new (by simp))
      replace hlo := Nat.le_trans hlo hx.size
      replace fp := Fz.ext hx fp bp (Nat.succ_pos _)
      replace bp := Bl.ext hx bp (Nat.succ_pos _)
      replace fs := Fz.ext hx fs bs (Nat.succ_pos _)
      replace bs := Bl.ext hx bs (Nat.succ_pos _)
      replace fv := Fz.ext hx fv bv (Nat.succ_pos _)
      replace bv := Bl.ext hx bv (Nat.succ_pos _)
      replace hw1 := hw1.ext hx
      replace hu1 := hu1.ext hx
      replace HE := HE.trans hx
      clear hx
      clear hx5
      refine wpE_l rfl rfl (fun K hK => ?_)
      go_simp
      refine (g_up b1 a1 d1 n1 c1 m1 k1 _).mono ?_
      rintro e u3 ⟨rfl, hx⟩
      refine hK.out _ _ (Below.mono hx hlo) ?_
      clear hK K
      try simp only [Act.put, List.setIfInBounds_toArray, List.set_cons_zero, List.set_cons_succ]
      replace hlo := Nat.le_trans hlo hx.size
      replace fp := Fz.ext hx fp bp (Nat.succ_pos _)
      replace bp := Bl.ext hx bp (Nat.succ_pos _)
      replace fs := Fz.ext hx fs bs (Nat.succ_pos _)
      replace bs := Bl.ext hx bs (Nat.succ_pos _)
      replace fv := Fz.ext hx fv bv (Nat.succ_pos _)
      replace bv := Bl.ext hx bv (Nat.succ_pos _)
      replace fx := Fz.ext hx fx bx (Nat.succ_pos _)
      replace bx := Bl.ext hx bx (Nat.succ_pos _)
      replace hw1 := hw1.ext hx
      replace hu1 := hu1.ext hx
      replace HE := HE.trans hx
      clear hx
      refine wpE_l rfl rfl (fun K hK => ?_)
      go_simp
      refine (HV.out _ _ _ _ _ _ _ _ _ hw1 (hu1.wh HM1.out)).mono ?_
      rintro e u4 ⟨a4q, n4q, c4q, a4r, n4r, c4r, rfl, hs4q, hs4r, hx⟩
      refine hK.out _ _ (Below.mono hx hlo) ?_
      clear hK K
      try simp only [Act.put, List.setIfInBounds_toArray, List.set_cons_zero, List.set_cons_succ]
      replace hlo := Nat.le_trans hlo hx.size
      replace fp := Fz.ext hx fp bp (Nat.succ_pos _)
      replace bp := Bl.ext hx bp (Nat.succ_pos _)
      replace fs := Fz.ext hx fs bs (Nat.succ_pos _)
      replace bs := Bl.ext hx bs (Nat.succ_pos _)
      replace fv := Fz.ext hx fv bv (Nat.succ_pos _)
      replace bv := Bl.ext hx bv (Nat.succ_pos _)
      replace fx := Fz.ext hx fx bx (Nat.succ_pos _)
      replace bx := Bl.ext hx bx (Nat.succ_pos _)
      replace hw1 := hw1.ext hx
      replace hu1 := hu1.ext hx
      replace HE := HE.trans hx
      clear hx
      repeat (refine wpE_q (v := ?_) rfl rfl (fun u hu => ?_) ?_; rotate_left 1; (focus (have kp := Bl.low hu bp lop; have ks := Bl.low hu bs los; go_simp; (try rfl))); simp only [Act.put, List.setIfInBounds_toArray, List.set_cons_zero, List.set_cons_succ])
      refine wpE_l rfl rfl (fun K hK => ?_)
      go_simp
      refine hK.out _ _ (((Below.refl _ _).setCell (by show x2.heap.size ≤ x4.heap.size; omega) _).setCell (by show x2.heap.size ≤ x4.heap.size; omega) _) ?_
      clear hK K
      try simp only [Act.put, List.setIfInBounds_toArray, List.set_cons_zero, List.set_cons_succ]
      refine absE (fun x6 hx6 => ?_)
      have hbut : But u4 x6 (x4.heap.size) := by rw [hx6]; exact (But.refl _ _).store.store
      have hbn : Bl x6 (x4.heap.size) #[.bool qb, .slice a4q n4q c4q] := by rw [hx6]; exact (Bl.set (Bl.set bx (by simp)) (by simp))
      replace hw1 := hw1.but bx (not_ints2 nb_bool nb_slice) hbut
      replace hu1 := hu1.but bx (not_ints2 nb_bool nb_slice) hbut
      replace hs4q := hs4q.but bx (not_ints2 nb_bool nb_slice) hbut
      replace hs4r := hs4r.but bx (not_ints2 nb_bool nb_slice) hbut
      replace fp := But.fz hbut fp bp (Nat.succ_pos _) (by omega)
      replace bp := But.bl hbut bp (Nat.succ_pos _) (by omega)
      replace fs := But.fz hbut fs bs (Nat.succ_pos _) (by omega)
      replace bs := But.bl hbut bs (Nat.succ_pos _) (by omega)
      replace fv := But.fz hbut fv bv (Nat.succ_pos _) (by omega)
      replace bv := But.bl hbut bv (Nat.succ_pos _) (by omega)
      replace fx : Fz x6 (x4.heap.size) := by rw [hx6]; exact (Fz.set (Fz.set fx))
      replace HE : Ext w x6 := by rw [hx6]; exact ((HE.store (by show w.heap.size ≤ x4.heap.size; omega) _).store (by show w.heap.size ≤ x4.heap.size; omega) _)
      replace hlo : x2.heap.size ≤ x6.heap.size := Nat.le_trans hlo hbut.1
      clear bx hbut hx6
      have bx := hbn
      clear hbn
      refine wpE_l rfl rfl (fun K hK => ?_)
      go_simp
      refine hK.out _ _ (((Below.refl _ _).setCell (by show x2.heap.size ≤ x3.heap.size; omega) _).setCell (by show x2.heap.size ≤ x3.heap.size; omega) _) ?_
      clear hK K
      try simp only [Act.put, List.setIfInBounds_toArray, List.set_cons_zero, List.set_cons_succ]
      refine absE (fun x7 hx7 => ?_)
      have hbut : But x6 x7 (x3.heap.size) := by rw [hx7]; exact (But.refl _ _).store.store
      have hbn : Bl x7 (x3.heap.size) #[.bool rb, .slice a4r n4r c4r] := by rw [hx7]; exact (Bl.set (Bl.set bv (by simp)) (by simp))
      replace hw1 := hw1.but bv (not_ints2 nb_bool nb_slice) hbut
      replace hu1 := hu1.but bv (not_ints2 nb_bool nb_slice) hbut
      replace hs4q := hs4q.but bv (not_ints2 nb_bool nb_slice) hbut
      replace hs4r := hs4r.but bv (not_ints2 nb_bool nb_slice) hbut
      replace fp := But.fz hbut fp bp (Nat.succ_pos _) (by omega)
      replace bp := But.bl hbut bp (Nat.succ_pos _) (by omega)
      replace fs := But.fz hbut fs bs (Nat.succ_pos _) (by omega)
      replace bs := But.bl hbut bs (Nat.succ_pos _) (by omega)
      replace fx := But.fz hbut fx bx (Nat.succ_pos _) (by omega)
      replace bx := But.bl hbut bx (Nat.succ_pos _) (by omega)
      replace fv : Fz x7 (x3.heap.size) := by rw [hx7]; exact (Fz.set (Fz.set fv))
      replace HE : Ext w x7 := by rw [hx7]; exact ((HE.store (by show w.heap.size ≤ x3.heap.size; omega) _).store (by show w.heap.size ≤ x3.heap.size; omega) _)
      replace hlo : x2.heap.size ≤ x7.heap.size := Nat.le_trans hlo hbut.1
      clear bv hbut hx7
      have bv := hbn
      clear hbn
      repeat (refine wpE_q (v := ?_) rfl rfl (fun u hu => ?_) ?_; rotate_left 1; (focus (have kp := Bl.low hu bp lop; have ks := Bl.low hu bs los; go_simp; (try rfl))); simp only [Act.put, List.setIfInBounds_toArray, List.set_cons_zero, List.set_cons_succ])
      refine wpE_done ?_
      clear hlo
      go_wp2_with fail
      refine absB (fun ue hue => ?_)
      have hbs : Bl ue (w.heap.size + 1) #[.bool qb, .slice a4q n4q c4q] := by rw [hue]; exact ((bs.set (by simp)).set (by simp))
      have hnc : ∀ {aa : Option Addr} {nn cc VV : Nat}, Nc x7 aa nn cc VV → Nc ue aa nn cc VV := fun h => by
        rw [hue]
        exact h.but bs (not_ints2 nb_bool nb_slice) ((But.refl _ _).store.store)
      have heu : Ext w ue := by rw [hue]; exact (HE.store (by show w.heap.size ≤ w.heap.size + 1; omega) _).store (by show w.heap.size ≤ w.heap.size + 1; omega) _
      clear hue
      refine bodyPost_cells rfl rfl Tryz.underlying48 rfl (by kernel_rfl) (bl_two hbs) rfl ?_
      exact RetW.mk rfl HQB.out.symm (hnc hs4q) heu
end
end Go.Proofs.YtmibjfkpchncgaaGreat
