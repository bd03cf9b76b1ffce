/- Gauge: the document's boxes. -/
import Derived.Test.YtlhaepcnhkaclaaG17
namespace Go.Proofs.Ytlhaepcnhkaclaa
set_option linter.unusedVariables false
open Go Go.RowKit

theorem nin {x a b : Nat} (h : x ≠ a) (h' : x ≠ b) : x ∉ [a, b] := by simp [h, h']
set_option maxRecDepth 100000 in
set_option maxHeartbeats 8000000 in
theorem d_Box (a : Option Addr) (n cap : Nat) (l : List Pt) (w : World) (h : SlP w a n cap l) :
    Calls Try.prog 12 #[.slice a n cap] w fun e w' => e = .returned (boxV l n) ∧ Ext w w' := by
  have H := hidP h
  have HLN := hidP h.len
  have hcap : cap ≤ maxLen := h.2.2.1
  have hnc : n ≤ cap := h.2.1
  unfold maxLen at hcap
  clear h
  go_enter Try.func12, Try.ntmps12
  go_wp2_with fail
  refine absW (fun x1 hx1 => ?_)
  have hx : Ext w x1 := by rw [hx1]; exact (((((Ext.refl _).alloc _).alloc _).alloc _).alloc _)
  have bs : Bl x1 (w.heap.size) #[.int .i64 0, .int .i64 0] := by rw [hx1]; exact ((((Bl.new (by simp)).alloc (by simp)).alloc (by simp)).alloc (by simp))
  have fs : Fz x1 (w.heap.size) := by rw [hx1]; exact ((((Fz.new (by simp)).alloc (Bl.new (by simp)) (by simp)).alloc ((Bl.new (by simp)).alloc (by simp)) (by simp)).alloc (((Bl.new (by simp)).alloc (by simp)).alloc (by simp)) (by simp))
  have bt : Bl x1 (w.heap.size + 1) #[.int .i64 0, .int .i64 0] := by rw [hx1]; exact (((Bl.new (by simp)).alloc (by simp)).alloc (by simp))
  have ft : Fz x1 (w.heap.size + 1) := by rw [hx1]; exact (((Fz.new (by simp)).alloc (Bl.new (by simp)) (by simp)).alloc ((Bl.new (by simp)).alloc (by simp)) (by simp))
  have br : Bl x1 (w.heap.size + 1 + 1) #[.int .i64 0, .int .i64 0] := by rw [hx1]; exact ((Bl.new (by simp)).alloc (by simp))
  have fr : Fz x1 (w.heap.size + 1 + 1) := by rw [hx1]; exact ((Fz.new (by simp)).alloc (Bl.new (by simp)) (by simp))
  have bv : Bl x1 (w.heap.size + 1 + 1 + 1) #[.int .i64 0, .int .i64 0] := by rw [hx1]; exact (Bl.new (by simp))
  have fv : Fz x1 (w.heap.size + 1 + 1 + 1) := by rw [hx1]; exact (Fz.new (by simp))
  have HE := hx
  clear hx
  clear hx1
  go_loopw [7] (fun iv wr => ∃ (k : Nat) (b1 b2 b3 b4 : Int), k ≤ n ∧ iv = .int .i64 (k : Int) ∧ Hid (bxS l k = (b1, b2, b3, b4)) ∧ Ext w wr ∧ Bl wr (w.heap.size + 1 + 1) #[.int .i64 b1, .int .i64 b2] ∧ Bl wr (w.heap.size + 1 + 1 + 1) #[.int .i64 b3, .int .i64 b4] ∧ Fz wr (w.heap.size + 1 + 1) ∧ Fz wr (w.heap.size + 1 + 1 + 1) ∧ Bl wr w.heap.size #[.int .i64 0, .int .i64 0] ∧ Bl wr (w.heap.size + 1) #[.int .i64 0, .int .i64 0] ∧ Fz wr w.heap.size ∧ Fz wr (w.heap.size + 1)) (fun iv _ => n - (intOf iv).toNat)
  case atStart => exact ⟨0, 0, 0, 0, 0, by omega, rfl, hidP rfl, HE, br, bv, fr, fv, bs, bt, fs, ft⟩
  case round =>
    clear HE br bv fr fv bs bt fs ft
    obtain ⟨k, b1, b2, b3, b4, hk, rfl, HB, HE, br, bv, fr, fv, bs, bt, fs, ft⟩ := hrel
    by_cases hlt : k < n
    · obtain ⟨g, off, rfl, hc⟩ := (H.out.ext HE).at (by omega)
      have hkl : k < l.length := by rw [HLN.out]; exact hlt
      obtain ⟨h1, h2⟩ := hc k hkl
      by_cases hk0 : k = 0
      · subst hk0
        rw [Nat.zero_mul, Nat.add_zero] at h1 h2
        have HBS := hidP (bxS_one hkl)
        clear hc
        generalize l[0] = qq at *
        obtain ⟨qx, qy⟩ := qq
        simp only at h1 h2
        have hgb : g < w.heap.size := cell_lt (((H.out.at (by omega)).elim fun g2 h => by obtain ⟨off2, he, hc2⟩ := h; cases he; exact (hc2 0 (by rw [HLN.out]; omega)).1))
        go_wp2_with fail
        refine wp_region_plan (R := Ext) (.q 0 (.q 1 (.q 2 (.q 3 (.q 4 (.q 5 (.q 6 (.q 7 (.q 8 (.q 9 (.q 10 (.q 11 .done)))))))))))) (by kernel_rfl) (by kernel_rfl) (by kernel_rfl) (by kernel_rfl) Ext.refl (fun _ _ _ => Ext.trans) ?_
        refine absE (fun x1 hx1 => ?_)
        have hx : Ext wr x1 := by rw [hx1]; exact (Ext.refl _).drew
        replace fs := Fz.ext hx fs bs (Nat.succ_pos _)
        replace bs := Bl.ext hx bs (Nat.succ_pos _)
        replace ft := Fz.ext hx ft bt (Nat.succ_pos _)
        replace bt := Bl.ext hx bt (Nat.succ_pos _)
        replace fr := Fz.ext hx fr br (Nat.succ_pos _)
        replace br := Bl.ext hx br (Nat.succ_pos _)
        replace fv := Fz.ext hx fv bv (Nat.succ_pos _)
        replace bv := Bl.ext hx bv (Nat.succ_pos _)
        replace h1 := hx.cell' h1
        replace h2 := hx.cell' h2
        replace HE := HE.trans hx
        clear hx
        clear hx1
        repeat (first | (refine wpE_q (v := ?_) rfl rfl (fun u hu => ?_) ?_; rotate_left 1; (focus (have ks := Bl.ext hu bs (Nat.succ_pos _); have kt := Bl.ext hu bt (Nat.succ_pos _); have kr := Bl.ext hu br (Nat.succ_pos _); have kv := Bl.ext hu bv (Nat.succ_pos _); have kh1 := hu.cell' h1; have kh2 := hu.cell' h2; go_simp; (try rfl))); simp only [Act.put, List.setIfInBounds_toArray, List.set_cons_zero, List.set_cons_succ]) | (refine wpE_qs rfl rfl ?_; simp only [Act.put, List.setIfInBounds_toArray, List.set_cons_zero, List.set_cons_succ]))
        refine wpE_done ?_
        go_upto_region 7 with fail
        refine absW (fun x2 hx2 => ?_)
        have hbut : But x1 x2 (w.heap.size + 1 + 1) := by rw [hx2]; exact (But.refl _ _).store
        have hbn : Bl x2 (w.heap.size + 1 + 1) #[.int .i64 qx, .int .i64 b2] := by rw [hx2]; exact (Bl.set br (by simp))
        replace h1 := But.cell hbut h1 (by show g ≠ _; omega)
        replace h2 := But.cell hbut h2 (by show g ≠ _; omega)
        replace fs := But.fz hbut fs bs (Nat.succ_pos _) (by omega)
        replace bs := But.bl hbut bs (Nat.succ_pos _) (by omega)
        replace ft := But.fz hbut ft bt (Nat.succ_pos _) (by omega)
        replace bt := But.bl hbut bt (Nat.succ_pos _) (by omega)
        replace fv := But.fz hbut fv bv (Nat.succ_pos _) (by omega)
        replace bv := But.bl hbut bv (Nat.succ_pos _) (by omega)
        replace fr : Fz x2 (w.heap.size + 1 + 1) := by rw [hx2]; exact (Fz.set fr)
        replace HE : Ext w x2 := by rw [hx2]; exact HE.store (by show w.heap.size ≤ w.heap.size + 1 + 1; omega) _
        clear br hbut hx2
        have br := hbn
        clear hbn
        go_wp2_with fail
        refine wp_region_plan (R := Ext) (.q 0 (.q 1 (.q 2 (.q 3 (.q 4 (.q 5 (.q 6 (.q 7 (.q 8 (.q 9 (.q 10 (.q 11 .done)))))))))))) (by kernel_rfl) (by kernel_rfl) (by kernel_rfl) (by kernel_rfl) Ext.refl (fun _ _ _ => Ext.trans) ?_
        refine absE (fun x3 hx3 => ?_)
        have hx : Ext x2 x3 := by rw [hx3]; exact (Ext.refl _).drew
        replace fs := Fz.ext hx fs bs (Nat.succ_pos _)
        replace bs := Bl.ext hx bs (Nat.succ_pos _)
        replace ft := Fz.ext hx ft bt (Nat.succ_pos _)
        replace bt := Bl.ext hx bt (Nat.succ_pos _)
        replace fr := Fz.ext hx fr br (Nat.succ_pos _)
        replace br := Bl.ext hx br (Nat.succ_pos _)
        replace fv := Fz.ext hx fv bv (Nat.succ_pos _)
        replace bv := Bl.ext hx bv (Nat.succ_pos _)
        replace h1 := hx.cell' h1
        replace h2 := hx.cell' h2
        replace HE := HE.trans hx
        clear hx
        clear hx3
        repeat (first | (refine wpE_q (v := ?_) rfl rfl (fun u hu => ?_) ?_; rotate_left 1; (focus (have ks := Bl.ext hu bs (Nat.succ_pos _); have kt := Bl.ext hu bt (Nat.succ_pos _); have kr := Bl.ext hu br (Nat.succ_pos _); have kv := Bl.ext hu bv (Nat.succ_pos _); have kh1 := hu.cell' h1; have kh2 := hu.cell' h2; go_simp; (try rfl))); simp only [Act.put, List.setIfInBounds_toArray, List.set_cons_zero, List.set_cons_succ]) | (refine wpE_qs rfl rfl ?_; simp only [Act.put, List.setIfInBounds_toArray, List.set_cons_zero, List.set_cons_succ]))
        refine wpE_done ?_
        go_upto_region 9 with fail
        refine absW (fun x4 hx4 => ?_)
        have hbut : But x3 x4 (w.heap.size + 1 + 1) := by rw [hx4]; exact (But.refl _ _).store
        have hbn : Bl x4 (w.heap.size + 1 + 1) #[.int .i64 qx, .int .i64 qy] := by rw [hx4]; exact (Bl.set br (by simp))
        replace h1 := But.cell hbut h1 (by show g ≠ _; omega)
        replace h2 := But.cell hbut h2 (by show g ≠ _; omega)
        replace fs := But.fz hbut fs bs (Nat.succ_pos _) (by omega)
        replace bs := But.bl hbut bs (Nat.succ_pos _) (by omega)
        replace ft := But.fz hbut ft bt (Nat.succ_pos _) (by omega)
        replace bt := But.bl hbut bt (Nat.succ_pos _) (by omega)
        replace fv := But.fz hbut fv bv (Nat.succ_pos _) (by omega)
        replace bv := But.bl hbut bv (Nat.succ_pos _) (by omega)
        replace fr : Fz x4 (w.heap.size + 1 + 1) := by rw [hx4]; exact (Fz.set fr)
        replace HE : Ext w x4 := by rw [hx4]; exact HE.store (by show w.heap.size ≤ w.heap.size + 1 + 1; omega) _
        clear br hbut hx4
        have br := hbn
        clear hbn
        go_wp2_with fail
        refine wp_region_plan (R := Ext) (.q 0 (.q 1 (.q 2 (.q 3 (.q 4 (.q 5 (.q 6 (.q 7 (.q 8 (.q 9 (.q 10 (.q 11 .done)))))))))))) (by kernel_rfl) (by kernel_rfl) (by kernel_rfl) (by kernel_rfl) Ext.refl (fun _ _ _ => Ext.trans) ?_
        refine absE (fun x5 hx5 => ?_)
        have hx : Ext x4 x5 := by rw [hx5]; exact (Ext.refl _).drew
        replace fs := Fz.ext hx fs bs (Nat.succ_pos _)
        replace bs := Bl.ext hx bs (Nat.succ_pos _)
        replace ft := Fz.ext hx ft bt (Nat.succ_pos _)
        replace bt := Bl.ext hx bt (Nat.succ_pos _)
        replace fr := Fz.ext hx fr br (Nat.succ_pos _)
        replace br := Bl.ext hx br (Nat.succ_pos _)
        replace fv := Fz.ext hx fv bv (Nat.succ_pos _)
        replace bv := Bl.ext hx bv (Nat.succ_pos _)
        replace h1 := hx.cell' h1
        replace h2 := hx.cell' h2
        replace HE := HE.trans hx
        clear hx
        clear hx5
        repeat (first | (refine wpE_q (v := ?_) rfl rfl (fun u hu => ?_) ?_; rotate_left 1; (focus (have ks := Bl.ext hu bs (Nat.succ_pos _); have kt := Bl.ext hu bt (Nat.succ_pos _); have kr := Bl.ext hu br (Nat.succ_pos _); have kv := Bl.ext hu bv (Nat.succ_pos _); have kh1 := hu.cell' h1; have kh2 := hu.cell' h2; go_simp; (try rfl))); simp only [Act.put, List.setIfInBounds_toArray, List.set_cons_zero, List.set_cons_succ]) | (refine wpE_qs rfl rfl ?_; simp only [Act.put, List.setIfInBounds_toArray, List.set_cons_zero, List.set_cons_succ]))
        refine wpE_done ?_
        go_upto_region 11 with fail
        refine absW (fun x6 hx6 => ?_)
        have hbut : But x5 x6 (w.heap.size + 1 + 1 + 1) := by rw [hx6]; exact (But.refl _ _).store
        have hbn : Bl x6 (w.heap.size + 1 + 1 + 1) #[.int .i64 qx, .int .i64 b4] := by rw [hx6]; exact (Bl.set bv (by simp))
        replace h1 := But.cell hbut h1 (by show g ≠ _; omega)
        replace h2 := But.cell hbut h2 (by show g ≠ _; omega)
        replace fs := But.fz hbut fs bs (Nat.succ_pos _) (by omega)
        replace bs := But.bl hbut bs (Nat.succ_pos _) (by omega)
        replace ft := But.fz hbut ft bt (Nat.succ_pos _) (by omega)
        replace bt := But.bl hbut bt (Nat.succ_pos _) (by omega)
        replace fr := But.fz hbut fr br (Nat.succ_pos _) (by omega)
        replace br := But.bl hbut br (Nat.succ_pos _) (by omega)
        replace fv : Fz x6 (w.heap.size + 1 + 1 + 1) := by rw [hx6]; exact (Fz.set fv)
        replace HE : Ext w x6 := by rw [hx6]; exact HE.store (by show w.heap.size ≤ w.heap.size + 1 + 1 + 1; omega) _
        clear bv hbut hx6
        have bv := hbn
        clear hbn
        go_wp2_with fail
        refine wp_region_plan (R := Ext) (.q 0 (.q 1 (.q 2 (.q 3 (.q 4 (.q 5 (.q 6 (.q 7 (.q 8 (.q 9 (.q 10 (.q 11 .done)))))))))))) (by kernel_rfl) (by kernel_rfl) (by kernel_rfl) (by kernel_rfl) Ext.refl (fun _ _ _ => Ext.trans) ?_
        refine absE (fun x7 hx7 => ?_)
        have hx : Ext x6 x7 := by rw [hx7]; exact (Ext.refl _).drew
        replace fs := Fz.ext hx fs bs (Nat.succ_pos _)
        replace bs := Bl.ext hx bs (Nat.succ_pos _)
        replace ft := Fz.ext hx ft bt (Nat.succ_pos _)
        replace bt := Bl.ext hx bt (Nat.succ_pos _)
        replace fr := Fz.ext hx fr br (Nat.succ_pos _)
        replace br := Bl.ext hx br (Nat.succ_pos _)
        replace fv := Fz.ext hx fv bv (Nat.succ_pos _)
        replace bv := Bl.ext hx bv (Nat.succ_pos _)
        replace h1 := hx.cell' h1
        replace h2 := hx.cell' h2
        replace HE := HE.trans hx
        clear hx
        clear hx7
        repeat (first | (refine wpE_q (v := ?_) rfl rfl (fun u hu => ?_) ?_; rotate_left 1; (focus (have ks := Bl.ext hu bs (Nat.succ_pos _); have kt := Bl.ext hu bt (Nat.succ_pos _); have kr := Bl.ext hu br (Nat.succ_pos _); have kv := Bl.ext hu bv (Nat.succ_pos _); have kh1 := hu.cell' h1; have kh2 := hu.cell' h2; go_simp; (try rfl))); simp only [Act.put, List.setIfInBounds_toArray, List.set_cons_zero, List.set_cons_succ]) | (refine wpE_qs rfl rfl ?_; simp only [Act.put, List.setIfInBounds_toArray, List.set_cons_zero, List.set_cons_succ]))
        refine wpE_done ?_
        go_upto_region 4 with fail
        refine absW (fun x8 hx8 => ?_)
        have hbut : But x7 x8 (w.heap.size + 1 + 1 + 1) := by rw [hx8]; exact (But.refl _ _).store
        have hbn : Bl x8 (w.heap.size + 1 + 1 + 1) #[.int .i64 qx, .int .i64 qy] := by rw [hx8]; exact (Bl.set bv (by simp))
        replace h1 := But.cell hbut h1 (by show g ≠ _; omega)
        replace h2 := But.cell hbut h2 (by show g ≠ _; omega)
        replace fs := But.fz hbut fs bs (Nat.succ_pos _) (by omega)
        replace bs := But.bl hbut bs (Nat.succ_pos _) (by omega)
        replace ft := But.fz hbut ft bt (Nat.succ_pos _) (by omega)
        replace bt := But.bl hbut bt (Nat.succ_pos _) (by omega)
        replace fr := But.fz hbut fr br (Nat.succ_pos _) (by omega)
        replace br := But.bl hbut br (Nat.succ_pos _) (by omega)
        replace fv : Fz x8 (w.heap.size + 1 + 1 + 1) := by rw [hx8]; exact (Fz.set fv)
        replace HE : Ext w x8 := by rw [hx8]; exact HE.store (by show w.heap.size ≤ w.heap.size + 1 + 1 + 1; omega) _
        clear bv hbut hx8
        have bv := hbn
        clear hbn
        go_wp2_with fail
        go_roundw
        case rel => exact ⟨1, qx, qy, qx, qy, by omega, rfl, HBS, HE, br, bv, fr, fv, bs, bt, fs, ft⟩
        case measure => simp only [intOf]; omega
      · have hbs := bxS_succ hkl hk0
        rw [HB.out] at hbs
        simp only at hbs
        clear hc
        generalize l[k] = qq at *
        obtain ⟨qx, qy⟩ := qq
        simp only at h1 h2 hbs
        have HBS := hidP hbs
        clear hbs
        have hk1 : ¬ k = 0 := hk0
        have hkb : ((k : Int) == 0) = false := by simp; omega
        have hgb : g < w.heap.size := cell_lt (((H.out.at (by omega)).elim fun g2 h => by obtain ⟨off2, he, hc2⟩ := h; cases he; exact (hc2 0 (by rw [HLN.out]; omega)).1))
        by_cases hc : qx < b1
        · have hd : decide (qx < b1) = true := decide_eq_true hc
          have HC0 := hidP hc
          clear hc
          go_wp2_with fail
          refine wp_region_plan (R := Ext) (.q 0 (.q 1 (.q 2 (.q 3 (.q 4 (.q 5 (.q 6 (.q 7 (.q 8 (.q 9 (.q 10 (.q 11 .done)))))))))))) (by kernel_rfl) (by kernel_rfl) (by kernel_rfl) (by kernel_rfl) Ext.refl (fun _ _ _ => Ext.trans) ?_
          refine absE (fun x1 hx1 => ?_)
          have hx : Ext wr x1 := by rw [hx1]; exact (Ext.refl _).drew
          replace fs := Fz.ext hx fs bs (Nat.succ_pos _)
          replace bs := Bl.ext hx bs (Nat.succ_pos _)
          replace ft := Fz.ext hx ft bt (Nat.succ_pos _)
          replace bt := Bl.ext hx bt (Nat.succ_pos _)
          replace fr := Fz.ext hx fr br (Nat.succ_pos _)
          replace br := Bl.ext hx br (Nat.succ_pos _)
          replace fv := Fz.ext hx fv bv (Nat.succ_pos _)
          replace bv := Bl.ext hx bv (Nat.succ_pos _)
          replace h1 := hx.cell' h1
          replace h2 := hx.cell' h2
          replace HE := HE.trans hx
          clear hx
          clear hx1
          repeat (refine wpE_q (v := ?_) rfl rfl (fun u hu => ?_) ?_; rotate_left 1; (focus (have ks := Bl.ext hu bs (Nat.succ_pos _); have kt := Bl.ext hu bt (Nat.succ_pos _); have kr := Bl.ext hu br (Nat.succ_pos _); have kv := Bl.ext hu bv (Nat.succ_pos _); have kh1 := hu.cell' h1; have kh2 := hu.cell' h2; go_simp; (try rfl))); simp only [Act.put, List.setIfInBounds_toArray, List.set_cons_zero, List.set_cons_succ])
          refine wpE_done ?_
          go_upto_region 7 with fail
          refine absW (fun x2 hx2 => ?_)
          have hbut : But x1 x2 (w.heap.size + 1 + 1) := by rw [hx2]; exact (But.refl _ _).store
          have hbn : Bl x2 (w.heap.size + 1 + 1) #[.int .i64 qx, .int .i64 b2] := by rw [hx2]; exact (Bl.set br (by simp))
          replace h1 := But.cell hbut h1 (by show g ≠ _; omega)
          replace h2 := But.cell hbut h2 (by show g ≠ _; omega)
          replace fs := But.fz hbut fs bs (Nat.succ_pos _) (by omega)
          replace bs := But.bl hbut bs (Nat.succ_pos _) (by omega)
          replace ft := But.fz hbut ft bt (Nat.succ_pos _) (by omega)
          replace bt := But.bl hbut bt (Nat.succ_pos _) (by omega)
          replace fv := But.fz hbut fv bv (Nat.succ_pos _) (by omega)
          replace bv := But.bl hbut bv (Nat.succ_pos _) (by omega)
          replace fr : Fz x2 (w.heap.size + 1 + 1) := by rw [hx2]; exact (Fz.set fr)
          replace HE : Ext w x2 := by rw [hx2]; exact HE.store (by show w.heap.size ≤ w.heap.size + 1 + 1; omega) _
          clear br hbut hx2
          have br := hbn
          clear hbn
          clear hd
          by_cases hc : qy < b2
          · have hd : decide (qy < b2) = true := decide_eq_true hc
            have HC1 := hidP hc
            clear hc
            go_wp2_with fail
            refine wp_region_plan (R := Ext) (.q 0 (.q 1 (.q 2 (.q 3 (.q 4 (.q 5 (.q 6 (.q 7 (.q 8 (.q 9 (.q 10 (.q 11 .done)))))))))))) (by kernel_rfl) (by kernel_rfl) (by kernel_rfl) (by kernel_rfl) Ext.refl (fun _ _ _ => Ext.trans) ?_
            refine absE (fun x3 hx3 => ?_)
            have hx : Ext x2 x3 := by rw [hx3]; exact (Ext.refl _).drew
            replace fs := Fz.ext hx fs bs (Nat.succ_pos _)
            replace bs := Bl.ext hx bs (Nat.succ_pos _)
            replace ft := Fz.ext hx ft bt (Nat.succ_pos _)
            replace bt := Bl.ext hx bt (Nat.succ_pos _)
            replace fr := Fz.ext hx fr br (Nat.succ_pos _)
            replace br := Bl.ext hx br (Nat.succ_pos _)
            replace fv := Fz.ext hx fv bv (Nat.succ_pos _)
            replace bv := Bl.ext hx bv (Nat.succ_pos _)
            replace h1 := hx.cell' h1
            replace h2 := hx.cell' h2
            replace HE := HE.trans hx
            clear hx
            clear hx3
            repeat (refine wpE_q (v := ?_) rfl rfl (fun u hu => ?_) ?_; rotate_left 1; (focus (have ks := Bl.ext hu bs (Nat.succ_pos _); have kt := Bl.ext hu bt (Nat.succ_pos _); have kr := Bl.ext hu br (Nat.succ_pos _); have kv := Bl.ext hu bv (Nat.succ_pos _); have kh1 := hu.cell' h1; have kh2 := hu.cell' h2; go_simp; (try rfl))); simp only [Act.put, List.setIfInBounds_toArray, List.set_cons_zero, List.set_cons_succ])
            refine wpE_done ?_
            go_upto_region 9 with fail
            refine absW (fun x4 hx4 => ?_)
            have hbut : But x3 x4 (w.heap.size + 1 + 1) := by rw [hx4]; exact (But.refl _ _).store
            have hbn : Bl x4 (w.heap.size + 1 + 1) #[.int .i64 qx, .int .i64 qy] := by rw [hx4]; exact (Bl.set br (by simp))
            replace h1 := But.cell hbut h1 (by show g ≠ _; omega)
            replace h2 := But.cell hbut h2 (by show g ≠ _; omega)
            replace fs := But.fz hbut fs bs (Nat.succ_pos _) (by omega)
            replace bs := But.bl hbut bs (Nat.succ_pos _) (by omega)
            replace ft := But.fz hbut ft bt (Nat.succ_pos _) (by omega)
            replace bt := But.bl hbut bt (Nat.succ_pos _) (by omega)
            replace fv := But.fz hbut fv bv (Nat.succ_pos _) (by omega)
            replace bv := But.bl hbut bv (Nat.succ_pos _) (by omega)
            replace fr : Fz x4 (w.heap.size + 1 + 1) := by rw [hx4]; exact (Fz.set fr)
            replace HE : Ext w x4 := by rw [hx4]; exact HE.store (by show w.heap.size ≤ w.heap.size + 1 + 1; omega) _
            clear br hbut hx4
            have br := hbn
            clear hbn
            clear hd
            by_cases hc : b3 < qx
            · have hd : decide (b3 < qx) = true := decide_eq_true hc
              have HC2 := hidP hc
              clear hc
              go_wp2_with fail
              refine wp_region_plan (R := Ext) (.q 0 (.q 1 (.q 2 (.q 3 (.q 4 (.q 5 (.q 6 (.q 7 (.q 8 (.q 9 (.q 10 (.q 11 .done)))))))))))) (by kernel_rfl) (by kernel_rfl) (by kernel_rfl) (by kernel_rfl) Ext.refl (fun _ _ _ => Ext.trans) ?_
              refine absE (fun x5 hx5 => ?_)
              have hx : Ext x4 x5 := by rw [hx5]; exact (Ext.refl _).drew
              replace fs := Fz.ext hx fs bs (Nat.succ_pos _)
              replace bs := Bl.ext hx bs (Nat.succ_pos _)
              replace ft := Fz.ext hx ft bt (Nat.succ_pos _)
              replace bt := Bl.ext hx bt (Nat.succ_pos _)
              replace fr := Fz.ext hx fr br (Nat.succ_pos _)
              replace br := Bl.ext hx br (Nat.succ_pos _)
              replace fv := Fz.ext hx fv bv (Nat.succ_pos _)
              replace bv := Bl.ext hx bv (Nat.succ_pos _)
              replace h1 := hx.cell' h1
              replace h2 := hx.cell' h2
              replace HE := HE.trans hx
              clear hx
              clear hx5
              repeat (refine wpE_q (v := ?_) rfl rfl (fun u hu => ?_) ?_; rotate_left 1; (focus (have ks := Bl.ext hu bs (Nat.succ_pos _); have kt := Bl.ext hu bt (Nat.succ_pos _); have kr := Bl.ext hu br (Nat.succ_pos _); have kv := Bl.ext hu bv (Nat.succ_pos _); have kh1 := hu.cell' h1; have kh2 := hu.cell' h2; go_simp; (try rfl))); simp only [Act.put, List.setIfInBounds_toArray, List.set_cons_zero, List.set_cons_succ])
              refine wpE_done ?_
              go_upto_region 11 with fail
              refine absW (fun x6 hx6 => ?_)
              have hbut : But x5 x6 (w.heap.size + 1 + 1 + 1) := by rw [hx6]; exact (But.refl _ _).store
              have hbn : Bl x6 (w.heap.size + 1 + 1 + 1) #[.int .i64 qx, .int .i64 b4] := by rw [hx6]; exact (Bl.set bv (by simp))
              replace h1 := But.cell hbut h1 (by show g ≠ _; omega)
              replace h2 := But.cell hbut h2 (by show g ≠ _; omega)
              replace fs := But.fz hbut fs bs (Nat.succ_pos _) (by omega)
              replace bs := But.bl hbut bs (Nat.succ_pos _) (by omega)
              replace ft := But.fz hbut ft bt (Nat.succ_pos _) (by omega)
              replace bt := But.bl hbut bt (Nat.succ_pos _) (by omega)
              replace fr := But.fz hbut fr br (Nat.succ_pos _) (by omega)
              replace br := But.bl hbut br (Nat.succ_pos _) (by omega)
              replace fv : Fz x6 (w.heap.size + 1 + 1 + 1) := by rw [hx6]; exact (Fz.set fv)
              replace HE : Ext w x6 := by rw [hx6]; exact HE.store (by show w.heap.size ≤ w.heap.size + 1 + 1 + 1; omega) _
              clear bv hbut hx6
              have bv := hbn
              clear hbn
              clear hd
              by_cases hc : b4 < qy
              · have hd : decide (b4 < qy) = true := decide_eq_true hc
                have HC3 := hidP hc
                clear hc
                go_wp2_with fail
                refine wp_region_plan (R := Ext) (.q 0 (.q 1 (.q 2 (.q 3 (.q 4 (.q 5 (.q 6 (.q 7 (.q 8 (.q 9 (.q 10 (.q 11 .done)))))))))))) (by kernel_rfl) (by kernel_rfl) (by kernel_rfl) (by kernel_rfl) Ext.refl (fun _ _ _ => Ext.trans) ?_
                refine absE (fun x7 hx7 => ?_)
                have hx : Ext x6 x7 := by rw [hx7]; exact (Ext.refl _).drew
                replace fs := Fz.ext hx fs bs (Nat.succ_pos _)
                replace bs := Bl.ext hx bs (Nat.succ_pos _)
                replace ft := Fz.ext hx ft bt (Nat.succ_pos _)
                replace bt := Bl.ext hx bt (Nat.succ_pos _)
                replace fr := Fz.ext hx fr br (Nat.succ_pos _)
                replace br := Bl.ext hx br (Nat.succ_pos _)
                replace fv := Fz.ext hx fv bv (Nat.succ_pos _)
                replace bv := Bl.ext hx bv (Nat.succ_pos _)
                replace h1 := hx.cell' h1
                replace h2 := hx.cell' h2
                replace HE := HE.trans hx
                clear hx
                clear hx7
                repeat (refine wpE_q (v := ?_) rfl rfl (fun u hu => ?_) ?_; rotate_left 1; (focus (have ks := Bl.ext hu bs (Nat.succ_pos _); have kt := Bl.ext hu bt (Nat.succ_pos _); have kr := Bl.ext hu br (Nat.succ_pos _); have kv := Bl.ext hu bv (Nat.succ_pos _); have kh1 := hu.cell' h1; have kh2 := hu.cell' h2; go_simp; (try rfl))); simp only [Act.put, List.setIfInBounds_toArray, List.set_cons_zero, List.set_cons_succ])
                refine wpE_done ?_
                go_upto_region 4 with fail
                refine absW (fun x8 hx8 => ?_)
                have hbut : But x7 x8 (w.heap.size + 1 + 1 + 1) := by rw [hx8]; exact (But.refl _ _).store
                have hbn : Bl x8 (w.heap.size + 1 + 1 + 1) #[.int .i64 qx, .int .i64 qy] := by rw [hx8]; exact (Bl.set bv (by simp))
                replace h1 := But.cell hbut h1 (by show g ≠ _; omega)
                replace h2 := But.cell hbut h2 (by show g ≠ _; omega)
                replace fs := But.fz hbut fs bs (Nat.succ_pos _) (by omega)
                replace bs := But.bl hbut bs (Nat.succ_pos _) (by omega)
                replace ft := But.fz hbut ft bt (Nat.succ_pos _) (by omega)
                replace bt := But.bl hbut bt (Nat.succ_pos _) (by omega)
                replace fr := But.fz hbut fr br (Nat.succ_pos _) (by omega)
                replace br := But.bl hbut br (Nat.succ_pos _) (by omega)
                replace fv : Fz x8 (w.heap.size + 1 + 1 + 1) := by rw [hx8]; exact (Fz.set fv)
                replace HE : Ext w x8 := by rw [hx8]; exact HE.store (by show w.heap.size ≤ w.heap.size + 1 + 1 + 1; omega) _
                clear bv hbut hx8
                have bv := hbn
                clear hbn
                clear hd
                go_wp2_with fail
                go_roundw
                case rel => exact ⟨k + 1, qx, qy, qx, qy, by omega, by go_num, hidP (by rw [HBS.out]; simp only [Prod.mk.injEq]; have := HC0.out; have := HC1.out; have := HC2.out; have := HC3.out; omega), HE, br, bv, fr, fv, bs, bt, fs, ft⟩
                case measure => simp only [intOf]; omega
              · have hd : decide (b4 < qy) = false := decide_eq_false hc
                have HC3 := hidP hc
                clear hc
                go_wp2_with fail
                refine wp_region_plan (R := Ext) (.q 0 (.q 1 (.q 2 (.q 3 (.q 4 (.q 5 (.q 6 (.q 7 (.q 8 (.q 9 (.q 10 (.q 11 .done)))))))))))) (by kernel_rfl) (by kernel_rfl) (by kernel_rfl) (by kernel_rfl) Ext.refl (fun _ _ _ => Ext.trans) ?_
                refine absE (fun x7 hx7 => ?_)
                have hx : Ext x6 x7 := by rw [hx7]; exact (Ext.refl _).drew
                replace fs := Fz.ext hx fs bs (Nat.succ_pos _)
                replace bs := Bl.ext hx bs (Nat.succ_pos _)
                replace ft := Fz.ext hx ft bt (Nat.succ_pos _)
                replace bt := Bl.ext hx bt (Nat.succ_pos _)
                replace fr := Fz.ext hx fr br (Nat.succ_pos _)
                replace br := Bl.ext hx br (Nat.succ_pos _)
                replace fv := Fz.ext hx fv bv (Nat.succ_pos _)
                replace bv := Bl.ext hx bv (Nat.succ_pos _)
                replace h1 := hx.cell' h1
                replace h2 := hx.cell' h2
                replace HE := HE.trans hx
                clear hx
                clear hx7
                repeat (refine wpE_q (v := ?_) rfl rfl (fun u hu => ?_) ?_; rotate_left 1; (focus (have ks := Bl.ext hu bs (Nat.succ_pos _); have kt := Bl.ext hu bt (Nat.succ_pos _); have kr := Bl.ext hu br (Nat.succ_pos _); have kv := Bl.ext hu bv (Nat.succ_pos _); have kh1 := hu.cell' h1; have kh2 := hu.cell' h2; go_simp; (try rfl))); simp only [Act.put, List.setIfInBounds_toArray, List.set_cons_zero, List.set_cons_succ])
                refine wpE_done ?_
                go_upto_region 4 with fail
                clear hd
                go_wp2_with fail
                go_roundw
                case rel => exact ⟨k + 1, qx, qy, qx, b4, by omega, by go_num, hidP (by rw [HBS.out]; simp only [Prod.mk.injEq]; have := HC0.out; have := HC1.out; have := HC2.out; have := HC3.out; omega), HE, br, bv, fr, fv, bs, bt, fs, ft⟩
                case measure => simp only [intOf]; omega
            · have hd : decide (b3 < qx) = false := decide_eq_false hc
              have HC2 := hidP hc
              clear hc
              go_wp2_with fail
              refine wp_region_plan (R := Ext) (.q 0 (.q 1 (.q 2 (.q 3 (.q 4 (.q 5 (.q 6 (.q 7 (.q 8 (.q 9 (.q 10 (.q 11 .done)))))))))))) (by kernel_rfl) (by kernel_rfl) (by kernel_rfl) (by kernel_rfl) Ext.refl (fun _ _ _ => Ext.trans) ?_
              refine absE (fun x5 hx5 => ?_)
              have hx : Ext x4 x5 := by rw [hx5]; exact (Ext.refl _).drew
              replace fs := Fz.ext hx fs bs (Nat.succ_pos _)
              replace bs := Bl.ext hx bs (Nat.succ_pos _)
              replace ft := Fz.ext hx ft bt (Nat.succ_pos _)
              replace bt := Bl.ext hx bt (Nat.succ_pos _)
              replace fr := Fz.ext hx fr br (Nat.succ_pos _)
              replace br := Bl.ext hx br (Nat.succ_pos _)
              replace fv := Fz.ext hx fv bv (Nat.succ_pos _)
              replace bv := Bl.ext hx bv (Nat.succ_pos _)
              replace h1 := hx.cell' h1
              replace h2 := hx.cell' h2
              replace HE := HE.trans hx
              clear hx
              clear hx5
              repeat (refine wpE_q (v := ?_) rfl rfl (fun u hu => ?_) ?_; rotate_left 1; (focus (have ks := Bl.ext hu bs (Nat.succ_pos _); have kt := Bl.ext hu bt (Nat.succ_pos _); have kr := Bl.ext hu br (Nat.succ_pos _); have kv := Bl.ext hu bv (Nat.succ_pos _); have kh1 := hu.cell' h1; have kh2 := hu.cell' h2; go_simp; (try rfl))); simp only [Act.put, List.setIfInBounds_toArray, List.set_cons_zero, List.set_cons_succ])
              refine wpE_done ?_
              go_upto_region 11 with fail
              clear hd
              by_cases hc : b4 < qy
              · have hd : decide (b4 < qy) = true := decide_eq_true hc
                have HC3 := hidP hc
                clear hc
                go_wp2_with fail
                refine wp_region_plan (R := Ext) (.q 0 (.q 1 (.q 2 (.q 3 (.q 4 (.q 5 (.q 6 (.q 7 (.q 8 (.q 9 (.q 10 (.q 11 .done)))))))))))) (by kernel_rfl) (by kernel_rfl) (by kernel_rfl) (by kernel_rfl) Ext.refl (fun _ _ _ => Ext.trans) ?_
                refine absE (fun x6 hx6 => ?_)
                have hx : Ext x5 x6 := by rw [hx6]; exact (Ext.refl _).drew
                replace fs := Fz.ext hx fs bs (Nat.succ_pos _)
                replace bs := Bl.ext hx bs (Nat.succ_pos _)
                replace ft := Fz.ext hx ft bt (Nat.succ_pos _)
                replace bt := Bl.ext hx bt (Nat.succ_pos _)
                replace fr := Fz.ext hx fr br (Nat.succ_pos _)
                replace br := Bl.ext hx br (Nat.succ_pos _)
                replace fv := Fz.ext hx fv bv (Nat.succ_pos _)
                replace bv := Bl.ext hx bv (Nat.succ_pos _)
                replace h1 := hx.cell' h1
                replace h2 := hx.cell' h2
                replace HE := HE.trans hx
                clear hx
                clear hx6
                repeat (refine wpE_q (v := ?_) rfl rfl (fun u hu => ?_) ?_; rotate_left 1; (focus (have ks := Bl.ext hu bs (Nat.succ_pos _); have kt := Bl.ext hu bt (Nat.succ_pos _); have kr := Bl.ext hu br (Nat.succ_pos _); have kv := Bl.ext hu bv (Nat.succ_pos _); have kh1 := hu.cell' h1; have kh2 := hu.cell' h2; go_simp; (try rfl))); simp only [Act.put, List.setIfInBounds_toArray, List.set_cons_zero, List.set_cons_succ])
                refine wpE_done ?_
                go_upto_region 4 with fail
                refine absW (fun x7 hx7 => ?_)
                have hbut : But x6 x7 (w.heap.size + 1 + 1 + 1) := by rw [hx7]; exact (But.refl _ _).store
                have hbn : Bl x7 (w.heap.size + 1 + 1 + 1) #[.int .i64 b3, .int .i64 qy] := by rw [hx7]; exact (Bl.set bv (by simp))
                replace h1 := But.cell hbut h1 (by show g ≠ _; omega)
                replace h2 := But.cell hbut h2 (by show g ≠ _; omega)
                replace fs := But.fz hbut fs bs (Nat.succ_pos _) (by omega)
                replace bs := But.bl hbut bs (Nat.succ_pos _) (by omega)
                replace ft := But.fz hbut ft bt (Nat.succ_pos _) (by omega)
                replace bt := But.bl hbut bt (Nat.succ_pos _) (by omega)
                replace fr := But.fz hbut fr br (Nat.succ_pos _) (by omega)
                replace br := But.bl hbut br (Nat.succ_pos _) (by omega)
                replace fv : Fz x7 (w.heap.size + 1 + 1 + 1) := by rw [hx7]; exact (Fz.set fv)
                replace HE : Ext w x7 := by rw [hx7]; exact HE.store (by show w.heap.size ≤ w.heap.size + 1 + 1 + 1; omega) _
                clear bv hbut hx7
                have bv := hbn
                clear hbn
                clear hd
                go_wp2_with fail
                go_roundw
                case rel => exact ⟨k + 1, qx, qy, b3, qy, by omega, by go_num, hidP (by rw [HBS.out]; simp only [Prod.mk.injEq]; have := HC0.out; have := HC1.out; have := HC2.out; have := HC3.out; omega), HE, br, bv, fr, fv, bs, bt, fs, ft⟩
                case measure => simp only [intOf]; omega
              · have hd : decide (b4 < qy) = false := decide_eq_false hc
                have HC3 := hidP hc
                clear hc
                go_wp2_with fail
                refine wp_region_plan (R := Ext) (.q 0 (.q 1 (.q 2 (.q 3 (.q 4 (.q 5 (.q 6 (.q 7 (.q 8 (.q 9 (.q 10 (.q 11 .done)))))))))))) (by kernel_rfl) (by kernel_rfl) (by kernel_rfl) (by kernel_rfl) Ext.refl (fun _ _ _ => Ext.trans) ?_
                refine absE (fun x6 hx6 => ?_)
                have hx : Ext x5 x6 := by rw [hx6]; exact (Ext.refl _).drew
                replace fs := Fz.ext hx fs bs (Nat.succ_pos _)
                replace bs := Bl.ext hx bs (Nat.succ_pos _)
                replace ft := Fz.ext hx ft bt (Nat.succ_pos _)
                replace bt := Bl.ext hx bt (Nat.succ_pos _)
                replace fr := Fz.ext hx fr br (Nat.succ_pos _)
                replace br := Bl.ext hx br (Nat.succ_pos _)
                replace fv := Fz.ext hx fv bv (Nat.succ_pos _)
                replace bv := Bl.ext hx bv (Nat.succ_pos _)
                replace h1 := hx.cell' h1
                replace h2 := hx.cell' h2
                replace HE := HE.trans hx
                clear hx
                clear hx6
                repeat (refine wpE_q (v := ?_) rfl rfl (fun u hu => ?_) ?_; rotate_left 1; (focus (have ks := Bl.ext hu bs (Nat.succ_pos _); have kt := Bl.ext hu bt (Nat.succ_pos _); have kr := Bl.ext hu br (Nat.succ_pos _); have kv := Bl.ext hu bv (Nat.succ_pos _); have kh1 := hu.cell' h1; have kh2 := hu.cell' h2; go_simp; (try rfl))); simp only [Act.put, List.setIfInBounds_toArray, List.set_cons_zero, List.set_cons_succ])
                refine wpE_done ?_
                go_upto_region 4 with fail
                clear hd
                go_wp2_with fail
                go_roundw
                case rel => exact ⟨k + 1, qx, qy, b3, b4, by omega, by go_num, hidP (by rw [HBS.out]; simp only [Prod.mk.injEq]; have := HC0.out; have := HC1.out; have := HC2.out; have := HC3.out; omega), HE, br, bv, fr, fv, bs, bt, fs, ft⟩
                case measure => simp only [intOf]; omega
          · have hd : decide (qy < b2) = false := decide_eq_false hc
            have HC1 := hidP hc
            clear hc
            go_wp2_with fail
            refine wp_region_plan (R := Ext) (.q 0 (.q 1 (.q 2 (.q 3 (.q 4 (.q 5 (.q 6 (.q 7 (.q 8 (.q 9 (.q 10 (.q 11 .done)))))))))))) (by kernel_rfl) (by kernel_rfl) (by kernel_rfl) (by kernel_rfl) Ext.refl (fun _ _ _ => Ext.trans) ?_
            refine absE (fun x3 hx3 => ?_)
            have hx : Ext x2 x3 := by rw [hx3]; exact (Ext.refl _).drew
            replace fs := Fz.ext hx fs bs (Nat.succ_pos _)
            replace bs := Bl.ext hx bs (Nat.succ_pos _)
            replace ft := Fz.ext hx ft bt (Nat.succ_pos _)
            replace bt := Bl.ext hx bt (Nat.succ_pos _)
            replace fr := Fz.ext hx fr br (Nat.succ_pos _)
            replace br := Bl.ext hx br (Nat.succ_pos _)
            replace fv := Fz.ext hx fv bv (Nat.succ_pos _)
            replace bv := Bl.ext hx bv (Nat.succ_pos _)
            replace h1 := hx.cell' h1
            replace h2 := hx.cell' h2
            replace HE := HE.trans hx
            clear hx
            clear hx3
            repeat (refine wpE_q (v := ?_) rfl rfl (fun u hu => ?_) ?_; rotate_left 1; (focus (have ks := Bl.ext hu bs (Nat.succ_pos _); have kt := Bl.ext hu bt (Nat.succ_pos _); have kr := Bl.ext hu br (Nat.succ_pos _); have kv := Bl.ext hu bv (Nat.succ_pos _); have kh1 := hu.cell' h1; have kh2 := hu.cell' h2; go_simp; (try rfl))); simp only [Act.put, List.setIfInBounds_toArray, List.set_cons_zero, List.set_cons_succ])
            refine wpE_done ?_
            go_upto_region 9 with fail
            clear hd
            by_cases hc : b3 < qx
            · have hd : decide (b3 < qx) = true := decide_eq_true hc
              have HC2 := hidP hc
              clear hc
              go_wp2_with fail
              refine wp_region_plan (R := Ext) (.q 0 (.q 1 (.q 2 (.q 3 (.q 4 (.q 5 (.q 6 (.q 7 (.q 8 (.q 9 (.q 10 (.q 11 .done)))))))))))) (by kernel_rfl) (by kernel_rfl) (by kernel_rfl) (by kernel_rfl) Ext.refl (fun _ _ _ => Ext.trans) ?_
              refine absE (fun x4 hx4 => ?_)
              have hx : Ext x3 x4 := by rw [hx4]; exact (Ext.refl _).drew
              replace fs := Fz.ext hx fs bs (Nat.succ_pos _)
              replace bs := Bl.ext hx bs (Nat.succ_pos _)
              replace ft := Fz.ext hx ft bt (Nat.succ_pos _)
              replace bt := Bl.ext hx bt (Nat.succ_pos _)
              replace fr := Fz.ext hx fr br (Nat.succ_pos _)
              replace br := Bl.ext hx br (Nat.succ_pos _)
              replace fv := Fz.ext hx fv bv (Nat.succ_pos _)
              replace bv := Bl.ext hx bv (Nat.succ_pos _)
              replace h1 := hx.cell' h1
              replace h2 := hx.cell' h2
              replace HE := HE.trans hx
              clear hx
              clear hx4
              repeat (refine wpE_q (v := ?_) rfl rfl (fun u hu => ?_) ?_; rotate_left 1; (focus (have ks := Bl.ext hu bs (Nat.succ_pos _); have kt := Bl.ext hu bt (Nat.succ_pos _); have kr := Bl.ext hu br (Nat.succ_pos _); have kv := Bl.ext hu bv (Nat.succ_pos _); have kh1 := hu.cell' h1; have kh2 := hu.cell' h2; go_simp; (try rfl))); simp only [Act.put, List.setIfInBounds_toArray, List.set_cons_zero, List.set_cons_succ])
              refine wpE_done ?_
              go_upto_region 11 with fail
              refine absW (fun x5 hx5 => ?_)
              have hbut : But x4 x5 (w.heap.size + 1 + 1 + 1) := by rw [hx5]; exact (But.refl _ _).store
              have hbn : Bl x5 (w.heap.size + 1 + 1 + 1) #[.int .i64 qx, .int .i64 b4] := by rw [hx5]; exact (Bl.set bv (by simp))
              replace h1 := But.cell hbut h1 (by show g ≠ _; omega)
              replace h2 := But.cell hbut h2 (by show g ≠ _; omega)
              replace fs := But.fz hbut fs bs (Nat.succ_pos _) (by omega)
              replace bs := But.bl hbut bs (Nat.succ_pos _) (by omega)
              replace ft := But.fz hbut ft bt (Nat.succ_pos _) (by omega)
              replace bt := But.bl hbut bt (Nat.succ_pos _) (by omega)
              replace fr := But.fz hbut fr br (Nat.succ_pos _) (by omega)
              replace br := But.bl hbut br (Nat.succ_pos _) (by omega)
              replace fv : Fz x5 (w.heap.size + 1 + 1 + 1) := by rw [hx5]; exact (Fz.set fv)
              replace HE : Ext w x5 := by rw [hx5]; exact HE.store (by show w.heap.size ≤ w.heap.size + 1 + 1 + 1; omega) _
              clear bv hbut hx5
              have bv := hbn
              clear hbn
              clear hd
              by_cases hc : b4 < qy
              · have hd : decide (b4 < qy) = true := decide_eq_true hc
                have HC3 := hidP hc
                clear hc
                go_wp2_with fail
                refine wp_region_plan (R := Ext) (.q 0 (.q 1 (.q 2 (.q 3 (.q 4 (.q 5 (.q 6 (.q 7 (.q 8 (.q 9 (.q 10 (.q 11 .done)))))))))))) (by kernel_rfl) (by kernel_rfl) (by kernel_rfl) (by kernel_rfl) Ext.refl (fun _ _ _ => Ext.trans) ?_
                refine absE (fun x6 hx6 => ?_)
                have hx : Ext x5 x6 := by rw [hx6]; exact (Ext.refl _).drew
                replace fs := Fz.ext hx fs bs (Nat.succ_pos _)
                replace bs := Bl.ext hx bs (Nat.succ_pos _)
                replace ft := Fz.ext hx ft bt (Nat.succ_pos _)
                replace bt := Bl.ext hx bt (Nat.succ_pos _)
                replace fr := Fz.ext hx fr br (Nat.succ_pos _)
                replace br := Bl.ext hx br (Nat.succ_pos _)
                replace fv := Fz.ext hx fv bv (Nat.succ_pos _)
                replace bv := Bl.ext hx bv (Nat.succ_pos _)
                replace h1 := hx.cell' h1
                replace h2 := hx.cell' h2
                replace HE := HE.trans hx
                clear hx
                clear hx6
                repeat (refine wpE_q (v := ?_) rfl rfl (fun u hu => ?_) ?_; rotate_left 1; (focus (have ks := Bl.ext hu bs (Nat.succ_pos _); have kt := Bl.ext hu bt (Nat.succ_pos _); have kr := Bl.ext hu br (Nat.succ_pos _); have kv := Bl.ext hu bv (Nat.succ_pos _); have kh1 := hu.cell' h1; have kh2 := hu.cell' h2; go_simp; (try rfl))); simp only [Act.put, List.setIfInBounds_toArray, List.set_cons_zero, List.set_cons_succ])
                refine wpE_done ?_
                go_upto_region 4 with fail
                refine absW (fun x7 hx7 => ?_)
                have hbut : But x6 x7 (w.heap.size + 1 + 1 + 1) := by rw [hx7]; exact (But.refl _ _).store
                have hbn : Bl x7 (w.heap.size + 1 + 1 + 1) #[.int .i64 qx, .int .i64 qy] := by rw [hx7]; exact (Bl.set bv (by simp))
                replace h1 := But.cell hbut h1 (by show g ≠ _; omega)
                replace h2 := But.cell hbut h2 (by show g ≠ _; omega)
                replace fs := But.fz hbut fs bs (Nat.succ_pos _) (by omega)
                replace bs := But.bl hbut bs (Nat.succ_pos _) (by omega)
                replace ft := But.fz hbut ft bt (Nat.succ_pos _) (by omega)
                replace bt := But.bl hbut bt (Nat.succ_pos _) (by omega)
                replace fr := But.fz hbut fr br (Nat.succ_pos _) (by omega)
                replace br := But.bl hbut br (Nat.succ_pos _) (by omega)
                replace fv : Fz x7 (w.heap.size + 1 + 1 + 1) := by rw [hx7]; exact (Fz.set fv)
                replace HE : Ext w x7 := by rw [hx7]; exact HE.store (by show w.heap.size ≤ w.heap.size + 1 + 1 + 1; omega) _
                clear bv hbut hx7
                have bv := hbn
                clear hbn
                clear hd
                go_wp2_with fail
                go_roundw
                case rel => exact ⟨k + 1, qx, b2, qx, qy, by omega, by go_num, hidP (by rw [HBS.out]; simp only [Prod.mk.injEq]; have := HC0.out; have := HC1.out; have := HC2.out; have := HC3.out; omega), HE, br, bv, fr, fv, bs, bt, fs, ft⟩
                case measure => simp only [intOf]; omega
              · have hd : decide (b4 < qy) = false := decide_eq_false hc
                have HC3 := hidP hc
                clear hc
                go_wp2_with fail
                refine wp_region_plan (R := Ext) (.q 0 (.q 1 (.q 2 (.q 3 (.q 4 (.q 5 (.q 6 (.q 7 (.q 8 (.q 9 (.q 10 (.q 11 .done)))))))))))) (by kernel_rfl) (by kernel_rfl) (by kernel_rfl) (by kernel_rfl) Ext.refl (fun _ _ _ => Ext.trans) ?_
                refine absE (fun x6 hx6 => ?_)
                have hx : Ext x5 x6 := by rw [hx6]; exact (Ext.refl _).drew
                replace fs := Fz.ext hx fs bs (Nat.succ_pos _)
                replace bs := Bl.ext hx bs (Nat.succ_pos _)
                replace ft := Fz.ext hx ft bt (Nat.succ_pos _)
                replace bt := Bl.ext hx bt (Nat.succ_pos _)
                replace fr := Fz.ext hx fr br (Nat.succ_pos _)
                replace br := Bl.ext hx br (Nat.succ_pos _)
                replace fv := Fz.ext hx fv bv (Nat.succ_pos _)
                replace bv := Bl.ext hx bv (Nat.succ_pos _)
                replace h1 := hx.cell' h1
                replace h2 := hx.cell' h2
                replace HE := HE.trans hx
                clear hx
                clear hx6
                repeat (refine wpE_q (v := ?_) rfl rfl (fun u hu => ?_) ?_; rotate_left 1; (focus (have ks := Bl.ext hu bs (Nat.succ_pos _); have kt := Bl.ext hu bt (Nat.succ_pos _); have kr := Bl.ext hu br (Nat.succ_pos _); have kv := Bl.ext hu bv (Nat.succ_pos _); have kh1 := hu.cell' h1; have kh2 := hu.cell' h2; go_simp; (try rfl))); simp only [Act.put, List.setIfInBounds_toArray, List.set_cons_zero, List.set_cons_succ])
                refine wpE_done ?_
                go_upto_region 4 with fail
                clear hd
                go_wp2_with fail
                go_roundw
                case rel => exact ⟨k + 1, qx, b2, qx, b4, by omega, by go_num, hidP (by rw [HBS.out]; simp only [Prod.mk.injEq]; have := HC0.out; have := HC1.out; have := HC2.out; have := HC3.out; omega), HE, br, bv, fr, fv, bs, bt, fs, ft⟩
                case measure => simp only [intOf]; omega
            · have hd : decide (b3 < qx) = false := decide_eq_false hc
              have HC2 := hidP hc
              clear hc
              go_wp2_with fail
              refine wp_region_plan (R := Ext) (.q 0 (.q 1 (.q 2 (.q 3 (.q 4 (.q 5 (.q 6 (.q 7 (.q 8 (.q 9 (.q 10 (.q 11 .done)))))))))))) (by kernel_rfl) (by kernel_rfl) (by kernel_rfl) (by kernel_rfl) Ext.refl (fun _ _ _ => Ext.trans) ?_
              refine absE (fun x4 hx4 => ?_)
              have hx : Ext x3 x4 := by rw [hx4]; exact (Ext.refl _).drew
              replace fs := Fz.ext hx fs bs (Nat.succ_pos _)
              replace bs := Bl.ext hx bs (Nat.succ_pos _)
              replace ft := Fz.ext hx ft bt (Nat.succ_pos _)
              replace bt := Bl.ext hx bt (Nat.succ_pos _)
              replace fr := Fz.ext hx fr br (Nat.succ_pos _)
              replace br := Bl.ext hx br (Nat.succ_pos _)
              replace fv := Fz.ext hx fv bv (Nat.succ_pos _)
              replace bv := Bl.ext hx bv (Nat.succ_pos _)
              replace h1 := hx.cell' h1
              replace h2 := hx.cell' h2
              replace HE := HE.trans hx
              clear hx
              clear hx4
              repeat (refine wpE_q (v := ?_) rfl rfl (fun u hu => ?_) ?_; rotate_left 1; (focus (have ks := Bl.ext hu bs (Nat.succ_pos _); have kt := Bl.ext hu bt (Nat.succ_pos _); have kr := Bl.ext hu br (Nat.succ_pos _); have kv := Bl.ext hu bv (Nat.succ_pos _); have kh1 := hu.cell' h1; have kh2 := hu.cell' h2; go_simp; (try rfl))); simp only [Act.put, List.setIfInBounds_toArray, List.set_cons_zero, List.set_cons_succ])
              refine wpE_done ?_
              go_upto_region 11 with fail
              clear hd
              by_cases hc : b4 < qy
              · have hd : decide (b4 < qy) = true := decide_eq_true hc
                have HC3 := hidP hc
                clear hc
                go_wp2_with fail
                refine wp_region_plan (R := Ext) (.q 0 (.q 1 (.q 2 (.q 3 (.q 4 (.q 5 (.q 6 (.q 7 (.q 8 (.q 9 (.q 10 (.q 11 .done)))))))))))) (by kernel_rfl) (by kernel_rfl) (by kernel_rfl) (by kernel_rfl) Ext.refl (fun _ _ _ => Ext.trans) ?_
                refine absE (fun x5 hx5 => ?_)
                have hx : Ext x4 x5 := by rw [hx5]; exact (Ext.refl _).drew
                replace fs := Fz.ext hx fs bs (Nat.succ_pos _)
                replace bs := Bl.ext hx bs (Nat.succ_pos _)
                replace ft := Fz.ext hx ft bt (Nat.succ_pos _)
                replace bt := Bl.ext hx bt (Nat.succ_pos _)
                replace fr := Fz.ext hx fr br (Nat.succ_pos _)
                replace br := Bl.ext hx br (Nat.succ_pos _)
                replace fv := Fz.ext hx fv bv (Nat.succ_pos _)
                replace bv := Bl.ext hx bv (Nat.succ_pos _)
                replace h1 := hx.cell' h1
                replace h2 := hx.cell' h2
                replace HE := HE.trans hx
                clear hx
                clear hx5
                repeat (refine wpE_q (v := ?_) rfl rfl (fun u hu => ?_) ?_; rotate_left 1; (focus (have ks := Bl.ext hu bs (Nat.succ_pos _); have kt := Bl.ext hu bt (Nat.succ_pos _); have kr := Bl.ext hu br (Nat.succ_pos _); have kv := Bl.ext hu bv (Nat.succ_pos _); have kh1 := hu.cell' h1; have kh2 := hu.cell' h2; go_simp; (try rfl))); simp only [Act.put, List.setIfInBounds_toArray, List.set_cons_zero, List.set_cons_succ])
                refine wpE_done ?_
                go_upto_region 4 with fail
                refine absW (fun x6 hx6 => ?_)
                have hbut : But x5 x6 (w.heap.size + 1 + 1 + 1) := by rw [hx6]; exact (But.refl _ _).store
                have hbn : Bl x6 (w.heap.size + 1 + 1 + 1) #[.int .i64 b3, .int .i64 qy] := by rw [hx6]; exact (Bl.set bv (by simp))
                replace h1 := But.cell hbut h1 (by show g ≠ _; omega)
                replace h2 := But.cell hbut h2 (by show g ≠ _; omega)
                replace fs := But.fz hbut fs bs (Nat.succ_pos _) (by omega)
                replace bs := But.bl hbut bs (Nat.succ_pos _) (by omega)
                replace ft := But.fz hbut ft bt (Nat.succ_pos _) (by omega)
                replace bt := But.bl hbut bt (Nat.succ_pos _) (by omega)
                replace fr := But.fz hbut fr br (Nat.succ_pos _) (by omega)
                replace br := But.bl hbut br (Nat.succ_pos _) (by omega)
                replace fv : Fz x6 (w.heap.size + 1 + 1 + 1) := by rw [hx6]; exact (Fz.set fv)
                replace HE : Ext w x6 := by rw [hx6]; exact HE.store (by show w.heap.size ≤ w.heap.size + 1 + 1 + 1; omega) _
                clear bv hbut hx6
                have bv := hbn
                clear hbn
                clear hd
                go_wp2_with fail
                go_roundw
                case rel => exact ⟨k + 1, qx, b2, b3, qy, by omega, by go_num, hidP (by rw [HBS.out]; simp only [Prod.mk.injEq]; have := HC0.out; have := HC1.out; have := HC2.out; have := HC3.out; omega), HE, br, bv, fr, fv, bs, bt, fs, ft⟩
                case measure => simp only [intOf]; omega
              · have hd : decide (b4 < qy) = false := decide_eq_false hc
                have HC3 := hidP hc
                clear hc
                go_wp2_with fail
                refine wp_region_plan (R := Ext) (.q 0 (.q 1 (.q 2 (.q 3 (.q 4 (.q 5 (.q 6 (.q 7 (.q 8 (.q 9 (.q 10 (.q 11 .done)))))))))))) (by kernel_rfl) (by kernel_rfl) (by kernel_rfl) (by kernel_rfl) Ext.refl (fun _ _ _ => Ext.trans) ?_
                refine absE (fun x5 hx5 => ?_)
                have hx : Ext x4 x5 := by rw [hx5]; exact (Ext.refl _).drew
                replace fs := Fz.ext hx fs bs (Nat.succ_pos _)
                replace bs := Bl.ext hx bs (Nat.succ_pos _)
                replace ft := Fz.ext hx ft bt (Nat.succ_pos _)
                replace bt := Bl.ext hx bt (Nat.succ_pos _)
                replace fr := Fz.ext hx fr br (Nat.succ_pos _)
                replace br := Bl.ext hx br (Nat.succ_pos _)
                replace fv := Fz.ext hx fv bv (Nat.succ_pos _)
                replace bv := Bl.ext hx bv (Nat.succ_pos _)
                replace h1 := hx.cell' h1
                replace h2 := hx.cell' h2
                replace HE := HE.trans hx
                clear hx
                clear hx5
                repeat (refine wpE_q (v := ?_) rfl rfl (fun u hu => ?_) ?_; rotate_left 1; (focus (have ks := Bl.ext hu bs (Nat.succ_pos _); have kt := Bl.ext hu bt (Nat.succ_pos _); have kr := Bl.ext hu br (Nat.succ_pos _); have kv := Bl.ext hu bv (Nat.succ_pos _); have kh1 := hu.cell' h1; have kh2 := hu.cell' h2; go_simp; (try rfl))); simp only [Act.put, List.setIfInBounds_toArray, List.set_cons_zero, List.set_cons_succ])
                refine wpE_done ?_
                go_upto_region 4 with fail
                clear hd
                go_wp2_with fail
                go_roundw
                case rel => exact ⟨k + 1, qx, b2, b3, b4, by omega, by go_num, hidP (by rw [HBS.out]; simp only [Prod.mk.injEq]; have := HC0.out; have := HC1.out; have := HC2.out; have := HC3.out; omega), HE, br, bv, fr, fv, bs, bt, fs, ft⟩
                case measure => simp only [intOf]; omega
        · have hd : decide (qx < b1) = false := decide_eq_false hc
          have HC0 := hidP hc
          clear hc
          go_wp2_with fail
          refine wp_region_plan (R := Ext) (.q 0 (.q 1 (.q 2 (.q 3 (.q 4 (.q 5 (.q 6 (.q 7 (.q 8 (.q 9 (.q 10 (.q 11 .done)))))))))))) (by kernel_rfl) (by kernel_rfl) (by kernel_rfl) (by kernel_rfl) Ext.refl (fun _ _ _ => Ext.trans) ?_
          refine absE (fun x1 hx1 => ?_)
          have hx : Ext wr x1 := by rw [hx1]; exact (Ext.refl _).drew
          replace fs := Fz.ext hx fs bs (Nat.succ_pos _)
          replace bs := Bl.ext hx bs (Nat.succ_pos _)
          replace ft := Fz.ext hx ft bt (Nat.succ_pos _)
          replace bt := Bl.ext hx bt (Nat.succ_pos _)
          replace fr := Fz.ext hx fr br (Nat.succ_pos _)
          replace br := Bl.ext hx br (Nat.succ_pos _)
          replace fv := Fz.ext hx fv bv (Nat.succ_pos _)
          replace bv := Bl.ext hx bv (Nat.succ_pos _)
          replace h1 := hx.cell' h1
          replace h2 := hx.cell' h2
          replace HE := HE.trans hx
          clear hx
          clear hx1
          repeat (refine wpE_q (v := ?_) rfl rfl (fun u hu => ?_) ?_; rotate_left 1; (focus (have ks := Bl.ext hu bs (Nat.succ_pos _); have kt := Bl.ext hu bt (Nat.succ_pos _); have kr := Bl.ext hu br (Nat.succ_pos _); have kv := Bl.ext hu bv (Nat.succ_pos _); have kh1 := hu.cell' h1; have kh2 := hu.cell' h2; go_simp; (try rfl))); simp only [Act.put, List.setIfInBounds_toArray, List.set_cons_zero, List.set_cons_succ])
          refine wpE_done ?_
          go_upto_region 7 with fail
          clear hd
          by_cases hc : qy < b2
          · have hd : decide (qy < b2) = true := decide_eq_true hc
            have HC1 := hidP hc
            clear hc
            go_wp2_with fail
            refine wp_region_plan (R := Ext) (.q 0 (.q 1 (.q 2 (.q 3 (.q 4 (.q 5 (.q 6 (.q 7 (.q 8 (.q 9 (.q 10 (.q 11 .done)))))))))))) (by kernel_rfl) (by kernel_rfl) (by kernel_rfl) (by kernel_rfl) Ext.refl (fun _ _ _ => Ext.trans) ?_
            refine absE (fun x2 hx2 => ?_)
            have hx : Ext x1 x2 := by rw [hx2]; exact (Ext.refl _).drew
            replace fs := Fz.ext hx fs bs (Nat.succ_pos _)
            replace bs := Bl.ext hx bs (Nat.succ_pos _)
            replace ft := Fz.ext hx ft bt (Nat.succ_pos _)
            replace bt := Bl.ext hx bt (Nat.succ_pos _)
            replace fr := Fz.ext hx fr br (Nat.succ_pos _)
            replace br := Bl.ext hx br (Nat.succ_pos _)
            replace fv := Fz.ext hx fv bv (Nat.succ_pos _)
            replace bv := Bl.ext hx bv (Nat.succ_pos _)
            replace h1 := hx.cell' h1
            replace h2 := hx.cell' h2
            replace HE := HE.trans hx
            clear hx
            clear hx2
            repeat (refine wpE_q (v := ?_) rfl rfl (fun u hu => ?_) ?_; rotate_left 1; (focus (have ks := Bl.ext hu bs (Nat.succ_pos _); have kt := Bl.ext hu bt (Nat.succ_pos _); have kr := Bl.ext hu br (Nat.succ_pos _); have kv := Bl.ext hu bv (Nat.succ_pos _); have kh1 := hu.cell' h1; have kh2 := hu.cell' h2; go_simp; (try rfl))); simp only [Act.put, List.setIfInBounds_toArray, List.set_cons_zero, List.set_cons_succ])
            refine wpE_done ?_
            go_upto_region 9 with fail
            refine absW (fun x3 hx3 => ?_)
            have hbut : But x2 x3 (w.heap.size + 1 + 1) := by rw [hx3]; exact (But.refl _ _).store
            have hbn : Bl x3 (w.heap.size + 1 + 1) #[.int .i64 b1, .int .i64 qy] := by rw [hx3]; exact (Bl.set br (by simp))
            replace h1 := But.cell hbut h1 (by show g ≠ _; omega)
            replace h2 := But.cell hbut h2 (by show g ≠ _; omega)
            replace fs := But.fz hbut fs bs (Nat.succ_pos _) (by omega)
            replace bs := But.bl hbut bs (Nat.succ_pos _) (by omega)
            replace ft := But.fz hbut ft bt (Nat.succ_pos _) (by omega)
            replace bt := But.bl hbut bt (Nat.succ_pos _) (by omega)
            replace fv := But.fz hbut fv bv (Nat.succ_pos _) (by omega)
            replace bv := But.bl hbut bv (Nat.succ_pos _) (by omega)
            replace fr : Fz x3 (w.heap.size + 1 + 1) := by rw [hx3]; exact (Fz.set fr)
            replace HE : Ext w x3 := by rw [hx3]; exact HE.store (by show w.heap.size ≤ w.heap.size + 1 + 1; omega) _
            clear br hbut hx3
            have br := hbn
            clear hbn
            clear hd
            by_cases hc : b3 < qx
            · have hd : decide (b3 < qx) = true := decide_eq_true hc
              have HC2 := hidP hc
              clear hc
              go_wp2_with fail
              refine wp_region_plan (R := Ext) (.q 0 (.q 1 (.q 2 (.q 3 (.q 4 (.q 5 (.q 6 (.q 7 (.q 8 (.q 9 (.q 10 (.q 11 .done)))))))))))) (by kernel_rfl) (by kernel_rfl) (by kernel_rfl) (by kernel_rfl) Ext.refl (fun _ _ _ => Ext.trans) ?_
              refine absE (fun x4 hx4 => ?_)
              have hx : Ext x3 x4 := by rw [hx4]; exact (Ext.refl _).drew
              replace fs := Fz.ext hx fs bs (Nat.succ_pos _)
              replace bs := Bl.ext hx bs (Nat.succ_pos _)
              replace ft := Fz.ext hx ft bt (Nat.succ_pos _)
              replace bt := Bl.ext hx bt (Nat.succ_pos _)
              replace fr := Fz.ext hx fr br (Nat.succ_pos _)
              replace br := Bl.ext hx br (Nat.succ_pos _)
              replace fv := Fz.ext hx fv bv (Nat.succ_pos _)
              replace bv := Bl.ext hx bv (Nat.succ_pos _)
              replace h1 := hx.cell' h1
              replace h2 := hx.cell' h2
              replace HE := HE.trans hx
              clear hx
              clear hx4
              repeat (refine wpE_q (v := ?_) rfl rfl (fun u hu => ?_) ?_; rotate_left 1; (focus (have ks := Bl.ext hu bs (Nat.succ_pos _); have kt := Bl.ext hu bt (Nat.succ_pos _); have kr := Bl.ext hu br (Nat.succ_pos _); have kv := Bl.ext hu bv (Nat.succ_pos _); have kh1 := hu.cell' h1; have kh2 := hu.cell' h2; go_simp; (try rfl))); simp only [Act.put, List.setIfInBounds_toArray, List.set_cons_zero, List.set_cons_succ])
              refine wpE_done ?_
              go_upto_region 11 with fail
              refine absW (fun x5 hx5 => ?_)
              have hbut : But x4 x5 (w.heap.size + 1 + 1 + 1) := by rw [hx5]; exact (But.refl _ _).store
              have hbn : Bl x5 (w.heap.size + 1 + 1 + 1) #[.int .i64 qx, .int .i64 b4] := by rw [hx5]; exact (Bl.set bv (by simp))
              replace h1 := But.cell hbut h1 (by show g ≠ _; omega)
              replace h2 := But.cell hbut h2 (by show g ≠ _; omega)
              replace fs := But.fz hbut fs bs (Nat.succ_pos _) (by omega)
              replace bs := But.bl hbut bs (Nat.succ_pos _) (by omega)
              replace ft := But.fz hbut ft bt (Nat.succ_pos _) (by omega)
              replace bt := But.bl hbut bt (Nat.succ_pos _) (by omega)
              replace fr := But.fz hbut fr br (Nat.succ_pos _) (by omega)
              replace br := But.bl hbut br (Nat.succ_pos _) (by omega)
              replace fv : Fz x5 (w.heap.size + 1 + 1 + 1) := by rw [hx5]; exact (Fz.set fv)
              replace HE : Ext w x5 := by rw [hx5]; exact HE.store (by show w.heap.size ≤ w.heap.size + 1 + 1 + 1; omega) _
              clear bv hbut hx5
              have bv := hbn
              clear hbn
              clear hd
              by_cases hc : b4 < qy
              · have hd : decide (b4 < qy) = true := decide_eq_true hc
                have HC3 := hidP hc
                clear hc
                go_wp2_with fail
                refine wp_region_plan (R := Ext) (.q 0 (.q 1 (.q 2 (.q 3 (.q 4 (.q 5 (.q 6 (.q 7 (.q 8 (.q 9 (.q 10 (.q 11 .done)))))))))))) (by kernel_rfl) (by kernel_rfl) (by kernel_rfl) (by kernel_rfl) Ext.refl (fun _ _ _ => Ext.trans) ?_
                refine absE (fun x6 hx6 => ?_)
                have hx : Ext x5 x6 := by rw [hx6]; exact (Ext.refl _).drew
                replace fs := Fz.ext hx fs bs (Nat.succ_pos _)
                replace bs := Bl.ext hx bs (Nat.succ_pos _)
                replace ft := Fz.ext hx ft bt (Nat.succ_pos _)
                replace bt := Bl.ext hx bt (Nat.succ_pos _)
                replace fr := Fz.ext hx fr br (Nat.succ_pos _)
                replace br := Bl.ext hx br (Nat.succ_pos _)
                replace fv := Fz.ext hx fv bv (Nat.succ_pos _)
                replace bv := Bl.ext hx bv (Nat.succ_pos _)
                replace h1 := hx.cell' h1
                replace h2 := hx.cell' h2
                replace HE := HE.trans hx
                clear hx
                clear hx6
                repeat (refine wpE_q (v := ?_) rfl rfl (fun u hu => ?_) ?_; rotate_left 1; (focus (have ks := Bl.ext hu bs (Nat.succ_pos _); have kt := Bl.ext hu bt (Nat.succ_pos _); have kr := Bl.ext hu br (Nat.succ_pos _); have kv := Bl.ext hu bv (Nat.succ_pos _); have kh1 := hu.cell' h1; have kh2 := hu.cell' h2; go_simp; (try rfl))); simp only [Act.put, List.setIfInBounds_toArray, List.set_cons_zero, List.set_cons_succ])
                refine wpE_done ?_
                go_upto_region 4 with fail
                refine absW (fun x7 hx7 => ?_)
                have hbut : But x6 x7 (w.heap.size + 1 + 1 + 1) := by rw [hx7]; exact (But.refl _ _).store
                have hbn : Bl x7 (w.heap.size + 1 + 1 + 1) #[.int .i64 qx, .int .i64 qy] := by rw [hx7]; exact (Bl.set bv (by simp))
                replace h1 := But.cell hbut h1 (by show g ≠ _; omega)
                replace h2 := But.cell hbut h2 (by show g ≠ _; omega)
                replace fs := But.fz hbut fs bs (Nat.succ_pos _) (by omega)
                replace bs := But.bl hbut bs (Nat.succ_pos _) (by omega)
                replace ft := But.fz hbut ft bt (Nat.succ_pos _) (by omega)
                replace bt := But.bl hbut bt (Nat.succ_pos _) (by omega)
                replace fr := But.fz hbut fr br (Nat.succ_pos _) (by omega)
                replace br := But.bl hbut br (Nat.succ_pos _) (by omega)
                replace fv : Fz x7 (w.heap.size + 1 + 1 + 1) := by rw [hx7]; exact (Fz.set fv)
                replace HE : Ext w x7 := by rw [hx7]; exact HE.store (by show w.heap.size ≤ w.heap.size + 1 + 1 + 1; omega) _
                clear bv hbut hx7
                have bv := hbn
                clear hbn
                clear hd
                go_wp2_with fail
                go_roundw
                case rel => exact ⟨k + 1, b1, qy, qx, qy, by omega, by go_num, hidP (by rw [HBS.out]; simp only [Prod.mk.injEq]; have := HC0.out; have := HC1.out; have := HC2.out; have := HC3.out; omega), HE, br, bv, fr, fv, bs, bt, fs, ft⟩
                case measure => simp only [intOf]; omega
              · have hd : decide (b4 < qy) = false := decide_eq_false hc
                have HC3 := hidP hc
                clear hc
                go_wp2_with fail
                refine wp_region_plan (R := Ext) (.q 0 (.q 1 (.q 2 (.q 3 (.q 4 (.q 5 (.q 6 (.q 7 (.q 8 (.q 9 (.q 10 (.q 11 .done)))))))))))) (by kernel_rfl) (by kernel_rfl) (by kernel_rfl) (by kernel_rfl) Ext.refl (fun _ _ _ => Ext.trans) ?_
                refine absE (fun x6 hx6 => ?_)
                have hx : Ext x5 x6 := by rw [hx6]; exact (Ext.refl _).drew
                replace fs := Fz.ext hx fs bs (Nat.succ_pos _)
                replace bs := Bl.ext hx bs (Nat.succ_pos _)
                replace ft := Fz.ext hx ft bt (Nat.succ_pos _)
                replace bt := Bl.ext hx bt (Nat.succ_pos _)
                replace fr := Fz.ext hx fr br (Nat.succ_pos _)
                replace br := Bl.ext hx br (Nat.succ_pos _)
                replace fv := Fz.ext hx fv bv (Nat.succ_pos _)
                replace bv := Bl.ext hx bv (Nat.succ_pos _)
                replace h1 := hx.cell' h1
                replace h2 := hx.cell' h2
                replace HE := HE.trans hx
                clear hx
                clear hx6
                repeat (refine wpE_q (v := ?_) rfl rfl (fun u hu => ?_) ?_; rotate_left 1; (focus (have ks := Bl.ext hu bs (Nat.succ_pos _); have kt := Bl.ext hu bt (Nat.succ_pos _); have kr := Bl.ext hu br (Nat.succ_pos _); have kv := Bl.ext hu bv (Nat.succ_pos _); have kh1 := hu.cell' h1; have kh2 := hu.cell' h2; go_simp; (try rfl))); simp only [Act.put, List.setIfInBounds_toArray, List.set_cons_zero, List.set_cons_succ])
                refine wpE_done ?_
                go_upto_region 4 with fail
                clear hd
                go_wp2_with fail
                go_roundw
                case rel => exact ⟨k + 1, b1, qy, qx, b4, by omega, by go_num, hidP (by rw [HBS.out]; simp only [Prod.mk.injEq]; have := HC0.out; have := HC1.out; have := HC2.out; have := HC3.out; omega), HE, br, bv, fr, fv, bs, bt, fs, ft⟩
                case measure => simp only [intOf]; omega
            · have hd : decide (b3 < qx) = false := decide_eq_false hc
              have HC2 := hidP hc
              clear hc
              go_wp2_with fail
              refine wp_region_plan (R := Ext) (.q 0 (.q 1 (.q 2 (.q 3 (.q 4 (.q 5 (.q 6 (.q 7 (.q 8 (.q 9 (.q 10 (.q 11 .done)))))))))))) (by kernel_rfl) (by kernel_rfl) (by kernel_rfl) (by kernel_rfl) Ext.refl (fun _ _ _ => Ext.trans) ?_
              refine absE (fun x4 hx4 => ?_)
              have hx : Ext x3 x4 := by rw [hx4]; exact (Ext.refl _).drew
              replace fs := Fz.ext hx fs bs (Nat.succ_pos _)
              replace bs := Bl.ext hx bs (Nat.succ_pos _)
              replace ft := Fz.ext hx ft bt (Nat.succ_pos _)
              replace bt := Bl.ext hx bt (Nat.succ_pos _)
              replace fr := Fz.ext hx fr br (Nat.succ_pos _)
              replace br := Bl.ext hx br (Nat.succ_pos _)
              replace fv := Fz.ext hx fv bv (Nat.succ_pos _)
              replace bv := Bl.ext hx bv (Nat.succ_pos _)
              replace h1 := hx.cell' h1
              replace h2 := hx.cell' h2
              replace HE := HE.trans hx
              clear hx
              clear hx4
              repeat (refine wpE_q (v := ?_) rfl rfl (fun u hu => ?_) ?_; rotate_left 1; (focus (have ks := Bl.ext hu bs (Nat.succ_pos _); have kt := Bl.ext hu bt (Nat.succ_pos _); have kr := Bl.ext hu br (Nat.succ_pos _); have kv := Bl.ext hu bv (Nat.succ_pos _); have kh1 := hu.cell' h1; have kh2 := hu.cell' h2; go_simp; (try rfl))); simp only [Act.put, List.setIfInBounds_toArray, List.set_cons_zero, List.set_cons_succ])
              refine wpE_done ?_
              go_upto_region 11 with fail
              clear hd
              by_cases hc : b4 < qy
              · have hd : decide (b4 < qy) = true := decide_eq_true hc
                have HC3 := hidP hc
                clear hc
                go_wp2_with fail
                refine wp_region_plan (R := Ext) (.q 0 (.q 1 (.q 2 (.q 3 (.q 4 (.q 5 (.q 6 (.q 7 (.q 8 (.q 9 (.q 10 (.q 11 .done)))))))))))) (by kernel_rfl) (by kernel_rfl) (by kernel_rfl) (by kernel_rfl) Ext.refl (fun _ _ _ => Ext.trans) ?_
                refine absE (fun x5 hx5 => ?_)
                have hx : Ext x4 x5 := by rw [hx5]; exact (Ext.refl _).drew
                replace fs := Fz.ext hx fs bs (Nat.succ_pos _)
                replace bs := Bl.ext hx bs (Nat.succ_pos _)
                replace ft := Fz.ext hx ft bt (Nat.succ_pos _)
                replace bt := Bl.ext hx bt (Nat.succ_pos _)
                replace fr := Fz.ext hx fr br (Nat.succ_pos _)
                replace br := Bl.ext hx br (Nat.succ_pos _)
                replace fv := Fz.ext hx fv bv (Nat.succ_pos _)
                replace bv := Bl.ext hx bv (Nat.succ_pos _)
                replace h1 := hx.cell' h1
                replace h2 := hx.cell' h2
                replace HE := HE.trans hx
                clear hx
                clear hx5
                repeat (refine wpE_q (v := ?_) rfl rfl (fun u hu => ?_) ?_; rotate_left 1; (focus (have ks := Bl.ext hu bs (Nat.succ_pos _); have kt := Bl.ext hu bt (Nat.succ_pos _); have kr := Bl.ext hu br (Nat.succ_pos _); have kv := Bl.ext hu bv (Nat.succ_pos _); have kh1 := hu.cell' h1; have kh2 := hu.cell' h2; go_simp; (try rfl))); simp only [Act.put, List.setIfInBounds_toArray, List.set_cons_zero, List.set_cons_succ])
                refine wpE_done ?_
                go_upto_region 4 with fail
                refine absW (fun x6 hx6 => ?_)
                have hbut : But x5 x6 (w.heap.size + 1 + 1 + 1) := by rw [hx6]; exact (But.refl _ _).store
                have hbn : Bl x6 (w.heap.size + 1 + 1 + 1) #[.int .i64 b3, .int .i64 qy] := by rw [hx6]; exact (Bl.set bv (by simp))
                replace h1 := But.cell hbut h1 (by show g ≠ _; omega)
                replace h2 := But.cell hbut h2 (by show g ≠ _; omega)
                replace fs := But.fz hbut fs bs (Nat.succ_pos _) (by omega)
                replace bs := But.bl hbut bs (Nat.succ_pos _) (by omega)
                replace ft := But.fz hbut ft bt (Nat.succ_pos _) (by omega)
                replace bt := But.bl hbut bt (Nat.succ_pos _) (by omega)
                replace fr := But.fz hbut fr br (Nat.succ_pos _) (by omega)
                replace br := But.bl hbut br (Nat.succ_pos _) (by omega)
                replace fv : Fz x6 (w.heap.size + 1 + 1 + 1) := by rw [hx6]; exact (Fz.set fv)
                replace HE : Ext w x6 := by rw [hx6]; exact HE.store (by show w.heap.size ≤ w.heap.size + 1 + 1 + 1; omega) _
                clear bv hbut hx6
                have bv := hbn
                clear hbn
                clear hd
                go_wp2_with fail
                go_roundw
                case rel => exact ⟨k + 1, b1, qy, b3, qy, by omega, by go_num, hidP (by rw [HBS.out]; simp only [Prod.mk.injEq]; have := HC0.out; have := HC1.out; have := HC2.out; have := HC3.out; omega), HE, br, bv, fr, fv, bs, bt, fs, ft⟩
                case measure => simp only [intOf]; omega
              · have hd : decide (b4 < qy) = false := decide_eq_false hc
                have HC3 := hidP hc
                clear hc
                go_wp2_with fail
                refine wp_region_plan (R := Ext) (.q 0 (.q 1 (.q 2 (.q 3 (.q 4 (.q 5 (.q 6 (.q 7 (.q 8 (.q 9 (.q 10 (.q 11 .done)))))))))))) (by kernel_rfl) (by kernel_rfl) (by kernel_rfl) (by kernel_rfl) Ext.refl (fun _ _ _ => Ext.trans) ?_
                refine absE (fun x5 hx5 => ?_)
                have hx : Ext x4 x5 := by rw [hx5]; exact (Ext.refl _).drew
                replace fs := Fz.ext hx fs bs (Nat.succ_pos _)
                replace bs := Bl.ext hx bs (Nat.succ_pos _)
                replace ft := Fz.ext hx ft bt (Nat.succ_pos _)
                replace bt := Bl.ext hx bt (Nat.succ_pos _)
                replace fr := Fz.ext hx fr br (Nat.succ_pos _)
                replace br := Bl.ext hx br (Nat.succ_pos _)
                replace fv := Fz.ext hx fv bv (Nat.succ_pos _)
                replace bv := Bl.ext hx bv (Nat.succ_pos _)
                replace h1 := hx.cell' h1
                replace h2 := hx.cell' h2
                replace HE := HE.trans hx
                clear hx
                clear hx5
                repeat (refine wpE_q (v := ?_) rfl rfl (fun u hu => ?_) ?_; rotate_left 1; (focus (have ks := Bl.ext hu bs (Nat.succ_pos _); have kt := Bl.ext hu bt (Nat.succ_pos _); have kr := Bl.ext hu br (Nat.succ_pos _); have kv := Bl.ext hu bv (Nat.succ_pos _); have kh1 := hu.cell' h1; have kh2 := hu.cell' h2; go_simp; (try rfl))); simp only [Act.put, List.setIfInBounds_toArray, List.set_cons_zero, List.set_cons_succ])
                refine wpE_done ?_
                go_upto_region 4 with fail
                clear hd
                go_wp2_with fail
                go_roundw
                case rel => exact ⟨k + 1, b1, qy, b3, b4, by omega, by go_num, hidP (by rw [HBS.out]; simp only [Prod.mk.injEq]; have := HC0.out; have := HC1.out; have := HC2.out; have := HC3.out; omega), HE, br, bv, fr, fv, bs, bt, fs, ft⟩
                case measure => simp only [intOf]; omega
          · have hd : decide (qy < b2) = false := decide_eq_false hc
            have HC1 := hidP hc
            clear hc
            go_wp2_with fail
            refine wp_region_plan (R := Ext) (.q 0 (.q 1 (.q 2 (.q 3 (.q 4 (.q 5 (.q 6 (.q 7 (.q 8 (.q 9 (.q 10 (.q 11 .done)))))))))))) (by kernel_rfl) (by kernel_rfl) (by kernel_rfl) (by kernel_rfl) Ext.refl (fun _ _ _ => Ext.trans) ?_
            refine absE (fun x2 hx2 => ?_)
            have hx : Ext x1 x2 := by rw [hx2]; exact (Ext.refl _).drew
            replace fs := Fz.ext hx fs bs (Nat.succ_pos _)
            replace bs := Bl.ext hx bs (Nat.succ_pos _)
            replace ft := Fz.ext hx ft bt (Nat.succ_pos _)
            replace bt := Bl.ext hx bt (Nat.succ_pos _)
            replace fr := Fz.ext hx fr br (Nat.succ_pos _)
            replace br := Bl.ext hx br (Nat.succ_pos _)
            replace fv := Fz.ext hx fv bv (Nat.succ_pos _)
            replace bv := Bl.ext hx bv (Nat.succ_pos _)
            replace h1 := hx.cell' h1
            replace h2 := hx.cell' h2
            replace HE := HE.trans hx
            clear hx
            clear hx2
            repeat (refine wpE_q (v := ?_) rfl rfl (fun u hu => ?_) ?_; rotate_left 1; (focus (have ks := Bl.ext hu bs (Nat.succ_pos _); have kt := Bl.ext hu bt (Nat.succ_pos _); have kr := Bl.ext hu br (Nat.succ_pos _); have kv := Bl.ext hu bv (Nat.succ_pos _); have kh1 := hu.cell' h1; have kh2 := hu.cell' h2; go_simp; (try rfl))); simp only [Act.put, List.setIfInBounds_toArray, List.set_cons_zero, List.set_cons_succ])
            refine wpE_done ?_
            go_upto_region 9 with fail
            clear hd
            by_cases hc : b3 < qx
            · have hd : decide (b3 < qx) = true := decide_eq_true hc
              have HC2 := hidP hc
              clear hc
              go_wp2_with fail
              refine wp_region_plan (R := Ext) (.q 0 (.q 1 (.q 2 (.q 3 (.q 4 (.q 5 (.q 6 (.q 7 (.q 8 (.q 9 (.q 10 (.q 11 .done)))))))))))) (by kernel_rfl) (by kernel_rfl) (by kernel_rfl) (by kernel_rfl) Ext.refl (fun _ _ _ => Ext.trans) ?_
              refine absE (fun x3 hx3 => ?_)
              have hx : Ext x2 x3 := by rw [hx3]; exact (Ext.refl _).drew
              replace fs := Fz.ext hx fs bs (Nat.succ_pos _)
              replace bs := Bl.ext hx bs (Nat.succ_pos _)
              replace ft := Fz.ext hx ft bt (Nat.succ_pos _)
              replace bt := Bl.ext hx bt (Nat.succ_pos _)
              replace fr := Fz.ext hx fr br (Nat.succ_pos _)
              replace br := Bl.ext hx br (Nat.succ_pos _)
              replace fv := Fz.ext hx fv bv (Nat.succ_pos _)
              replace bv := Bl.ext hx bv (Nat.succ_pos _)
              replace h1 := hx.cell' h1
              replace h2 := hx.cell' h2
              replace HE := HE.trans hx
              clear hx
              clear hx3
              repeat (refine wpE_q (v := ?_) rfl rfl (fun u hu => ?_) ?_; rotate_left 1; (focus (have ks := Bl.ext hu bs (Nat.succ_pos _); have kt := Bl.ext hu bt (Nat.succ_pos _); have kr := Bl.ext hu br (Nat.succ_pos _); have kv := Bl.ext hu bv (Nat.succ_pos _); have kh1 := hu.cell' h1; have kh2 := hu.cell' h2; go_simp; (try rfl))); simp only [Act.put, List.setIfInBounds_toArray, List.set_cons_zero, List.set_cons_succ])
              refine wpE_done ?_
              go_upto_region 11 with fail
              refine absW (fun x4 hx4 => ?_)
              have hbut : But x3 x4 (w.heap.size + 1 + 1 + 1) := by rw [hx4]; exact (But.refl _ _).store
              have hbn : Bl x4 (w.heap.size + 1 + 1 + 1) #[.int .i64 qx, .int .i64 b4] := by rw [hx4]; exact (Bl.set bv (by simp))
              replace h1 := But.cell hbut h1 (by show g ≠ _; omega)
              replace h2 := But.cell hbut h2 (by show g ≠ _; omega)
              replace fs := But.fz hbut fs bs (Nat.succ_pos _) (by omega)
              replace bs := But.bl hbut bs (Nat.succ_pos _) (by omega)
              replace ft := But.fz hbut ft bt (Nat.succ_pos _) (by omega)
              replace bt := But.bl hbut bt (Nat.succ_pos _) (by omega)
              replace fr := But.fz hbut fr br (Nat.succ_pos _) (by omega)
              replace br := But.bl hbut br (Nat.succ_pos _) (by omega)
              replace fv : Fz x4 (w.heap.size + 1 + 1 + 1) := by rw [hx4]; exact (Fz.set fv)
              replace HE : Ext w x4 := by rw [hx4]; exact HE.store (by show w.heap.size ≤ w.heap.size + 1 + 1 + 1; omega) _
              clear bv hbut hx4
              have bv := hbn
              clear hbn
              clear hd
              by_cases hc : b4 < qy
              · have hd : decide (b4 < qy) = true := decide_eq_true hc
                have HC3 := hidP hc
                clear hc
                go_wp2_with fail
                refine wp_region_plan (R := Ext) (.q 0 (.q 1 (.q 2 (.q 3 (.q 4 (.q 5 (.q 6 (.q 7 (.q 8 (.q 9 (.q 10 (.q 11 .done)))))))))))) (by kernel_rfl) (by kernel_rfl) (by kernel_rfl) (by kernel_rfl) Ext.refl (fun _ _ _ => Ext.trans) ?_
                refine absE (fun x5 hx5 => ?_)
                have hx : Ext x4 x5 := by rw [hx5]; exact (Ext.refl _).drew
                replace fs := Fz.ext hx fs bs (Nat.succ_pos _)
                replace bs := Bl.ext hx bs (Nat.succ_pos _)
                replace ft := Fz.ext hx ft bt (Nat.succ_pos _)
                replace bt := Bl.ext hx bt (Nat.succ_pos _)
                replace fr := Fz.ext hx fr br (Nat.succ_pos _)
                replace br := Bl.ext hx br (Nat.succ_pos _)
                replace fv := Fz.ext hx fv bv (Nat.succ_pos _)
                replace bv := Bl.ext hx bv (Nat.succ_pos _)
                replace h1 := hx.cell' h1
                replace h2 := hx.cell' h2
                replace HE := HE.trans hx
                clear hx
                clear hx5
                repeat (refine wpE_q (v := ?_) rfl rfl (fun u hu => ?_) ?_; rotate_left 1; (focus (have ks := Bl.ext hu bs (Nat.succ_pos _); have kt := Bl.ext hu bt (Nat.succ_pos _); have kr := Bl.ext hu br (Nat.succ_pos _); have kv := Bl.ext hu bv (Nat.succ_pos _); have kh1 := hu.cell' h1; have kh2 := hu.cell' h2; go_simp; (try rfl))); simp only [Act.put, List.setIfInBounds_toArray, List.set_cons_zero, List.set_cons_succ])
                refine wpE_done ?_
                go_upto_region 4 with fail
                refine absW (fun x6 hx6 => ?_)
                have hbut : But x5 x6 (w.heap.size + 1 + 1 + 1) := by rw [hx6]; exact (But.refl _ _).store
                have hbn : Bl x6 (w.heap.size + 1 + 1 + 1) #[.int .i64 qx, .int .i64 qy] := by rw [hx6]; exact (Bl.set bv (by simp))
                replace h1 := But.cell hbut h1 (by show g ≠ _; omega)
                replace h2 := But.cell hbut h2 (by show g ≠ _; omega)
                replace fs := But.fz hbut fs bs (Nat.succ_pos _) (by omega)
                replace bs := But.bl hbut bs (Nat.succ_pos _) (by omega)
                replace ft := But.fz hbut ft bt (Nat.succ_pos _) (by omega)
                replace bt := But.bl hbut bt (Nat.succ_pos _) (by omega)
                replace fr := But.fz hbut fr br (Nat.succ_pos _) (by omega)
                replace br := But.bl hbut br (Nat.succ_pos _) (by omega)
                replace fv : Fz x6 (w.heap.size + 1 + 1 + 1) := by rw [hx6]; exact (Fz.set fv)
                replace HE : Ext w x6 := by rw [hx6]; exact HE.store (by show w.heap.size ≤ w.heap.size + 1 + 1 + 1; omega) _
                clear bv hbut hx6
                have bv := hbn
                clear hbn
                clear hd
                go_wp2_with fail
                go_roundw
                case rel => exact ⟨k + 1, b1, b2, qx, qy, by omega, by go_num, hidP (by rw [HBS.out]; simp only [Prod.mk.injEq]; have := HC0.out; have := HC1.out; have := HC2.out; have := HC3.out; omega), HE, br, bv, fr, fv, bs, bt, fs, ft⟩
                case measure => simp only [intOf]; omega
              · have hd : decide (b4 < qy) = false := decide_eq_false hc
                have HC3 := hidP hc
                clear hc
                go_wp2_with fail
                refine wp_region_plan (R := Ext) (.q 0 (.q 1 (.q 2 (.q 3 (.q 4 (.q 5 (.q 6 (.q 7 (.q 8 (.q 9 (.q 10 (.q 11 .done)))))))))))) (by kernel_rfl) (by kernel_rfl) (by kernel_rfl) (by kernel_rfl) Ext.refl (fun _ _ _ => Ext.trans) ?_
                refine absE (fun x5 hx5 => ?_)
                have hx : Ext x4 x5 := by rw [hx5]; exact (Ext.refl _).drew
                replace fs := Fz.ext hx fs bs (Nat.succ_pos _)
                replace bs := Bl.ext hx bs (Nat.succ_pos _)
                replace ft := Fz.ext hx ft bt (Nat.succ_pos _)
                replace bt := Bl.ext hx bt (Nat.succ_pos _)
                replace fr := Fz.ext hx fr br (Nat.succ_pos _)
                replace br := Bl.ext hx br (Nat.succ_pos _)
                replace fv := Fz.ext hx fv bv (Nat.succ_pos _)
                replace bv := Bl.ext hx bv (Nat.succ_pos _)
                replace h1 := hx.cell' h1
                replace h2 := hx.cell' h2
                replace HE := HE.trans hx
                clear hx
                clear hx5
                repeat (refine wpE_q (v := ?_) rfl rfl (fun u hu => ?_) ?_; rotate_left 1; (focus (have ks := Bl.ext hu bs (Nat.succ_pos _); have kt := Bl.ext hu bt (Nat.succ_pos _); have kr := Bl.ext hu br (Nat.succ_pos _); have kv := Bl.ext hu bv (Nat.succ_pos _); have kh1 := hu.cell' h1; have kh2 := hu.cell' h2; go_simp; (try rfl))); simp only [Act.put, List.setIfInBounds_toArray, List.set_cons_zero, List.set_cons_succ])
                refine wpE_done ?_
                go_upto_region 4 with fail
                clear hd
                go_wp2_with fail
                go_roundw
                case rel => exact ⟨k + 1, b1, b2, qx, b4, by omega, by go_num, hidP (by rw [HBS.out]; simp only [Prod.mk.injEq]; have := HC0.out; have := HC1.out; have := HC2.out; have := HC3.out; omega), HE, br, bv, fr, fv, bs, bt, fs, ft⟩
                case measure => simp only [intOf]; omega
            · have hd : decide (b3 < qx) = false := decide_eq_false hc
              have HC2 := hidP hc
              clear hc
              go_wp2_with fail
              refine wp_region_plan (R := Ext) (.q 0 (.q 1 (.q 2 (.q 3 (.q 4 (.q 5 (.q 6 (.q 7 (.q 8 (.q 9 (.q 10 (.q 11 .done)))))))))))) (by kernel_rfl) (by kernel_rfl) (by kernel_rfl) (by kernel_rfl) Ext.refl (fun _ _ _ => Ext.trans) ?_
              refine absE (fun x3 hx3 => ?_)
              have hx : Ext x2 x3 := by rw [hx3]; exact (Ext.refl _).drew
              replace fs := Fz.ext hx fs bs (Nat.succ_pos _)
              replace bs := Bl.ext hx bs (Nat.succ_pos _)
              replace ft := Fz.ext hx ft bt (Nat.succ_pos _)
              replace bt := Bl.ext hx bt (Nat.succ_pos _)
              replace fr := Fz.ext hx fr br (Nat.succ_pos _)
              replace br := Bl.ext hx br (Nat.succ_pos _)
              replace fv := Fz.ext hx fv bv (Nat.succ_pos _)
              replace bv := Bl.ext hx bv (Nat.succ_pos _)
              replace h1 := hx.cell' h1
              replace h2 := hx.cell' h2
              replace HE := HE.trans hx
              clear hx
              clear hx3
              repeat (refine wpE_q (v := ?_) rfl rfl (fun u hu => ?_) ?_; rotate_left 1; (focus (have ks := Bl.ext hu bs (Nat.succ_pos _); have kt := Bl.ext hu bt (Nat.succ_pos _); have kr := Bl.ext hu br (Nat.succ_pos _); have kv := Bl.ext hu bv (Nat.succ_pos _); have kh1 := hu.cell' h1; have kh2 := hu.cell' h2; go_simp; (try rfl))); simp only [Act.put, List.setIfInBounds_toArray, List.set_cons_zero, List.set_cons_succ])
              refine wpE_done ?_
              go_upto_region 11 with fail
              clear hd
              by_cases hc : b4 < qy
              · have hd : decide (b4 < qy) = true := decide_eq_true hc
                have HC3 := hidP hc
                clear hc
                go_wp2_with fail
                refine wp_region_plan (R := Ext) (.q 0 (.q 1 (.q 2 (.q 3 (.q 4 (.q 5 (.q 6 (.q 7 (.q 8 (.q 9 (.q 10 (.q 11 .done)))))))))))) (by kernel_rfl) (by kernel_rfl) (by kernel_rfl) (by kernel_rfl) Ext.refl (fun _ _ _ => Ext.trans) ?_
                refine absE (fun x4 hx4 => ?_)
                have hx : Ext x3 x4 := by rw [hx4]; exact (Ext.refl _).drew
                replace fs := Fz.ext hx fs bs (Nat.succ_pos _)
                replace bs := Bl.ext hx bs (Nat.succ_pos _)
                replace ft := Fz.ext hx ft bt (Nat.succ_pos _)
                replace bt := Bl.ext hx bt (Nat.succ_pos _)
                replace fr := Fz.ext hx fr br (Nat.succ_pos _)
                replace br := Bl.ext hx br (Nat.succ_pos _)
                replace fv := Fz.ext hx fv bv (Nat.succ_pos _)
                replace bv := Bl.ext hx bv (Nat.succ_pos _)
                replace h1 := hx.cell' h1
                replace h2 := hx.cell' h2
                replace HE := HE.trans hx
                clear hx
                clear hx4
                repeat (refine wpE_q (v := ?_) rfl rfl (fun u hu => ?_) ?_; rotate_left 1; (focus (have ks := Bl.ext hu bs (Nat.succ_pos _); have kt := Bl.ext hu bt (Nat.succ_pos _); have kr := Bl.ext hu br (Nat.succ_pos _); have kv := Bl.ext hu bv (Nat.succ_pos _); have kh1 := hu.cell' h1; have kh2 := hu.cell' h2; go_simp; (try rfl))); simp only [Act.put, List.setIfInBounds_toArray, List.set_cons_zero, List.set_cons_succ])
                refine wpE_done ?_
                go_upto_region 4 with fail
                refine absW (fun x5 hx5 => ?_)
                have hbut : But x4 x5 (w.heap.size + 1 + 1 + 1) := by rw [hx5]; exact (But.refl _ _).store
                have hbn : Bl x5 (w.heap.size + 1 + 1 + 1) #[.int .i64 b3, .int .i64 qy] := by rw [hx5]; exact (Bl.set bv (by simp))
                replace h1 := But.cell hbut h1 (by show g ≠ _; omega)
                replace h2 := But.cell hbut h2 (by show g ≠ _; omega)
                replace fs := But.fz hbut fs bs (Nat.succ_pos _) (by omega)
                replace bs := But.bl hbut bs (Nat.succ_pos _) (by omega)
                replace ft := But.fz hbut ft bt (Nat.succ_pos _) (by omega)
                replace bt := But.bl hbut bt (Nat.succ_pos _) (by omega)
                replace fr := But.fz hbut fr br (Nat.succ_pos _) (by omega)
                replace br := But.bl hbut br (Nat.succ_pos _) (by omega)
                replace fv : Fz x5 (w.heap.size + 1 + 1 + 1) := by rw [hx5]; exact (Fz.set fv)
                replace HE : Ext w x5 := by rw [hx5]; exact HE.store (by show w.heap.size ≤ w.heap.size + 1 + 1 + 1; omega) _
                clear bv hbut hx5
                have bv := hbn
                clear hbn
                clear hd
                go_wp2_with fail
                go_roundw
                case rel => exact ⟨k + 1, b1, b2, b3, qy, by omega, by go_num, hidP (by rw [HBS.out]; simp only [Prod.mk.injEq]; have := HC0.out; have := HC1.out; have := HC2.out; have := HC3.out; omega), HE, br, bv, fr, fv, bs, bt, fs, ft⟩
                case measure => simp only [intOf]; omega
              · have hd : decide (b4 < qy) = false := decide_eq_false hc
                have HC3 := hidP hc
                clear hc
                go_wp2_with fail
                refine wp_region_plan (R := Ext) (.q 0 (.q 1 (.q 2 (.q 3 (.q 4 (.q 5 (.q 6 (.q 7 (.q 8 (.q 9 (.q 10 (.q 11 .done)))))))))))) (by kernel_rfl) (by kernel_rfl) (by kernel_rfl) (by kernel_rfl) Ext.refl (fun _ _ _ => Ext.trans) ?_
                refine absE (fun x4 hx4 => ?_)
                have hx : Ext x3 x4 := by rw [hx4]; exact (Ext.refl _).drew
                replace fs := Fz.ext hx fs bs (Nat.succ_pos _)
                replace bs := Bl.ext hx bs (Nat.succ_pos _)
                replace ft := Fz.ext hx ft bt (Nat.succ_pos _)
                replace bt := Bl.ext hx bt (Nat.succ_pos _)
                replace fr := Fz.ext hx fr br (Nat.succ_pos _)
                replace br := Bl.ext hx br (Nat.succ_pos _)
                replace fv := Fz.ext hx fv bv (Nat.succ_pos _)
                replace bv := Bl.ext hx bv (Nat.succ_pos _)
                replace h1 := hx.cell' h1
                replace h2 := hx.cell' h2
                replace HE := HE.trans hx
                clear hx
                clear hx4
                repeat (refine wpE_q (v := ?_) rfl rfl (fun u hu => ?_) ?_; rotate_left 1; (focus (have ks := Bl.ext hu bs (Nat.succ_pos _); have kt := Bl.ext hu bt (Nat.succ_pos _); have kr := Bl.ext hu br (Nat.succ_pos _); have kv := Bl.ext hu bv (Nat.succ_pos _); have kh1 := hu.cell' h1; have kh2 := hu.cell' h2; go_simp; (try rfl))); simp only [Act.put, List.setIfInBounds_toArray, List.set_cons_zero, List.set_cons_succ])
                refine wpE_done ?_
                go_upto_region 4 with fail
                clear hd
                go_wp2_with fail
                go_roundw
                case rel => exact ⟨k + 1, b1, b2, b3, b4, by omega, by go_num, hidP (by rw [HBS.out]; simp only [Prod.mk.injEq]; have := HC0.out; have := HC1.out; have := HC2.out; have := HC3.out; omega), HE, br, bv, fr, fv, bs, bt, fs, ft⟩
                case measure => simp only [intOf]; omega
    · obtain rfl : k = n := by omega
      have hnd : decide (0 < k) = decide ((0 : Int) < (k : Int)) := by rw [decide_eq_decide]; omega
      have HND := hidP hnd
      clear hnd hlt
      skip
      go_wp2_with fail
      have hmr : w.heap.size + 1 + 1 ∉ [w.heap.size, w.heap.size + 1] := nin (by omega) (by omega)
      have hmv : w.heap.size + 1 + 1 + 1 ∉ [w.heap.size, w.heap.size + 1] := nin (by omega) (by omega)
      refine wp_region_plan (R := ButS [w.heap.size, w.heap.size + 1]) (.q 0 (.q 1 (.q 2 (.q 3 (.q 4 (.l 5 (.l 6 (.q 7 .done)))))))) (by kernel_rfl) (by kernel_rfl) (by kernel_rfl) (by kernel_rfl) (ButS.refl _) (ButS.trans _) ?_
      refine absE (fun x1 hx1 => ?_)
      have hx : Ext wr x1 := by rw [hx1]; exact (Ext.refl _).drew
      replace fs := Fz.ext hx fs bs (Nat.succ_pos _)
      replace bs := Bl.ext hx bs (Nat.succ_pos _)
      replace ft := Fz.ext hx ft bt (Nat.succ_pos _)
      replace bt := Bl.ext hx bt (Nat.succ_pos _)
      replace fr := Fz.ext hx fr br (Nat.succ_pos _)
      replace br := Bl.ext hx br (Nat.succ_pos _)
      replace fv := Fz.ext hx fv bv (Nat.succ_pos _)
      replace bv := Bl.ext hx bv (Nat.succ_pos _)
      replace HE := HE.trans hx
      clear hx
      clear hx1
      repeat (refine wpE_q (v := ?_) rfl rfl (fun u hu => ?_) ?_; rotate_left 1; (focus (have kr := ButS.bl hu br (Nat.succ_pos _) hmr; have kv := ButS.bl hu bv (Nat.succ_pos _) hmv; go_simp; (try rfl))); simp only [Act.put, List.setIfInBounds_toArray, List.set_cons_zero, List.set_cons_succ])
      refine wpE_l rfl rfl (fun K hK => ?_)
      go_simp
      refine hK.out _ _ (((ButS.refl _ _).store (by simp)).store (by simp)) ?_
      clear hK K
      try simp only [Act.put, List.setIfInBounds_toArray, List.set_cons_zero, List.set_cons_succ]
      refine absE (fun x2 hx2 => ?_)
      have hbut : But x1 x2 (w.heap.size) := by rw [hx2]; exact (But.refl _ _).store.store
      have hbn : Bl x2 (w.heap.size) #[.int .i64 b1, .int .i64 b2] := by rw [hx2]; exact (Bl.set (Bl.set bs (by simp)) (by simp))
      replace ft := But.fz hbut ft bt (Nat.succ_pos _) (by omega)
      replace bt := But.bl hbut bt (Nat.succ_pos _) (by omega)
      replace fr := But.fz hbut fr br (Nat.succ_pos _) (by omega)
      replace br := But.bl hbut br (Nat.succ_pos _) (by omega)
      replace fv := But.fz hbut fv bv (Nat.succ_pos _) (by omega)
      replace bv := But.bl hbut bv (Nat.succ_pos _) (by omega)
      replace fs : Fz x2 (w.heap.size) := by rw [hx2]; exact (Fz.set (Fz.set fs))
      replace HE : Ext w x2 := by rw [hx2]; exact ((HE.store (by show w.heap.size ≤ w.heap.size; omega) _).store (by show w.heap.size ≤ w.heap.size; omega) _)
      clear bs hbut hx2
      have bs := hbn
      clear hbn
      refine wpE_l rfl rfl (fun K hK => ?_)
      go_simp
      refine hK.out _ _ (((ButS.refl _ _).store (by simp)).store (by simp)) ?_
      clear hK K
      try simp only [Act.put, List.setIfInBounds_toArray, List.set_cons_zero, List.set_cons_succ]
      refine absE (fun x3 hx3 => ?_)
      have hbut : But x2 x3 (w.heap.size + 1) := by rw [hx3]; exact (But.refl _ _).store.store
      have hbn : Bl x3 (w.heap.size + 1) #[.int .i64 b3, .int .i64 b4] := by rw [hx3]; exact (Bl.set (Bl.set bt (by simp)) (by simp))
      replace fs := But.fz hbut fs bs (Nat.succ_pos _) (by omega)
      replace bs := But.bl hbut bs (Nat.succ_pos _) (by omega)
      replace fr := But.fz hbut fr br (Nat.succ_pos _) (by omega)
      replace br := But.bl hbut br (Nat.succ_pos _) (by omega)
      replace fv := But.fz hbut fv bv (Nat.succ_pos _) (by omega)
      replace bv := But.bl hbut bv (Nat.succ_pos _) (by omega)
      replace ft : Fz x3 (w.heap.size + 1) := by rw [hx3]; exact (Fz.set (Fz.set ft))
      replace HE : Ext w x3 := by rw [hx3]; exact ((HE.store (by show w.heap.size ≤ w.heap.size + 1; omega) _).store (by show w.heap.size ≤ w.heap.size + 1; omega) _)
      clear bt hbut hx3
      have bt := hbn
      clear hbn
      repeat (refine wpE_q (v := ?_) rfl rfl (fun u hu => ?_) ?_; rotate_left 1; (focus (go_simp; (try rfl))); simp only [Act.put, List.setIfInBounds_toArray, List.set_cons_zero, List.set_cons_succ])
      refine wpE_done ?_
      go_wp2_with fail
      refine bodyPost_cells2_tmp rfl rfl rfl Try.underlying36 rfl (by kernel_rfl) (by kernel_rfl) (bl_two bs) (bl_two bt) rfl rfl ?_
      exact ⟨by unfold boxV; rw [HB.out]; simp [HND.out], HE⟩

end Go.Proofs.Ytlhaepcnhkaclaa
