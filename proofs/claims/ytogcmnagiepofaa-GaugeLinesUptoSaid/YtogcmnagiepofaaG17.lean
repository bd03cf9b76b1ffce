/- Gauge: boxes. -/
import Derived.Test.YtogcmnagiepofaaG16
namespace Go.Proofs.Ytogcmnagiepofaa
set_option linter.unusedVariables false
open Go Go.RowKit

/-- The least and the greatest parts of the first points. -/
def bxS (l : List Pt) : Nat → Int × Int × Int × Int
  | 0 => (0, 0, 0, 0)
  | k + 1 => if k = 0 then ((l.getD 0 (0, 0)).1, (l.getD 0 (0, 0)).2, (l.getD 0 (0, 0)).1, (l.getD 0 (0, 0)).2) else
    (min (bxS l k).1 (l.getD k (0, 0)).1, min (bxS l k).2.1 (l.getD k (0, 0)).2, max (bxS l k).2.2.1 (l.getD k (0, 0)).1, max (bxS l k).2.2.2 (l.getD k (0, 0)).2)
theorem bxS_one {l : List Pt} (h : 0 < l.length) : bxS l 1 = (l[0].1, l[0].2, l[0].1, l[0].2) := by
  show (if (0 : Nat) = 0 then _ else _) = _
  rw [if_pos rfl, List.getD_eq_getElem?_getD, List.getElem?_eq_getElem h]
  rfl
theorem bxS_succ {l : List Pt} {k : Nat} (h : k < l.length) (h0 : k ≠ 0) : bxS l (k + 1) = (min (bxS l k).1 l[k].1, min (bxS l k).2.1 l[k].2, max (bxS l k).2.2.1 l[k].1, max (bxS l k).2.2.2 l[k].2) := by
  show (if k = 0 then _ else _) = _
  rw [if_neg h0, List.getD_eq_getElem?_getD, List.getElem?_eq_getElem h]
  rfl
/-- What the call hands back. -/
def boxV (l : List Pt) (n : Nat) : Value := .tuple #[.agg #[.int .i64 (bxS l n).1, .int .i64 (bxS l n).2.1], .agg #[.int .i64 (bxS l n).2.2.1, .int .i64 (bxS l n).2.2.2], .bool (decide (0 < n))]

set_option maxRecDepth 100000 in
set_option maxHeartbeats 8000000 in
theorem g_Box (a : Option Addr) (n cap : Nat) (l : List Pt) (w : World) (h : SlP w a n cap l) :
    Calls Try.prog 29 #[.slice a n cap] w fun e w' => e = .returned (boxV l n) ∧ Ext w w' := by
  have H := hidP h
  have HLN := hidP h.len
  have hcap : cap ≤ maxLen := h.2.2.1
  have hnc : n ≤ cap := h.2.1
  unfold maxLen at hcap
  clear h
  by_cases hn0 : n = 0
  · subst hn0
    go_enter Try.func29, Try.ntmps29
    go_upto_region 1 with fail
    refine absW (fun x1 hx1 => ?_)
    have hx : Ext w x1 := by rw [hx1]; exact (((Ext.refl _).alloc _).alloc _)
    have bs : Bl x1 (w.heap.size) #[.int .i64 0, .int .i64 0] := by rw [hx1]; exact ((Bl.new (by simp)).alloc (by simp))
    have fs : Fz x1 (w.heap.size) := by rw [hx1]; exact ((Fz.new (by simp)).alloc (Bl.new (by simp)) (by simp))
    have bt : Bl x1 (w.heap.size + 1) #[.int .i64 0, .int .i64 0] := by rw [hx1]; exact (Bl.new (by simp))
    have ft : Fz x1 (w.heap.size + 1) := by rw [hx1]; exact (Fz.new (by simp))
    have HE := hx
    clear hx
    clear hx1
    go_wp2_with fail
    refine absB (fun ue hue => ?_)
    have hne : w.heap.size ≠ w.heap.size + 1 := by omega
    have hne' : w.heap.size + 1 ≠ w.heap.size := by omega
    have hbs : Bl ue (w.heap.size) #[.int .i64 0, .int .i64 0] := by rw [hue]; exact (((bs.set (by simp)).set (by simp)).other hne).other hne
    have hbt : Bl ue (w.heap.size + 1) #[.int .i64 0, .int .i64 0] := by rw [hue]; exact ((((bt.other hne').other hne').set (by simp)).set (by simp))
    have heu : Ext w ue := by rw [hue]; exact (((HE.store (by show w.heap.size ≤ w.heap.size; omega) _).store (by show w.heap.size ≤ w.heap.size; omega) _).store (by show w.heap.size ≤ w.heap.size + 1; omega) _).store (by show w.heap.size ≤ w.heap.size + 1; omega) _
    clear hue
    refine bodyPost_cells2_tmp rfl rfl rfl Try.underlying26 rfl (by kernel_rfl) (by kernel_rfl) (bl_two hbs) (bl_two hbt) rfl rfl ?_
    exact ⟨rfl, heu⟩
  · have hjl : 0 < l.length := by rw [HLN.out]; omega
    have hnp : 0 < n := by omega
    obtain ⟨g, off, rfl, hc⟩ := H.out.at (by omega)
    obtain ⟨h1, h2⟩ := hc 0 hjl
    rw [Nat.zero_mul, Nat.add_zero] at h1 h2
    have HB1 := hidP (bxS_one hjl)
    clear hc
    generalize l[0] = pp at *
    obtain ⟨px, py⟩ := pp
    simp only at h1 h2
    go_enter Try.func29, Try.ntmps29
    go_upto_region 3 with fail
    refine absW (fun x1 hx1 => ?_)
    have hx : Ext w x1 := by rw [hx1]; exact (((Ext.refl _).alloc _).alloc _)
    have bs : Bl x1 (w.heap.size) #[.int .i64 0, .int .i64 0] := by rw [hx1]; exact ((Bl.new (by simp)).alloc (by simp))
    have fs : Fz x1 (w.heap.size) := by rw [hx1]; exact ((Fz.new (by simp)).alloc (Bl.new (by simp)) (by simp))
    have bt : Bl x1 (w.heap.size + 1) #[.int .i64 0, .int .i64 0] := by rw [hx1]; exact (Bl.new (by simp))
    have ft : Fz x1 (w.heap.size + 1) := by rw [hx1]; exact (Fz.new (by simp))
    replace h1 := hx.cell' h1
    replace h2 := hx.cell' h2
    have HE := hx
    clear hx
    clear hx1
    go_cut [5, 6] (fun vr vv wx => ∃ gr gv, vr = .pointer (some ⟨gr, 0, none⟩) ∧ vv = .pointer (some ⟨gv, 0, none⟩) ∧ x1.heap.size ≤ gr ∧ x1.heap.size ≤ gv ∧ gr ≠ gv ∧ Bl wx gr #[.int .i64 px, .int .i64 py] ∧ Fz wx gr ∧ Bl wx gv #[.int .i64 px, .int .i64 py] ∧ Fz wx gv ∧ Ext x1 wx)
    case first =>
      have HE0 := hidP HE
      clear HE
      have HE := Ext.refl x1
      have los := bs.lt (Nat.succ_pos _)
      have lot := bt.lt (Nat.succ_pos _)
      have loh1 := cell_lt h1
      have loh2 := cell_lt h2
      have hlo : x1.heap.size ≤ x1.heap.size := Nat.le_refl _
      refine wp_region_plan (R := Below x1.heap.size) (.q 0 (.q 1 (.q 2 (.q 3 (.q 4 (.q 5 (.br 6 (.l 7 (.l 8 (.b 9 .done))) (.l 7 (.l 6 (.l 8 (.b 9 .done))))))))))) (by kernel_rfl) (by kernel_rfl) (by kernel_rfl) (by kernel_rfl) (Below.refl _) (fun _ _ _ => Below.trans) ?_
      refine absE (fun x2 hx2 => ?_)
      have hx : Ext x1 x2 := by rw [hx2]; exact (Ext.refl _).drew
      replace hlo := Nat.le_trans hlo hx.size
      replace fs := Fz.ext hx fs bs (Nat.succ_pos _)
      replace bs := Bl.ext hx bs (Nat.succ_pos _)
      replace ft := Fz.ext hx ft bt (Nat.succ_pos _)
      replace bt := Bl.ext hx bt (Nat.succ_pos _)
      replace h1 := hx.cell' h1
      replace h2 := hx.cell' h2
      replace HE := HE.trans hx
      clear hx
      clear hx2
      repeat (refine wpE_q (v := ?_) rfl rfl (fun u hu => ?_) ?_; rotate_left 1; (focus (have ks := Bl.low hu bs los; have kt := Bl.low hu bt lot; have kh1 := low_cell hu h1 loh1; have kh2 := low_cell hu h2 loh2; go_simp; (try rfl))); simp only [Act.put, List.setIfInBounds_toArray, List.set_cons_zero, List.set_cons_succ])
      refine wpE_br rfl rfl (fun K hK => ?_) ?_
      · go_simp
        refine hK.out _ _ ((Below.refl _ _).alloc hlo _) ?_
        clear hK K
        try simp only [Act.put, List.setIfInBounds_toArray, List.set_cons_zero, List.set_cons_succ]
        have ger := hlo
        have lsr := bs.lt (Nat.succ_pos _)
        have ltr := bt.lt (Nat.succ_pos _)
        have lh1r := cell_lt h1
        have lh2r := cell_lt h2
        have l0r := HE.size
        refine absE (fun x3 hx3 => ?_)
        have hx : Ext x2 x3 := by rw [hx3]; exact ((Ext.refl _).alloc _)
        have br : Bl x3 (x2.heap.size) #[.int .i64 0, .int .i64 0] := by rw [hx3]; exact (Bl.new (by simp))
        have fr : Fz x3 (x2.heap.size) := by rw [hx3]; exact (Fz.new (by simp))
        replace hlo := Nat.le_trans hlo hx.size
        replace fs := Fz.ext hx fs bs (Nat.succ_pos _)
        replace bs := Bl.ext hx bs (Nat.succ_pos _)
        replace ft := Fz.ext hx ft bt (Nat.succ_pos _)
        replace bt := Bl.ext hx bt (Nat.succ_pos _)
        replace h1 := hx.cell' h1
        replace h2 := hx.cell' h2
        replace HE := HE.trans hx
        clear hx
        clear hx3
        refine wpE_l rfl rfl (fun K hK => ?_)
        go_simp
        refine hK.out _ _ ((Below.refl _ _).alloc hlo _) ?_
        clear hK K
        try simp only [Act.put, List.setIfInBounds_toArray, List.set_cons_zero, List.set_cons_succ]
        have gev := hlo
        have lsv := bs.lt (Nat.succ_pos _)
        have ltv := bt.lt (Nat.succ_pos _)
        have lrv := br.lt (Nat.succ_pos _)
        have lh1v := cell_lt h1
        have lh2v := cell_lt h2
        have l0v := HE.size
        refine absE (fun x4 hx4 => ?_)
        have hx : Ext x3 x4 := by rw [hx4]; exact ((Ext.refl _).alloc _)
        have bv : Bl x4 (x3.heap.size) #[.int .i64 0, .int .i64 0] := by rw [hx4]; exact (Bl.new (by simp))
        have fv : Fz x4 (x3.heap.size) := by rw [hx4]; exact (Fz.new (by simp))
        replace hlo := Nat.le_trans hlo hx.size
        replace fs := Fz.ext hx fs bs (Nat.succ_pos _)
        replace bs := Bl.ext hx bs (Nat.succ_pos _)
        replace ft := Fz.ext hx ft bt (Nat.succ_pos _)
        replace bt := Bl.ext hx bt (Nat.succ_pos _)
        replace fr := Fz.ext hx fr br (Nat.succ_pos _)
        replace br := Bl.ext hx br (Nat.succ_pos _)
        replace h1 := hx.cell' h1
        replace h2 := hx.cell' h2
        replace HE := HE.trans hx
        clear hx
        clear hx4
        refine wpE_l rfl rfl (fun K hK => ?_)
        go_simp
        refine hK.out _ _ (((Below.refl _ _).setCell (by show x1.heap.size ≤ x2.heap.size; omega) _).setCell (by show x1.heap.size ≤ x2.heap.size; omega) _) ?_
        clear hK K
        try simp only [Act.put, List.setIfInBounds_toArray, List.set_cons_zero, List.set_cons_succ]
        refine absE (fun x5 hx5 => ?_)
        have hbut : But x4 x5 (x2.heap.size) := by rw [hx5]; exact (But.refl _ _).store.store
        have hbn : Bl x5 (x2.heap.size) #[.int .i64 px, .int .i64 py] := by rw [hx5]; exact (Bl.set (Bl.set br (by simp)) (by simp))
        replace h1 := But.cell hbut h1 (by show g ≠ _; omega)
        replace h2 := But.cell hbut h2 (by show g ≠ _; omega)
        replace fs := But.fz hbut fs bs (Nat.succ_pos _) (by omega)
        replace bs := But.bl hbut bs (Nat.succ_pos _) (by omega)
        replace ft := But.fz hbut ft bt (Nat.succ_pos _) (by omega)
        replace bt := But.bl hbut bt (Nat.succ_pos _) (by omega)
        replace fv := But.fz hbut fv bv (Nat.succ_pos _) (by omega)
        replace bv := But.bl hbut bv (Nat.succ_pos _) (by omega)
        replace fr : Fz x5 (x2.heap.size) := by rw [hx5]; exact (Fz.set (Fz.set fr))
        replace HE : Ext x1 x5 := by rw [hx5]; exact ((HE.store (by show x1.heap.size ≤ x2.heap.size; omega) _).store (by show x1.heap.size ≤ x2.heap.size; omega) _)
        replace hlo : x1.heap.size ≤ x5.heap.size := Nat.le_trans hlo hbut.1
        clear br hbut hx5
        have br := hbn
        clear hbn
        refine wpE_b rfl rfl (fun K hK => ?_)
        go_simp
        refine hK.out _ _ ?_
        clear hK K
        try simp only [Act.put, List.setIfInBounds_toArray, List.set_cons_zero, List.set_cons_succ]
        refine absE (fun x6 hx6 => ?_)
        have hbut : But x5 x6 (x3.heap.size) := by rw [hx6]; exact (But.refl _ _).store.store
        have hbn : Bl x6 (x3.heap.size) #[.int .i64 px, .int .i64 py] := by rw [hx6]; exact (Bl.set (Bl.set bv (by simp)) (by simp))
        replace h1 := But.cell hbut h1 (by show g ≠ _; omega)
        replace h2 := But.cell hbut h2 (by show g ≠ _; omega)
        replace fs := But.fz hbut fs bs (Nat.succ_pos _) (by omega)
        replace bs := But.bl hbut bs (Nat.succ_pos _) (by omega)
        replace ft := But.fz hbut ft bt (Nat.succ_pos _) (by omega)
        replace bt := But.bl hbut bt (Nat.succ_pos _) (by omega)
        replace fr := But.fz hbut fr br (Nat.succ_pos _) (by omega)
        replace br := But.bl hbut br (Nat.succ_pos _) (by omega)
        replace fv : Fz x6 (x3.heap.size) := by rw [hx6]; exact (Fz.set (Fz.set fv))
        replace HE : Ext x1 x6 := by rw [hx6]; exact ((HE.store (by show x1.heap.size ≤ x3.heap.size; omega) _).store (by show x1.heap.size ≤ x3.heap.size; omega) _)
        replace hlo : x1.heap.size ≤ x6.heap.size := Nat.le_trans hlo hbut.1
        clear bv hbut hx6
        have bv := hbn
        clear hbn
        refine wpE_done ?_
        clear hlo
        go_wp2_with fail
        go_meet
        exact ⟨x2.heap.size, x3.heap.size, rfl, rfl, by omega, by omega, by omega, br, fr, bv, fv, HE⟩
      · refine wpE_l rfl rfl (fun K hK => ?_)
        go_simp
        refine hK.out _ _ ((Below.refl _ _).alloc hlo _) ?_
        clear hK K
        try simp only [Act.put, List.setIfInBounds_toArray, List.set_cons_zero, List.set_cons_succ]
        have gev := hlo
        have lsv := bs.lt (Nat.succ_pos _)
        have ltv := bt.lt (Nat.succ_pos _)
        have lh1v := cell_lt h1
        have lh2v := cell_lt h2
        have l0v := HE.size
        refine absE (fun x3 hx3 => ?_)
        have hx : Ext x2 x3 := by rw [hx3]; exact ((Ext.refl _).alloc _)
        have bv : Bl x3 (x2.heap.size) #[.int .i64 0, .int .i64 0] := by rw [hx3]; exact (Bl.new (by simp))
        have fv : Fz x3 (x2.heap.size) := by rw [hx3]; exact (Fz.new (by simp))
        replace hlo := Nat.le_trans hlo hx.size
        replace fs := Fz.ext hx fs bs (Nat.succ_pos _)
        replace bs := Bl.ext hx bs (Nat.succ_pos _)
        replace ft := Fz.ext hx ft bt (Nat.succ_pos _)
        replace bt := Bl.ext hx bt (Nat.succ_pos _)
        replace h1 := hx.cell' h1
        replace h2 := hx.cell' h2
        replace HE := HE.trans hx
        clear hx
        clear hx3
        refine wpE_l rfl rfl (fun K hK => ?_)
        go_simp
        refine hK.out _ _ ((Below.refl _ _).alloc hlo _) ?_
        clear hK K
        try simp only [Act.put, List.setIfInBounds_toArray, List.set_cons_zero, List.set_cons_succ]
        have ger := hlo
        have lsr := bs.lt (Nat.succ_pos _)
        have ltr := bt.lt (Nat.succ_pos _)
        have lvr := bv.lt (Nat.succ_pos _)
        have lh1r := cell_lt h1
        have lh2r := cell_lt h2
        have l0r := HE.size
        refine absE (fun x4 hx4 => ?_)
        have hx : Ext x3 x4 := by rw [hx4]; exact ((Ext.refl _).alloc _)
        have br : Bl x4 (x3.heap.size) #[.int .i64 0, .int .i64 0] := by rw [hx4]; exact (Bl.new (by simp))
        have fr : Fz x4 (x3.heap.size) := by rw [hx4]; exact (Fz.new (by simp))
        replace hlo := Nat.le_trans hlo hx.size
        replace fs := Fz.ext hx fs bs (Nat.succ_pos _)
        replace bs := Bl.ext hx bs (Nat.succ_pos _)
        replace ft := Fz.ext hx ft bt (Nat.succ_pos _)
        replace bt := Bl.ext hx bt (Nat.succ_pos _)
        replace fv := Fz.ext hx fv bv (Nat.succ_pos _)
        replace bv := Bl.ext hx bv (Nat.succ_pos _)
        replace h1 := hx.cell' h1
        replace h2 := hx.cell' h2
        replace HE := HE.trans hx
        clear hx
        clear hx4
        refine wpE_l rfl rfl (fun K hK => ?_)
        go_simp
        refine hK.out _ _ (((Below.refl _ _).setCell (by show x1.heap.size ≤ x3.heap.size; omega) _).setCell (by show x1.heap.size ≤ x3.heap.size; omega) _) ?_
        clear hK K
        try simp only [Act.put, List.setIfInBounds_toArray, List.set_cons_zero, List.set_cons_succ]
        refine absE (fun x5 hx5 => ?_)
        have hbut : But x4 x5 (x3.heap.size) := by rw [hx5]; exact (But.refl _ _).store.store
        have hbn : Bl x5 (x3.heap.size) #[.int .i64 px, .int .i64 py] := by rw [hx5]; exact (Bl.set (Bl.set br (by simp)) (by simp))
        replace h1 := But.cell hbut h1 (by show g ≠ _; omega)
        replace h2 := But.cell hbut h2 (by show g ≠ _; omega)
        replace fs := But.fz hbut fs bs (Nat.succ_pos _) (by omega)
        replace bs := But.bl hbut bs (Nat.succ_pos _) (by omega)
        replace ft := But.fz hbut ft bt (Nat.succ_pos _) (by omega)
        replace bt := But.bl hbut bt (Nat.succ_pos _) (by omega)
        replace fv := But.fz hbut fv bv (Nat.succ_pos _) (by omega)
        replace bv := But.bl hbut bv (Nat.succ_pos _) (by omega)
        replace fr : Fz x5 (x3.heap.size) := by rw [hx5]; exact (Fz.set (Fz.set fr))
        replace HE : Ext x1 x5 := by rw [hx5]; exact ((HE.store (by show x1.heap.size ≤ x3.heap.size; omega) _).store (by show x1.heap.size ≤ x3.heap.size; omega) _)
        replace hlo : x1.heap.size ≤ x5.heap.size := Nat.le_trans hlo hbut.1
        clear br hbut hx5
        have br := hbn
        clear hbn
        refine wpE_b rfl rfl (fun K hK => ?_)
        go_simp
        refine hK.out _ _ ?_
        clear hK K
        try simp only [Act.put, List.setIfInBounds_toArray, List.set_cons_zero, List.set_cons_succ]
        refine absE (fun x6 hx6 => ?_)
        have hbut : But x5 x6 (x2.heap.size) := by rw [hx6]; exact (But.refl _ _).store.store
        have hbn : Bl x6 (x2.heap.size) #[.int .i64 px, .int .i64 py] := by rw [hx6]; exact (Bl.set (Bl.set bv (by simp)) (by simp))
        replace h1 := But.cell hbut h1 (by show g ≠ _; omega)
        replace h2 := But.cell hbut h2 (by show g ≠ _; omega)
        replace fs := But.fz hbut fs bs (Nat.succ_pos _) (by omega)
        replace bs := But.bl hbut bs (Nat.succ_pos _) (by omega)
        replace ft := But.fz hbut ft bt (Nat.succ_pos _) (by omega)
        replace bt := But.bl hbut bt (Nat.succ_pos _) (by omega)
        replace fr := But.fz hbut fr br (Nat.succ_pos _) (by omega)
        replace br := But.bl hbut br (Nat.succ_pos _) (by omega)
        replace fv : Fz x6 (x2.heap.size) := by rw [hx6]; exact (Fz.set (Fz.set fv))
        replace HE : Ext x1 x6 := by rw [hx6]; exact ((HE.store (by show x1.heap.size ≤ x2.heap.size; omega) _).store (by show x1.heap.size ≤ x2.heap.size; omega) _)
        replace hlo : x1.heap.size ≤ x6.heap.size := Nat.le_trans hlo hbut.1
        clear bv hbut hx6
        have bv := hbn
        clear hbn
        refine wpE_done ?_
        clear hlo
        go_wp2_with fail
        go_meet
        exact ⟨x3.heap.size, x2.heap.size, rfl, rfl, by omega, by omega, by omega, br, fr, bv, fv, HE⟩
    case rest =>
      obtain ⟨gr, gv, rfl, rfl, hgr, hgv, hrv, br, fr, bv, fv, hx⟩ := hcut
      have lsx := bs.lt (Nat.succ_pos _)
      have ltx := bt.lt (Nat.succ_pos _)
      replace fs := Fz.ext hx fs bs (Nat.succ_pos _)
      replace bs := Bl.ext hx bs (Nat.succ_pos _)
      replace ft := Fz.ext hx ft bt (Nat.succ_pos _)
      replace bt := Bl.ext hx bt (Nat.succ_pos _)
      replace h1 := hx.cell' h1
      replace h2 := hx.cell' h2
      replace HE := HE.trans hx
      clear hx
      have lrw := br.lt (Nat.succ_pos _)
      have lvw := bv.lt (Nat.succ_pos _)
      by_cases hn1 : n = 1
      · subst hn1
        go_wp2_with fail
        all_goals
          go_loopw [23] (fun iv wr => iv = .int .i64 0 ∧ Ext w wr ∧ Bl wr gr #[.int .i64 px, .int .i64 py] ∧ Bl wr gv #[.int .i64 px, .int .i64 py] ∧ Fz wr gr ∧ Fz wr gv ∧ Bl wr w.heap.size #[.int .i64 0, .int .i64 0] ∧ Bl wr (w.heap.size + 1) #[.int .i64 0, .int .i64 0] ∧ Fz wr w.heap.size ∧ Fz wr (w.heap.size + 1)) (fun _ _ => 0)
          case atStart => exact ⟨rfl, HE, br, bv, fr, fv, bs, bt, fs, ft⟩
          case round =>
            clear HE br bv fr fv bs bt fs ft
            obtain ⟨rfl, HE, br, bv, fr, fv, bs, bt, fs, ft⟩ := hrel
            go_wp2_with fail
            have hsr : w.heap.size ≠ gr := by omega
            have hsv : w.heap.size ≠ gv := by omega
            have htr : w.heap.size + 1 ≠ gr := by omega
            have htv : w.heap.size + 1 ≠ gv := by omega
            have hmr : gr ∉ [w.heap.size, w.heap.size + 1] := by simp; omega
            have hmv : gv ∉ [w.heap.size, w.heap.size + 1] := by simp; omega
            refine wp_region_plan (R := ButS [w.heap.size, w.heap.size + 1]) (.q 0 (.q 1 (.l 2 (.b 3 (.q 4 .done))))) (by kernel_rfl) (by kernel_rfl) (by kernel_rfl) (by kernel_rfl) (ButS.refl _) (ButS.trans _) ?_
            refine absE (fun x1 hx1 => ?_)
            have hx : Ext wr x1 := by rw [hx1]; exact (Ext.refl _).drew
            replace fs := Fz.ext hx fs bs (Nat.succ_pos _)
            replace bs := Bl.ext hx bs (Nat.succ_pos _)
            replace ft := Fz.ext hx ft bt (Nat.succ_pos _)
            replace bt := Bl.ext hx bt (Nat.succ_pos _)
            replace fr := Fz.ext hx fr br (Nat.succ_pos _)
            replace br := Bl.ext hx br (Nat.succ_pos _)
            replace fv := Fz.ext hx fv bv (Nat.succ_pos _)
            replace bv := Bl.ext hx bv (Nat.succ_pos _)
            replace HE := HE.trans hx
            clear hx
            clear hx1
            repeat (refine wpE_q (v := ?_) rfl rfl (fun u hu => ?_) ?_; rotate_left 1; (focus (have kr := ButS.bl hu br (Nat.succ_pos _) hmr; have kv := ButS.bl hu bv (Nat.succ_pos _) hmv; go_simp; (try rfl))); simp only [Act.put, List.setIfInBounds_toArray, List.set_cons_zero, List.set_cons_succ])
            refine wpE_l rfl rfl (fun K hK => ?_)
            go_simp
            refine hK.out _ _ (((ButS.refl _ _).store (by simp)).store (by simp)) ?_
            clear hK K
            try simp only [Act.put, List.setIfInBounds_toArray, List.set_cons_zero, List.set_cons_succ]
            refine absE (fun x2 hx2 => ?_)
            have hbut : But x1 x2 (w.heap.size) := by rw [hx2]; exact (But.refl _ _).store.store
            have hbn : Bl x2 (w.heap.size) #[.int .i64 px, .int .i64 py] := by rw [hx2]; exact (Bl.set (Bl.set bs (by simp)) (by simp))
            replace ft := But.fz hbut ft bt (Nat.succ_pos _) (by omega)
            replace bt := But.bl hbut bt (Nat.succ_pos _) (by omega)
            replace fr := But.fz hbut fr br (Nat.succ_pos _) (by omega)
            replace br := But.bl hbut br (Nat.succ_pos _) (by omega)
            replace fv := But.fz hbut fv bv (Nat.succ_pos _) (by omega)
            replace bv := But.bl hbut bv (Nat.succ_pos _) (by omega)
            replace fs : Fz x2 (w.heap.size) := by rw [hx2]; exact (Fz.set (Fz.set fs))
            replace HE : Ext w x2 := by rw [hx2]; exact ((HE.store (by show w.heap.size ≤ w.heap.size; omega) _).store (by show w.heap.size ≤ w.heap.size; omega) _)
            clear bs hbut hx2
            have bs := hbn
            clear hbn
            refine wpE_b rfl rfl (fun K hK => ?_)
            go_simp
            refine hK.out _ _ ?_
            clear hK K
            try simp only [Act.put, List.setIfInBounds_toArray, List.set_cons_zero, List.set_cons_succ]
            refine absE (fun x3 hx3 => ?_)
            have hbut : But x2 x3 (w.heap.size + 1) := by rw [hx3]; exact (But.refl _ _).store.store
            have hbn : Bl x3 (w.heap.size + 1) #[.int .i64 px, .int .i64 py] := by rw [hx3]; exact (Bl.set (Bl.set bt (by simp)) (by simp))
            replace fs := But.fz hbut fs bs (Nat.succ_pos _) (by omega)
            replace bs := But.bl hbut bs (Nat.succ_pos _) (by omega)
            replace fr := But.fz hbut fr br (Nat.succ_pos _) (by omega)
            replace br := But.bl hbut br (Nat.succ_pos _) (by omega)
            replace fv := But.fz hbut fv bv (Nat.succ_pos _) (by omega)
            replace bv := But.bl hbut bv (Nat.succ_pos _) (by omega)
            replace ft : Fz x3 (w.heap.size + 1) := by rw [hx3]; exact (Fz.set (Fz.set ft))
            replace HE : Ext w x3 := by rw [hx3]; exact ((HE.store (by show w.heap.size ≤ w.heap.size + 1; omega) _).store (by show w.heap.size ≤ w.heap.size + 1; omega) _)
            clear bt hbut hx3
            have bt := hbn
            clear hbn
            repeat (refine wpE_q (v := ?_) rfl rfl (fun u hu => ?_) ?_; rotate_left 1; (focus (go_simp; (try rfl))); simp only [Act.put, List.setIfInBounds_toArray, List.set_cons_zero, List.set_cons_succ])
            refine wpE_done ?_
            go_wp2_with fail
            refine bodyPost_cells2_tmp rfl rfl rfl Try.underlying26 rfl (by kernel_rfl) (by kernel_rfl) (bl_two bs) (bl_two bt) rfl rfl ?_
            exact ⟨by unfold boxV; rw [HB1.out]; simp, HE⟩
      · have hc1 : ¬ cap = 1 := by omega
        go_wp2_with fail
        go_loopw [23] (fun iv wr => ∃ (k : Nat) (b1 b2 b3 b4 : Int), k + 1 ≤ n ∧ iv = .int .i64 (k : Int) ∧ Hid (bxS l (k + 1) = (b1, b2, b3, b4)) ∧ Ext w wr ∧ Bl wr gr #[.int .i64 b1, .int .i64 b2] ∧ Bl wr gv #[.int .i64 b3, .int .i64 b4] ∧ Fz wr gr ∧ Fz wr gv ∧ Bl wr w.heap.size #[.int .i64 0, .int .i64 0] ∧ Bl wr (w.heap.size + 1) #[.int .i64 0, .int .i64 0] ∧ Fz wr w.heap.size ∧ Fz wr (w.heap.size + 1)) (fun iv _ => n - (intOf iv).toNat)
        case atStart => exact ⟨0, px, py, px, py, by omega, rfl, HB1, HE, br, bv, fr, fv, bs, bt, fs, ft⟩
        case round =>
          clear HE br bv fr fv bs bt fs ft
          obtain ⟨k, b1, b2, b3, b4, hk, rfl, HB, HE, br, bv, fr, fv, bs, bt, fs, ft⟩ := hrel
          have lrr := br.lt (Nat.succ_pos _)
          have lvr := bv.lt (Nat.succ_pos _)
          have l0r := HE.size
          by_cases hlt : k + 1 < n
          · obtain ⟨g2, off2, hgo, hc⟩ := (H.out.ext HE).at (by omega)
            cases hgo
            have hkl : k + 1 < l.length := by rw [HLN.out]; exact hlt
            obtain ⟨h1, h2⟩ := hc (k + 1) hkl
            have hoff : off + (k + 1) * 2 = off + 2 + k * 2 := by omega
            rw [hoff] at h1 h2
            have hbs := bxS_succ hkl (by omega)
            rw [HB.out] at hbs
            simp only at hbs
            clear hc hoff
            generalize l[k + 1] = qq at *
            obtain ⟨qx, qy⟩ := qq
            simp only at h1 h2 hbs
            have HBS := hidP hbs
            clear hbs
            have hkn : k < n - 1 := by omega
            go_upto_region 7 with fail
            refine absW (fun x1 hx1 => ?_)
            have hx : Ext wr x1 := by rw [hx1]; exact ((Ext.refl _).alloc _)
            have bq : Bl x1 (wr.heap.size) #[.int .i64 qx, .int .i64 qy] := by rw [hx1]; exact (Bl.new (by simp))
            replace fs := Fz.ext hx fs bs (Nat.succ_pos _)
            replace bs := Bl.ext hx bs (Nat.succ_pos _)
            replace ft := Fz.ext hx ft bt (Nat.succ_pos _)
            replace bt := Bl.ext hx bt (Nat.succ_pos _)
            replace fr := Fz.ext hx fr br (Nat.succ_pos _)
            replace br := Bl.ext hx br (Nat.succ_pos _)
            replace fv := Fz.ext hx fv bv (Nat.succ_pos _)
            replace bv := Bl.ext hx bv (Nat.succ_pos _)
            replace HE := HE.trans hx
            clear hx
            clear hx1
            go_upto_region 8 with fail
            have hvr : gv ≠ gr := by omega
            refine absW (fun x2 hx2 => ?_)
            have hbut : But x1 x2 (gr) := by rw [hx2]; exact (But.refl _ _).store.store
            have hbn : Bl x2 (gr) #[.int .i64 (min b1 qx), .int .i64 (min b2 qy)] := by rw [hx2]; exact (Bl.set (Bl.set br (by simp)) (by simp))
            replace fs := But.fz hbut fs bs (Nat.succ_pos _) (by omega)
            replace bs := But.bl hbut bs (Nat.succ_pos _) (by omega)
            replace ft := But.fz hbut ft bt (Nat.succ_pos _) (by omega)
            replace bt := But.bl hbut bt (Nat.succ_pos _) (by omega)
            replace fv := But.fz hbut fv bv (Nat.succ_pos _) (by omega)
            replace bv := But.bl hbut bv (Nat.succ_pos _) (by omega)
            replace bq := But.bl hbut bq (Nat.succ_pos _) (by omega)
            replace fr : Fz x2 (gr) := by rw [hx2]; exact (Fz.set (Fz.set fr))
            replace HE : Ext w x2 := by rw [hx2]; exact ((HE.store (by show w.heap.size ≤ gr; omega) _).store (by show w.heap.size ≤ gr; omega) _)
            clear br hbut hx2
            have br := hbn
            clear hbn
            go_upto_region 9 with fail
            refine absW (fun x3 hx3 => ?_)
            have hbut : But x2 x3 (gv) := by rw [hx3]; exact (But.refl _ _).store.store
            have hbn : Bl x3 (gv) #[.int .i64 (max b3 qx), .int .i64 (max b4 qy)] := by rw [hx3]; exact (Bl.set (Bl.set bv (by simp)) (by simp))
            replace fs := But.fz hbut fs bs (Nat.succ_pos _) (by omega)
            replace bs := But.bl hbut bs (Nat.succ_pos _) (by omega)
            replace ft := But.fz hbut ft bt (Nat.succ_pos _) (by omega)
            replace bt := But.bl hbut bt (Nat.succ_pos _) (by omega)
            replace fr := But.fz hbut fr br (Nat.succ_pos _) (by omega)
            replace br := But.bl hbut br (Nat.succ_pos _) (by omega)
            replace bq := But.bl hbut bq (Nat.succ_pos _) (by omega)
            replace fv : Fz x3 (gv) := by rw [hx3]; exact (Fz.set (Fz.set fv))
            replace HE : Ext w x3 := by rw [hx3]; exact ((HE.store (by show w.heap.size ≤ gv; omega) _).store (by show w.heap.size ≤ gv; omega) _)
            clear bv hbut hx3
            have bv := hbn
            clear hbn
            go_wp2_with fail
            go_roundw
            case rel => exact ⟨k + 1, _, _, _, _, by omega, by go_num, HBS, HE, br, bv, fr, fv, bs, bt, fs, ft⟩
            case measure => simp only [intOf]; omega
          · obtain rfl : k + 1 = n := by omega
            go_wp2_with fail
            have hsr : w.heap.size ≠ gr := by omega
            have hsv : w.heap.size ≠ gv := by omega
            have htr : w.heap.size + 1 ≠ gr := by omega
            have htv : w.heap.size + 1 ≠ gv := by omega
            have hmr : gr ∉ [w.heap.size, w.heap.size + 1] := by simp; omega
            have hmv : gv ∉ [w.heap.size, w.heap.size + 1] := by simp; omega
            refine wp_region_plan (R := ButS [w.heap.size, w.heap.size + 1]) (.q 0 (.q 1 (.l 2 (.b 3 (.q 4 .done))))) (by kernel_rfl) (by kernel_rfl) (by kernel_rfl) (by kernel_rfl) (ButS.refl _) (ButS.trans _) ?_
            refine absE (fun x1 hx1 => ?_)
            have hx : Ext wr x1 := by rw [hx1]; exact (Ext.refl _).drew
            replace fs := Fz.ext hx fs bs (Nat.succ_pos _)
            replace bs := Bl.ext hx bs (Nat.succ_pos _)
            replace ft := Fz.ext hx ft bt (Nat.succ_pos _)
            replace bt := Bl.ext hx bt (Nat.succ_pos _)
            replace fr := Fz.ext hx fr br (Nat.succ_pos _)
            replace br := Bl.ext hx br (Nat.succ_pos _)
            replace fv := Fz.ext hx fv bv (Nat.succ_pos _)
            replace bv := Bl.ext hx bv (Nat.succ_pos _)
            replace HE := HE.trans hx
            clear hx
            clear hx1
            repeat (refine wpE_q (v := ?_) rfl rfl (fun u hu => ?_) ?_; rotate_left 1; (focus (have kr := ButS.bl hu br (Nat.succ_pos _) hmr; have kv := ButS.bl hu bv (Nat.succ_pos _) hmv; go_simp; (try rfl))); simp only [Act.put, List.setIfInBounds_toArray, List.set_cons_zero, List.set_cons_succ])
            refine wpE_l rfl rfl (fun K hK => ?_)
            go_simp
            refine hK.out _ _ (((ButS.refl _ _).store (by simp)).store (by simp)) ?_
            clear hK K
            try simp only [Act.put, List.setIfInBounds_toArray, List.set_cons_zero, List.set_cons_succ]
            refine absE (fun x2 hx2 => ?_)
            have hbut : But x1 x2 (w.heap.size) := by rw [hx2]; exact (But.refl _ _).store.store
            have hbn : Bl x2 (w.heap.size) #[.int .i64 b1, .int .i64 b2] := by rw [hx2]; exact (Bl.set (Bl.set bs (by simp)) (by simp))
            replace ft := But.fz hbut ft bt (Nat.succ_pos _) (by omega)
            replace bt := But.bl hbut bt (Nat.succ_pos _) (by omega)
            replace fr := But.fz hbut fr br (Nat.succ_pos _) (by omega)
            replace br := But.bl hbut br (Nat.succ_pos _) (by omega)
            replace fv := But.fz hbut fv bv (Nat.succ_pos _) (by omega)
            replace bv := But.bl hbut bv (Nat.succ_pos _) (by omega)
            replace fs : Fz x2 (w.heap.size) := by rw [hx2]; exact (Fz.set (Fz.set fs))
            replace HE : Ext w x2 := by rw [hx2]; exact ((HE.store (by show w.heap.size ≤ w.heap.size; omega) _).store (by show w.heap.size ≤ w.heap.size; omega) _)
            clear bs hbut hx2
            have bs := hbn
            clear hbn
            refine wpE_b rfl rfl (fun K hK => ?_)
            go_simp
            refine hK.out _ _ ?_
            clear hK K
            try simp only [Act.put, List.setIfInBounds_toArray, List.set_cons_zero, List.set_cons_succ]
            refine absE (fun x3 hx3 => ?_)
            have hbut : But x2 x3 (w.heap.size + 1) := by rw [hx3]; exact (But.refl _ _).store.store
            have hbn : Bl x3 (w.heap.size + 1) #[.int .i64 b3, .int .i64 b4] := by rw [hx3]; exact (Bl.set (Bl.set bt (by simp)) (by simp))
            replace fs := But.fz hbut fs bs (Nat.succ_pos _) (by omega)
            replace bs := But.bl hbut bs (Nat.succ_pos _) (by omega)
            replace fr := But.fz hbut fr br (Nat.succ_pos _) (by omega)
            replace br := But.bl hbut br (Nat.succ_pos _) (by omega)
            replace fv := But.fz hbut fv bv (Nat.succ_pos _) (by omega)
            replace bv := But.bl hbut bv (Nat.succ_pos _) (by omega)
            replace ft : Fz x3 (w.heap.size + 1) := by rw [hx3]; exact (Fz.set (Fz.set ft))
            replace HE : Ext w x3 := by rw [hx3]; exact ((HE.store (by show w.heap.size ≤ w.heap.size + 1; omega) _).store (by show w.heap.size ≤ w.heap.size + 1; omega) _)
            clear bt hbut hx3
            have bt := hbn
            clear hbn
            repeat (refine wpE_q (v := ?_) rfl rfl (fun u hu => ?_) ?_; rotate_left 1; (focus (go_simp; (try rfl))); simp only [Act.put, List.setIfInBounds_toArray, List.set_cons_zero, List.set_cons_succ])
            refine wpE_done ?_
            go_wp2_with fail
            refine bodyPost_cells2_tmp rfl rfl rfl Try.underlying26 rfl (by kernel_rfl) (by kernel_rfl) (bl_two bs) (bl_two bt) rfl rfl ?_
            exact ⟨by unfold boxV; rw [HB.out]; simp, HE⟩

end Go.Proofs.Ytogcmnagiepofaa
