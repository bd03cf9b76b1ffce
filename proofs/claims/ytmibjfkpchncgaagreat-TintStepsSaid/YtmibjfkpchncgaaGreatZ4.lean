/- Paints: colours. -/
import Derived.Test.YtmibjfkpchncgaaGreatZ3
namespace Go.Proofs.YtmibjfkpchncgaaGreat
set_option linter.unusedVariables false
set_option linter.unusedSimpArgs false
open Go Go.RowKit

/-- The colour at a point, n steps from one colour to the other one. -/
def wmix (n r0 g0 b0 a0 r1 g1 b1 a1 : Nat) : Nat × Nat × Nat × Nat := (fadr (mixr n a0 a1) (mixr n r0 r1) (mixr n r0 r1), fadr (mixr n a0 a1) (mixr n g0 g1) (mixr n g0 g1), fadr (mixr n a0 a1) (mixr n b0 b1) (mixr n b0 b1), mixr n a0 a1)
def atF (k : Int) (r0 g0 b0 a0 r1 g1 b1 a1 : Nat) (px py qx qy r ax ay : Int) : Nat × Nat × Nat × Nat := if mayT k px py qx qy r = true ∧ fitP ax ay = true then wmix (stepF k px py qx qy r ax ay) r0 g0 b0 a0 r1 g1 b1 a1 else (0, 0, 0, 0)
def colV (c : Nat × Nat × Nat × Nat) : Value := .agg #[.int .u8 (c.1 : Int), .int .u8 (c.2.1 : Int), .int .u8 (c.2.2.1 : Int), .int .u8 (c.2.2.2 : Int)]
theorem blk_four {w : World} {g : Nat} {v0 v1 v2 v3 : Value} (h : Bl w g #[v0, v1, v2, v3]) : ∀ j v, (#[v0, v1, v2, v3] : Array Value).toList[j]? = some v → w.cell? ⟨g, j, none⟩ = some v := by
  intro j v hv
  rw [h j]
  simpa using hv

set_option maxRecDepth 100000 in
set_option maxHeartbeats 4000000 in
theorem t_At (k : Int) (r0 g0 b0 a0 r1 g1 b1 a1 : Nat) (px py qx qy r ux uy vx vy : Int) (x y : Int) (a : Option Addr) (n c : Nat) (s : Bool) (ax ay : Int) (w : World) (h0 : Col8 r0 g0 b0 a0) (h1 : Col8 r1 g1 b1 a1) :
    Calls Tryz.prog 8 #[.agg #[.int .i64 k, .int .u8 (r0 : Int), .int .u8 (g0 : Int), .int .u8 (b0 : Int), .int .u8 (a0 : Int), .int .u8 (r1 : Int), .int .u8 (g1 : Int), .int .u8 (b1 : Int), .int .u8 (a1 : Int), .int .i64 px, .int .i64 py, .int .i64 qx, .int .i64 qy, .int .i64 r, .int .i64 ux, .int .i64 uy, .int .i64 vx, .int .i64 vy, .int .i64 x, .int .i64 y, .slice a n c, .bool s], .agg #[.int .i64 ax, .int .i64 ay]] w fun e w' => e = .returned (colV (atF k r0 g0 b0 a0 r1 g1 b1 a1 px py qx qy r ax ay)) ∧ Ext w w' := by
  have HM := hidP (fun u => t_May k r0 g0 b0 a0 r1 g1 b1 a1 px py qx qy r ux uy vx vy x y a n c s u)
  have HF := hidP (a_Fits ax ay)
  cases hm : mayT k px py qx qy r
  · have HR : Hid (atF k r0 g0 b0 a0 r1 g1 b1 a1 px py qx qy r ax ay = (0, 0, 0, 0)) := hidP (if_neg (by rw [hm]; simp))
    rw [hm] at HM
    clear hm HF h0 h1
    generalize atF k r0 g0 b0 a0 r1 g1 b1 a1 px py qx qy r ax ay = rr at *
    go_enter Tryz.func8, Tryz.ntmps8
    go_upto_region 1 with fail
    refine absW (fun x1 hx1 => ?_)
    have hx : Ext w x1 := by rw [hx1]; exact ((((Ext.refl _).alloc _).alloc _).alloc _)
    have bp : Bl x1 (w.heap.size) #[.int .i64 k, .int .u8 (r0 : Int), .int .u8 (g0 : Int), .int .u8 (b0 : Int), .int .u8 (a0 : Int), .int .u8 (r1 : Int), .int .u8 (g1 : Int), .int .u8 (b1 : Int), .int .u8 (a1 : Int), .int .i64 px, .int .i64 py, .int .i64 qx, .int .i64 qy, .int .i64 r, .int .i64 ux, .int .i64 uy, .int .i64 vx, .int .i64 vy, .int .i64 x, .int .i64 y, .slice a n c, .bool s] := by rw [hx1]; exact (((Bl.new (by simp)).alloc (by simp)).alloc (by simp))
    have bz : Bl x1 (w.heap.size + 1) #[.int .i64 ax, .int .i64 ay] := by rw [hx1]; exact ((Bl.new (by simp)).alloc (by simp))
    have bo : Bl x1 (w.heap.size + 1 + 1) #[.int .u8 0, .int .u8 0, .int .u8 0, .int .u8 0] := by rw [hx1]; exact (Bl.new (by simp))
    have fo : Fz x1 (w.heap.size + 1 + 1) := by rw [hx1]; exact (Fz.new (by simp))
    have HE := hx
    clear hx
    clear hx1
    go_wp2_with (first | (refine wpList_loadB bp rfl rfl rfl rfl ?_))
    refine (HM.out _).mono ?_
    rintro e u1 ⟨rfl, hx⟩
    replace bp := Bl.ext hx bp (Nat.succ_pos _)
    replace bz := Bl.ext hx bz (Nat.succ_pos _)
    replace fo := Fz.ext hx fo bo (Nat.succ_pos _)
    replace bo := Bl.ext hx bo (Nat.succ_pos _)
    replace HE := HE.trans hx
    clear hx
    go_wp2_with fail
    refine absB (fun ue hue => ?_)
    have hbs : Bl ue (w.heap.size + 1 + 1) #[.int .u8 0, .int .u8 0, .int .u8 0, .int .u8 0] := by rw [hue]; exact ((((bo.set (by simp)).set (by simp)).set (by simp)).set (by simp))
    have heu : Ext w ue := by rw [hue]; exact (((HE.store (by show w.heap.size ≤ w.heap.size + 1 + 1; omega) _).store (by show w.heap.size ≤ w.heap.size + 1 + 1; omega) _).store (by show w.heap.size ≤ w.heap.size + 1 + 1; omega) _).store (by show w.heap.size ≤ w.heap.size + 1 + 1; omega) _
    clear hue
    refine bodyPost_cells rfl rfl Tryz.underlying23 rfl (by kernel_rfl) (blk_four hbs) rfl ?_
    rw [HR.out]
    exact ⟨rfl, heu⟩
  · cases hf : fitP ax ay
    · have HR : Hid (atF k r0 g0 b0 a0 r1 g1 b1 a1 px py qx qy r ax ay = (0, 0, 0, 0)) := hidP (if_neg (by rw [hf]; simp))
      rw [hm] at HM
      rw [hf] at HF
      clear hm hf h0 h1
      generalize atF k r0 g0 b0 a0 r1 g1 b1 a1 px py qx qy r ax ay = rr at *
      go_enter Tryz.func8, Tryz.ntmps8
      go_upto_region 1 with fail
      refine absW (fun x1 hx1 => ?_)
      have hx : Ext w x1 := by rw [hx1]; exact ((((Ext.refl _).alloc _).alloc _).alloc _)
      have bp : Bl x1 (w.heap.size) #[.int .i64 k, .int .u8 (r0 : Int), .int .u8 (g0 : Int), .int .u8 (b0 : Int), .int .u8 (a0 : Int), .int .u8 (r1 : Int), .int .u8 (g1 : Int), .int .u8 (b1 : Int), .int .u8 (a1 : Int), .int .i64 px, .int .i64 py, .int .i64 qx, .int .i64 qy, .int .i64 r, .int .i64 ux, .int .i64 uy, .int .i64 vx, .int .i64 vy, .int .i64 x, .int .i64 y, .slice a n c, .bool s] := by rw [hx1]; exact (((Bl.new (by simp)).alloc (by simp)).alloc (by simp))
      have bz : Bl x1 (w.heap.size + 1) #[.int .i64 ax, .int .i64 ay] := by rw [hx1]; exact ((Bl.new (by simp)).alloc (by simp))
      have bo : Bl x1 (w.heap.size + 1 + 1) #[.int .u8 0, .int .u8 0, .int .u8 0, .int .u8 0] := by rw [hx1]; exact (Bl.new (by simp))
      have fo : Fz x1 (w.heap.size + 1 + 1) := by rw [hx1]; exact (Fz.new (by simp))
      have HE := hx
      clear hx
      clear hx1
      go_wp2_with (first | (refine wpList_loadB bp rfl rfl rfl rfl ?_))
      refine (HM.out _).mono ?_
      rintro e u1 ⟨rfl, hx⟩
      replace bp := Bl.ext hx bp (Nat.succ_pos _)
      replace bz := Bl.ext hx bz (Nat.succ_pos _)
      replace fo := Fz.ext hx fo bo (Nat.succ_pos _)
      replace bo := Bl.ext hx bo (Nat.succ_pos _)
      replace HE := HE.trans hx
      clear hx
      go_wp2_with fail
      refine (HF.out _).mono ?_
      rintro e u2 ⟨rfl, hx⟩
      replace bp := Bl.ext hx bp (Nat.succ_pos _)
      replace bz := Bl.ext hx bz (Nat.succ_pos _)
      replace fo := Fz.ext hx fo bo (Nat.succ_pos _)
      replace bo := Bl.ext hx bo (Nat.succ_pos _)
      replace HE := HE.trans hx
      clear hx
      go_wp2_with fail
      refine absB (fun ue hue => ?_)
      have hbs : Bl ue (w.heap.size + 1 + 1) #[.int .u8 0, .int .u8 0, .int .u8 0, .int .u8 0] := by rw [hue]; exact ((((bo.set (by simp)).set (by simp)).set (by simp)).set (by simp))
      have heu : Ext w ue := by rw [hue]; exact (((HE.store (by show w.heap.size ≤ w.heap.size + 1 + 1; omega) _).store (by show w.heap.size ≤ w.heap.size + 1 + 1; omega) _).store (by show w.heap.size ≤ w.heap.size + 1 + 1; omega) _).store (by show w.heap.size ≤ w.heap.size + 1 + 1; omega) _
      clear hue
      refine bodyPost_cells rfl rfl Tryz.underlying23 rfl (by kernel_rfl) (blk_four hbs) rfl ?_
      rw [HR.out]
      exact ⟨rfl, heu⟩
    · have hn := stepF_le k px py qx qy r ax ay
      have HS := hidP (fun u => t_Step k r0 g0 b0 a0 r1 g1 b1 a1 px py qx qy r ux uy vx vy x y a n c s ax ay u)
      have HR : Hid (atF k r0 g0 b0 a0 r1 g1 b1 a1 px py qx qy r ax ay = wmix (stepF k px py qx qy r ax ay) r0 g0 b0 a0 r1 g1 b1 a1) := hidP (if_pos ⟨hm, hf⟩)
      rw [hm] at HM
      rw [hf] at HF
      clear hm hf
      generalize atF k r0 g0 b0 a0 r1 g1 b1 a1 px py qx qy r ax ay = rr at *
      generalize stepF k px py qx qy r ax ay = S at *
      have HX := hidP (fun u => c_mix_any S r0 g0 b0 a0 r1 g1 b1 a1 u h0 h1 hn)
      have HW := hidP (fun u => c_weigh_any (mixr S r0 r1) (mixr S g0 g1) (mixr S b0 b1) (mixr S a0 a1) u ⟨mixr_le _ _ _, mixr_le _ _ _, mixr_le _ _ _, mixr_le _ _ _⟩)
      unfold wmix at HR
      generalize mixr S a0 a1 = c3 at *
      generalize fadr c3 (mixr S r0 r1) (mixr S r0 r1) = c0 at *
      generalize fadr c3 (mixr S g0 g1) (mixr S g0 g1) = c1 at *
      generalize fadr c3 (mixr S b0 b1) (mixr S b0 b1) = c2 at *
      generalize mixr S r0 r1 = d0 at *
      generalize mixr S g0 g1 = d1 at *
      generalize mixr S b0 b1 = d2 at *
      clear h0 h1
      go_enter Tryz.func8, Tryz.ntmps8
      go_upto_region 1 with fail
      refine absW (fun x1 hx1 => ?_)
      have hx : Ext w x1 := by rw [hx1]; exact ((((Ext.refl _).alloc _).alloc _).alloc _)
      have bp : Bl x1 (w.heap.size) #[.int .i64 k, .int .u8 (r0 : Int), .int .u8 (g0 : Int), .int .u8 (b0 : Int), .int .u8 (a0 : Int), .int .u8 (r1 : Int), .int .u8 (g1 : Int), .int .u8 (b1 : Int), .int .u8 (a1 : Int), .int .i64 px, .int .i64 py, .int .i64 qx, .int .i64 qy, .int .i64 r, .int .i64 ux, .int .i64 uy, .int .i64 vx, .int .i64 vy, .int .i64 x, .int .i64 y, .slice a n c, .bool s] := by rw [hx1]; exact (((Bl.new (by simp)).alloc (by simp)).alloc (by simp))
      have bz : Bl x1 (w.heap.size + 1) #[.int .i64 ax, .int .i64 ay] := by rw [hx1]; exact ((Bl.new (by simp)).alloc (by simp))
      have bo : Bl x1 (w.heap.size + 1 + 1) #[.int .u8 0, .int .u8 0, .int .u8 0, .int .u8 0] := by rw [hx1]; exact (Bl.new (by simp))
      have fo : Fz x1 (w.heap.size + 1 + 1) := by rw [hx1]; exact (Fz.new (by simp))
      have HE := hx
      clear hx
      clear hx1
      go_wp2_with (first | (refine wpList_loadB bp rfl rfl rfl rfl ?_))
      refine (HM.out _).mono ?_
      rintro e u1 ⟨rfl, hx⟩
      replace bp := Bl.ext hx bp (Nat.succ_pos _)
      replace bz := Bl.ext hx bz (Nat.succ_pos _)
      replace fo := Fz.ext hx fo bo (Nat.succ_pos _)
      replace bo := Bl.ext hx bo (Nat.succ_pos _)
      replace HE := HE.trans hx
      clear hx
      go_wp2_with fail
      refine (HF.out _).mono ?_
      rintro e u2 ⟨rfl, hx⟩
      replace bp := Bl.ext hx bp (Nat.succ_pos _)
      replace bz := Bl.ext hx bz (Nat.succ_pos _)
      replace fo := Fz.ext hx fo bo (Nat.succ_pos _)
      replace bo := Bl.ext hx bo (Nat.succ_pos _)
      replace HE := HE.trans hx
      clear hx
      go_wp2_with fail
      refine wp_region_plan (R := Ext) (.q 0 (.q 1 (.q 2 (.q 3 (.q 4 (.q 5 (.l 6 (.l 7 (.l 8 (.b 9 .done)))))))))) (by kernel_rfl) (by kernel_rfl) (by kernel_rfl) (by kernel_rfl) Ext.refl (fun _ _ _ => Ext.trans) ?_
      refine absE (fun x2 hx2 => ?_)
      have hx : Ext u2 x2 := by rw [hx2]; exact (Ext.refl _).drew
      replace bp := Bl.ext hx bp (Nat.succ_pos _)
      replace bz := Bl.ext hx bz (Nat.succ_pos _)
      replace fo := Fz.ext hx fo bo (Nat.succ_pos _)
      replace bo := Bl.ext hx bo (Nat.succ_pos _)
      replace HE := HE.trans hx
      clear hx
      clear hx2
      repeat (first | (refine wpE_q rfl rfl (fun u hu => exec_loadB (Bl.ext hu bp (Nat.succ_pos _)) rfl rfl rfl) ?_; simp only [Act.put, List.setIfInBounds_toArray, List.set_cons_zero, List.set_cons_succ]) | (refine wpE_q (v := ?_) rfl rfl (fun u hu => ?_) ?_; rotate_left 1; (focus (have kp := Bl.ext hu bp (Nat.succ_pos _); have kz := Bl.ext hu bz (Nat.succ_pos _); have ko := Bl.ext hu bo (Nat.succ_pos _); go_simp; (try rfl))); simp only [Act.put, List.setIfInBounds_toArray, List.set_cons_zero, List.set_cons_succ]))
      refine wpE_l rfl rfl (fun K hK => ?_)
      go_simp
      refine (HS.out _).mono ?_
      rintro e u4 ⟨rfl, hx⟩
      refine hK.out _ _ hx ?_
      clear hK K
      try simp only [Act.put, List.setIfInBounds_toArray, List.set_cons_zero, List.set_cons_succ]
      replace bp := Bl.ext hx bp (Nat.succ_pos _)
      replace bz := Bl.ext hx bz (Nat.succ_pos _)
      replace fo := Fz.ext hx fo bo (Nat.succ_pos _)
      replace bo := Bl.ext hx bo (Nat.succ_pos _)
      replace HE := HE.trans hx
      clear hx
      refine wpE_l rfl rfl (fun K hK => ?_)
      go_simp
      refine (HX.out _).mono ?_
      rintro e u5 ⟨rfl, hx⟩
      refine hK.out _ _ hx ?_
      clear hK K
      try simp only [Act.put, List.setIfInBounds_toArray, List.set_cons_zero, List.set_cons_succ]
      replace bp := Bl.ext hx bp (Nat.succ_pos _)
      replace bz := Bl.ext hx bz (Nat.succ_pos _)
      replace fo := Fz.ext hx fo bo (Nat.succ_pos _)
      replace bo := Bl.ext hx bo (Nat.succ_pos _)
      replace HE := HE.trans hx
      clear hx
      refine wpE_l rfl rfl (fun K hK => ?_)
      go_simp
      refine (HW.out _).mono ?_
      rintro e u6 ⟨rfl, hx⟩
      refine hK.out _ _ hx ?_
      clear hK K
      try simp only [Act.put, List.setIfInBounds_toArray, List.set_cons_zero, List.set_cons_succ]
      replace bp := Bl.ext hx bp (Nat.succ_pos _)
      replace bz := Bl.ext hx bz (Nat.succ_pos _)
      replace fo := Fz.ext hx fo bo (Nat.succ_pos _)
      replace bo := Bl.ext hx bo (Nat.succ_pos _)
      replace HE := HE.trans hx
      clear hx
      refine wpE_b rfl rfl (fun K hK => ?_)
      go_simp
      refine hK.out _ _ ?_
      clear hK K
      try simp only [Act.put, List.setIfInBounds_toArray, List.set_cons_zero, List.set_cons_succ]
      refine wpE_done ?_
      go_wp2_with fail
      refine absB (fun ue hue => ?_)
      have hbs : Bl ue (w.heap.size + 1 + 1) #[.int .u8 (c0 : Int), .int .u8 (c1 : Int), .int .u8 (c2 : Int), .int .u8 (c3 : Int)] := by rw [hue]; exact ((((bo.set (by simp)).set (by simp)).set (by simp)).set (by simp))
      have heu : Ext w ue := by rw [hue]; exact (((HE.store (by show w.heap.size ≤ w.heap.size + 1 + 1; omega) _).store (by show w.heap.size ≤ w.heap.size + 1 + 1; omega) _).store (by show w.heap.size ≤ w.heap.size + 1 + 1; omega) _).store (by show w.heap.size ≤ w.heap.size + 1 + 1; omega) _
      clear hue
      refine bodyPost_cells rfl rfl Tryz.underlying23 rfl (by kernel_rfl) (blk_four hbs) rfl ?_
      rw [HR.out]
      exact ⟨rfl, heu⟩

end Go.Proofs.YtmibjfkpchncgaaGreat
