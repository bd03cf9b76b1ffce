/- Paints: the document's word on what of them plays a part. -/
import Derived.Test.YtmibjfkpchncgaaZ6
namespace Go.Proofs.Ytmibjfkpchncgaa
set_option linter.unusedVariables false
set_option linter.unusedSimpArgs false
open Go Go.RowKit

/-- A block of 22 cells. -/
def B22 (w : World) (g : Nat) (l : List Value) : Prop := Bl w g l.toArray ∧ l.length = 22
theorem B22.set {w : World} {g j : Nat} {l : List Value} {v : Value} (h : B22 w g l) (hj : j < 22) : B22 (w.setCell ⟨g, j, none⟩ v) g (l.set j v) := ⟨by
    have := h.1.set (v := v) (by show j < l.toArray.size; rw [List.size_toArray, h.2]; exact hj)
    rwa [List.setIfInBounds_toArray] at this, by rw [List.length_set]; exact h.2⟩

set_option maxRecDepth 100000 in
set_option maxHeartbeats 4000000 in
theorem e_Used_1 (r0 g0 b0 a0 r1 g1 b1 a1 : Nat) (px py qx qy r ux uy vx vy : Int) (x y : Int) (a : Option Addr) (n c : Nat) (s : Bool) (w : World) : Calls Try.prog 11 #[.agg #[.int .i64 1, .int .u8 (r0 : Int), .int .u8 (g0 : Int), .int .u8 (b0 : Int), .int .u8 (a0 : Int), .int .u8 (r1 : Int), .int .u8 (g1 : Int), .int .u8 (b1 : Int), .int .u8 (a1 : Int), .int .i64 px, .int .i64 py, .int .i64 qx, .int .i64 qy, .int .i64 r, .int .i64 ux, .int .i64 uy, .int .i64 vx, .int .i64 vy, .int .i64 x, .int .i64 y, .slice a n c, .bool s]] w fun e w' => e = .returned (.agg #[.int .i64 1, .int .u8 (r0 : Int), .int .u8 (g0 : Int), .int .u8 (b0 : Int), .int .u8 (a0 : Int), .int .u8 0, .int .u8 0, .int .u8 0, .int .u8 0, .int .i64 0, .int .i64 0, .int .i64 0, .int .i64 0, .int .i64 0, .int .i64 0, .int .i64 0, .int .i64 0, .int .i64 0, .int .i64 0, .int .i64 0, .slice none 0 0, .bool false]) ∧ Ext w w' := by
  go_enter Try.func11, Try.ntmps11
  go_upto_region 1 with fail
  refine absW (fun x1 hx1 => ?_)
  have hx : Ext w x1 := by rw [hx1]; exact (((Ext.refl _).alloc _).alloc _)
  have bp : Bl x1 (w.heap.size) #[.int .i64 1, .int .u8 (r0 : Int), .int .u8 (g0 : Int), .int .u8 (b0 : Int), .int .u8 (a0 : Int), .int .u8 (r1 : Int), .int .u8 (g1 : Int), .int .u8 (b1 : Int), .int .u8 (a1 : Int), .int .i64 px, .int .i64 py, .int .i64 qx, .int .i64 qy, .int .i64 r, .int .i64 ux, .int .i64 uy, .int .i64 vx, .int .i64 vy, .int .i64 x, .int .i64 y, .slice a n c, .bool s] := by rw [hx1]; exact ((Bl.new (by simp)).alloc (by simp))
  have bo : Bl x1 (w.heap.size + 1) #[.int .i64 0, .int .u8 0, .int .u8 0, .int .u8 0, .int .u8 0, .int .u8 0, .int .u8 0, .int .u8 0, .int .u8 0, .int .i64 0, .int .i64 0, .int .i64 0, .int .i64 0, .int .i64 0, .int .i64 0, .int .i64 0, .int .i64 0, .int .i64 0, .int .i64 0, .int .i64 0, .slice none 0 0, .bool false] := by rw [hx1]; exact (Bl.new (by simp))
  have fo : Fz x1 (w.heap.size + 1) := by rw [hx1]; exact (Fz.new (by simp))
  have HE := hx
  clear hx
  clear hx1
  have lp := bp.lt (Nat.succ_pos _)
  have lo := bo.lt (Nat.succ_pos _)
  go_upto_region 2 with (first | (refine wpList_exec rfl (exec_u1 rfl rfl rfl) ?_) | (refine wpList_storeB (Bl.new (by simp)) (Fz.new (by simp)) rfl rfl rfl rfl rfl rfl (List.all_eq_true.1 (by rfl)) rfl ?_; intro ue bq fq hbu hex; have bp1 := hbu.bl (Bl.ext ((Ext.refl _).alloc _) bp (Nat.succ_pos _)) (Nat.succ_pos _) (by omega); have bo1 := hbu.bl (Bl.ext ((Ext.refl _).alloc _) bo (Nat.succ_pos _)) (Nat.succ_pos _) (by omega); have fo1 := hbu.fz (Fz.ext ((Ext.refl _).alloc _) fo bo (Nat.succ_pos _)) (Bl.ext ((Ext.refl _).alloc _) bo (Nat.succ_pos _)) (Nat.succ_pos _) (by omega); have HE1 := hex w (HE.alloc _) (by omega)))
  clear hbu hex fo bo bp HE
  go_upto_region 11 with fail
  refine absW (fun uf huf => ?_)
  have bq2 : Bl uf x1.heap.size #[.int .i64 1, .int .u8 (r0 : Int), .int .u8 (g0 : Int), .int .u8 (b0 : Int), .int .u8 (a0 : Int), .int .u8 0, .int .u8 0, .int .u8 0, .int .u8 0, .int .i64 0, .int .i64 0, .int .i64 0, .int .i64 0, .int .i64 0, .int .i64 0, .int .i64 0, .int .i64 0, .int .i64 0, .int .i64 0, .int .i64 0, .slice none 0 0, .bool false] := by rw [huf]; exact ((⟨bq, rfl⟩ : B22 _ _ _)).1
  have hb2 : But ue uf x1.heap.size := by rw [huf]; exact (But.refl _ _)
  have HE2 : Ext w uf := by rw [huf]; exact HE1
  have bo2 := hb2.bl bo1 (Nat.succ_pos _) (by omega)
  have fo2 := hb2.fz fo1 bo1 (Nat.succ_pos _) (by omega)
  clear huf hb2 bq fq bo1 fo1 HE1 bp1
  go_wp2_with (first | (refine wpList_loadB bq2 rfl rfl rfl rfl ?_) | (refine wpList_storeB bo2 fo2 rfl rfl rfl rfl rfl rfl (List.all_eq_true.1 (by rfl)) rfl (fun ug hbs hfs hbu hex => ?_)))
  refine bodyPost_cells rfl rfl Try.underlying30 rfl (by kernel_rfl) (blk_great hbs) rfl ?_
  exact ⟨rfl, hex w HE2 (by omega)⟩

set_option maxRecDepth 100000 in
set_option maxHeartbeats 4000000 in
theorem e_Used_2 (r0 g0 b0 a0 r1 g1 b1 a1 : Nat) (px py qx qy r ux uy vx vy : Int) (x y : Int) (a : Option Addr) (n c : Nat) (s : Bool) (w : World) : Calls Try.prog 11 #[.agg #[.int .i64 2, .int .u8 (r0 : Int), .int .u8 (g0 : Int), .int .u8 (b0 : Int), .int .u8 (a0 : Int), .int .u8 (r1 : Int), .int .u8 (g1 : Int), .int .u8 (b1 : Int), .int .u8 (a1 : Int), .int .i64 px, .int .i64 py, .int .i64 qx, .int .i64 qy, .int .i64 r, .int .i64 ux, .int .i64 uy, .int .i64 vx, .int .i64 vy, .int .i64 x, .int .i64 y, .slice a n c, .bool s]] w fun e w' => e = .returned (.agg #[.int .i64 2, .int .u8 (r0 : Int), .int .u8 (g0 : Int), .int .u8 (b0 : Int), .int .u8 (a0 : Int), .int .u8 (r1 : Int), .int .u8 (g1 : Int), .int .u8 (b1 : Int), .int .u8 (a1 : Int), .int .i64 px, .int .i64 py, .int .i64 qx, .int .i64 qy, .int .i64 0, .int .i64 0, .int .i64 0, .int .i64 0, .int .i64 0, .int .i64 0, .int .i64 0, .slice none 0 0, .bool false]) ∧ Ext w w' := by
  go_enter Try.func11, Try.ntmps11
  go_upto_region 1 with fail
  refine absW (fun x1 hx1 => ?_)
  have hx : Ext w x1 := by rw [hx1]; exact (((Ext.refl _).alloc _).alloc _)
  have bp : Bl x1 (w.heap.size) #[.int .i64 2, .int .u8 (r0 : Int), .int .u8 (g0 : Int), .int .u8 (b0 : Int), .int .u8 (a0 : Int), .int .u8 (r1 : Int), .int .u8 (g1 : Int), .int .u8 (b1 : Int), .int .u8 (a1 : Int), .int .i64 px, .int .i64 py, .int .i64 qx, .int .i64 qy, .int .i64 r, .int .i64 ux, .int .i64 uy, .int .i64 vx, .int .i64 vy, .int .i64 x, .int .i64 y, .slice a n c, .bool s] := by rw [hx1]; exact ((Bl.new (by simp)).alloc (by simp))
  have bo : Bl x1 (w.heap.size + 1) #[.int .i64 0, .int .u8 0, .int .u8 0, .int .u8 0, .int .u8 0, .int .u8 0, .int .u8 0, .int .u8 0, .int .u8 0, .int .i64 0, .int .i64 0, .int .i64 0, .int .i64 0, .int .i64 0, .int .i64 0, .int .i64 0, .int .i64 0, .int .i64 0, .int .i64 0, .int .i64 0, .slice none 0 0, .bool false] := by rw [hx1]; exact (Bl.new (by simp))
  have fo : Fz x1 (w.heap.size + 1) := by rw [hx1]; exact (Fz.new (by simp))
  have HE := hx
  clear hx
  clear hx1
  have lp := bp.lt (Nat.succ_pos _)
  have lo := bo.lt (Nat.succ_pos _)
  go_upto_region 2 with (first | (refine wpList_exec rfl (exec_u1 rfl rfl rfl) ?_) | (refine wpList_storeB (Bl.new (by simp)) (Fz.new (by simp)) rfl rfl rfl rfl rfl rfl (List.all_eq_true.1 (by rfl)) rfl ?_; intro ue bq fq hbu hex; have bp1 := hbu.bl (Bl.ext ((Ext.refl _).alloc _) bp (Nat.succ_pos _)) (Nat.succ_pos _) (by omega); have bo1 := hbu.bl (Bl.ext ((Ext.refl _).alloc _) bo (Nat.succ_pos _)) (Nat.succ_pos _) (by omega); have fo1 := hbu.fz (Fz.ext ((Ext.refl _).alloc _) fo bo (Nat.succ_pos _)) (Bl.ext ((Ext.refl _).alloc _) bo (Nat.succ_pos _)) (Nat.succ_pos _) (by omega); have HE1 := hex w (HE.alloc _) (by omega)))
  clear hbu hex fo bo bp HE
  go_upto_region 11 with fail
  refine absW (fun uf huf => ?_)
  have bq2 : Bl uf x1.heap.size #[.int .i64 2, .int .u8 (r0 : Int), .int .u8 (g0 : Int), .int .u8 (b0 : Int), .int .u8 (a0 : Int), .int .u8 (r1 : Int), .int .u8 (g1 : Int), .int .u8 (b1 : Int), .int .u8 (a1 : Int), .int .i64 px, .int .i64 py, .int .i64 qx, .int .i64 qy, .int .i64 0, .int .i64 0, .int .i64 0, .int .i64 0, .int .i64 0, .int .i64 0, .int .i64 0, .slice none 0 0, .bool false] := by rw [huf]; exact ((B22.set (B22.set (B22.set (B22.set (B22.set (B22.set (B22.set (B22.set (⟨bq, rfl⟩ : B22 _ _ _) (by decide)) (by decide)) (by decide)) (by decide)) (by decide)) (by decide)) (by decide)) (by decide))).1
  have hb2 : But ue uf x1.heap.size := by rw [huf]; exact (But.refl _ _).store.store.store.store.store.store.store.store
  have HE2 : Ext w uf := by rw [huf]; exact ((((((((HE1.store (by show w.heap.size ≤ x1.heap.size; omega) _).store (by show w.heap.size ≤ x1.heap.size; omega) _).store (by show w.heap.size ≤ x1.heap.size; omega) _).store (by show w.heap.size ≤ x1.heap.size; omega) _).store (by show w.heap.size ≤ x1.heap.size; omega) _).store (by show w.heap.size ≤ x1.heap.size; omega) _).store (by show w.heap.size ≤ x1.heap.size; omega) _).store (by show w.heap.size ≤ x1.heap.size; omega) _)
  have bo2 := hb2.bl bo1 (Nat.succ_pos _) (by omega)
  have fo2 := hb2.fz fo1 bo1 (Nat.succ_pos _) (by omega)
  clear huf hb2 bq fq bo1 fo1 HE1 bp1
  go_wp2_with (first | (refine wpList_loadB bq2 rfl rfl rfl rfl ?_) | (refine wpList_storeB bo2 fo2 rfl rfl rfl rfl rfl rfl (List.all_eq_true.1 (by rfl)) rfl (fun ug hbs hfs hbu hex => ?_)))
  refine bodyPost_cells rfl rfl Try.underlying30 rfl (by kernel_rfl) (blk_great hbs) rfl ?_
  exact ⟨rfl, hex w HE2 (by omega)⟩

set_option maxRecDepth 100000 in
set_option maxHeartbeats 4000000 in
theorem e_Used_3 (r0 g0 b0 a0 r1 g1 b1 a1 : Nat) (px py qx qy r ux uy vx vy : Int) (x y : Int) (a : Option Addr) (n c : Nat) (s : Bool) (w : World) : Calls Try.prog 11 #[.agg #[.int .i64 3, .int .u8 (r0 : Int), .int .u8 (g0 : Int), .int .u8 (b0 : Int), .int .u8 (a0 : Int), .int .u8 (r1 : Int), .int .u8 (g1 : Int), .int .u8 (b1 : Int), .int .u8 (a1 : Int), .int .i64 px, .int .i64 py, .int .i64 qx, .int .i64 qy, .int .i64 r, .int .i64 ux, .int .i64 uy, .int .i64 vx, .int .i64 vy, .int .i64 x, .int .i64 y, .slice a n c, .bool s]] w fun e w' => e = .returned (.agg #[.int .i64 3, .int .u8 (r0 : Int), .int .u8 (g0 : Int), .int .u8 (b0 : Int), .int .u8 (a0 : Int), .int .u8 (r1 : Int), .int .u8 (g1 : Int), .int .u8 (b1 : Int), .int .u8 (a1 : Int), .int .i64 px, .int .i64 py, .int .i64 0, .int .i64 0, .int .i64 r, .int .i64 0, .int .i64 0, .int .i64 0, .int .i64 0, .int .i64 0, .int .i64 0, .slice none 0 0, .bool false]) ∧ Ext w w' := by
  go_enter Try.func11, Try.ntmps11
  go_upto_region 1 with fail
  refine absW (fun x1 hx1 => ?_)
  have hx : Ext w x1 := by rw [hx1]; exact (((Ext.refl _).alloc _).alloc _)
  have bp : Bl x1 (w.heap.size) #[.int .i64 3, .int .u8 (r0 : Int), .int .u8 (g0 : Int), .int .u8 (b0 : Int), .int .u8 (a0 : Int), .int .u8 (r1 : Int), .int .u8 (g1 : Int), .int .u8 (b1 : Int), .int .u8 (a1 : Int), .int .i64 px, .int .i64 py, .int .i64 qx, .int .i64 qy, .int .i64 r, .int .i64 ux, .int .i64 uy, .int .i64 vx, .int .i64 vy, .int .i64 x, .int .i64 y, .slice a n c, .bool s] := by rw [hx1]; exact ((Bl.new (by simp)).alloc (by simp))
  have bo : Bl x1 (w.heap.size + 1) #[.int .i64 0, .int .u8 0, .int .u8 0, .int .u8 0, .int .u8 0, .int .u8 0, .int .u8 0, .int .u8 0, .int .u8 0, .int .i64 0, .int .i64 0, .int .i64 0, .int .i64 0, .int .i64 0, .int .i64 0, .int .i64 0, .int .i64 0, .int .i64 0, .int .i64 0, .int .i64 0, .slice none 0 0, .bool false] := by rw [hx1]; exact (Bl.new (by simp))
  have fo : Fz x1 (w.heap.size + 1) := by rw [hx1]; exact (Fz.new (by simp))
  have HE := hx
  clear hx
  clear hx1
  have lp := bp.lt (Nat.succ_pos _)
  have lo := bo.lt (Nat.succ_pos _)
  go_upto_region 2 with (first | (refine wpList_exec rfl (exec_u1 rfl rfl rfl) ?_) | (refine wpList_storeB (Bl.new (by simp)) (Fz.new (by simp)) rfl rfl rfl rfl rfl rfl (List.all_eq_true.1 (by rfl)) rfl ?_; intro ue bq fq hbu hex; have bp1 := hbu.bl (Bl.ext ((Ext.refl _).alloc _) bp (Nat.succ_pos _)) (Nat.succ_pos _) (by omega); have bo1 := hbu.bl (Bl.ext ((Ext.refl _).alloc _) bo (Nat.succ_pos _)) (Nat.succ_pos _) (by omega); have fo1 := hbu.fz (Fz.ext ((Ext.refl _).alloc _) fo bo (Nat.succ_pos _)) (Bl.ext ((Ext.refl _).alloc _) bo (Nat.succ_pos _)) (Nat.succ_pos _) (by omega); have HE1 := hex w (HE.alloc _) (by omega)))
  clear hbu hex fo bo bp HE
  go_upto_region 11 with fail
  refine absW (fun uf huf => ?_)
  have bq2 : Bl uf x1.heap.size #[.int .i64 3, .int .u8 (r0 : Int), .int .u8 (g0 : Int), .int .u8 (b0 : Int), .int .u8 (a0 : Int), .int .u8 (r1 : Int), .int .u8 (g1 : Int), .int .u8 (b1 : Int), .int .u8 (a1 : Int), .int .i64 px, .int .i64 py, .int .i64 0, .int .i64 0, .int .i64 r, .int .i64 0, .int .i64 0, .int .i64 0, .int .i64 0, .int .i64 0, .int .i64 0, .slice none 0 0, .bool false] := by rw [huf]; exact ((B22.set (B22.set (B22.set (B22.set (B22.set (B22.set (B22.set (⟨bq, rfl⟩ : B22 _ _ _) (by decide)) (by decide)) (by decide)) (by decide)) (by decide)) (by decide)) (by decide))).1
  have hb2 : But ue uf x1.heap.size := by rw [huf]; exact (But.refl _ _).store.store.store.store.store.store.store
  have HE2 : Ext w uf := by rw [huf]; exact (((((((HE1.store (by show w.heap.size ≤ x1.heap.size; omega) _).store (by show w.heap.size ≤ x1.heap.size; omega) _).store (by show w.heap.size ≤ x1.heap.size; omega) _).store (by show w.heap.size ≤ x1.heap.size; omega) _).store (by show w.heap.size ≤ x1.heap.size; omega) _).store (by show w.heap.size ≤ x1.heap.size; omega) _).store (by show w.heap.size ≤ x1.heap.size; omega) _)
  have bo2 := hb2.bl bo1 (Nat.succ_pos _) (by omega)
  have fo2 := hb2.fz fo1 bo1 (Nat.succ_pos _) (by omega)
  clear huf hb2 bq fq bo1 fo1 HE1 bp1
  go_wp2_with (first | (refine wpList_loadB bq2 rfl rfl rfl rfl ?_) | (refine wpList_storeB bo2 fo2 rfl rfl rfl rfl rfl rfl (List.all_eq_true.1 (by rfl)) rfl (fun ug hbs hfs hbu hex => ?_)))
  refine bodyPost_cells rfl rfl Try.underlying30 rfl (by kernel_rfl) (blk_great hbs) rfl ?_
  exact ⟨rfl, hex w HE2 (by omega)⟩

set_option maxRecDepth 100000 in
set_option maxHeartbeats 4000000 in
theorem e_Used_0 (k : Int) (r0 g0 b0 a0 r1 g1 b1 a1 : Nat) (px py qx qy r ux uy vx vy : Int) (x y : Int) (a : Option Addr) (n c : Nat) (s : Bool) (w : World) (h : k < 1 ∨ 3 < k) : Calls Try.prog 11 #[.agg #[.int .i64 k, .int .u8 (r0 : Int), .int .u8 (g0 : Int), .int .u8 (b0 : Int), .int .u8 (a0 : Int), .int .u8 (r1 : Int), .int .u8 (g1 : Int), .int .u8 (b1 : Int), .int .u8 (a1 : Int), .int .i64 px, .int .i64 py, .int .i64 qx, .int .i64 qy, .int .i64 r, .int .i64 ux, .int .i64 uy, .int .i64 vx, .int .i64 vy, .int .i64 x, .int .i64 y, .slice a n c, .bool s]] w fun e w' => e = .returned (.agg #[.int .i64 0, .int .u8 0, .int .u8 0, .int .u8 0, .int .u8 0, .int .u8 0, .int .u8 0, .int .u8 0, .int .u8 0, .int .i64 0, .int .i64 0, .int .i64 0, .int .i64 0, .int .i64 0, .int .i64 0, .int .i64 0, .int .i64 0, .int .i64 0, .int .i64 0, .int .i64 0, .slice none 0 0, .bool false]) ∧ Ext w w' := by
  rcases h with h | h
  · have e1 : decide (k < 1) = true := decide_eq_true h
    go_enter Try.func11, Try.ntmps11
    go_upto_region 1 with fail
    refine absW (fun x1 hx1 => ?_)
    have hx : Ext w x1 := by rw [hx1]; exact (((Ext.refl _).alloc _).alloc _)
    have bp : Bl x1 (w.heap.size) #[.int .i64 k, .int .u8 (r0 : Int), .int .u8 (g0 : Int), .int .u8 (b0 : Int), .int .u8 (a0 : Int), .int .u8 (r1 : Int), .int .u8 (g1 : Int), .int .u8 (b1 : Int), .int .u8 (a1 : Int), .int .i64 px, .int .i64 py, .int .i64 qx, .int .i64 qy, .int .i64 r, .int .i64 ux, .int .i64 uy, .int .i64 vx, .int .i64 vy, .int .i64 x, .int .i64 y, .slice a n c, .bool s] := by rw [hx1]; exact ((Bl.new (by simp)).alloc (by simp))
    have bo : Bl x1 (w.heap.size + 1) #[.int .i64 0, .int .u8 0, .int .u8 0, .int .u8 0, .int .u8 0, .int .u8 0, .int .u8 0, .int .u8 0, .int .u8 0, .int .i64 0, .int .i64 0, .int .i64 0, .int .i64 0, .int .i64 0, .int .i64 0, .int .i64 0, .int .i64 0, .int .i64 0, .int .i64 0, .int .i64 0, .slice none 0 0, .bool false] := by rw [hx1]; exact (Bl.new (by simp))
    have fo : Fz x1 (w.heap.size + 1) := by rw [hx1]; exact (Fz.new (by simp))
    have HE := hx
    clear hx
    clear hx1
    have lp := bp.lt (Nat.succ_pos _)
    have lo := bo.lt (Nat.succ_pos _)
    go_upto_region 2 with (first | (refine wpList_exec rfl (exec_u1 rfl rfl rfl) ?_) | (refine wpList_storeB (Bl.new (by simp)) (Fz.new (by simp)) rfl rfl rfl rfl rfl rfl (List.all_eq_true.1 (by rfl)) rfl ?_; intro ue bq fq hbu hex; have bp1 := hbu.bl (Bl.ext ((Ext.refl _).alloc _) bp (Nat.succ_pos _)) (Nat.succ_pos _) (by omega); have bo1 := hbu.bl (Bl.ext ((Ext.refl _).alloc _) bo (Nat.succ_pos _)) (Nat.succ_pos _) (by omega); have fo1 := hbu.fz (Fz.ext ((Ext.refl _).alloc _) fo bo (Nat.succ_pos _)) (Bl.ext ((Ext.refl _).alloc _) bo (Nat.succ_pos _)) (Nat.succ_pos _) (by omega); have HE1 := hex w (HE.alloc _) (by omega)))
    clear hbu hex fo bo bp HE
    go_wp2_with (first | (refine wpList_exec rfl (exec_u0 rfl) ?_) | (refine wpList_storeB bo1 fo1 rfl rfl rfl rfl rfl rfl (List.all_eq_true.1 (by rfl)) rfl (fun uf hbs hfs hbu hex => ?_)))
    refine bodyPost_cells rfl rfl Try.underlying30 rfl (by kernel_rfl) (blk_great hbs) rfl ?_
    exact ⟨rfl, hex w HE1 (by omega)⟩
  · have e1 : decide (k < 1) = false := decide_eq_false (by omega)
    have e2 : decide (3 < k) = true := decide_eq_true h
    go_enter Try.func11, Try.ntmps11
    go_upto_region 1 with fail
    refine absW (fun x1 hx1 => ?_)
    have hx : Ext w x1 := by rw [hx1]; exact (((Ext.refl _).alloc _).alloc _)
    have bp : Bl x1 (w.heap.size) #[.int .i64 k, .int .u8 (r0 : Int), .int .u8 (g0 : Int), .int .u8 (b0 : Int), .int .u8 (a0 : Int), .int .u8 (r1 : Int), .int .u8 (g1 : Int), .int .u8 (b1 : Int), .int .u8 (a1 : Int), .int .i64 px, .int .i64 py, .int .i64 qx, .int .i64 qy, .int .i64 r, .int .i64 ux, .int .i64 uy, .int .i64 vx, .int .i64 vy, .int .i64 x, .int .i64 y, .slice a n c, .bool s] := by rw [hx1]; exact ((Bl.new (by simp)).alloc (by simp))
    have bo : Bl x1 (w.heap.size + 1) #[.int .i64 0, .int .u8 0, .int .u8 0, .int .u8 0, .int .u8 0, .int .u8 0, .int .u8 0, .int .u8 0, .int .u8 0, .int .i64 0, .int .i64 0, .int .i64 0, .int .i64 0, .int .i64 0, .int .i64 0, .int .i64 0, .int .i64 0, .int .i64 0, .int .i64 0, .int .i64 0, .slice none 0 0, .bool false] := by rw [hx1]; exact (Bl.new (by simp))
    have fo : Fz x1 (w.heap.size + 1) := by rw [hx1]; exact (Fz.new (by simp))
    have HE := hx
    clear hx
    clear hx1
    have lp := bp.lt (Nat.succ_pos _)
    have lo := bo.lt (Nat.succ_pos _)
    go_upto_region 2 with (first | (refine wpList_exec rfl (exec_u1 rfl rfl rfl) ?_) | (refine wpList_storeB (Bl.new (by simp)) (Fz.new (by simp)) rfl rfl rfl rfl rfl rfl (List.all_eq_true.1 (by rfl)) rfl ?_; intro ue bq fq hbu hex; have bp1 := hbu.bl (Bl.ext ((Ext.refl _).alloc _) bp (Nat.succ_pos _)) (Nat.succ_pos _) (by omega); have bo1 := hbu.bl (Bl.ext ((Ext.refl _).alloc _) bo (Nat.succ_pos _)) (Nat.succ_pos _) (by omega); have fo1 := hbu.fz (Fz.ext ((Ext.refl _).alloc _) fo bo (Nat.succ_pos _)) (Bl.ext ((Ext.refl _).alloc _) bo (Nat.succ_pos _)) (Nat.succ_pos _) (by omega); have HE1 := hex w (HE.alloc _) (by omega)))
    clear hbu hex fo bo bp HE
    go_wp2_with (first | (refine wpList_exec rfl (exec_u0 rfl) ?_) | (refine wpList_storeB bo1 fo1 rfl rfl rfl rfl rfl rfl (List.all_eq_true.1 (by rfl)) rfl (fun uf hbs hfs hbu hex => ?_)))
    refine bodyPost_cells rfl rfl Try.underlying30 rfl (by kernel_rfl) (blk_great hbs) rfl ?_
    exact ⟨rfl, hex w HE1 (by omega)⟩

end Go.Proofs.Ytmibjfkpchncgaa
