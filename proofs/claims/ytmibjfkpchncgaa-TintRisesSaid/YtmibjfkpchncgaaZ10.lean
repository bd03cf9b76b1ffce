/- Paints: ramps rise: the walk. -/
import Derived.Test.YtmibjfkpchncgaaZ9
namespace Go.Proofs.Ytmibjfkpchncgaa
set_option linter.unusedVariables false
set_option linter.unusedSimpArgs false
open Go Go.RowKit

theorem linF_mono {a b L : Int} (hL : 0 ≤ L) (h : a ≤ b) : linF a L ≤ linF b L := by
  by_cases h0 : L = 0 ∨ a ≤ 0
  · rw [show linF a L = 0 from if_pos h0]; exact Nat.zero_le _
  · by_cases h1 : L ≤ b
    · rw [show linF b L = 255 by unfold linF; rw [if_neg (by omega), if_pos h1]]
      exact linF_le _ _ hL
    · unfold linF
      rw [if_neg h0, if_neg (by omega), if_neg (by omega), if_neg h1]
      have : (510 * a + L) / (2 * L) ≤ (510 * b + L) / (2 * L) := Int.ediv_le_ediv (by omega) (by omega)
      omega
theorem prod_step (n : Int) (px py qx qy ax ay : Int) : prodP px py (ax + n * (qx - px)) (ay + n * (qy - py)) qx qy = prodP px py ax ay qx qy + n * prodP px py qx qy qx qy := by
  unfold prodP
  have e1 : ax + n * (qx - px) - px = (ax - px) + n * (qx - px) := by omega
  have e2 : ay + n * (qy - py) - py = (ay - py) + n * (qy - py) := by omega
  rw [e1, e2, Int.add_mul, Int.add_mul, Int.mul_add, Int.mul_assoc, Int.mul_assoc]
  omega
theorem lin_0 (L : Int) : linF 0 L = 0 := if_pos (.inr (Int.le_refl _))
theorem lin_all {L : Int} (h : 0 < L) : linF L L = 255 := by unfold linF; rw [if_neg (by omega), if_pos (Int.le_refl _)]
theorem prod_at_p (px py qx qy : Int) : prodP px py px py qx qy = 0 := by unfold prodP; simp
theorem sq_pos {a : Int} (h : a ≠ 0) : 0 < a * a := by
  rcases Int.lt_or_gt_of_ne h with h | h
  · exact Int.mul_pos_of_neg_of_neg h h
  · exact Int.mul_pos h h
theorem sq_ge (a : Int) : 0 ≤ a * a := by
  by_cases h : a = 0
  · subst h; decide
  · exact Int.le_of_lt (sq_pos h)
theorem prod_pos {px py qx qy : Int} (h : ¬ (px = qx ∧ py = qy)) : 0 < prodP px py qx qy qx qy := by
  unfold prodP
  by_cases h1 : px = qx
  · have := sq_pos (a := qy - py) (by omega)
    have := sq_ge (qx - px)
    omega
  · have := sq_pos (a := qx - px) (by omega)
    have := sq_ge (qy - py)
    omega
theorem step_2 {px py qx qy r ax ay : Int} (hm : mayT 2 px py qx qy r = true) (hf : fitP ax ay = true) : stepF 2 px py qx qy r ax ay = linF (prodP px py ax ay qx qy) (prodP px py qx qy qx qy) := by
  unfold stepF
  rw [if_pos ⟨hm, hf⟩]
  rfl
theorem bits_and3 (k : Nat) (h : k ≤ 255) : bits .and .u8 (k : Int) 3 = ((k % 4 : Nat) : Int) := by
  have hh : ∀ k : Fin 256, bits .and .u8 (k.val : Int) 3 = ((k.val % 4 : Nat) : Int) := by decide +kernel
  exact hh ⟨k, by omega⟩

set_option maxRecDepth 100000 in
set_option maxHeartbeats 4000000 in
theorem rise_a (k : Int) (r0 g0 b0 a0 r1 g1 b1 a1 : Nat) (px py qx qy r ux uy vx vy : Int) (x y : Int) (a : Option Addr) (n c : Nat) (s : Bool) (ax ay : Int) (kk : Nat) (w : World) (hk : kk ≤ 255) (ha : fitP ax ay = false) :
    Calls Try.prog 3 #[.agg #[.int .i64 k, .int .u8 (r0 : Int), .int .u8 (g0 : Int), .int .u8 (b0 : Int), .int .u8 (a0 : Int), .int .u8 (r1 : Int), .int .u8 (g1 : Int), .int .u8 (b1 : Int), .int .u8 (a1 : Int), .int .i64 px, .int .i64 py, .int .i64 qx, .int .i64 qy, .int .i64 r, .int .i64 ux, .int .i64 uy, .int .i64 vx, .int .i64 vy, .int .i64 x, .int .i64 y, .slice a n c, .bool s], .agg #[.int .i64 ax, .int .i64 ay], .int .u8 (kk : Int)] w fun e w' => e = .returned (.bool true) ∧ Ext w w' := by
  have HB := hidP (bits_and3 kk hk)
  have hn3 : kk % 4 ≤ 3 := by omega
  generalize kk % 4 = m at *
  have HA := hidP (d_Fits ax ay)
  rw [ha] at HA
  clear ha
  go_enter Try.func3, Try.ntmps3
  go_upto_region 1 with fail
  refine absW (fun x1 hx1 => ?_)
  have hx : Ext w x1 := by rw [hx1]; exact (((Ext.refl _).alloc _).alloc _)
  have bp : Bl x1 (w.heap.size) #[.int .i64 k, .int .u8 (r0 : Int), .int .u8 (g0 : Int), .int .u8 (b0 : Int), .int .u8 (a0 : Int), .int .u8 (r1 : Int), .int .u8 (g1 : Int), .int .u8 (b1 : Int), .int .u8 (a1 : Int), .int .i64 px, .int .i64 py, .int .i64 qx, .int .i64 qy, .int .i64 r, .int .i64 ux, .int .i64 uy, .int .i64 vx, .int .i64 vy, .int .i64 x, .int .i64 y, .slice a n c, .bool s] := by rw [hx1]; exact ((Bl.new (by simp)).alloc (by simp))
  have bz : Bl x1 (w.heap.size + 1) #[.int .i64 ax, .int .i64 ay] := by rw [hx1]; exact (Bl.new (by simp))
  have HE := hx
  clear hx
  have fp : Fz x1 w.heap.size := by rw [hx1]; exact Fz.alloc (Fz.new rfl) (Bl.new rfl) (by simp)
  clear hx1
  go_upto_region 2 with fail
  refine absW (fun x2 hx2 => ?_)
  have hbut : But x1 x2 w.heap.size := by rw [hx2]; exact (But.refl _ _).store
  have hb2 : B22 x2 w.heap.size [.int .i64 2, .int .u8 (r0 : Int), .int .u8 (g0 : Int), .int .u8 (b0 : Int), .int .u8 (a0 : Int), .int .u8 (r1 : Int), .int .u8 (g1 : Int), .int .u8 (b1 : Int), .int .u8 (a1 : Int), .int .i64 px, .int .i64 py, .int .i64 qx, .int .i64 qy, .int .i64 r, .int .i64 ux, .int .i64 uy, .int .i64 vx, .int .i64 vy, .int .i64 x, .int .i64 y, .slice a n c, .bool s] := by rw [hx2]; exact B22.set (⟨bp, rfl⟩ : B22 x1 w.heap.size [.int .i64 k, .int .u8 (r0 : Int), .int .u8 (g0 : Int), .int .u8 (b0 : Int), .int .u8 (a0 : Int), .int .u8 (r1 : Int), .int .u8 (g1 : Int), .int .u8 (b1 : Int), .int .u8 (a1 : Int), .int .i64 px, .int .i64 py, .int .i64 qx, .int .i64 qy, .int .i64 r, .int .i64 ux, .int .i64 uy, .int .i64 vx, .int .i64 vy, .int .i64 x, .int .i64 y, .slice a n c, .bool s]) (by decide)
  replace bz := But.bl hbut bz (Nat.succ_pos _) (by omega)
  replace HE : Ext w x2 := by rw [hx2]; exact HE.store (Nat.le_refl _) _
  have hp : BlO x2 w.heap.size #[.int .i64 2, .int .u8 (r0 : Int), .int .u8 (g0 : Int), .int .u8 (b0 : Int), .int .u8 (a0 : Int), .int .u8 (r1 : Int), .int .u8 (g1 : Int), .int .u8 (b1 : Int), .int .u8 (a1 : Int), .int .i64 px, .int .i64 py, .int .i64 qx, .int .i64 qy, .int .i64 r, .int .i64 ux, .int .i64 uy, .int .i64 vx, .int .i64 vy, .int .i64 x, .int .i64 y, .slice a n c, .bool s] := ⟨hb2.1, rfl⟩
  have c9 : x2.cell? ⟨w.heap.size, 9, none⟩ = some (.int .i64 px) := (hb2.1 9).trans rfl
  have c10 : x2.cell? ⟨w.heap.size, 10, none⟩ = some (.int .i64 py) := (hb2.1 10).trans rfl
  have c11 : x2.cell? ⟨w.heap.size, 11, none⟩ = some (.int .i64 qx) := (hb2.1 11).trans rfl
  have c12 : x2.cell? ⟨w.heap.size, 12, none⟩ = some (.int .i64 qy) := (hb2.1 12).trans rfl
  clear hb2 hbut bp fp hx2
  have hb3 := HB.out
  go_upto_region 3 with fail
  clear hb3
  go_upto_region 4 with fail
  have ho := bz.lt (Nat.succ_pos _)
  refine absW (fun x3 hx3 => ?_)
  have hx : Ext x2 x3 := by rw [hx3]; exact ((Ext.refl _).alloc _)
  have bo : Bl x3 (x2.heap.size) #[.int .i64 ax, .int .i64 ay] := by rw [hx3]; exact (Bl.new (by simp))
  have fo : Fz x3 (x2.heap.size) := by rw [hx3]; exact (Fz.new (by simp))
  replace bz := Bl.ext hx bz (Nat.succ_pos _)
  replace hp := hp.ext hx
  replace c9 := hx.cell' c9
  replace c10 := hx.cell' c10
  replace c11 := hx.cell' c11
  replace c12 := hx.cell' c12
  replace HE := HE.trans hx
  clear hx
  clear hx3
  go_wp2_with fail
  refine (HA.out _).mono ?_
  rintro e u1 ⟨rfl, hx⟩
  replace bz := Bl.ext hx bz (Nat.succ_pos _)
  replace fo := Fz.ext hx fo bo (Nat.succ_pos _)
  replace bo := Bl.ext hx bo (Nat.succ_pos _)
  replace hp := hp.ext hx
  replace c9 := hx.cell' c9
  replace c10 := hx.cell' c10
  replace c11 := hx.cell' c11
  replace c12 := hx.cell' c12
  replace HE := HE.trans hx
  clear hx
  go_wp2_with fail
  refine (HA.out _).mono ?_
  rintro e u4 ⟨rfl, hx⟩
  replace bz := Bl.ext hx bz (Nat.succ_pos _)
  replace fo := Fz.ext hx fo bo (Nat.succ_pos _)
  replace bo := Bl.ext hx bo (Nat.succ_pos _)
  replace hp := hp.ext hx
  replace c9 := hx.cell' c9
  replace c10 := hx.cell' c10
  replace c11 := hx.cell' c11
  replace c12 := hx.cell' c12
  replace HE := HE.trans hx
  clear hx
  go_wp2_with fail
  refine (tint_lives _).mono ?_
  rintro e uL ⟨rfl, hx⟩
  replace bz := Bl.ext hx bz (Nat.succ_pos _)
  replace fo := Fz.ext hx fo bo (Nat.succ_pos _)
  replace bo := Bl.ext hx bo (Nat.succ_pos _)
  replace hp := hp.ext hx
  replace c9 := hx.cell' c9
  replace c10 := hx.cell' c10
  replace c11 := hx.cell' c11
  replace c12 := hx.cell' c12
  replace HE := HE.trans hx
  clear hx
  go_wp2_with fail
  go_ret
  exact ⟨rfl, HE⟩

set_option maxRecDepth 100000 in
set_option maxHeartbeats 4000000 in
theorem rise_p (k : Int) (r0 g0 b0 a0 r1 g1 b1 a1 : Nat) (px py qx qy r ux uy vx vy : Int) (x y : Int) (a : Option Addr) (n c : Nat) (s : Bool) (ax ay : Int) (kk : Nat) (w : World) (hk : kk ≤ 255) (ha : fitP ax ay = true) (hp : fitP px py = false) :
    Calls Try.prog 3 #[.agg #[.int .i64 k, .int .u8 (r0 : Int), .int .u8 (g0 : Int), .int .u8 (b0 : Int), .int .u8 (a0 : Int), .int .u8 (r1 : Int), .int .u8 (g1 : Int), .int .u8 (b1 : Int), .int .u8 (a1 : Int), .int .i64 px, .int .i64 py, .int .i64 qx, .int .i64 qy, .int .i64 r, .int .i64 ux, .int .i64 uy, .int .i64 vx, .int .i64 vy, .int .i64 x, .int .i64 y, .slice a n c, .bool s], .agg #[.int .i64 ax, .int .i64 ay], .int .u8 (kk : Int)] w fun e w' => e = .returned (.bool true) ∧ Ext w w' := by
  have HB := hidP (bits_and3 kk hk)
  have hn3 : kk % 4 ≤ 3 := by omega
  generalize kk % 4 = m at *
  have HA := hidP (d_Fits ax ay)
  rw [ha] at HA
  have HP := hidP (d_Fits px py)
  rw [hp] at HP
  have HM := hidP (fun u => t_May 2 r0 g0 b0 a0 r1 g1 b1 a1 px py qx qy r ux uy vx vy x y a n c s u)
  rw [show mayT 2 px py qx qy r = false by rw [mayT_2, hp]; rfl] at HM
  clear ha hp
  go_enter Try.func3, Try.ntmps3
  go_upto_region 1 with fail
  refine absW (fun x1 hx1 => ?_)
  have hx : Ext w x1 := by rw [hx1]; exact (((Ext.refl _).alloc _).alloc _)
  have bp : Bl x1 (w.heap.size) #[.int .i64 k, .int .u8 (r0 : Int), .int .u8 (g0 : Int), .int .u8 (b0 : Int), .int .u8 (a0 : Int), .int .u8 (r1 : Int), .int .u8 (g1 : Int), .int .u8 (b1 : Int), .int .u8 (a1 : Int), .int .i64 px, .int .i64 py, .int .i64 qx, .int .i64 qy, .int .i64 r, .int .i64 ux, .int .i64 uy, .int .i64 vx, .int .i64 vy, .int .i64 x, .int .i64 y, .slice a n c, .bool s] := by rw [hx1]; exact ((Bl.new (by simp)).alloc (by simp))
  have bz : Bl x1 (w.heap.size + 1) #[.int .i64 ax, .int .i64 ay] := by rw [hx1]; exact (Bl.new (by simp))
  have HE := hx
  clear hx
  have fp : Fz x1 w.heap.size := by rw [hx1]; exact Fz.alloc (Fz.new rfl) (Bl.new rfl) (by simp)
  clear hx1
  go_upto_region 2 with fail
  refine absW (fun x2 hx2 => ?_)
  have hbut : But x1 x2 w.heap.size := by rw [hx2]; exact (But.refl _ _).store
  have hb2 : B22 x2 w.heap.size [.int .i64 2, .int .u8 (r0 : Int), .int .u8 (g0 : Int), .int .u8 (b0 : Int), .int .u8 (a0 : Int), .int .u8 (r1 : Int), .int .u8 (g1 : Int), .int .u8 (b1 : Int), .int .u8 (a1 : Int), .int .i64 px, .int .i64 py, .int .i64 qx, .int .i64 qy, .int .i64 r, .int .i64 ux, .int .i64 uy, .int .i64 vx, .int .i64 vy, .int .i64 x, .int .i64 y, .slice a n c, .bool s] := by rw [hx2]; exact B22.set (⟨bp, rfl⟩ : B22 x1 w.heap.size [.int .i64 k, .int .u8 (r0 : Int), .int .u8 (g0 : Int), .int .u8 (b0 : Int), .int .u8 (a0 : Int), .int .u8 (r1 : Int), .int .u8 (g1 : Int), .int .u8 (b1 : Int), .int .u8 (a1 : Int), .int .i64 px, .int .i64 py, .int .i64 qx, .int .i64 qy, .int .i64 r, .int .i64 ux, .int .i64 uy, .int .i64 vx, .int .i64 vy, .int .i64 x, .int .i64 y, .slice a n c, .bool s]) (by decide)
  replace bz := But.bl hbut bz (Nat.succ_pos _) (by omega)
  replace HE : Ext w x2 := by rw [hx2]; exact HE.store (Nat.le_refl _) _
  have hp : BlO x2 w.heap.size #[.int .i64 2, .int .u8 (r0 : Int), .int .u8 (g0 : Int), .int .u8 (b0 : Int), .int .u8 (a0 : Int), .int .u8 (r1 : Int), .int .u8 (g1 : Int), .int .u8 (b1 : Int), .int .u8 (a1 : Int), .int .i64 px, .int .i64 py, .int .i64 qx, .int .i64 qy, .int .i64 r, .int .i64 ux, .int .i64 uy, .int .i64 vx, .int .i64 vy, .int .i64 x, .int .i64 y, .slice a n c, .bool s] := ⟨hb2.1, rfl⟩
  have c9 : x2.cell? ⟨w.heap.size, 9, none⟩ = some (.int .i64 px) := (hb2.1 9).trans rfl
  have c10 : x2.cell? ⟨w.heap.size, 10, none⟩ = some (.int .i64 py) := (hb2.1 10).trans rfl
  have c11 : x2.cell? ⟨w.heap.size, 11, none⟩ = some (.int .i64 qx) := (hb2.1 11).trans rfl
  have c12 : x2.cell? ⟨w.heap.size, 12, none⟩ = some (.int .i64 qy) := (hb2.1 12).trans rfl
  clear hb2 hbut bp fp hx2
  have hb3 := HB.out
  go_upto_region 3 with fail
  clear hb3
  go_upto_region 4 with fail
  have ho := bz.lt (Nat.succ_pos _)
  refine absW (fun x3 hx3 => ?_)
  have hx : Ext x2 x3 := by rw [hx3]; exact ((Ext.refl _).alloc _)
  have bo : Bl x3 (x2.heap.size) #[.int .i64 ax, .int .i64 ay] := by rw [hx3]; exact (Bl.new (by simp))
  have fo : Fz x3 (x2.heap.size) := by rw [hx3]; exact (Fz.new (by simp))
  replace bz := Bl.ext hx bz (Nat.succ_pos _)
  replace hp := hp.ext hx
  replace c9 := hx.cell' c9
  replace c10 := hx.cell' c10
  replace c11 := hx.cell' c11
  replace c12 := hx.cell' c12
  replace HE := HE.trans hx
  clear hx
  clear hx3
  go_wp2_with fail
  refine (HA.out _).mono ?_
  rintro e u1 ⟨rfl, hx⟩
  replace bz := Bl.ext hx bz (Nat.succ_pos _)
  replace fo := Fz.ext hx fo bo (Nat.succ_pos _)
  replace bo := Bl.ext hx bo (Nat.succ_pos _)
  replace hp := hp.ext hx
  replace c9 := hx.cell' c9
  replace c10 := hx.cell' c10
  replace c11 := hx.cell' c11
  replace c12 := hx.cell' c12
  replace HE := HE.trans hx
  clear hx
  go_wp2_with fail
  refine (HP.out _).mono ?_
  rintro e u2 ⟨rfl, hx⟩
  replace bz := Bl.ext hx bz (Nat.succ_pos _)
  replace fo := Fz.ext hx fo bo (Nat.succ_pos _)
  replace bo := Bl.ext hx bo (Nat.succ_pos _)
  replace hp := hp.ext hx
  replace c9 := hx.cell' c9
  replace c10 := hx.cell' c10
  replace c11 := hx.cell' c11
  replace c12 := hx.cell' c12
  replace HE := HE.trans hx
  clear hx
  go_wp2_with fail
  refine (HA.out _).mono ?_
  rintro e u4 ⟨rfl, hx⟩
  replace bz := Bl.ext hx bz (Nat.succ_pos _)
  replace fo := Fz.ext hx fo bo (Nat.succ_pos _)
  replace bo := Bl.ext hx bo (Nat.succ_pos _)
  replace hp := hp.ext hx
  replace c9 := hx.cell' c9
  replace c10 := hx.cell' c10
  replace c11 := hx.cell' c11
  replace c12 := hx.cell' c12
  replace HE := HE.trans hx
  clear hx
  rename_i hK
  refine hK _ _ ?_
  try simp only [Act.put, List.setIfInBounds_toArray, List.set_cons_zero, List.set_cons_succ]
  refine wpList_execW (v := .bool false) rfl (by unfold execOp; go_simp) ?_
  try simp only [Act.put, List.setIfInBounds_toArray, List.set_cons_zero, List.set_cons_succ]
  refine wpList_execW (v := .bool false) rfl (by unfold execOp; go_simp) ?_
  try simp only [Act.put, List.setIfInBounds_toArray, List.set_cons_zero, List.set_cons_succ]
  refine wpList_execW rfl (exec_loadO hp rfl rfl) ?_
  try simp only [Act.put, List.setIfInBounds_toArray, List.set_cons_zero, List.set_cons_succ]
  go_wp2_with fail
  refine (HM.out _).mono ?_
  rintro e u5 ⟨rfl, hx⟩
  replace bz := Bl.ext hx bz (Nat.succ_pos _)
  replace fo := Fz.ext hx fo bo (Nat.succ_pos _)
  replace bo := Bl.ext hx bo (Nat.succ_pos _)
  replace hp := hp.ext hx
  replace c9 := hx.cell' c9
  replace c10 := hx.cell' c10
  replace c11 := hx.cell' c11
  replace c12 := hx.cell' c12
  replace HE := HE.trans hx
  clear hx
  go_wp2_with fail
  refine (tint_lives _).mono ?_
  rintro e uL ⟨rfl, hx⟩
  replace bz := Bl.ext hx bz (Nat.succ_pos _)
  replace fo := Fz.ext hx fo bo (Nat.succ_pos _)
  replace bo := Bl.ext hx bo (Nat.succ_pos _)
  replace hp := hp.ext hx
  replace c9 := hx.cell' c9
  replace c10 := hx.cell' c10
  replace c11 := hx.cell' c11
  replace c12 := hx.cell' c12
  replace HE := HE.trans hx
  clear hx
  go_wp2_with fail
  go_ret
  exact ⟨rfl, HE⟩

set_option maxRecDepth 100000 in
set_option maxHeartbeats 4000000 in
theorem rise_q (k : Int) (r0 g0 b0 a0 r1 g1 b1 a1 : Nat) (px py qx qy r ux uy vx vy : Int) (x y : Int) (a : Option Addr) (n c : Nat) (s : Bool) (ax ay : Int) (kk : Nat) (w : World) (hk : kk ≤ 255) (ha : fitP ax ay = true) (hp : fitP px py = true) (hq : fitP qx qy = false) :
    Calls Try.prog 3 #[.agg #[.int .i64 k, .int .u8 (r0 : Int), .int .u8 (g0 : Int), .int .u8 (b0 : Int), .int .u8 (a0 : Int), .int .u8 (r1 : Int), .int .u8 (g1 : Int), .int .u8 (b1 : Int), .int .u8 (a1 : Int), .int .i64 px, .int .i64 py, .int .i64 qx, .int .i64 qy, .int .i64 r, .int .i64 ux, .int .i64 uy, .int .i64 vx, .int .i64 vy, .int .i64 x, .int .i64 y, .slice a n c, .bool s], .agg #[.int .i64 ax, .int .i64 ay], .int .u8 (kk : Int)] w fun e w' => e = .returned (.bool true) ∧ Ext w w' := by
  have HB := hidP (bits_and3 kk hk)
  have hn3 : kk % 4 ≤ 3 := by omega
  generalize kk % 4 = m at *
  have HA := hidP (d_Fits ax ay)
  rw [ha] at HA
  have HP := hidP (d_Fits px py)
  rw [hp] at HP
  have HQ := hidP (d_Fits qx qy)
  rw [hq] at HQ
  have HM := hidP (fun u => t_May 2 r0 g0 b0 a0 r1 g1 b1 a1 px py qx qy r ux uy vx vy x y a n c s u)
  rw [show mayT 2 px py qx qy r = false by rw [mayT_2, hp, hq]; rfl] at HM
  clear ha hp hq
  go_enter Try.func3, Try.ntmps3
  go_upto_region 1 with fail
  refine absW (fun x1 hx1 => ?_)
  have hx : Ext w x1 := by rw [hx1]; exact (((Ext.refl _).alloc _).alloc _)
  have bp : Bl x1 (w.heap.size) #[.int .i64 k, .int .u8 (r0 : Int), .int .u8 (g0 : Int), .int .u8 (b0 : Int), .int .u8 (a0 : Int), .int .u8 (r1 : Int), .int .u8 (g1 : Int), .int .u8 (b1 : Int), .int .u8 (a1 : Int), .int .i64 px, .int .i64 py, .int .i64 qx, .int .i64 qy, .int .i64 r, .int .i64 ux, .int .i64 uy, .int .i64 vx, .int .i64 vy, .int .i64 x, .int .i64 y, .slice a n c, .bool s] := by rw [hx1]; exact ((Bl.new (by simp)).alloc (by simp))
  have bz : Bl x1 (w.heap.size + 1) #[.int .i64 ax, .int .i64 ay] := by rw [hx1]; exact (Bl.new (by simp))
  have HE := hx
  clear hx
  have fp : Fz x1 w.heap.size := by rw [hx1]; exact Fz.alloc (Fz.new rfl) (Bl.new rfl) (by simp)
  clear hx1
  go_upto_region 2 with fail
  refine absW (fun x2 hx2 => ?_)
  have hbut : But x1 x2 w.heap.size := by rw [hx2]; exact (But.refl _ _).store
  have hb2 : B22 x2 w.heap.size [.int .i64 2, .int .u8 (r0 : Int), .int .u8 (g0 : Int), .int .u8 (b0 : Int), .int .u8 (a0 : Int), .int .u8 (r1 : Int), .int .u8 (g1 : Int), .int .u8 (b1 : Int), .int .u8 (a1 : Int), .int .i64 px, .int .i64 py, .int .i64 qx, .int .i64 qy, .int .i64 r, .int .i64 ux, .int .i64 uy, .int .i64 vx, .int .i64 vy, .int .i64 x, .int .i64 y, .slice a n c, .bool s] := by rw [hx2]; exact B22.set (⟨bp, rfl⟩ : B22 x1 w.heap.size [.int .i64 k, .int .u8 (r0 : Int), .int .u8 (g0 : Int), .int .u8 (b0 : Int), .int .u8 (a0 : Int), .int .u8 (r1 : Int), .int .u8 (g1 : Int), .int .u8 (b1 : Int), .int .u8 (a1 : Int), .int .i64 px, .int .i64 py, .int .i64 qx, .int .i64 qy, .int .i64 r, .int .i64 ux, .int .i64 uy, .int .i64 vx, .int .i64 vy, .int .i64 x, .int .i64 y, .slice a n c, .bool s]) (by decide)
  replace bz := But.bl hbut bz (Nat.succ_pos _) (by omega)
  replace HE : Ext w x2 := by rw [hx2]; exact HE.store (Nat.le_refl _) _
  have hp : BlO x2 w.heap.size #[.int .i64 2, .int .u8 (r0 : Int), .int .u8 (g0 : Int), .int .u8 (b0 : Int), .int .u8 (a0 : Int), .int .u8 (r1 : Int), .int .u8 (g1 : Int), .int .u8 (b1 : Int), .int .u8 (a1 : Int), .int .i64 px, .int .i64 py, .int .i64 qx, .int .i64 qy, .int .i64 r, .int .i64 ux, .int .i64 uy, .int .i64 vx, .int .i64 vy, .int .i64 x, .int .i64 y, .slice a n c, .bool s] := ⟨hb2.1, rfl⟩
  have c9 : x2.cell? ⟨w.heap.size, 9, none⟩ = some (.int .i64 px) := (hb2.1 9).trans rfl
  have c10 : x2.cell? ⟨w.heap.size, 10, none⟩ = some (.int .i64 py) := (hb2.1 10).trans rfl
  have c11 : x2.cell? ⟨w.heap.size, 11, none⟩ = some (.int .i64 qx) := (hb2.1 11).trans rfl
  have c12 : x2.cell? ⟨w.heap.size, 12, none⟩ = some (.int .i64 qy) := (hb2.1 12).trans rfl
  clear hb2 hbut bp fp hx2
  have hb3 := HB.out
  go_upto_region 3 with fail
  clear hb3
  go_upto_region 4 with fail
  have ho := bz.lt (Nat.succ_pos _)
  refine absW (fun x3 hx3 => ?_)
  have hx : Ext x2 x3 := by rw [hx3]; exact ((Ext.refl _).alloc _)
  have bo : Bl x3 (x2.heap.size) #[.int .i64 ax, .int .i64 ay] := by rw [hx3]; exact (Bl.new (by simp))
  have fo : Fz x3 (x2.heap.size) := by rw [hx3]; exact (Fz.new (by simp))
  replace bz := Bl.ext hx bz (Nat.succ_pos _)
  replace hp := hp.ext hx
  replace c9 := hx.cell' c9
  replace c10 := hx.cell' c10
  replace c11 := hx.cell' c11
  replace c12 := hx.cell' c12
  replace HE := HE.trans hx
  clear hx
  clear hx3
  go_wp2_with fail
  refine (HA.out _).mono ?_
  rintro e u1 ⟨rfl, hx⟩
  replace bz := Bl.ext hx bz (Nat.succ_pos _)
  replace fo := Fz.ext hx fo bo (Nat.succ_pos _)
  replace bo := Bl.ext hx bo (Nat.succ_pos _)
  replace hp := hp.ext hx
  replace c9 := hx.cell' c9
  replace c10 := hx.cell' c10
  replace c11 := hx.cell' c11
  replace c12 := hx.cell' c12
  replace HE := HE.trans hx
  clear hx
  go_wp2_with fail
  refine (HP.out _).mono ?_
  rintro e u2 ⟨rfl, hx⟩
  replace bz := Bl.ext hx bz (Nat.succ_pos _)
  replace fo := Fz.ext hx fo bo (Nat.succ_pos _)
  replace bo := Bl.ext hx bo (Nat.succ_pos _)
  replace hp := hp.ext hx
  replace c9 := hx.cell' c9
  replace c10 := hx.cell' c10
  replace c11 := hx.cell' c11
  replace c12 := hx.cell' c12
  replace HE := HE.trans hx
  clear hx
  go_wp2_with fail
  refine (HQ.out _).mono ?_
  rintro e u3 ⟨rfl, hx⟩
  replace bz := Bl.ext hx bz (Nat.succ_pos _)
  replace fo := Fz.ext hx fo bo (Nat.succ_pos _)
  replace bo := Bl.ext hx bo (Nat.succ_pos _)
  replace hp := hp.ext hx
  replace c9 := hx.cell' c9
  replace c10 := hx.cell' c10
  replace c11 := hx.cell' c11
  replace c12 := hx.cell' c12
  replace HE := HE.trans hx
  clear hx
  go_wp2_with fail
  refine (HA.out _).mono ?_
  rintro e u4 ⟨rfl, hx⟩
  replace bz := Bl.ext hx bz (Nat.succ_pos _)
  replace fo := Fz.ext hx fo bo (Nat.succ_pos _)
  replace bo := Bl.ext hx bo (Nat.succ_pos _)
  replace hp := hp.ext hx
  replace c9 := hx.cell' c9
  replace c10 := hx.cell' c10
  replace c11 := hx.cell' c11
  replace c12 := hx.cell' c12
  replace HE := HE.trans hx
  clear hx
  rename_i hK
  refine hK _ _ ?_
  try simp only [Act.put, List.setIfInBounds_toArray, List.set_cons_zero, List.set_cons_succ]
  refine wpList_execW (v := .bool false) rfl (by unfold execOp; go_simp) ?_
  try simp only [Act.put, List.setIfInBounds_toArray, List.set_cons_zero, List.set_cons_succ]
  refine wpList_execW (v := .bool false) rfl (by unfold execOp; go_simp) ?_
  try simp only [Act.put, List.setIfInBounds_toArray, List.set_cons_zero, List.set_cons_succ]
  refine wpList_execW rfl (exec_loadO hp rfl rfl) ?_
  try simp only [Act.put, List.setIfInBounds_toArray, List.set_cons_zero, List.set_cons_succ]
  go_wp2_with fail
  refine (HM.out _).mono ?_
  rintro e u5 ⟨rfl, hx⟩
  replace bz := Bl.ext hx bz (Nat.succ_pos _)
  replace fo := Fz.ext hx fo bo (Nat.succ_pos _)
  replace bo := Bl.ext hx bo (Nat.succ_pos _)
  replace hp := hp.ext hx
  replace c9 := hx.cell' c9
  replace c10 := hx.cell' c10
  replace c11 := hx.cell' c11
  replace c12 := hx.cell' c12
  replace HE := HE.trans hx
  clear hx
  go_wp2_with fail
  refine (tint_lives _).mono ?_
  rintro e uL ⟨rfl, hx⟩
  replace bz := Bl.ext hx bz (Nat.succ_pos _)
  replace fo := Fz.ext hx fo bo (Nat.succ_pos _)
  replace bo := Bl.ext hx bo (Nat.succ_pos _)
  replace hp := hp.ext hx
  replace c9 := hx.cell' c9
  replace c10 := hx.cell' c10
  replace c11 := hx.cell' c11
  replace c12 := hx.cell' c12
  replace HE := HE.trans hx
  clear hx
  go_wp2_with fail
  go_ret
  exact ⟨rfl, HE⟩
theorem BlO.but {w u : World} {g k : Nat} {cs : Array Value} (h : BlO w g cs) (hb : But w u k) (hne : g ≠ k) : BlO u g cs := ⟨But.bl hb h.1 (by rw [h.2]; decide) hne, h.2⟩

set_option maxRecDepth 100000 in
set_option maxHeartbeats 4000000 in
theorem rise_off (k : Int) (r0 g0 b0 a0 r1 g1 b1 a1 : Nat) (px py qx qy r ux uy vx vy : Int) (x y : Int) (a : Option Addr) (n c : Nat) (s : Bool) (ax ay : Int) (kk : Nat) (w : World) (hk : kk ≤ 255) (ha : fitP ax ay = true) (hp : fitP px py = true) (hq : fitP qx qy = true) (hf : fitP (ax + ((kk % 4 : Nat) : Int) * (qx - px)) (ay + ((kk % 4 : Nat) : Int) * (qy - py)) = false) :
    Calls Try.prog 3 #[.agg #[.int .i64 k, .int .u8 (r0 : Int), .int .u8 (g0 : Int), .int .u8 (b0 : Int), .int .u8 (a0 : Int), .int .u8 (r1 : Int), .int .u8 (g1 : Int), .int .u8 (b1 : Int), .int .u8 (a1 : Int), .int .i64 px, .int .i64 py, .int .i64 qx, .int .i64 qy, .int .i64 r, .int .i64 ux, .int .i64 uy, .int .i64 vx, .int .i64 vy, .int .i64 x, .int .i64 y, .slice a n c, .bool s], .agg #[.int .i64 ax, .int .i64 ay], .int .u8 (kk : Int)] w fun e w' => e = .returned (.bool true) ∧ Ext w w' := by
  have HB := hidP (bits_and3 kk hk)
  have hn3 : kk % 4 ≤ 3 := by omega
  generalize kk % 4 = m at *
  obtain ⟨⟨fa1, fa2⟩, fa3, fa4⟩ := fitP_iff.1 ha
  obtain ⟨⟨fb1, fb2⟩, fb3, fb4⟩ := fitP_iff.1 hp
  obtain ⟨⟨fd1, fd2⟩, fd3, fd4⟩ := fitP_iff.1 hq
  have m1 := mul_cap (a := (m : Int)) (b := qx - px) (A := 3) (B := 16777214) (by omega) (by omega) (by omega) (by omega) (by decide) (by decide)
  have m2 := mul_cap (a := (m : Int)) (b := qy - py) (A := 3) (B := 16777214) (by omega) (by omega) (by omega) (by omega) (by decide) (by decide)
  obtain ⟨m1, m3⟩ := m1
  obtain ⟨m2, m4⟩ := m2
  have m1 : -50331642 ≤ (m : Int) * (qx - px) := by omega
  have m2 : -50331642 ≤ (m : Int) * (qy - py) := by omega
  have m3 : (m : Int) * (qx - px) ≤ 50331642 := by omega
  have m4 : (m : Int) * (qy - py) ≤ 50331642 := by omega
  have HA := hidP (d_Fits ax ay)
  have HP := hidP (d_Fits px py)
  have HQ := hidP (d_Fits qx qy)
  have HN := hidP (d_Fits (ax + (m : Int) * (qx - px)) (ay + (m : Int) * (qy - py)))
  rw [ha] at HA
  rw [hp] at HP
  rw [hq] at HQ
  rw [hf] at HN
  clear ha hp hq hf
  go_enter Try.func3, Try.ntmps3
  go_upto_region 1 with fail
  refine absW (fun x1 hx1 => ?_)
  have hx : Ext w x1 := by rw [hx1]; exact (((Ext.refl _).alloc _).alloc _)
  have bp : Bl x1 (w.heap.size) #[.int .i64 k, .int .u8 (r0 : Int), .int .u8 (g0 : Int), .int .u8 (b0 : Int), .int .u8 (a0 : Int), .int .u8 (r1 : Int), .int .u8 (g1 : Int), .int .u8 (b1 : Int), .int .u8 (a1 : Int), .int .i64 px, .int .i64 py, .int .i64 qx, .int .i64 qy, .int .i64 r, .int .i64 ux, .int .i64 uy, .int .i64 vx, .int .i64 vy, .int .i64 x, .int .i64 y, .slice a n c, .bool s] := by rw [hx1]; exact ((Bl.new (by simp)).alloc (by simp))
  have bz : Bl x1 (w.heap.size + 1) #[.int .i64 ax, .int .i64 ay] := by rw [hx1]; exact (Bl.new (by simp))
  have HE := hx
  clear hx
  have fp : Fz x1 w.heap.size := by rw [hx1]; exact Fz.alloc (Fz.new rfl) (Bl.new rfl) (by simp)
  clear hx1
  go_upto_region 2 with fail
  refine absW (fun x2 hx2 => ?_)
  have hbut : But x1 x2 w.heap.size := by rw [hx2]; exact (But.refl _ _).store
  have hb2 : B22 x2 w.heap.size [.int .i64 2, .int .u8 (r0 : Int), .int .u8 (g0 : Int), .int .u8 (b0 : Int), .int .u8 (a0 : Int), .int .u8 (r1 : Int), .int .u8 (g1 : Int), .int .u8 (b1 : Int), .int .u8 (a1 : Int), .int .i64 px, .int .i64 py, .int .i64 qx, .int .i64 qy, .int .i64 r, .int .i64 ux, .int .i64 uy, .int .i64 vx, .int .i64 vy, .int .i64 x, .int .i64 y, .slice a n c, .bool s] := by rw [hx2]; exact B22.set (⟨bp, rfl⟩ : B22 x1 w.heap.size [.int .i64 k, .int .u8 (r0 : Int), .int .u8 (g0 : Int), .int .u8 (b0 : Int), .int .u8 (a0 : Int), .int .u8 (r1 : Int), .int .u8 (g1 : Int), .int .u8 (b1 : Int), .int .u8 (a1 : Int), .int .i64 px, .int .i64 py, .int .i64 qx, .int .i64 qy, .int .i64 r, .int .i64 ux, .int .i64 uy, .int .i64 vx, .int .i64 vy, .int .i64 x, .int .i64 y, .slice a n c, .bool s]) (by decide)
  replace bz := But.bl hbut bz (Nat.succ_pos _) (by omega)
  replace HE : Ext w x2 := by rw [hx2]; exact HE.store (Nat.le_refl _) _
  have hp : BlO x2 w.heap.size #[.int .i64 2, .int .u8 (r0 : Int), .int .u8 (g0 : Int), .int .u8 (b0 : Int), .int .u8 (a0 : Int), .int .u8 (r1 : Int), .int .u8 (g1 : Int), .int .u8 (b1 : Int), .int .u8 (a1 : Int), .int .i64 px, .int .i64 py, .int .i64 qx, .int .i64 qy, .int .i64 r, .int .i64 ux, .int .i64 uy, .int .i64 vx, .int .i64 vy, .int .i64 x, .int .i64 y, .slice a n c, .bool s] := ⟨hb2.1, rfl⟩
  have c9 : x2.cell? ⟨w.heap.size, 9, none⟩ = some (.int .i64 px) := (hb2.1 9).trans rfl
  have c10 : x2.cell? ⟨w.heap.size, 10, none⟩ = some (.int .i64 py) := (hb2.1 10).trans rfl
  have c11 : x2.cell? ⟨w.heap.size, 11, none⟩ = some (.int .i64 qx) := (hb2.1 11).trans rfl
  have c12 : x2.cell? ⟨w.heap.size, 12, none⟩ = some (.int .i64 qy) := (hb2.1 12).trans rfl
  clear hb2 hbut bp fp hx2
  have hb3 := HB.out
  go_upto_region 3 with fail
  clear hb3
  go_upto_region 4 with fail
  have ho := bz.lt (Nat.succ_pos _)
  refine absW (fun x3 hx3 => ?_)
  have hx : Ext x2 x3 := by rw [hx3]; exact ((Ext.refl _).alloc _)
  have bo : Bl x3 (x2.heap.size) #[.int .i64 ax, .int .i64 ay] := by rw [hx3]; exact (Bl.new (by simp))
  have fo : Fz x3 (x2.heap.size) := by rw [hx3]; exact (Fz.new (by simp))
  replace bz := Bl.ext hx bz (Nat.succ_pos _)
  replace hp := hp.ext hx
  replace c9 := hx.cell' c9
  replace c10 := hx.cell' c10
  replace c11 := hx.cell' c11
  replace c12 := hx.cell' c12
  replace HE := HE.trans hx
  clear hx
  clear hx3
  go_wp2_with fail
  refine (HA.out _).mono ?_
  rintro e u1 ⟨rfl, hx⟩
  replace bz := Bl.ext hx bz (Nat.succ_pos _)
  replace fo := Fz.ext hx fo bo (Nat.succ_pos _)
  replace bo := Bl.ext hx bo (Nat.succ_pos _)
  replace hp := hp.ext hx
  replace c9 := hx.cell' c9
  replace c10 := hx.cell' c10
  replace c11 := hx.cell' c11
  replace c12 := hx.cell' c12
  replace HE := HE.trans hx
  clear hx
  go_wp2_with fail
  refine (HP.out _).mono ?_
  rintro e u2 ⟨rfl, hx⟩
  replace bz := Bl.ext hx bz (Nat.succ_pos _)
  replace fo := Fz.ext hx fo bo (Nat.succ_pos _)
  replace bo := Bl.ext hx bo (Nat.succ_pos _)
  replace hp := hp.ext hx
  replace c9 := hx.cell' c9
  replace c10 := hx.cell' c10
  replace c11 := hx.cell' c11
  replace c12 := hx.cell' c12
  replace HE := HE.trans hx
  clear hx
  go_wp2_with fail
  refine (HQ.out _).mono ?_
  rintro e u3 ⟨rfl, hx⟩
  replace bz := Bl.ext hx bz (Nat.succ_pos _)
  replace fo := Fz.ext hx fo bo (Nat.succ_pos _)
  replace bo := Bl.ext hx bo (Nat.succ_pos _)
  replace hp := hp.ext hx
  replace c9 := hx.cell' c9
  replace c10 := hx.cell' c10
  replace c11 := hx.cell' c11
  replace c12 := hx.cell' c12
  replace HE := HE.trans hx
  clear hx
  go_upto_region 6 with fail
  refine absW (fun x4 hx4 => ?_)
  have hbut : But u3 x4 (x2.heap.size) := by rw [hx4]; exact (But.refl _ _).store.store
  have hbn : Bl x4 (x2.heap.size) #[.int .i64 (ax + (m : Int) * (qx - px)), .int .i64 (ay + (m : Int) * (qy - py))] := by rw [hx4]; exact (Bl.set (Bl.set bo (by simp)) (by simp))
  replace c9 := But.cell hbut c9 (by show w.heap.size ≠ _; omega)
  replace c10 := But.cell hbut c10 (by show w.heap.size ≠ _; omega)
  replace c11 := But.cell hbut c11 (by show w.heap.size ≠ _; omega)
  replace c12 := But.cell hbut c12 (by show w.heap.size ≠ _; omega)
  replace bz := But.bl hbut bz (Nat.succ_pos _) (by omega)
  replace fo : Fz x4 (x2.heap.size) := by rw [hx4]; exact (Fz.set (Fz.set fo))
  replace HE : Ext w x4 := by rw [hx4]; exact ((HE.store (by show w.heap.size ≤ x2.heap.size; omega) _).store (by show w.heap.size ≤ x2.heap.size; omega) _)
  replace hp := hp.but hbut (by omega)
  clear bo hbut hx4
  have bo := hbn
  clear hbn
  go_wp2_with fail
  refine (HN.out _).mono ?_
  rintro e u4 ⟨rfl, hx⟩
  replace bz := Bl.ext hx bz (Nat.succ_pos _)
  replace fo := Fz.ext hx fo bo (Nat.succ_pos _)
  replace bo := Bl.ext hx bo (Nat.succ_pos _)
  replace hp := hp.ext hx
  replace c9 := hx.cell' c9
  replace c10 := hx.cell' c10
  replace c11 := hx.cell' c11
  replace c12 := hx.cell' c12
  replace HE := HE.trans hx
  clear hx
  go_wp2_with fail
  refine (tint_lives _).mono ?_
  rintro e uL ⟨rfl, hx⟩
  replace bz := Bl.ext hx bz (Nat.succ_pos _)
  replace fo := Fz.ext hx fo bo (Nat.succ_pos _)
  replace bo := Bl.ext hx bo (Nat.succ_pos _)
  replace hp := hp.ext hx
  replace c9 := hx.cell' c9
  replace c10 := hx.cell' c10
  replace c11 := hx.cell' c11
  replace c12 := hx.cell' c12
  replace HE := HE.trans hx
  clear hx
  go_wp2_with fail
  go_ret
  exact ⟨rfl, HE⟩

set_option maxRecDepth 100000 in
set_option maxHeartbeats 4000000 in
theorem rise_on (k : Int) (r0 g0 b0 a0 r1 g1 b1 a1 : Nat) (px py qx qy r ux uy vx vy : Int) (x y : Int) (a : Option Addr) (n c : Nat) (s : Bool) (ax ay : Int) (kk : Nat) (w : World) (hk : kk ≤ 255) (ha : fitP ax ay = true) (hp : fitP px py = true) (hq : fitP qx qy = true) (hf : fitP (ax + ((kk % 4 : Nat) : Int) * (qx - px)) (ay + ((kk % 4 : Nat) : Int) * (qy - py)) = true) :
    Calls Try.prog 3 #[.agg #[.int .i64 k, .int .u8 (r0 : Int), .int .u8 (g0 : Int), .int .u8 (b0 : Int), .int .u8 (a0 : Int), .int .u8 (r1 : Int), .int .u8 (g1 : Int), .int .u8 (b1 : Int), .int .u8 (a1 : Int), .int .i64 px, .int .i64 py, .int .i64 qx, .int .i64 qy, .int .i64 r, .int .i64 ux, .int .i64 uy, .int .i64 vx, .int .i64 vy, .int .i64 x, .int .i64 y, .slice a n c, .bool s], .agg #[.int .i64 ax, .int .i64 ay], .int .u8 (kk : Int)] w fun e w' => e = .returned (.bool true) ∧ Ext w w' := by
  have HB := hidP (bits_and3 kk hk)
  have hn3 : kk % 4 ≤ 3 := by omega
  generalize kk % 4 = m at *
  obtain ⟨⟨fa1, fa2⟩, fa3, fa4⟩ := fitP_iff.1 ha
  obtain ⟨⟨fb1, fb2⟩, fb3, fb4⟩ := fitP_iff.1 hp
  obtain ⟨⟨fd1, fd2⟩, fd3, fd4⟩ := fitP_iff.1 hq
  have m1 := mul_cap (a := (m : Int)) (b := qx - px) (A := 3) (B := 16777214) (by omega) (by omega) (by omega) (by omega) (by decide) (by decide)
  have m2 := mul_cap (a := (m : Int)) (b := qy - py) (A := 3) (B := 16777214) (by omega) (by omega) (by omega) (by omega) (by decide) (by decide)
  obtain ⟨m1, m3⟩ := m1
  obtain ⟨m2, m4⟩ := m2
  have m1 : -50331642 ≤ (m : Int) * (qx - px) := by omega
  have m2 : -50331642 ≤ (m : Int) * (qy - py) := by omega
  have m3 : (m : Int) * (qx - px) ≤ 50331642 := by omega
  have m4 : (m : Int) * (qy - py) ≤ 50331642 := by omega
  have HA := hidP (d_Fits ax ay)
  have HP := hidP (d_Fits px py)
  have HQ := hidP (d_Fits qx qy)
  have HN := hidP (d_Fits (ax + (m : Int) * (qx - px)) (ay + (m : Int) * (qy - py)))
  rw [ha] at HA
  rw [hp] at HP
  rw [hq] at HQ
  have hm : mayT 2 px py qx qy r = true := by rw [mayT_2, hp, hq]; rfl
  have HM := hidP (fun u => t_May 2 r0 g0 b0 a0 r1 g1 b1 a1 px py qx qy r ux uy vx vy x y a n c s u)
  have HS1 := hidP (fun u => t_Step 2 r0 g0 b0 a0 r1 g1 b1 a1 px py qx qy r ux uy vx vy x y a n c s ax ay u)
  have HS2 := hidP (fun u => t_Step 2 r0 g0 b0 a0 r1 g1 b1 a1 px py qx qy r ux uy vx vy x y a n c s (ax + (m : Int) * (qx - px)) (ay + (m : Int) * (qy - py)) u)
  have HS3 := hidP (fun u => t_Step 2 r0 g0 b0 a0 r1 g1 b1 a1 px py qx qy r ux uy vx vy x y a n c s px py u)
  have HS4 := hidP (fun u => t_Step 2 r0 g0 b0 a0 r1 g1 b1 a1 px py qx qy r ux uy vx vy x y a n c s qx qy u)
  have e1 := step_2 (r := r) hm ha
  have e2 := step_2 (r := r) hm hf
  have e3 := step_2 (r := r) hm hp
  have e4 := step_2 (r := r) hm hq
  have hL : 0 ≤ prodP px py qx qy qx qy := by have := sq_ge (qx - px); have := sq_ge (qy - py); unfold prodP; omega
  have hle := linF_mono hL (show prodP px py ax ay qx qy ≤ prodP px py (ax + (m : Int) * (qx - px)) (ay + (m : Int) * (qy - py)) qx qy by
    rw [prod_step]
    have := Int.mul_nonneg (Int.natCast_nonneg m) hL
    omega)
  rw [← e1, ← e2] at hle
  rw [prod_at_p, lin_0] at e3
  have HE4 : Hid (¬ (px = qx ∧ py = qy) → stepF 2 px py qx qy r qx qy = 255) := hidP (fun h => by rw [e4, lin_all (prod_pos h)])
  rw [e3] at HS3
  have s1 := stepF_le 2 px py qx qy r ax ay
  have s2 := stepF_le 2 px py qx qy r (ax + (m : Int) * (qx - px)) (ay + (m : Int) * (qy - py))
  rw [hm] at HM
  rw [hf] at HN
  clear e1 e2 e3 e4 hL
  generalize stepF 2 px py qx qy r ax ay = S1 at *
  generalize stepF 2 px py qx qy r (ax + (m : Int) * (qx - px)) (ay + (m : Int) * (qy - py)) = S2 at *
  generalize stepF 2 px py qx qy r qx qy = S4 at *
  have hle' : (S1 : Int) ≤ (S2 : Int) := by omega
  clear ha hp hq hf hm
  go_enter Try.func3, Try.ntmps3
  go_upto_region 1 with fail
  refine absW (fun x1 hx1 => ?_)
  have hx : Ext w x1 := by rw [hx1]; exact (((Ext.refl _).alloc _).alloc _)
  have bp : Bl x1 (w.heap.size) #[.int .i64 k, .int .u8 (r0 : Int), .int .u8 (g0 : Int), .int .u8 (b0 : Int), .int .u8 (a0 : Int), .int .u8 (r1 : Int), .int .u8 (g1 : Int), .int .u8 (b1 : Int), .int .u8 (a1 : Int), .int .i64 px, .int .i64 py, .int .i64 qx, .int .i64 qy, .int .i64 r, .int .i64 ux, .int .i64 uy, .int .i64 vx, .int .i64 vy, .int .i64 x, .int .i64 y, .slice a n c, .bool s] := by rw [hx1]; exact ((Bl.new (by simp)).alloc (by simp))
  have bz : Bl x1 (w.heap.size + 1) #[.int .i64 ax, .int .i64 ay] := by rw [hx1]; exact (Bl.new (by simp))
  have HE := hx
  clear hx
  have fp : Fz x1 w.heap.size := by rw [hx1]; exact Fz.alloc (Fz.new rfl) (Bl.new rfl) (by simp)
  clear hx1
  go_upto_region 2 with fail
  refine absW (fun x2 hx2 => ?_)
  have hbut : But x1 x2 w.heap.size := by rw [hx2]; exact (But.refl _ _).store
  have hb2 : B22 x2 w.heap.size [.int .i64 2, .int .u8 (r0 : Int), .int .u8 (g0 : Int), .int .u8 (b0 : Int), .int .u8 (a0 : Int), .int .u8 (r1 : Int), .int .u8 (g1 : Int), .int .u8 (b1 : Int), .int .u8 (a1 : Int), .int .i64 px, .int .i64 py, .int .i64 qx, .int .i64 qy, .int .i64 r, .int .i64 ux, .int .i64 uy, .int .i64 vx, .int .i64 vy, .int .i64 x, .int .i64 y, .slice a n c, .bool s] := by rw [hx2]; exact B22.set (⟨bp, rfl⟩ : B22 x1 w.heap.size [.int .i64 k, .int .u8 (r0 : Int), .int .u8 (g0 : Int), .int .u8 (b0 : Int), .int .u8 (a0 : Int), .int .u8 (r1 : Int), .int .u8 (g1 : Int), .int .u8 (b1 : Int), .int .u8 (a1 : Int), .int .i64 px, .int .i64 py, .int .i64 qx, .int .i64 qy, .int .i64 r, .int .i64 ux, .int .i64 uy, .int .i64 vx, .int .i64 vy, .int .i64 x, .int .i64 y, .slice a n c, .bool s]) (by decide)
  replace bz := But.bl hbut bz (Nat.succ_pos _) (by omega)
  replace HE : Ext w x2 := by rw [hx2]; exact HE.store (Nat.le_refl _) _
  have hp : BlO x2 w.heap.size #[.int .i64 2, .int .u8 (r0 : Int), .int .u8 (g0 : Int), .int .u8 (b0 : Int), .int .u8 (a0 : Int), .int .u8 (r1 : Int), .int .u8 (g1 : Int), .int .u8 (b1 : Int), .int .u8 (a1 : Int), .int .i64 px, .int .i64 py, .int .i64 qx, .int .i64 qy, .int .i64 r, .int .i64 ux, .int .i64 uy, .int .i64 vx, .int .i64 vy, .int .i64 x, .int .i64 y, .slice a n c, .bool s] := ⟨hb2.1, rfl⟩
  have c9 : x2.cell? ⟨w.heap.size, 9, none⟩ = some (.int .i64 px) := (hb2.1 9).trans rfl
  have c10 : x2.cell? ⟨w.heap.size, 10, none⟩ = some (.int .i64 py) := (hb2.1 10).trans rfl
  have c11 : x2.cell? ⟨w.heap.size, 11, none⟩ = some (.int .i64 qx) := (hb2.1 11).trans rfl
  have c12 : x2.cell? ⟨w.heap.size, 12, none⟩ = some (.int .i64 qy) := (hb2.1 12).trans rfl
  clear hb2 hbut bp fp hx2
  have hb3 := HB.out
  go_upto_region 3 with fail
  clear hb3
  go_upto_region 4 with fail
  have ho := bz.lt (Nat.succ_pos _)
  refine absW (fun x3 hx3 => ?_)
  have hx : Ext x2 x3 := by rw [hx3]; exact ((Ext.refl _).alloc _)
  have bo : Bl x3 (x2.heap.size) #[.int .i64 ax, .int .i64 ay] := by rw [hx3]; exact (Bl.new (by simp))
  have fo : Fz x3 (x2.heap.size) := by rw [hx3]; exact (Fz.new (by simp))
  replace bz := Bl.ext hx bz (Nat.succ_pos _)
  replace hp := hp.ext hx
  replace c9 := hx.cell' c9
  replace c10 := hx.cell' c10
  replace c11 := hx.cell' c11
  replace c12 := hx.cell' c12
  replace HE := HE.trans hx
  clear hx
  clear hx3
  go_wp2_with fail
  refine (HA.out _).mono ?_
  rintro e u1 ⟨rfl, hx⟩
  replace bz := Bl.ext hx bz (Nat.succ_pos _)
  replace fo := Fz.ext hx fo bo (Nat.succ_pos _)
  replace bo := Bl.ext hx bo (Nat.succ_pos _)
  replace hp := hp.ext hx
  replace c9 := hx.cell' c9
  replace c10 := hx.cell' c10
  replace c11 := hx.cell' c11
  replace c12 := hx.cell' c12
  replace HE := HE.trans hx
  clear hx
  go_wp2_with fail
  refine (HP.out _).mono ?_
  rintro e u2 ⟨rfl, hx⟩
  replace bz := Bl.ext hx bz (Nat.succ_pos _)
  replace fo := Fz.ext hx fo bo (Nat.succ_pos _)
  replace bo := Bl.ext hx bo (Nat.succ_pos _)
  replace hp := hp.ext hx
  replace c9 := hx.cell' c9
  replace c10 := hx.cell' c10
  replace c11 := hx.cell' c11
  replace c12 := hx.cell' c12
  replace HE := HE.trans hx
  clear hx
  go_wp2_with fail
  refine (HQ.out _).mono ?_
  rintro e u3 ⟨rfl, hx⟩
  replace bz := Bl.ext hx bz (Nat.succ_pos _)
  replace fo := Fz.ext hx fo bo (Nat.succ_pos _)
  replace bo := Bl.ext hx bo (Nat.succ_pos _)
  replace hp := hp.ext hx
  replace c9 := hx.cell' c9
  replace c10 := hx.cell' c10
  replace c11 := hx.cell' c11
  replace c12 := hx.cell' c12
  replace HE := HE.trans hx
  clear hx
  go_upto_region 6 with fail
  refine absW (fun x4 hx4 => ?_)
  have hbut : But u3 x4 (x2.heap.size) := by rw [hx4]; exact (But.refl _ _).store.store
  have hbn : Bl x4 (x2.heap.size) #[.int .i64 (ax + (m : Int) * (qx - px)), .int .i64 (ay + (m : Int) * (qy - py))] := by rw [hx4]; exact (Bl.set (Bl.set bo (by simp)) (by simp))
  replace c9 := But.cell hbut c9 (by show w.heap.size ≠ _; omega)
  replace c10 := But.cell hbut c10 (by show w.heap.size ≠ _; omega)
  replace c11 := But.cell hbut c11 (by show w.heap.size ≠ _; omega)
  replace c12 := But.cell hbut c12 (by show w.heap.size ≠ _; omega)
  replace bz := But.bl hbut bz (Nat.succ_pos _) (by omega)
  replace fo : Fz x4 (x2.heap.size) := by rw [hx4]; exact (Fz.set (Fz.set fo))
  replace HE : Ext w x4 := by rw [hx4]; exact ((HE.store (by show w.heap.size ≤ x2.heap.size; omega) _).store (by show w.heap.size ≤ x2.heap.size; omega) _)
  replace hp := hp.but hbut (by omega)
  clear bo hbut hx4
  have bo := hbn
  clear hbn
  go_wp2_with fail
  refine (HN.out _).mono ?_
  rintro e u4 ⟨rfl, hx⟩
  replace bz := Bl.ext hx bz (Nat.succ_pos _)
  replace fo := Fz.ext hx fo bo (Nat.succ_pos _)
  replace bo := Bl.ext hx bo (Nat.succ_pos _)
  replace hp := hp.ext hx
  replace c9 := hx.cell' c9
  replace c10 := hx.cell' c10
  replace c11 := hx.cell' c11
  replace c12 := hx.cell' c12
  replace HE := HE.trans hx
  clear hx
  rename_i hK
  refine hK _ _ ?_
  try simp only [Act.put, List.setIfInBounds_toArray, List.set_cons_zero, List.set_cons_succ]
  refine wpList_execW (v := .bool false) rfl (by unfold execOp; go_simp) ?_
  try simp only [Act.put, List.setIfInBounds_toArray, List.set_cons_zero, List.set_cons_succ]
  refine wpList_execW (v := .bool false) rfl (by unfold execOp; go_simp) ?_
  try simp only [Act.put, List.setIfInBounds_toArray, List.set_cons_zero, List.set_cons_succ]
  refine wpList_execW rfl (exec_loadO hp rfl rfl) ?_
  try simp only [Act.put, List.setIfInBounds_toArray, List.set_cons_zero, List.set_cons_succ]
  go_wp2_with fail
  refine (HM.out _).mono ?_
  rintro e u5 ⟨rfl, hx⟩
  replace bz := Bl.ext hx bz (Nat.succ_pos _)
  replace fo := Fz.ext hx fo bo (Nat.succ_pos _)
  replace bo := Bl.ext hx bo (Nat.succ_pos _)
  replace hp := hp.ext hx
  replace c9 := hx.cell' c9
  replace c10 := hx.cell' c10
  replace c11 := hx.cell' c11
  replace c12 := hx.cell' c12
  replace HE := HE.trans hx
  clear hx
  go_wp2_with fail
  clear m1 m2 m3 m4
  generalize ax + (m : Int) * (qx - px) = X at *
  generalize ay + (m : Int) * (qy - py) = Y at *
  rcases (by omega : (px = qx ∧ py = qy) ∨ (¬ px = qx) ∨ (px = qx ∧ ¬ py = qy)) with h | h | h
  · obtain ⟨rfl, rfl⟩ := h
    clear HE4
    refine wp_region_plan (R := Ext) (.q 0 (.q 1 (.q 3 (.q 4 (.l 2 (.l 5 (.q 6 (.q 7 (.q 8 (.q 9 (.q 10 (.l 11 (.q 12 (.q 13 (.q 14 (.q 15 (.q 16 (.q 17 (.q 18 (.q 19 (.q 20 (.q 21 (.q 22 (.q 23 (.l 24 (.q 25 (.q 26 (.q 27 (.q 28 (.l 29 (.q 30 (.q 31 .done)))))))))))))))))))))))))))))))) (by kernel_rfl) (by kernel_rfl) (by kernel_rfl) (by kernel_rfl) Ext.refl (fun _ _ _ => Ext.trans) ?_
    refine absE (fun x5 hx5 => ?_)
    have hx : Ext u5 x5 := by rw [hx5]; exact (Ext.refl _).drew
    replace bz := Bl.ext hx bz (Nat.succ_pos _)
    replace fo := Fz.ext hx fo bo (Nat.succ_pos _)
    replace bo := Bl.ext hx bo (Nat.succ_pos _)
    replace hp := hp.ext hx
    replace c9 := hx.cell' c9
    replace c10 := hx.cell' c10
    replace c11 := hx.cell' c11
    replace c12 := hx.cell' c12
    replace HE := HE.trans hx
    clear hx
    clear hx5
    repeat (first | (refine wpE_q rfl rfl (fun u hu => exec_loadO (hp.ext hu) rfl rfl) ?_; simp only [Act.put, List.setIfInBounds_toArray, List.set_cons_zero, List.set_cons_succ]) | (refine wpE_q (v := ?_) rfl rfl (fun u hu => ?_) ?_; rotate_left 1; (focus (have kz := Bl.ext hu bz (Nat.succ_pos _); have ko := Bl.ext hu bo (Nat.succ_pos _); have kc9 := hu.cell' c9; have kc10 := hu.cell' c10; have kc11 := hu.cell' c11; have kc12 := hu.cell' c12; go_simp; (try rfl))); simp only [Act.put, List.setIfInBounds_toArray, List.set_cons_zero, List.set_cons_succ]) | (refine wpE_qs rfl rfl ?_; simp only [Act.put, List.setIfInBounds_toArray, List.set_cons_zero, List.set_cons_succ]))
    refine wpE_l rfl rfl (fun K hK => ?_)
    go_simp
    refine (HS1.out _).mono ?_
    rintro e u6 ⟨rfl, hx⟩
    refine hK.out _ _ hx ?_
    clear hK K
    try simp only [Act.put, List.setIfInBounds_toArray, List.set_cons_zero, List.set_cons_succ]
    replace bz := Bl.ext hx bz (Nat.succ_pos _)
    replace fo := Fz.ext hx fo bo (Nat.succ_pos _)
    replace bo := Bl.ext hx bo (Nat.succ_pos _)
    replace hp := hp.ext hx
    replace c9 := hx.cell' c9
    replace c10 := hx.cell' c10
    replace c11 := hx.cell' c11
    replace c12 := hx.cell' c12
    replace HE := HE.trans hx
    clear hx
    refine wpE_l rfl rfl (fun K hK => ?_)
    go_simp
    refine (HS2.out _).mono ?_
    rintro e u7 ⟨rfl, hx⟩
    refine hK.out _ _ hx ?_
    clear hK K
    try simp only [Act.put, List.setIfInBounds_toArray, List.set_cons_zero, List.set_cons_succ]
    replace bz := Bl.ext hx bz (Nat.succ_pos _)
    replace fo := Fz.ext hx fo bo (Nat.succ_pos _)
    replace bo := Bl.ext hx bo (Nat.succ_pos _)
    replace hp := hp.ext hx
    replace c9 := hx.cell' c9
    replace c10 := hx.cell' c10
    replace c11 := hx.cell' c11
    replace c12 := hx.cell' c12
    replace HE := HE.trans hx
    clear hx
    repeat (first | (refine wpE_q rfl rfl (fun u hu => exec_loadO (hp.ext hu) rfl rfl) ?_; simp only [Act.put, List.setIfInBounds_toArray, List.set_cons_zero, List.set_cons_succ]) | (refine wpE_q (v := ?_) rfl rfl (fun u hu => ?_) ?_; rotate_left 1; (focus (have kz := Bl.ext hu bz (Nat.succ_pos _); have ko := Bl.ext hu bo (Nat.succ_pos _); have kc9 := hu.cell' c9; have kc10 := hu.cell' c10; have kc11 := hu.cell' c11; have kc12 := hu.cell' c12; go_simp; (try rfl))); simp only [Act.put, List.setIfInBounds_toArray, List.set_cons_zero, List.set_cons_succ]) | (refine wpE_qs rfl rfl ?_; simp only [Act.put, List.setIfInBounds_toArray, List.set_cons_zero, List.set_cons_succ]))
    refine wpE_l rfl rfl (fun K hK => ?_)
    go_simp
    refine (HS3.out _).mono ?_
    rintro e u8 ⟨rfl, hx⟩
    refine hK.out _ _ hx ?_
    clear hK K
    try simp only [Act.put, List.setIfInBounds_toArray, List.set_cons_zero, List.set_cons_succ]
    replace bz := Bl.ext hx bz (Nat.succ_pos _)
    replace fo := Fz.ext hx fo bo (Nat.succ_pos _)
    replace bo := Bl.ext hx bo (Nat.succ_pos _)
    replace hp := hp.ext hx
    replace c9 := hx.cell' c9
    replace c10 := hx.cell' c10
    replace c11 := hx.cell' c11
    replace c12 := hx.cell' c12
    replace HE := HE.trans hx
    clear hx
    repeat (first | (refine wpE_q rfl rfl (fun u hu => exec_loadO (hp.ext hu) rfl rfl) ?_; simp only [Act.put, List.setIfInBounds_toArray, List.set_cons_zero, List.set_cons_succ]) | (refine wpE_q (v := ?_) rfl rfl (fun u hu => ?_) ?_; rotate_left 1; (focus (have kz := Bl.ext hu bz (Nat.succ_pos _); have ko := Bl.ext hu bo (Nat.succ_pos _); have kc9 := hu.cell' c9; have kc10 := hu.cell' c10; have kc11 := hu.cell' c11; have kc12 := hu.cell' c12; go_simp; (try rfl))); simp only [Act.put, List.setIfInBounds_toArray, List.set_cons_zero, List.set_cons_succ]) | (refine wpE_qs rfl rfl ?_; simp only [Act.put, List.setIfInBounds_toArray, List.set_cons_zero, List.set_cons_succ]))
    refine wpE_ls (Ext.refl _) rfl rfl ?_
    simp only [Act.put, List.setIfInBounds_toArray, List.set_cons_zero, List.set_cons_succ]
    repeat (first | (refine wpE_q rfl rfl (fun u hu => exec_loadO (hp.ext hu) rfl rfl) ?_; simp only [Act.put, List.setIfInBounds_toArray, List.set_cons_zero, List.set_cons_succ]) | (refine wpE_q (v := ?_) rfl rfl (fun u hu => ?_) ?_; rotate_left 1; (focus (have kz := Bl.ext hu bz (Nat.succ_pos _); have ko := Bl.ext hu bo (Nat.succ_pos _); have kc9 := hu.cell' c9; have kc10 := hu.cell' c10; have kc11 := hu.cell' c11; have kc12 := hu.cell' c12; go_simp; (try rfl))); simp only [Act.put, List.setIfInBounds_toArray, List.set_cons_zero, List.set_cons_succ]) | (refine wpE_qs rfl rfl ?_; simp only [Act.put, List.setIfInBounds_toArray, List.set_cons_zero, List.set_cons_succ]))
    refine wpE_l rfl rfl (fun K hK => ?_)
    go_simp
    refine (tint_lives _).mono ?_
    rintro e u10 ⟨rfl, hx⟩
    refine hK.out _ _ hx ?_
    clear hK K
    try simp only [Act.put, List.setIfInBounds_toArray, List.set_cons_zero, List.set_cons_succ]
    replace bz := Bl.ext hx bz (Nat.succ_pos _)
    replace fo := Fz.ext hx fo bo (Nat.succ_pos _)
    replace bo := Bl.ext hx bo (Nat.succ_pos _)
    replace hp := hp.ext hx
    replace c9 := hx.cell' c9
    replace c10 := hx.cell' c10
    replace c11 := hx.cell' c11
    replace c12 := hx.cell' c12
    replace HE := HE.trans hx
    clear hx
    repeat (first | (refine wpE_q rfl rfl (fun u hu => exec_loadO (hp.ext hu) rfl rfl) ?_; simp only [Act.put, List.setIfInBounds_toArray, List.set_cons_zero, List.set_cons_succ]) | (refine wpE_q (v := ?_) rfl rfl (fun u hu => ?_) ?_; rotate_left 1; (focus (have kz := Bl.ext hu bz (Nat.succ_pos _); have ko := Bl.ext hu bo (Nat.succ_pos _); have kc9 := hu.cell' c9; have kc10 := hu.cell' c10; have kc11 := hu.cell' c11; have kc12 := hu.cell' c12; go_simp; (try rfl))); simp only [Act.put, List.setIfInBounds_toArray, List.set_cons_zero, List.set_cons_succ]) | (refine wpE_qs rfl rfl ?_; simp only [Act.put, List.setIfInBounds_toArray, List.set_cons_zero, List.set_cons_succ]))
    refine wpE_done ?_
    go_wp2_with fail
    go_ret
    exact ⟨rfl, HE⟩
  · have H4 := HE4.out (by omega)
    subst H4
    refine wp_region_plan (R := Ext) (.q 0 (.q 1 (.q 3 (.q 4 (.l 2 (.l 5 (.q 6 (.q 7 (.q 8 (.q 9 (.q 10 (.l 11 (.q 12 (.q 13 (.q 14 (.q 15 (.q 16 (.q 17 (.q 18 (.q 19 (.q 20 (.q 21 (.q 22 (.q 23 (.l 24 (.q 25 (.q 26 (.q 27 (.q 28 (.l 29 (.q 30 (.q 31 .done)))))))))))))))))))))))))))))))) (by kernel_rfl) (by kernel_rfl) (by kernel_rfl) (by kernel_rfl) Ext.refl (fun _ _ _ => Ext.trans) ?_
    refine absE (fun x5 hx5 => ?_)
    have hx : Ext u5 x5 := by rw [hx5]; exact (Ext.refl _).drew
    replace bz := Bl.ext hx bz (Nat.succ_pos _)
    replace fo := Fz.ext hx fo bo (Nat.succ_pos _)
    replace bo := Bl.ext hx bo (Nat.succ_pos _)
    replace hp := hp.ext hx
    replace c9 := hx.cell' c9
    replace c10 := hx.cell' c10
    replace c11 := hx.cell' c11
    replace c12 := hx.cell' c12
    replace HE := HE.trans hx
    clear hx
    clear hx5
    repeat (first | (refine wpE_q rfl rfl (fun u hu => exec_loadO (hp.ext hu) rfl rfl) ?_; simp only [Act.put, List.setIfInBounds_toArray, List.set_cons_zero, List.set_cons_succ]) | (refine wpE_q (v := ?_) rfl rfl (fun u hu => ?_) ?_; rotate_left 1; (focus (have kz := Bl.ext hu bz (Nat.succ_pos _); have ko := Bl.ext hu bo (Nat.succ_pos _); have kc9 := hu.cell' c9; have kc10 := hu.cell' c10; have kc11 := hu.cell' c11; have kc12 := hu.cell' c12; go_simp; (try rfl))); simp only [Act.put, List.setIfInBounds_toArray, List.set_cons_zero, List.set_cons_succ]))
    refine wpE_l rfl rfl (fun K hK => ?_)
    go_simp
    refine (HS1.out _).mono ?_
    rintro e u6 ⟨rfl, hx⟩
    refine hK.out _ _ hx ?_
    clear hK K
    try simp only [Act.put, List.setIfInBounds_toArray, List.set_cons_zero, List.set_cons_succ]
    replace bz := Bl.ext hx bz (Nat.succ_pos _)
    replace fo := Fz.ext hx fo bo (Nat.succ_pos _)
    replace bo := Bl.ext hx bo (Nat.succ_pos _)
    replace hp := hp.ext hx
    replace c9 := hx.cell' c9
    replace c10 := hx.cell' c10
    replace c11 := hx.cell' c11
    replace c12 := hx.cell' c12
    replace HE := HE.trans hx
    clear hx
    refine wpE_l rfl rfl (fun K hK => ?_)
    go_simp
    refine (HS2.out _).mono ?_
    rintro e u7 ⟨rfl, hx⟩
    refine hK.out _ _ hx ?_
    clear hK K
    try simp only [Act.put, List.setIfInBounds_toArray, List.set_cons_zero, List.set_cons_succ]
    replace bz := Bl.ext hx bz (Nat.succ_pos _)
    replace fo := Fz.ext hx fo bo (Nat.succ_pos _)
    replace bo := Bl.ext hx bo (Nat.succ_pos _)
    replace hp := hp.ext hx
    replace c9 := hx.cell' c9
    replace c10 := hx.cell' c10
    replace c11 := hx.cell' c11
    replace c12 := hx.cell' c12
    replace HE := HE.trans hx
    clear hx
    repeat (first | (refine wpE_q rfl rfl (fun u hu => exec_loadO (hp.ext hu) rfl rfl) ?_; simp only [Act.put, List.setIfInBounds_toArray, List.set_cons_zero, List.set_cons_succ]) | (refine wpE_q (v := ?_) rfl rfl (fun u hu => ?_) ?_; rotate_left 1; (focus (have kz := Bl.ext hu bz (Nat.succ_pos _); have ko := Bl.ext hu bo (Nat.succ_pos _); have kc9 := hu.cell' c9; have kc10 := hu.cell' c10; have kc11 := hu.cell' c11; have kc12 := hu.cell' c12; go_simp; (try rfl))); simp only [Act.put, List.setIfInBounds_toArray, List.set_cons_zero, List.set_cons_succ]))
    refine wpE_l rfl rfl (fun K hK => ?_)
    go_simp
    refine (HS3.out _).mono ?_
    rintro e u8 ⟨rfl, hx⟩
    refine hK.out _ _ hx ?_
    clear hK K
    try simp only [Act.put, List.setIfInBounds_toArray, List.set_cons_zero, List.set_cons_succ]
    replace bz := Bl.ext hx bz (Nat.succ_pos _)
    replace fo := Fz.ext hx fo bo (Nat.succ_pos _)
    replace bo := Bl.ext hx bo (Nat.succ_pos _)
    replace hp := hp.ext hx
    replace c9 := hx.cell' c9
    replace c10 := hx.cell' c10
    replace c11 := hx.cell' c11
    replace c12 := hx.cell' c12
    replace HE := HE.trans hx
    clear hx
    repeat (first | (refine wpE_q rfl rfl (fun u hu => exec_loadO (hp.ext hu) rfl rfl) ?_; simp only [Act.put, List.setIfInBounds_toArray, List.set_cons_zero, List.set_cons_succ]) | (refine wpE_q (v := ?_) rfl rfl (fun u hu => ?_) ?_; rotate_left 1; (focus (have kz := Bl.ext hu bz (Nat.succ_pos _); have ko := Bl.ext hu bo (Nat.succ_pos _); have kc9 := hu.cell' c9; have kc10 := hu.cell' c10; have kc11 := hu.cell' c11; have kc12 := hu.cell' c12; go_simp; (try rfl))); simp only [Act.put, List.setIfInBounds_toArray, List.set_cons_zero, List.set_cons_succ]))
    refine wpE_l rfl rfl (fun K hK => ?_)
    go_simp
    refine (HS4.out _).mono ?_
    rintro e u9 ⟨rfl, hx⟩
    refine hK.out _ _ hx ?_
    clear hK K
    try simp only [Act.put, List.setIfInBounds_toArray, List.set_cons_zero, List.set_cons_succ]
    replace bz := Bl.ext hx bz (Nat.succ_pos _)
    replace fo := Fz.ext hx fo bo (Nat.succ_pos _)
    replace bo := Bl.ext hx bo (Nat.succ_pos _)
    replace hp := hp.ext hx
    replace c9 := hx.cell' c9
    replace c10 := hx.cell' c10
    replace c11 := hx.cell' c11
    replace c12 := hx.cell' c12
    replace HE := HE.trans hx
    clear hx
    repeat (first | (refine wpE_q rfl rfl (fun u hu => exec_loadO (hp.ext hu) rfl rfl) ?_; simp only [Act.put, List.setIfInBounds_toArray, List.set_cons_zero, List.set_cons_succ]) | (refine wpE_q (v := ?_) rfl rfl (fun u hu => ?_) ?_; rotate_left 1; (focus (have kz := Bl.ext hu bz (Nat.succ_pos _); have ko := Bl.ext hu bo (Nat.succ_pos _); have kc9 := hu.cell' c9; have kc10 := hu.cell' c10; have kc11 := hu.cell' c11; have kc12 := hu.cell' c12; go_simp; (try rfl))); simp only [Act.put, List.setIfInBounds_toArray, List.set_cons_zero, List.set_cons_succ]))
    refine wpE_l rfl rfl (fun K hK => ?_)
    go_simp
    refine (tint_lives _).mono ?_
    rintro e u10 ⟨rfl, hx⟩
    refine hK.out _ _ hx ?_
    clear hK K
    try simp only [Act.put, List.setIfInBounds_toArray, List.set_cons_zero, List.set_cons_succ]
    replace bz := Bl.ext hx bz (Nat.succ_pos _)
    replace fo := Fz.ext hx fo bo (Nat.succ_pos _)
    replace bo := Bl.ext hx bo (Nat.succ_pos _)
    replace hp := hp.ext hx
    replace c9 := hx.cell' c9
    replace c10 := hx.cell' c10
    replace c11 := hx.cell' c11
    replace c12 := hx.cell' c12
    replace HE := HE.trans hx
    clear hx
    repeat (first | (refine wpE_q rfl rfl (fun u hu => exec_loadO (hp.ext hu) rfl rfl) ?_; simp only [Act.put, List.setIfInBounds_toArray, List.set_cons_zero, List.set_cons_succ]) | (refine wpE_q (v := ?_) rfl rfl (fun u hu => ?_) ?_; rotate_left 1; (focus (have kz := Bl.ext hu bz (Nat.succ_pos _); have ko := Bl.ext hu bo (Nat.succ_pos _); have kc9 := hu.cell' c9; have kc10 := hu.cell' c10; have kc11 := hu.cell' c11; have kc12 := hu.cell' c12; go_simp; (try rfl))); simp only [Act.put, List.setIfInBounds_toArray, List.set_cons_zero, List.set_cons_succ]))
    refine wpE_done ?_
    go_wp2_with fail
    go_ret
    exact ⟨rfl, HE⟩
  · obtain ⟨rfl, h⟩ := h
    have H4 := HE4.out (by omega)
    subst H4
    refine wp_region_plan (R := Ext) (.q 0 (.q 1 (.q 3 (.q 4 (.l 2 (.l 5 (.q 6 (.q 7 (.q 8 (.q 9 (.q 10 (.l 11 (.q 12 (.q 13 (.q 14 (.q 15 (.q 16 (.q 17 (.q 18 (.q 19 (.q 20 (.q 21 (.q 22 (.q 23 (.l 24 (.q 25 (.q 26 (.q 27 (.q 28 (.l 29 (.q 30 (.q 31 .done)))))))))))))))))))))))))))))))) (by kernel_rfl) (by kernel_rfl) (by kernel_rfl) (by kernel_rfl) Ext.refl (fun _ _ _ => Ext.trans) ?_
    refine absE (fun x5 hx5 => ?_)
    have hx : Ext u5 x5 := by rw [hx5]; exact (Ext.refl _).drew
    replace bz := Bl.ext hx bz (Nat.succ_pos _)
    replace fo := Fz.ext hx fo bo (Nat.succ_pos _)
    replace bo := Bl.ext hx bo (Nat.succ_pos _)
    replace hp := hp.ext hx
    replace c9 := hx.cell' c9
    replace c10 := hx.cell' c10
    replace c11 := hx.cell' c11
    replace c12 := hx.cell' c12
    replace HE := HE.trans hx
    clear hx
    clear hx5
    repeat (first | (refine wpE_q rfl rfl (fun u hu => exec_loadO (hp.ext hu) rfl rfl) ?_; simp only [Act.put, List.setIfInBounds_toArray, List.set_cons_zero, List.set_cons_succ]) | (refine wpE_q (v := ?_) rfl rfl (fun u hu => ?_) ?_; rotate_left 1; (focus (have kz := Bl.ext hu bz (Nat.succ_pos _); have ko := Bl.ext hu bo (Nat.succ_pos _); have kc9 := hu.cell' c9; have kc10 := hu.cell' c10; have kc11 := hu.cell' c11; have kc12 := hu.cell' c12; go_simp; (try rfl))); simp only [Act.put, List.setIfInBounds_toArray, List.set_cons_zero, List.set_cons_succ]))
    refine wpE_l rfl rfl (fun K hK => ?_)
    go_simp
    refine (HS1.out _).mono ?_
    rintro e u6 ⟨rfl, hx⟩
    refine hK.out _ _ hx ?_
    clear hK K
    try simp only [Act.put, List.setIfInBounds_toArray, List.set_cons_zero, List.set_cons_succ]
    replace bz := Bl.ext hx bz (Nat.succ_pos _)
    replace fo := Fz.ext hx fo bo (Nat.succ_pos _)
    replace bo := Bl.ext hx bo (Nat.succ_pos _)
    replace hp := hp.ext hx
    replace c9 := hx.cell' c9
    replace c10 := hx.cell' c10
    replace c11 := hx.cell' c11
    replace c12 := hx.cell' c12
    replace HE := HE.trans hx
    clear hx
    refine wpE_l rfl rfl (fun K hK => ?_)
    go_simp
    refine (HS2.out _).mono ?_
    rintro e u7 ⟨rfl, hx⟩
    refine hK.out _ _ hx ?_
    clear hK K
    try simp only [Act.put, List.setIfInBounds_toArray, List.set_cons_zero, List.set_cons_succ]
    replace bz := Bl.ext hx bz (Nat.succ_pos _)
    replace fo := Fz.ext hx fo bo (Nat.succ_pos _)
    replace bo := Bl.ext hx bo (Nat.succ_pos _)
    replace hp := hp.ext hx
    replace c9 := hx.cell' c9
    replace c10 := hx.cell' c10
    replace c11 := hx.cell' c11
    replace c12 := hx.cell' c12
    replace HE := HE.trans hx
    clear hx
    repeat (first | (refine wpE_q rfl rfl (fun u hu => exec_loadO (hp.ext hu) rfl rfl) ?_; simp only [Act.put, List.setIfInBounds_toArray, List.set_cons_zero, List.set_cons_succ]) | (refine wpE_q (v := ?_) rfl rfl (fun u hu => ?_) ?_; rotate_left 1; (focus (have kz := Bl.ext hu bz (Nat.succ_pos _); have ko := Bl.ext hu bo (Nat.succ_pos _); have kc9 := hu.cell' c9; have kc10 := hu.cell' c10; have kc11 := hu.cell' c11; have kc12 := hu.cell' c12; go_simp; (try rfl))); simp only [Act.put, List.setIfInBounds_toArray, List.set_cons_zero, List.set_cons_succ]))
    refine wpE_l rfl rfl (fun K hK => ?_)
    go_simp
    refine (HS3.out _).mono ?_
    rintro e u8 ⟨rfl, hx⟩
    refine hK.out _ _ hx ?_
    clear hK K
    try simp only [Act.put, List.setIfInBounds_toArray, List.set_cons_zero, List.set_cons_succ]
    replace bz := Bl.ext hx bz (Nat.succ_pos _)
    replace fo := Fz.ext hx fo bo (Nat.succ_pos _)
    replace bo := Bl.ext hx bo (Nat.succ_pos _)
    replace hp := hp.ext hx
    replace c9 := hx.cell' c9
    replace c10 := hx.cell' c10
    replace c11 := hx.cell' c11
    replace c12 := hx.cell' c12
    replace HE := HE.trans hx
    clear hx
    repeat (first | (refine wpE_q rfl rfl (fun u hu => exec_loadO (hp.ext hu) rfl rfl) ?_; simp only [Act.put, List.setIfInBounds_toArray, List.set_cons_zero, List.set_cons_succ]) | (refine wpE_q (v := ?_) rfl rfl (fun u hu => ?_) ?_; rotate_left 1; (focus (have kz := Bl.ext hu bz (Nat.succ_pos _); have ko := Bl.ext hu bo (Nat.succ_pos _); have kc9 := hu.cell' c9; have kc10 := hu.cell' c10; have kc11 := hu.cell' c11; have kc12 := hu.cell' c12; go_simp; (try rfl))); simp only [Act.put, List.setIfInBounds_toArray, List.set_cons_zero, List.set_cons_succ]))
    refine wpE_l rfl rfl (fun K hK => ?_)
    go_simp
    refine (HS4.out _).mono ?_
    rintro e u9 ⟨rfl, hx⟩
    refine hK.out _ _ hx ?_
    clear hK K
    try simp only [Act.put, List.setIfInBounds_toArray, List.set_cons_zero, List.set_cons_succ]
    replace bz := Bl.ext hx bz (Nat.succ_pos _)
    replace fo := Fz.ext hx fo bo (Nat.succ_pos _)
    replace bo := Bl.ext hx bo (Nat.succ_pos _)
    replace hp := hp.ext hx
    replace c9 := hx.cell' c9
    replace c10 := hx.cell' c10
    replace c11 := hx.cell' c11
    replace c12 := hx.cell' c12
    replace HE := HE.trans hx
    clear hx
    repeat (first | (refine wpE_q rfl rfl (fun u hu => exec_loadO (hp.ext hu) rfl rfl) ?_; simp only [Act.put, List.setIfInBounds_toArray, List.set_cons_zero, List.set_cons_succ]) | (refine wpE_q (v := ?_) rfl rfl (fun u hu => ?_) ?_; rotate_left 1; (focus (have kz := Bl.ext hu bz (Nat.succ_pos _); have ko := Bl.ext hu bo (Nat.succ_pos _); have kc9 := hu.cell' c9; have kc10 := hu.cell' c10; have kc11 := hu.cell' c11; have kc12 := hu.cell' c12; go_simp; (try rfl))); simp only [Act.put, List.setIfInBounds_toArray, List.set_cons_zero, List.set_cons_succ]))
    refine wpE_l rfl rfl (fun K hK => ?_)
    go_simp
    refine (tint_lives _).mono ?_
    rintro e u10 ⟨rfl, hx⟩
    refine hK.out _ _ hx ?_
    clear hK K
    try simp only [Act.put, List.setIfInBounds_toArray, List.set_cons_zero, List.set_cons_succ]
    replace bz := Bl.ext hx bz (Nat.succ_pos _)
    replace fo := Fz.ext hx fo bo (Nat.succ_pos _)
    replace bo := Bl.ext hx bo (Nat.succ_pos _)
    replace hp := hp.ext hx
    replace c9 := hx.cell' c9
    replace c10 := hx.cell' c10
    replace c11 := hx.cell' c11
    replace c12 := hx.cell' c12
    replace HE := HE.trans hx
    clear hx
    repeat (first | (refine wpE_q rfl rfl (fun u hu => exec_loadO (hp.ext hu) rfl rfl) ?_; simp only [Act.put, List.setIfInBounds_toArray, List.set_cons_zero, List.set_cons_succ]) | (refine wpE_q (v := ?_) rfl rfl (fun u hu => ?_) ?_; rotate_left 1; (focus (have kz := Bl.ext hu bz (Nat.succ_pos _); have ko := Bl.ext hu bo (Nat.succ_pos _); have kc9 := hu.cell' c9; have kc10 := hu.cell' c10; have kc11 := hu.cell' c11; have kc12 := hu.cell' c12; go_simp; (try rfl))); simp only [Act.put, List.setIfInBounds_toArray, List.set_cons_zero, List.set_cons_succ]))
    refine wpE_done ?_
    go_wp2_with fail
    go_ret
    exact ⟨rfl, HE⟩

set_option maxRecDepth 100000 in
set_option maxHeartbeats 4000000 in
theorem tintRises_any (k : Int) (r0 g0 b0 a0 r1 g1 b1 a1 : Nat) (px py qx qy r ux uy vx vy : Int) (x y : Int) (a : Option Addr) (n c : Nat) (s : Bool) (ax ay : Int) (kk : Nat) (w : World) (hk : kk ≤ 255)  :
    Calls Try.prog 3 #[.agg #[.int .i64 k, .int .u8 (r0 : Int), .int .u8 (g0 : Int), .int .u8 (b0 : Int), .int .u8 (a0 : Int), .int .u8 (r1 : Int), .int .u8 (g1 : Int), .int .u8 (b1 : Int), .int .u8 (a1 : Int), .int .i64 px, .int .i64 py, .int .i64 qx, .int .i64 qy, .int .i64 r, .int .i64 ux, .int .i64 uy, .int .i64 vx, .int .i64 vy, .int .i64 x, .int .i64 y, .slice a n c, .bool s], .agg #[.int .i64 ax, .int .i64 ay], .int .u8 (kk : Int)] w fun e w' => e = .returned (.bool true) ∧ Ext w w' := by
  cases ha : fitP ax ay
  · exact rise_a k r0 g0 b0 a0 r1 g1 b1 a1 px py qx qy r ux uy vx vy x y a n c s ax ay kk w hk ha
  cases hp : fitP px py
  · exact rise_p k r0 g0 b0 a0 r1 g1 b1 a1 px py qx qy r ux uy vx vy x y a n c s ax ay kk w hk ha hp
  cases hq : fitP qx qy
  · exact rise_q k r0 g0 b0 a0 r1 g1 b1 a1 px py qx qy r ux uy vx vy x y a n c s ax ay kk w hk ha hp hq
  cases hf : fitP (ax + ((kk % 4 : Nat) : Int) * (qx - px)) (ay + ((kk % 4 : Nat) : Int) * (qy - py))
  · exact rise_off k r0 g0 b0 a0 r1 g1 b1 a1 px py qx qy r ux uy vx vy x y a n c s ax ay kk w hk ha hp hq hf
  · exact rise_on k r0 g0 b0 a0 r1 g1 b1 a1 px py qx qy r ux uy vx vy x y a n c s ax ay kk w hk ha hp hq hf

end Go.Proofs.Ytmibjfkpchncgaa
