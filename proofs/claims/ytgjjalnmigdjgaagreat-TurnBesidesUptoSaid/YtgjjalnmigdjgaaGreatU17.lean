/- Turns: on both sides of an edge, gathered. -/
import Derived.Test.YtgjjalnmigdjgaaGreatU16
namespace Go.Proofs.YtgjjalnmigdjgaaGreat
set_option linter.unusedVariables false
set_option linter.unusedSimpArgs false
open Go Go.RowKit
/-- Does a way that has a spot on it lie on an edge's line, and go on beyond the spot? -/
def alR (ax ay ex ey : Int) (x y q r : Rat) : Bool := (sideR (ax : Rat) (ay : Rat) (ex : Rat) (ey : Rat) x y == 0) && !(cmpS (ax : Rat) (ay : Rat) q r == 0) && !(cmpS (ex : Rat) (ey : Rat) q r == 0)
set_option maxRecDepth 100000 in
set_option maxHeartbeats 8000000 in
theorem tu_along {bx1 by1 : Bool} {ax1 dx1 ay1 dy1 : Option Addr} {nx1 cx1 mx1 kx1 ny1 cy1 my1 ky1 : Nat} {x1 y1 : Rat} {bx2 by2 : Bool} {ax2 dx2 ay2 dy2 : Option Addr} {nx2 cx2 mx2 kx2 ny2 cy2 my2 ky2 : Nat} {x2 y2 : Rat} {b b' : Bool} {a d a' d' : Option Addr} {n c m k n' c' m' k' : Nat} {q r : Rat} {N : Nat} (ax ay ex ey : Int) (w : World) (hx1 : Fq w bx1 ax1 nx1 cx1 dx1 mx1 kx1 x1 N) (hy1 : Fq w by1 ay1 ny1 cy1 dy1 my1 ky1 y1 N) (hx : Fq w b a n c d m k q N) (hy : Fq w b' a' n' c' d' m' k' r N) (hN : N ≤ 17179869184) (hN1 : 2 ≤ N) (z1 : -8388607 ≤ ax) (z2 : ax ≤ 8388607) (z5 : -8388607 ≤ ay) (z6 : ay ≤ 8388607) (z3 : -8388607 ≤ ex) (z4 : ex ≤ 8388607) (z7 : -8388607 ≤ ey) (z8 : ey ≤ 8388607) :
    Calls Tryz.prog 85 #[.agg #[.int .i64 ax, .int .i64 ay, .int .i64 ex, .int .i64 ey], .agg #[.bool bx1, .slice ax1 nx1 cx1, .slice dx1 mx1 kx1, .bool by1, .slice ay1 ny1 cy1, .slice dy1 my1 ky1, .bool bx2, .slice ax2 nx2 cx2, .slice dx2 mx2 kx2, .bool by2, .slice ay2 ny2 cy2, .slice dy2 my2 ky2], .agg #[.bool b, .slice a n c, .slice d m k, .bool b', .slice a' n' c', .slice d' m' k']] w fun e w' => e = .returned (.bool (alR ax ay ex ey x1 y1 q r)) ∧ Ext w w' := by
 have X1 := hidP hx1; have Y1 := hidP hy1; have HX := hidP hx; have HY := hidP hy
 have I1 := hidP (fun u => sp_At ax ay u (by omega) (by omega) (by omega) (by omega)); have I2 := hidP (fun u => sp_At ex ey u (by omega) (by omega) (by omega) (by omega))
 have C5 := hidP (fun u (t1 : Fq u bx1 ax1 nx1 cx1 dx1 mx1 kx1 x1 N) (t2 : Fq u by1 ay1 ny1 cy1 dy1 my1 ky1 y1 N) => sp_Side ax ay ex ey u t1 t2 hN hN1 (by omega) (by omega) (by omega) (by omega) (by omega) (by omega) (by omega) (by omega))
 have L1 := hidP (Nat.le_trans (ql_int (n := ax) (by omega) (by omega)) hN1); have L2 := hidP (Nat.le_trans (ql_int (n := ay) (by omega) (by omega)) hN1); have L3 := hidP (Nat.le_trans (ql_int (n := ex) (by omega) (by omega)) hN1); have L4 := hidP (Nat.le_trans (ql_int (n := ey) (by omega) (by omega)) hN1)
 have hsd := sideR_bd (ax : Rat) (ay : Rat) (ex : Rat) (ey : Rat) x1 y1
 unfold alR
 generalize sideR (ax : Rat) (ay : Rat) (ex : Rat) (ey : Rat) x1 y1 = sd at *
 generalize (ax : Rat) = q1 at *
 generalize (ay : Rat) = q2 at *
 generalize (ex : Rat) = q3 at *
 generalize (ey : Rat) = q4 at *
 have S1 := hidP (fun u {g1 g2 : Bool} {e1 f1 e2 f2 : Option Addr} {i1 j1 p1 o1 i2 j2 p2 o2 : Nat} (t1 : Fq u g1 e1 i1 j1 f1 p1 o1 q1 N) (t2 : Fq u g2 e2 i2 j2 f2 p2 o2 q2 N) (t5 : Fq u b a n c d m k q N) (t6 : Fq u b' a' n' c' d' m' k' r N) => sp_Same u t1 t2 t5 t6 (by omega))
 have S2 := hidP (fun u {g1 g2 : Bool} {e1 f1 e2 f2 : Option Addr} {i1 j1 p1 o1 i2 j2 p2 o2 : Nat} (t1 : Fq u g1 e1 i1 j1 f1 p1 o1 q3 N) (t2 : Fq u g2 e2 i2 j2 f2 p2 o2 q4 N) (t5 : Fq u b a n c d m k q N) (t6 : Fq u b' a' n' c' d' m' k' r N) => sp_Same u t1 t2 t5 t6 (by omega))
 generalize (cmpS q1 q2 q r == 0) = b1 at *
 generalize (cmpS q3 q4 q r == 0) = b2 at *
 clear hx1 hy1 hx hy z1 z2 z3 z4 z5 z6 z7 z8
 rcases hsd with h | h | h <;> subst h
 · go_enter Tryz.func85, Tryz.ntmps85
   go_wp2_with fail
   refine absW (fun x41 hx41 => ?_)
   have hx : Ext w x41 := by rw [hx41]; exact ((((Ext.refl _).alloc _).alloc _).alloc _)
   have bp : Bl x41 (w.heap.size) #[.int .i64 ax, .int .i64 ay, .int .i64 ex, .int .i64 ey] := by rw [hx41]; exact (((Bl.new (by simp)).alloc (by simp)).alloc (by simp))
   have be : Bl x41 (w.heap.size + 1) #[.bool bx1, .slice ax1 nx1 cx1, .slice dx1 mx1 kx1, .bool by1, .slice ay1 ny1 cy1, .slice dy1 my1 ky1, .bool bx2, .slice ax2 nx2 cx2, .slice dx2 mx2 kx2, .bool by2, .slice ay2 ny2 cy2, .slice dy2 my2 ky2] := by rw [hx41]; exact ((Bl.new (by simp)).alloc (by simp))
   have br : Bl x41 (w.heap.size + 1 + 1) #[.bool b, .slice a n c, .slice d m k, .bool b', .slice a' n' c', .slice d' m' k'] := by rw [hx41]; exact (Bl.new (by simp))
   have HE := hx
   clear hx
   clear hx41
   refine wp_region_plan (R := Ext) (.q 0 (.q 1 (.q 2 (.q 3 (.q 4 (.q 5 (.l 6 (.q 7 (.q 8 (.q 9 (.q 10 (.q 12 (.l 11 (.l 13 (.q 14 (.q 15 (.q 16 (.q 17 (.q 18 (.q 20 (.l 19 (.l 21 (.q 22 (.q 23 (.q 24 .done))))))))))))))))))))))))) (by kernel_rfl) (by kernel_rfl) (by kernel_rfl) (by kernel_rfl) Ext.refl (fun _ _ _ => Ext.trans) ?_
   refine absE (fun x42 hx42 => ?_)
   have hx : Ext x41 x42 := by rw [hx42]; exact (Ext.refl _).drew
   replace bp := q1b hx bp
   replace be := q1b hx be
   replace br := q1b hx br
   replace HE := HE.trans hx
   clear hx
   clear hx42
   repeat (first | (refine wpE_q (v := ?_) rfl rfl (fun u hu => ?_) ?_; rotate_left 1; (focus (have kp := q1b hu bp; have ke := q1b hu be; have kr := q1b hu br; go_simp; (try rfl))); simp only [PU]) | (refine wpE_qs rfl rfl ?_; simp only [PU]))
   refine wpE_l rfl rfl (fun K hK => ?_)
   go_simp
   refine (C5.out _ (X1.out.ext HE) (Y1.out.ext HE)).mono ?_
   rintro e u9 ⟨rfl, hx⟩
   refine hK.out _ _ hx ?_
   clear hK K
   try simp only [PU]
   replace bp := q1b hx bp
   replace be := q1b hx be
   replace br := q1b hx br
   replace HE := HE.trans hx
   clear hx
   repeat (first | (refine wpE_q (v := ?_) rfl rfl (fun u hu => ?_) ?_; rotate_left 1; (focus (have kp := q1b hu bp; have ke := q1b hu be; have kr := q1b hu br; go_simp; (try rfl))); simp only [PU]) | (refine wpE_qs rfl rfl ?_; simp only [PU]))
   refine wpE_ls (Ext.refl _) rfl rfl ?_
   simp only [PU]
   refine wpE_ls (Ext.refl _) rfl rfl ?_
   simp only [PU]
   repeat (first | (refine wpE_q (v := ?_) rfl rfl (fun u hu => ?_) ?_; rotate_left 1; (focus (have kp := q1b hu bp; have ke := q1b hu be; have kr := q1b hu br; go_simp; (try rfl))); simp only [PU]) | (refine wpE_qs rfl rfl ?_; simp only [PU]))
   refine wpE_ls (Ext.refl _) rfl rfl ?_
   simp only [PU]
   refine wpE_ls (Ext.refl _) rfl rfl ?_
   simp only [PU]
   repeat (first | (refine wpE_q (v := ?_) rfl rfl (fun u hu => ?_) ?_; rotate_left 1; (focus (have kp := q1b hu bp; have ke := q1b hu be; have kr := q1b hu br; go_simp; (try rfl))); simp only [PU]) | (refine wpE_qs rfl rfl ?_; simp only [PU]))
   refine wpE_done ?_
   go_wp2_with fail
   go_ret
   exact ⟨rfl, HE⟩
 · cases b1
   · go_enter Tryz.func85, Tryz.ntmps85
     go_wp2_with fail
     refine absW (fun x41 hx41 => ?_)
     have hx : Ext w x41 := by rw [hx41]; exact ((((Ext.refl _).alloc _).alloc _).alloc _)
     have bp : Bl x41 (w.heap.size) #[.int .i64 ax, .int .i64 ay, .int .i64 ex, .int .i64 ey] := by rw [hx41]; exact (((Bl.new (by simp)).alloc (by simp)).alloc (by simp))
     have be : Bl x41 (w.heap.size + 1) #[.bool bx1, .slice ax1 nx1 cx1, .slice dx1 mx1 kx1, .bool by1, .slice ay1 ny1 cy1, .slice dy1 my1 ky1, .bool bx2, .slice ax2 nx2 cx2, .slice dx2 mx2 kx2, .bool by2, .slice ay2 ny2 cy2, .slice dy2 my2 ky2] := by rw [hx41]; exact ((Bl.new (by simp)).alloc (by simp))
     have br : Bl x41 (w.heap.size + 1 + 1) #[.bool b, .slice a n c, .slice d m k, .bool b', .slice a' n' c', .slice d' m' k'] := by rw [hx41]; exact (Bl.new (by simp))
     have HE := hx
     clear hx
     clear hx41
     refine wp_region_plan (R := Ext) (.q 0 (.q 1 (.q 2 (.q 3 (.q 4 (.q 5 (.l 6 (.q 7 (.q 8 (.q 9 (.q 10 (.q 12 (.l 11 (.l 13 (.q 14 (.q 15 (.q 16 (.q 17 (.q 18 (.q 20 (.l 19 (.l 21 (.q 22 (.q 23 (.q 24 .done))))))))))))))))))))))))) (by kernel_rfl) (by kernel_rfl) (by kernel_rfl) (by kernel_rfl) Ext.refl (fun _ _ _ => Ext.trans) ?_
     refine absE (fun x42 hx42 => ?_)
     have hx : Ext x41 x42 := by rw [hx42]; exact (Ext.refl _).drew
     replace bp := q1b hx bp
     replace be := q1b hx be
     replace br := q1b hx br
     replace HE := HE.trans hx
     clear hx
     clear hx42
     repeat (refine wpE_q (v := ?_) rfl rfl (fun u hu => ?_) ?_; rotate_left 1; (focus (have kp := q1b hu bp; have ke := q1b hu be; have kr := q1b hu br; go_simp; (try rfl))); simp only [PU])
     refine wpE_l rfl rfl (fun K hK => ?_)
     go_simp
     refine (C5.out _ (X1.out.ext HE) (Y1.out.ext HE)).mono ?_
     rintro e u9 ⟨rfl, hx⟩
     refine hK.out _ _ hx ?_
     clear hK K
     try simp only [PU]
     replace bp := q1b hx bp
     replace be := q1b hx be
     replace br := q1b hx br
     replace HE := HE.trans hx
     clear hx
     repeat (refine wpE_q (v := ?_) rfl rfl (fun u hu => ?_) ?_; rotate_left 1; (focus (have kp := q1b hu bp; have ke := q1b hu be; have kr := q1b hu br; go_simp; (try rfl))); simp only [PU])
     refine wpE_l rfl rfl (fun K hK => ?_)
     go_simp
     refine (I1.out _).mono ?_
     rintro e u1 ⟨a1, n1, c1, d1, m1, k1, a2, n2, c2, d2, m2, k2, rfl, hs1, ht1, hs2, ht2, hx⟩
     refine hK.out _ _ hx ?_
     clear hK K
     try simp only [PU]
     replace bp := q1b hx bp
     replace be := q1b hx be
     replace br := q1b hx br
     replace HE := HE.trans hx
     clear hx
     refine wpE_l rfl rfl (fun K hK => ?_)
     go_simp
     refine (S1.out _ (fq_of hs1 ht1 L1.out (by omega)) (fq_of hs2 ht2 L2.out (by omega)) (HX.out.ext HE) (HY.out.ext HE)).mono ?_
     rintro e u8 ⟨rfl, hx⟩
     refine hK.out _ _ hx ?_
     clear hK K
     try simp only [PU]
     replace bp := q1b hx bp
     replace be := q1b hx be
     replace br := q1b hx br
     replace hs1 := hs1.ext hx
     replace ht1 := ht1.ext hx
     replace hs2 := hs2.ext hx
     replace ht2 := ht2.ext hx
     replace HE := HE.trans hx
     clear hx
     repeat (refine wpE_q (v := ?_) rfl rfl (fun u hu => ?_) ?_; rotate_left 1; (focus (have kp := q1b hu bp; have ke := q1b hu be; have kr := q1b hu br; go_simp; (try rfl))); simp only [PU])
     refine wpE_l rfl rfl (fun K hK => ?_)
     go_simp
     refine (I2.out _).mono ?_
     rintro e u2 ⟨a3, n3, c3, d3, m3, k3, a4, n4, c4, d4, m4, k4, rfl, hs3, ht3, hs4, ht4, hx⟩
     refine hK.out _ _ hx ?_
     clear hK K
     try simp only [PU]
     replace bp := q1b hx bp
     replace be := q1b hx be
     replace br := q1b hx br
     replace hs1 := hs1.ext hx
     replace ht1 := ht1.ext hx
     replace hs2 := hs2.ext hx
     replace ht2 := ht2.ext hx
     replace HE := HE.trans hx
     clear hx
     refine wpE_l rfl rfl (fun K hK => ?_)
     go_simp
     refine (S2.out _ (fq_of hs3 ht3 L3.out (by omega)) (fq_of hs4 ht4 L4.out (by omega)) (HX.out.ext HE) (HY.out.ext HE)).mono ?_
     rintro e u7 ⟨rfl, hx⟩
     refine hK.out _ _ hx ?_
     clear hK K
     try simp only [PU]
     replace bp := q1b hx bp
     replace be := q1b hx be
     replace br := q1b hx br
     replace hs1 := hs1.ext hx
     replace ht1 := ht1.ext hx
     replace hs2 := hs2.ext hx
     replace ht2 := ht2.ext hx
     replace hs3 := hs3.ext hx
     replace ht3 := ht3.ext hx
     replace hs4 := hs4.ext hx
     replace ht4 := ht4.ext hx
     replace HE := HE.trans hx
     clear hx
     repeat (refine wpE_q (v := ?_) rfl rfl (fun u hu => ?_) ?_; rotate_left 1; (focus (have kp := q1b hu bp; have ke := q1b hu be; have kr := q1b hu br; go_simp; (try rfl))); simp only [PU])
     refine wpE_done ?_
     go_wp2_with fail
     go_ret
     exact ⟨rfl, HE⟩
   go_enter Tryz.func85, Tryz.ntmps85
   go_wp2_with fail
   refine absW (fun x41 hx41 => ?_)
   have hx : Ext w x41 := by rw [hx41]; exact ((((Ext.refl _).alloc _).alloc _).alloc _)
   have bp : Bl x41 (w.heap.size) #[.int .i64 ax, .int .i64 ay, .int .i64 ex, .int .i64 ey] := by rw [hx41]; exact (((Bl.new (by simp)).alloc (by simp)).alloc (by simp))
   have be : Bl x41 (w.heap.size + 1) #[.bool bx1, .slice ax1 nx1 cx1, .slice dx1 mx1 kx1, .bool by1, .slice ay1 ny1 cy1, .slice dy1 my1 ky1, .bool bx2, .slice ax2 nx2 cx2, .slice dx2 mx2 kx2, .bool by2, .slice ay2 ny2 cy2, .slice dy2 my2 ky2] := by rw [hx41]; exact ((Bl.new (by simp)).alloc (by simp))
   have br : Bl x41 (w.heap.size + 1 + 1) #[.bool b, .slice a n c, .slice d m k, .bool b', .slice a' n' c', .slice d' m' k'] := by rw [hx41]; exact (Bl.new (by simp))
   have HE := hx
   clear hx
   clear hx41
   refine wp_region_plan (R := Ext) (.q 0 (.q 1 (.q 2 (.q 3 (.q 4 (.q 5 (.l 6 (.q 7 (.q 8 (.q 9 (.q 10 (.q 12 (.l 11 (.l 13 (.q 14 (.q 15 (.q 16 (.q 17 (.q 18 (.q 20 (.l 19 (.l 21 (.q 22 (.q 23 (.q 24 .done))))))))))))))))))))))))) (by kernel_rfl) (by kernel_rfl) (by kernel_rfl) (by kernel_rfl) Ext.refl (fun _ _ _ => Ext.trans) ?_
   refine absE (fun x42 hx42 => ?_)
   have hx : Ext x41 x42 := by rw [hx42]; exact (Ext.refl _).drew
   replace bp := q1b hx bp
   replace be := q1b hx be
   replace br := q1b hx br
   replace HE := HE.trans hx
   clear hx
   clear hx42
   repeat (first | (refine wpE_q (v := ?_) rfl rfl (fun u hu => ?_) ?_; rotate_left 1; (focus (have kp := q1b hu bp; have ke := q1b hu be; have kr := q1b hu br; go_simp; (try rfl))); simp only [PU]) | (refine wpE_qs rfl rfl ?_; simp only [PU]))
   refine wpE_l rfl rfl (fun K hK => ?_)
   go_simp
   refine (C5.out _ (X1.out.ext HE) (Y1.out.ext HE)).mono ?_
   rintro e u9 ⟨rfl, hx⟩
   refine hK.out _ _ hx ?_
   clear hK K
   try simp only [PU]
   replace bp := q1b hx bp
   replace be := q1b hx be
   replace br := q1b hx br
   replace HE := HE.trans hx
   clear hx
   repeat (first | (refine wpE_q (v := ?_) rfl rfl (fun u hu => ?_) ?_; rotate_left 1; (focus (have kp := q1b hu bp; have ke := q1b hu be; have kr := q1b hu br; go_simp; (try rfl))); simp only [PU]) | (refine wpE_qs rfl rfl ?_; simp only [PU]))
   refine wpE_l rfl rfl (fun K hK => ?_)
   go_simp
   refine (I1.out _).mono ?_
   rintro e u1 ⟨a1, n1, c1, d1, m1, k1, a2, n2, c2, d2, m2, k2, rfl, hs1, ht1, hs2, ht2, hx⟩
   refine hK.out _ _ hx ?_
   clear hK K
   try simp only [PU]
   replace bp := q1b hx bp
   replace be := q1b hx be
   replace br := q1b hx br
   replace HE := HE.trans hx
   clear hx
   refine wpE_l rfl rfl (fun K hK => ?_)
   go_simp
   refine (S1.out _ (fq_of hs1 ht1 L1.out (by omega)) (fq_of hs2 ht2 L2.out (by omega)) (HX.out.ext HE) (HY.out.ext HE)).mono ?_
   rintro e u8 ⟨rfl, hx⟩
   refine hK.out _ _ hx ?_
   clear hK K
   try simp only [PU]
   replace bp := q1b hx bp
   replace be := q1b hx be
   replace br := q1b hx br
   replace hs1 := hs1.ext hx
   replace ht1 := ht1.ext hx
   replace hs2 := hs2.ext hx
   replace ht2 := ht2.ext hx
   replace HE := HE.trans hx
   clear hx
   repeat (first | (refine wpE_q (v := ?_) rfl rfl (fun u hu => ?_) ?_; rotate_left 1; (focus (have kp := q1b hu bp; have ke := q1b hu be; have kr := q1b hu br; go_simp; (try rfl))); simp only [PU]) | (refine wpE_qs rfl rfl ?_; simp only [PU]))
   refine wpE_ls (Ext.refl _) rfl rfl ?_
   simp only [PU]
   refine wpE_ls (Ext.refl _) rfl rfl ?_
   simp only [PU]
   repeat (first | (refine wpE_q (v := ?_) rfl rfl (fun u hu => ?_) ?_; rotate_left 1; (focus (have kp := q1b hu bp; have ke := q1b hu be; have kr := q1b hu br; go_simp; (try rfl))); simp only [PU]) | (refine wpE_qs rfl rfl ?_; simp only [PU]))
   refine wpE_done ?_
   go_wp2_with fail
   go_ret
   exact ⟨rfl, HE⟩
 go_enter Tryz.func85, Tryz.ntmps85
 go_wp2_with fail
 refine absW (fun x41 hx41 => ?_)
 have hx : Ext w x41 := by rw [hx41]; exact ((((Ext.refl _).alloc _).alloc _).alloc _)
 have bp : Bl x41 (w.heap.size) #[.int .i64 ax, .int .i64 ay, .int .i64 ex, .int .i64 ey] := by rw [hx41]; exact (((Bl.new (by simp)).alloc (by simp)).alloc (by simp))
 have be : Bl x41 (w.heap.size + 1) #[.bool bx1, .slice ax1 nx1 cx1, .slice dx1 mx1 kx1, .bool by1, .slice ay1 ny1 cy1, .slice dy1 my1 ky1, .bool bx2, .slice ax2 nx2 cx2, .slice dx2 mx2 kx2, .bool by2, .slice ay2 ny2 cy2, .slice dy2 my2 ky2] := by rw [hx41]; exact ((Bl.new (by simp)).alloc (by simp))
 have br : Bl x41 (w.heap.size + 1 + 1) #[.bool b, .slice a n c, .slice d m k, .bool b', .slice a' n' c', .slice d' m' k'] := by rw [hx41]; exact (Bl.new (by simp))
 have HE := hx
 clear hx
 clear hx41
 refine wp_region_plan (R := Ext) (.q 0 (.q 1 (.q 2 (.q 3 (.q 4 (.q 5 (.l 6 (.q 7 (.q 8 (.q 9 (.q 10 (.q 12 (.l 11 (.l 13 (.q 14 (.q 15 (.q 16 (.q 17 (.q 18 (.q 20 (.l 19 (.l 21 (.q 22 (.q 23 (.q 24 .done))))))))))))))))))))))))) (by kernel_rfl) (by kernel_rfl) (by kernel_rfl) (by kernel_rfl) Ext.refl (fun _ _ _ => Ext.trans) ?_
 refine absE (fun x42 hx42 => ?_)
 have hx : Ext x41 x42 := by rw [hx42]; exact (Ext.refl _).drew
 replace bp := q1b hx bp
 replace be := q1b hx be
 replace br := q1b hx br
 replace HE := HE.trans hx
 clear hx
 clear hx42
 repeat (first | (refine wpE_q (v := ?_) rfl rfl (fun u hu => ?_) ?_; rotate_left 1; (focus (have kp := q1b hu bp; have ke := q1b hu be; have kr := q1b hu br; go_simp; (try rfl))); simp only [PU]) | (refine wpE_qs rfl rfl ?_; simp only [PU]))
 refine wpE_l rfl rfl (fun K hK => ?_)
 go_simp
 refine (C5.out _ (X1.out.ext HE) (Y1.out.ext HE)).mono ?_
 rintro e u9 ⟨rfl, hx⟩
 refine hK.out _ _ hx ?_
 clear hK K
 try simp only [PU]
 replace bp := q1b hx bp
 replace be := q1b hx be
 replace br := q1b hx br
 replace HE := HE.trans hx
 clear hx
 repeat (first | (refine wpE_q (v := ?_) rfl rfl (fun u hu => ?_) ?_; rotate_left 1; (focus (have kp := q1b hu bp; have ke := q1b hu be; have kr := q1b hu br; go_simp; (try rfl))); simp only [PU]) | (refine wpE_qs rfl rfl ?_; simp only [PU]))
 refine wpE_ls (Ext.refl _) rfl rfl ?_
 simp only [PU]
 refine wpE_ls (Ext.refl _) rfl rfl ?_
 simp only [PU]
 repeat (first | (refine wpE_q (v := ?_) rfl rfl (fun u hu => ?_) ?_; rotate_left 1; (focus (have kp := q1b hu bp; have ke := q1b hu be; have kr := q1b hu br; go_simp; (try rfl))); simp only [PU]) | (refine wpE_qs rfl rfl ?_; simp only [PU]))
 refine wpE_ls (Ext.refl _) rfl rfl ?_
 simp only [PU]
 refine wpE_ls (Ext.refl _) rfl rfl ?_
 simp only [PU]
 repeat (first | (refine wpE_q (v := ?_) rfl rfl (fun u hu => ?_) ?_; rotate_left 1; (focus (have kp := q1b hu bp; have ke := q1b hu be; have kr := q1b hu br; go_simp; (try rfl))); simp only [PU]) | (refine wpE_qs rfl rfl ?_; simp only [PU]))
 refine wpE_done ?_
 go_wp2_with fail
 go_ret
 exact ⟨rfl, HE⟩
set_option maxRecDepth 100000 in
set_option maxHeartbeats 4000000 in
theorem tu_g1 {b b' : Bool} {a d a' d' : Option Addr} {n c m k n' c' m' k' : Nat} {r : Rat} {N : Nat} (P : Nat) (z : Int) (w : World) (hb : Bl w P #[.bool b, .slice a n c, .slice d m k, .bool b', .slice a' n' c', .slice d' m' k']) (hy : Fq w b' a' n' c' d' m' k' r N) (hN : N ≤ 17179869184) (z1 : -8388607 ≤ z) (z2 : z ≤ 8388607) :
    Calls Tryz.prog 83 #[.int .i64 z, .pointer (some ⟨P, 0, none⟩)] w fun e w' => e = .returned (.bool (decide ((z : Rat) ≤ r))) ∧ Ext w w' := by
  have C1 := hidP (tu_upTo z w hy (by omega) (by omega) (by omega))
  have k3 : w.cell? ⟨P, 3, none⟩ = some (.bool b') := hb 3
  have k4 : w.cell? ⟨P, 4, none⟩ = some (.slice a' n' c') := hb 4
  have k5 : w.cell? ⟨P, 5, none⟩ = some (.slice d' m' k') := hb 5
  clear hy hb
  go_enter Tryz.func83, Tryz.ntmps83
  go_wp2_with fail
  refine C1.out.mono ?_
  rintro e u1 ⟨rfl, hx⟩
  go_wp2_with fail
  go_ret
  exact ⟨rfl, hx⟩
set_option maxRecDepth 100000 in
set_option maxHeartbeats 4000000 in
theorem tu_g2 {b b' : Bool} {a d a' d' : Option Addr} {n c m k n' c' m' k' : Nat} {r : Rat} {N : Nat} (P : Nat) (z : Int) (w : World) (hb : Bl w P #[.bool b, .slice a n c, .slice d m k, .bool b', .slice a' n' c', .slice d' m' k']) (hy : Fq w b' a' n' c' d' m' k' r N) (hN : N ≤ 17179869184) (z1 : -8388607 ≤ z) (z2 : z ≤ 8388607) :
    Calls Tryz.prog 84 #[.int .i64 z, .pointer (some ⟨P, 0, none⟩)] w fun e w' => e = .returned (.bool (decide ((z : Rat) < r))) ∧ Ext w w' := by
  have C1 := hidP (tu_below z w hy (by omega) (by omega) (by omega))
  have k3 : w.cell? ⟨P, 3, none⟩ = some (.bool b') := hb 3
  have k4 : w.cell? ⟨P, 4, none⟩ = some (.slice a' n' c') := hb 4
  have k5 : w.cell? ⟨P, 5, none⟩ = some (.slice d' m' k') := hb 5
  clear hy hb
  go_enter Tryz.func84, Tryz.ntmps84
  go_wp2_with fail
  refine C1.out.mono ?_
  rintro e u1 ⟨rfl, hx⟩
  go_wp2_with fail
  go_ret
  exact ⟨rfl, hx⟩
set_option maxRecDepth 100000 in
set_option maxHeartbeats 4000000 in
theorem tu_addC (C i : Nat) (s v : Int) (w : World) (k0 : w.cell? ⟨C, i, none⟩ = some (.int .i64 s)) (f0 : w.frozen? ⟨C, i, none⟩ = false) (s1 : -4611686018427387904 ≤ s) (s2 : s ≤ 4611686018427387904) (i1 : -1 ≤ v) (i2 : v ≤ 1) :
    Calls Tryz.prog 39 #[.pointer (some ⟨C, i, none⟩), .int .i64 v] w fun e w' => (∃ u, e = .returned u) ∧ w' = w.setCell ⟨C, i, none⟩ (.int .i64 (s + v)) := by
  go_enter Tryz.func39, Tryz.ntmps39
  go_wp2_with fail
  go_end0
  exact ⟨⟨_, rfl⟩, rfl⟩
/-- How a way goes past a height. -/
def upS (st : Bool) (r : Rat) (g : Sg) : Int := if st = true then upF (decide ((g.1.2 : Rat) < r)) (decide ((g.2.2 : Rat) < r)) else upF (decide ((g.1.2 : Rat) ≤ r)) (decide ((g.2.2 : Rat) ≤ r))
def cntS (st : Bool) (q r : Rat) (g : Sg) : Int := passF (upS st r g) (sideR (g.1.1 : Rat) (g.1.2 : Rat) (g.2.1 : Rat) (g.2.2 : Rat) q r)
theorem upF_bd (a b : Bool) : -1 ≤ upF a b ∧ upF a b ≤ 1 := by cases a <;> cases b <;> decide
theorem upS_bd (st : Bool) (r : Rat) (g : Sg) : -1 ≤ upS st r g ∧ upS st r g ≤ 1 := by
  unfold upS
  split <;> exact upF_bd _ _
theorem cntS_bd (st : Bool) (q r : Rat) (g : Sg) : -1 ≤ cntS st q r g ∧ cntS st q r g ≤ 1 := by
  unfold cntS passF
  have := upS_bd st r g
  split <;> omega
def alS (x y q r : Rat) (g : Sg) : Bool := alR g.1.1 g.1.2 g.2.1 g.2.2 x y q r
/-- The turns on both sides of an edge, at a spot. -/
def gathF (x y q r : Rat) (lv : Bool) : List Sg → Int → Int → Int × Int × Bool
  | [], s, t => (s, t, true)
  | g :: l, s, t => if mayS g = false ∨ g.1 = g.2 then gathF x y q r lv l s t else if onS q r g = false then gathF x y q r lv l (s + cntS false q r g) (t + cntS lv q r g)
      else if alS x y q r g = false then (0, 0, false) else if lv = false then gathF x y q r lv l (s + upS false r g) t else gathF x y q r lv l s t
theorem gathF_drop {x y q r : Rat} {lv : Bool} {l : List Sg} {j : Nat} {s t : Int} (h : j < l.length) : gathF x y q r lv (l.drop j) s t = if mayS l[j] = false ∨ l[j].1 = l[j].2 then gathF x y q r lv (l.drop (j + 1)) s t else if onS q r l[j] = false then gathF x y q r lv (l.drop (j + 1)) (s + cntS false q r l[j]) (t + cntS lv q r l[j])
      else if alS x y q r l[j] = false then (0, 0, false) else if lv = false then gathF x y q r lv (l.drop (j + 1)) (s + upS false r l[j]) t else gathF x y q r lv (l.drop (j + 1)) s t := by
  rw [List.drop_eq_getElem_cons h]
  rfl
set_option maxRecDepth 100000 in
set_option maxHeartbeats 16000000 in
theorem tu_gather {bx1 by1 : Bool} {ax1 dx1 ay1 dy1 : Option Addr} {nx1 cx1 mx1 kx1 ny1 cy1 my1 ky1 : Nat} {x1 y1 : Rat} {bx2 by2 : Bool} {ax2 dx2 ay2 dy2 : Option Addr} {nx2 cx2 mx2 kx2 ny2 cy2 my2 ky2 : Nat} {x2 y2 : Rat} {b b' : Bool} {a d a' d' : Option Addr} {n c m k n' c' m' k' : Nat} {q r : Rat} {N : Nat} (sa : Option Addr) (sn sc : Nat) (l : List Sg) (w : World) (h : SlG w sa sn sc l) (hx1 : Fq w bx1 ax1 nx1 cx1 dx1 mx1 kx1 x1 N) (hy1 : Fq w by1 ay1 ny1 cy1 dy1 my1 ky1 y1 N) (hx2 : Fq w bx2 ax2 nx2 cx2 dx2 mx2 kx2 x2 N) (hy2 : Fq w by2 ay2 ny2 cy2 dy2 my2 ky2 y2 N) (hx : Fq w b a n c d m k q N) (hy : Fq w b' a' n' c' d' m' k' r N) (hN : N ≤ 17179869184) (hN1 : 2 ≤ N) (hsn : sn ≤ 4194304) :
    Calls Tryz.prog 45 #[.slice sa sn sc, .agg #[.bool bx1, .slice ax1 nx1 cx1, .slice dx1 mx1 kx1, .bool by1, .slice ay1 ny1 cy1, .slice dy1 my1 ky1, .bool bx2, .slice ax2 nx2 cx2, .slice dx2 mx2 kx2, .bool by2, .slice ay2 ny2 cy2, .slice dy2 my2 ky2], .agg #[.bool b, .slice a n c, .slice d m k, .bool b', .slice a' n' c', .slice d' m' k']] w fun e w' => e = .returned (.tuple #[.agg #[.int .i64 (gathF x1 y1 q r (cmpQ y1 y2 == 0) l 0 0).1, .int .i64 (gathF x1 y1 q r (cmpQ y1 y2 == 0) l 0 0).2.1], .bool (gathF x1 y1 q r (cmpQ y1 y2 == 0) l 0 0).2.2]) ∧ Ext w w' := by
 have H := hidP h; have HX := hidP hx; have HY := hidP hy; have X1 := hidP hx1; have Y1 := hidP hy1; have Y2 := hidP hy2
 have HLN := hidP h.len
 have hcap : sn ≤ maxLen := Nat.le_trans h.2.1 h.2.2.1
 unfold maxLen at hcap
 have C1 := hidP (fun u (t1 : Fq u by1 ay1 ny1 cy1 dy1 my1 ky1 y1 N) (t2 : Fq u by2 ay2 ny2 cy2 dy2 my2 ky2 y2 N) => fq_Cmp t1 t2 (by omega) (by omega))
 have HCS := hidP (fun (st : Bool) (g : Sg) => cntS_bd st q r g)
 have HUS := hidP (fun (st : Bool) (g : Sg) => upS_bd st r g)
 have HMY := hidP (fun (g : Sg) u => tu_may g.1.1 g.1.2 g.2.1 g.2.2 u)
 have cf1 := cf2_enters Tryz.func83 (by kernel_rfl) (by kernel_rfl)
 have HCF1 := hidP cf1
 have cf2 := cf2_enters Tryz.func84 (by kernel_rfl) (by kernel_rfl)
 have HCF2 := hidP cf2
 have hmf : ∀ (fn : Fn) (first cap : Array Value) (w : World), (Instr.makeFunc fn first cap).run Tryz.prog w = .ok (.func fn first cap) w := fun _ _ _ _ => rfl
 have HON := hidP (fun (g : Sg) (hg : mayS g = true) u (t1 : Fq u b a n c d m k q N) (t2 : Fq u b' a' n' c' d' m' k' r N) => by
  unfold mayS at hg
  have hg' := Bool.and_eq_true_iff.1 hg
  have g1 := fitP_iff.1 hg'.1; have g2 := fitP_iff.1 hg'.2
  exact tu_on g.1.1 g.1.2 g.2.1 g.2.2 u t1 t2 hN hN1 g1.1.1 g1.1.2 g1.2.1 g1.2.2 g2.1.1 g2.1.2 g2.2.1 g2.2.2)
 have HPS := hidP (fun (g : Sg) (hg : mayS g = true) u (P : Nat) (t0 : Bl u P #[.bool b, .slice a n c, .slice d m k, .bool b', .slice a' n' c', .slice d' m' k']) (t1 : Fq u b a n c d m k q N) (t2 : Fq u b' a' n' c' d' m' k' r N) => by
  unfold mayS at hg
  have hg' := Bool.and_eq_true_iff.1 hg
  have g1 := fitP_iff.1 hg'.1; have g2 := fitP_iff.1 hg'.2
  exact tu_passes 83 P (fun z => decide ((z : Rat) ≤ r)) g.1.1 g.1.2 g.2.1 g.2.2 u HCF1.out (fun z v hv z1 z2 => tu_g1 P z v (q1b hv t0) (t2.ext hv) hN z1 z2) t1 t2 hN hN1 g1.1.1 g1.1.2 g1.2.1 g1.2.2 g2.1.1 g2.1.2 g2.2.1 g2.2.2)
 have HPT := hidP (fun (g : Sg) (hg : mayS g = true) u (P : Nat) (t0 : Bl u P #[.bool b, .slice a n c, .slice d m k, .bool b', .slice a' n' c', .slice d' m' k']) (t1 : Fq u b a n c d m k q N) (t2 : Fq u b' a' n' c' d' m' k' r N) => by
  unfold mayS at hg
  have hg' := Bool.and_eq_true_iff.1 hg
  have g1 := fitP_iff.1 hg'.1; have g2 := fitP_iff.1 hg'.2
  exact tu_passes 84 P (fun z => decide ((z : Rat) < r)) g.1.1 g.1.2 g.2.1 g.2.2 u HCF2.out (fun z v hv z1 z2 => tu_g2 P z v (q1b hv t0) (t2.ext hv) hN z1 z2) t1 t2 hN hN1 g1.1.1 g1.1.2 g1.2.1 g1.2.2 g2.1.1 g2.1.2 g2.2.1 g2.2.2)
 have HUP := hidP (fun (g : Sg) (hg : mayS g = true) u (P : Nat) (t0 : Bl u P #[.bool b, .slice a n c, .slice d m k, .bool b', .slice a' n' c', .slice d' m' k']) (t2 : Fq u b' a' n' c' d' m' k' r N) => by
  unfold mayS at hg
  have hg' := Bool.and_eq_true_iff.1 hg
  have g1 := fitP_iff.1 hg'.1; have g2 := fitP_iff.1 hg'.2
  exact tu_upward 83 P (fun z => decide ((z : Rat) ≤ r)) g.1.1 g.1.2 g.2.1 g.2.2 u HCF1.out (fun z v hv z1 z2 => tu_g1 P z v (q1b hv t0) (t2.ext hv) hN z1 z2) g1.1.1 g1.1.2 g1.2.1 g1.2.2 g2.1.1 g2.1.2 g2.2.1 g2.2.2)
 have HAL := hidP (fun (g : Sg) (hg : mayS g = true) u (s1 : Fq u bx1 ax1 nx1 cx1 dx1 mx1 kx1 x1 N) (s2 : Fq u by1 ay1 ny1 cy1 dy1 my1 ky1 y1 N) (t1 : Fq u b a n c d m k q N) (t2 : Fq u b' a' n' c' d' m' k' r N) => by
  unfold mayS at hg
  have hg' := Bool.and_eq_true_iff.1 hg
  have g1 := fitP_iff.1 hg'.1; have g2 := fitP_iff.1 hg'.2
  exact tu_along (x2 := x2) (y2 := y2) (bx2 := bx2) (by2 := by2) (ax2 := ax2) (dx2 := dx2) (ay2 := ay2) (dy2 := dy2) (nx2 := nx2) (cx2 := cx2) (mx2 := mx2) (kx2 := kx2) (ny2 := ny2) (cy2 := cy2) (my2 := my2) (ky2 := ky2) g.1.1 g.1.2 g.2.1 g.2.2 u s1 s2 t1 t2 hN hN1 g1.1.1 g1.1.2 g1.2.1 g1.2.2 g2.1.1 g2.1.2 g2.2.1 g2.2.2)
 clear h hx hy hx1 hy1 hx2 hy2
 generalize (cmpQ y1 y2) = cc at *
 cases hlv : (cc == 0)
 · have HST := hidP (fun (j : Nat) (s t : Int) (hj : j < l.length) => gathF_drop (x := x1) (y := y1) (q := q) (r := r) (lv := false) (s := s) (t := t) hj)
   have HJ0 : Hid (gathF x1 y1 q r false (l.drop 0) 0 0 = gathF x1 y1 q r false l 0 0) := hidP rfl
   generalize gathF x1 y1 q r false l 0 0 = R at *
   obtain ⟨R1, R2, R3⟩ := R
   go_enter Tryz.func45, Tryz.ntmps45
   go_wp2_with fail
   refine absC (fun x41 hx41 => ?_)
   have hx : Ext w x41 := by rw [hx41]; exact (((((Ext.refl _).alloc _).alloc _).alloc _).alloc _)
   have be : Bl x41 (w.heap.size) #[.bool bx1, .slice ax1 nx1 cx1, .slice dx1 mx1 kx1, .bool by1, .slice ay1 ny1 cy1, .slice dy1 my1 ky1, .bool bx2, .slice ax2 nx2 cx2, .slice dx2 mx2 kx2, .bool by2, .slice ay2 ny2 cy2, .slice dy2 my2 ky2] := by rw [hx41]; exact ((((Bl.new (by simp)).alloc (by simp)).alloc (by simp)).alloc (by simp))
   have bp : Bl x41 (w.heap.size + 1) #[.bool b, .slice a n c, .slice d m k, .bool b', .slice a' n' c', .slice d' m' k'] := by rw [hx41]; exact (((Bl.new (by simp)).alloc (by simp)).alloc (by simp))
   have bo : Bl x41 (w.heap.size + 1 + 1) #[.int .i64 0, .int .i64 0] := by rw [hx41]; exact ((Bl.new (by simp)).alloc (by simp))
   have fo : Fz x41 (w.heap.size + 1 + 1) := by rw [hx41]; exact ((Fz.new (by simp)).alloc (Bl.new (by simp)) (by simp))
   have bc : Bl x41 (w.heap.size + 1 + 1 + 1) #[.int .i64 0, .int .i64 0] := by rw [hx41]; exact (Bl.new (by simp))
   have fc : Fz x41 (w.heap.size + 1 + 1 + 1) := by rw [hx41]; exact (Fz.new (by simp))
   have HE := hx
   clear hx
   clear hx41
   refine (C1.out _ (Y1.out.ext HE) (Y2.out.ext HE)).mono ?_
   rintro e u1 ⟨rfl, hx⟩
   replace be := q1b hx be
   replace bp := q1b hx bp
   replace fo := q1f hx fo bo
   replace bo := q1b hx bo
   replace fc := q1f hx fc bc
   replace bc := q1b hx bc
   replace HE := HE.trans hx
   clear hx
   go_wp2_with fail
   go_loopw [28] (fun iv wr => ∃ (j : Nat) (s t : Int), j ≤ sn ∧ iv = .int .i64 (j : Int) ∧ -(j : Int) ≤ s ∧ s ≤ (j : Int) ∧ -(j : Int) ≤ t ∧ t ≤ (j : Int) ∧ Bl wr w.heap.size #[.bool bx1, .slice ax1 nx1 cx1, .slice dx1 mx1 kx1, .bool by1, .slice ay1 ny1 cy1, .slice dy1 my1 ky1, .bool bx2, .slice ax2 nx2 cx2, .slice dx2 mx2 kx2, .bool by2, .slice ay2 ny2 cy2, .slice dy2 my2 ky2] ∧ Bl wr (w.heap.size + 1) #[.bool b, .slice a n c, .slice d m k, .bool b', .slice a' n' c', .slice d' m' k'] ∧ Bl wr (w.heap.size + 1 + 1) #[.int .i64 0, .int .i64 0] ∧ Fz wr (w.heap.size + 1 + 1) ∧ Bl wr (w.heap.size + 1 + 1 + 1) #[.int .i64 s, .int .i64 t] ∧ Fz wr (w.heap.size + 1 + 1 + 1) ∧ Hid (gathF x1 y1 q r false (l.drop j) s t = (R1, R2, R3)) ∧ Ext w wr) (fun iv _ => sn - (intOf iv).toNat)
   case atStart => exact ⟨0, 0, 0, by omega, rfl, by omega, by omega, by omega, by omega, be, bp, bo, fo, bc, fc, HJ0, HE⟩
   clear HE be bp bo fo bc fc HJ0
   obtain ⟨j, s, t, hj, rfl, s1, s2, t1, t2, be, bp, bo, fo, bc, fc, HJ, HE⟩ := hrel
   have ltc : w.heap.size + 1 + 1 + 1 < wr.heap.size := bc.lt (Nat.succ_pos _)
   by_cases hlt : j < sn
   · obtain ⟨g, off, rfl, hc⟩ := (H.out.ext HE).at (by omega)
     have hjl : j < l.length := by rw [HLN.out]; exact hlt
     obtain ⟨c0, c1, c2, c3⟩ := hc j hjl
     have hst := HST.out j s t hjl
     rw [HJ.out] at hst
     clear hc HJ
     have hmy := HMY.out l[j]
     have hon := HON.out l[j]
     have hps := HPS.out l[j]
     have hpt := HPS.out l[j]
     have hup := HUP.out l[j]
     have hal := HAL.out l[j]
     have hc1 := HCS.out false l[j]
     have hc2 := HCS.out false l[j]
     have hc3 := HUS.out false l[j]
     generalize l[j] = G at *
     change ∀ u, Calls _ _ _ u (fun e w' => e = .returned (.bool (mayS G)) ∧ Ext u w') at hmy
     change ∀ _ u _ _, Calls _ _ _ u (fun e w' => e = .returned (.bool (onS q r G)) ∧ Ext u w') at hon
     change ∀ _ u _ _ _ _, Calls _ _ _ u (fun e w' => e = .returned (.int .i64 (cntS false q r G)) ∧ Ext u w') at hps
     change ∀ _ u _ _ _ _, Calls _ _ _ u (fun e w' => e = .returned (.int .i64 (cntS false q r G)) ∧ Ext u w') at hpt
     change ∀ _ u _ _ _, Calls _ _ _ u (fun e w' => e = .returned (.int .i64 (upS false r G)) ∧ Ext u w') at hup
     change ∀ _ u _ _ _ _, Calls _ _ _ u (fun e w' => e = .returned (.bool (alS x1 y1 q r G)) ∧ Ext u w') at hal
     generalize hcn : cntS false q r G = cn at *
     skip
     clear hcn
     generalize upS false r G = cu at *
     generalize onS q r G = on at *
     generalize alS x1 y1 q r G = al at *
     generalize mayS G = ms at *
     obtain ⟨⟨ax, ay⟩, ⟨ex, ey⟩⟩ := G
     simp only [] at c0 c1 c2 c3 hmy hon hps hpt hup hal hst
     have HMY1 := hidP hmy; have HON1 := hidP hon; have HPS1 := hidP hps; have HPT1 := hidP hpt; have HUP1 := hidP hup; have HAL1 := hidP hal
     clear hmy hon hps hpt hup hal
     go_upto_region 10 with fail
     refine absW (fun x61 hx61 => ?_)
     have hx : Ext wr x61 := by rw [hx61]; exact ((Ext.refl _).alloc _)
     have bt : Bl x61 (wr.heap.size) #[.int .i64 ax, .int .i64 ay, .int .i64 ex, .int .i64 ey] := by rw [hx61]; exact (Bl.new (by simp))
     replace be := q1b hx be
     replace bp := q1b hx bp
     replace fo := q1f hx fo bo
     replace bo := q1b hx bo
     replace fc := q1f hx fc bc
     replace bc := q1b hx bc
     replace HE := HE.trans hx
     clear hx
     clear hx61
     clear c0 c1 c2 c3
     obtain ⟨bb, hbb⟩ : ∃ b, b = (!ms || decide (((ax, ay) : Int × Int) = (ex, ey))) := ⟨_, rfl⟩
     go_cut [32] (fun v wx => v = .bool bb ∧ Ext x61 wx)
     case first =>
      have HC := Ext.refl x61
      clear hst HON1 HPS1 HPT1 HUP1 HAL1
      cases ms
      · obtain rfl : bb = true := by rw [hbb]; rfl
        clear hbb
        go_wp2_with fail
        refine (HMY1.out _).mono ?_
        rintro e u1 ⟨rfl, hx⟩
        replace be := q1b hx be
        replace bp := q1b hx bp
        replace fo := q1f hx fo bo
        replace bo := q1b hx bo
        replace fc := q1f hx fc bc
        replace bc := q1b hx bc
        replace bt := q1b hx bt
        replace HC := HC.trans hx
        replace HE := HE.trans hx
        clear hx
        go_wp2_with fail
        go_meet
        exact ⟨rfl, HC⟩
      by_cases heq : ((ax, ay) : Int × Int) = (ex, ey)
      · obtain rfl : bb = true := by rw [hbb, decide_eq_true heq]; rfl
        clear hbb
        simp only [Prod.mk.injEq] at heq
        obtain ⟨rfl, rfl⟩ := heq
        go_wp2_with fail
        refine (HMY1.out _).mono ?_
        rintro e u1 ⟨rfl, hx⟩
        replace be := q1b hx be
        replace bp := q1b hx bp
        replace fo := q1f hx fo bo
        replace bo := q1b hx bo
        replace fc := q1f hx fc bc
        replace bc := q1b hx bc
        replace bt := q1b hx bt
        replace HC := HC.trans hx
        replace HE := HE.trans hx
        clear hx
        go_wp2_with fail
        go_meet
        exact ⟨rfl, HC⟩
      obtain rfl : bb = false := by rw [hbb, decide_eq_false heq]; rfl
      clear hbb
      by_cases hq : ax = ex
      · obtain rfl : ex = ax := hq.symm
        clear hq
        have hq2 : ¬ ay = ey := fun h => heq (by rw [h])
        clear heq
        go_wp2_with fail
        refine (HMY1.out _).mono ?_
        rintro e u1 ⟨rfl, hx⟩
        replace be := q1b hx be
        replace bp := q1b hx bp
        replace fo := q1f hx fo bo
        replace bo := q1b hx bo
        replace fc := q1f hx fc bc
        replace bc := q1b hx bc
        replace bt := q1b hx bt
        replace HC := HC.trans hx
        replace HE := HE.trans hx
        clear hx
        go_wp2_with fail
        go_meet
        exact ⟨rfl, HC⟩
      clear heq
      go_wp2_with fail
      refine (HMY1.out _).mono ?_
      rintro e u1 ⟨rfl, hx⟩
      replace be := q1b hx be
      replace bp := q1b hx bp
      replace fo := q1f hx fo bo
      replace bo := q1b hx bo
      replace fc := q1f hx fc bc
      replace bc := q1b hx bc
      replace bt := q1b hx bt
      replace HC := HC.trans hx
      replace HE := HE.trans hx
      clear hx
      go_wp2_with fail
      go_meet
      exact ⟨rfl, HC⟩
     obtain ⟨rfl, hx⟩ := hcut
     replace be := q1b hx be
     replace bp := q1b hx bp
     replace fo := q1f hx fo bo
     replace bo := q1b hx bo
     replace fc := q1f hx fc bc
     replace bc := q1b hx bc
     replace bt := q1b hx bt
     replace HE := HE.trans hx
     clear hx
     cases bb
     · have hms : ms = true := by
        cases ms with
        | false => simp at hbb
        | true => rfl
       subst hms
       have heq : ¬ ((ax, ay) : Int × Int) = (ex, ey) := fun h => by rw [h] at hbb; simp at hbb
       have HON2 := hidP (HON1.out rfl); have HPS2 := hidP (HPS1.out rfl); have HPT2 := hidP (HPT1.out rfl); have HUP2 := hidP (HUP1.out rfl); have HAL2 := hidP (HAL1.out rfl)
       clear HON1 HPS1 HPT1 HUP1 HAL1
       rw [if_neg (fun h => h.elim (fun h => by cases h) heq)] at hst
       clear heq hbb
       cases on
       · have HST2 : Hid (gathF x1 y1 q r false (l.drop (j + 1)) (s + cn) (t + cn) = (R1, R2, R3)) := hidP (by rw [hst, if_pos rfl])
         clear hst
         go_wp2_with fail
         refine (HON2.out _ (HX.out.ext HE) (HY.out.ext HE)).mono ?_
         rintro e u2 ⟨rfl, hx⟩
         replace be := q1b hx be
         replace bp := q1b hx bp
         replace fo := q1f hx fo bo
         replace bo := q1b hx bo
         replace fc := q1f hx fc bc
         replace bc := q1b hx bc
         replace bt := q1b hx bt
         replace HE := HE.trans hx
         clear hx
         go_wp2_with fail
         refine (HPS2.out _ _ bp (HX.out.ext HE) (HY.out.ext HE)).mono ?_
         rintro e u3 ⟨rfl, hx⟩
         replace be := q1b hx be
         replace bp := q1b hx bp
         replace fo := q1f hx fo bo
         replace bo := q1b hx bo
         replace fc := q1f hx fc bc
         replace bc := q1b hx bc
         replace bt := q1b hx bt
         replace HE := HE.trans hx
         clear hx
         go_wp2_with fail
         refine (tu_addC _ 0 (s) (cn) _ (bc 0) (fc 0) (by omega) (by omega) hc1.1 hc1.2).mono ?_
         rintro e v82_ ⟨⟨ue, rfl⟩, rfl⟩
         have hbut : But u3 (u3.setCell ⟨w.heap.size + 1 + 1 + 1, 0, none⟩ (.int .i64 (s + cn))) (w.heap.size + 1 + 1 + 1) := (But.refl _ _).store
         have nbc : Bl (u3.setCell ⟨w.heap.size + 1 + 1 + 1, 0, none⟩ (.int .i64 (s + cn))) (w.heap.size + 1 + 1 + 1) #[.int .i64 (s + cn), .int .i64 t] := bc.set (by simp)
         have nfc : Fz (u3.setCell ⟨w.heap.size + 1 + 1 + 1, 0, none⟩ (.int .i64 (s + cn))) (w.heap.size + 1 + 1 + 1) := Fz.set fc
         replace be := But.bl hbut be (Nat.succ_pos _) (by omega)
         replace bp := But.bl hbut bp (Nat.succ_pos _) (by omega)
         replace fo := But.fz hbut fo bo (Nat.succ_pos _) (by omega)
         replace bo := But.bl hbut bo (Nat.succ_pos _) (by omega)
         replace bt := But.bl hbut bt (Nat.succ_pos _) (by omega)
         replace HE : Ext w (u3.setCell ⟨w.heap.size + 1 + 1 + 1, 0, none⟩ (.int .i64 (s + cn))) := HE.store (by show w.heap.size ≤ w.heap.size + 1 + 1 + 1; omega) _
         clear hbut bc fc
         have bc := nbc
         have fc := nfc
         clear nbc nfc
         generalize (u3.setCell ⟨w.heap.size + 1 + 1 + 1, 0, none⟩ (.int .i64 (s + cn))) = v82 at *
         go_wp2_with fail
         refine (HPT2.out _ _ bp (HX.out.ext HE) (HY.out.ext HE)).mono ?_
         rintro e u4 ⟨rfl, hx⟩
         replace be := q1b hx be
         replace bp := q1b hx bp
         replace fo := q1f hx fo bo
         replace bo := q1b hx bo
         replace fc := q1f hx fc bc
         replace bc := q1b hx bc
         replace bt := q1b hx bt
         replace HE := HE.trans hx
         clear hx
         go_wp2_with fail
         refine (tu_addC _ 1 (t) (cn) _ (bc 1) (fc 1) (by omega) (by omega) hc2.1 hc2.2).mono ?_
         rintro e v83_ ⟨⟨ue, rfl⟩, rfl⟩
         have hbut : But u4 (u4.setCell ⟨w.heap.size + 1 + 1 + 1, 1, none⟩ (.int .i64 (t + cn))) (w.heap.size + 1 + 1 + 1) := (But.refl _ _).store
         have nbc : Bl (u4.setCell ⟨w.heap.size + 1 + 1 + 1, 1, none⟩ (.int .i64 (t + cn))) (w.heap.size + 1 + 1 + 1) #[.int .i64 (s + cn), .int .i64 (t + cn)] := bc.set (by simp)
         have nfc : Fz (u4.setCell ⟨w.heap.size + 1 + 1 + 1, 1, none⟩ (.int .i64 (t + cn))) (w.heap.size + 1 + 1 + 1) := Fz.set fc
         replace be := But.bl hbut be (Nat.succ_pos _) (by omega)
         replace bp := But.bl hbut bp (Nat.succ_pos _) (by omega)
         replace fo := But.fz hbut fo bo (Nat.succ_pos _) (by omega)
         replace bo := But.bl hbut bo (Nat.succ_pos _) (by omega)
         replace bt := But.bl hbut bt (Nat.succ_pos _) (by omega)
         replace HE : Ext w (u4.setCell ⟨w.heap.size + 1 + 1 + 1, 1, none⟩ (.int .i64 (t + cn))) := HE.store (by show w.heap.size ≤ w.heap.size + 1 + 1 + 1; omega) _
         clear hbut bc fc
         have bc := nbc
         have fc := nfc
         clear nbc nfc
         generalize (u4.setCell ⟨w.heap.size + 1 + 1 + 1, 1, none⟩ (.int .i64 (t + cn))) = v83 at *
         go_wp2_with fail
         go_roundw
         case rel => exact ⟨j + 1, s + cn, t + cn, by omega, by go_num, by omega, by omega, by omega, by omega, be, bp, bo, fo, bc, fc, HST2, HE⟩
         case measure => simp only [intOf]; omega
       rw [if_neg (by simp)] at hst
       cases al
       · rw [if_pos rfl] at hst
         simp only [Prod.mk.injEq] at hst
         obtain ⟨rfl, rfl, rfl⟩ := hst
         go_wp2_with fail
         refine (HON2.out _ (HX.out.ext HE) (HY.out.ext HE)).mono ?_
         rintro e u2 ⟨rfl, hx⟩
         replace be := q1b hx be
         replace bp := q1b hx bp
         replace fo := q1f hx fo bo
         replace bo := q1b hx bo
         replace fc := q1f hx fc bc
         replace bc := q1b hx bc
         replace bt := q1b hx bt
         replace HE := HE.trans hx
         clear hx
         go_wp2_with fail
         refine (HAL2.out _ (X1.out.ext HE) (Y1.out.ext HE) (HX.out.ext HE) (HY.out.ext HE)).mono ?_
         rintro e u3 ⟨rfl, hx⟩
         replace be := q1b hx be
         replace bp := q1b hx bp
         replace fo := q1f hx fo bo
         replace bo := q1b hx bo
         replace fc := q1f hx fc bc
         replace bc := q1b hx bc
         replace bt := q1b hx bt
         replace HE := HE.trans hx
         clear hx
         go_wp2_with fail
         refine absB (fun ue hue => ?_)
         have hbs : Bl ue (w.heap.size + 1 + 1) #[.int .i64 0, .int .i64 0] := by rw [hue]; exact ((bo.set (by simp)).set (by simp))
         have heu : Ext w ue := by rw [hue]; exact (HE.store (by show w.heap.size ≤ w.heap.size + 1 + 1; omega) _).store (by show w.heap.size ≤ w.heap.size + 1 + 1; omega) _
         clear hue
         refine bodyPost_cells_tmp2 rfl rfl Tryz.underlying86 rfl (by kernel_rfl) (bl_any hbs) rfl rfl ?_
         exact ⟨rfl, heu⟩
       have HST2 : Hid (gathF x1 y1 q r false (l.drop (j + 1)) (s + cu) t = (R1, R2, R3)) := hidP (by rw [hst, if_neg (by simp), if_pos (by trivial)])
       clear hst
       go_wp2_with fail
       refine (HON2.out _ (HX.out.ext HE) (HY.out.ext HE)).mono ?_
       rintro e u2 ⟨rfl, hx⟩
       replace be := q1b hx be
       replace bp := q1b hx bp
       replace fo := q1f hx fo bo
       replace bo := q1b hx bo
       replace fc := q1f hx fc bc
       replace bc := q1b hx bc
       replace bt := q1b hx bt
       replace HE := HE.trans hx
       clear hx
       go_wp2_with fail
       refine (HAL2.out _ (X1.out.ext HE) (Y1.out.ext HE) (HX.out.ext HE) (HY.out.ext HE)).mono ?_
       rintro e u3 ⟨rfl, hx⟩
       replace be := q1b hx be
       replace bp := q1b hx bp
       replace fo := q1f hx fo bo
       replace bo := q1b hx bo
       replace fc := q1f hx fc bc
       replace bc := q1b hx bc
       replace bt := q1b hx bt
       replace HE := HE.trans hx
       clear hx
       go_wp2_with fail
       refine (HUP2.out _ _ bp (HY.out.ext HE)).mono ?_
       rintro e u4 ⟨rfl, hx⟩
       replace be := q1b hx be
       replace bp := q1b hx bp
       replace fo := q1f hx fo bo
       replace bo := q1b hx bo
       replace fc := q1f hx fc bc
       replace bc := q1b hx bc
       replace bt := q1b hx bt
       replace HE := HE.trans hx
       clear hx
       go_wp2_with fail
       refine (tu_addC _ 0 (s) (cu) _ (bc 0) (fc 0) (by omega) (by omega) hc3.1 hc3.2).mono ?_
       rintro e v82_ ⟨⟨ue, rfl⟩, rfl⟩
       have hbut : But u4 (u4.setCell ⟨w.heap.size + 1 + 1 + 1, 0, none⟩ (.int .i64 (s + cu))) (w.heap.size + 1 + 1 + 1) := (But.refl _ _).store
       have nbc : Bl (u4.setCell ⟨w.heap.size + 1 + 1 + 1, 0, none⟩ (.int .i64 (s + cu))) (w.heap.size + 1 + 1 + 1) #[.int .i64 (s + cu), .int .i64 t] := bc.set (by simp)
       have nfc : Fz (u4.setCell ⟨w.heap.size + 1 + 1 + 1, 0, none⟩ (.int .i64 (s + cu))) (w.heap.size + 1 + 1 + 1) := Fz.set fc
       replace be := But.bl hbut be (Nat.succ_pos _) (by omega)
       replace bp := But.bl hbut bp (Nat.succ_pos _) (by omega)
       replace fo := But.fz hbut fo bo (Nat.succ_pos _) (by omega)
       replace bo := But.bl hbut bo (Nat.succ_pos _) (by omega)
       replace bt := But.bl hbut bt (Nat.succ_pos _) (by omega)
       replace HE : Ext w (u4.setCell ⟨w.heap.size + 1 + 1 + 1, 0, none⟩ (.int .i64 (s + cu))) := HE.store (by show w.heap.size ≤ w.heap.size + 1 + 1 + 1; omega) _
       clear hbut bc fc
       have bc := nbc
       have fc := nfc
       clear nbc nfc
       generalize (u4.setCell ⟨w.heap.size + 1 + 1 + 1, 0, none⟩ (.int .i64 (s + cu))) = v82 at *
       go_wp2_with fail
       go_roundw
       case rel => exact ⟨j + 1, s + cu, t, by omega, by go_num, by omega, by omega, by omega, by omega, be, bp, bo, fo, bc, fc, HST2, HE⟩
       case measure => simp only [intOf]; omega
     have hm : ms = false ∨ ((ax, ay) : Int × Int) = (ex, ey) := by
      cases ms with
      | false => exact Or.inl rfl
      | true => exact Or.inr (of_decide_eq_true (by simpa using hbb.symm))
     have HST2 : Hid (gathF x1 y1 q r false (l.drop (j + 1)) s t = (R1, R2, R3)) := hidP (by rw [hst, if_pos hm])
     clear hst HON1 HPS1 HPT1 HUP1 HAL1 hbb hm
     go_wp2_with fail
     go_roundw
     case rel => exact ⟨j + 1, s, t, by omega, by go_num, by omega, by omega, by omega, by omega, be, bp, bo, fo, bc, fc, HST2, HE⟩
     case measure => simp only [intOf]; omega
   obtain rfl : j = sn := by omega
   have hr : (s, t, true) = (R1, R2, R3) := by have := HJ.out; rwa [List.drop_of_length_le (by rw [HLN.out]; omega)] at this
   simp only [Prod.mk.injEq] at hr
   obtain ⟨rfl, rfl, rfl⟩ := hr
   clear HJ
   go_wp2_with fail
   refine absB (fun ue hue => ?_)
   have hbs : Bl ue (w.heap.size + 1 + 1) #[.int .i64 s, .int .i64 t] := by rw [hue]; exact ((bo.set (by simp)).set (by simp))
   have heu : Ext w ue := by rw [hue]; exact (HE.store (by show w.heap.size ≤ w.heap.size + 1 + 1; omega) _).store (by show w.heap.size ≤ w.heap.size + 1 + 1; omega) _
   clear hue
   refine bodyPost_cells_tmp2 rfl rfl Tryz.underlying86 rfl (by kernel_rfl) (bl_any hbs) rfl rfl ?_
   exact ⟨rfl, heu⟩
 have HST := hidP (fun (j : Nat) (s t : Int) (hj : j < l.length) => gathF_drop (x := x1) (y := y1) (q := q) (r := r) (lv := true) (s := s) (t := t) hj)
 have HJ0 : Hid (gathF x1 y1 q r true (l.drop 0) 0 0 = gathF x1 y1 q r true l 0 0) := hidP rfl
 generalize gathF x1 y1 q r true l 0 0 = R at *
 obtain ⟨R1, R2, R3⟩ := R
 go_enter Tryz.func45, Tryz.ntmps45
 go_wp2_with fail
 refine absC (fun x41 hx41 => ?_)
 have hx : Ext w x41 := by rw [hx41]; exact (((((Ext.refl _).alloc _).alloc _).alloc _).alloc _)
 have be : Bl x41 (w.heap.size) #[.bool bx1, .slice ax1 nx1 cx1, .slice dx1 mx1 kx1, .bool by1, .slice ay1 ny1 cy1, .slice dy1 my1 ky1, .bool bx2, .slice ax2 nx2 cx2, .slice dx2 mx2 kx2, .bool by2, .slice ay2 ny2 cy2, .slice dy2 my2 ky2] := by rw [hx41]; exact ((((Bl.new (by simp)).alloc (by simp)).alloc (by simp)).alloc (by simp))
 have bp : Bl x41 (w.heap.size + 1) #[.bool b, .slice a n c, .slice d m k, .bool b', .slice a' n' c', .slice d' m' k'] := by rw [hx41]; exact (((Bl.new (by simp)).alloc (by simp)).alloc (by simp))
 have bo : Bl x41 (w.heap.size + 1 + 1) #[.int .i64 0, .int .i64 0] := by rw [hx41]; exact ((Bl.new (by simp)).alloc (by simp))
 have fo : Fz x41 (w.heap.size + 1 + 1) := by rw [hx41]; exact ((Fz.new (by simp)).alloc (Bl.new (by simp)) (by simp))
 have bc : Bl x41 (w.heap.size + 1 + 1 + 1) #[.int .i64 0, .int .i64 0] := by rw [hx41]; exact (Bl.new (by simp))
 have fc : Fz x41 (w.heap.size + 1 + 1 + 1) := by rw [hx41]; exact (Fz.new (by simp))
 have HE := hx
 clear hx
 clear hx41
 refine (C1.out _ (Y1.out.ext HE) (Y2.out.ext HE)).mono ?_
 rintro e u1 ⟨rfl, hx⟩
 replace be := q1b hx be
 replace bp := q1b hx bp
 replace fo := q1f hx fo bo
 replace bo := q1b hx bo
 replace fc := q1f hx fc bc
 replace bc := q1b hx bc
 replace HE := HE.trans hx
 clear hx
 go_wp2_with fail
 go_loopw [28] (fun iv wr => ∃ (j : Nat) (s t : Int), j ≤ sn ∧ iv = .int .i64 (j : Int) ∧ -(j : Int) ≤ s ∧ s ≤ (j : Int) ∧ -(j : Int) ≤ t ∧ t ≤ (j : Int) ∧ Bl wr w.heap.size #[.bool bx1, .slice ax1 nx1 cx1, .slice dx1 mx1 kx1, .bool by1, .slice ay1 ny1 cy1, .slice dy1 my1 ky1, .bool bx2, .slice ax2 nx2 cx2, .slice dx2 mx2 kx2, .bool by2, .slice ay2 ny2 cy2, .slice dy2 my2 ky2] ∧ Bl wr (w.heap.size + 1) #[.bool b, .slice a n c, .slice d m k, .bool b', .slice a' n' c', .slice d' m' k'] ∧ Bl wr (w.heap.size + 1 + 1) #[.int .i64 0, .int .i64 0] ∧ Fz wr (w.heap.size + 1 + 1) ∧ Bl wr (w.heap.size + 1 + 1 + 1) #[.int .i64 s, .int .i64 t] ∧ Fz wr (w.heap.size + 1 + 1 + 1) ∧ Hid (gathF x1 y1 q r true (l.drop j) s t = (R1, R2, R3)) ∧ Ext w wr) (fun iv _ => sn - (intOf iv).toNat)
 case atStart => exact ⟨0, 0, 0, by omega, rfl, by omega, by omega, by omega, by omega, be, bp, bo, fo, bc, fc, HJ0, HE⟩
 clear HE be bp bo fo bc fc HJ0
 obtain ⟨j, s, t, hj, rfl, s1, s2, t1, t2, be, bp, bo, fo, bc, fc, HJ, HE⟩ := hrel
 have ltc : w.heap.size + 1 + 1 + 1 < wr.heap.size := bc.lt (Nat.succ_pos _)
 by_cases hlt : j < sn
 · obtain ⟨g, off, rfl, hc⟩ := (H.out.ext HE).at (by omega)
   have hjl : j < l.length := by rw [HLN.out]; exact hlt
   obtain ⟨c0, c1, c2, c3⟩ := hc j hjl
   have hst := HST.out j s t hjl
   rw [HJ.out] at hst
   clear hc HJ
   have hmy := HMY.out l[j]
   have hon := HON.out l[j]
   have hps := HPS.out l[j]
   have hpt := HPT.out l[j]
   have hup := HUP.out l[j]
   have hal := HAL.out l[j]
   have hc1 := HCS.out false l[j]
   have hc2 := HCS.out true l[j]
   have hc3 := HUS.out false l[j]
   generalize l[j] = G at *
   change ∀ u, Calls _ _ _ u (fun e w' => e = .returned (.bool (mayS G)) ∧ Ext u w') at hmy
   change ∀ _ u _ _, Calls _ _ _ u (fun e w' => e = .returned (.bool (onS q r G)) ∧ Ext u w') at hon
   change ∀ _ u _ _ _ _, Calls _ _ _ u (fun e w' => e = .returned (.int .i64 (cntS false q r G)) ∧ Ext u w') at hps
   change ∀ _ u _ _ _ _, Calls _ _ _ u (fun e w' => e = .returned (.int .i64 (cntS true q r G)) ∧ Ext u w') at hpt
   change ∀ _ u _ _ _, Calls _ _ _ u (fun e w' => e = .returned (.int .i64 (upS false r G)) ∧ Ext u w') at hup
   change ∀ _ u _ _ _ _, Calls _ _ _ u (fun e w' => e = .returned (.bool (alS x1 y1 q r G)) ∧ Ext u w') at hal
   generalize hcn : cntS false q r G = cn at *
   generalize hcm : cntS true q r G = cm at *
   clear hcn hcm
   generalize upS false r G = cu at *
   generalize onS q r G = on at *
   generalize alS x1 y1 q r G = al at *
   generalize mayS G = ms at *
   obtain ⟨⟨ax, ay⟩, ⟨ex, ey⟩⟩ := G
   simp only [] at c0 c1 c2 c3 hmy hon hps hpt hup hal hst
   have HMY1 := hidP hmy; have HON1 := hidP hon; have HPS1 := hidP hps; have HPT1 := hidP hpt; have HUP1 := hidP hup; have HAL1 := hidP hal
   clear hmy hon hps hpt hup hal
   go_upto_region 10 with fail
   refine absW (fun x61 hx61 => ?_)
   have hx : Ext wr x61 := by rw [hx61]; exact ((Ext.refl _).alloc _)
   have bt : Bl x61 (wr.heap.size) #[.int .i64 ax, .int .i64 ay, .int .i64 ex, .int .i64 ey] := by rw [hx61]; exact (Bl.new (by simp))
   replace be := q1b hx be
   replace bp := q1b hx bp
   replace fo := q1f hx fo bo
   replace bo := q1b hx bo
   replace fc := q1f hx fc bc
   replace bc := q1b hx bc
   replace HE := HE.trans hx
   clear hx
   clear hx61
   clear c0 c1 c2 c3
   obtain ⟨bb, hbb⟩ : ∃ b, b = (!ms || decide (((ax, ay) : Int × Int) = (ex, ey))) := ⟨_, rfl⟩
   go_cut [32] (fun v wx => v = .bool bb ∧ Ext x61 wx)
   case first =>
    have HC := Ext.refl x61
    clear hst HON1 HPS1 HPT1 HUP1 HAL1
    cases ms
    · obtain rfl : bb = true := by rw [hbb]; rfl
      clear hbb
      go_wp2_with fail
      refine (HMY1.out _).mono ?_
      rintro e u1 ⟨rfl, hx⟩
      replace be := q1b hx be
      replace bp := q1b hx bp
      replace fo := q1f hx fo bo
      replace bo := q1b hx bo
      replace fc := q1f hx fc bc
      replace bc := q1b hx bc
      replace bt := q1b hx bt
      replace HC := HC.trans hx
      replace HE := HE.trans hx
      clear hx
      go_wp2_with fail
      go_meet
      exact ⟨rfl, HC⟩
    by_cases heq : ((ax, ay) : Int × Int) = (ex, ey)
    · obtain rfl : bb = true := by rw [hbb, decide_eq_true heq]; rfl
      clear hbb
      simp only [Prod.mk.injEq] at heq
      obtain ⟨rfl, rfl⟩ := heq
      go_wp2_with fail
      refine (HMY1.out _).mono ?_
      rintro e u1 ⟨rfl, hx⟩
      replace be := q1b hx be
      replace bp := q1b hx bp
      replace fo := q1f hx fo bo
      replace bo := q1b hx bo
      replace fc := q1f hx fc bc
      replace bc := q1b hx bc
      replace bt := q1b hx bt
      replace HC := HC.trans hx
      replace HE := HE.trans hx
      clear hx
      go_wp2_with fail
      go_meet
      exact ⟨rfl, HC⟩
    obtain rfl : bb = false := by rw [hbb, decide_eq_false heq]; rfl
    clear hbb
    by_cases hq : ax = ex
    · obtain rfl : ex = ax := hq.symm
      clear hq
      have hq2 : ¬ ay = ey := fun h => heq (by rw [h])
      clear heq
      go_wp2_with fail
      refine (HMY1.out _).mono ?_
      rintro e u1 ⟨rfl, hx⟩
      replace be := q1b hx be
      replace bp := q1b hx bp
      replace fo := q1f hx fo bo
      replace bo := q1b hx bo
      replace fc := q1f hx fc bc
      replace bc := q1b hx bc
      replace bt := q1b hx bt
      replace HC := HC.trans hx
      replace HE := HE.trans hx
      clear hx
      go_wp2_with fail
      go_meet
      exact ⟨rfl, HC⟩
    clear heq
    go_wp2_with fail
    refine (HMY1.out _).mono ?_
    rintro e u1 ⟨rfl, hx⟩
    replace be := q1b hx be
    replace bp := q1b hx bp
    replace fo := q1f hx fo bo
    replace bo := q1b hx bo
    replace fc := q1f hx fc bc
    replace bc := q1b hx bc
    replace bt := q1b hx bt
    replace HC := HC.trans hx
    replace HE := HE.trans hx
    clear hx
    go_wp2_with fail
    go_meet
    exact ⟨rfl, HC⟩
   obtain ⟨rfl, hx⟩ := hcut
   replace be := q1b hx be
   replace bp := q1b hx bp
   replace fo := q1f hx fo bo
   replace bo := q1b hx bo
   replace fc := q1f hx fc bc
   replace bc := q1b hx bc
   replace bt := q1b hx bt
   replace HE := HE.trans hx
   clear hx
   cases bb
   · have hms : ms = true := by
      cases ms with
      | false => simp at hbb
      | true => rfl
     subst hms
     have heq : ¬ ((ax, ay) : Int × Int) = (ex, ey) := fun h => by rw [h] at hbb; simp at hbb
     have HON2 := hidP (HON1.out rfl); have HPS2 := hidP (HPS1.out rfl); have HPT2 := hidP (HPT1.out rfl); have HUP2 := hidP (HUP1.out rfl); have HAL2 := hidP (HAL1.out rfl)
     clear HON1 HPS1 HPT1 HUP1 HAL1
     rw [if_neg (fun h => h.elim (fun h => by cases h) heq)] at hst
     clear heq hbb
     cases on
     · have HST2 : Hid (gathF x1 y1 q r true (l.drop (j + 1)) (s + cn) (t + cm) = (R1, R2, R3)) := hidP (by rw [hst, if_pos rfl])
       clear hst
       go_wp2_with fail
       refine (HON2.out _ (HX.out.ext HE) (HY.out.ext HE)).mono ?_
       rintro e u2 ⟨rfl, hx⟩
       replace be := q1b hx be
       replace bp := q1b hx bp
       replace fo := q1f hx fo bo
       replace bo := q1b hx bo
       replace fc := q1f hx fc bc
       replace bc := q1b hx bc
       replace bt := q1b hx bt
       replace HE := HE.trans hx
       clear hx
       go_wp2_with fail
       refine (HPS2.out _ _ bp (HX.out.ext HE) (HY.out.ext HE)).mono ?_
       rintro e u3 ⟨rfl, hx⟩
       replace be := q1b hx be
       replace bp := q1b hx bp
       replace fo := q1f hx fo bo
       replace bo := q1b hx bo
       replace fc := q1f hx fc bc
       replace bc := q1b hx bc
       replace bt := q1b hx bt
       replace HE := HE.trans hx
       clear hx
       go_wp2_with fail
       refine (tu_addC _ 0 (s) (cn) _ (bc 0) (fc 0) (by omega) (by omega) hc1.1 hc1.2).mono ?_
       rintro e v82_ ⟨⟨ue, rfl⟩, rfl⟩
       have hbut : But u3 (u3.setCell ⟨w.heap.size + 1 + 1 + 1, 0, none⟩ (.int .i64 (s + cn))) (w.heap.size + 1 + 1 + 1) := (But.refl _ _).store
       have nbc : Bl (u3.setCell ⟨w.heap.size + 1 + 1 + 1, 0, none⟩ (.int .i64 (s + cn))) (w.heap.size + 1 + 1 + 1) #[.int .i64 (s + cn), .int .i64 t] := bc.set (by simp)
       have nfc : Fz (u3.setCell ⟨w.heap.size + 1 + 1 + 1, 0, none⟩ (.int .i64 (s + cn))) (w.heap.size + 1 + 1 + 1) := Fz.set fc
       replace be := But.bl hbut be (Nat.succ_pos _) (by omega)
       replace bp := But.bl hbut bp (Nat.succ_pos _) (by omega)
       replace fo := But.fz hbut fo bo (Nat.succ_pos _) (by omega)
       replace bo := But.bl hbut bo (Nat.succ_pos _) (by omega)
       replace bt := But.bl hbut bt (Nat.succ_pos _) (by omega)
       replace HE : Ext w (u3.setCell ⟨w.heap.size + 1 + 1 + 1, 0, none⟩ (.int .i64 (s + cn))) := HE.store (by show w.heap.size ≤ w.heap.size + 1 + 1 + 1; omega) _
       clear hbut bc fc
       have bc := nbc
       have fc := nfc
       clear nbc nfc
       generalize (u3.setCell ⟨w.heap.size + 1 + 1 + 1, 0, none⟩ (.int .i64 (s + cn))) = v82 at *
       go_wp2_with fail
       refine (HPT2.out _ _ bp (HX.out.ext HE) (HY.out.ext HE)).mono ?_
       rintro e u4 ⟨rfl, hx⟩
       replace be := q1b hx be
       replace bp := q1b hx bp
       replace fo := q1f hx fo bo
       replace bo := q1b hx bo
       replace fc := q1f hx fc bc
       replace bc := q1b hx bc
       replace bt := q1b hx bt
       replace HE := HE.trans hx
       clear hx
       go_wp2_with fail
       refine (tu_addC _ 1 (t) (cm) _ (bc 1) (fc 1) (by omega) (by omega) hc2.1 hc2.2).mono ?_
       rintro e v83_ ⟨⟨ue, rfl⟩, rfl⟩
       have hbut : But u4 (u4.setCell ⟨w.heap.size + 1 + 1 + 1, 1, none⟩ (.int .i64 (t + cm))) (w.heap.size + 1 + 1 + 1) := (But.refl _ _).store
       have nbc : Bl (u4.setCell ⟨w.heap.size + 1 + 1 + 1, 1, none⟩ (.int .i64 (t + cm))) (w.heap.size + 1 + 1 + 1) #[.int .i64 (s + cn), .int .i64 (t + cm)] := bc.set (by simp)
       have nfc : Fz (u4.setCell ⟨w.heap.size + 1 + 1 + 1, 1, none⟩ (.int .i64 (t + cm))) (w.heap.size + 1 + 1 + 1) := Fz.set fc
       replace be := But.bl hbut be (Nat.succ_pos _) (by omega)
       replace bp := But.bl hbut bp (Nat.succ_pos _) (by omega)
       replace fo := But.fz hbut fo bo (Nat.succ_pos _) (by omega)
       replace bo := But.bl hbut bo (Nat.succ_pos _) (by omega)
       replace bt := But.bl hbut bt (Nat.succ_pos _) (by omega)
       replace HE : Ext w (u4.setCell ⟨w.heap.size + 1 + 1 + 1, 1, none⟩ (.int .i64 (t + cm))) := HE.store (by show w.heap.size ≤ w.heap.size + 1 + 1 + 1; omega) _
       clear hbut bc fc
       have bc := nbc
       have fc := nfc
       clear nbc nfc
       generalize (u4.setCell ⟨w.heap.size + 1 + 1 + 1, 1, none⟩ (.int .i64 (t + cm))) = v83 at *
       go_wp2_with fail
       go_roundw
       case rel => exact ⟨j + 1, s + cn, t + cm, by omega, by go_num, by omega, by omega, by omega, by omega, be, bp, bo, fo, bc, fc, HST2, HE⟩
       case measure => simp only [intOf]; omega
     rw [if_neg (by simp)] at hst
     cases al
     · rw [if_pos rfl] at hst
       simp only [Prod.mk.injEq] at hst
       obtain ⟨rfl, rfl, rfl⟩ := hst
       go_wp2_with fail
       refine (HON2.out _ (HX.out.ext HE) (HY.out.ext HE)).mono ?_
       rintro e u2 ⟨rfl, hx⟩
       replace be := q1b hx be
       replace bp := q1b hx bp
       replace fo := q1f hx fo bo
       replace bo := q1b hx bo
       replace fc := q1f hx fc bc
       replace bc := q1b hx bc
       replace bt := q1b hx bt
       replace HE := HE.trans hx
       clear hx
       go_wp2_with fail
       refine (HAL2.out _ (X1.out.ext HE) (Y1.out.ext HE) (HX.out.ext HE) (HY.out.ext HE)).mono ?_
       rintro e u3 ⟨rfl, hx⟩
       replace be := q1b hx be
       replace bp := q1b hx bp
       replace fo := q1f hx fo bo
       replace bo := q1b hx bo
       replace fc := q1f hx fc bc
       replace bc := q1b hx bc
       replace bt := q1b hx bt
       replace HE := HE.trans hx
       clear hx
       go_wp2_with fail
       refine absB (fun ue hue => ?_)
       have hbs : Bl ue (w.heap.size + 1 + 1) #[.int .i64 0, .int .i64 0] := by rw [hue]; exact ((bo.set (by simp)).set (by simp))
       have heu : Ext w ue := by rw [hue]; exact (HE.store (by show w.heap.size ≤ w.heap.size + 1 + 1; omega) _).store (by show w.heap.size ≤ w.heap.size + 1 + 1; omega) _
       clear hue
       refine bodyPost_cells_tmp2 rfl rfl Tryz.underlying86 rfl (by kernel_rfl) (bl_any hbs) rfl rfl ?_
       exact ⟨rfl, heu⟩
     have HST2 : Hid (gathF x1 y1 q r true (l.drop (j + 1)) s t = (R1, R2, R3)) := hidP (by rw [hst, if_neg (by simp), if_neg (by simp)])
     clear hst
     go_wp2_with fail
     refine (HON2.out _ (HX.out.ext HE) (HY.out.ext HE)).mono ?_
     rintro e u2 ⟨rfl, hx⟩
     replace be := q1b hx be
     replace bp := q1b hx bp
     replace fo := q1f hx fo bo
     replace bo := q1b hx bo
     replace fc := q1f hx fc bc
     replace bc := q1b hx bc
     replace bt := q1b hx bt
     replace HE := HE.trans hx
     clear hx
     go_wp2_with fail
     refine (HAL2.out _ (X1.out.ext HE) (Y1.out.ext HE) (HX.out.ext HE) (HY.out.ext HE)).mono ?_
     rintro e u3 ⟨rfl, hx⟩
     replace be := q1b hx be
     replace bp := q1b hx bp
     replace fo := q1f hx fo bo
     replace bo := q1b hx bo
     replace fc := q1f hx fc bc
     replace bc := q1b hx bc
     replace bt := q1b hx bt
     replace HE := HE.trans hx
     clear hx
     go_wp2_with fail
     go_roundw
     case rel => exact ⟨j + 1, s, t, by omega, by go_num, by omega, by omega, by omega, by omega, be, bp, bo, fo, bc, fc, HST2, HE⟩
     case measure => simp only [intOf]; omega
   have hm : ms = false ∨ ((ax, ay) : Int × Int) = (ex, ey) := by
    cases ms with
    | false => exact Or.inl rfl
    | true => exact Or.inr (of_decide_eq_true (by simpa using hbb.symm))
   have HST2 : Hid (gathF x1 y1 q r true (l.drop (j + 1)) s t = (R1, R2, R3)) := hidP (by rw [hst, if_pos hm])
   clear hst HON1 HPS1 HPT1 HUP1 HAL1 hbb hm
   go_wp2_with fail
   go_roundw
   case rel => exact ⟨j + 1, s, t, by omega, by go_num, by omega, by omega, by omega, by omega, be, bp, bo, fo, bc, fc, HST2, HE⟩
   case measure => simp only [intOf]; omega
 obtain rfl : j = sn := by omega
 have hr : (s, t, true) = (R1, R2, R3) := by have := HJ.out; rwa [List.drop_of_length_le (by rw [HLN.out]; omega)] at this
 simp only [Prod.mk.injEq] at hr
 obtain ⟨rfl, rfl, rfl⟩ := hr
 clear HJ
 go_wp2_with fail
 refine absB (fun ue hue => ?_)
 have hbs : Bl ue (w.heap.size + 1 + 1) #[.int .i64 s, .int .i64 t] := by rw [hue]; exact ((bo.set (by simp)).set (by simp))
 have heu : Ext w ue := by rw [hue]; exact (HE.store (by show w.heap.size ≤ w.heap.size + 1 + 1; omega) _).store (by show w.heap.size ≤ w.heap.size + 1 + 1; omega) _
 clear hue
 refine bodyPost_cells_tmp2 rfl rfl Tryz.underlying86 rfl (by kernel_rfl) (bl_any hbs) rfl rfl ?_
 exact ⟨rfl, heu⟩
end Go.Proofs.YtgjjalnmigdjgaaGreat
