/- Spots: how they stand, what is half way. -/
import Derived.Test.YtgjjalnmigdjgaaGreatU9
namespace Go.Proofs.YtgjjalnmigdjgaaGreat
set_option linter.unusedVariables false
set_option linter.unusedSimpArgs false
open Go Go.RowKit
theorem Fq.mono {w : World} {b : Bool} {a d : Option Addr} {n c m k N M : Nat} {q : Rat} (h : Fq w b a n c d m k q N) (hm : N ≤ M) : Fq w b a n c d m k q M := by
  obtain ⟨z, D, h1, h2, h3, h4, h5, h6⟩ := h
  exact ⟨z, D, h1, h2, h3, by omega, by omega, h6⟩
/-- How two spots stand. -/
def cmpS (x1 y1 x2 y2 : Rat) : Int := if cmpQ x1 x2 ≠ 0 then cmpQ x1 x2 else cmpQ y1 y2
theorem cmpS_bd (x1 y1 x2 y2 : Rat) : cmpS x1 y1 x2 y2 = -1 ∨ cmpS x1 y1 x2 y2 = 0 ∨ cmpS x1 y1 x2 y2 = 1 := by
  unfold cmpS
  split <;> exact cmpQ_bd _ _
set_option maxRecDepth 100000 in
set_option maxHeartbeats 4000000 in
theorem sp_Cmp {bx1 by1 : Bool} {ax1 dx1 ay1 dy1 : Option Addr} {nx1 cx1 mx1 kx1 ny1 cy1 my1 ky1 : Nat} {x1 y1 : Rat} {bx2 by2 : Bool} {ax2 dx2 ay2 dy2 : Option Addr} {nx2 cx2 mx2 kx2 ny2 cy2 my2 ky2 : Nat} {x2 y2 : Rat} {N : Nat} (w : World) (hx1 : Fq w bx1 ax1 nx1 cx1 dx1 mx1 kx1 x1 N) (hy1 : Fq w by1 ay1 ny1 cy1 dy1 my1 ky1 y1 N) (hx2 : Fq w bx2 ax2 nx2 cx2 dx2 mx2 kx2 x2 N) (hy2 : Fq w by2 ay2 ny2 cy2 dy2 my2 ky2 y2 N) (hN : N ≤ 137438953472) :
    Calls Tryz.prog 82 #[.agg #[.bool bx1, .slice ax1 nx1 cx1, .slice dx1 mx1 kx1, .bool by1, .slice ay1 ny1 cy1, .slice dy1 my1 ky1], .agg #[.bool bx2, .slice ax2 nx2 cx2, .slice dx2 mx2 kx2, .bool by2, .slice ay2 ny2 cy2, .slice dy2 my2 ky2]] w fun e w' => e = .returned (.int .i64 (cmpS x1 y1 x2 y2)) ∧ Ext w w' := by
 have X1 := hidP hx1; have Y1 := hidP hy1; have X2 := hidP hx2; have Y2 := hidP hy2
 have C1 := hidP (fun u (t1 : Fq u bx1 ax1 nx1 cx1 dx1 mx1 kx1 x1 N) (t2 : Fq u bx2 ax2 nx2 cx2 dx2 mx2 kx2 x2 N) => fq_Cmp t1 t2 hN hN)
 have C2 := hidP (fun u (t1 : Fq u by1 ay1 ny1 cy1 dy1 my1 ky1 y1 N) (t2 : Fq u by2 ay2 ny2 cy2 dy2 my2 ky2 y2 N) => fq_Cmp t1 t2 hN hN)
 have hb := cmpQ_bd x1 x2
 have HR : Hid (cmpS x1 y1 x2 y2 = if cmpQ x1 x2 ≠ 0 then cmpQ x1 x2 else cmpQ y1 y2) := hidP rfl
 generalize cmpS x1 y1 x2 y2 = res at *
 generalize cmpQ x1 x2 = c1 at *
 generalize cmpQ y1 y2 = c2 at *
 clear hx1 hy1 hx2 hy2
 rcases hb with h | h | h
 · subst h
   have HRR : Hid (res = -1) := hidP (by rw [HR.out]; rfl)
   clear HR
   go_enter Tryz.func82, Tryz.ntmps82
   go_wp2_with fail
   refine absC (fun x1 hx1 => ?_)
   have hx : Ext w x1 := by rw [hx1]; exact (((Ext.refl _).alloc _).alloc _)
   have bp : Bl x1 (w.heap.size) #[.bool bx1, .slice ax1 nx1 cx1, .slice dx1 mx1 kx1, .bool by1, .slice ay1 ny1 cy1, .slice dy1 my1 ky1] := by rw [hx1]; exact ((Bl.new (by simp)).alloc (by simp))
   have bq : Bl x1 (w.heap.size + 1) #[.bool bx2, .slice ax2 nx2 cx2, .slice dx2 mx2 kx2, .bool by2, .slice ay2 ny2 cy2, .slice dy2 my2 ky2] := by rw [hx1]; exact (Bl.new (by simp))
   have HE := hx
   clear hx
   clear hx1
   refine (C1.out _ (X1.out.ext HE) (X2.out.ext HE)).mono ?_
   rintro e u1 ⟨rfl, hx⟩
   replace bp := q1b hx bp
   replace bq := q1b hx bq
   replace HE := HE.trans hx
   clear hx
   go_wp2_with fail
   go_ret
   exact ⟨congrArg (fun x => Ending.returned (Value.int .i64 x)) HRR.out.symm, HE⟩
 · subst h
   have HRR : Hid (res = c2) := hidP (by rw [HR.out]; rfl)
   clear HR
   go_enter Tryz.func82, Tryz.ntmps82
   go_wp2_with fail
   refine absC (fun x1 hx1 => ?_)
   have hx : Ext w x1 := by rw [hx1]; exact (((Ext.refl _).alloc _).alloc _)
   have bp : Bl x1 (w.heap.size) #[.bool bx1, .slice ax1 nx1 cx1, .slice dx1 mx1 kx1, .bool by1, .slice ay1 ny1 cy1, .slice dy1 my1 ky1] := by rw [hx1]; exact ((Bl.new (by simp)).alloc (by simp))
   have bq : Bl x1 (w.heap.size + 1) #[.bool bx2, .slice ax2 nx2 cx2, .slice dx2 mx2 kx2, .bool by2, .slice ay2 ny2 cy2, .slice dy2 my2 ky2] := by rw [hx1]; exact (Bl.new (by simp))
   have HE := hx
   clear hx
   clear hx1
   refine (C1.out _ (X1.out.ext HE) (X2.out.ext HE)).mono ?_
   rintro e u1 ⟨rfl, hx⟩
   replace bp := q1b hx bp
   replace bq := q1b hx bq
   replace HE := HE.trans hx
   clear hx
   go_wp2_with fail
   refine (C2.out _ (Y1.out.ext HE) (Y2.out.ext HE)).mono ?_
   rintro e u2 ⟨rfl, hx⟩
   replace bp := q1b hx bp
   replace bq := q1b hx bq
   replace HE := HE.trans hx
   clear hx
   go_wp2_with fail
   go_ret
   exact ⟨congrArg (fun x => Ending.returned (Value.int .i64 x)) HRR.out.symm, HE⟩
 subst h
 have HRR : Hid (res = 1) := hidP (by rw [HR.out]; rfl)
 clear HR
 go_enter Tryz.func82, Tryz.ntmps82
 go_wp2_with fail
 refine absC (fun x1 hx1 => ?_)
 have hx : Ext w x1 := by rw [hx1]; exact (((Ext.refl _).alloc _).alloc _)
 have bp : Bl x1 (w.heap.size) #[.bool bx1, .slice ax1 nx1 cx1, .slice dx1 mx1 kx1, .bool by1, .slice ay1 ny1 cy1, .slice dy1 my1 ky1] := by rw [hx1]; exact ((Bl.new (by simp)).alloc (by simp))
 have bq : Bl x1 (w.heap.size + 1) #[.bool bx2, .slice ax2 nx2 cx2, .slice dx2 mx2 kx2, .bool by2, .slice ay2 ny2 cy2, .slice dy2 my2 ky2] := by rw [hx1]; exact (Bl.new (by simp))
 have HE := hx
 clear hx
 clear hx1
 refine (C1.out _ (X1.out.ext HE) (X2.out.ext HE)).mono ?_
 rintro e u1 ⟨rfl, hx⟩
 replace bp := q1b hx bp
 replace bq := q1b hx bq
 replace HE := HE.trans hx
 clear hx
 go_wp2_with fail
 go_ret
 exact ⟨congrArg (fun x => Ending.returned (Value.int .i64 x)) HRR.out.symm, HE⟩
set_option maxRecDepth 100000 in
set_option maxHeartbeats 4000000 in
theorem rp_Cmp {bx1 by1 : Bool} {ax1 dx1 ay1 dy1 : Option Addr} {nx1 cx1 mx1 kx1 ny1 cy1 my1 ky1 : Nat} {x1 y1 : Rat} {bx2 by2 : Bool} {ax2 dx2 ay2 dy2 : Option Addr} {nx2 cx2 mx2 kx2 ny2 cy2 my2 ky2 : Nat} {x2 y2 : Rat} {N : Nat} (w : World) (hx1 : Fq w bx1 ax1 nx1 cx1 dx1 mx1 kx1 x1 N) (hy1 : Fq w by1 ay1 ny1 cy1 dy1 my1 ky1 y1 N) (hx2 : Fq w bx2 ax2 nx2 cx2 dx2 mx2 kx2 x2 N) (hy2 : Fq w by2 ay2 ny2 cy2 dy2 my2 ky2 y2 N) (hN : N ≤ 137438953472) :
    Calls Tryz.prog 22 #[.agg #[.bool bx1, .slice ax1 nx1 cx1, .slice dx1 mx1 kx1, .bool by1, .slice ay1 ny1 cy1, .slice dy1 my1 ky1], .agg #[.bool bx2, .slice ax2 nx2 cx2, .slice dx2 mx2 kx2, .bool by2, .slice ay2 ny2 cy2, .slice dy2 my2 ky2]] w fun e w' => e = .returned (.int .i64 (cmpS x1 y1 x2 y2)) ∧ Ext w w' := by
 have X1 := hidP hx1; have Y1 := hidP hy1; have X2 := hidP hx2; have Y2 := hidP hy2
 have C1 := hidP (fun u (t1 : Fq u bx1 ax1 nx1 cx1 dx1 mx1 kx1 x1 N) (t2 : Fq u bx2 ax2 nx2 cx2 dx2 mx2 kx2 x2 N) => gq_Cmp t1 t2 hN hN)
 have C2 := hidP (fun u (t1 : Fq u by1 ay1 ny1 cy1 dy1 my1 ky1 y1 N) (t2 : Fq u by2 ay2 ny2 cy2 dy2 my2 ky2 y2 N) => gq_Cmp t1 t2 hN hN)
 have hb := cmpQ_bd x1 x2
 have HR : Hid (cmpS x1 y1 x2 y2 = if cmpQ x1 x2 ≠ 0 then cmpQ x1 x2 else cmpQ y1 y2) := hidP rfl
 generalize cmpS x1 y1 x2 y2 = res at *
 generalize cmpQ x1 x2 = c1 at *
 generalize cmpQ y1 y2 = c2 at *
 clear hx1 hy1 hx2 hy2
 rcases hb with h | h | h
 · subst h
   have HRR : Hid (res = -1) := hidP (by rw [HR.out]; rfl)
   clear HR
   go_enter Tryz.func22, Tryz.ntmps22
   go_wp2_with fail
   refine absC (fun x1 hx1 => ?_)
   have hx : Ext w x1 := by rw [hx1]; exact (((Ext.refl _).alloc _).alloc _)
   have bp : Bl x1 (w.heap.size) #[.bool bx1, .slice ax1 nx1 cx1, .slice dx1 mx1 kx1, .bool by1, .slice ay1 ny1 cy1, .slice dy1 my1 ky1] := by rw [hx1]; exact ((Bl.new (by simp)).alloc (by simp))
   have bq : Bl x1 (w.heap.size + 1) #[.bool bx2, .slice ax2 nx2 cx2, .slice dx2 mx2 kx2, .bool by2, .slice ay2 ny2 cy2, .slice dy2 my2 ky2] := by rw [hx1]; exact (Bl.new (by simp))
   have HE := hx
   clear hx
   clear hx1
   refine (C1.out _ (X1.out.ext HE) (X2.out.ext HE)).mono ?_
   rintro e u1 ⟨rfl, hx⟩
   replace bp := q1b hx bp
   replace bq := q1b hx bq
   replace HE := HE.trans hx
   clear hx
   go_wp2_with fail
   refine (C1.out _ (X1.out.ext HE) (X2.out.ext HE)).mono ?_
   rintro e u2 ⟨rfl, hx⟩
   replace bp := q1b hx bp
   replace bq := q1b hx bq
   replace HE := HE.trans hx
   clear hx
   go_wp2_with fail
   go_ret
   exact ⟨congrArg (fun x => Ending.returned (Value.int .i64 x)) HRR.out.symm, HE⟩
 · subst h
   have HRR : Hid (res = c2) := hidP (by rw [HR.out]; rfl)
   clear HR
   go_enter Tryz.func22, Tryz.ntmps22
   go_wp2_with fail
   refine absC (fun x1 hx1 => ?_)
   have hx : Ext w x1 := by rw [hx1]; exact (((Ext.refl _).alloc _).alloc _)
   have bp : Bl x1 (w.heap.size) #[.bool bx1, .slice ax1 nx1 cx1, .slice dx1 mx1 kx1, .bool by1, .slice ay1 ny1 cy1, .slice dy1 my1 ky1] := by rw [hx1]; exact ((Bl.new (by simp)).alloc (by simp))
   have bq : Bl x1 (w.heap.size + 1) #[.bool bx2, .slice ax2 nx2 cx2, .slice dx2 mx2 kx2, .bool by2, .slice ay2 ny2 cy2, .slice dy2 my2 ky2] := by rw [hx1]; exact (Bl.new (by simp))
   have HE := hx
   clear hx
   clear hx1
   refine (C1.out _ (X1.out.ext HE) (X2.out.ext HE)).mono ?_
   rintro e u1 ⟨rfl, hx⟩
   replace bp := q1b hx bp
   replace bq := q1b hx bq
   replace HE := HE.trans hx
   clear hx
   go_wp2_with fail
   refine (C2.out _ (Y1.out.ext HE) (Y2.out.ext HE)).mono ?_
   rintro e u2 ⟨rfl, hx⟩
   replace bp := q1b hx bp
   replace bq := q1b hx bq
   replace HE := HE.trans hx
   clear hx
   go_wp2_with fail
   go_ret
   exact ⟨congrArg (fun x => Ending.returned (Value.int .i64 x)) HRR.out.symm, HE⟩
 subst h
 have HRR : Hid (res = 1) := hidP (by rw [HR.out]; rfl)
 clear HR
 go_enter Tryz.func22, Tryz.ntmps22
 go_wp2_with fail
 refine absC (fun x1 hx1 => ?_)
 have hx : Ext w x1 := by rw [hx1]; exact (((Ext.refl _).alloc _).alloc _)
 have bp : Bl x1 (w.heap.size) #[.bool bx1, .slice ax1 nx1 cx1, .slice dx1 mx1 kx1, .bool by1, .slice ay1 ny1 cy1, .slice dy1 my1 ky1] := by rw [hx1]; exact ((Bl.new (by simp)).alloc (by simp))
 have bq : Bl x1 (w.heap.size + 1) #[.bool bx2, .slice ax2 nx2 cx2, .slice dx2 mx2 kx2, .bool by2, .slice ay2 ny2 cy2, .slice dy2 my2 ky2] := by rw [hx1]; exact (Bl.new (by simp))
 have HE := hx
 clear hx
 clear hx1
 refine (C1.out _ (X1.out.ext HE) (X2.out.ext HE)).mono ?_
 rintro e u1 ⟨rfl, hx⟩
 replace bp := q1b hx bp
 replace bq := q1b hx bq
 replace HE := HE.trans hx
 clear hx
 go_wp2_with fail
 refine (C1.out _ (X1.out.ext HE) (X2.out.ext HE)).mono ?_
 rintro e u2 ⟨rfl, hx⟩
 replace bp := q1b hx bp
 replace bq := q1b hx bq
 replace HE := HE.trans hx
 clear hx
 go_wp2_with fail
 go_ret
 exact ⟨congrArg (fun x => Ending.returned (Value.int .i64 x)) HRR.out.symm, HE⟩
set_option maxRecDepth 100000 in
set_option maxHeartbeats 4000000 in
theorem sp_Same {bx1 by1 : Bool} {ax1 dx1 ay1 dy1 : Option Addr} {nx1 cx1 mx1 kx1 ny1 cy1 my1 ky1 : Nat} {x1 y1 : Rat} {bx2 by2 : Bool} {ax2 dx2 ay2 dy2 : Option Addr} {nx2 cx2 mx2 kx2 ny2 cy2 my2 ky2 : Nat} {x2 y2 : Rat} {N : Nat} (w : World) (hx1 : Fq w bx1 ax1 nx1 cx1 dx1 mx1 kx1 x1 N) (hy1 : Fq w by1 ay1 ny1 cy1 dy1 my1 ky1 y1 N) (hx2 : Fq w bx2 ax2 nx2 cx2 dx2 mx2 kx2 x2 N) (hy2 : Fq w by2 ay2 ny2 cy2 dy2 my2 ky2 y2 N) (hN : N ≤ 137438953472) :
    Calls Tryz.prog 44 #[.agg #[.bool bx1, .slice ax1 nx1 cx1, .slice dx1 mx1 kx1, .bool by1, .slice ay1 ny1 cy1, .slice dy1 my1 ky1], .agg #[.bool bx2, .slice ax2 nx2 cx2, .slice dx2 mx2 kx2, .bool by2, .slice ay2 ny2 cy2, .slice dy2 my2 ky2]] w fun e w' => e = .returned (.bool (cmpS x1 y1 x2 y2 == 0)) ∧ Ext w w' := by
  have X1 := hidP hx1; have Y1 := hidP hy1; have X2 := hidP hx2; have Y2 := hidP hy2
  have C1 := hidP (fun u (t1 : Fq u bx1 ax1 nx1 cx1 dx1 mx1 kx1 x1 N) (t2 : Fq u by1 ay1 ny1 cy1 dy1 my1 ky1 y1 N) (t3 : Fq u bx2 ax2 nx2 cx2 dx2 mx2 kx2 x2 N) (t4 : Fq u by2 ay2 ny2 cy2 dy2 my2 ky2 y2 N) => sp_Cmp u t1 t2 t3 t4 hN)
  generalize cmpS x1 y1 x2 y2 = c1 at *
  clear hx1 hy1 hx2 hy2
  go_enter Tryz.func44, Tryz.ntmps44
  go_wp2_with fail
  refine absC (fun x1 hx1 => ?_)
  have hx : Ext w x1 := by rw [hx1]; exact (((Ext.refl _).alloc _).alloc _)
  have bp : Bl x1 (w.heap.size) #[.bool bx1, .slice ax1 nx1 cx1, .slice dx1 mx1 kx1, .bool by1, .slice ay1 ny1 cy1, .slice dy1 my1 ky1] := by rw [hx1]; exact ((Bl.new (by simp)).alloc (by simp))
  have bq : Bl x1 (w.heap.size + 1) #[.bool bx2, .slice ax2 nx2 cx2, .slice dx2 mx2 kx2, .bool by2, .slice ay2 ny2 cy2, .slice dy2 my2 ky2] := by rw [hx1]; exact (Bl.new (by simp))
  have HE := hx
  clear hx
  clear hx1
  refine (C1.out _ (X1.out.ext HE) (Y1.out.ext HE) (X2.out.ext HE) (Y2.out.ext HE)).mono ?_
  rintro e u1 ⟨rfl, hx⟩
  replace bp := q1b hx bp
  replace bq := q1b hx bq
  replace HE := HE.trans hx
  clear hx
  go_wp2_with fail
  go_ret
  exact ⟨rfl, HE⟩
set_option maxRecDepth 100000 in
set_option maxHeartbeats 8000000 in
theorem sp_Mid {bx1 by1 : Bool} {ax1 dx1 ay1 dy1 : Option Addr} {nx1 cx1 mx1 kx1 ny1 cy1 my1 ky1 : Nat} {x1 y1 : Rat} {bx2 by2 : Bool} {ax2 dx2 ay2 dy2 : Option Addr} {nx2 cx2 mx2 kx2 ny2 cy2 my2 ky2 : Nat} {x2 y2 : Rat} {N : Nat} (w : World) (hx1 : Fq w bx1 ax1 nx1 cx1 dx1 mx1 kx1 x1 N) (hy1 : Fq w by1 ay1 ny1 cy1 dy1 my1 ky1 y1 N) (hx2 : Fq w bx2 ax2 nx2 cx2 dx2 mx2 kx2 x2 N) (hy2 : Fq w by2 ay2 ny2 cy2 dy2 my2 ky2 y2 N) (hN : N ≤ 8589934592) (hN1 : 1 ≤ N) :
    Calls Tryz.prog 46 #[.agg #[.bool bx1, .slice ax1 nx1 cx1, .slice dx1 mx1 kx1, .bool by1, .slice ay1 ny1 cy1, .slice dy1 my1 ky1], .agg #[.bool bx2, .slice ax2 nx2 cx2, .slice dx2 mx2 kx2, .bool by2, .slice ay2 ny2 cy2, .slice dy2 my2 ky2]] w (RetS w ((x1 + x2) * mkRat 1 2) ((y1 + y2) * mkRat 1 2)) := by
 have X1 := hidP hx1; have Y1 := hidP hy1; have X2 := hidP hx2; have Y2 := hidP hy2
 have a1 := ql_add (hx1.ql hN1) (hx2.ql hN1); have a2 := ql_add (hy1.ql hN1) (hy2.ql hN1)
 have L1 := hidP a1; have L2 := hidP a2
 have A1 := hidP (fun u (t1 : Fq u bx1 ax1 nx1 cx1 dx1 mx1 kx1 x1 N) (t2 : Fq u bx2 ax2 nx2 cx2 dx2 mx2 kx2 x2 N) => fq_Add t1 t2 (by omega) (by omega))
 have A2 := hidP (fun u (t1 : Fq u by1 ay1 ny1 cy1 dy1 my1 ky1 y1 N) (t2 : Fq u by2 ay2 ny2 cy2 dy2 my2 ky2 y2 N) => fq_Add t1 t2 (by omega) (by omega))
 have H1 := hidP (fun u {g1 : Bool} {e1 f1 : Option Addr} {i1 j1 p1 q1 : Nat} (t1 : Fq u g1 e1 i1 j1 f1 p1 q1 (x1 + x2) (N + N + 1)) => fq_Half t1 (by omega))
 have H2 := hidP (fun u {g1 : Bool} {e1 f1 : Option Addr} {i1 j1 p1 q1 : Nat} (t1 : Fq u g1 e1 i1 j1 f1 p1 q1 (y1 + y2) (N + N + 1)) => fq_Half t1 (by omega))
 clear hx1 hy1 hx2 hy2 a1 a2
 generalize (x1 + x2) * mkRat 1 2 = r1 at *
 generalize (y1 + y2) * mkRat 1 2 = r2 at *
 generalize x1 + x2 = v1 at *
 generalize y1 + y2 = v2 at *
 go_enter Tryz.func46, Tryz.ntmps46
 go_wp2_with fail
 refine absW (fun x1 hx1 => ?_)
 have hx : Ext w x1 := by rw [hx1]; exact ((((Ext.refl _).alloc _).alloc _).alloc _)
 have bp : Bl x1 (w.heap.size) #[.bool bx1, .slice ax1 nx1 cx1, .slice dx1 mx1 kx1, .bool by1, .slice ay1 ny1 cy1, .slice dy1 my1 ky1] := by rw [hx1]; exact (((Bl.new (by simp)).alloc (by simp)).alloc (by simp))
 have bq : Bl x1 (w.heap.size + 1) #[.bool bx2, .slice ax2 nx2 cx2, .slice dx2 mx2 kx2, .bool by2, .slice ay2 ny2 cy2, .slice dy2 my2 ky2] := by rw [hx1]; exact ((Bl.new (by simp)).alloc (by simp))
 have bs : Bl x1 (w.heap.size + 1 + 1) #[.bool false, .slice none 0 0, .slice none 0 0, .bool false, .slice none 0 0, .slice none 0 0] := by rw [hx1]; exact (Bl.new (by simp))
 have fs : Fz x1 (w.heap.size + 1 + 1) := by rw [hx1]; exact (Fz.new (by simp))
 have HE := hx
 clear hx
 clear hx1
 refine wp_region_plan (R := Ext) (.q 0 (.q 1 (.q 2 (.q 3 (.q 6 (.q 7 (.q 8 (.q 9 (.l 4 (.l 5 (.l 10 (.l 11 (.q 12 (.b 13 .done)))))))))))))) (by kernel_rfl) (by kernel_rfl) (by kernel_rfl) (by kernel_rfl) Ext.refl (fun _ _ _ => Ext.trans) ?_
 refine absE (fun x2 hx2 => ?_)
 have hx : Ext x1 x2 := by rw [hx2]; exact (Ext.refl _).drew
 replace bp := q1b hx bp
 replace bq := q1b hx bq
 replace fs := q1f hx fs bs
 replace bs := q1b hx bs
 replace HE := HE.trans hx
 clear hx
 clear hx2
 repeat (refine wpE_q (v := ?_) rfl rfl (fun u hu => ?_) ?_; rotate_left 1; (focus (have kp := q1b hu bp; have kq := q1b hu bq; have ks := q1b hu bs; go_simp; (try rfl))); simp only [PU])
 refine wpE_l rfl rfl (fun K hK => ?_)
 go_simp
 refine (A1.out _ (X1.out.ext HE) (X2.out.ext HE)).mono ?_
 rintro e u11 ⟨a11, n11, c11, d11, m11, k11, rfl, hs11, ht11, hx⟩
 refine hK.out _ _ hx ?_
 clear hK K
 try simp only [PU]
 replace bp := q1b hx bp
 replace bq := q1b hx bq
 replace fs := q1f hx fs bs
 replace bs := q1b hx bs
 replace HE := HE.trans hx
 clear hx
 replace hs11 : Nc u11 a11 n11 c11 (v1.num).natAbs := hs11
 replace ht11 : Nc u11 d11 m11 k11 (v1.den) := ht11
 refine wpE_l rfl rfl (fun K hK => ?_)
 go_simp
 refine (H1.out _ (fq_of hs11 ht11 L1.out (by omega))).mono ?_
 rintro e u12 ⟨a12, n12, c12, d12, m12, k12, rfl, hs12, ht12, hx⟩
 refine hK.out _ _ hx ?_
 clear hK K
 try simp only [PU]
 replace bp := q1b hx bp
 replace bq := q1b hx bq
 replace fs := q1f hx fs bs
 replace bs := q1b hx bs
 replace hs11 := hs11.ext hx
 replace ht11 := ht11.ext hx
 replace HE := HE.trans hx
 clear hx
 replace hs12 : Nc u12 a12 n12 c12 (r1.num).natAbs := hs12
 replace ht12 : Nc u12 d12 m12 k12 (r1.den) := ht12
 refine wpE_l rfl rfl (fun K hK => ?_)
 go_simp
 refine (A2.out _ (Y1.out.ext HE) (Y2.out.ext HE)).mono ?_
 rintro e u13 ⟨a13, n13, c13, d13, m13, k13, rfl, hs13, ht13, hx⟩
 refine hK.out _ _ hx ?_
 clear hK K
 try simp only [PU]
 replace bp := q1b hx bp
 replace bq := q1b hx bq
 replace fs := q1f hx fs bs
 replace bs := q1b hx bs
 replace hs11 := hs11.ext hx
 replace ht11 := ht11.ext hx
 replace hs12 := hs12.ext hx
 replace ht12 := ht12.ext hx
 replace HE := HE.trans hx
 clear hx
 replace hs13 : Nc u13 a13 n13 c13 (v2.num).natAbs := hs13
 replace ht13 : Nc u13 d13 m13 k13 (v2.den) := ht13
 refine wpE_l rfl rfl (fun K hK => ?_)
 go_simp
 refine (H2.out _ (fq_of hs13 ht13 L2.out (by omega))).mono ?_
 rintro e u14 ⟨a14, n14, c14, d14, m14, k14, rfl, hs14, ht14, hx⟩
 refine hK.out _ _ hx ?_
 clear hK K
 try simp only [PU]
 replace bp := q1b hx bp
 replace bq := q1b hx bq
 replace fs := q1f hx fs bs
 replace bs := q1b hx bs
 replace hs11 := hs11.ext hx
 replace ht11 := ht11.ext hx
 replace hs12 := hs12.ext hx
 replace ht12 := ht12.ext hx
 replace hs13 := hs13.ext hx
 replace ht13 := ht13.ext hx
 replace HE := HE.trans hx
 clear hx
 replace hs14 : Nc u14 a14 n14 c14 (r2.num).natAbs := hs14
 replace ht14 : Nc u14 d14 m14 k14 (r2.den) := ht14
 repeat (refine wpE_q (v := ?_) rfl rfl (fun u hu => ?_) ?_; rotate_left 1; (focus (have kp := q1b hu bp; have kq := q1b hu bq; have ks := q1b hu bs; go_simp; (try rfl))); simp only [PU])
 refine wpE_b rfl rfl (fun K hK => ?_)
 go_simp
 have lps := bs.lt (Nat.succ_pos _)
 refine hK.out _ _ ?_
 clear hK K
 try simp only [PU]
 refine absE (fun x3 hx3 => ?_)
 have hbut : But u14 x3 (w.heap.size + 1 + 1) := by rw [hx3]; exact (But.refl _ _).store.store.store.store.store.store
 have hbn : Bl x3 (w.heap.size + 1 + 1) #[.bool (decide (r1.num < 0)), .slice a12 n12 c12, .slice d12 m12 k12, .bool (decide (r2.num < 0)), .slice a14 n14 c14, .slice d14 m14 k14] := by rw [hx3]; exact (Bl.set (Bl.set (Bl.set (Bl.set (Bl.set (Bl.set bs (by simp)) (by simp)) (by simp)) (by simp)) (by simp)) (by simp))
 have hni : ∀ (j : Nat) (x : Int), (#[.bool false, .slice none 0 0, .slice none 0 0, .bool false, .slice none 0 0, .slice none 0 0] : Array Value)[j]? ≠ some (Value.int .u32 x) := (not_ints6 nb_bool nb_slice nb_slice nb_bool nb_slice nb_slice)
 replace hs11 := hs11.but bs hni hbut
 replace ht11 := ht11.but bs hni hbut
 replace hs12 := hs12.but bs hni hbut
 replace ht12 := ht12.but bs hni hbut
 replace hs13 := hs13.but bs hni hbut
 replace ht13 := ht13.but bs hni hbut
 replace hs14 := hs14.but bs hni hbut
 replace ht14 := ht14.but bs hni hbut
 clear hni
 replace bp := But.bl hbut bp (Nat.succ_pos _) (by omega)
 replace bq := But.bl hbut bq (Nat.succ_pos _) (by omega)
 replace fs : Fz x3 (w.heap.size + 1 + 1) := by rw [hx3]; exact (Fz.set (Fz.set (Fz.set (Fz.set (Fz.set (Fz.set fs))))))
 have hle : w.heap.size ≤ w.heap.size + 1 + 1 := by omega
 replace HE : Ext w x3 := by rw [hx3]; exact ((((((HE.store hle _).store hle _).store hle _).store hle _).store hle _).store hle _)
 clear hle
 clear bs hbut hx3
 have bs := hbn
 clear hbn
 refine wpE_done ?_
 go_wp2_with fail
 refine bodyPost_cells rfl rfl Tryz.underlying31 rfl (by kernel_rfl) (bl_any bs) rfl ?_
 exact ⟨_, _, _, _, _, _, _, _, _, _, _, _, rfl, hs12, ht12, hs14, ht14, HE⟩
set_option maxRecDepth 100000 in
set_option maxHeartbeats 8000000 in
theorem rp_Toward {bx1 by1 : Bool} {ax1 dx1 ay1 dy1 : Option Addr} {nx1 cx1 mx1 kx1 ny1 cy1 my1 ky1 : Nat} {x1 y1 : Rat} {bx2 by2 : Bool} {ax2 dx2 ay2 dy2 : Option Addr} {nx2 cx2 mx2 kx2 ny2 cy2 my2 ky2 : Nat} {x2 y2 : Rat} {b : Bool} {a d : Option Addr} {n c m k : Nat} {t : Rat} {N : Nat} (w : World) (hx1 : Fq w bx1 ax1 nx1 cx1 dx1 mx1 kx1 x1 N) (hy1 : Fq w by1 ay1 ny1 cy1 dy1 my1 ky1 y1 N) (hx2 : Fq w bx2 ax2 nx2 cx2 dx2 mx2 kx2 x2 N) (hy2 : Fq w by2 ay2 ny2 cy2 dy2 my2 ky2 y2 N) (ht : Fq w b a n c d m k t N) (hN : N ≤ 8589934592) (hN1 : 1 ≤ N) :
    Calls Tryz.prog 18 #[.agg #[.bool bx1, .slice ax1 nx1 cx1, .slice dx1 mx1 kx1, .bool by1, .slice ay1 ny1 cy1, .slice dy1 my1 ky1], .agg #[.bool bx2, .slice ax2 nx2 cx2, .slice dx2 mx2 kx2, .bool by2, .slice ay2 ny2 cy2, .slice dy2 my2 ky2], .agg #[.bool b, .slice a n c, .slice d m k]] w (RetS w (x1 + t * (x2 - x1)) (y1 + t * (y2 - y1))) := by
 have X1 := hidP hx1; have Y1 := hidP hy1; have X2 := hidP hx2; have Y2 := hidP hy2; have TT := hidP ht
 have a1 := ql_sub (hx2.ql hN1) (hx1.ql hN1); have a2 := ql_sub (hy2.ql hN1) (hy1.ql hN1)
 have m1 := ql_mul (ht.ql hN1) a1 hN1; have m2 := ql_mul (ht.ql hN1) a2 hN1
 have L1 := hidP a1; have L2 := hidP a2; have M1 := hidP m1; have M2 := hidP m2
 have A1 := hidP (fun u (t1 : Fq u bx2 ax2 nx2 cx2 dx2 mx2 kx2 x2 N) (t2 : Fq u bx1 ax1 nx1 cx1 dx1 mx1 kx1 x1 N) => gq_Sub t1 t2 (by omega) (by omega) hN1)
 have A2 := hidP (fun u (t1 : Fq u by2 ay2 ny2 cy2 dy2 my2 ky2 y2 N) (t2 : Fq u by1 ay1 ny1 cy1 dy1 my1 ky1 y1 N) => gq_Sub t1 t2 (by omega) (by omega) hN1)
 have B1 := hidP (fun u {g1 : Bool} {e1 f1 : Option Addr} {i1 j1 p1 q1 : Nat} (t1 : Fq u b a n c d m k t N) (t2 : Fq u g1 e1 i1 j1 f1 p1 q1 (x2 - x1) (N + N + 1)) => gq_Mul t1 t2 (by omega) (by omega))
 have B2 := hidP (fun u {g1 : Bool} {e1 f1 : Option Addr} {i1 j1 p1 q1 : Nat} (t1 : Fq u b a n c d m k t N) (t2 : Fq u g1 e1 i1 j1 f1 p1 q1 (y2 - y1) (N + N + 1)) => gq_Mul t1 t2 (by omega) (by omega))
 have C1 := hidP (fun u {g1 : Bool} {e1 f1 : Option Addr} {i1 j1 p1 q1 : Nat} (t1 : Fq u bx1 ax1 nx1 cx1 dx1 mx1 kx1 x1 N) (t2 : Fq u g1 e1 i1 j1 f1 p1 q1 (t * (x2 - x1)) (N + (N + N + 1))) => gq_Add t1 t2 (by omega) (by omega))
 have C2 := hidP (fun u {g1 : Bool} {e1 f1 : Option Addr} {i1 j1 p1 q1 : Nat} (t1 : Fq u by1 ay1 ny1 cy1 dy1 my1 ky1 y1 N) (t2 : Fq u g1 e1 i1 j1 f1 p1 q1 (t * (y2 - y1)) (N + (N + N + 1))) => gq_Add t1 t2 (by omega) (by omega))
 clear hx1 hy1 hx2 hy2 ht a1 a2 m1 m2
 generalize x1 + t * (x2 - x1) = r1 at *
 generalize y1 + t * (y2 - y1) = r2 at *
 generalize t * (x2 - x1) = p1 at *
 generalize t * (y2 - y1) = p2 at *
 generalize x2 - x1 = v1 at *
 generalize y2 - y1 = v2 at *
 go_enter Tryz.func18, Tryz.ntmps18
 go_wp2_with fail
 refine absW (fun x1 hx1 => ?_)
 have hx : Ext w x1 := by rw [hx1]; exact (((((Ext.refl _).alloc _).alloc _).alloc _).alloc _)
 have bp : Bl x1 (w.heap.size) #[.bool bx1, .slice ax1 nx1 cx1, .slice dx1 mx1 kx1, .bool by1, .slice ay1 ny1 cy1, .slice dy1 my1 ky1] := by rw [hx1]; exact ((((Bl.new (by simp)).alloc (by simp)).alloc (by simp)).alloc (by simp))
 have bq : Bl x1 (w.heap.size + 1) #[.bool bx2, .slice ax2 nx2 cx2, .slice dx2 mx2 kx2, .bool by2, .slice ay2 ny2 cy2, .slice dy2 my2 ky2] := by rw [hx1]; exact (((Bl.new (by simp)).alloc (by simp)).alloc (by simp))
 have bt : Bl x1 (w.heap.size + 1 + 1) #[.bool b, .slice a n c, .slice d m k] := by rw [hx1]; exact ((Bl.new (by simp)).alloc (by simp))
 have bs : Bl x1 (w.heap.size + 1 + 1 + 1) #[.bool false, .slice none 0 0, .slice none 0 0, .bool false, .slice none 0 0, .slice none 0 0] := by rw [hx1]; exact (Bl.new (by simp))
 have fs : Fz x1 (w.heap.size + 1 + 1 + 1) := by rw [hx1]; exact (Fz.new (by simp))
 have HE := hx
 clear hx
 clear hx1
 refine wp_region_plan (R := Ext) (.q 0 (.q 1 (.q 2 (.q 3 (.q 4 (.q 5 (.q 6 (.q 10 (.q 11 (.q 12 (.q 13 (.q 14 (.q 15 (.q 16 (.l 7 (.l 8 (.l 9 (.l 17 (.l 18 (.l 19 (.q 20 (.b 21 .done)))))))))))))))))))))) (by kernel_rfl) (by kernel_rfl) (by kernel_rfl) (by kernel_rfl) Ext.refl (fun _ _ _ => Ext.trans) ?_
 refine absE (fun x2 hx2 => ?_)
 have hx : Ext x1 x2 := by rw [hx2]; exact (Ext.refl _).drew
 replace bp := q1b hx bp
 replace bq := q1b hx bq
 replace bt := q1b hx bt
 replace fs := q1f hx fs bs
 replace bs := q1b hx bs
 replace HE := HE.trans hx
 clear hx
 clear hx2
 repeat (refine wpE_q (v := ?_) rfl rfl (fun u hu => ?_) ?_; rotate_left 1; (focus (have kp := q1b hu bp; have kq := q1b hu bq; have kt := q1b hu bt; have ks := q1b hu bs; go_simp; (try rfl))); simp only [PU])
 refine wpE_l rfl rfl (fun K hK => ?_)
 go_simp
 refine (A1.out _ (X2.out.ext HE) (X1.out.ext HE)).mono ?_
 rintro e u11 ⟨a11, n11, c11, d11, m11, k11, rfl, hs11, ht11, hx⟩
 refine hK.out _ _ hx ?_
 clear hK K
 try simp only [PU]
 replace bp := q1b hx bp
 replace bq := q1b hx bq
 replace bt := q1b hx bt
 replace fs := q1f hx fs bs
 replace bs := q1b hx bs
 replace HE := HE.trans hx
 clear hx
 replace hs11 : Nc u11 a11 n11 c11 (v1.num).natAbs := hs11
 replace ht11 : Nc u11 d11 m11 k11 (v1.den) := ht11
 refine wpE_l rfl rfl (fun K hK => ?_)
 go_simp
 refine (B1.out _ (TT.out.ext HE) (fq_of hs11 ht11 L1.out (by omega))).mono ?_
 rintro e u12 ⟨a12, n12, c12, d12, m12, k12, rfl, hs12, ht12, hx⟩
 refine hK.out _ _ hx ?_
 clear hK K
 try simp only [PU]
 replace bp := q1b hx bp
 replace bq := q1b hx bq
 replace bt := q1b hx bt
 replace fs := q1f hx fs bs
 replace bs := q1b hx bs
 replace hs11 := hs11.ext hx
 replace ht11 := ht11.ext hx
 replace HE := HE.trans hx
 clear hx
 replace hs12 : Nc u12 a12 n12 c12 (p1.num).natAbs := hs12
 replace ht12 : Nc u12 d12 m12 k12 (p1.den) := ht12
 refine wpE_l rfl rfl (fun K hK => ?_)
 go_simp
 refine (C1.out _ (X1.out.ext HE) (fq_of hs12 ht12 M1.out (by omega))).mono ?_
 rintro e u13 ⟨a13, n13, c13, d13, m13, k13, rfl, hs13, ht13, hx⟩
 refine hK.out _ _ hx ?_
 clear hK K
 try simp only [PU]
 replace bp := q1b hx bp
 replace bq := q1b hx bq
 replace bt := q1b hx bt
 replace fs := q1f hx fs bs
 replace bs := q1b hx bs
 replace hs11 := hs11.ext hx
 replace ht11 := ht11.ext hx
 replace hs12 := hs12.ext hx
 replace ht12 := ht12.ext hx
 replace HE := HE.trans hx
 clear hx
 replace hs13 : Nc u13 a13 n13 c13 (r1.num).natAbs := hs13
 replace ht13 : Nc u13 d13 m13 k13 (r1.den) := ht13
 refine wpE_l rfl rfl (fun K hK => ?_)
 go_simp
 refine (A2.out _ (Y2.out.ext HE) (Y1.out.ext HE)).mono ?_
 rintro e u14 ⟨a14, n14, c14, d14, m14, k14, rfl, hs14, ht14, hx⟩
 refine hK.out _ _ hx ?_
 clear hK K
 try simp only [PU]
 replace bp := q1b hx bp
 replace bq := q1b hx bq
 replace bt := q1b hx bt
 replace fs := q1f hx fs bs
 replace bs := q1b hx bs
 replace hs11 := hs11.ext hx
 replace ht11 := ht11.ext hx
 replace hs12 := hs12.ext hx
 replace ht12 := ht12.ext hx
 replace hs13 := hs13.ext hx
 replace ht13 := ht13.ext hx
 replace HE := HE.trans hx
 clear hx
 replace hs14 : Nc u14 a14 n14 c14 (v2.num).natAbs := hs14
 replace ht14 : Nc u14 d14 m14 k14 (v2.den) := ht14
 refine wpE_l rfl rfl (fun K hK => ?_)
 go_simp
 refine (B2.out _ (TT.out.ext HE) (fq_of hs14 ht14 L2.out (by omega))).mono ?_
 rintro e u15 ⟨a15, n15, c15, d15, m15, k15, rfl, hs15, ht15, hx⟩
 refine hK.out _ _ hx ?_
 clear hK K
 try simp only [PU]
 replace bp := q1b hx bp
 replace bq := q1b hx bq
 replace bt := q1b hx bt
 replace fs := q1f hx fs bs
 replace bs := q1b hx bs
 replace hs11 := hs11.ext hx
 replace ht11 := ht11.ext hx
 replace hs12 := hs12.ext hx
 replace ht12 := ht12.ext hx
 replace hs13 := hs13.ext hx
 replace ht13 := ht13.ext hx
 replace hs14 := hs14.ext hx
 replace ht14 := ht14.ext hx
 replace HE := HE.trans hx
 clear hx
 replace hs15 : Nc u15 a15 n15 c15 (p2.num).natAbs := hs15
 replace ht15 : Nc u15 d15 m15 k15 (p2.den) := ht15
 refine wpE_l rfl rfl (fun K hK => ?_)
 go_simp
 refine (C2.out _ (Y1.out.ext HE) (fq_of hs15 ht15 M2.out (by omega))).mono ?_
 rintro e u16 ⟨a16, n16, c16, d16, m16, k16, rfl, hs16, ht16, hx⟩
 refine hK.out _ _ hx ?_
 clear hK K
 try simp only [PU]
 replace bp := q1b hx bp
 replace bq := q1b hx bq
 replace bt := q1b hx bt
 replace fs := q1f hx fs bs
 replace bs := q1b hx bs
 replace hs11 := hs11.ext hx
 replace ht11 := ht11.ext hx
 replace hs12 := hs12.ext hx
 replace ht12 := ht12.ext hx
 replace hs13 := hs13.ext hx
 replace ht13 := ht13.ext hx
 replace hs14 := hs14.ext hx
 replace ht14 := ht14.ext hx
 replace hs15 := hs15.ext hx
 replace ht15 := ht15.ext hx
 replace HE := HE.trans hx
 clear hx
 replace hs16 : Nc u16 a16 n16 c16 (r2.num).natAbs := hs16
 replace ht16 : Nc u16 d16 m16 k16 (r2.den) := ht16
 repeat (refine wpE_q (v := ?_) rfl rfl (fun u hu => ?_) ?_; rotate_left 1; (focus (have kp := q1b hu bp; have kq := q1b hu bq; have kt := q1b hu bt; have ks := q1b hu bs; go_simp; (try rfl))); simp only [PU])
 refine wpE_b rfl rfl (fun K hK => ?_)
 go_simp
 have lps := bs.lt (Nat.succ_pos _)
 refine hK.out _ _ ?_
 clear hK K
 try simp only [PU]
 refine absE (fun x3 hx3 => ?_)
 have hbut : But u16 x3 (w.heap.size + 1 + 1 + 1) := by rw [hx3]; exact (But.refl _ _).store.store.store.store.store.store
 have hbn : Bl x3 (w.heap.size + 1 + 1 + 1) #[.bool (decide (r1.num < 0)), .slice a13 n13 c13, .slice d13 m13 k13, .bool (decide (r2.num < 0)), .slice a16 n16 c16, .slice d16 m16 k16] := by rw [hx3]; exact (Bl.set (Bl.set (Bl.set (Bl.set (Bl.set (Bl.set bs (by simp)) (by simp)) (by simp)) (by simp)) (by simp)) (by simp))
 have hni : ∀ (j : Nat) (x : Int), (#[.bool false, .slice none 0 0, .slice none 0 0, .bool false, .slice none 0 0, .slice none 0 0] : Array Value)[j]? ≠ some (Value.int .u32 x) := (not_ints6 nb_bool nb_slice nb_slice nb_bool nb_slice nb_slice)
 replace hs11 := hs11.but bs hni hbut
 replace ht11 := ht11.but bs hni hbut
 replace hs12 := hs12.but bs hni hbut
 replace ht12 := ht12.but bs hni hbut
 replace hs13 := hs13.but bs hni hbut
 replace ht13 := ht13.but bs hni hbut
 replace hs14 := hs14.but bs hni hbut
 replace ht14 := ht14.but bs hni hbut
 replace hs15 := hs15.but bs hni hbut
 replace ht15 := ht15.but bs hni hbut
 replace hs16 := hs16.but bs hni hbut
 replace ht16 := ht16.but bs hni hbut
 clear hni
 replace bp := But.bl hbut bp (Nat.succ_pos _) (by omega)
 replace bq := But.bl hbut bq (Nat.succ_pos _) (by omega)
 replace bt := But.bl hbut bt (Nat.succ_pos _) (by omega)
 replace fs : Fz x3 (w.heap.size + 1 + 1 + 1) := by rw [hx3]; exact (Fz.set (Fz.set (Fz.set (Fz.set (Fz.set (Fz.set fs))))))
 have hle : w.heap.size ≤ w.heap.size + 1 + 1 + 1 := by omega
 replace HE : Ext w x3 := by rw [hx3]; exact ((((((HE.store hle _).store hle _).store hle _).store hle _).store hle _).store hle _)
 clear hle
 clear bs hbut hx3
 have bs := hbn
 clear hbn
 refine wpE_done ?_
 go_wp2_with fail
 refine bodyPost_cells rfl rfl Tryz.underlying31 rfl (by kernel_rfl) (bl_any bs) rfl ?_
 exact ⟨_, _, _, _, _, _, _, _, _, _, _, _, rfl, hs13, ht13, hs16, ht16, HE⟩
theorem toward_mid (x1 x2 : Rat) : x1 + mkRat 1 2 * (x2 - x1) = (x1 + x2) * mkRat 1 2 := by
  rw [Rat.mkRat_eq_div]
  push_cast
  grind
end Go.Proofs.YtgjjalnmigdjgaaGreat
