/- Spots: on which side of a way. -/
import Derived.Test.YtgjjalnmigdjgaaGreatU1
namespace Go.Proofs.YtgjjalnmigdjgaaGreat
set_option linter.unusedVariables false
set_option linter.unusedSimpArgs false
open Go Go.RowKit
theorem nu_wh {w : World} {a : Option Addr} {n c V : Nat} (h : Nu w a n c V) (hn : n ≤ 549755813888) : WhIn w false a n c (V : Int) := by
  obtain ⟨⟨l, hs, hl, rfl⟩, _⟩ := h
  exact ⟨⟨l, hs, hl, by unfold wz; simp⟩, hn⟩
theorem mk_less (z : Int) (D : Nat) (h : D ≠ 0) (n : Int) : mkRat z D - (n : Rat) = mkRat (z - n * (D : Int)) D := by
  have hd : (D : Rat) ≠ 0 := by exact_mod_cast h
  rw [Rat.mkRat_eq_div, Rat.mkRat_eq_div]
  push_cast
  grind
theorem mk_times (n : Int) (z : Int) (D E : Nat) (h : D ≠ 0) (h' : E ≠ 0) : (n : Rat) * mkRat z D = mkRat (n * z * (E : Int)) (D * E) := by
  have hd : (D : Rat) ≠ 0 := by exact_mod_cast h
  have he : (E : Rat) ≠ 0 := by exact_mod_cast h'
  rw [Rat.mkRat_eq_div, Rat.mkRat_eq_div]
  push_cast
  grind
set_option maxRecDepth 100000 in
set_option maxHeartbeats 4000000 in
theorem sp_over {b : Bool} {a d : Option Addr} {n c m k : Nat} {z : Int} {D : Nat} (i : Int) (w : World) (h : WhIn w b a n c z) (hd : Nu w d m k D) (hm : m ≤ 549755813888) (hz : dl z.natAbs ≤ 137438953472) (hD : dl D ≤ 137438953472) (i1 : -9223372036854775808 ≤ i) (i2 : i ≤ 9223372036854775807) :
    Calls Tryz.prog 130 #[.agg #[.bool b, .slice a n c, .slice d m k], .int .i64 i] w (RetW w (z - i * (D : Int))) := by
 have H := hidP h
 have HD := hidP hd
 have w1 := wd_int i1 i2
 have hb1 : dl (i * (D : Int)).natAbs ≤ 137438953476 := by have := dz_mul i (D : Int); rw [Int.natAbs_natCast] at this; omega
 have HO := hidP (fun u => w_Of i u i1 i2)
 have HM := hidP (fun u b1 a1 n1 c1 (t1 : WhIn u b1 a1 n1 c1 i) (t2 : WhIn u false d m k (D : Int)) => w_Mul t1 t2)
 have HS := hidP (fun u b1 a1 n1 c1 (t1 : WhIn u b a n c z) (t2 : WhIn u b1 a1 n1 c1 (i * (D : Int))) => w_Sub_any b b1 a a1 n c n1 c1 z (i * (D : Int)) u t1 t2)
 have L1 := hidP (show dl i.natAbs ≤ 549755813888 by omega)
 have L2 := hidP (show dl (i * (D : Int)).natAbs ≤ 549755813888 by omega)
 generalize hr : i * (D : Int) = r at *
 generalize hy : z - r = y at *
 clear h hd hr hy hb1 w1
 go_enter Tryz.func130, Tryz.ntmps130
 go_wp2_with fail
 refine absW (fun x1 hx1 => ?_)
 have hx : Ext w x1 := by rw [hx1]; exact (((Ext.refl _).alloc _).alloc _)
 have bp : Bl x1 (w.heap.size) #[.bool b, .slice a n c, .slice d m k] := by rw [hx1]; exact ((Bl.new (by simp)).alloc (by simp))
 have bs : Bl x1 (w.heap.size + 1) #[.bool false, .slice none 0 0] := by rw [hx1]; exact (Bl.new (by simp))
 have fs : Fz x1 (w.heap.size + 1) := by rw [hx1]; exact (Fz.new (by simp))
 have HE := hx
 clear hx
 clear hx1
 refine wp_region_plan (R := Ext) (.q 0 (.q 1 (.q 2 (.q 4 (.q 5 (.q 6 (.l 3 (.l 7 (.l 8 (.b 9 .done)))))))))) (by kernel_rfl) (by kernel_rfl) (by kernel_rfl) (by kernel_rfl) Ext.refl (fun _ _ _ => Ext.trans) ?_
 refine absE (fun x2 hx2 => ?_)
 have hx : Ext x1 x2 := by rw [hx2]; exact (Ext.refl _).drew
 replace bp := q1b hx bp
 replace fs := q1f hx fs bs
 replace bs := q1b hx bs
 replace HE := HE.trans hx
 clear hx
 clear hx2
 repeat (refine wpE_q (v := ?_) rfl rfl (fun u hu => ?_) ?_; rotate_left 1; (focus (have kp := q1b hu bp; have ks := q1b hu bs; go_simp; (try rfl))); simp only [PU])
 refine wpE_l rfl rfl (fun K hK => ?_)
 go_simp
 refine (HO.out _).mono ?_
 rintro e u1 ⟨a1, n1, c1, rfl, hs1, hx⟩
 refine hK.out _ _ hx ?_
 clear hK K
 try simp only [PU]
 replace bp := q1b hx bp
 replace fs := q1f hx fs bs
 replace bs := q1b hx bs
 replace HE := HE.trans hx
 clear hx
 replace hs1 : Nc u1 a1 n1 c1 (i).natAbs := hs1
 refine wpE_l rfl rfl (fun K hK => ?_)
 go_simp
 refine (HM.out _ _ _ _ _ (hs1.wh L1.out) (nu_wh (HD.out.ext HE) hm)).mono ?_
 rintro e u2 ⟨a2, n2, c2, rfl, hs2, hx⟩
 refine hK.out _ _ hx ?_
 clear hK K
 try simp only [PU]
 replace bp := q1b hx bp
 replace fs := q1f hx fs bs
 replace bs := q1b hx bs
 replace hs1 := hs1.ext hx
 replace HE := HE.trans hx
 clear hx
 replace hs2 : Nc u2 a2 n2 c2 (r).natAbs := hs2
 refine wpE_l rfl rfl (fun K hK => ?_)
 go_simp
 refine (HS.out _ _ _ _ _ (H.out.ext HE) (hs2.wh L2.out)).mono ?_
 rintro e u3 ⟨a3, n3, c3, rfl, hs3, hx⟩
 refine hK.out _ _ hx ?_
 clear hK K
 try simp only [PU]
 replace bp := q1b hx bp
 replace fs := q1f hx fs bs
 replace bs := q1b hx bs
 replace hs1 := hs1.ext hx
 replace hs2 := hs2.ext hx
 replace HE := HE.trans hx
 clear hx
 replace hs3 : Nc u3 a3 n3 c3 (y).natAbs := hs3
 refine wpE_b rfl rfl (fun K hK => ?_)
 go_simp
 refine hK.out _ _ ?_
 clear hK K
 try simp only [PU]
 refine absE (fun x3 hx3 => ?_)
 have hbut : But u3 x3 (w.heap.size + 1) := by rw [hx3]; exact (But.refl _ _).store.store
 have hbn : Bl x3 (w.heap.size + 1) #[.bool (decide (y < 0)), .slice a3 n3 c3] := by rw [hx3]; exact (Bl.set (Bl.set bs (by simp)) (by simp))
 have hni : ∀ (j : Nat) (x : Int), (#[.bool false, .slice none 0 0] : Array Value)[j]? ≠ some (Value.int .u32 x) := (not_ints2 nb_bool nb_slice)
 replace hs1 := hs1.but bs hni hbut
 replace hs2 := hs2.but bs hni hbut
 replace hs3 := hs3.but bs hni hbut
 clear hni
 replace bp := But.bl hbut bp (Nat.succ_pos _) (by omega)
 replace fs : Fz x3 (w.heap.size + 1) := by rw [hx3]; exact (Fz.set (Fz.set fs))
 have hle : w.heap.size ≤ w.heap.size + 1 := by omega
 replace HE : Ext w x3 := by rw [hx3]; exact ((HE.store hle _).store hle _)
 clear hle
 clear bs hbut hx3
 have bs := hbn
 clear hbn
 refine wpE_done ?_
 go_wp2_with fail
 refine bodyPost_cells rfl rfl Tryz.underlying27 rfl (by kernel_rfl) (bl_two bs) rfl ?_
 exact ⟨_, _, _, rfl, hs3, HE⟩
/-- On which side of a way a spot is. -/
def sideR (x1 y1 x2 y2 x3 y3 : Rat) : Int := cmpQ ((x2 - x1) * (y3 - y1)) ((y2 - y1) * (x3 - x1))
set_option maxRecDepth 100000 in
set_option maxHeartbeats 8000000 in
theorem sp_Turn {bx1 by1 : Bool} {ax1 dx1 ay1 dy1 : Option Addr} {nx1 cx1 mx1 kx1 ny1 cy1 my1 ky1 : Nat} {x1 y1 : Rat} {bx2 by2 : Bool} {ax2 dx2 ay2 dy2 : Option Addr} {nx2 cx2 mx2 kx2 ny2 cy2 my2 ky2 : Nat} {x2 y2 : Rat} {bx3 by3 : Bool} {ax3 dx3 ay3 dy3 : Option Addr} {nx3 cx3 mx3 kx3 ny3 cy3 my3 ky3 : Nat} {x3 y3 : Rat} {N : Nat} (w : World) (hx1 : Fq w bx1 ax1 nx1 cx1 dx1 mx1 kx1 x1 N) (hy1 : Fq w by1 ay1 ny1 cy1 dy1 my1 ky1 y1 N) (hx2 : Fq w bx2 ax2 nx2 cx2 dx2 mx2 kx2 x2 N) (hy2 : Fq w by2 ay2 ny2 cy2 dy2 my2 ky2 y2 N) (hx3 : Fq w bx3 ax3 nx3 cx3 dx3 mx3 kx3 x3 N) (hy3 : Fq w by3 ay3 ny3 cy3 dy3 my3 ky3 y3 N) (hN : N ≤ 17179869184) (hN1 : 1 ≤ N) :
    Calls Tryz.prog 128 #[.agg #[.bool bx1, .slice ax1 nx1 cx1, .slice dx1 mx1 kx1, .bool by1, .slice ay1 ny1 cy1, .slice dy1 my1 ky1], .agg #[.bool bx2, .slice ax2 nx2 cx2, .slice dx2 mx2 kx2, .bool by2, .slice ay2 ny2 cy2, .slice dy2 my2 ky2], .agg #[.bool bx3, .slice ax3 nx3 cx3, .slice dx3 mx3 kx3, .bool by3, .slice ay3 ny3 cy3, .slice dy3 my3 ky3]] w fun e w' => e = .returned (.int .i64 (sideR x1 y1 x2 y2 x3 y3)) ∧ Ext w w' := by
 have X1 := hidP hx1; have Y1 := hidP hy1; have X2 := hidP hx2; have Y2 := hidP hy2; have X3 := hidP hx3; have Y3 := hidP hy3
 have a1 := hx1.ql hN1; have a2 := hy1.ql hN1; have a3 := hx2.ql hN1; have a4 := hy2.ql hN1; have a5 := hx3.ql hN1; have a6 := hy3.ql hN1
 have s1 := ql_sub a3 a1; have s2 := ql_sub a6 a2; have s3 := ql_sub a4 a2; have s4 := ql_sub a5 a1
 have L1 := hidP s1; have L2 := hidP s2; have L3 := hidP s3; have L4 := hidP s4
 have M1 := hidP (ql_mul s1 s2 (by omega)); have M2 := hidP (ql_mul s3 s4 (by omega))
 have A1 := hidP (fun u (t1 : Fq u bx2 ax2 nx2 cx2 dx2 mx2 kx2 x2 N) (t2 : Fq u bx1 ax1 nx1 cx1 dx1 mx1 kx1 x1 N) => fq_Sub t1 t2 (by omega) (by omega))
 have A2 := hidP (fun u (t1 : Fq u by3 ay3 ny3 cy3 dy3 my3 ky3 y3 N) (t2 : Fq u by1 ay1 ny1 cy1 dy1 my1 ky1 y1 N) => fq_Sub t1 t2 (by omega) (by omega))
 have A3 := hidP (fun u (t1 : Fq u by2 ay2 ny2 cy2 dy2 my2 ky2 y2 N) (t2 : Fq u by1 ay1 ny1 cy1 dy1 my1 ky1 y1 N) => fq_Sub t1 t2 (by omega) (by omega))
 have A4 := hidP (fun u (t1 : Fq u bx3 ax3 nx3 cx3 dx3 mx3 kx3 x3 N) (t2 : Fq u bx1 ax1 nx1 cx1 dx1 mx1 kx1 x1 N) => fq_Sub t1 t2 (by omega) (by omega))
 have B1 := hidP (fun u {g1 : Bool} {e1 f1 : Option Addr} {i1 j1 p1 q1 : Nat} {g2 : Bool} {e2 f2 : Option Addr} {i2 j2 p2 q2 : Nat} (t1 : Fq u g1 e1 i1 j1 f1 p1 q1 (x2 - x1) (N + N + 1)) (t2 : Fq u g2 e2 i2 j2 f2 p2 q2 (y3 - y1) (N + N + 1)) => fq_Mul t1 t2 (by omega) (by omega))
 have B2 := hidP (fun u {g1 : Bool} {e1 f1 : Option Addr} {i1 j1 p1 q1 : Nat} {g2 : Bool} {e2 f2 : Option Addr} {i2 j2 p2 q2 : Nat} (t1 : Fq u g1 e1 i1 j1 f1 p1 q1 (y2 - y1) (N + N + 1)) (t2 : Fq u g2 e2 i2 j2 f2 p2 q2 (x3 - x1) (N + N + 1)) => fq_Mul t1 t2 (by omega) (by omega))
 have C1 := hidP (fun u {g1 : Bool} {e1 f1 : Option Addr} {i1 j1 p1 q1 : Nat} {g2 : Bool} {e2 f2 : Option Addr} {i2 j2 p2 q2 : Nat} (t1 : Fq u g1 e1 i1 j1 f1 p1 q1 ((x2 - x1) * (y3 - y1)) (N + N + 1 + (N + N + 1))) (t2 : Fq u g2 e2 i2 j2 f2 p2 q2 ((y2 - y1) * (x3 - x1)) (N + N + 1 + (N + N + 1))) => fq_Cmp t1 t2 (by omega) (by omega))
 have HR : Hid (sideR x1 y1 x2 y2 x3 y3 = cmpQ ((x2 - x1) * (y3 - y1)) ((y2 - y1) * (x3 - x1))) := hidP rfl
 clear hx1 hy1 hx2 hy2 hx3 hy3 a1 a2 a3 a4 a5 a6 s1 s2 s3 s4
 generalize sideR x1 y1 x2 y2 x3 y3 = sr at *
 generalize (x2 - x1) * (y3 - y1) = m1 at *
 generalize (y2 - y1) * (x3 - x1) = m2 at *
 generalize x2 - x1 = r1 at *
 generalize y3 - y1 = r2 at *
 generalize y2 - y1 = r3 at *
 generalize x3 - x1 = r4 at *
 generalize cmpQ m1 m2 = cc at *
 go_enter Tryz.func128, Tryz.ntmps128
 go_wp2_with fail
 refine absW (fun x1 hx1 => ?_)
 have hx : Ext w x1 := by rw [hx1]; exact ((((Ext.refl _).alloc _).alloc _).alloc _)
 have bp : Bl x1 (w.heap.size) #[.bool bx1, .slice ax1 nx1 cx1, .slice dx1 mx1 kx1, .bool by1, .slice ay1 ny1 cy1, .slice dy1 my1 ky1] := by rw [hx1]; exact (((Bl.new (by simp)).alloc (by simp)).alloc (by simp))
 have bq : Bl x1 (w.heap.size + 1) #[.bool bx2, .slice ax2 nx2 cx2, .slice dx2 mx2 kx2, .bool by2, .slice ay2 ny2 cy2, .slice dy2 my2 ky2] := by rw [hx1]; exact ((Bl.new (by simp)).alloc (by simp))
 have br : Bl x1 (w.heap.size + 1 + 1) #[.bool bx3, .slice ax3 nx3 cx3, .slice dx3 mx3 kx3, .bool by3, .slice ay3 ny3 cy3, .slice dy3 my3 ky3] := by rw [hx1]; exact (Bl.new (by simp))
 have HE := hx
 clear hx
 clear hx1
 go_cut [7] (fun v7 wx => ∃ (g7 : Nat) (a13 d13 : Option Addr) (n13 c13 m13 k13 : Nat), v7 = .pointer (some ⟨g7, 0, none⟩) ∧ x1.heap.size ≤ g7 ∧ Bl wx g7 #[.bool (decide (m1.num < 0)), .slice a13 n13 c13, .slice d13 m13 k13] ∧ Nc wx a13 n13 c13 m1.num.natAbs ∧ Nc wx d13 m13 k13 m1.den ∧ Ext x1 wx)
 case first =>
  have HC := Ext.refl x1
  have lop := bp.lt (Nat.succ_pos _)
  have loq := bq.lt (Nat.succ_pos _)
  have lor := br.lt (Nat.succ_pos _)
  have hlo : x1.heap.size ≤ x1.heap.size := Nat.le_refl _
  refine wp_region_plan (R := Below x1.heap.size) (.q 0 (.q 1 (.q 2 (.q 3 (.q 5 (.q 6 (.q 7 (.q 8 (.br 4 (.br 9 (.br 10 (.l 11 (.b 12 .done)) (.l 11 (.l 10 (.b 12 .done)))) (.l 11 (.l 9 (.l 10 (.b 12 .done))))) (.l 11 (.l 4 (.l 9 (.l 10 (.b 12 .done)))))))))))))) (by kernel_rfl) (by kernel_rfl) (by kernel_rfl) (by kernel_rfl) (Below.refl _) (fun _ _ _ => Below.trans) ?_
  refine absE (fun x2 hx2 => ?_)
  have hx : Ext x1 x2 := by rw [hx2]; exact (Ext.refl _).drew
  replace hlo := Nat.le_trans hlo hx.size
  replace bp := q1b hx bp
  replace bq := q1b hx bq
  replace br := q1b hx br
  replace HC := HC.trans hx
  replace HE := HE.trans hx
  clear hx
  clear hx2
  repeat (refine wpE_q (v := ?_) rfl rfl (fun u hu => ?_) ?_; rotate_left 1; (focus (have kp := Bl.low hu bp lop; have kq := Bl.low hu bq loq; have kr := Bl.low hu br lor; go_simp; (try rfl))); simp only [PU])
  clear bp
  clear bq
  clear br
  refine wpE_br rfl rfl (fun K hK => ?_) ?_
  · go_simp
    refine (A1.out _ (X2.out.ext HE) (X1.out.ext HE)).mono ?_
    rintro e u11 ⟨a11, n11, c11, d11, m11, k11, rfl, hs11, ht11, hx⟩
    refine hK.out _ _ (Below.mono hx hlo) ?_
    clear hK K
    try simp only [PU]
    replace hlo := Nat.le_trans hlo hx.size
    replace HC := HC.trans hx
    replace HE := HE.trans hx
    clear hx
    replace hs11 : Nc u11 a11 n11 c11 (r1.num).natAbs := hs11
    replace ht11 : Nc u11 d11 m11 k11 (r1.den) := ht11
    refine wpE_br rfl rfl (fun K hK => ?_) ?_
    · go_simp
      refine (A2.out _ (Y3.out.ext HE) (Y1.out.ext HE)).mono ?_
      rintro e u12 ⟨a12, n12, c12, d12, m12, k12, rfl, hs12, ht12, hx⟩
      refine hK.out _ _ (Below.mono hx hlo) ?_
      clear hK K
      try simp only [PU]
      replace hlo := Nat.le_trans hlo hx.size
      replace hs11 := hs11.ext hx
      replace ht11 := ht11.ext hx
      replace HC := HC.trans hx
      replace HE := HE.trans hx
      clear hx
      replace hs12 : Nc u12 a12 n12 c12 (r2.num).natAbs := hs12
      replace ht12 : Nc u12 d12 m12 k12 (r2.den) := ht12
      refine wpE_br rfl rfl (fun K hK => ?_) ?_
      · go_simp
        refine (B1.out _ (fq_of hs11 ht11 L1.out (by omega)) (fq_of hs12 ht12 L2.out (by omega))).mono ?_
        rintro e u13 ⟨a13, n13, c13, d13, m13, k13, rfl, hs13, ht13, hx⟩
        refine hK.out _ _ (Below.mono hx hlo) ?_
        clear hK K
        try simp only [PU]
        replace hlo := Nat.le_trans hlo hx.size
        replace hs11 := hs11.ext hx
        replace ht11 := ht11.ext hx
        replace hs12 := hs12.ext hx
        replace ht12 := ht12.ext hx
        replace HC := HC.trans hx
        replace HE := HE.trans hx
        clear hx
        replace hs13 : Nc u13 a13 n13 c13 (m1.num).natAbs := hs13
        replace ht13 : Nc u13 d13 m13 k13 (m1.den) := ht13
        refine wpE_l rfl rfl (fun K hK => ?_)
        go_simp
        refine hK.out _ _ ((Below.refl _ _).alloc hlo _) ?_
        clear hK K
        try simp only [PU]
        have geu := hlo
        have l0u := HE.size
        refine absE (fun x3 hx3 => ?_)
        have hx : Ext u13 x3 := by rw [hx3]; exact ((Ext.refl _).alloc _)
        have bu : Bl x3 (u13.heap.size) #[.bool false, .slice none 0 0, .slice none 0 0] := by rw [hx3]; exact (Bl.new (by simp))
        have fu : Fz x3 (u13.heap.size) := by rw [hx3]; exact (Fz.new (by simp))
        replace hlo := Nat.le_trans hlo hx.size
        replace hs11 := hs11.ext hx
        replace ht11 := ht11.ext hx
        replace hs12 := hs12.ext hx
        replace ht12 := ht12.ext hx
        replace hs13 := hs13.ext hx
        replace ht13 := ht13.ext hx
        replace HC := HC.trans hx
        replace HE := HE.trans hx
        clear hx
        clear hx3
        refine wpE_b rfl rfl (fun K hK => ?_)
        go_simp
        refine hK.out _ _ ?_
        clear hK K
        try simp only [PU]
        refine absE (fun x4 hx4 => ?_)
        have hbut : But x3 x4 (u13.heap.size) := by rw [hx4]; exact (But.refl _ _).store.store.store
        have hbn : Bl x4 (u13.heap.size) #[.bool (decide (m1.num < 0)), .slice a13 n13 c13, .slice d13 m13 k13] := by rw [hx4]; exact (Bl.set (Bl.set (Bl.set bu (by simp)) (by simp)) (by simp))
        have hni : ∀ (j : Nat) (x : Int), (#[.bool false, .slice none 0 0, .slice none 0 0] : Array Value)[j]? ≠ some (Value.int .u32 x) := (not_ints3 nb_bool nb_slice nb_slice)
        replace hs11 := hs11.but bu hni hbut
        replace ht11 := ht11.but bu hni hbut
        replace hs12 := hs12.but bu hni hbut
        replace ht12 := ht12.but bu hni hbut
        replace hs13 := hs13.but bu hni hbut
        replace ht13 := ht13.but bu hni hbut
        clear hni
        replace fu : Fz x4 (u13.heap.size) := by rw [hx4]; exact (Fz.set (Fz.set (Fz.set fu)))
        have hle : w.heap.size ≤ u13.heap.size := by omega
        replace HE : Ext w x4 := by rw [hx4]; exact (((HE.store hle _).store hle _).store hle _)
        clear hle
        have hle : x1.heap.size ≤ u13.heap.size := by omega
        replace HC : Ext x1 x4 := by rw [hx4]; exact (((HC.store hle _).store hle _).store hle _)
        clear hle
        replace hlo : x1.heap.size ≤ x4.heap.size := Nat.le_trans hlo hbut.1
        clear bu hbut hx4
        have bu := hbn
        clear hbn
        refine wpE_done ?_
        clear hlo
        go_wp2_with fail
        go_meet
        exact ⟨u13.heap.size, a13, d13, n13, c13, m13, k13, rfl, geu, bu, hs13, ht13, HC⟩
      refine wpE_l rfl rfl (fun K hK => ?_)
      go_simp
      refine hK.out _ _ ((Below.refl _ _).alloc hlo _) ?_
      clear hK K
      try simp only [PU]
      have geu := hlo
      have l0u := HE.size
      refine absE (fun x3 hx3 => ?_)
      have hx : Ext u12 x3 := by rw [hx3]; exact ((Ext.refl _).alloc _)
      have bu : Bl x3 (u12.heap.size) #[.bool false, .slice none 0 0, .slice none 0 0] := by rw [hx3]; exact (Bl.new (by simp))
      have fu : Fz x3 (u12.heap.size) := by rw [hx3]; exact (Fz.new (by simp))
      replace hlo := Nat.le_trans hlo hx.size
      replace hs11 := hs11.ext hx
      replace ht11 := ht11.ext hx
      replace hs12 := hs12.ext hx
      replace ht12 := ht12.ext hx
      replace HC := HC.trans hx
      replace HE := HE.trans hx
      clear hx
      clear hx3
      refine wpE_l rfl rfl (fun K hK => ?_)
      go_simp
      refine (B1.out _ (fq_of hs11 ht11 L1.out (by omega)) (fq_of hs12 ht12 L2.out (by omega))).mono ?_
      rintro e u13 ⟨a13, n13, c13, d13, m13, k13, rfl, hs13, ht13, hx⟩
      refine hK.out _ _ (Below.mono hx hlo) ?_
      clear hK K
      try simp only [PU]
      replace hlo := Nat.le_trans hlo hx.size
      replace fu := q1f hx fu bu
      replace bu := q1b hx bu
      replace hs11 := hs11.ext hx
      replace ht11 := ht11.ext hx
      replace hs12 := hs12.ext hx
      replace ht12 := ht12.ext hx
      replace HC := HC.trans hx
      replace HE := HE.trans hx
      clear hx
      replace hs13 : Nc u13 a13 n13 c13 (m1.num).natAbs := hs13
      replace ht13 : Nc u13 d13 m13 k13 (m1.den) := ht13
      refine wpE_b rfl rfl (fun K hK => ?_)
      go_simp
      refine hK.out _ _ ?_
      clear hK K
      try simp only [PU]
      refine absE (fun x4 hx4 => ?_)
      have hbut : But u13 x4 (u12.heap.size) := by rw [hx4]; exact (But.refl _ _).store.store.store
      have hbn : Bl x4 (u12.heap.size) #[.bool (decide (m1.num < 0)), .slice a13 n13 c13, .slice d13 m13 k13] := by rw [hx4]; exact (Bl.set (Bl.set (Bl.set bu (by simp)) (by simp)) (by simp))
      have hni : ∀ (j : Nat) (x : Int), (#[.bool false, .slice none 0 0, .slice none 0 0] : Array Value)[j]? ≠ some (Value.int .u32 x) := (not_ints3 nb_bool nb_slice nb_slice)
      replace hs11 := hs11.but bu hni hbut
      replace ht11 := ht11.but bu hni hbut
      replace hs12 := hs12.but bu hni hbut
      replace ht12 := ht12.but bu hni hbut
      replace hs13 := hs13.but bu hni hbut
      replace ht13 := ht13.but bu hni hbut
      clear hni
      replace fu : Fz x4 (u12.heap.size) := by rw [hx4]; exact (Fz.set (Fz.set (Fz.set fu)))
      have hle : w.heap.size ≤ u12.heap.size := by omega
      replace HE : Ext w x4 := by rw [hx4]; exact (((HE.store hle _).store hle _).store hle _)
      clear hle
      have hle : x1.heap.size ≤ u12.heap.size := by omega
      replace HC : Ext x1 x4 := by rw [hx4]; exact (((HC.store hle _).store hle _).store hle _)
      clear hle
      replace hlo : x1.heap.size ≤ x4.heap.size := Nat.le_trans hlo hbut.1
      clear bu hbut hx4
      have bu := hbn
      clear hbn
      refine wpE_done ?_
      clear hlo
      go_wp2_with fail
      go_meet
      exact ⟨u12.heap.size, a13, d13, n13, c13, m13, k13, rfl, geu, bu, hs13, ht13, HC⟩
    refine wpE_l rfl rfl (fun K hK => ?_)
    go_simp
    refine hK.out _ _ ((Below.refl _ _).alloc hlo _) ?_
    clear hK K
    try simp only [PU]
    have geu := hlo
    have l0u := HE.size
    refine absE (fun x3 hx3 => ?_)
    have hx : Ext u11 x3 := by rw [hx3]; exact ((Ext.refl _).alloc _)
    have bu : Bl x3 (u11.heap.size) #[.bool false, .slice none 0 0, .slice none 0 0] := by rw [hx3]; exact (Bl.new (by simp))
    have fu : Fz x3 (u11.heap.size) := by rw [hx3]; exact (Fz.new (by simp))
    replace hlo := Nat.le_trans hlo hx.size
    replace hs11 := hs11.ext hx
    replace ht11 := ht11.ext hx
    replace HC := HC.trans hx
    replace HE := HE.trans hx
    clear hx
    clear hx3
    refine wpE_l rfl rfl (fun K hK => ?_)
    go_simp
    refine (A2.out _ (Y3.out.ext HE) (Y1.out.ext HE)).mono ?_
    rintro e u12 ⟨a12, n12, c12, d12, m12, k12, rfl, hs12, ht12, hx⟩
    refine hK.out _ _ (Below.mono hx hlo) ?_
    clear hK K
    try simp only [PU]
    replace hlo := Nat.le_trans hlo hx.size
    replace fu := q1f hx fu bu
    replace bu := q1b hx bu
    replace hs11 := hs11.ext hx
    replace ht11 := ht11.ext hx
    replace HC := HC.trans hx
    replace HE := HE.trans hx
    clear hx
    replace hs12 : Nc u12 a12 n12 c12 (r2.num).natAbs := hs12
    replace ht12 : Nc u12 d12 m12 k12 (r2.den) := ht12
    refine wpE_l rfl rfl (fun K hK => ?_)
    go_simp
    refine (B1.out _ (fq_of hs11 ht11 L1.out (by omega)) (fq_of hs12 ht12 L2.out (by omega))).mono ?_
    rintro e u13 ⟨a13, n13, c13, d13, m13, k13, rfl, hs13, ht13, hx⟩
    refine hK.out _ _ (Below.mono hx hlo) ?_
    clear hK K
    try simp only [PU]
    replace hlo := Nat.le_trans hlo hx.size
    replace fu := q1f hx fu bu
    replace bu := q1b hx bu
    replace hs11 := hs11.ext hx
    replace ht11 := ht11.ext hx
    replace hs12 := hs12.ext hx
    replace ht12 := ht12.ext hx
    replace HC := HC.trans hx
    replace HE := HE.trans hx
    clear hx
    replace hs13 : Nc u13 a13 n13 c13 (m1.num).natAbs := hs13
    replace ht13 : Nc u13 d13 m13 k13 (m1.den) := ht13
    refine wpE_b rfl rfl (fun K hK => ?_)
    go_simp
    refine hK.out _ _ ?_
    clear hK K
    try simp only [PU]
    refine absE (fun x4 hx4 => ?_)
    have hbut : But u13 x4 (u11.heap.size) := by rw [hx4]; exact (But.refl _ _).store.store.store
    have hbn : Bl x4 (u11.heap.size) #[.bool (decide (m1.num < 0)), .slice a13 n13 c13, .slice d13 m13 k13] := by rw [hx4]; exact (Bl.set (Bl.set (Bl.set bu (by simp)) (by simp)) (by simp))
    have hni : ∀ (j : Nat) (x : Int), (#[.bool false, .slice none 0 0, .slice none 0 0] : Array Value)[j]? ≠ some (Value.int .u32 x) := (not_ints3 nb_bool nb_slice nb_slice)
    replace hs11 := hs11.but bu hni hbut
    replace ht11 := ht11.but bu hni hbut
    replace hs12 := hs12.but bu hni hbut
    replace ht12 := ht12.but bu hni hbut
    replace hs13 := hs13.but bu hni hbut
    replace ht13 := ht13.but bu hni hbut
    clear hni
    replace fu : Fz x4 (u11.heap.size) := by rw [hx4]; exact (Fz.set (Fz.set (Fz.set fu)))
    have hle : w.heap.size ≤ u11.heap.size := by omega
    replace HE : Ext w x4 := by rw [hx4]; exact (((HE.store hle _).store hle _).store hle _)
    clear hle
    have hle : x1.heap.size ≤ u11.heap.size := by omega
    replace HC : Ext x1 x4 := by rw [hx4]; exact (((HC.store hle _).store hle _).store hle _)
    clear hle
    replace hlo : x1.heap.size ≤ x4.heap.size := Nat.le_trans hlo hbut.1
    clear bu hbut hx4
    have bu := hbn
    clear hbn
    refine wpE_done ?_
    clear hlo
    go_wp2_with fail
    go_meet
    exact ⟨u11.heap.size, a13, d13, n13, c13, m13, k13, rfl, geu, bu, hs13, ht13, HC⟩
  refine wpE_l rfl rfl (fun K hK => ?_)
  go_simp
  refine hK.out _ _ ((Below.refl _ _).alloc hlo _) ?_
  clear hK K
  try simp only [PU]
  have geu := hlo
  have l0u := HE.size
  refine absE (fun x3 hx3 => ?_)
  have hx : Ext x2 x3 := by rw [hx3]; exact ((Ext.refl _).alloc _)
  have bu : Bl x3 (x2.heap.size) #[.bool false, .slice none 0 0, .slice none 0 0] := by rw [hx3]; exact (Bl.new (by simp))
  have fu : Fz x3 (x2.heap.size) := by rw [hx3]; exact (Fz.new (by simp))
  replace hlo := Nat.le_trans hlo hx.size
  replace HC := HC.trans hx
  replace HE := HE.trans hx
  clear hx
  clear hx3
  refine wpE_l rfl rfl (fun K hK => ?_)
  go_simp
  refine (A1.out _ (X2.out.ext HE) (X1.out.ext HE)).mono ?_
  rintro e u11 ⟨a11, n11, c11, d11, m11, k11, rfl, hs11, ht11, hx⟩
  refine hK.out _ _ (Below.mono hx hlo) ?_
  clear hK K
  try simp only [PU]
  replace hlo := Nat.le_trans hlo hx.size
  replace fu := q1f hx fu bu
  replace bu := q1b hx bu
  replace HC := HC.trans hx
  replace HE := HE.trans hx
  clear hx
  replace hs11 : Nc u11 a11 n11 c11 (r1.num).natAbs := hs11
  replace ht11 : Nc u11 d11 m11 k11 (r1.den) := ht11
  refine wpE_l rfl rfl (fun K hK => ?_)
  go_simp
  refine (A2.out _ (Y3.out.ext HE) (Y1.out.ext HE)).mono ?_
  rintro e u12 ⟨a12, n12, c12, d12, m12, k12, rfl, hs12, ht12, hx⟩
  refine hK.out _ _ (Below.mono hx hlo) ?_
  clear hK K
  try simp only [PU]
  replace hlo := Nat.le_trans hlo hx.size
  replace fu := q1f hx fu bu
  replace bu := q1b hx bu
  replace hs11 := hs11.ext hx
  replace ht11 := ht11.ext hx
  replace HC := HC.trans hx
  replace HE := HE.trans hx
  clear hx
  replace hs12 : Nc u12 a12 n12 c12 (r2.num).natAbs := hs12
  replace ht12 : Nc u12 d12 m12 k12 (r2.den) := ht12
  refine wpE_l rfl rfl (fun K hK => ?_)
  go_simp
  refine (B1.out _ (fq_of hs11 ht11 L1.out (by omega)) (fq_of hs12 ht12 L2.out (by omega))).mono ?_
  rintro e u13 ⟨a13, n13, c13, d13, m13, k13, rfl, hs13, ht13, hx⟩
  refine hK.out _ _ (Below.mono hx hlo) ?_
  clear hK K
  try simp only [PU]
  replace hlo := Nat.le_trans hlo hx.size
  replace fu := q1f hx fu bu
  replace bu := q1b hx bu
  replace hs11 := hs11.ext hx
  replace ht11 := ht11.ext hx
  replace hs12 := hs12.ext hx
  replace ht12 := ht12.ext hx
  replace HC := HC.trans hx
  replace HE := HE.trans hx
  clear hx
  replace hs13 : Nc u13 a13 n13 c13 (m1.num).natAbs := hs13
  replace ht13 : Nc u13 d13 m13 k13 (m1.den) := ht13
  refine wpE_b rfl rfl (fun K hK => ?_)
  go_simp
  refine hK.out _ _ ?_
  clear hK K
  try simp only [PU]
  refine absE (fun x4 hx4 => ?_)
  have hbut : But u13 x4 (x2.heap.size) := by rw [hx4]; exact (But.refl _ _).store.store.store
  have hbn : Bl x4 (x2.heap.size) #[.bool (decide (m1.num < 0)), .slice a13 n13 c13, .slice d13 m13 k13] := by rw [hx4]; exact (Bl.set (Bl.set (Bl.set bu (by simp)) (by simp)) (by simp))
  have hni : ∀ (j : Nat) (x : Int), (#[.bool false, .slice none 0 0, .slice none 0 0] : Array Value)[j]? ≠ some (Value.int .u32 x) := (not_ints3 nb_bool nb_slice nb_slice)
  replace hs11 := hs11.but bu hni hbut
  replace ht11 := ht11.but bu hni hbut
  replace hs12 := hs12.but bu hni hbut
  replace ht12 := ht12.but bu hni hbut
  replace hs13 := hs13.but bu hni hbut
  replace ht13 := ht13.but bu hni hbut
  clear hni
  replace fu : Fz x4 (x2.heap.size) := by rw [hx4]; exact (Fz.set (Fz.set (Fz.set fu)))
  have hle : w.heap.size ≤ x2.heap.size := by omega
  replace HE : Ext w x4 := by rw [hx4]; exact (((HE.store hle _).store hle _).store hle _)
  clear hle
  have hle : x1.heap.size ≤ x2.heap.size := by omega
  replace HC : Ext x1 x4 := by rw [hx4]; exact (((HC.store hle _).store hle _).store hle _)
  clear hle
  replace hlo : x1.heap.size ≤ x4.heap.size := Nat.le_trans hlo hbut.1
  clear bu hbut hx4
  have bu := hbn
  clear hbn
  refine wpE_done ?_
  clear hlo
  go_wp2_with fail
  go_meet
  exact ⟨x2.heap.size, a13, d13, n13, c13, m13, k13, rfl, geu, bu, hs13, ht13, HC⟩
 obtain ⟨g7, a13, d13, n13, c13, m13, k13, rfl, geu, bu, hs13, ht13, hx⟩ := hcut
 replace bp := q1b hx bp
 replace bq := q1b hx bq
 replace br := q1b hx br
 replace HE := HE.trans hx
 clear hx
 go_wp2_with fail
 go_cut [8] (fun v8 wx => ∃ (g8 : Nat) (a23 d23 : Option Addr) (n23 c23 m23 k23 : Nat), v8 = .pointer (some ⟨g8, 0, none⟩) ∧ wc.heap.size ≤ g8 ∧ Bl wx g8 #[.bool (decide (m2.num < 0)), .slice a23 n23 c23, .slice d23 m23 k23] ∧ Nc wx a23 n23 c23 m2.num.natAbs ∧ Nc wx d23 m23 k23 m2.den ∧ Ext wc wx)
 case first =>
  have HC := Ext.refl wc
  have lop := bp.lt (Nat.succ_pos _)
  have loq := bq.lt (Nat.succ_pos _)
  have lor := br.lt (Nat.succ_pos _)
  have lou := bu.lt (Nat.succ_pos _)
  have hlo : wc.heap.size ≤ wc.heap.size := Nat.le_refl _
  refine wp_region_plan (R := Below wc.heap.size) (.q 0 (.q 1 (.q 2 (.q 3 (.q 5 (.q 6 (.q 7 (.q 8 (.br 4 (.br 9 (.br 10 (.l 11 (.b 12 .done)) (.l 11 (.l 10 (.b 12 .done)))) (.l 11 (.l 9 (.l 10 (.b 12 .done))))) (.l 11 (.l 4 (.l 9 (.l 10 (.b 12 .done)))))))))))))) (by kernel_rfl) (by kernel_rfl) (by kernel_rfl) (by kernel_rfl) (Below.refl _) (fun _ _ _ => Below.trans) ?_
  refine absE (fun x32 hx32 => ?_)
  have hx : Ext wc x32 := by rw [hx32]; exact (Ext.refl _).drew
  replace hlo := Nat.le_trans hlo hx.size
  replace bp := q1b hx bp
  replace bq := q1b hx bq
  replace br := q1b hx br
  replace bu := q1b hx bu
  replace hs13 := hs13.ext hx
  replace ht13 := ht13.ext hx
  replace HC := HC.trans hx
  replace HE := HE.trans hx
  clear hx
  clear hx32
  repeat (refine wpE_q (v := ?_) rfl rfl (fun u hu => ?_) ?_; rotate_left 1; (focus (have kp := Bl.low hu bp lop; have kq := Bl.low hu bq loq; have kr := Bl.low hu br lor; have ku := Bl.low hu bu lou; go_simp; (try rfl))); simp only [PU])
  clear bp
  clear bq
  clear br
  clear bu
  refine wpE_br rfl rfl (fun K hK => ?_) ?_
  · go_simp
    refine (A3.out _ (Y2.out.ext HE) (Y1.out.ext HE)).mono ?_
    rintro e u21 ⟨a21, n21, c21, d21, m21, k21, rfl, hs21, ht21, hx⟩
    refine hK.out _ _ (Below.mono hx hlo) ?_
    clear hK K
    try simp only [PU]
    replace hlo := Nat.le_trans hlo hx.size
    replace hs13 := hs13.ext hx
    replace ht13 := ht13.ext hx
    replace HC := HC.trans hx
    replace HE := HE.trans hx
    clear hx
    replace hs21 : Nc u21 a21 n21 c21 (r3.num).natAbs := hs21
    replace ht21 : Nc u21 d21 m21 k21 (r3.den) := ht21
    refine wpE_br rfl rfl (fun K hK => ?_) ?_
    · go_simp
      refine (A4.out _ (X3.out.ext HE) (X1.out.ext HE)).mono ?_
      rintro e u22 ⟨a22, n22, c22, d22, m22, k22, rfl, hs22, ht22, hx⟩
      refine hK.out _ _ (Below.mono hx hlo) ?_
      clear hK K
      try simp only [PU]
      replace hlo := Nat.le_trans hlo hx.size
      replace hs13 := hs13.ext hx
      replace ht13 := ht13.ext hx
      replace hs21 := hs21.ext hx
      replace ht21 := ht21.ext hx
      replace HC := HC.trans hx
      replace HE := HE.trans hx
      clear hx
      replace hs22 : Nc u22 a22 n22 c22 (r4.num).natAbs := hs22
      replace ht22 : Nc u22 d22 m22 k22 (r4.den) := ht22
      refine wpE_br rfl rfl (fun K hK => ?_) ?_
      · go_simp
        refine (B2.out _ (fq_of hs21 ht21 L3.out (by omega)) (fq_of hs22 ht22 L4.out (by omega))).mono ?_
        rintro e u23 ⟨a23, n23, c23, d23, m23, k23, rfl, hs23, ht23, hx⟩
        refine hK.out _ _ (Below.mono hx hlo) ?_
        clear hK K
        try simp only [PU]
        replace hlo := Nat.le_trans hlo hx.size
        replace hs13 := hs13.ext hx
        replace ht13 := ht13.ext hx
        replace hs21 := hs21.ext hx
        replace ht21 := ht21.ext hx
        replace hs22 := hs22.ext hx
        replace ht22 := ht22.ext hx
        replace HC := HC.trans hx
        replace HE := HE.trans hx
        clear hx
        replace hs23 : Nc u23 a23 n23 c23 (m2.num).natAbs := hs23
        replace ht23 : Nc u23 d23 m23 k23 (m2.den) := ht23
        refine wpE_l rfl rfl (fun K hK => ?_)
        go_simp
        refine hK.out _ _ ((Below.refl _ _).alloc hlo _) ?_
        clear hK K
        try simp only [PU]
        have gev := hlo
        have l0v := HE.size
        refine absE (fun x33 hx33 => ?_)
        have hx : Ext u23 x33 := by rw [hx33]; exact ((Ext.refl _).alloc _)
        have bv : Bl x33 (u23.heap.size) #[.bool false, .slice none 0 0, .slice none 0 0] := by rw [hx33]; exact (Bl.new (by simp))
        have fv : Fz x33 (u23.heap.size) := by rw [hx33]; exact (Fz.new (by simp))
        replace hlo := Nat.le_trans hlo hx.size
        replace hs13 := hs13.ext hx
        replace ht13 := ht13.ext hx
        replace hs21 := hs21.ext hx
        replace ht21 := ht21.ext hx
        replace hs22 := hs22.ext hx
        replace ht22 := ht22.ext hx
        replace hs23 := hs23.ext hx
        replace ht23 := ht23.ext hx
        replace HC := HC.trans hx
        replace HE := HE.trans hx
        clear hx
        clear hx33
        refine wpE_b rfl rfl (fun K hK => ?_)
        go_simp
        refine hK.out _ _ ?_
        clear hK K
        try simp only [PU]
        refine absE (fun x34 hx34 => ?_)
        have hbut : But x33 x34 (u23.heap.size) := by rw [hx34]; exact (But.refl _ _).store.store.store
        have hbn : Bl x34 (u23.heap.size) #[.bool (decide (m2.num < 0)), .slice a23 n23 c23, .slice d23 m23 k23] := by rw [hx34]; exact (Bl.set (Bl.set (Bl.set bv (by simp)) (by simp)) (by simp))
        have hni : ∀ (j : Nat) (x : Int), (#[.bool false, .slice none 0 0, .slice none 0 0] : Array Value)[j]? ≠ some (Value.int .u32 x) := (not_ints3 nb_bool nb_slice nb_slice)
        replace hs13 := hs13.but bv hni hbut
        replace ht13 := ht13.but bv hni hbut
        replace hs21 := hs21.but bv hni hbut
        replace ht21 := ht21.but bv hni hbut
        replace hs22 := hs22.but bv hni hbut
        replace ht22 := ht22.but bv hni hbut
        replace hs23 := hs23.but bv hni hbut
        replace ht23 := ht23.but bv hni hbut
        clear hni
        replace fv : Fz x34 (u23.heap.size) := by rw [hx34]; exact (Fz.set (Fz.set (Fz.set fv)))
        have hle : w.heap.size ≤ u23.heap.size := by omega
        replace HE : Ext w x34 := by rw [hx34]; exact (((HE.store hle _).store hle _).store hle _)
        clear hle
        have hle : wc.heap.size ≤ u23.heap.size := by omega
        replace HC : Ext wc x34 := by rw [hx34]; exact (((HC.store hle _).store hle _).store hle _)
        clear hle
        replace hlo : wc.heap.size ≤ x34.heap.size := Nat.le_trans hlo hbut.1
        clear bv hbut hx34
        have bv := hbn
        clear hbn
        refine wpE_done ?_
        clear hlo
        go_wp2_with fail
        go_meet
        exact ⟨u23.heap.size, a23, d23, n23, c23, m23, k23, rfl, gev, bv, hs23, ht23, HC⟩
      refine wpE_l rfl rfl (fun K hK => ?_)
      go_simp
      refine hK.out _ _ ((Below.refl _ _).alloc hlo _) ?_
      clear hK K
      try simp only [PU]
      have gev := hlo
      have l0v := HE.size
      refine absE (fun x33 hx33 => ?_)
      have hx : Ext u22 x33 := by rw [hx33]; exact ((Ext.refl _).alloc _)
      have bv : Bl x33 (u22.heap.size) #[.bool false, .slice none 0 0, .slice none 0 0] := by rw [hx33]; exact (Bl.new (by simp))
      have fv : Fz x33 (u22.heap.size) := by rw [hx33]; exact (Fz.new (by simp))
      replace hlo := Nat.le_trans hlo hx.size
      replace hs13 := hs13.ext hx
      replace ht13 := ht13.ext hx
      replace hs21 := hs21.ext hx
      replace ht21 := ht21.ext hx
      replace hs22 := hs22.ext hx
      replace ht22 := ht22.ext hx
      replace HC := HC.trans hx
      replace HE := HE.trans hx
      clear hx
      clear hx33
      refine wpE_l rfl rfl (fun K hK => ?_)
      go_simp
      refine (B2.out _ (fq_of hs21 ht21 L3.out (by omega)) (fq_of hs22 ht22 L4.out (by omega))).mono ?_
      rintro e u23 ⟨a23, n23, c23, d23, m23, k23, rfl, hs23, ht23, hx⟩
      refine hK.out _ _ (Below.mono hx hlo) ?_
      clear hK K
      try simp only [PU]
      replace hlo := Nat.le_trans hlo hx.size
      replace fv := q1f hx fv bv
      replace bv := q1b hx bv
      replace hs13 := hs13.ext hx
      replace ht13 := ht13.ext hx
      replace hs21 := hs21.ext hx
      replace ht21 := ht21.ext hx
      replace hs22 := hs22.ext hx
      replace ht22 := ht22.ext hx
      replace HC := HC.trans hx
      replace HE := HE.trans hx
      clear hx
      replace hs23 : Nc u23 a23 n23 c23 (m2.num).natAbs := hs23
      replace ht23 : Nc u23 d23 m23 k23 (m2.den) := ht23
      refine wpE_b rfl rfl (fun K hK => ?_)
      go_simp
      refine hK.out _ _ ?_
      clear hK K
      try simp only [PU]
      refine absE (fun x34 hx34 => ?_)
      have hbut : But u23 x34 (u22.heap.size) := by rw [hx34]; exact (But.refl _ _).store.store.store
      have hbn : Bl x34 (u22.heap.size) #[.bool (decide (m2.num < 0)), .slice a23 n23 c23, .slice d23 m23 k23] := by rw [hx34]; exact (Bl.set (Bl.set (Bl.set bv (by simp)) (by simp)) (by simp))
      have hni : ∀ (j : Nat) (x : Int), (#[.bool false, .slice none 0 0, .slice none 0 0] : Array Value)[j]? ≠ some (Value.int .u32 x) := (not_ints3 nb_bool nb_slice nb_slice)
      replace hs13 := hs13.but bv hni hbut
      replace ht13 := ht13.but bv hni hbut
      replace hs21 := hs21.but bv hni hbut
      replace ht21 := ht21.but bv hni hbut
      replace hs22 := hs22.but bv hni hbut
      replace ht22 := ht22.but bv hni hbut
      replace hs23 := hs23.but bv hni hbut
      replace ht23 := ht23.but bv hni hbut
      clear hni
      replace fv : Fz x34 (u22.heap.size) := by rw [hx34]; exact (Fz.set (Fz.set (Fz.set fv)))
      have hle : w.heap.size ≤ u22.heap.size := by omega
      replace HE : Ext w x34 := by rw [hx34]; exact (((HE.store hle _).store hle _).store hle _)
      clear hle
      have hle : wc.heap.size ≤ u22.heap.size := by omega
      replace HC : Ext wc x34 := by rw [hx34]; exact (((HC.store hle _).store hle _).store hle _)
      clear hle
      replace hlo : wc.heap.size ≤ x34.heap.size := Nat.le_trans hlo hbut.1
      clear bv hbut hx34
      have bv := hbn
      clear hbn
      refine wpE_done ?_
      clear hlo
      go_wp2_with fail
      go_meet
      exact ⟨u22.heap.size, a23, d23, n23, c23, m23, k23, rfl, gev, bv, hs23, ht23, HC⟩
    refine wpE_l rfl rfl (fun K hK => ?_)
    go_simp
    refine hK.out _ _ ((Below.refl _ _).alloc hlo _) ?_
    clear hK K
    try simp only [PU]
    have gev := hlo
    have l0v := HE.size
    refine absE (fun x33 hx33 => ?_)
    have hx : Ext u21 x33 := by rw [hx33]; exact ((Ext.refl _).alloc _)
    have bv : Bl x33 (u21.heap.size) #[.bool false, .slice none 0 0, .slice none 0 0] := by rw [hx33]; exact (Bl.new (by simp))
    have fv : Fz x33 (u21.heap.size) := by rw [hx33]; exact (Fz.new (by simp))
    replace hlo := Nat.le_trans hlo hx.size
    replace hs13 := hs13.ext hx
    replace ht13 := ht13.ext hx
    replace hs21 := hs21.ext hx
    replace ht21 := ht21.ext hx
    replace HC := HC.trans hx
    replace HE := HE.trans hx
    clear hx
    clear hx33
    refine wpE_l rfl rfl (fun K hK => ?_)
    go_simp
    refine (A4.out _ (X3.out.ext HE) (X1.out.ext HE)).mono ?_
    rintro e u22 ⟨a22, n22, c22, d22, m22, k22, rfl, hs22, ht22, hx⟩
    refine hK.out _ _ (Below.mono hx hlo) ?_
    clear hK K
    try simp only [PU]
    replace hlo := Nat.le_trans hlo hx.size
    replace fv := q1f hx fv bv
    replace bv := q1b hx bv
    replace hs13 := hs13.ext hx
    replace ht13 := ht13.ext hx
    replace hs21 := hs21.ext hx
    replace ht21 := ht21.ext hx
    replace HC := HC.trans hx
    replace HE := HE.trans hx
    clear hx
    replace hs22 : Nc u22 a22 n22 c22 (r4.num).natAbs := hs22
    replace ht22 : Nc u22 d22 m22 k22 (r4.den) := ht22
    refine wpE_l rfl rfl (fun K hK => ?_)
    go_simp
    refine (B2.out _ (fq_of hs21 ht21 L3.out (by omega)) (fq_of hs22 ht22 L4.out (by omega))).mono ?_
    rintro e u23 ⟨a23, n23, c23, d23, m23, k23, rfl, hs23, ht23, hx⟩
    refine hK.out _ _ (Below.mono hx hlo) ?_
    clear hK K
    try simp only [PU]
    replace hlo := Nat.le_trans hlo hx.size
    replace fv := q1f hx fv bv
    replace bv := q1b hx bv
    replace hs13 := hs13.ext hx
    replace ht13 := ht13.ext hx
    replace hs21 := hs21.ext hx
    replace ht21 := ht21.ext hx
    replace hs22 := hs22.ext hx
    replace ht22 := ht22.ext hx
    replace HC := HC.trans hx
    replace HE := HE.trans hx
    clear hx
    replace hs23 : Nc u23 a23 n23 c23 (m2.num).natAbs := hs23
    replace ht23 : Nc u23 d23 m23 k23 (m2.den) := ht23
    refine wpE_b rfl rfl (fun K hK => ?_)
    go_simp
    refine hK.out _ _ ?_
    clear hK K
    try simp only [PU]
    refine absE (fun x34 hx34 => ?_)
    have hbut : But u23 x34 (u21.heap.size) := by rw [hx34]; exact (But.refl _ _).store.store.store
    have hbn : Bl x34 (u21.heap.size) #[.bool (decide (m2.num < 0)), .slice a23 n23 c23, .slice d23 m23 k23] := by rw [hx34]; exact (Bl.set (Bl.set (Bl.set bv (by simp)) (by simp)) (by simp))
    have hni : ∀ (j : Nat) (x : Int), (#[.bool false, .slice none 0 0, .slice none 0 0] : Array Value)[j]? ≠ some (Value.int .u32 x) := (not_ints3 nb_bool nb_slice nb_slice)
    replace hs13 := hs13.but bv hni hbut
    replace ht13 := ht13.but bv hni hbut
    replace hs21 := hs21.but bv hni hbut
    replace ht21 := ht21.but bv hni hbut
    replace hs22 := hs22.but bv hni hbut
    replace ht22 := ht22.but bv hni hbut
    replace hs23 := hs23.but bv hni hbut
    replace ht23 := ht23.but bv hni hbut
    clear hni
    replace fv : Fz x34 (u21.heap.size) := by rw [hx34]; exact (Fz.set (Fz.set (Fz.set fv)))
    have hle : w.heap.size ≤ u21.heap.size := by omega
    replace HE : Ext w x34 := by rw [hx34]; exact (((HE.store hle _).store hle _).store hle _)
    clear hle
    have hle : wc.heap.size ≤ u21.heap.size := by omega
    replace HC : Ext wc x34 := by rw [hx34]; exact (((HC.store hle _).store hle _).store hle _)
    clear hle
    replace hlo : wc.heap.size ≤ x34.heap.size := Nat.le_trans hlo hbut.1
    clear bv hbut hx34
    have bv := hbn
    clear hbn
    refine wpE_done ?_
    clear hlo
    go_wp2_with fail
    go_meet
    exact ⟨u21.heap.size, a23, d23, n23, c23, m23, k23, rfl, gev, bv, hs23, ht23, HC⟩
  refine wpE_l rfl rfl (fun K hK => ?_)
  go_simp
  refine hK.out _ _ ((Below.refl _ _).alloc hlo _) ?_
  clear hK K
  try simp only [PU]
  have gev := hlo
  have l0v := HE.size
  refine absE (fun x33 hx33 => ?_)
  have hx : Ext x32 x33 := by rw [hx33]; exact ((Ext.refl _).alloc _)
  have bv : Bl x33 (x32.heap.size) #[.bool false, .slice none 0 0, .slice none 0 0] := by rw [hx33]; exact (Bl.new (by simp))
  have fv : Fz x33 (x32.heap.size) := by rw [hx33]; exact (Fz.new (by simp))
  replace hlo := Nat.le_trans hlo hx.size
  replace hs13 := hs13.ext hx
  replace ht13 := ht13.ext hx
  replace HC := HC.trans hx
  replace HE := HE.trans hx
  clear hx
  clear hx33
  refine wpE_l rfl rfl (fun K hK => ?_)
  go_simp
  refine (A3.out _ (Y2.out.ext HE) (Y1.out.ext HE)).mono ?_
  rintro e u21 ⟨a21, n21, c21, d21, m21, k21, rfl, hs21, ht21, hx⟩
  refine hK.out _ _ (Below.mono hx hlo) ?_
  clear hK K
  try simp only [PU]
  replace hlo := Nat.le_trans hlo hx.size
  replace fv := q1f hx fv bv
  replace bv := q1b hx bv
  replace hs13 := hs13.ext hx
  replace ht13 := ht13.ext hx
  replace HC := HC.trans hx
  replace HE := HE.trans hx
  clear hx
  replace hs21 : Nc u21 a21 n21 c21 (r3.num).natAbs := hs21
  replace ht21 : Nc u21 d21 m21 k21 (r3.den) := ht21
  refine wpE_l rfl rfl (fun K hK => ?_)
  go_simp
  refine (A4.out _ (X3.out.ext HE) (X1.out.ext HE)).mono ?_
  rintro e u22 ⟨a22, n22, c22, d22, m22, k22, rfl, hs22, ht22, hx⟩
  refine hK.out _ _ (Below.mono hx hlo) ?_
  clear hK K
  try simp only [PU]
  replace hlo := Nat.le_trans hlo hx.size
  replace fv := q1f hx fv bv
  replace bv := q1b hx bv
  replace hs13 := hs13.ext hx
  replace ht13 := ht13.ext hx
  replace hs21 := hs21.ext hx
  replace ht21 := ht21.ext hx
  replace HC := HC.trans hx
  replace HE := HE.trans hx
  clear hx
  replace hs22 : Nc u22 a22 n22 c22 (r4.num).natAbs := hs22
  replace ht22 : Nc u22 d22 m22 k22 (r4.den) := ht22
  refine wpE_l rfl rfl (fun K hK => ?_)
  go_simp
  refine (B2.out _ (fq_of hs21 ht21 L3.out (by omega)) (fq_of hs22 ht22 L4.out (by omega))).mono ?_
  rintro e u23 ⟨a23, n23, c23, d23, m23, k23, rfl, hs23, ht23, hx⟩
  refine hK.out _ _ (Below.mono hx hlo) ?_
  clear hK K
  try simp only [PU]
  replace hlo := Nat.le_trans hlo hx.size
  replace fv := q1f hx fv bv
  replace bv := q1b hx bv
  replace hs13 := hs13.ext hx
  replace ht13 := ht13.ext hx
  replace hs21 := hs21.ext hx
  replace ht21 := ht21.ext hx
  replace hs22 := hs22.ext hx
  replace ht22 := ht22.ext hx
  replace HC := HC.trans hx
  replace HE := HE.trans hx
  clear hx
  replace hs23 : Nc u23 a23 n23 c23 (m2.num).natAbs := hs23
  replace ht23 : Nc u23 d23 m23 k23 (m2.den) := ht23
  refine wpE_b rfl rfl (fun K hK => ?_)
  go_simp
  refine hK.out _ _ ?_
  clear hK K
  try simp only [PU]
  refine absE (fun x34 hx34 => ?_)
  have hbut : But u23 x34 (x32.heap.size) := by rw [hx34]; exact (But.refl _ _).store.store.store
  have hbn : Bl x34 (x32.heap.size) #[.bool (decide (m2.num < 0)), .slice a23 n23 c23, .slice d23 m23 k23] := by rw [hx34]; exact (Bl.set (Bl.set (Bl.set bv (by simp)) (by simp)) (by simp))
  have hni : ∀ (j : Nat) (x : Int), (#[.bool false, .slice none 0 0, .slice none 0 0] : Array Value)[j]? ≠ some (Value.int .u32 x) := (not_ints3 nb_bool nb_slice nb_slice)
  replace hs13 := hs13.but bv hni hbut
  replace ht13 := ht13.but bv hni hbut
  replace hs21 := hs21.but bv hni hbut
  replace ht21 := ht21.but bv hni hbut
  replace hs22 := hs22.but bv hni hbut
  replace ht22 := ht22.but bv hni hbut
  replace hs23 := hs23.but bv hni hbut
  replace ht23 := ht23.but bv hni hbut
  clear hni
  replace fv : Fz x34 (x32.heap.size) := by rw [hx34]; exact (Fz.set (Fz.set (Fz.set fv)))
  have hle : w.heap.size ≤ x32.heap.size := by omega
  replace HE : Ext w x34 := by rw [hx34]; exact (((HE.store hle _).store hle _).store hle _)
  clear hle
  have hle : wc.heap.size ≤ x32.heap.size := by omega
  replace HC : Ext wc x34 := by rw [hx34]; exact (((HC.store hle _).store hle _).store hle _)
  clear hle
  replace hlo : wc.heap.size ≤ x34.heap.size := Nat.le_trans hlo hbut.1
  clear bv hbut hx34
  have bv := hbn
  clear hbn
  refine wpE_done ?_
  clear hlo
  go_wp2_with fail
  go_meet
  exact ⟨x32.heap.size, a23, d23, n23, c23, m23, k23, rfl, gev, bv, hs23, ht23, HC⟩
 obtain ⟨g8, a23, d23, n23, c23, m23, k23, rfl, gev, bv, hs23, ht23, hx⟩ := hcut
 replace bp := q1b hx bp
 replace bq := q1b hx bq
 replace br := q1b hx br
 replace bu := q1b hx bu
 replace hs13 := hs13.ext hx
 replace ht13 := ht13.ext hx
 replace HE := HE.trans hx
 clear hx
 go_wp2_with fail
 refine (C1.out _ (fq_of hs13 ht13 M1.out (by omega)) (fq_of hs23 ht23 M2.out (by omega))).mono ?_
 rintro e u9 ⟨rfl, hx⟩
 replace bp := q1b hx bp
 replace bq := q1b hx bq
 replace br := q1b hx br
 replace bu := q1b hx bu
 replace bv := q1b hx bv
 replace hs13 := hs13.ext hx
 replace ht13 := ht13.ext hx
 replace hs23 := hs23.ext hx
 replace ht23 := ht23.ext hx
 replace HE := HE.trans hx
 clear hx
 go_wp2_with fail
 go_ret
 exact ⟨congrArg (fun x => Ending.returned (Value.int .i64 x)) HR.out.symm, HE⟩
end Go.Proofs.YtgjjalnmigdjgaaGreat
