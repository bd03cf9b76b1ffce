/- Spots, in the document: on which side, and whether on a way. -/
import Derived.Test.YtgjjalnmigdjgaaGreatU4
namespace Go.Proofs.YtgjjalnmigdjgaaGreat
set_option linter.unusedVariables false
set_option linter.unusedSimpArgs false
open Go Go.RowKit
theorem num_lt (q : Rat) : (q.num < 0) = (q < 0) := by
  apply propext
  rw [← Int.not_le, Rat.num_nonneg, Rat.not_le]
theorem cmpQ_sub (a b : Rat) : cmpQ a b = sgn (a - b).num := by
  have h1 := cmpQ_lt a b
  have h2 := cmpQ_le a b
  have h3 := sgn_lt (a - b).num
  have h4 := sgn_le (a - b).num
  have h5 := num_lt (a - b)
  have h6 := num_lt (b - a)
  have h7 : (b - a).num = -(a - b).num := by rw [← Rat.neg_num]; congr 1; grind
  have b1 := cmpQ_bd a b
  have b2 := sgn_bd (a - b).num
  have e1 : cmpQ a b < 0 ↔ a < b := by simpa using h1
  have e2 : cmpQ a b ≤ 0 ↔ a ≤ b := by simpa using h2
  have g1 : sgn (a - b).num < 0 ↔ a < b := by rw [h3, h5]; grind
  have g2 : sgn (a - b).num ≤ 0 ↔ a ≤ b := by
    rw [h4]
    have : ((a - b).num ≤ 0) ↔ ¬ ((b - a).num < 0) := by rw [h7]; omega
    rw [this, h6]
    grind
  generalize cmpQ a b = u at *
  generalize sgn (a - b).num = v at *
  have k1 : u < 0 ↔ v < 0 := e1.trans g1.symm
  have k2 : u ≤ 0 ↔ v ≤ 0 := e2.trans g2.symm
  clear h1 h2 h3 h4 h5 h6 h7 e1 e2 g1 g2
  omega
def areaR (x1 y1 x2 y2 x3 y3 : Rat) : Rat := x1 * (y2 - y3) + x2 * (y3 - y1) + x3 * (y1 - y2)
theorem area_side (x1 y1 x2 y2 x3 y3 : Rat) : sgn (areaR x1 y1 x2 y2 x3 y3).num = sideR x1 y1 x2 y2 x3 y3 := by
  unfold sideR
  rw [cmpQ_sub]
  congr 2
  unfold areaR
  grind
theorem ql_area {x1 y1 x2 y2 x3 y3 : Rat} {N : Nat} (h1 : ql x1 ≤ N) (h2 : ql y1 ≤ N) (h3 : ql x2 ≤ N) (h4 : ql y2 ≤ N) (h5 : ql x3 ≤ N) (h6 : ql y3 ≤ N) (hN : 1 ≤ N) : ql (areaR x1 y1 x2 y2 x3 y3) ≤ 9 * N + 5 := by
  have a1 := ql_mul h1 (ql_sub h4 h6) hN
  have a2 := ql_mul h3 (ql_sub h6 h2) hN
  have a3 := ql_mul h5 (ql_sub h2 h4) hN
  have := ql_add (ql_add a1 a2) a3
  unfold areaR
  omega
/-- Is a number between two others? -/
def betB (a b c : Rat) : Bool := decide (cmpQ a c * cmpQ b c ≤ 0)
theorem betB_int (a b : Int) (c : Rat) : betB (a : Rat) (b : Rat) c = (decide (((min a b : Int) : Rat) ≤ c) && !decide (((max a b : Int) : Rat) < c)) := by
  have h1 := cmpQ_lt (a : Rat) c
  have h2 := cmpQ_le (a : Rat) c
  have h3 := cmpQ_lt (b : Rat) c
  have h4 := cmpQ_le (b : Rat) c
  have e1 : cmpQ (a : Rat) c < 0 ↔ (a : Rat) < c := by simpa using h1
  have e2 : cmpQ (a : Rat) c ≤ 0 ↔ (a : Rat) ≤ c := by simpa using h2
  have e3 : cmpQ (b : Rat) c < 0 ↔ (b : Rat) < c := by simpa using h3
  have e4 : cmpQ (b : Rat) c ≤ 0 ↔ (b : Rat) ≤ c := by simpa using h4
  have b1 := cmpQ_bd (a : Rat) c
  have b2 := cmpQ_bd (b : Rat) c
  have hm : ∀ x y : Int, x ≤ y → (x : Rat) ≤ (y : Rat) := fun x y h => by exact_mod_cast h
  unfold betB
  generalize cmpQ (a : Rat) c = u at *
  generalize cmpQ (b : Rat) c = v at *
  rcases Int.le_total a b with h | h
  · rw [Int.min_eq_left h, Int.max_eq_right h]
    have hab := hm a b h
    rw [← h2, ← h3]
    have k : v ≤ 0 → u ≤ 0 := fun hv => e2.2 (by have := e4.1 hv; grind)
    have k2 : v < 0 → u < 0 := fun hv => e1.2 (by have := e3.1 hv; grind)
    clear h1 h2 h3 h4 e1 e2 e3 e4 hm hab
    rcases b1 with rfl | rfl | rfl <;> rcases b2 with rfl | rfl | rfl <;> first | rfl | (exfalso; revert k k2; decide)
  · rw [Int.min_eq_right h, Int.max_eq_left h]
    have hab := hm b a h
    rw [← h4, ← h1]
    have k : u ≤ 0 → v ≤ 0 := fun hv => e4.2 (by have := e2.1 hv; grind)
    have k2 : u < 0 → v < 0 := fun hv => e3.2 (by have := e1.1 hv; grind)
    clear h1 h2 h3 h4 e1 e2 e3 e4 hm hab
    rcases b1 with rfl | rfl | rfl <;> rcases b2 with rfl | rfl | rfl <;> first | rfl | (exfalso; revert k k2; decide)
/-- On a way, as the document says. -/
def onD (x1 y1 x2 y2 x3 y3 : Rat) : Bool := (sideR x1 y1 x2 y2 x3 y3 == 0) && betB x1 x2 x3 && betB y1 y2 y3
theorem onD_int (ax ay ex ey : Int) (q r : Rat) : onD (ax : Rat) (ay : Rat) (ex : Rat) (ey : Rat) q r = onR ax ay ex ey q r := by
  unfold onD onR
  rw [betB_int, betB_int]
  generalize decide (((min ax ex : Int) : Rat) ≤ q) = f1
  generalize decide (((max ax ex : Int) : Rat) < q) = f2
  generalize decide (((min ay ey : Int) : Rat) ≤ r) = f3
  generalize decide (((max ay ey : Int) : Rat) < r) = f4
  generalize (sideR (ax : Rat) (ay : Rat) (ex : Rat) (ey : Rat) q r == 0) = f5
  cases f1 <;> cases f2 <;> cases f3 <;> cases f4 <;> cases f5 <;> rfl
set_option maxRecDepth 100000 in
set_option maxHeartbeats 8000000 in
theorem rp_Area {bx1 by1 : Bool} {ax1 dx1 ay1 dy1 : Option Addr} {nx1 cx1 mx1 kx1 ny1 cy1 my1 ky1 : Nat} {x1 y1 : Rat} {bx2 by2 : Bool} {ax2 dx2 ay2 dy2 : Option Addr} {nx2 cx2 mx2 kx2 ny2 cy2 my2 ky2 : Nat} {x2 y2 : Rat} {bx3 by3 : Bool} {ax3 dx3 ay3 dy3 : Option Addr} {nx3 cx3 mx3 kx3 ny3 cy3 my3 ky3 : Nat} {x3 y3 : Rat} {N : Nat} (w : World) (hx1 : Fq w bx1 ax1 nx1 cx1 dx1 mx1 kx1 x1 N) (hy1 : Fq w by1 ay1 ny1 cy1 dy1 my1 ky1 y1 N) (hx2 : Fq w bx2 ax2 nx2 cx2 dx2 mx2 kx2 x2 N) (hy2 : Fq w by2 ay2 ny2 cy2 dy2 my2 ky2 y2 N) (hx3 : Fq w bx3 ax3 nx3 cx3 dx3 mx3 kx3 x3 N) (hy3 : Fq w by3 ay3 ny3 cy3 dy3 my3 ky3 y3 N) (hN : N ≤ 8589934592) (hN1 : 1 ≤ N) :
    Calls Tryz.prog 97 #[.agg #[.bool bx1, .slice ax1 nx1 cx1, .slice dx1 mx1 kx1, .bool by1, .slice ay1 ny1 cy1, .slice dy1 my1 ky1], .agg #[.bool bx2, .slice ax2 nx2 cx2, .slice dx2 mx2 kx2, .bool by2, .slice ay2 ny2 cy2, .slice dy2 my2 ky2], .agg #[.bool bx3, .slice ax3 nx3 cx3, .slice dx3 mx3 kx3, .bool by3, .slice ay3 ny3 cy3, .slice dy3 my3 ky3]] w (RetF w (areaR x1 y1 x2 y2 x3 y3).num (areaR x1 y1 x2 y2 x3 y3).den) := by
 have X1 := hidP hx1; have Y1 := hidP hy1; have X2 := hidP hx2; have Y2 := hidP hy2; have X3 := hidP hx3; have Y3 := hidP hy3
 have a1 := hx1.ql hN1; have a2 := hy1.ql hN1; have a3 := hx2.ql hN1; have a4 := hy2.ql hN1; have a5 := hx3.ql hN1; have a6 := hy3.ql hN1
 have s1 := ql_sub a4 a6; have s2 := ql_sub a6 a2; have s3 := ql_sub a2 a4
 have m1 := ql_mul a1 s1 hN1; have m2 := ql_mul a3 s2 hN1; have m3 := ql_mul a5 s3 hN1
 have L1 := hidP s1; have L2 := hidP s2; have L3 := hidP s3
 have M1 := hidP m1; have M2 := hidP m2; have M3 := hidP m3; have M4 := hidP (ql_add m1 m2)
 have A1 := hidP (fun u (t1 : Fq u by2 ay2 ny2 cy2 dy2 my2 ky2 y2 N) (t2 : Fq u by3 ay3 ny3 cy3 dy3 my3 ky3 y3 N) => gq_Sub t1 t2 (by omega) (by omega) hN1)
 have A2 := hidP (fun u (t1 : Fq u by3 ay3 ny3 cy3 dy3 my3 ky3 y3 N) (t2 : Fq u by1 ay1 ny1 cy1 dy1 my1 ky1 y1 N) => gq_Sub t1 t2 (by omega) (by omega) hN1)
 have A3 := hidP (fun u (t1 : Fq u by1 ay1 ny1 cy1 dy1 my1 ky1 y1 N) (t2 : Fq u by2 ay2 ny2 cy2 dy2 my2 ky2 y2 N) => gq_Sub t1 t2 (by omega) (by omega) hN1)
 have B1 := hidP (fun u {g1 : Bool} {e1 f1 : Option Addr} {i1 j1 p1 q1 : Nat} (t1 : Fq u bx1 ax1 nx1 cx1 dx1 mx1 kx1 x1 N) (t2 : Fq u g1 e1 i1 j1 f1 p1 q1 (y2 - y3) (N + N + 1)) => gq_Mul t1 t2 (by omega) (by omega))
 have B2 := hidP (fun u {g1 : Bool} {e1 f1 : Option Addr} {i1 j1 p1 q1 : Nat} (t1 : Fq u bx2 ax2 nx2 cx2 dx2 mx2 kx2 x2 N) (t2 : Fq u g1 e1 i1 j1 f1 p1 q1 (y3 - y1) (N + N + 1)) => gq_Mul t1 t2 (by omega) (by omega))
 have B3 := hidP (fun u {g1 : Bool} {e1 f1 : Option Addr} {i1 j1 p1 q1 : Nat} (t1 : Fq u bx3 ax3 nx3 cx3 dx3 mx3 kx3 x3 N) (t2 : Fq u g1 e1 i1 j1 f1 p1 q1 (y1 - y2) (N + N + 1)) => gq_Mul t1 t2 (by omega) (by omega))
 have D1 := hidP (fun u {g1 : Bool} {e1 f1 : Option Addr} {i1 j1 p1 q1 : Nat} {g2 : Bool} {e2 f2 : Option Addr} {i2 j2 p2 q2 : Nat} (t1 : Fq u g1 e1 i1 j1 f1 p1 q1 (x1 * (y2 - y3)) (N + (N + N + 1))) (t2 : Fq u g2 e2 i2 j2 f2 p2 q2 (x2 * (y3 - y1)) (N + (N + N + 1))) => gq_Add t1 t2 (by omega) (by omega))
 have D2 := hidP (fun u {g1 : Bool} {e1 f1 : Option Addr} {i1 j1 p1 q1 : Nat} {g2 : Bool} {e2 f2 : Option Addr} {i2 j2 p2 q2 : Nat} (t1 : Fq u g1 e1 i1 j1 f1 p1 q1 (x1 * (y2 - y3) + x2 * (y3 - y1)) (N + (N + N + 1) + (N + (N + N + 1)) + 1)) (t2 : Fq u g2 e2 i2 j2 f2 p2 q2 (x3 * (y1 - y2)) (N + (N + N + 1))) => gq_Add t1 t2 (by omega) (by omega))
 have HR : Hid (areaR x1 y1 x2 y2 x3 y3 = x1 * (y2 - y3) + x2 * (y3 - y1) + x3 * (y1 - y2)) := hidP rfl
 clear hx1 hy1 hx2 hy2 hx3 hy3 a1 a2 a3 a4 a5 a6 s1 s2 s3 m1 m2 m3
 rw [HR.out]
 generalize x1 * (y2 - y3) + x2 * (y3 - y1) + x3 * (y1 - y2) = res at *
 generalize x1 * (y2 - y3) + x2 * (y3 - y1) = sm at *
 generalize x1 * (y2 - y3) = w1 at *
 generalize x2 * (y3 - y1) = w2 at *
 generalize x3 * (y1 - y2) = w3 at *
 generalize y2 - y3 = r1 at *
 generalize y3 - y1 = r2 at *
 generalize y1 - y2 = r3 at *
 clear HR
 go_enter Tryz.func97, Tryz.ntmps97
 go_wp2_with fail
 refine absW (fun x1 hx1 => ?_)
 have hx : Ext w x1 := by rw [hx1]; exact (((((Ext.refl _).alloc _).alloc _).alloc _).alloc _)
 have bp : Bl x1 (w.heap.size) #[.bool bx1, .slice ax1 nx1 cx1, .slice dx1 mx1 kx1, .bool by1, .slice ay1 ny1 cy1, .slice dy1 my1 ky1] := by rw [hx1]; exact ((((Bl.new (by simp)).alloc (by simp)).alloc (by simp)).alloc (by simp))
 have bq : Bl x1 (w.heap.size + 1) #[.bool bx2, .slice ax2 nx2 cx2, .slice dx2 mx2 kx2, .bool by2, .slice ay2 ny2 cy2, .slice dy2 my2 ky2] := by rw [hx1]; exact (((Bl.new (by simp)).alloc (by simp)).alloc (by simp))
 have br : Bl x1 (w.heap.size + 1 + 1) #[.bool bx3, .slice ax3 nx3 cx3, .slice dx3 mx3 kx3, .bool by3, .slice ay3 ny3 cy3, .slice dy3 my3 ky3] := by rw [hx1]; exact ((Bl.new (by simp)).alloc (by simp))
 have bs : Bl x1 (w.heap.size + 1 + 1 + 1) #[.bool false, .slice none 0 0, .slice none 0 0] := by rw [hx1]; exact (Bl.new (by simp))
 have fs : Fz x1 (w.heap.size + 1 + 1 + 1) := by rw [hx1]; exact (Fz.new (by simp))
 have HE := hx
 clear hx
 clear hx1
 have lcs := bs.lt (Nat.succ_pos _)
 go_cut [7] (fun v7 wx => ∃ (g7 : Nat) (a15 d15 : Option Addr) (n15 c15 m15 k15 : Nat), v7 = .pointer (some ⟨g7, 0, none⟩) ∧ x1.heap.size ≤ g7 ∧ Bl wx g7 #[.bool (decide (sm.num < 0)), .slice a15 n15 c15, .slice d15 m15 k15] ∧ Nc wx a15 n15 c15 sm.num.natAbs ∧ Nc wx d15 m15 k15 sm.den ∧ Ext x1 wx)
 case first =>
  have HC := Ext.refl x1
  have lop := bp.lt (Nat.succ_pos _)
  have loq := bq.lt (Nat.succ_pos _)
  have lor := br.lt (Nat.succ_pos _)
  have los := bs.lt (Nat.succ_pos _)
  have hlo : x1.heap.size ≤ x1.heap.size := Nat.le_refl _
  refine wp_region_plan (R := Below x1.heap.size) (.q 0 (.q 1 (.q 2 (.q 3 (.q 4 (.q 5 (.q 8 (.q 9 (.q 10 (.q 11 (.q 12 (.q 13 (.br 6 (.br 7 (.br 14 (.br 15 (.br 16 (.l 17 (.b 18 .done)) (.l 17 (.l 16 (.b 18 .done)))) (.l 17 (.l 15 (.l 16 (.b 18 .done))))) (.l 17 (.l 14 (.l 15 (.l 16 (.b 18 .done)))))) (.l 17 (.l 7 (.l 14 (.l 15 (.l 16 (.b 18 .done))))))) (.l 17 (.l 6 (.l 7 (.l 14 (.l 15 (.l 16 (.b 18 .done)))))))))))))))))))) (by kernel_rfl) (by kernel_rfl) (by kernel_rfl) (by kernel_rfl) (Below.refl _) (fun _ _ _ => Below.trans) ?_
  refine absE (fun x2 hx2 => ?_)
  have hx : Ext x1 x2 := by rw [hx2]; exact (Ext.refl _).drew
  replace hlo := Nat.le_trans hlo hx.size
  replace bp := q1b hx bp
  replace bq := q1b hx bq
  replace br := q1b hx br
  replace fs := q1f hx fs bs
  replace bs := q1b hx bs
  replace HC := HC.trans hx
  replace HE := HE.trans hx
  clear hx
  clear hx2
  repeat (refine wpE_q (v := ?_) rfl rfl (fun u hu => ?_) ?_; rotate_left 1; (focus (have kp := Bl.low hu bp lop; have kq := Bl.low hu bq loq; have kr := Bl.low hu br lor; have ks := Bl.low hu bs los; go_simp; (try rfl))); simp only [PU])
  clear bp
  clear bq
  clear br
  clear fs bs
  refine wpE_br rfl rfl (fun K hK => ?_) ?_
  · go_simp
    refine (A1.out _ (Y2.out.ext HE) (Y3.out.ext HE)).mono ?_
    rintro e u11 ⟨a11, n11, c11, d11, m11, k11, rfl, hs11, ht11, hx⟩
    refine hK.out _ _ (Below.mono hx hlo) ?_
    clear hK K
    try simp only [PU]
    replace hlo := Nat.le_trans hlo hx.size
    replace HC := HC.trans hx
    replace HE := HE.trans hx
    clear hx
    replace hs11 : Nc u11 a11 n11 c11 (r1.num).natAbs := hs11
    replace ht11 : Nc u11 d11 m11 k11 (r1.den) := ht11
    refine wpE_br rfl rfl (fun K hK => ?_) ?_
    · go_simp
      refine (B1.out _ (X1.out.ext HE) (fq_of hs11 ht11 L1.out (by omega))).mono ?_
      rintro e u12 ⟨a12, n12, c12, d12, m12, k12, rfl, hs12, ht12, hx⟩
      refine hK.out _ _ (Below.mono hx hlo) ?_
      clear hK K
      try simp only [PU]
      replace hlo := Nat.le_trans hlo hx.size
      replace hs11 := hs11.ext hx
      replace ht11 := ht11.ext hx
      replace HC := HC.trans hx
      replace HE := HE.trans hx
      clear hx
      replace hs12 : Nc u12 a12 n12 c12 (w1.num).natAbs := hs12
      replace ht12 : Nc u12 d12 m12 k12 (w1.den) := ht12
      refine wpE_br rfl rfl (fun K hK => ?_) ?_
      · go_simp
        refine (A2.out _ (Y3.out.ext HE) (Y1.out.ext HE)).mono ?_
        rintro e u13 ⟨a13, n13, c13, d13, m13, k13, rfl, hs13, ht13, hx⟩
        refine hK.out _ _ (Below.mono hx hlo) ?_
        clear hK K
        try simp only [PU]
        replace hlo := Nat.le_trans hlo hx.size
        replace hs11 := hs11.ext hx
        replace ht11 := ht11.ext hx
        replace hs12 := hs12.ext hx
        replace ht12 := ht12.ext hx
        replace HC := HC.trans hx
        replace HE := HE.trans hx
        clear hx
        replace hs13 : Nc u13 a13 n13 c13 (r2.num).natAbs := hs13
        replace ht13 : Nc u13 d13 m13 k13 (r2.den) := ht13
        refine wpE_br rfl rfl (fun K hK => ?_) ?_
        · go_simp
          refine (B2.out _ (X2.out.ext HE) (fq_of hs13 ht13 L2.out (by omega))).mono ?_
          rintro e u14 ⟨a14, n14, c14, d14, m14, k14, rfl, hs14, ht14, hx⟩
          refine hK.out _ _ (Below.mono hx hlo) ?_
          clear hK K
          try simp only [PU]
          replace hlo := Nat.le_trans hlo hx.size
          replace hs11 := hs11.ext hx
          replace ht11 := ht11.ext hx
          replace hs12 := hs12.ext hx
          replace ht12 := ht12.ext hx
          replace hs13 := hs13.ext hx
          replace ht13 := ht13.ext hx
          replace HC := HC.trans hx
          replace HE := HE.trans hx
          clear hx
          replace hs14 : Nc u14 a14 n14 c14 (w2.num).natAbs := hs14
          replace ht14 : Nc u14 d14 m14 k14 (w2.den) := ht14
          refine wpE_br rfl rfl (fun K hK => ?_) ?_
          · go_simp
            refine (D1.out _ (fq_of hs12 ht12 M1.out (by omega)) (fq_of hs14 ht14 M2.out (by omega))).mono ?_
            rintro e u15 ⟨a15, n15, c15, d15, m15, k15, rfl, hs15, ht15, hx⟩
            refine hK.out _ _ (Below.mono hx hlo) ?_
            clear hK K
            try simp only [PU]
            replace hlo := Nat.le_trans hlo hx.size
            replace hs11 := hs11.ext hx
            replace ht11 := ht11.ext hx
            replace hs12 := hs12.ext hx
            replace ht12 := ht12.ext hx
            replace hs13 := hs13.ext hx
            replace ht13 := ht13.ext hx
            replace hs14 := hs14.ext hx
            replace ht14 := ht14.ext hx
            replace HC := HC.trans hx
            replace HE := HE.trans hx
            clear hx
            replace hs15 : Nc u15 a15 n15 c15 (sm.num).natAbs := hs15
            replace ht15 : Nc u15 d15 m15 k15 (sm.den) := ht15
            refine wpE_l rfl rfl (fun K hK => ?_)
            go_simp
            refine hK.out _ _ ((Below.refl _ _).alloc hlo _) ?_
            clear hK K
            try simp only [PU]
            have gev := hlo
            have l0v := HE.size
            refine absE (fun x3 hx3 => ?_)
            have hx : Ext u15 x3 := by rw [hx3]; exact ((Ext.refl _).alloc _)
            have bv : Bl x3 (u15.heap.size) #[.bool false, .slice none 0 0, .slice none 0 0] := by rw [hx3]; exact (Bl.new (by simp))
            have fv : Fz x3 (u15.heap.size) := by rw [hx3]; exact (Fz.new (by simp))
            replace hlo := Nat.le_trans hlo hx.size
            replace hs11 := hs11.ext hx
            replace ht11 := ht11.ext hx
            replace hs12 := hs12.ext hx
            replace ht12 := ht12.ext hx
            replace hs13 := hs13.ext hx
            replace ht13 := ht13.ext hx
            replace hs14 := hs14.ext hx
            replace ht14 := ht14.ext hx
            replace hs15 := hs15.ext hx
            replace ht15 := ht15.ext hx
            replace HC := HC.trans hx
            replace HE := HE.trans hx
            clear hx
            clear hx3
            refine wpE_b rfl rfl (fun K hK => ?_)
            go_simp
            refine hK.out _ _ ?_
            clear hK K
            try simp only [PU]
            refine absE (fun x4 hx4 => ?_)
            have hbut : But x3 x4 (u15.heap.size) := by rw [hx4]; exact (But.refl _ _).store.store.store
            have hbn : Bl x4 (u15.heap.size) #[.bool (decide (sm.num < 0)), .slice a15 n15 c15, .slice d15 m15 k15] := by rw [hx4]; exact (Bl.set (Bl.set (Bl.set bv (by simp)) (by simp)) (by simp))
            have hni : ∀ (j : Nat) (x : Int), (#[.bool false, .slice none 0 0, .slice none 0 0] : Array Value)[j]? ≠ some (Value.int .u32 x) := (not_ints3 nb_bool nb_slice nb_slice)
            replace hs11 := hs11.but bv hni hbut
            replace ht11 := ht11.but bv hni hbut
            replace hs12 := hs12.but bv hni hbut
            replace ht12 := ht12.but bv hni hbut
            replace hs13 := hs13.but bv hni hbut
            replace ht13 := ht13.but bv hni hbut
            replace hs14 := hs14.but bv hni hbut
            replace ht14 := ht14.but bv hni hbut
            replace hs15 := hs15.but bv hni hbut
            replace ht15 := ht15.but bv hni hbut
            clear hni
            replace fv : Fz x4 (u15.heap.size) := by rw [hx4]; exact (Fz.set (Fz.set (Fz.set fv)))
            have hle : w.heap.size ≤ u15.heap.size := by omega
            replace HE : Ext w x4 := by rw [hx4]; exact (((HE.store hle _).store hle _).store hle _)
            clear hle
            have hle : x1.heap.size ≤ u15.heap.size := by omega
            replace HC : Ext x1 x4 := by rw [hx4]; exact (((HC.store hle _).store hle _).store hle _)
            clear hle
            replace hlo : x1.heap.size ≤ x4.heap.size := Nat.le_trans hlo hbut.1
            clear bv hbut hx4
            have bv := hbn
            clear hbn
            refine wpE_done ?_
            clear hlo
            go_wp2_with fail
            go_meet
            exact ⟨u15.heap.size, a15, d15, n15, c15, m15, k15, rfl, gev, bv, hs15, ht15, HC⟩
          refine wpE_l rfl rfl (fun K hK => ?_)
          go_simp
          refine hK.out _ _ ((Below.refl _ _).alloc hlo _) ?_
          clear hK K
          try simp only [PU]
          have gev := hlo
          have l0v := HE.size
          refine absE (fun x3 hx3 => ?_)
          have hx : Ext u14 x3 := by rw [hx3]; exact ((Ext.refl _).alloc _)
          have bv : Bl x3 (u14.heap.size) #[.bool false, .slice none 0 0, .slice none 0 0] := by rw [hx3]; exact (Bl.new (by simp))
          have fv : Fz x3 (u14.heap.size) := by rw [hx3]; exact (Fz.new (by simp))
          replace hlo := Nat.le_trans hlo hx.size
          replace hs11 := hs11.ext hx
          replace ht11 := ht11.ext hx
          replace hs12 := hs12.ext hx
          replace ht12 := ht12.ext hx
          replace hs13 := hs13.ext hx
          replace ht13 := ht13.ext hx
          replace hs14 := hs14.ext hx
          replace ht14 := ht14.ext hx
          replace HC := HC.trans hx
          replace HE := HE.trans hx
          clear hx
          clear hx3
          refine wpE_l rfl rfl (fun K hK => ?_)
          go_simp
          refine (D1.out _ (fq_of hs12 ht12 M1.out (by omega)) (fq_of hs14 ht14 M2.out (by omega))).mono ?_
          rintro e u15 ⟨a15, n15, c15, d15, m15, k15, rfl, hs15, ht15, hx⟩
          refine hK.out _ _ (Below.mono hx hlo) ?_
          clear hK K
          try simp only [PU]
          replace hlo := Nat.le_trans hlo hx.size
          replace fv := q1f hx fv bv
          replace bv := q1b hx bv
          replace hs11 := hs11.ext hx
          replace ht11 := ht11.ext hx
          replace hs12 := hs12.ext hx
          replace ht12 := ht12.ext hx
          replace hs13 := hs13.ext hx
          replace ht13 := ht13.ext hx
          replace hs14 := hs14.ext hx
          replace ht14 := ht14.ext hx
          replace HC := HC.trans hx
          replace HE := HE.trans hx
          clear hx
          replace hs15 : Nc u15 a15 n15 c15 (sm.num).natAbs := hs15
          replace ht15 : Nc u15 d15 m15 k15 (sm.den) := ht15
          refine wpE_b rfl rfl (fun K hK => ?_)
          go_simp
          refine hK.out _ _ ?_
          clear hK K
          try simp only [PU]
          refine absE (fun x4 hx4 => ?_)
          have hbut : But u15 x4 (u14.heap.size) := by rw [hx4]; exact (But.refl _ _).store.store.store
          have hbn : Bl x4 (u14.heap.size) #[.bool (decide (sm.num < 0)), .slice a15 n15 c15, .slice d15 m15 k15] := by rw [hx4]; exact (Bl.set (Bl.set (Bl.set bv (by simp)) (by simp)) (by simp))
          have hni : ∀ (j : Nat) (x : Int), (#[.bool false, .slice none 0 0, .slice none 0 0] : Array Value)[j]? ≠ some (Value.int .u32 x) := (not_ints3 nb_bool nb_slice nb_slice)
          replace hs11 := hs11.but bv hni hbut
          replace ht11 := ht11.but bv hni hbut
          replace hs12 := hs12.but bv hni hbut
          replace ht12 := ht12.but bv hni hbut
          replace hs13 := hs13.but bv hni hbut
          replace ht13 := ht13.but bv hni hbut
          replace hs14 := hs14.but bv hni hbut
          replace ht14 := ht14.but bv hni hbut
          replace hs15 := hs15.but bv hni hbut
          replace ht15 := ht15.but bv hni hbut
          clear hni
          replace fv : Fz x4 (u14.heap.size) := by rw [hx4]; exact (Fz.set (Fz.set (Fz.set fv)))
          have hle : w.heap.size ≤ u14.heap.size := by omega
          replace HE : Ext w x4 := by rw [hx4]; exact (((HE.store hle _).store hle _).store hle _)
          clear hle
          have hle : x1.heap.size ≤ u14.heap.size := by omega
          replace HC : Ext x1 x4 := by rw [hx4]; exact (((HC.store hle _).store hle _).store hle _)
          clear hle
          replace hlo : x1.heap.size ≤ x4.heap.size := Nat.le_trans hlo hbut.1
          clear bv hbut hx4
          have bv := hbn
          clear hbn
          refine wpE_done ?_
          clear hlo
          go_wp2_with fail
          go_meet
          exact ⟨u14.heap.size, a15, d15, n15, c15, m15, k15, rfl, gev, bv, hs15, ht15, HC⟩
        refine wpE_l rfl rfl (fun K hK => ?_)
        go_simp
        refine hK.out _ _ ((Below.refl _ _).alloc hlo _) ?_
        clear hK K
        try simp only [PU]
        have gev := hlo
        have l0v := HE.size
        refine absE (fun x3 hx3 => ?_)
        have hx : Ext u13 x3 := by rw [hx3]; exact ((Ext.refl _).alloc _)
        have bv : Bl x3 (u13.heap.size) #[.bool false, .slice none 0 0, .slice none 0 0] := by rw [hx3]; exact (Bl.new (by simp))
        have fv : Fz x3 (u13.heap.size) := by rw [hx3]; exact (Fz.new (by simp))
        replace hlo := Nat.le_trans hlo hx.size
        replace hs11 := hs11.ext hx
        replace ht11 := ht11.ext hx
        replace hs12 := hs12.ext hx
        replace ht12 := ht12.ext hx
        replace hs13 := hs13.ext hx
        replace ht13 := ht13.ext hx
        replace HC := HC.trans hx
        replace HE := HE.trans hx
        clear hx
        clear hx3
        refine wpE_l rfl rfl (fun K hK => ?_)
        go_simp
        refine (B2.out _ (X2.out.ext HE) (fq_of hs13 ht13 L2.out (by omega))).mono ?_
        rintro e u14 ⟨a14, n14, c14, d14, m14, k14, rfl, hs14, ht14, hx⟩
        refine hK.out _ _ (Below.mono hx hlo) ?_
        clear hK K
        try simp only [PU]
        replace hlo := Nat.le_trans hlo hx.size
        replace fv := q1f hx fv bv
        replace bv := q1b hx bv
        replace hs11 := hs11.ext hx
        replace ht11 := ht11.ext hx
        replace hs12 := hs12.ext hx
        replace ht12 := ht12.ext hx
        replace hs13 := hs13.ext hx
        replace ht13 := ht13.ext hx
        replace HC := HC.trans hx
        replace HE := HE.trans hx
        clear hx
        replace hs14 : Nc u14 a14 n14 c14 (w2.num).natAbs := hs14
        replace ht14 : Nc u14 d14 m14 k14 (w2.den) := ht14
        refine wpE_l rfl rfl (fun K hK => ?_)
        go_simp
        refine (D1.out _ (fq_of hs12 ht12 M1.out (by omega)) (fq_of hs14 ht14 M2.out (by omega))).mono ?_
        rintro e u15 ⟨a15, n15, c15, d15, m15, k15, rfl, hs15, ht15, hx⟩
        refine hK.out _ _ (Below.mono hx hlo) ?_
        clear hK K
        try simp only [PU]
        replace hlo := Nat.le_trans hlo hx.size
        replace fv := q1f hx fv bv
        replace bv := q1b hx bv
        replace hs11 := hs11.ext hx
        replace ht11 := ht11.ext hx
        replace hs12 := hs12.ext hx
        replace ht12 := ht12.ext hx
        replace hs13 := hs13.ext hx
        replace ht13 := ht13.ext hx
        replace hs14 := hs14.ext hx
        replace ht14 := ht14.ext hx
        replace HC := HC.trans hx
        replace HE := HE.trans hx
        clear hx
        replace hs15 : Nc u15 a15 n15 c15 (sm.num).natAbs := hs15
        replace ht15 : Nc u15 d15 m15 k15 (sm.den) := ht15
        refine wpE_b rfl rfl (fun K hK => ?_)
        go_simp
        refine hK.out _ _ ?_
        clear hK K
        try simp only [PU]
        refine absE (fun x4 hx4 => ?_)
        have hbut : But u15 x4 (u13.heap.size) := by rw [hx4]; exact (But.refl _ _).store.store.store
        have hbn : Bl x4 (u13.heap.size) #[.bool (decide (sm.num < 0)), .slice a15 n15 c15, .slice d15 m15 k15] := by rw [hx4]; exact (Bl.set (Bl.set (Bl.set bv (by simp)) (by simp)) (by simp))
        have hni : ∀ (j : Nat) (x : Int), (#[.bool false, .slice none 0 0, .slice none 0 0] : Array Value)[j]? ≠ some (Value.int .u32 x) := (not_ints3 nb_bool nb_slice nb_slice)
        replace hs11 := hs11.but bv hni hbut
        replace ht11 := ht11.but bv hni hbut
        replace hs12 := hs12.but bv hni hbut
        replace ht12 := ht12.but bv hni hbut
        replace hs13 := hs13.but bv hni hbut
        replace ht13 := ht13.but bv hni hbut
        replace hs14 := hs14.but bv hni hbut
        replace ht14 := ht14.but bv hni hbut
        replace hs15 := hs15.but bv hni hbut
        replace ht15 := ht15.but bv hni hbut
        clear hni
        replace fv : Fz x4 (u13.heap.size) := by rw [hx4]; exact (Fz.set (Fz.set (Fz.set fv)))
        have hle : w.heap.size ≤ u13.heap.size := by omega
        replace HE : Ext w x4 := by rw [hx4]; exact (((HE.store hle _).store hle _).store hle _)
        clear hle
        have hle : x1.heap.size ≤ u13.heap.size := by omega
        replace HC : Ext x1 x4 := by rw [hx4]; exact (((HC.store hle _).store hle _).store hle _)
        clear hle
        replace hlo : x1.heap.size ≤ x4.heap.size := Nat.le_trans hlo hbut.1
        clear bv hbut hx4
        have bv := hbn
        clear hbn
        refine wpE_done ?_
        clear hlo
        go_wp2_with fail
        go_meet
        exact ⟨u13.heap.size, a15, d15, n15, c15, m15, k15, rfl, gev, bv, hs15, ht15, HC⟩
      refine wpE_l rfl rfl (fun K hK => ?_)
      go_simp
      refine hK.out _ _ ((Below.refl _ _).alloc hlo _) ?_
      clear hK K
      try simp only [PU]
      have gev := hlo
      have l0v := HE.size
      refine absE (fun x3 hx3 => ?_)
      have hx : Ext u12 x3 := by rw [hx3]; exact ((Ext.refl _).alloc _)
      have bv : Bl x3 (u12.heap.size) #[.bool false, .slice none 0 0, .slice none 0 0] := by rw [hx3]; exact (Bl.new (by simp))
      have fv : Fz x3 (u12.heap.size) := by rw [hx3]; exact (Fz.new (by simp))
      replace hlo := Nat.le_trans hlo hx.size
      replace hs11 := hs11.ext hx
      replace ht11 := ht11.ext hx
      replace hs12 := hs12.ext hx
      replace ht12 := ht12.ext hx
      replace HC := HC.trans hx
      replace HE := HE.trans hx
      clear hx
      clear hx3
      refine wpE_l rfl rfl (fun K hK => ?_)
      go_simp
      refine (A2.out _ (Y3.out.ext HE) (Y1.out.ext HE)).mono ?_
      rintro e u13 ⟨a13, n13, c13, d13, m13, k13, rfl, hs13, ht13, hx⟩
      refine hK.out _ _ (Below.mono hx hlo) ?_
      clear hK K
      try simp only [PU]
      replace hlo := Nat.le_trans hlo hx.size
      replace fv := q1f hx fv bv
      replace bv := q1b hx bv
      replace hs11 := hs11.ext hx
      replace ht11 := ht11.ext hx
      replace hs12 := hs12.ext hx
      replace ht12 := ht12.ext hx
      replace HC := HC.trans hx
      replace HE := HE.trans hx
      clear hx
      replace hs13 : Nc u13 a13 n13 c13 (r2.num).natAbs := hs13
      replace ht13 : Nc u13 d13 m13 k13 (r2.den) := ht13
      refine wpE_l rfl rfl (fun K hK => ?_)
      go_simp
      refine (B2.out _ (X2.out.ext HE) (fq_of hs13 ht13 L2.out (by omega))).mono ?_
      rintro e u14 ⟨a14, n14, c14, d14, m14, k14, rfl, hs14, ht14, hx⟩
      refine hK.out _ _ (Below.mono hx hlo) ?_
      clear hK K
      try simp only [PU]
      replace hlo := Nat.le_trans hlo hx.size
      replace fv := q1f hx fv bv
      replace bv := q1b hx bv
      replace hs11 := hs11.ext hx
      replace ht11 := ht11.ext hx
      replace hs12 := hs12.ext hx
      replace ht12 := ht12.ext hx
      replace hs13 := hs13.ext hx
      replace ht13 := ht13.ext hx
      replace HC := HC.trans hx
      replace HE := HE.trans hx
      clear hx
      replace hs14 : Nc u14 a14 n14 c14 (w2.num).natAbs := hs14
      replace ht14 : Nc u14 d14 m14 k14 (w2.den) := ht14
      refine wpE_l rfl rfl (fun K hK => ?_)
      go_simp
      refine (D1.out _ (fq_of hs12 ht12 M1.out (by omega)) (fq_of hs14 ht14 M2.out (by omega))).mono ?_
      rintro e u15 ⟨a15, n15, c15, d15, m15, k15, rfl, hs15, ht15, hx⟩
      refine hK.out _ _ (Below.mono hx hlo) ?_
      clear hK K
      try simp only [PU]
      replace hlo := Nat.le_trans hlo hx.size
      replace fv := q1f hx fv bv
      replace bv := q1b hx bv
      replace hs11 := hs11.ext hx
      replace ht11 := ht11.ext hx
      replace hs12 := hs12.ext hx
      replace ht12 := ht12.ext hx
      replace hs13 := hs13.ext hx
      replace ht13 := ht13.ext hx
      replace hs14 := hs14.ext hx
      replace ht14 := ht14.ext hx
      replace HC := HC.trans hx
      replace HE := HE.trans hx
      clear hx
      replace hs15 : Nc u15 a15 n15 c15 (sm.num).natAbs := hs15
      replace ht15 : Nc u15 d15 m15 k15 (sm.den) := ht15
      refine wpE_b rfl rfl (fun K hK => ?_)
      go_simp
      refine hK.out _ _ ?_
      clear hK K
      try simp only [PU]
      refine absE (fun x4 hx4 => ?_)
      have hbut : But u15 x4 (u12.heap.size) := by rw [hx4]; exact (But.refl _ _).store.store.store
      have hbn : Bl x4 (u12.heap.size) #[.bool (decide (sm.num < 0)), .slice a15 n15 c15, .slice d15 m15 k15] := by rw [hx4]; exact (Bl.set (Bl.set (Bl.set bv (by simp)) (by simp)) (by simp))
      have hni : ∀ (j : Nat) (x : Int), (#[.bool false, .slice none 0 0, .slice none 0 0] : Array Value)[j]? ≠ some (Value.int .u32 x) := (not_ints3 nb_bool nb_slice nb_slice)
      replace hs11 := hs11.but bv hni hbut
      replace ht11 := ht11.but bv hni hbut
      replace hs12 := hs12.but bv hni hbut
      replace ht12 := ht12.but bv hni hbut
      replace hs13 := hs13.but bv hni hbut
      replace ht13 := ht13.but bv hni hbut
      replace hs14 := hs14.but bv hni hbut
      replace ht14 := ht14.but bv hni hbut
      replace hs15 := hs15.but bv hni hbut
      replace ht15 := ht15.but bv hni hbut
      clear hni
      replace fv : Fz x4 (u12.heap.size) := by rw [hx4]; exact (Fz.set (Fz.set (Fz.set fv)))
      have hle : w.heap.size ≤ u12.heap.size := by omega
      replace HE : Ext w x4 := by rw [hx4]; exact (((HE.store hle _).store hle _).store hle _)
      clear hle
      have hle : x1.heap.size ≤ u12.heap.size := by omega
      replace HC : Ext x1 x4 := by rw [hx4]; exact (((HC.store hle _).store hle _).store hle _)
      clear hle
      replace hlo : x1.heap.size ≤ x4.heap.size := Nat.le_trans hlo hbut.1
      clear bv hbut hx4
      have bv := hbn
      clear hbn
      refine wpE_done ?_
      clear hlo
      go_wp2_with fail
      go_meet
      exact ⟨u12.heap.size, a15, d15, n15, c15, m15, k15, rfl, gev, bv, hs15, ht15, HC⟩
    refine wpE_l rfl rfl (fun K hK => ?_)
    go_simp
    refine hK.out _ _ ((Below.refl _ _).alloc hlo _) ?_
    clear hK K
    try simp only [PU]
    have gev := hlo
    have l0v := HE.size
    refine absE (fun x3 hx3 => ?_)
    have hx : Ext u11 x3 := by rw [hx3]; exact ((Ext.refl _).alloc _)
    have bv : Bl x3 (u11.heap.size) #[.bool false, .slice none 0 0, .slice none 0 0] := by rw [hx3]; exact (Bl.new (by simp))
    have fv : Fz x3 (u11.heap.size) := by rw [hx3]; exact (Fz.new (by simp))
    replace hlo := Nat.le_trans hlo hx.size
    replace hs11 := hs11.ext hx
    replace ht11 := ht11.ext hx
    replace HC := HC.trans hx
    replace HE := HE.trans hx
    clear hx
    clear hx3
    refine wpE_l rfl rfl (fun K hK => ?_)
    go_simp
    refine (B1.out _ (X1.out.ext HE) (fq_of hs11 ht11 L1.out (by omega))).mono ?_
    rintro e u12 ⟨a12, n12, c12, d12, m12, k12, rfl, hs12, ht12, hx⟩
    refine hK.out _ _ (Below.mono hx hlo) ?_
    clear hK K
    try simp only [PU]
    replace hlo := Nat.le_trans hlo hx.size
    replace fv := q1f hx fv bv
    replace bv := q1b hx bv
    replace hs11 := hs11.ext hx
    replace ht11 := ht11.ext hx
    replace HC := HC.trans hx
    replace HE := HE.trans hx
    clear hx
    replace hs12 : Nc u12 a12 n12 c12 (w1.num).natAbs := hs12
    replace ht12 : Nc u12 d12 m12 k12 (w1.den) := ht12
    refine wpE_l rfl rfl (fun K hK => ?_)
    go_simp
    refine (A2.out _ (Y3.out.ext HE) (Y1.out.ext HE)).mono ?_
    rintro e u13 ⟨a13, n13, c13, d13, m13, k13, rfl, hs13, ht13, hx⟩
    refine hK.out _ _ (Below.mono hx hlo) ?_
    clear hK K
    try simp only [PU]
    replace hlo := Nat.le_trans hlo hx.size
    replace fv := q1f hx fv bv
    replace bv := q1b hx bv
    replace hs11 := hs11.ext hx
    replace ht11 := ht11.ext hx
    replace hs12 := hs12.ext hx
    replace ht12 := ht12.ext hx
    replace HC := HC.trans hx
    replace HE := HE.trans hx
    clear hx
    replace hs13 : Nc u13 a13 n13 c13 (r2.num).natAbs := hs13
    replace ht13 : Nc u13 d13 m13 k13 (r2.den) := ht13
    refine wpE_l rfl rfl (fun K hK => ?_)
    go_simp
    refine (B2.out _ (X2.out.ext HE) (fq_of hs13 ht13 L2.out (by omega))).mono ?_
    rintro e u14 ⟨a14, n14, c14, d14, m14, k14, rfl, hs14, ht14, hx⟩
    refine hK.out _ _ (Below.mono hx hlo) ?_
    clear hK K
    try simp only [PU]
    replace hlo := Nat.le_trans hlo hx.size
    replace fv := q1f hx fv bv
    replace bv := q1b hx bv
    replace hs11 := hs11.ext hx
    replace ht11 := ht11.ext hx
    replace hs12 := hs12.ext hx
    replace ht12 := ht12.ext hx
    replace hs13 := hs13.ext hx
    replace ht13 := ht13.ext hx
    replace HC := HC.trans hx
    replace HE := HE.trans hx
    clear hx
    replace hs14 : Nc u14 a14 n14 c14 (w2.num).natAbs := hs14
    replace ht14 : Nc u14 d14 m14 k14 (w2.den) := ht14
    refine wpE_l rfl rfl (fun K hK => ?_)
    go_simp
    refine (D1.out _ (fq_of hs12 ht12 M1.out (by omega)) (fq_of hs14 ht14 M2.out (by omega))).mono ?_
    rintro e u15 ⟨a15, n15, c15, d15, m15, k15, rfl, hs15, ht15, hx⟩
    refine hK.out _ _ (Below.mono hx hlo) ?_
    clear hK K
    try simp only [PU]
    replace hlo := Nat.le_trans hlo hx.size
    replace fv := q1f hx fv bv
    replace bv := q1b hx bv
    replace hs11 := hs11.ext hx
    replace ht11 := ht11.ext hx
    replace hs12 := hs12.ext hx
    replace ht12 := ht12.ext hx
    replace hs13 := hs13.ext hx
    replace ht13 := ht13.ext hx
    replace hs14 := hs14.ext hx
    replace ht14 := ht14.ext hx
    replace HC := HC.trans hx
    replace HE := HE.trans hx
    clear hx
    replace hs15 : Nc u15 a15 n15 c15 (sm.num).natAbs := hs15
    replace ht15 : Nc u15 d15 m15 k15 (sm.den) := ht15
    refine wpE_b rfl rfl (fun K hK => ?_)
    go_simp
    refine hK.out _ _ ?_
    clear hK K
    try simp only [PU]
    refine absE (fun x4 hx4 => ?_)
    have hbut : But u15 x4 (u11.heap.size) := by rw [hx4]; exact (But.refl _ _).store.store.store
    have hbn : Bl x4 (u11.heap.size) #[.bool (decide (sm.num < 0)), .slice a15 n15 c15, .slice d15 m15 k15] := by rw [hx4]; exact (Bl.set (Bl.set (Bl.set bv (by simp)) (by simp)) (by simp))
    have hni : ∀ (j : Nat) (x : Int), (#[.bool false, .slice none 0 0, .slice none 0 0] : Array Value)[j]? ≠ some (Value.int .u32 x) := (not_ints3 nb_bool nb_slice nb_slice)
    replace hs11 := hs11.but bv hni hbut
    replace ht11 := ht11.but bv hni hbut
    replace hs12 := hs12.but bv hni hbut
    replace ht12 := ht12.but bv hni hbut
    replace hs13 := hs13.but bv hni hbut
    replace ht13 := ht13.but bv hni hbut
    replace hs14 := hs14.but bv hni hbut
    replace ht14 := ht14.but bv hni hbut
    replace hs15 := hs15.but bv hni hbut
    replace ht15 := ht15.but bv hni hbut
    clear hni
    replace fv : Fz x4 (u11.heap.size) := by rw [hx4]; exact (Fz.set (Fz.set (Fz.set fv)))
    have hle : w.heap.size ≤ u11.heap.size := by omega
    replace HE : Ext w x4 := by rw [hx4]; exact (((HE.store hle _).store hle _).store hle _)
    clear hle
    have hle : x1.heap.size ≤ u11.heap.size := by omega
    replace HC : Ext x1 x4 := by rw [hx4]; exact (((HC.store hle _).store hle _).store hle _)
    clear hle
    replace hlo : x1.heap.size ≤ x4.heap.size := Nat.le_trans hlo hbut.1
    clear bv hbut hx4
    have bv := hbn
    clear hbn
    refine wpE_done ?_
    clear hlo
    go_wp2_with fail
    go_meet
    exact ⟨u11.heap.size, a15, d15, n15, c15, m15, k15, rfl, gev, bv, hs15, ht15, HC⟩
  refine wpE_l rfl rfl (fun K hK => ?_)
  go_simp
  refine hK.out _ _ ((Below.refl _ _).alloc hlo _) ?_
  clear hK K
  try simp only [PU]
  have gev := hlo
  have l0v := HE.size
  refine absE (fun x3 hx3 => ?_)
  have hx : Ext x2 x3 := by rw [hx3]; exact ((Ext.refl _).alloc _)
  have bv : Bl x3 (x2.heap.size) #[.bool false, .slice none 0 0, .slice none 0 0] := by rw [hx3]; exact (Bl.new (by simp))
  have fv : Fz x3 (x2.heap.size) := by rw [hx3]; exact (Fz.new (by simp))
  replace hlo := Nat.le_trans hlo hx.size
  replace HC := HC.trans hx
  replace HE := HE.trans hx
  clear hx
  clear hx3
  refine wpE_l rfl rfl (fun K hK => ?_)
  go_simp
  refine (A1.out _ (Y2.out.ext HE) (Y3.out.ext HE)).mono ?_
  rintro e u11 ⟨a11, n11, c11, d11, m11, k11, rfl, hs11, ht11, hx⟩
  refine hK.out _ _ (Below.mono hx hlo) ?_
  clear hK K
  try simp only [PU]
  replace hlo := Nat.le_trans hlo hx.size
  replace fv := q1f hx fv bv
  replace bv := q1b hx bv
  replace HC := HC.trans hx
  replace HE := HE.trans hx
  clear hx
  replace hs11 : Nc u11 a11 n11 c11 (r1.num).natAbs := hs11
  replace ht11 : Nc u11 d11 m11 k11 (r1.den) := ht11
  refine wpE_l rfl rfl (fun K hK => ?_)
  go_simp
  refine (B1.out _ (X1.out.ext HE) (fq_of hs11 ht11 L1.out (by omega))).mono ?_
  rintro e u12 ⟨a12, n12, c12, d12, m12, k12, rfl, hs12, ht12, hx⟩
  refine hK.out _ _ (Below.mono hx hlo) ?_
  clear hK K
  try simp only [PU]
  replace hlo := Nat.le_trans hlo hx.size
  replace fv := q1f hx fv bv
  replace bv := q1b hx bv
  replace hs11 := hs11.ext hx
  replace ht11 := ht11.ext hx
  replace HC := HC.trans hx
  replace HE := HE.trans hx
  clear hx
  replace hs12 : Nc u12 a12 n12 c12 (w1.num).natAbs := hs12
  replace ht12 : Nc u12 d12 m12 k12 (w1.den) := ht12
  refine wpE_l rfl rfl (fun K hK => ?_)
  go_simp
  refine (A2.out _ (Y3.out.ext HE) (Y1.out.ext HE)).mono ?_
  rintro e u13 ⟨a13, n13, c13, d13, m13, k13, rfl, hs13, ht13, hx⟩
  refine hK.out _ _ (Below.mono hx hlo) ?_
  clear hK K
  try simp only [PU]
  replace hlo := Nat.le_trans hlo hx.size
  replace fv := q1f hx fv bv
  replace bv := q1b hx bv
  replace hs11 := hs11.ext hx
  replace ht11 := ht11.ext hx
  replace hs12 := hs12.ext hx
  replace ht12 := ht12.ext hx
  replace HC := HC.trans hx
  replace HE := HE.trans hx
  clear hx
  replace hs13 : Nc u13 a13 n13 c13 (r2.num).natAbs := hs13
  replace ht13 : Nc u13 d13 m13 k13 (r2.den) := ht13
  refine wpE_l rfl rfl (fun K hK => ?_)
  go_simp
  refine (B2.out _ (X2.out.ext HE) (fq_of hs13 ht13 L2.out (by omega))).mono ?_
  rintro e u14 ⟨a14, n14, c14, d14, m14, k14, rfl, hs14, ht14, hx⟩
  refine hK.out _ _ (Below.mono hx hlo) ?_
  clear hK K
  try simp only [PU]
  replace hlo := Nat.le_trans hlo hx.size
  replace fv := q1f hx fv bv
  replace bv := q1b hx bv
  replace hs11 := hs11.ext hx
  replace ht11 := ht11.ext hx
  replace hs12 := hs12.ext hx
  replace ht12 := ht12.ext hx
  replace hs13 := hs13.ext hx
  replace ht13 := ht13.ext hx
  replace HC := HC.trans hx
  replace HE := HE.trans hx
  clear hx
  replace hs14 : Nc u14 a14 n14 c14 (w2.num).natAbs := hs14
  replace ht14 : Nc u14 d14 m14 k14 (w2.den) := ht14
  refine wpE_l rfl rfl (fun K hK => ?_)
  go_simp
  refine (D1.out _ (fq_of hs12 ht12 M1.out (by omega)) (fq_of hs14 ht14 M2.out (by omega))).mono ?_
  rintro e u15 ⟨a15, n15, c15, d15, m15, k15, rfl, hs15, ht15, hx⟩
  refine hK.out _ _ (Below.mono hx hlo) ?_
  clear hK K
  try simp only [PU]
  replace hlo := Nat.le_trans hlo hx.size
  replace fv := q1f hx fv bv
  replace bv := q1b hx bv
  replace hs11 := hs11.ext hx
  replace ht11 := ht11.ext hx
  replace hs12 := hs12.ext hx
  replace ht12 := ht12.ext hx
  replace hs13 := hs13.ext hx
  replace ht13 := ht13.ext hx
  replace hs14 := hs14.ext hx
  replace ht14 := ht14.ext hx
  replace HC := HC.trans hx
  replace HE := HE.trans hx
  clear hx
  replace hs15 : Nc u15 a15 n15 c15 (sm.num).natAbs := hs15
  replace ht15 : Nc u15 d15 m15 k15 (sm.den) := ht15
  refine wpE_b rfl rfl (fun K hK => ?_)
  go_simp
  refine hK.out _ _ ?_
  clear hK K
  try simp only [PU]
  refine absE (fun x4 hx4 => ?_)
  have hbut : But u15 x4 (x2.heap.size) := by rw [hx4]; exact (But.refl _ _).store.store.store
  have hbn : Bl x4 (x2.heap.size) #[.bool (decide (sm.num < 0)), .slice a15 n15 c15, .slice d15 m15 k15] := by rw [hx4]; exact (Bl.set (Bl.set (Bl.set bv (by simp)) (by simp)) (by simp))
  have hni : ∀ (j : Nat) (x : Int), (#[.bool false, .slice none 0 0, .slice none 0 0] : Array Value)[j]? ≠ some (Value.int .u32 x) := (not_ints3 nb_bool nb_slice nb_slice)
  replace hs11 := hs11.but bv hni hbut
  replace ht11 := ht11.but bv hni hbut
  replace hs12 := hs12.but bv hni hbut
  replace ht12 := ht12.but bv hni hbut
  replace hs13 := hs13.but bv hni hbut
  replace ht13 := ht13.but bv hni hbut
  replace hs14 := hs14.but bv hni hbut
  replace ht14 := ht14.but bv hni hbut
  replace hs15 := hs15.but bv hni hbut
  replace ht15 := ht15.but bv hni hbut
  clear hni
  replace fv : Fz x4 (x2.heap.size) := by rw [hx4]; exact (Fz.set (Fz.set (Fz.set fv)))
  have hle : w.heap.size ≤ x2.heap.size := by omega
  replace HE : Ext w x4 := by rw [hx4]; exact (((HE.store hle _).store hle _).store hle _)
  clear hle
  have hle : x1.heap.size ≤ x2.heap.size := by omega
  replace HC : Ext x1 x4 := by rw [hx4]; exact (((HC.store hle _).store hle _).store hle _)
  clear hle
  replace hlo : x1.heap.size ≤ x4.heap.size := Nat.le_trans hlo hbut.1
  clear bv hbut hx4
  have bv := hbn
  clear hbn
  refine wpE_done ?_
  clear hlo
  go_wp2_with fail
  go_meet
  exact ⟨x2.heap.size, a15, d15, n15, c15, m15, k15, rfl, gev, bv, hs15, ht15, HC⟩
 obtain ⟨g7, a15, d15, n15, c15, m15, k15, rfl, gev, bv, hs15, ht15, hx⟩ := hcut
 replace bp := q1b hx bp
 replace bq := q1b hx bq
 replace br := q1b hx br
 replace fs := q1f hx fs bs
 replace bs := q1b hx bs
 replace HE := HE.trans hx
 clear hx
 go_wp2_with fail
 refine wp_region_plan (R := Ext) (.q 0 (.q 1 (.q 2 (.q 3 (.q 4 (.q 5 (.q 6 (.l 7 (.l 8 (.l 9 (.b 10 .done))))))))))) (by kernel_rfl) (by kernel_rfl) (by kernel_rfl) (by kernel_rfl) Ext.refl (fun _ _ _ => Ext.trans) ?_
 refine absE (fun x32 hx32 => ?_)
 have hx : Ext wc x32 := by rw [hx32]; exact (Ext.refl _).drew
 replace bp := q1b hx bp
 replace bq := q1b hx bq
 replace br := q1b hx br
 replace fs := q1f hx fs bs
 replace bs := q1b hx bs
 replace bv := q1b hx bv
 replace hs15 := hs15.ext hx
 replace ht15 := ht15.ext hx
 replace HE := HE.trans hx
 clear hx
 clear hx32
 repeat (refine wpE_q (v := ?_) rfl rfl (fun u hu => ?_) ?_; rotate_left 1; (focus (have kp := q1b hu bp; have kq := q1b hu bq; have kr := q1b hu br; have ks := q1b hu bs; have kv := q1b hu bv; go_simp; (try rfl))); simp only [PU])
 refine wpE_l rfl rfl (fun K hK => ?_)
 go_simp
 refine (A3.out _ (Y1.out.ext HE) (Y2.out.ext HE)).mono ?_
 rintro e u21 ⟨a21, n21, c21, d21, m21, k21, rfl, hs21, ht21, hx⟩
 refine hK.out _ _ hx ?_
 clear hK K
 try simp only [PU]
 replace bp := q1b hx bp
 replace bq := q1b hx bq
 replace br := q1b hx br
 replace fs := q1f hx fs bs
 replace bs := q1b hx bs
 replace bv := q1b hx bv
 replace hs15 := hs15.ext hx
 replace ht15 := ht15.ext hx
 replace HE := HE.trans hx
 clear hx
 replace hs21 : Nc u21 a21 n21 c21 (r3.num).natAbs := hs21
 replace ht21 : Nc u21 d21 m21 k21 (r3.den) := ht21
 refine wpE_l rfl rfl (fun K hK => ?_)
 go_simp
 refine (B3.out _ (X3.out.ext HE) (fq_of hs21 ht21 L3.out (by omega))).mono ?_
 rintro e u22 ⟨a22, n22, c22, d22, m22, k22, rfl, hs22, ht22, hx⟩
 refine hK.out _ _ hx ?_
 clear hK K
 try simp only [PU]
 replace bp := q1b hx bp
 replace bq := q1b hx bq
 replace br := q1b hx br
 replace fs := q1f hx fs bs
 replace bs := q1b hx bs
 replace bv := q1b hx bv
 replace hs15 := hs15.ext hx
 replace ht15 := ht15.ext hx
 replace hs21 := hs21.ext hx
 replace ht21 := ht21.ext hx
 replace HE := HE.trans hx
 clear hx
 replace hs22 : Nc u22 a22 n22 c22 (w3.num).natAbs := hs22
 replace ht22 : Nc u22 d22 m22 k22 (w3.den) := ht22
 refine wpE_l rfl rfl (fun K hK => ?_)
 go_simp
 refine (D2.out _ (fq_of hs15 ht15 M4.out (by omega)) (fq_of hs22 ht22 M3.out (by omega))).mono ?_
 rintro e u23 ⟨a23, n23, c23, d23, m23, k23, rfl, hs23, ht23, hx⟩
 refine hK.out _ _ hx ?_
 clear hK K
 try simp only [PU]
 replace bp := q1b hx bp
 replace bq := q1b hx bq
 replace br := q1b hx br
 replace fs := q1f hx fs bs
 replace bs := q1b hx bs
 replace bv := q1b hx bv
 replace hs15 := hs15.ext hx
 replace ht15 := ht15.ext hx
 replace hs21 := hs21.ext hx
 replace ht21 := ht21.ext hx
 replace hs22 := hs22.ext hx
 replace ht22 := ht22.ext hx
 replace HE := HE.trans hx
 clear hx
 replace hs23 : Nc u23 a23 n23 c23 (res.num).natAbs := hs23
 replace ht23 : Nc u23 d23 m23 k23 (res.den) := ht23
 refine wpE_b rfl rfl (fun K hK => ?_)
 go_simp
 refine hK.out _ _ ?_
 clear hK K
 try simp only [PU]
 refine absE (fun x33 hx33 => ?_)
 have hbut : But u23 x33 (w.heap.size + 1 + 1 + 1) := by rw [hx33]; exact (But.refl _ _).store.store.store
 have hbn : Bl x33 (w.heap.size + 1 + 1 + 1) #[.bool (decide (res.num < 0)), .slice a23 n23 c23, .slice d23 m23 k23] := by rw [hx33]; exact (Bl.set (Bl.set (Bl.set bs (by simp)) (by simp)) (by simp))
 have hni : ∀ (j : Nat) (x : Int), (#[.bool false, .slice none 0 0, .slice none 0 0] : Array Value)[j]? ≠ some (Value.int .u32 x) := (not_ints3 nb_bool nb_slice nb_slice)
 replace hs15 := hs15.but bs hni hbut
 replace ht15 := ht15.but bs hni hbut
 replace hs21 := hs21.but bs hni hbut
 replace ht21 := ht21.but bs hni hbut
 replace hs22 := hs22.but bs hni hbut
 replace ht22 := ht22.but bs hni hbut
 replace hs23 := hs23.but bs hni hbut
 replace ht23 := ht23.but bs hni hbut
 clear hni
 replace bp := But.bl hbut bp (Nat.succ_pos _) (by omega)
 replace bq := But.bl hbut bq (Nat.succ_pos _) (by omega)
 replace br := But.bl hbut br (Nat.succ_pos _) (by omega)
 replace bv := But.bl hbut bv (Nat.succ_pos _) (by omega)
 replace fs : Fz x33 (w.heap.size + 1 + 1 + 1) := by rw [hx33]; exact (Fz.set (Fz.set (Fz.set fs)))
 have hle : w.heap.size ≤ w.heap.size + 1 + 1 + 1 := by omega
 replace HE : Ext w x33 := by rw [hx33]; exact (((HE.store hle _).store hle _).store hle _)
 clear hle
 clear bs hbut hx33
 have bs := hbn
 clear hbn
 refine wpE_done ?_
 go_wp2_with fail
 refine bodyPost_cells rfl rfl Tryz.underlying29 rfl (by kernel_rfl) (bl_three bs) rfl ?_
 exact ⟨_, _, _, _, _, _, rfl, hs23, ht23, HE⟩
set_option maxRecDepth 100000 in
set_option maxHeartbeats 4000000 in
theorem rp_Turn {bx1 by1 : Bool} {ax1 dx1 ay1 dy1 : Option Addr} {nx1 cx1 mx1 kx1 ny1 cy1 my1 ky1 : Nat} {x1 y1 : Rat} {bx2 by2 : Bool} {ax2 dx2 ay2 dy2 : Option Addr} {nx2 cx2 mx2 kx2 ny2 cy2 my2 ky2 : Nat} {x2 y2 : Rat} {bx3 by3 : Bool} {ax3 dx3 ay3 dy3 : Option Addr} {nx3 cx3 mx3 kx3 ny3 cy3 my3 ky3 : Nat} {x3 y3 : Rat} {N : Nat} (w : World) (hx1 : Fq w bx1 ax1 nx1 cx1 dx1 mx1 kx1 x1 N) (hy1 : Fq w by1 ay1 ny1 cy1 dy1 my1 ky1 y1 N) (hx2 : Fq w bx2 ax2 nx2 cx2 dx2 mx2 kx2 x2 N) (hy2 : Fq w by2 ay2 ny2 cy2 dy2 my2 ky2 y2 N) (hx3 : Fq w bx3 ax3 nx3 cx3 dx3 mx3 kx3 x3 N) (hy3 : Fq w by3 ay3 ny3 cy3 dy3 my3 ky3 y3 N) (hN : N ≤ 8589934592) (hN1 : 1 ≤ N) :
    Calls Tryz.prog 49 #[.agg #[.bool bx1, .slice ax1 nx1 cx1, .slice dx1 mx1 kx1, .bool by1, .slice ay1 ny1 cy1, .slice dy1 my1 ky1], .agg #[.bool bx2, .slice ax2 nx2 cx2, .slice dx2 mx2 kx2, .bool by2, .slice ay2 ny2 cy2, .slice dy2 my2 ky2], .agg #[.bool bx3, .slice ax3 nx3 cx3, .slice dx3 mx3 kx3, .bool by3, .slice ay3 ny3 cy3, .slice dy3 my3 ky3]] w fun e w' => e = .returned (.int .i64 (sideR x1 y1 x2 y2 x3 y3)) ∧ Ext w w' := by
 have HA := hidP (fun u (q1 : Fq u bx1 ax1 nx1 cx1 dx1 mx1 kx1 x1 N) (q2 : Fq u by1 ay1 ny1 cy1 dy1 my1 ky1 y1 N) (q3 : Fq u bx2 ax2 nx2 cx2 dx2 mx2 kx2 x2 N) (q4 : Fq u by2 ay2 ny2 cy2 dy2 my2 ky2 y2 N) (q5 : Fq u bx3 ax3 nx3 cx3 dx3 mx3 kx3 x3 N) (q6 : Fq u by3 ay3 ny3 cy3 dy3 my3 ky3 y3 N) => rp_Area u q1 q2 q3 q4 q5 q6 hN hN1)
 have L := hidP (ql_area (hx1.ql hN1) (hy1.ql hN1) (hx2.ql hN1) (hy2.ql hN1) (hx3.ql hN1) (hy3.ql hN1) hN1)
 have X1 := hidP hx1; have Y1 := hidP hy1; have X2 := hidP hx2; have Y2 := hidP hy2; have X3 := hidP hx3; have Y3 := hidP hy3
 rw [← area_side]
 generalize areaR x1 y1 x2 y2 x3 y3 = ar at *
 have HS := hidP (fun u {g1 : Bool} {e1 f1 : Option Addr} {i1 j1 p1 q1 : Nat} (t : Fq u g1 e1 i1 j1 f1 p1 q1 (ar) (9 * N + 5)) => gq_Sign t (by omega))
 generalize sgn ar.num = sg at *
 clear hx1 hy1 hx2 hy2 hx3 hy3
 go_enter Tryz.func49, Tryz.ntmps49
 go_wp2_with fail
 refine absC (fun x1 hx1 => ?_)
 have hx : Ext w x1 := by rw [hx1]; exact ((((Ext.refl _).alloc _).alloc _).alloc _)
 have bp : Bl x1 (w.heap.size) #[.bool bx1, .slice ax1 nx1 cx1, .slice dx1 mx1 kx1, .bool by1, .slice ay1 ny1 cy1, .slice dy1 my1 ky1] := by rw [hx1]; exact (((Bl.new (by simp)).alloc (by simp)).alloc (by simp))
 have bq : Bl x1 (w.heap.size + 1) #[.bool bx2, .slice ax2 nx2 cx2, .slice dx2 mx2 kx2, .bool by2, .slice ay2 ny2 cy2, .slice dy2 my2 ky2] := by rw [hx1]; exact ((Bl.new (by simp)).alloc (by simp))
 have br : Bl x1 (w.heap.size + 1 + 1) #[.bool bx3, .slice ax3 nx3 cx3, .slice dx3 mx3 kx3, .bool by3, .slice ay3 ny3 cy3, .slice dy3 my3 ky3] := by rw [hx1]; exact (Bl.new (by simp))
 have HE := hx
 clear hx
 clear hx1
 refine (HA.out _ (X1.out.ext HE) (Y1.out.ext HE) (X2.out.ext HE) (Y2.out.ext HE) (X3.out.ext HE) (Y3.out.ext HE)).mono ?_
 rintro e u1 ⟨a1, n1, c1, d1, m1, k1, rfl, hs1, ht1, hx⟩
 replace bp := q1b hx bp
 replace bq := q1b hx bq
 replace br := q1b hx br
 replace HE := HE.trans hx
 clear hx
 replace hs1 : Nc u1 a1 n1 c1 (ar.num).natAbs := hs1
 replace ht1 : Nc u1 d1 m1 k1 (ar.den) := ht1
 go_wp2_with fail
 refine (HS.out _ (fq_of hs1 ht1 L.out (by omega))).mono ?_
 rintro e u2 ⟨rfl, hx⟩
 replace bp := q1b hx bp
 replace bq := q1b hx bq
 replace br := q1b hx br
 replace hs1 := hs1.ext hx
 replace ht1 := ht1.ext hx
 replace HE := HE.trans hx
 clear hx
 go_wp2_with fail
 go_ret
 exact ⟨rfl, HE⟩
set_option maxRecDepth 100000 in
set_option maxHeartbeats 4000000 in
theorem rp_between {b1 b2 b3 : Bool} {a1 d1 a2 d2 a3 d3 : Option Addr} {n1 c1 m1 k1 n2 c2 m2 k2 n3 c3 m3 k3 : Nat} {x y z : Rat} {N : Nat} (w : World) (h1 : Fq w b1 a1 n1 c1 d1 m1 k1 x N) (h2 : Fq w b2 a2 n2 c2 d2 m2 k2 y N) (h3 : Fq w b3 a3 n3 c3 d3 m3 k3 z N) (hN : N ≤ 137438953472) :
    Calls Tryz.prog 58 #[.agg #[.bool b1, .slice a1 n1 c1, .slice d1 m1 k1], .agg #[.bool b2, .slice a2 n2 c2, .slice d2 m2 k2], .agg #[.bool b3, .slice a3 n3 c3, .slice d3 m3 k3]] w fun e w' => e = .returned (.bool (betB x y z)) ∧ Ext w w' := by
 have H1 := hidP h1; have H2 := hidP h2; have H3 := hidP h3
 have C1 := hidP (fun u (t1 : Fq u b1 a1 n1 c1 d1 m1 k1 x N) (t2 : Fq u b3 a3 n3 c3 d3 m3 k3 z N) => gq_Cmp t1 t2 hN hN)
 have C2 := hidP (fun u (t1 : Fq u b2 a2 n2 c2 d2 m2 k2 y N) (t2 : Fq u b3 a3 n3 c3 d3 m3 k3 z N) => gq_Cmp t1 t2 hN hN)
 have e1 := cmpQ_bd x z; have e2 := cmpQ_bd y z
 unfold betB
 generalize cmpQ x z = u1 at *
 generalize cmpQ y z = u2 at *
 clear h1 h2 h3
 rcases e1 with h | h | h <;> subst h
 all_goals (
  rcases e2 with h | h | h <;> subst h
  all_goals (
   go_enter Tryz.func58, Tryz.ntmps58
   go_wp2_with fail
   refine absW (fun x1 hx1 => ?_)
   have hx : Ext w x1 := by rw [hx1]; exact ((((Ext.refl _).alloc _).alloc _).alloc _)
   have bp : Bl x1 (w.heap.size) #[.bool b1, .slice a1 n1 c1, .slice d1 m1 k1] := by rw [hx1]; exact (((Bl.new (by simp)).alloc (by simp)).alloc (by simp))
   have bq : Bl x1 (w.heap.size + 1) #[.bool b2, .slice a2 n2 c2, .slice d2 m2 k2] := by rw [hx1]; exact ((Bl.new (by simp)).alloc (by simp))
   have br : Bl x1 (w.heap.size + 1 + 1) #[.bool b3, .slice a3 n3 c3, .slice d3 m3 k3] := by rw [hx1]; exact (Bl.new (by simp))
   have HE := hx
   clear hx
   clear hx1
   refine wp_region_plan (R := Ext) (.q 0 (.q 1 (.q 3 (.q 4 (.l 2 (.l 5 (.q 6 (.q 7 (.q 8 .done))))))))) (by kernel_rfl) (by kernel_rfl) (by kernel_rfl) (by kernel_rfl) Ext.refl (fun _ _ _ => Ext.trans) ?_
   refine absE (fun x2 hx2 => ?_)
   have hx : Ext x1 x2 := by rw [hx2]; exact (Ext.refl _).drew
   replace bp := q1b hx bp
   replace bq := q1b hx bq
   replace br := q1b hx br
   replace HE := HE.trans hx
   clear hx
   clear hx2
   repeat (refine wpE_q (v := ?_) rfl rfl (fun u hu => ?_) ?_; rotate_left 1; (focus (have kp := q1b hu bp; have kq := q1b hu bq; have kr := q1b hu br; go_simp; (try rfl))); simp only [PU])
   refine wpE_l rfl rfl (fun K hK => ?_)
   go_simp
   refine (C1.out _ (H1.out.ext HE) (H3.out.ext HE)).mono ?_
   rintro e u11 ⟨rfl, hx⟩
   refine hK.out _ _ hx ?_
   clear hK K
   try simp only [PU]
   replace bp := q1b hx bp
   replace bq := q1b hx bq
   replace br := q1b hx br
   replace HE := HE.trans hx
   clear hx
   refine wpE_l rfl rfl (fun K hK => ?_)
   go_simp
   refine (C2.out _ (H2.out.ext HE) (H3.out.ext HE)).mono ?_
   rintro e u12 ⟨rfl, hx⟩
   refine hK.out _ _ hx ?_
   clear hK K
   try simp only [PU]
   replace bp := q1b hx bp
   replace bq := q1b hx bq
   replace br := q1b hx br
   replace HE := HE.trans hx
   clear hx
   repeat (refine wpE_q (v := ?_) rfl rfl (fun u hu => ?_) ?_; rotate_left 1; (focus (have kp := q1b hu bp; have kq := q1b hu bq; have kr := q1b hu br; go_simp; (try rfl))); simp only [PU])
   refine wpE_done ?_
   go_wp2_with fail
   go_ret
   exact ⟨rfl, HE⟩))
set_option maxRecDepth 100000 in
set_option maxHeartbeats 4000000 in
theorem rp_On {bx1 by1 : Bool} {ax1 dx1 ay1 dy1 : Option Addr} {nx1 cx1 mx1 kx1 ny1 cy1 my1 ky1 : Nat} {x1 y1 : Rat} {bx2 by2 : Bool} {ax2 dx2 ay2 dy2 : Option Addr} {nx2 cx2 mx2 kx2 ny2 cy2 my2 ky2 : Nat} {x2 y2 : Rat} {bx3 by3 : Bool} {ax3 dx3 ay3 dy3 : Option Addr} {nx3 cx3 mx3 kx3 ny3 cy3 my3 ky3 : Nat} {x3 y3 : Rat} {N : Nat} (w : World) (hx1 : Fq w bx1 ax1 nx1 cx1 dx1 mx1 kx1 x1 N) (hy1 : Fq w by1 ay1 ny1 cy1 dy1 my1 ky1 y1 N) (hx2 : Fq w bx2 ax2 nx2 cx2 dx2 mx2 kx2 x2 N) (hy2 : Fq w by2 ay2 ny2 cy2 dy2 my2 ky2 y2 N) (hx3 : Fq w bx3 ax3 nx3 cx3 dx3 mx3 kx3 x3 N) (hy3 : Fq w by3 ay3 ny3 cy3 dy3 my3 ky3 y3 N) (hN : N ≤ 8589934592) (hN1 : 1 ≤ N) :
    Calls Tryz.prog 21 #[.agg #[.bool bx1, .slice ax1 nx1 cx1, .slice dx1 mx1 kx1, .bool by1, .slice ay1 ny1 cy1, .slice dy1 my1 ky1], .agg #[.bool bx2, .slice ax2 nx2 cx2, .slice dx2 mx2 kx2, .bool by2, .slice ay2 ny2 cy2, .slice dy2 my2 ky2], .agg #[.bool bx3, .slice ax3 nx3 cx3, .slice dx3 mx3 kx3, .bool by3, .slice ay3 ny3 cy3, .slice dy3 my3 ky3]] w fun e w' => e = .returned (.bool (onD x1 y1 x2 y2 x3 y3)) ∧ Ext w w' := by
 have HT := hidP (fun u (q1 : Fq u bx1 ax1 nx1 cx1 dx1 mx1 kx1 x1 N) (q2 : Fq u by1 ay1 ny1 cy1 dy1 my1 ky1 y1 N) (q3 : Fq u bx2 ax2 nx2 cx2 dx2 mx2 kx2 x2 N) (q4 : Fq u by2 ay2 ny2 cy2 dy2 my2 ky2 y2 N) (q5 : Fq u bx3 ax3 nx3 cx3 dx3 mx3 kx3 x3 N) (q6 : Fq u by3 ay3 ny3 cy3 dy3 my3 ky3 y3 N) => rp_Turn u q1 q2 q3 q4 q5 q6 hN hN1)
 have HBX := hidP (fun u (q1 : Fq u bx1 ax1 nx1 cx1 dx1 mx1 kx1 x1 N) (q3 : Fq u bx2 ax2 nx2 cx2 dx2 mx2 kx2 x2 N) (q5 : Fq u bx3 ax3 nx3 cx3 dx3 mx3 kx3 x3 N) => rp_between u q1 q3 q5 (by omega))
 have HBY := hidP (fun u (q2 : Fq u by1 ay1 ny1 cy1 dy1 my1 ky1 y1 N) (q4 : Fq u by2 ay2 ny2 cy2 dy2 my2 ky2 y2 N) (q6 : Fq u by3 ay3 ny3 cy3 dy3 my3 ky3 y3 N) => rp_between u q2 q4 q6 (by omega))
 have X1 := hidP hx1; have Y1 := hidP hy1; have X2 := hidP hx2; have Y2 := hidP hy2; have X3 := hidP hx3; have Y3 := hidP hy3
 have hsd := sideR_bd x1 y1 x2 y2 x3 y3
 unfold onD
 generalize betB x1 x2 x3 = f1 at *
 generalize betB y1 y2 y3 = f2 at *
 generalize sideR x1 y1 x2 y2 x3 y3 = sd at *
 clear hx1 hy1 hx2 hy2 hx3 hy3
 rcases hsd with h | h | h <;> subst h
 · go_enter Tryz.func21, Tryz.ntmps21
   go_wp2_with fail
   refine absC (fun x1 hx1 => ?_)
   have hx : Ext w x1 := by rw [hx1]; exact ((((Ext.refl _).alloc _).alloc _).alloc _)
   have bp : Bl x1 (w.heap.size) #[.bool bx1, .slice ax1 nx1 cx1, .slice dx1 mx1 kx1, .bool by1, .slice ay1 ny1 cy1, .slice dy1 my1 ky1] := by rw [hx1]; exact (((Bl.new (by simp)).alloc (by simp)).alloc (by simp))
   have bq : Bl x1 (w.heap.size + 1) #[.bool bx2, .slice ax2 nx2 cx2, .slice dx2 mx2 kx2, .bool by2, .slice ay2 ny2 cy2, .slice dy2 my2 ky2] := by rw [hx1]; exact ((Bl.new (by simp)).alloc (by simp))
   have br : Bl x1 (w.heap.size + 1 + 1) #[.bool bx3, .slice ax3 nx3 cx3, .slice dx3 mx3 kx3, .bool by3, .slice ay3 ny3 cy3, .slice dy3 my3 ky3] := by rw [hx1]; exact (Bl.new (by simp))
   have HE := hx
   clear hx
   clear hx1
   refine (HT.out _ (X1.out.ext HE) (Y1.out.ext HE) (X2.out.ext HE) (Y2.out.ext HE) (X3.out.ext HE) (Y3.out.ext HE)).mono ?_
   rintro e u1 ⟨rfl, hx⟩
   replace bp := q1b hx bp
   replace bq := q1b hx bq
   replace br := q1b hx br
   replace HE := HE.trans hx
   clear hx
   go_wp2_with fail
   go_ret
   exact ⟨rfl, HE⟩
 · cases f1
   · go_enter Tryz.func21, Tryz.ntmps21
     go_wp2_with fail
     refine absC (fun x1 hx1 => ?_)
     have hx : Ext w x1 := by rw [hx1]; exact ((((Ext.refl _).alloc _).alloc _).alloc _)
     have bp : Bl x1 (w.heap.size) #[.bool bx1, .slice ax1 nx1 cx1, .slice dx1 mx1 kx1, .bool by1, .slice ay1 ny1 cy1, .slice dy1 my1 ky1] := by rw [hx1]; exact (((Bl.new (by simp)).alloc (by simp)).alloc (by simp))
     have bq : Bl x1 (w.heap.size + 1) #[.bool bx2, .slice ax2 nx2 cx2, .slice dx2 mx2 kx2, .bool by2, .slice ay2 ny2 cy2, .slice dy2 my2 ky2] := by rw [hx1]; exact ((Bl.new (by simp)).alloc (by simp))
     have br : Bl x1 (w.heap.size + 1 + 1) #[.bool bx3, .slice ax3 nx3 cx3, .slice dx3 mx3 kx3, .bool by3, .slice ay3 ny3 cy3, .slice dy3 my3 ky3] := by rw [hx1]; exact (Bl.new (by simp))
     have HE := hx
     clear hx
     clear hx1
     refine (HT.out _ (X1.out.ext HE) (Y1.out.ext HE) (X2.out.ext HE) (Y2.out.ext HE) (X3.out.ext HE) (Y3.out.ext HE)).mono ?_
     rintro e u1 ⟨rfl, hx⟩
     replace bp := q1b hx bp
     replace bq := q1b hx bq
     replace br := q1b hx br
     replace HE := HE.trans hx
     clear hx
     go_wp2_with fail
     refine (HBX.out _ (X1.out.ext HE) (X2.out.ext HE) (X3.out.ext HE)).mono ?_
     rintro e u2 ⟨rfl, hx⟩
     replace bp := q1b hx bp
     replace bq := q1b hx bq
     replace br := q1b hx br
     replace HE := HE.trans hx
     clear hx
     go_wp2_with fail
     go_ret
     exact ⟨rfl, HE⟩
   cases f2
   · go_enter Tryz.func21, Tryz.ntmps21
     go_wp2_with fail
     refine absC (fun x1 hx1 => ?_)
     have hx : Ext w x1 := by rw [hx1]; exact ((((Ext.refl _).alloc _).alloc _).alloc _)
     have bp : Bl x1 (w.heap.size) #[.bool bx1, .slice ax1 nx1 cx1, .slice dx1 mx1 kx1, .bool by1, .slice ay1 ny1 cy1, .slice dy1 my1 ky1] := by rw [hx1]; exact (((Bl.new (by simp)).alloc (by simp)).alloc (by simp))
     have bq : Bl x1 (w.heap.size + 1) #[.bool bx2, .slice ax2 nx2 cx2, .slice dx2 mx2 kx2, .bool by2, .slice ay2 ny2 cy2, .slice dy2 my2 ky2] := by rw [hx1]; exact ((Bl.new (by simp)).alloc (by simp))
     have br : Bl x1 (w.heap.size + 1 + 1) #[.bool bx3, .slice ax3 nx3 cx3, .slice dx3 mx3 kx3, .bool by3, .slice ay3 ny3 cy3, .slice dy3 my3 ky3] := by rw [hx1]; exact (Bl.new (by simp))
     have HE := hx
     clear hx
     clear hx1
     refine (HT.out _ (X1.out.ext HE) (Y1.out.ext HE) (X2.out.ext HE) (Y2.out.ext HE) (X3.out.ext HE) (Y3.out.ext HE)).mono ?_
     rintro e u1 ⟨rfl, hx⟩
     replace bp := q1b hx bp
     replace bq := q1b hx bq
     replace br := q1b hx br
     replace HE := HE.trans hx
     clear hx
     go_wp2_with fail
     refine (HBX.out _ (X1.out.ext HE) (X2.out.ext HE) (X3.out.ext HE)).mono ?_
     rintro e u2 ⟨rfl, hx⟩
     replace bp := q1b hx bp
     replace bq := q1b hx bq
     replace br := q1b hx br
     replace HE := HE.trans hx
     clear hx
     go_wp2_with fail
     refine (HBY.out _ (Y1.out.ext HE) (Y2.out.ext HE) (Y3.out.ext HE)).mono ?_
     rintro e u3 ⟨rfl, hx⟩
     replace bp := q1b hx bp
     replace bq := q1b hx bq
     replace br := q1b hx br
     replace HE := HE.trans hx
     clear hx
     go_wp2_with fail
     go_ret
     exact ⟨rfl, HE⟩
   go_enter Tryz.func21, Tryz.ntmps21
   go_wp2_with fail
   refine absC (fun x1 hx1 => ?_)
   have hx : Ext w x1 := by rw [hx1]; exact ((((Ext.refl _).alloc _).alloc _).alloc _)
   have bp : Bl x1 (w.heap.size) #[.bool bx1, .slice ax1 nx1 cx1, .slice dx1 mx1 kx1, .bool by1, .slice ay1 ny1 cy1, .slice dy1 my1 ky1] := by rw [hx1]; exact (((Bl.new (by simp)).alloc (by simp)).alloc (by simp))
   have bq : Bl x1 (w.heap.size + 1) #[.bool bx2, .slice ax2 nx2 cx2, .slice dx2 mx2 kx2, .bool by2, .slice ay2 ny2 cy2, .slice dy2 my2 ky2] := by rw [hx1]; exact ((Bl.new (by simp)).alloc (by simp))
   have br : Bl x1 (w.heap.size + 1 + 1) #[.bool bx3, .slice ax3 nx3 cx3, .slice dx3 mx3 kx3, .bool by3, .slice ay3 ny3 cy3, .slice dy3 my3 ky3] := by rw [hx1]; exact (Bl.new (by simp))
   have HE := hx
   clear hx
   clear hx1
   refine (HT.out _ (X1.out.ext HE) (Y1.out.ext HE) (X2.out.ext HE) (Y2.out.ext HE) (X3.out.ext HE) (Y3.out.ext HE)).mono ?_
   rintro e u1 ⟨rfl, hx⟩
   replace bp := q1b hx bp
   replace bq := q1b hx bq
   replace br := q1b hx br
   replace HE := HE.trans hx
   clear hx
   go_wp2_with fail
   refine (HBX.out _ (X1.out.ext HE) (X2.out.ext HE) (X3.out.ext HE)).mono ?_
   rintro e u2 ⟨rfl, hx⟩
   replace bp := q1b hx bp
   replace bq := q1b hx bq
   replace br := q1b hx br
   replace HE := HE.trans hx
   clear hx
   go_wp2_with fail
   refine (HBY.out _ (Y1.out.ext HE) (Y2.out.ext HE) (Y3.out.ext HE)).mono ?_
   rintro e u3 ⟨rfl, hx⟩
   replace bp := q1b hx bp
   replace bq := q1b hx bq
   replace br := q1b hx br
   replace HE := HE.trans hx
   clear hx
   go_wp2_with fail
   go_ret
   exact ⟨rfl, HE⟩
 go_enter Tryz.func21, Tryz.ntmps21
 go_wp2_with fail
 refine absC (fun x1 hx1 => ?_)
 have hx : Ext w x1 := by rw [hx1]; exact ((((Ext.refl _).alloc _).alloc _).alloc _)
 have bp : Bl x1 (w.heap.size) #[.bool bx1, .slice ax1 nx1 cx1, .slice dx1 mx1 kx1, .bool by1, .slice ay1 ny1 cy1, .slice dy1 my1 ky1] := by rw [hx1]; exact (((Bl.new (by simp)).alloc (by simp)).alloc (by simp))
 have bq : Bl x1 (w.heap.size + 1) #[.bool bx2, .slice ax2 nx2 cx2, .slice dx2 mx2 kx2, .bool by2, .slice ay2 ny2 cy2, .slice dy2 my2 ky2] := by rw [hx1]; exact ((Bl.new (by simp)).alloc (by simp))
 have br : Bl x1 (w.heap.size + 1 + 1) #[.bool bx3, .slice ax3 nx3 cx3, .slice dx3 mx3 kx3, .bool by3, .slice ay3 ny3 cy3, .slice dy3 my3 ky3] := by rw [hx1]; exact (Bl.new (by simp))
 have HE := hx
 clear hx
 clear hx1
 refine (HT.out _ (X1.out.ext HE) (Y1.out.ext HE) (X2.out.ext HE) (Y2.out.ext HE) (X3.out.ext HE) (Y3.out.ext HE)).mono ?_
 rintro e u1 ⟨rfl, hx⟩
 replace bp := q1b hx bp
 replace bq := q1b hx bq
 replace br := q1b hx br
 replace HE := HE.trans hx
 clear hx
 go_wp2_with fail
 go_ret
 exact ⟨rfl, HE⟩
end Go.Proofs.YtgjjalnmigdjgaaGreat
