/- Turns on both sides of an edge, in the document. -/
import Derived.Test.YtgjjalnmigdjgaaGreatU18
import Derived.Test.YtgjjalnmigdjgaaGreatSP
namespace Go.Proofs.YtgjjalnmigdjgaaGreat
set_option linter.unusedVariables false
set_option linter.unusedSimpArgs false
open Go Go.RowKit
/-- A way's words are ints. -/
def wfS (g : Sg) : Prop := (-9223372036854775808 ≤ g.1.1 ∧ g.1.1 ≤ 9223372036854775807 ∧ -9223372036854775808 ≤ g.1.2 ∧ g.1.2 ≤ 9223372036854775807) ∧ (-9223372036854775808 ≤ g.2.1 ∧ g.2.1 ≤ 9223372036854775807 ∧ -9223372036854775808 ≤ g.2.2 ∧ g.2.2 ≤ 9223372036854775807)
theorem s_A0 (g : Sg) (hg : wfS g) (w : World) : Calls Tryz.prog 20 #[.agg #[.int .i64 g.1.1, .int .i64 g.1.2]] w (RetS w (g.1.1 : Rat) (g.1.2 : Rat)) := rp_At _ _ w hg.1.1 hg.1.2.1 hg.1.2.2.1 hg.1.2.2.2
theorem s_B0 (g : Sg) (hg : wfS g) (w : World) : Calls Tryz.prog 20 #[.agg #[.int .i64 g.2.1, .int .i64 g.2.2]] w (RetS w (g.2.1 : Rat) (g.2.2 : Rat)) := rp_At _ _ w hg.2.1 hg.2.2.1 hg.2.2.2.1 hg.2.2.2.2
theorem besL_bd {x y q r : Rat} (l : List Sg) (o k p : Int) (h1 : -k ≤ o) (h2 : o ≤ k) (hp : besL x y q r l o = some p) : -((l.length : Int) + k) ≤ p ∧ p ≤ (l.length : Int) + k := by
  induction l generalizing o k with
  | nil => cases hp; simp only [List.length_nil]; omega
  | cons g t ih =>
    have hb := upS_bd false r g
    rw [besL] at hp
    simp only [List.length_cons]
    split at hp
    · have := ih o k h1 h2 hp; omega
    · split at hp
      · cases hp
      · rw [pkR_up] at hp
        have := ih _ (k + 1) (by omega) (by omega) hp; omega
set_option maxRecDepth 100000 in
set_option maxHeartbeats 16000000 in
theorem r19_Beside {bx1 by1 : Bool} {ax1 dx1 ay1 dy1 : Option Addr} {nx1 cx1 mx1 kx1 ny1 cy1 my1 ky1 : Nat} {x1 y1 : Rat} {bx2 by2 : Bool} {ax2 dx2 ay2 dy2 : Option Addr} {nx2 cx2 mx2 kx2 ny2 cy2 my2 ky2 : Nat} {x2 y2 : Rat} {N : Nat} (sa : Option Addr) (sn sc : Nat) (l : List Sg) (w : World) (h : SlG w sa sn sc l) (hwf : ∀ g ∈ l, wfS g) (hx1 : Fq w bx1 ax1 nx1 cx1 dx1 mx1 kx1 x1 N) (hy1 : Fq w by1 ay1 ny1 cy1 dy1 my1 ky1 y1 N) (hx2 : Fq w bx2 ax2 nx2 cx2 dx2 mx2 kx2 x2 N) (hy2 : Fq w by2 ay2 ny2 cy2 dy2 my2 ky2 y2 N) (hN : N ≤ 1073741824) (hN1 : 2 ≤ N) (hsn : sn ≤ 4194304) :
    Calls Tryz.prog 15 #[.slice sa sn sc, .agg #[.bool bx1, .slice ax1 nx1 cx1, .slice dx1 mx1 kx1, .bool by1, .slice ay1 ny1 cy1, .slice dy1 my1 ky1, .bool bx2, .slice ax2 nx2 cx2, .slice dx2 mx2 kx2, .bool by2, .slice ay2 ny2 cy2, .slice dy2 my2 ky2]] w fun e w' => e = retB (besA x1 y1 x2 y2 l) ∧ Ext w w' := by
 have H := hidP h; have X1 := hidP hx1; have Y1 := hidP hy1; have X2 := hidP hx2; have Y2 := hidP hy2
 have HLN := hidP h.len
 have hcap : sn ≤ maxLen := Nat.le_trans h.2.1 h.2.2.1
 unfold maxLen at hcap
 have q1 := ql_mul (ql_add (hx1.ql (by omega)) (hx2.ql (by omega))) ql_half2 (by omega)
 have q2 := ql_mul (ql_add (hy1.ql (by omega)) (hy2.ql (by omega))) ql_half2 (by omega)
 have L1 := hidP (Nat.le_trans q1 (show N + N + 1 + 1 ≤ 4 * N by omega)); have L2 := hidP (Nat.le_trans q2 (show N + N + 1 + 1 ≤ 4 * N by omega))
 have A1 := hidP (fun u (t1 : Fq u bx1 ax1 nx1 cx1 dx1 mx1 kx1 x1 N) (t2 : Fq u by1 ay1 ny1 cy1 dy1 my1 ky1 y1 N) (t3 : Fq u bx2 ax2 nx2 cx2 dx2 mx2 kx2 x2 N) (t4 : Fq u by2 ay2 ny2 cy2 dy2 my2 ky2 y2 N) => rp_Cmp u t1 t2 t3 t4 (by omega))
 have A2 := hidP (fun u => gq_Half u)
 have A3 := hidP (fun u {g1 : Bool} {e1 f1 : Option Addr} {i1 j1 p1 o1 : Nat} (t1 : Fq u bx1 ax1 nx1 cx1 dx1 mx1 kx1 x1 N) (t2 : Fq u by1 ay1 ny1 cy1 dy1 my1 ky1 y1 N) (t3 : Fq u bx2 ax2 nx2 cx2 dx2 mx2 kx2 x2 N) (t4 : Fq u by2 ay2 ny2 cy2 dy2 my2 ky2 y2 N) (t5 : Fq u g1 e1 i1 j1 f1 p1 o1 (mkRat 1 2) N) => by
  have hh := rp_Toward u t1 t2 t3 t4 t5 (by omega) (by omega)
  rw [toward_mid, toward_mid] at hh
  exact hh)
 have L3 := hidP (Nat.le_trans ql_half2 (show 1 ≤ N by omega))
 have A4 := hidP (fun u (t2 : Fq u by1 ay1 ny1 cy1 dy1 my1 ky1 y1 N) (t4 : Fq u by2 ay2 ny2 cy2 dy2 my2 ky2 y2 N) => gq_Cmp t2 t4 (by omega) (by omega))
 have hb1 := cmpS_bd x1 y1 x2 y2; have hb2 := cmpQ_bd y1 y2
 rw [besA_D]
 generalize mkRat 1 2 = hf at *
 generalize (x1 + x2) * hf = q at *
 generalize (y1 + y2) * hf = r at *
 have HST := hidP (fun (j : Nat) (o : Int) (hj : j < l.length) => besL_drop (x := x1) (y := y1) (q := q) (r := r) (o := o) hj)
 have HBD := hidP (fun (p : Int) (hp : besL x1 y1 q r l 0 = some p) => besL_bd l 0 0 p (by omega) (by omega) hp)
 have HWF := hidP (fun (j : Nat) (hj : j < l.length) => hwf l[j] (List.getElem_mem hj))
 have HMY := hidP s_May
 have HA := hidP s_A0
 have HB := hidP s_B0
 have HON := hidP (fun (g : Sg) (u : World) {g1 : Bool} {e1 f1 : Option Addr} {i1 j1 p1 o1 : Nat} {g2 : Bool} {e2 f2 : Option Addr} {i2 j2 p2 o2 : Nat} {g3 : Bool} {e3 f3 : Option Addr} {i3 j3 p3 o3 : Nat} {g4 : Bool} {e4 f4 : Option Addr} {i4 j4 p4 o4 : Nat} {g5 : Bool} {e5 f5 : Option Addr} {i5 j5 p5 o5 : Nat} {g6 : Bool} {e6 f6 : Option Addr} {i6 j6 p6 o6 : Nat} (t1 : Fq u g1 e1 i1 j1 f1 p1 o1 (g.1.1 : Rat) (4 * N)) (t2 : Fq u g2 e2 i2 j2 f2 p2 o2 (g.1.2 : Rat) (4 * N)) (t3 : Fq u g3 e3 i3 j3 f3 p3 o3 (g.2.1 : Rat) (4 * N)) (t4 : Fq u g4 e4 i4 j4 f4 p4 o4 (g.2.2 : Rat) (4 * N)) (t5 : Fq u g5 e5 i5 j5 f5 p5 o5 (q) (4 * N)) (t6 : Fq u g6 e6 i6 j6 f6 p6 o6 (r) (4 * N)) => s_On g u t1 t2 t3 t4 t5 t6 (by omega) (by omega))
 have HTU := hidP (fun (g : Sg) (u : World) {g1 : Bool} {e1 f1 : Option Addr} {i1 j1 p1 o1 : Nat} {g2 : Bool} {e2 f2 : Option Addr} {i2 j2 p2 o2 : Nat} {g3 : Bool} {e3 f3 : Option Addr} {i3 j3 p3 o3 : Nat} {g4 : Bool} {e4 f4 : Option Addr} {i4 j4 p4 o4 : Nat} (t1 : Fq u g1 e1 i1 j1 f1 p1 o1 (g.1.1 : Rat) (4 * N)) (t2 : Fq u g2 e2 i2 j2 f2 p2 o2 (g.1.2 : Rat) (4 * N)) (t3 : Fq u g3 e3 i3 j3 f3 p3 o3 (g.2.1 : Rat) (4 * N)) (t4 : Fq u g4 e4 i4 j4 f4 p4 o4 (g.2.2 : Rat) (4 * N)) (t5 : Fq u bx1 ax1 nx1 cx1 dx1 mx1 kx1 x1 N) (t6 : Fq u by1 ay1 ny1 cy1 dy1 my1 ky1 y1 N) => rp_Turn u t1 t2 t3 t4 (t5.mono (by omega)) (t6.mono (by omega)) (show 4 * N ≤ 8589934592 by omega) (by omega))
 have HC1 := hidP (fun (g : Sg) (u : World) {g1 : Bool} {e1 f1 : Option Addr} {i1 j1 p1 o1 : Nat} {g2 : Bool} {e2 f2 : Option Addr} {i2 j2 p2 o2 : Nat} {g5 : Bool} {e5 f5 : Option Addr} {i5 j5 p5 o5 : Nat} {g6 : Bool} {e6 f6 : Option Addr} {i6 j6 p6 o6 : Nat} (t1 : Fq u g1 e1 i1 j1 f1 p1 o1 (g.1.1 : Rat) (4 * N)) (t2 : Fq u g2 e2 i2 j2 f2 p2 o2 (g.1.2 : Rat) (4 * N)) (t5 : Fq u g5 e5 i5 j5 f5 p5 o5 (q) (4 * N)) (t6 : Fq u g6 e6 i6 j6 f6 p6 o6 (r) (4 * N)) => rp_Cmp u t1 t2 t5 t6 (by omega))
 have HC2 := hidP (fun (g : Sg) (u : World) {g1 : Bool} {e1 f1 : Option Addr} {i1 j1 p1 o1 : Nat} {g2 : Bool} {e2 f2 : Option Addr} {i2 j2 p2 o2 : Nat} {g5 : Bool} {e5 f5 : Option Addr} {i5 j5 p5 o5 : Nat} {g6 : Bool} {e6 f6 : Option Addr} {i6 j6 p6 o6 : Nat} (t1 : Fq u g1 e1 i1 j1 f1 p1 o1 (g.2.1 : Rat) (4 * N)) (t2 : Fq u g2 e2 i2 j2 f2 p2 o2 (g.2.2 : Rat) (4 * N)) (t5 : Fq u g5 e5 i5 j5 f5 p5 o5 (q) (4 * N)) (t6 : Fq u g6 e6 i6 j6 f6 p6 o6 (r) (4 * N)) => rp_Cmp u t1 t2 t5 t6 (by omega))
 have HPA := hidP (fun (g : Sg) (hg : mayS g = true) (u : World) {g6 : Bool} {e6 f6 : Option Addr} {i6 j6 p6 o6 : Nat} (t6 : Fq u g6 e6 i6 j6 f6 p6 o6 (r) (4 * N)) => s_past g hg false u t6 (by omega))
 have HSM := hidP (fun (st : Bool) (u : World) {g5 : Bool} {e5 f5 : Option Addr} {i5 j5 p5 o5 : Nat} {g6 : Bool} {e6 f6 : Option Addr} {i6 j6 p6 o6 : Nat} (t0 : SlG u sa sn sc l) (t5 : Fq u g5 e5 i5 j5 f5 p5 o5 (q) (4 * N)) (t6 : Fq u g6 e6 i6 j6 f6 p6 o6 (r) (4 * N)) => r19_sum st sa sn sc l u t0 t5 t6 (by omega) (by omega) hsn)
 have HS0 := sumR_bd (st := false) (q := q) (r := r) l 0 0 (by omega) (by omega)
 have HS1 := sumR_bd (st := true) (q := q) (r := r) l 0 0 (by omega) (by omega)
 rw [h.len] at HS0 HS1
 have HSF := hidP (HSM.out false)
 have HSTT := hidP (HSM.out true)
 have hql : ∀ z : Int, -9223372036854775808 ≤ z → z ≤ 9223372036854775807 → ql (z : Rat) ≤ 4 * N := fun z z1 z2 => Nat.le_trans (ql_int z1 z2) (by omega)
 have HQL := hidP hql
 have HJ0 : Hid (besL x1 y1 q r (l.drop 0) 0 = besL x1 y1 q r l 0) := hidP rfl
 generalize sumR q r false l 0 = s0 at *
 generalize sumR q r true l 0 = sT at *
 generalize besL x1 y1 q r l 0 = R at *
 generalize cmpS x1 y1 x2 y2 = cs at *
 generalize cmpQ y1 y2 = cy at *
 clear h hx1 hy1 hx2 hy2 q1 q2 hwf hql HSM
 cases hcs : (cs == 0)
 · have hne : ¬ cs = 0 := by simpa using hcs
   go_enter Tryz.func15, Tryz.ntmps15
   go_wp2_with fail
   refine absC (fun x41 hx41 => ?_)
   have hx : Ext w x41 := by rw [hx41]; exact ((Ext.refl _).alloc _)
   have be : Bl x41 (w.heap.size) #[.bool bx1, .slice ax1 nx1 cx1, .slice dx1 mx1 kx1, .bool by1, .slice ay1 ny1 cy1, .slice dy1 my1 ky1, .bool bx2, .slice ax2 nx2 cx2, .slice dx2 mx2 kx2, .bool by2, .slice ay2 ny2 cy2, .slice dy2 my2 ky2] := by rw [hx41]; exact (Bl.new (by simp))
   have HE := hx
   clear hx
   clear hx41
   refine (A1.out _ (X1.out.ext HE) (Y1.out.ext HE) (X2.out.ext HE) (Y2.out.ext HE)).mono ?_
   rintro e u91 ⟨rfl, hx⟩
   replace be := q1b hx be
   replace HE := HE.trans hx
   clear hx
   go_wp2_with fail
   go_cut [7] (fun v7 wx => ∃ (g7 : Nat) (a1 d1 a2 d2 : Option Addr) (n1 c1 m1 k1 n2 c2 m2 k2 : Nat), v7 = .pointer (some ⟨g7, 0, none⟩) ∧ u91.heap.size ≤ g7 ∧ Bl wx g7 #[.bool (decide (q.num < 0)), .slice a1 n1 c1, .slice d1 m1 k1, .bool (decide (r.num < 0)), .slice a2 n2 c2, .slice d2 m2 k2] ∧ Nc wx a1 n1 c1 q.num.natAbs ∧ Nc wx d1 m1 k1 q.den ∧ Nc wx a2 n2 c2 r.num.natAbs ∧ Nc wx d2 m2 k2 r.den ∧ Ext u91 wx)
   case first =>
    have HCut := Ext.refl u91
    have loe := be.lt (Nat.succ_pos _)
    have hlo : u91.heap.size ≤ u91.heap.size := Nat.le_refl _
    refine wp_region_plan (R := Below u91.heap.size) (.q 0 (.q 1 (.q 2 (.q 3 (.br 4 (.br 5 (.l 6 (.b 7 .done)) (.l 6 (.l 5 (.b 7 .done)))) (.l 6 (.l 4 (.l 5 (.b 7 .done))))))))) (by kernel_rfl) (by kernel_rfl) (by kernel_rfl) (by kernel_rfl) (Below.refl _) (fun _ _ _ => Below.trans) ?_
    refine absE (fun x42 hx42 => ?_)
    have hx : Ext u91 x42 := by rw [hx42]; exact (Ext.refl _).drew
    replace hlo := Nat.le_trans hlo hx.size
    replace be := q1b hx be
    replace HCut := HCut.trans hx
    replace HE := HE.trans hx
    clear hx
    clear hx42
    repeat (refine wpE_q (v := ?_) rfl rfl (fun u hu => ?_) ?_; rotate_left 1; (focus (have ke := Bl.low hu be loe; go_simp; (try rfl))); simp only [PU])
    clear be
    refine wpE_br rfl rfl (fun K hK => ?_) ?_
    · go_simp
      refine (A2.out _).mono ?_
      rintro e u50 ⟨a50, n50, c50, d50, m50, k50, rfl, hs50, ht50, hx⟩
      refine hK.out _ _ (Below.mono hx hlo) ?_
      clear hK K
      try simp only [PU]
      replace hlo := Nat.le_trans hlo hx.size
      replace HCut := HCut.trans hx
      replace HE := HE.trans hx
      clear hx
      replace hs50 : Nc u50 a50 n50 c50 (hf.num).natAbs := hs50
      replace ht50 : Nc u50 d50 m50 k50 (hf.den) := ht50
      refine wpE_br rfl rfl (fun K hK => ?_) ?_
      · go_simp
        refine (A3.out _ (X1.out.ext HE) (Y1.out.ext HE) (X2.out.ext HE) (Y2.out.ext HE) (fq_of hs50 ht50 L3.out (by omega))).mono ?_
        rintro e u92 ⟨a1, n1, c1, d1, m1, k1, a2, n2, c2, d2, m2, k2, rfl, hs1, ht1, hs2, ht2, hx⟩
        refine hK.out _ _ (Below.mono hx hlo) ?_
        clear hK K
        try simp only [PU]
        replace hlo := Nat.le_trans hlo hx.size
        replace hs50 := hs50.ext hx
        replace ht50 := ht50.ext hx
        replace HCut := HCut.trans hx
        replace HE := HE.trans hx
        clear hx
        clear hs50 ht50
        refine wpE_l rfl rfl (fun K hK => ?_)
        go_simp
        refine hK.out _ _ ((Below.refl _ _).alloc hlo _) ?_
        clear hK K
        try simp only [PU]
        have gem := hlo
        have l0m := HE.size
        refine absE (fun x43 hx43 => ?_)
        have hx : Ext u92 x43 := by rw [hx43]; exact ((Ext.refl _).alloc _)
        have bm : Bl x43 (u92.heap.size) #[.bool false, .slice none 0 0, .slice none 0 0, .bool false, .slice none 0 0, .slice none 0 0] := by rw [hx43]; exact (Bl.new (by simp))
        have fm : Fz x43 (u92.heap.size) := by rw [hx43]; exact (Fz.new (by simp))
        replace hlo := Nat.le_trans hlo hx.size
        replace hs1 := hs1.ext hx
        replace ht1 := ht1.ext hx
        replace hs2 := hs2.ext hx
        replace ht2 := ht2.ext hx
        replace HCut := HCut.trans hx
        replace HE := HE.trans hx
        clear hx
        clear hx43
        refine wpE_b rfl rfl (fun K hK => ?_)
        go_simp
        refine hK.out _ _ ?_
        clear hK K
        try simp only [PU]
        refine absE (fun x44 hx44 => ?_)
        have hbut : But x43 x44 (u92.heap.size) := by rw [hx44]; exact (But.refl _ _).store.store.store.store.store.store
        have hbn : Bl x44 (u92.heap.size) #[.bool (decide (q.num < 0)), .slice a1 n1 c1, .slice d1 m1 k1, .bool (decide (r.num < 0)), .slice a2 n2 c2, .slice d2 m2 k2] := by rw [hx44]; exact (Bl.set (Bl.set (Bl.set (Bl.set (Bl.set (Bl.set bm (by simp)) (by simp)) (by simp)) (by simp)) (by simp)) (by simp))
        have hni : ∀ (j : Nat) (x : Int), (#[.bool false, .slice none 0 0, .slice none 0 0, .bool false, .slice none 0 0, .slice none 0 0] : Array Value)[j]? ≠ some (Value.int .u32 x) := (not_ints6 nb_bool nb_slice nb_slice nb_bool nb_slice nb_slice)
        replace hs1 := hs1.but bm hni hbut
        replace ht1 := ht1.but bm hni hbut
        replace hs2 := hs2.but bm hni hbut
        replace ht2 := ht2.but bm hni hbut
        clear hni
        replace fm : Fz x44 (u92.heap.size) := by rw [hx44]; exact (Fz.set (Fz.set (Fz.set (Fz.set (Fz.set (Fz.set fm))))))
        have hle : w.heap.size ≤ u92.heap.size := by omega
        replace HE : Ext w x44 := by rw [hx44]; exact ((((((HE.store hle _).store hle _).store hle _).store hle _).store hle _).store hle _)
        clear hle
        have hle : u91.heap.size ≤ u92.heap.size := by omega
        replace HCut : Ext u91 x44 := by rw [hx44]; exact ((((((HCut.store hle _).store hle _).store hle _).store hle _).store hle _).store hle _)
        clear hle
        replace hlo : u91.heap.size ≤ x44.heap.size := Nat.le_trans hlo hbut.1
        clear bm hbut hx44
        have bm := hbn
        clear hbn
        refine wpE_done ?_
        clear hlo
        go_wp2_with fail
        go_meet
        exact ⟨u92.heap.size, a1, d1, a2, d2, n1, c1, m1, k1, n2, c2, m2, k2, rfl, gem, bm, hs1, ht1, hs2, ht2, HCut⟩
      refine wpE_l rfl rfl (fun K hK => ?_)
      go_simp
      refine hK.out _ _ ((Below.refl _ _).alloc hlo _) ?_
      clear hK K
      try simp only [PU]
      have gem := hlo
      have l0m := HE.size
      refine absE (fun x43 hx43 => ?_)
      have hx : Ext u50 x43 := by rw [hx43]; exact ((Ext.refl _).alloc _)
      have bm : Bl x43 (u50.heap.size) #[.bool false, .slice none 0 0, .slice none 0 0, .bool false, .slice none 0 0, .slice none 0 0] := by rw [hx43]; exact (Bl.new (by simp))
      have fm : Fz x43 (u50.heap.size) := by rw [hx43]; exact (Fz.new (by simp))
      replace hlo := Nat.le_trans hlo hx.size
      replace hs50 := hs50.ext hx
      replace ht50 := ht50.ext hx
      replace HCut := HCut.trans hx
      replace HE := HE.trans hx
      clear hx
      clear hx43
      refine wpE_l rfl rfl (fun K hK => ?_)
      go_simp
      refine (A3.out _ (X1.out.ext HE) (Y1.out.ext HE) (X2.out.ext HE) (Y2.out.ext HE) (fq_of hs50 ht50 L3.out (by omega))).mono ?_
      rintro e u92 ⟨a1, n1, c1, d1, m1, k1, a2, n2, c2, d2, m2, k2, rfl, hs1, ht1, hs2, ht2, hx⟩
      refine hK.out _ _ (Below.mono hx hlo) ?_
      clear hK K
      try simp only [PU]
      replace hlo := Nat.le_trans hlo hx.size
      replace fm := q1f hx fm bm
      replace bm := q1b hx bm
      replace hs50 := hs50.ext hx
      replace ht50 := ht50.ext hx
      replace HCut := HCut.trans hx
      replace HE := HE.trans hx
      clear hx
      clear hs50 ht50
      refine wpE_b rfl rfl (fun K hK => ?_)
      go_simp
      refine hK.out _ _ ?_
      clear hK K
      try simp only [PU]
      refine absE (fun x44 hx44 => ?_)
      have hbut : But u92 x44 (u50.heap.size) := by rw [hx44]; exact (But.refl _ _).store.store.store.store.store.store
      have hbn : Bl x44 (u50.heap.size) #[.bool (decide (q.num < 0)), .slice a1 n1 c1, .slice d1 m1 k1, .bool (decide (r.num < 0)), .slice a2 n2 c2, .slice d2 m2 k2] := by rw [hx44]; exact (Bl.set (Bl.set (Bl.set (Bl.set (Bl.set (Bl.set bm (by simp)) (by simp)) (by simp)) (by simp)) (by simp)) (by simp))
      have hni : ∀ (j : Nat) (x : Int), (#[.bool false, .slice none 0 0, .slice none 0 0, .bool false, .slice none 0 0, .slice none 0 0] : Array Value)[j]? ≠ some (Value.int .u32 x) := (not_ints6 nb_bool nb_slice nb_slice nb_bool nb_slice nb_slice)
      replace hs1 := hs1.but bm hni hbut
      replace ht1 := ht1.but bm hni hbut
      replace hs2 := hs2.but bm hni hbut
      replace ht2 := ht2.but bm hni hbut
      clear hni
      replace fm : Fz x44 (u50.heap.size) := by rw [hx44]; exact (Fz.set (Fz.set (Fz.set (Fz.set (Fz.set (Fz.set fm))))))
      have hle : w.heap.size ≤ u50.heap.size := by omega
      replace HE : Ext w x44 := by rw [hx44]; exact ((((((HE.store hle _).store hle _).store hle _).store hle _).store hle _).store hle _)
      clear hle
      have hle : u91.heap.size ≤ u50.heap.size := by omega
      replace HCut : Ext u91 x44 := by rw [hx44]; exact ((((((HCut.store hle _).store hle _).store hle _).store hle _).store hle _).store hle _)
      clear hle
      replace hlo : u91.heap.size ≤ x44.heap.size := Nat.le_trans hlo hbut.1
      clear bm hbut hx44
      have bm := hbn
      clear hbn
      refine wpE_done ?_
      clear hlo
      go_wp2_with fail
      go_meet
      exact ⟨u50.heap.size, a1, d1, a2, d2, n1, c1, m1, k1, n2, c2, m2, k2, rfl, gem, bm, hs1, ht1, hs2, ht2, HCut⟩
    refine wpE_l rfl rfl (fun K hK => ?_)
    go_simp
    refine hK.out _ _ ((Below.refl _ _).alloc hlo _) ?_
    clear hK K
    try simp only [PU]
    have gem := hlo
    have l0m := HE.size
    refine absE (fun x43 hx43 => ?_)
    have hx : Ext x42 x43 := by rw [hx43]; exact ((Ext.refl _).alloc _)
    have bm : Bl x43 (x42.heap.size) #[.bool false, .slice none 0 0, .slice none 0 0, .bool false, .slice none 0 0, .slice none 0 0] := by rw [hx43]; exact (Bl.new (by simp))
    have fm : Fz x43 (x42.heap.size) := by rw [hx43]; exact (Fz.new (by simp))
    replace hlo := Nat.le_trans hlo hx.size
    replace HCut := HCut.trans hx
    replace HE := HE.trans hx
    clear hx
    clear hx43
    refine wpE_l rfl rfl (fun K hK => ?_)
    go_simp
    refine (A2.out _).mono ?_
    rintro e u50 ⟨a50, n50, c50, d50, m50, k50, rfl, hs50, ht50, hx⟩
    refine hK.out _ _ (Below.mono hx hlo) ?_
    clear hK K
    try simp only [PU]
    replace hlo := Nat.le_trans hlo hx.size
    replace fm := q1f hx fm bm
    replace bm := q1b hx bm
    replace HCut := HCut.trans hx
    replace HE := HE.trans hx
    clear hx
    replace hs50 : Nc u50 a50 n50 c50 (hf.num).natAbs := hs50
    replace ht50 : Nc u50 d50 m50 k50 (hf.den) := ht50
    refine wpE_l rfl rfl (fun K hK => ?_)
    go_simp
    refine (A3.out _ (X1.out.ext HE) (Y1.out.ext HE) (X2.out.ext HE) (Y2.out.ext HE) (fq_of hs50 ht50 L3.out (by omega))).mono ?_
    rintro e u92 ⟨a1, n1, c1, d1, m1, k1, a2, n2, c2, d2, m2, k2, rfl, hs1, ht1, hs2, ht2, hx⟩
    refine hK.out _ _ (Below.mono hx hlo) ?_
    clear hK K
    try simp only [PU]
    replace hlo := Nat.le_trans hlo hx.size
    replace fm := q1f hx fm bm
    replace bm := q1b hx bm
    replace hs50 := hs50.ext hx
    replace ht50 := ht50.ext hx
    replace HCut := HCut.trans hx
    replace HE := HE.trans hx
    clear hx
    clear hs50 ht50
    refine wpE_b rfl rfl (fun K hK => ?_)
    go_simp
    refine hK.out _ _ ?_
    clear hK K
    try simp only [PU]
    refine absE (fun x44 hx44 => ?_)
    have hbut : But u92 x44 (x42.heap.size) := by rw [hx44]; exact (But.refl _ _).store.store.store.store.store.store
    have hbn : Bl x44 (x42.heap.size) #[.bool (decide (q.num < 0)), .slice a1 n1 c1, .slice d1 m1 k1, .bool (decide (r.num < 0)), .slice a2 n2 c2, .slice d2 m2 k2] := by rw [hx44]; exact (Bl.set (Bl.set (Bl.set (Bl.set (Bl.set (Bl.set bm (by simp)) (by simp)) (by simp)) (by simp)) (by simp)) (by simp))
    have hni : ∀ (j : Nat) (x : Int), (#[.bool false, .slice none 0 0, .slice none 0 0, .bool false, .slice none 0 0, .slice none 0 0] : Array Value)[j]? ≠ some (Value.int .u32 x) := (not_ints6 nb_bool nb_slice nb_slice nb_bool nb_slice nb_slice)
    replace hs1 := hs1.but bm hni hbut
    replace ht1 := ht1.but bm hni hbut
    replace hs2 := hs2.but bm hni hbut
    replace ht2 := ht2.but bm hni hbut
    clear hni
    replace fm : Fz x44 (x42.heap.size) := by rw [hx44]; exact (Fz.set (Fz.set (Fz.set (Fz.set (Fz.set (Fz.set fm))))))
    have hle : w.heap.size ≤ x42.heap.size := by omega
    replace HE : Ext w x44 := by rw [hx44]; exact ((((((HE.store hle _).store hle _).store hle _).store hle _).store hle _).store hle _)
    clear hle
    have hle : u91.heap.size ≤ x42.heap.size := by omega
    replace HCut : Ext u91 x44 := by rw [hx44]; exact ((((((HCut.store hle _).store hle _).store hle _).store hle _).store hle _).store hle _)
    clear hle
    replace hlo : u91.heap.size ≤ x44.heap.size := Nat.le_trans hlo hbut.1
    clear bm hbut hx44
    have bm := hbn
    clear hbn
    refine wpE_done ?_
    clear hlo
    go_wp2_with fail
    go_meet
    exact ⟨x42.heap.size, a1, d1, a2, d2, n1, c1, m1, k1, n2, c2, m2, k2, rfl, gem, bm, hs1, ht1, hs2, ht2, HCut⟩
   obtain ⟨g7, a1, d1, a2, d2, n1, c1, m1, k1, n2, c2, m2, k2, rfl, gem, bm, hs1, ht1, hs2, ht2, hx⟩ := hcut
   replace be := q1b hx be
   replace HE := HE.trans hx
   clear hx
   go_wp2_with fail
   refine (A4.out _ (Y1.out.ext HE) (Y2.out.ext HE)).mono ?_
   rintro e u93q ⟨rfl, hx⟩
   replace be := q1b hx be
   replace bm := q1b hx bm
   replace hs1 := hs1.ext hx
   replace ht1 := ht1.ext hx
   replace hs2 := hs2.ext hx
   replace ht2 := ht2.ext hx
   replace HE := HE.trans hx
   clear hx
   have M1 := hidP (fq_of hs1 ht1 L1.out (by omega)); have M2 := hidP (fq_of hs2 ht2 L2.out (by omega))
   have HC := Ext.refl u93q
   clear hs1 ht1 hs2 ht2
   go_wp2_with fail
   go_loopw [9, 10] (fun ov iv wr => ∃ (j : Nat) (o : Int), j ≤ sn ∧ ov = .int .i64 o ∧ iv = .int .i64 (j : Int) ∧ -(j : Int) ≤ o ∧ o ≤ (j : Int) ∧ Bl wr w.heap.size #[.bool bx1, .slice ax1 nx1 cx1, .slice dx1 mx1 kx1, .bool by1, .slice ay1 ny1 cy1, .slice dy1 my1 ky1, .bool bx2, .slice ax2 nx2 cx2, .slice dx2 mx2 kx2, .bool by2, .slice ay2 ny2 cy2, .slice dy2 my2 ky2] ∧ Bl wr g7 #[.bool (decide (q.num < 0)), .slice a1 n1 c1, .slice d1 m1 k1, .bool (decide (r.num < 0)), .slice a2 n2 c2, .slice d2 m2 k2] ∧ Hid (besL x1 y1 q r (l.drop j) o = R) ∧ Ext u93q wr ∧ Ext w wr) (fun _ iv _ => sn - (intOf iv).toNat)
   case atStart => exact ⟨0, 0, by omega, rfl, rfl, by omega, by omega, be, bm, HJ0, HC, HE⟩
   clear HE be bm HJ0 HC
   obtain ⟨j, o, hj, rfl, rfl, o1, o2, be, bm, HJ, HC, HE⟩ := hrel
   by_cases hlt : j < sn
   · obtain ⟨g, off, rfl, hc⟩ := (H.out.ext HE).at (by omega)
     have hjl : j < l.length := by rw [HLN.out]; exact hlt
     obtain ⟨z0, z1, z2, z3⟩ := hc j hjl
     have hst := HST.out j o hjl
     rw [HJ.out] at hst
     clear hc HJ
     have hwg := HWF.out j hjl
     have hmy := HMY.out l[j]
     have ha := HA.out l[j] hwg
     have hb := HB.out l[j] hwg
     have hon := HON.out l[j]
     have htu := HTU.out l[j]
     have hc1 := HC1.out l[j]
     have hc2 := HC2.out l[j]
     have hpa := HPA.out l[j]
     have hpb := pkR_bd r false l[j]
     have hsd := sideR_bd (l[j].1.1 : Rat) (l[j].1.2 : Rat) (l[j].2.1 : Rat) (l[j].2.2 : Rat) x1 y1
     have hal : alS x1 y1 q r l[j] = ((sideR (l[j].1.1 : Rat) (l[j].1.2 : Rat) (l[j].2.1 : Rat) (l[j].2.2 : Rat) x1 y1 == 0) && !(cmpS (l[j].1.1 : Rat) (l[j].1.2 : Rat) q r == 0) && !(cmpS (l[j].2.1 : Rat) (l[j].2.2 : Rat) q r == 0)) := rfl
     rw [hal] at hst
     clear hal
     have L4 := hidP (HQL.out _ hwg.1.1 hwg.1.2.1); have L5 := hidP (HQL.out _ hwg.1.2.2.1 hwg.1.2.2.2); have L6 := hidP (HQL.out _ hwg.2.1 hwg.2.2.1); have L7 := hidP (HQL.out _ hwg.2.2.2.1 hwg.2.2.2.2)
     clear hwg
     generalize l[j] = G at *
     generalize onS q r G = on at *
     generalize mayS G = ms at *
     generalize pkR r false G = pk at *
     obtain ⟨⟨ax, ay⟩, ⟨ex, ey⟩⟩ := G
     simp only [] at z0 z1 z2 z3 hmy ha hb hon htu hc1 hc2 hpa hsd L4 L5 L6 L7 hst
     generalize sideR (ax : Rat) (ay : Rat) (ex : Rat) (ey : Rat) x1 y1 = sd at *
     generalize cmpS (ax : Rat) (ay : Rat) q r = k1_ at *
     generalize cmpS (ex : Rat) (ey : Rat) q r = k2_ at *
     generalize (ax : Rat) = q1 at *
     generalize (ay : Rat) = q2 at *
     generalize (ex : Rat) = q3 at *
     generalize (ey : Rat) = q4 at *
     have HMY1 := hidP hmy; have HA1 := hidP ha; have HB1 := hidP hb; have HON1 := hidP hon; have HTU1 := hidP htu; have HC11 := hidP hc1; have HC21 := hidP hc2; have HPA1 := hidP hpa
     clear hmy ha hb hon htu hc1 hc2 hpa
     go_upto_region 9 with fail
     go_cut [11, 12] (fun v11 v12 wx => ∃ (g11 g12 : Nat) (a3 d3 a4 d4 a5 d5 a6 d6 : Option Addr) (n3 c3 m3 k3 n4 c4 m4 k4 n5 c5 m5 k5 n6 c6 m6 k6 : Nat), v11 = .pointer (some ⟨g11, 0, none⟩) ∧ v12 = .pointer (some ⟨g12, 0, none⟩) ∧ wr.heap.size ≤ g11 ∧ wr.heap.size ≤ g12 ∧ Bl wx g11 #[.bool (decide (q1.num < 0)), .slice a3 n3 c3, .slice d3 m3 k3, .bool (decide (q2.num < 0)), .slice a4 n4 c4, .slice d4 m4 k4] ∧ Bl wx g12 #[.bool (decide (q3.num < 0)), .slice a5 n5 c5, .slice d5 m5 k5, .bool (decide (q4.num < 0)), .slice a6 n6 c6, .slice d6 m6 k6] ∧ Nc wx a3 n3 c3 q1.num.natAbs ∧ Nc wx d3 m3 k3 q1.den ∧ Nc wx a4 n4 c4 q2.num.natAbs ∧ Nc wx d4 m4 k4 q2.den ∧ Nc wx a5 n5 c5 q3.num.natAbs ∧ Nc wx d5 m5 k5 q3.den ∧ Nc wx a6 n6 c6 q4.num.natAbs ∧ Nc wx d6 m6 k6 q4.den ∧ Ext wr wx)
     case first =>
      have HCut := Ext.refl wr
      have loe := be.lt (Nat.succ_pos _)
      have lom := bm.lt (Nat.succ_pos _)
      have loz0 := cell_lt z0
      have loz1 := cell_lt z1
      have loz2 := cell_lt z2
      have loz3 := cell_lt z3
      have hlo : wr.heap.size ≤ wr.heap.size := Nat.le_refl _
      refine wp_region_plan (R := Below wr.heap.size) (.q 0 (.q 1 (.q 2 (.q 3 (.q 4 (.q 6 (.q 7 (.q 8 (.q 9 (.q 10 (.br 5 (.br 11 (.br 12 (.l 13 (.l 14 (.b 15 .done))) (.l 13 (.l 12 (.l 14 (.b 15 .done))))) (.br 12 (.br 11 (.l 13 (.l 14 (.b 15 .done))) (.l 13 (.l 11 (.l 14 (.b 15 .done))))) (.l 13 (.br 11 (.l 12 (.l 14 (.b 15 .done))) (.l 12 (.l 11 (.l 14 (.b 15 .done)))))))) (.br 12 (.br 5 (.br 11 (.l 13 (.l 14 (.b 15 .done))) (.l 13 (.l 11 (.l 14 (.b 15 .done))))) (.l 13 (.l 5 (.l 11 (.l 14 (.b 15 .done)))))) (.l 13 (.br 5 (.br 11 (.l 12 (.l 14 (.b 15 .done))) (.l 12 (.l 11 (.l 14 (.b 15 .done))))) (.l 12 (.l 5 (.l 11 (.l 14 (.b 15 .done))))))))))))))))))) (by kernel_rfl) (by kernel_rfl) (by kernel_rfl) (by kernel_rfl) (Below.refl _) (fun _ _ _ => Below.trans) ?_
      refine absE (fun x81 hx81 => ?_)
      have hx : Ext wr x81 := by rw [hx81]; exact (Ext.refl _).drew
      replace hlo := Nat.le_trans hlo hx.size
      replace be := q1b hx be
      replace bm := q1b hx bm
      replace z0 := hx.cell' z0
      replace z1 := hx.cell' z1
      replace z2 := hx.cell' z2
      replace z3 := hx.cell' z3
      replace HC := HC.trans hx
      replace HCut := HCut.trans hx
      replace HE := HE.trans hx
      clear hx
      clear hx81
      repeat (refine wpE_q (v := ?_) rfl rfl (fun u hu => ?_) ?_; rotate_left 1; (focus (have ke := Bl.low hu be loe; have km := Bl.low hu bm lom; have kz0 := low_cell hu z0 loz0; have kz1 := low_cell hu z1 loz1; have kz2 := low_cell hu z2 loz2; have kz3 := low_cell hu z3 loz3; go_simp; (try rfl))); simp only [PU])
      clear be
      clear bm
      clear z0
      clear z1
      clear z2
      clear z3
      refine wpE_br rfl rfl (fun K hK => ?_) ?_
      · go_simp
        refine (HA1.out _).mono ?_
        rintro e u51 ⟨a3, n3, c3, d3, m3, k3, a4, n4, c4, d4, m4, k4, rfl, hs3, ht3, hs4, ht4, hx⟩
        refine hK.out _ _ (Below.mono hx hlo) ?_
        clear hK K
        try simp only [PU]
        replace hlo := Nat.le_trans hlo hx.size
        replace HC := HC.trans hx
        replace HCut := HCut.trans hx
        replace HE := HE.trans hx
        clear hx
        have hp3 : Sp4 _ _ _ _ _ _ _ _ _ _ _ _ _ _ _ := ⟨hs3, ht3, hs4, ht4⟩
        clear hs3 ht3 hs4 ht4
        refine wpE_br rfl rfl (fun K hK => ?_) ?_
        · go_simp
          refine (HB1.out _).mono ?_
          rintro e u52 ⟨a5, n5, c5, d5, m5, k5, a6, n6, c6, d6, m6, k6, rfl, hs5, ht5, hs6, ht6, hx⟩
          refine hK.out _ _ (Below.mono hx hlo) ?_
          clear hK K
          try simp only [PU]
          replace hlo := Nat.le_trans hlo hx.size
          replace hp3 := hp3.ext hx
          replace HC := HC.trans hx
          replace HCut := HCut.trans hx
          replace HE := HE.trans hx
          clear hx
          have hp5 : Sp4 _ _ _ _ _ _ _ _ _ _ _ _ _ _ _ := ⟨hs5, ht5, hs6, ht6⟩
          clear hs5 ht5 hs6 ht6
          refine wpE_br rfl rfl (fun K hK => ?_) ?_
          · go_simp
            refine hK.out _ _ ((Below.refl _ _).alloc hlo _) ?_
            clear hK K
            try simp only [PU]
            have gea_ := hlo
            have l0a_ := HE.size
            have lHCa_ := HC.size
            refine absE (fun x82 hx82 => ?_)
            have hx : Ext u52 x82 := by rw [hx82]; exact ((Ext.refl _).alloc _)
            have ba_ : Bl x82 (u52.heap.size) #[.bool false, .slice none 0 0, .slice none 0 0, .bool false, .slice none 0 0, .slice none 0 0] := by rw [hx82]; exact (Bl.new (by simp))
            have fa_ : Fz x82 (u52.heap.size) := by rw [hx82]; exact (Fz.new (by simp))
            replace hlo := Nat.le_trans hlo hx.size
            replace hp3 := hp3.ext hx
            replace hp5 := hp5.ext hx
            replace HC := HC.trans hx
            replace HCut := HCut.trans hx
            replace HE := HE.trans hx
            clear hx
            clear hx82
            refine wpE_l rfl rfl (fun K hK => ?_)
            go_simp
            refine hK.out _ _ ((Below.refl _ _).alloc hlo _) ?_
            clear hK K
            try simp only [PU]
            have geb_ := hlo
            have la_b_ := ba_.lt (Nat.succ_pos _)
            have l0b_ := HE.size
            have lHCb_ := HC.size
            refine absE (fun x83 hx83 => ?_)
            have hx : Ext x82 x83 := by rw [hx83]; exact ((Ext.refl _).alloc _)
            have bb_ : Bl x83 (x82.heap.size) #[.bool false, .slice none 0 0, .slice none 0 0, .bool false, .slice none 0 0, .slice none 0 0] := by rw [hx83]; exact (Bl.new (by simp))
            have fb_ : Fz x83 (x82.heap.size) := by rw [hx83]; exact (Fz.new (by simp))
            replace hlo := Nat.le_trans hlo hx.size
            replace fa_ := q1f hx fa_ ba_
            replace ba_ := q1b hx ba_
            replace hp3 := hp3.ext hx
            replace hp5 := hp5.ext hx
            replace HC := HC.trans hx
            replace HCut := HCut.trans hx
            replace HE := HE.trans hx
            clear hx
            clear hx83
            refine wpE_l rfl rfl (fun K hK => ?_)
            go_simp
            have hle : wr.heap.size ≤ u52.heap.size := by omega
            refine hK.out _ _ (((((((Below.refl _ _).setCell hle _).setCell hle _).setCell hle _).setCell hle _).setCell hle _).setCell hle _) ?_
            clear hK K hle
            try simp only [PU]
            refine absE (fun x84 hx84 => ?_)
            have hbut : But x83 x84 (u52.heap.size) := by rw [hx84]; exact (But.refl _ _).store.store.store.store.store.store
            have hbn : Bl x84 (u52.heap.size) #[.bool (decide (q1.num < 0)), .slice a3 n3 c3, .slice d3 m3 k3, .bool (decide (q2.num < 0)), .slice a4 n4 c4, .slice d4 m4 k4] := by rw [hx84]; exact (Bl.set (Bl.set (Bl.set (Bl.set (Bl.set (Bl.set ba_ (by simp)) (by simp)) (by simp)) (by simp)) (by simp)) (by simp))
            have hni : ∀ (j : Nat) (x : Int), (#[.bool false, .slice none 0 0, .slice none 0 0, .bool false, .slice none 0 0, .slice none 0 0] : Array Value)[j]? ≠ some (Value.int .u32 x) := (not_ints6 nb_bool nb_slice nb_slice nb_bool nb_slice nb_slice)
            replace hp3 := hp3.but ba_ hni hbut
            replace hp5 := hp5.but ba_ hni hbut
            clear hni
            replace fb_ := But.fz hbut fb_ bb_ (Nat.succ_pos _) (by omega)
            replace bb_ := But.bl hbut bb_ (Nat.succ_pos _) (by omega)
            replace fa_ : Fz x84 (u52.heap.size) := by rw [hx84]; exact (Fz.set (Fz.set (Fz.set (Fz.set (Fz.set (Fz.set fa_))))))
            have hle : w.heap.size ≤ u52.heap.size := by omega
            replace HE : Ext w x84 := by rw [hx84]; exact ((((((HE.store hle _).store hle _).store hle _).store hle _).store hle _).store hle _)
            clear hle
            have hle : u93q.heap.size ≤ u52.heap.size := by omega
            replace HC : Ext u93q x84 := by rw [hx84]; exact ((((((HC.store hle _).store hle _).store hle _).store hle _).store hle _).store hle _)
            clear hle
            have hle : wr.heap.size ≤ u52.heap.size := by omega
            replace HCut : Ext wr x84 := by rw [hx84]; exact ((((((HCut.store hle _).store hle _).store hle _).store hle _).store hle _).store hle _)
            clear hle
            replace hlo : wr.heap.size ≤ x84.heap.size := Nat.le_trans hlo hbut.1
            clear ba_ hbut hx84
            have ba_ := hbn
            clear hbn
            refine wpE_b rfl rfl (fun K hK => ?_)
            go_simp
            refine hK.out _ _ ?_
            clear hK K
            try simp only [PU]
            refine absE (fun x85 hx85 => ?_)
            have hbut : But x84 x85 (x82.heap.size) := by rw [hx85]; exact (But.refl _ _).store.store.store.store.store.store
            have hbn : Bl x85 (x82.heap.size) #[.bool (decide (q3.num < 0)), .slice a5 n5 c5, .slice d5 m5 k5, .bool (decide (q4.num < 0)), .slice a6 n6 c6, .slice d6 m6 k6] := by rw [hx85]; exact (Bl.set (Bl.set (Bl.set (Bl.set (Bl.set (Bl.set bb_ (by simp)) (by simp)) (by simp)) (by simp)) (by simp)) (by simp))
            have hni : ∀ (j : Nat) (x : Int), (#[.bool false, .slice none 0 0, .slice none 0 0, .bool false, .slice none 0 0, .slice none 0 0] : Array Value)[j]? ≠ some (Value.int .u32 x) := (not_ints6 nb_bool nb_slice nb_slice nb_bool nb_slice nb_slice)
            replace hp3 := hp3.but bb_ hni hbut
            replace hp5 := hp5.but bb_ hni hbut
            clear hni
            replace fa_ := But.fz hbut fa_ ba_ (Nat.succ_pos _) (by omega)
            replace ba_ := But.bl hbut ba_ (Nat.succ_pos _) (by omega)
            replace fb_ : Fz x85 (x82.heap.size) := by rw [hx85]; exact (Fz.set (Fz.set (Fz.set (Fz.set (Fz.set (Fz.set fb_))))))
            have hle : w.heap.size ≤ x82.heap.size := by omega
            replace HE : Ext w x85 := by rw [hx85]; exact ((((((HE.store hle _).store hle _).store hle _).store hle _).store hle _).store hle _)
            clear hle
            have hle : u93q.heap.size ≤ x82.heap.size := by omega
            replace HC : Ext u93q x85 := by rw [hx85]; exact ((((((HC.store hle _).store hle _).store hle _).store hle _).store hle _).store hle _)
            clear hle
            have hle : wr.heap.size ≤ x82.heap.size := by omega
            replace HCut : Ext wr x85 := by rw [hx85]; exact ((((((HCut.store hle _).store hle _).store hle _).store hle _).store hle _).store hle _)
            clear hle
            replace hlo : wr.heap.size ≤ x85.heap.size := Nat.le_trans hlo hbut.1
            clear bb_ hbut hx85
            have bb_ := hbn
            clear hbn
            refine wpE_done ?_
            clear hlo
            go_wp2_with fail
            go_meet
            exact ⟨u52.heap.size, x82.heap.size, a3, d3, a4, d4, a5, d5, a6, d6, n3, c3, m3, k3, n4, c4, m4, k4, n5, c5, m5, k5, n6, c6, m6, k6, rfl, rfl, gea_, geb_, ba_, bb_, hp3.1, hp3.2.1, hp3.2.2.1, hp3.2.2.2, hp5.1, hp5.2.1, hp5.2.2.1, hp5.2.2.2, HCut⟩
          refine wpE_l rfl rfl (fun K hK => ?_)
          go_simp
          refine hK.out _ _ ((Below.refl _ _).alloc hlo _) ?_
          clear hK K
          try simp only [PU]
          have geb_ := hlo
          have l0b_ := HE.size
          have lHCb_ := HC.size
          refine absE (fun x82 hx82 => ?_)
          have hx : Ext u52 x82 := by rw [hx82]; exact ((Ext.refl _).alloc _)
          have bb_ : Bl x82 (u52.heap.size) #[.bool false, .slice none 0 0, .slice none 0 0, .bool false, .slice none 0 0, .slice none 0 0] := by rw [hx82]; exact (Bl.new (by simp))
          have fb_ : Fz x82 (u52.heap.size) := by rw [hx82]; exact (Fz.new (by simp))
          replace hlo := Nat.le_trans hlo hx.size
          replace hp3 := hp3.ext hx
          replace hp5 := hp5.ext hx
          replace HC := HC.trans hx
          replace HCut := HCut.trans hx
          replace HE := HE.trans hx
          clear hx
          clear hx82
          refine wpE_l rfl rfl (fun K hK => ?_)
          go_simp
          refine hK.out _ _ ((Below.refl _ _).alloc hlo _) ?_
          clear hK K
          try simp only [PU]
          have gea_ := hlo
          have lb_a_ := bb_.lt (Nat.succ_pos _)
          have l0a_ := HE.size
          have lHCa_ := HC.size
          refine absE (fun x83 hx83 => ?_)
          have hx : Ext x82 x83 := by rw [hx83]; exact ((Ext.refl _).alloc _)
          have ba_ : Bl x83 (x82.heap.size) #[.bool false, .slice none 0 0, .slice none 0 0, .bool false, .slice none 0 0, .slice none 0 0] := by rw [hx83]; exact (Bl.new (by simp))
          have fa_ : Fz x83 (x82.heap.size) := by rw [hx83]; exact (Fz.new (by simp))
          replace hlo := Nat.le_trans hlo hx.size
          replace fb_ := q1f hx fb_ bb_
          replace bb_ := q1b hx bb_
          replace hp3 := hp3.ext hx
          replace hp5 := hp5.ext hx
          replace HC := HC.trans hx
          replace HCut := HCut.trans hx
          replace HE := HE.trans hx
          clear hx
          clear hx83
          refine wpE_l rfl rfl (fun K hK => ?_)
          go_simp
          have hle : wr.heap.size ≤ x82.heap.size := by omega
          refine hK.out _ _ (((((((Below.refl _ _).setCell hle _).setCell hle _).setCell hle _).setCell hle _).setCell hle _).setCell hle _) ?_
          clear hK K hle
          try simp only [PU]
          refine absE (fun x84 hx84 => ?_)
          have hbut : But x83 x84 (x82.heap.size) := by rw [hx84]; exact (But.refl _ _).store.store.store.store.store.store
          have hbn : Bl x84 (x82.heap.size) #[.bool (decide (q1.num < 0)), .slice a3 n3 c3, .slice d3 m3 k3, .bool (decide (q2.num < 0)), .slice a4 n4 c4, .slice d4 m4 k4] := by rw [hx84]; exact (Bl.set (Bl.set (Bl.set (Bl.set (Bl.set (Bl.set ba_ (by simp)) (by simp)) (by simp)) (by simp)) (by simp)) (by simp))
          have hni : ∀ (j : Nat) (x : Int), (#[.bool false, .slice none 0 0, .slice none 0 0, .bool false, .slice none 0 0, .slice none 0 0] : Array Value)[j]? ≠ some (Value.int .u32 x) := (not_ints6 nb_bool nb_slice nb_slice nb_bool nb_slice nb_slice)
          replace hp3 := hp3.but ba_ hni hbut
          replace hp5 := hp5.but ba_ hni hbut
          clear hni
          replace fb_ := But.fz hbut fb_ bb_ (Nat.succ_pos _) (by omega)
          replace bb_ := But.bl hbut bb_ (Nat.succ_pos _) (by omega)
          replace fa_ : Fz x84 (x82.heap.size) := by rw [hx84]; exact (Fz.set (Fz.set (Fz.set (Fz.set (Fz.set (Fz.set fa_))))))
          have hle : w.heap.size ≤ x82.heap.size := by omega
          replace HE : Ext w x84 := by rw [hx84]; exact ((((((HE.store hle _).store hle _).store hle _).store hle _).store hle _).store hle _)
          clear hle
          have hle : u93q.heap.size ≤ x82.heap.size := by omega
          replace HC : Ext u93q x84 := by rw [hx84]; exact ((((((HC.store hle _).store hle _).store hle _).store hle _).store hle _).store hle _)
          clear hle
          have hle : wr.heap.size ≤ x82.heap.size := by omega
          replace HCut : Ext wr x84 := by rw [hx84]; exact ((((((HCut.store hle _).store hle _).store hle _).store hle _).store hle _).store hle _)
          clear hle
          replace hlo : wr.heap.size ≤ x84.heap.size := Nat.le_trans hlo hbut.1
          clear ba_ hbut hx84
          have ba_ := hbn
          clear hbn
          refine wpE_b rfl rfl (fun K hK => ?_)
          go_simp
          refine hK.out _ _ ?_
          clear hK K
          try simp only [PU]
          refine absE (fun x85 hx85 => ?_)
          have hbut : But x84 x85 (u52.heap.size) := by rw [hx85]; exact (But.refl _ _).store.store.store.store.store.store
          have hbn : Bl x85 (u52.heap.size) #[.bool (decide (q3.num < 0)), .slice a5 n5 c5, .slice d5 m5 k5, .bool (decide (q4.num < 0)), .slice a6 n6 c6, .slice d6 m6 k6] := by rw [hx85]; exact (Bl.set (Bl.set (Bl.set (Bl.set (Bl.set (Bl.set bb_ (by simp)) (by simp)) (by simp)) (by simp)) (by simp)) (by simp))
          have hni : ∀ (j : Nat) (x : Int), (#[.bool false, .slice none 0 0, .slice none 0 0, .bool false, .slice none 0 0, .slice none 0 0] : Array Value)[j]? ≠ some (Value.int .u32 x) := (not_ints6 nb_bool nb_slice nb_slice nb_bool nb_slice nb_slice)
          replace hp3 := hp3.but bb_ hni hbut
          replace hp5 := hp5.but bb_ hni hbut
          clear hni
          replace fa_ := But.fz hbut fa_ ba_ (Nat.succ_pos _) (by omega)
          replace ba_ := But.bl hbut ba_ (Nat.succ_pos _) (by omega)
          replace fb_ : Fz x85 (u52.heap.size) := by rw [hx85]; exact (Fz.set (Fz.set (Fz.set (Fz.set (Fz.set (Fz.set fb_))))))
          have hle : w.heap.size ≤ u52.heap.size := by omega
          replace HE : Ext w x85 := by rw [hx85]; exact ((((((HE.store hle _).store hle _).store hle _).store hle _).store hle _).store hle _)
          clear hle
          have hle : u93q.heap.size ≤ u52.heap.size := by omega
          replace HC : Ext u93q x85 := by rw [hx85]; exact ((((((HC.store hle _).store hle _).store hle _).store hle _).store hle _).store hle _)
          clear hle
          have hle : wr.heap.size ≤ u52.heap.size := by omega
          replace HCut : Ext wr x85 := by rw [hx85]; exact ((((((HCut.store hle _).store hle _).store hle _).store hle _).store hle _).store hle _)
          clear hle
          replace hlo : wr.heap.size ≤ x85.heap.size := Nat.le_trans hlo hbut.1
          clear bb_ hbut hx85
          have bb_ := hbn
          clear hbn
          refine wpE_done ?_
          clear hlo
          go_wp2_with fail
          go_meet
          exact ⟨x82.heap.size, u52.heap.size, a3, d3, a4, d4, a5, d5, a6, d6, n3, c3, m3, k3, n4, c4, m4, k4, n5, c5, m5, k5, n6, c6, m6, k6, rfl, rfl, gea_, geb_, ba_, bb_, hp3.1, hp3.2.1, hp3.2.2.1, hp3.2.2.2, hp5.1, hp5.2.1, hp5.2.2.1, hp5.2.2.2, HCut⟩
        refine wpE_br rfl rfl (fun K hK => ?_) ?_
        · go_simp
          refine hK.out _ _ ((Below.refl _ _).alloc hlo _) ?_
          clear hK K
          try simp only [PU]
          have gea_ := hlo
          have l0a_ := HE.size
          have lHCa_ := HC.size
          refine absE (fun x82 hx82 => ?_)
          have hx : Ext u51 x82 := by rw [hx82]; exact ((Ext.refl _).alloc _)
          have ba_ : Bl x82 (u51.heap.size) #[.bool false, .slice none 0 0, .slice none 0 0, .bool false, .slice none 0 0, .slice none 0 0] := by rw [hx82]; exact (Bl.new (by simp))
          have fa_ : Fz x82 (u51.heap.size) := by rw [hx82]; exact (Fz.new (by simp))
          replace hlo := Nat.le_trans hlo hx.size
          replace hp3 := hp3.ext hx
          replace HC := HC.trans hx
          replace HCut := HCut.trans hx
          replace HE := HE.trans hx
          clear hx
          clear hx82
          refine wpE_br rfl rfl (fun K hK => ?_) ?_
          · go_simp
            refine (HB1.out _).mono ?_
            rintro e u52 ⟨a5, n5, c5, d5, m5, k5, a6, n6, c6, d6, m6, k6, rfl, hs5, ht5, hs6, ht6, hx⟩
            refine hK.out _ _ (Below.mono hx hlo) ?_
            clear hK K
            try simp only [PU]
            replace hlo := Nat.le_trans hlo hx.size
            replace fa_ := q1f hx fa_ ba_
            replace ba_ := q1b hx ba_
            replace hp3 := hp3.ext hx
            replace HC := HC.trans hx
            replace HCut := HCut.trans hx
            replace HE := HE.trans hx
            clear hx
            have hp5 : Sp4 _ _ _ _ _ _ _ _ _ _ _ _ _ _ _ := ⟨hs5, ht5, hs6, ht6⟩
            clear hs5 ht5 hs6 ht6
            refine wpE_l rfl rfl (fun K hK => ?_)
            go_simp
            refine hK.out _ _ ((Below.refl _ _).alloc hlo _) ?_
            clear hK K
            try simp only [PU]
            have geb_ := hlo
            have la_b_ := ba_.lt (Nat.succ_pos _)
            have l0b_ := HE.size
            have lHCb_ := HC.size
            refine absE (fun x83 hx83 => ?_)
            have hx : Ext u52 x83 := by rw [hx83]; exact ((Ext.refl _).alloc _)
            have bb_ : Bl x83 (u52.heap.size) #[.bool false, .slice none 0 0, .slice none 0 0, .bool false, .slice none 0 0, .slice none 0 0] := by rw [hx83]; exact (Bl.new (by simp))
            have fb_ : Fz x83 (u52.heap.size) := by rw [hx83]; exact (Fz.new (by simp))
            replace hlo := Nat.le_trans hlo hx.size
            replace fa_ := q1f hx fa_ ba_
            replace ba_ := q1b hx ba_
            replace hp3 := hp3.ext hx
            replace hp5 := hp5.ext hx
            replace HC := HC.trans hx
            replace HCut := HCut.trans hx
            replace HE := HE.trans hx
            clear hx
            clear hx83
            refine wpE_l rfl rfl (fun K hK => ?_)
            go_simp
            have hle : wr.heap.size ≤ u51.heap.size := by omega
            refine hK.out _ _ (((((((Below.refl _ _).setCell hle _).setCell hle _).setCell hle _).setCell hle _).setCell hle _).setCell hle _) ?_
            clear hK K hle
            try simp only [PU]
            refine absE (fun x84 hx84 => ?_)
            have hbut : But x83 x84 (u51.heap.size) := by rw [hx84]; exact (But.refl _ _).store.store.store.store.store.store
            have hbn : Bl x84 (u51.heap.size) #[.bool (decide (q1.num < 0)), .slice a3 n3 c3, .slice d3 m3 k3, .bool (decide (q2.num < 0)), .slice a4 n4 c4, .slice d4 m4 k4] := by rw [hx84]; exact (Bl.set (Bl.set (Bl.set (Bl.set (Bl.set (Bl.set ba_ (by simp)) (by simp)) (by simp)) (by simp)) (by simp)) (by simp))
            have hni : ∀ (j : Nat) (x : Int), (#[.bool false, .slice none 0 0, .slice none 0 0, .bool false, .slice none 0 0, .slice none 0 0] : Array Value)[j]? ≠ some (Value.int .u32 x) := (not_ints6 nb_bool nb_slice nb_slice nb_bool nb_slice nb_slice)
            replace hp3 := hp3.but ba_ hni hbut
            replace hp5 := hp5.but ba_ hni hbut
            clear hni
            replace fb_ := But.fz hbut fb_ bb_ (Nat.succ_pos _) (by omega)
            replace bb_ := But.bl hbut bb_ (Nat.succ_pos _) (by omega)
            replace fa_ : Fz x84 (u51.heap.size) := by rw [hx84]; exact (Fz.set (Fz.set (Fz.set (Fz.set (Fz.set (Fz.set fa_))))))
            have hle : w.heap.size ≤ u51.heap.size := by omega
            replace HE : Ext w x84 := by rw [hx84]; exact ((((((HE.store hle _).store hle _).store hle _).store hle _).store hle _).store hle _)
            clear hle
            have hle : u93q.heap.size ≤ u51.heap.size := by omega
            replace HC : Ext u93q x84 := by rw [hx84]; exact ((((((HC.store hle _).store hle _).store hle _).store hle _).store hle _).store hle _)
            clear hle
            have hle : wr.heap.size ≤ u51.heap.size := by omega
            replace HCut : Ext wr x84 := by rw [hx84]; exact ((((((HCut.store hle _).store hle _).store hle _).store hle _).store hle _).store hle _)
            clear hle
            replace hlo : wr.heap.size ≤ x84.heap.size := Nat.le_trans hlo hbut.1
            clear ba_ hbut hx84
            have ba_ := hbn
            clear hbn
            refine wpE_b rfl rfl (fun K hK => ?_)
            go_simp
            refine hK.out _ _ ?_
            clear hK K
            try simp only [PU]
            refine absE (fun x85 hx85 => ?_)
            have hbut : But x84 x85 (u52.heap.size) := by rw [hx85]; exact (But.refl _ _).store.store.store.store.store.store
            have hbn : Bl x85 (u52.heap.size) #[.bool (decide (q3.num < 0)), .slice a5 n5 c5, .slice d5 m5 k5, .bool (decide (q4.num < 0)), .slice a6 n6 c6, .slice d6 m6 k6] := by rw [hx85]; exact (Bl.set (Bl.set (Bl.set (Bl.set (Bl.set (Bl.set bb_ (by simp)) (by simp)) (by simp)) (by simp)) (by simp)) (by simp))
            have hni : ∀ (j : Nat) (x : Int), (#[.bool false, .slice none 0 0, .slice none 0 0, .bool false, .slice none 0 0, .slice none 0 0] : Array Value)[j]? ≠ some (Value.int .u32 x) := (not_ints6 nb_bool nb_slice nb_slice nb_bool nb_slice nb_slice)
            replace hp3 := hp3.but bb_ hni hbut
            replace hp5 := hp5.but bb_ hni hbut
            clear hni
            replace fa_ := But.fz hbut fa_ ba_ (Nat.succ_pos _) (by omega)
            replace ba_ := But.bl hbut ba_ (Nat.succ_pos _) (by omega)
            replace fb_ : Fz x85 (u52.heap.size) := by rw [hx85]; exact (Fz.set (Fz.set (Fz.set (Fz.set (Fz.set (Fz.set fb_))))))
            have hle : w.heap.size ≤ u52.heap.size := by omega
            replace HE : Ext w x85 := by rw [hx85]; exact ((((((HE.store hle _).store hle _).store hle _).store hle _).store hle _).store hle _)
            clear hle
            have hle : u93q.heap.size ≤ u52.heap.size := by omega
            replace HC : Ext u93q x85 := by rw [hx85]; exact ((((((HC.store hle _).store hle _).store hle _).store hle _).store hle _).store hle _)
            clear hle
            have hle : wr.heap.size ≤ u52.heap.size := by omega
            replace HCut : Ext wr x85 := by rw [hx85]; exact ((((((HCut.store hle _).store hle _).store hle _).store hle _).store hle _).store hle _)
            clear hle
            replace hlo : wr.heap.size ≤ x85.heap.size := Nat.le_trans hlo hbut.1
            clear bb_ hbut hx85
            have bb_ := hbn
            clear hbn
            refine wpE_done ?_
            clear hlo
            go_wp2_with fail
            go_meet
            exact ⟨u51.heap.size, u52.heap.size, a3, d3, a4, d4, a5, d5, a6, d6, n3, c3, m3, k3, n4, c4, m4, k4, n5, c5, m5, k5, n6, c6, m6, k6, rfl, rfl, gea_, geb_, ba_, bb_, hp3.1, hp3.2.1, hp3.2.2.1, hp3.2.2.2, hp5.1, hp5.2.1, hp5.2.2.1, hp5.2.2.2, HCut⟩
          refine wpE_l rfl rfl (fun K hK => ?_)
          go_simp
          refine hK.out _ _ ((Below.refl _ _).alloc hlo _) ?_
          clear hK K
          try simp only [PU]
          have geb_ := hlo
          have la_b_ := ba_.lt (Nat.succ_pos _)
          have l0b_ := HE.size
          have lHCb_ := HC.size
          refine absE (fun x83 hx83 => ?_)
          have hx : Ext x82 x83 := by rw [hx83]; exact ((Ext.refl _).alloc _)
          have bb_ : Bl x83 (x82.heap.size) #[.bool false, .slice none 0 0, .slice none 0 0, .bool false, .slice none 0 0, .slice none 0 0] := by rw [hx83]; exact (Bl.new (by simp))
          have fb_ : Fz x83 (x82.heap.size) := by rw [hx83]; exact (Fz.new (by simp))
          replace hlo := Nat.le_trans hlo hx.size
          replace fa_ := q1f hx fa_ ba_
          replace ba_ := q1b hx ba_
          replace hp3 := hp3.ext hx
          replace HC := HC.trans hx
          replace HCut := HCut.trans hx
          replace HE := HE.trans hx
          clear hx
          clear hx83
          refine wpE_l rfl rfl (fun K hK => ?_)
          go_simp
          refine (HB1.out _).mono ?_
          rintro e u52 ⟨a5, n5, c5, d5, m5, k5, a6, n6, c6, d6, m6, k6, rfl, hs5, ht5, hs6, ht6, hx⟩
          refine hK.out _ _ (Below.mono hx hlo) ?_
          clear hK K
          try simp only [PU]
          replace hlo := Nat.le_trans hlo hx.size
          replace fa_ := q1f hx fa_ ba_
          replace ba_ := q1b hx ba_
          replace fb_ := q1f hx fb_ bb_
          replace bb_ := q1b hx bb_
          replace hp3 := hp3.ext hx
          replace HC := HC.trans hx
          replace HCut := HCut.trans hx
          replace HE := HE.trans hx
          clear hx
          have hp5 : Sp4 _ _ _ _ _ _ _ _ _ _ _ _ _ _ _ := ⟨hs5, ht5, hs6, ht6⟩
          clear hs5 ht5 hs6 ht6
          refine wpE_l rfl rfl (fun K hK => ?_)
          go_simp
          have hle : wr.heap.size ≤ u51.heap.size := by omega
          refine hK.out _ _ (((((((Below.refl _ _).setCell hle _).setCell hle _).setCell hle _).setCell hle _).setCell hle _).setCell hle _) ?_
          clear hK K hle
          try simp only [PU]
          refine absE (fun x84 hx84 => ?_)
          have hbut : But u52 x84 (u51.heap.size) := by rw [hx84]; exact (But.refl _ _).store.store.store.store.store.store
          have hbn : Bl x84 (u51.heap.size) #[.bool (decide (q1.num < 0)), .slice a3 n3 c3, .slice d3 m3 k3, .bool (decide (q2.num < 0)), .slice a4 n4 c4, .slice d4 m4 k4] := by rw [hx84]; exact (Bl.set (Bl.set (Bl.set (Bl.set (Bl.set (Bl.set ba_ (by simp)) (by simp)) (by simp)) (by simp)) (by simp)) (by simp))
          have hni : ∀ (j : Nat) (x : Int), (#[.bool false, .slice none 0 0, .slice none 0 0, .bool false, .slice none 0 0, .slice none 0 0] : Array Value)[j]? ≠ some (Value.int .u32 x) := (not_ints6 nb_bool nb_slice nb_slice nb_bool nb_slice nb_slice)
          replace hp3 := hp3.but ba_ hni hbut
          replace hp5 := hp5.but ba_ hni hbut
          clear hni
          replace fb_ := But.fz hbut fb_ bb_ (Nat.succ_pos _) (by omega)
          replace bb_ := But.bl hbut bb_ (Nat.succ_pos _) (by omega)
          replace fa_ : Fz x84 (u51.heap.size) := by rw [hx84]; exact (Fz.set (Fz.set (Fz.set (Fz.set (Fz.set (Fz.set fa_))))))
          have hle : w.heap.size ≤ u51.heap.size := by omega
          replace HE : Ext w x84 := by rw [hx84]; exact ((((((HE.store hle _).store hle _).store hle _).store hle _).store hle _).store hle _)
          clear hle
          have hle : u93q.heap.size ≤ u51.heap.size := by omega
          replace HC : Ext u93q x84 := by rw [hx84]; exact ((((((HC.store hle _).store hle _).store hle _).store hle _).store hle _).store hle _)
          clear hle
          have hle : wr.heap.size ≤ u51.heap.size := by omega
          replace HCut : Ext wr x84 := by rw [hx84]; exact ((((((HCut.store hle _).store hle _).store hle _).store hle _).store hle _).store hle _)
          clear hle
          replace hlo : wr.heap.size ≤ x84.heap.size := Nat.le_trans hlo hbut.1
          clear ba_ hbut hx84
          have ba_ := hbn
          clear hbn
          refine wpE_b rfl rfl (fun K hK => ?_)
          go_simp
          refine hK.out _ _ ?_
          clear hK K
          try simp only [PU]
          refine absE (fun x85 hx85 => ?_)
          have hbut : But x84 x85 (x82.heap.size) := by rw [hx85]; exact (But.refl _ _).store.store.store.store.store.store
          have hbn : Bl x85 (x82.heap.size) #[.bool (decide (q3.num < 0)), .slice a5 n5 c5, .slice d5 m5 k5, .bool (decide (q4.num < 0)), .slice a6 n6 c6, .slice d6 m6 k6] := by rw [hx85]; exact (Bl.set (Bl.set (Bl.set (Bl.set (Bl.set (Bl.set bb_ (by simp)) (by simp)) (by simp)) (by simp)) (by simp)) (by simp))
          have hni : ∀ (j : Nat) (x : Int), (#[.bool false, .slice none 0 0, .slice none 0 0, .bool false, .slice none 0 0, .slice none 0 0] : Array Value)[j]? ≠ some (Value.int .u32 x) := (not_ints6 nb_bool nb_slice nb_slice nb_bool nb_slice nb_slice)
          replace hp3 := hp3.but bb_ hni hbut
          replace hp5 := hp5.but bb_ hni hbut
          clear hni
          replace fa_ := But.fz hbut fa_ ba_ (Nat.succ_pos _) (by omega)
          replace ba_ := But.bl hbut ba_ (Nat.succ_pos _) (by omega)
          replace fb_ : Fz x85 (x82.heap.size) := by rw [hx85]; exact (Fz.set (Fz.set (Fz.set (Fz.set (Fz.set (Fz.set fb_))))))
          have hle : w.heap.size ≤ x82.heap.size := by omega
          replace HE : Ext w x85 := by rw [hx85]; exact ((((((HE.store hle _).store hle _).store hle _).store hle _).store hle _).store hle _)
          clear hle
          have hle : u93q.heap.size ≤ x82.heap.size := by omega
          replace HC : Ext u93q x85 := by rw [hx85]; exact ((((((HC.store hle _).store hle _).store hle _).store hle _).store hle _).store hle _)
          clear hle
          have hle : wr.heap.size ≤ x82.heap.size := by omega
          replace HCut : Ext wr x85 := by rw [hx85]; exact ((((((HCut.store hle _).store hle _).store hle _).store hle _).store hle _).store hle _)
          clear hle
          replace hlo : wr.heap.size ≤ x85.heap.size := Nat.le_trans hlo hbut.1
          clear bb_ hbut hx85
          have bb_ := hbn
          clear hbn
          refine wpE_done ?_
          clear hlo
          go_wp2_with fail
          go_meet
          exact ⟨u51.heap.size, x82.heap.size, a3, d3, a4, d4, a5, d5, a6, d6, n3, c3, m3, k3, n4, c4, m4, k4, n5, c5, m5, k5, n6, c6, m6, k6, rfl, rfl, gea_, geb_, ba_, bb_, hp3.1, hp3.2.1, hp3.2.2.1, hp3.2.2.2, hp5.1, hp5.2.1, hp5.2.2.1, hp5.2.2.2, HCut⟩
        refine wpE_l rfl rfl (fun K hK => ?_)
        go_simp
        refine hK.out _ _ ((Below.refl _ _).alloc hlo _) ?_
        clear hK K
        try simp only [PU]
        have geb_ := hlo
        have l0b_ := HE.size
        have lHCb_ := HC.size
        refine absE (fun x82 hx82 => ?_)
        have hx : Ext u51 x82 := by rw [hx82]; exact ((Ext.refl _).alloc _)
        have bb_ : Bl x82 (u51.heap.size) #[.bool false, .slice none 0 0, .slice none 0 0, .bool false, .slice none 0 0, .slice none 0 0] := by rw [hx82]; exact (Bl.new (by simp))
        have fb_ : Fz x82 (u51.heap.size) := by rw [hx82]; exact (Fz.new (by simp))
        replace hlo := Nat.le_trans hlo hx.size
        replace hp3 := hp3.ext hx
        replace HC := HC.trans hx
        replace HCut := HCut.trans hx
        replace HE := HE.trans hx
        clear hx
        clear hx82
        refine wpE_br rfl rfl (fun K hK => ?_) ?_
        · go_simp
          refine (HB1.out _).mono ?_
          rintro e u52 ⟨a5, n5, c5, d5, m5, k5, a6, n6, c6, d6, m6, k6, rfl, hs5, ht5, hs6, ht6, hx⟩
          refine hK.out _ _ (Below.mono hx hlo) ?_
          clear hK K
          try simp only [PU]
          replace hlo := Nat.le_trans hlo hx.size
          replace fb_ := q1f hx fb_ bb_
          replace bb_ := q1b hx bb_
          replace hp3 := hp3.ext hx
          replace HC := HC.trans hx
          replace HCut := HCut.trans hx
          replace HE := HE.trans hx
          clear hx
          have hp5 : Sp4 _ _ _ _ _ _ _ _ _ _ _ _ _ _ _ := ⟨hs5, ht5, hs6, ht6⟩
          clear hs5 ht5 hs6 ht6
          refine wpE_l rfl rfl (fun K hK => ?_)
          go_simp
          refine hK.out _ _ ((Below.refl _ _).alloc hlo _) ?_
          clear hK K
          try simp only [PU]
          have gea_ := hlo
          have lb_a_ := bb_.lt (Nat.succ_pos _)
          have l0a_ := HE.size
          have lHCa_ := HC.size
          refine absE (fun x83 hx83 => ?_)
          have hx : Ext u52 x83 := by rw [hx83]; exact ((Ext.refl _).alloc _)
          have ba_ : Bl x83 (u52.heap.size) #[.bool false, .slice none 0 0, .slice none 0 0, .bool false, .slice none 0 0, .slice none 0 0] := by rw [hx83]; exact (Bl.new (by simp))
          have fa_ : Fz x83 (u52.heap.size) := by rw [hx83]; exact (Fz.new (by simp))
          replace hlo := Nat.le_trans hlo hx.size
          replace fb_ := q1f hx fb_ bb_
          replace bb_ := q1b hx bb_
          replace hp3 := hp3.ext hx
          replace hp5 := hp5.ext hx
          replace HC := HC.trans hx
          replace HCut := HCut.trans hx
          replace HE := HE.trans hx
          clear hx
          clear hx83
          refine wpE_l rfl rfl (fun K hK => ?_)
          go_simp
          have hle : wr.heap.size ≤ u52.heap.size := by omega
          refine hK.out _ _ (((((((Below.refl _ _).setCell hle _).setCell hle _).setCell hle _).setCell hle _).setCell hle _).setCell hle _) ?_
          clear hK K hle
          try simp only [PU]
          refine absE (fun x84 hx84 => ?_)
          have hbut : But x83 x84 (u52.heap.size) := by rw [hx84]; exact (But.refl _ _).store.store.store.store.store.store
          have hbn : Bl x84 (u52.heap.size) #[.bool (decide (q1.num < 0)), .slice a3 n3 c3, .slice d3 m3 k3, .bool (decide (q2.num < 0)), .slice a4 n4 c4, .slice d4 m4 k4] := by rw [hx84]; exact (Bl.set (Bl.set (Bl.set (Bl.set (Bl.set (Bl.set ba_ (by simp)) (by simp)) (by simp)) (by simp)) (by simp)) (by simp))
          have hni : ∀ (j : Nat) (x : Int), (#[.bool false, .slice none 0 0, .slice none 0 0, .bool false, .slice none 0 0, .slice none 0 0] : Array Value)[j]? ≠ some (Value.int .u32 x) := (not_ints6 nb_bool nb_slice nb_slice nb_bool nb_slice nb_slice)
          replace hp3 := hp3.but ba_ hni hbut
          replace hp5 := hp5.but ba_ hni hbut
          clear hni
          replace fb_ := But.fz hbut fb_ bb_ (Nat.succ_pos _) (by omega)
          replace bb_ := But.bl hbut bb_ (Nat.succ_pos _) (by omega)
          replace fa_ : Fz x84 (u52.heap.size) := by rw [hx84]; exact (Fz.set (Fz.set (Fz.set (Fz.set (Fz.set (Fz.set fa_))))))
          have hle : w.heap.size ≤ u52.heap.size := by omega
          replace HE : Ext w x84 := by rw [hx84]; exact ((((((HE.store hle _).store hle _).store hle _).store hle _).store hle _).store hle _)
          clear hle
          have hle : u93q.heap.size ≤ u52.heap.size := by omega
          replace HC : Ext u93q x84 := by rw [hx84]; exact ((((((HC.store hle _).store hle _).store hle _).store hle _).store hle _).store hle _)
          clear hle
          have hle : wr.heap.size ≤ u52.heap.size := by omega
          replace HCut : Ext wr x84 := by rw [hx84]; exact ((((((HCut.store hle _).store hle _).store hle _).store hle _).store hle _).store hle _)
          clear hle
          replace hlo : wr.heap.size ≤ x84.heap.size := Nat.le_trans hlo hbut.1
          clear ba_ hbut hx84
          have ba_ := hbn
          clear hbn
          refine wpE_b rfl rfl (fun K hK => ?_)
          go_simp
          refine hK.out _ _ ?_
          clear hK K
          try simp only [PU]
          refine absE (fun x85 hx85 => ?_)
          have hbut : But x84 x85 (u51.heap.size) := by rw [hx85]; exact (But.refl _ _).store.store.store.store.store.store
          have hbn : Bl x85 (u51.heap.size) #[.bool (decide (q3.num < 0)), .slice a5 n5 c5, .slice d5 m5 k5, .bool (decide (q4.num < 0)), .slice a6 n6 c6, .slice d6 m6 k6] := by rw [hx85]; exact (Bl.set (Bl.set (Bl.set (Bl.set (Bl.set (Bl.set bb_ (by simp)) (by simp)) (by simp)) (by simp)) (by simp)) (by simp))
          have hni : ∀ (j : Nat) (x : Int), (#[.bool false, .slice none 0 0, .slice none 0 0, .bool false, .slice none 0 0, .slice none 0 0] : Array Value)[j]? ≠ some (Value.int .u32 x) := (not_ints6 nb_bool nb_slice nb_slice nb_bool nb_slice nb_slice)
          replace hp3 := hp3.but bb_ hni hbut
          replace hp5 := hp5.but bb_ hni hbut
          clear hni
          replace fa_ := But.fz hbut fa_ ba_ (Nat.succ_pos _) (by omega)
          replace ba_ := But.bl hbut ba_ (Nat.succ_pos _) (by omega)
          replace fb_ : Fz x85 (u51.heap.size) := by rw [hx85]; exact (Fz.set (Fz.set (Fz.set (Fz.set (Fz.set (Fz.set fb_))))))
          have hle : w.heap.size ≤ u51.heap.size := by omega
          replace HE : Ext w x85 := by rw [hx85]; exact ((((((HE.store hle _).store hle _).store hle _).store hle _).store hle _).store hle _)
          clear hle
          have hle : u93q.heap.size ≤ u51.heap.size := by omega
          replace HC : Ext u93q x85 := by rw [hx85]; exact ((((((HC.store hle _).store hle _).store hle _).store hle _).store hle _).store hle _)
          clear hle
          have hle : wr.heap.size ≤ u51.heap.size := by omega
          replace HCut : Ext wr x85 := by rw [hx85]; exact ((((((HCut.store hle _).store hle _).store hle _).store hle _).store hle _).store hle _)
          clear hle
          replace hlo : wr.heap.size ≤ x85.heap.size := Nat.le_trans hlo hbut.1
          clear bb_ hbut hx85
          have bb_ := hbn
          clear hbn
          refine wpE_done ?_
          clear hlo
          go_wp2_with fail
          go_meet
          exact ⟨u52.heap.size, u51.heap.size, a3, d3, a4, d4, a5, d5, a6, d6, n3, c3, m3, k3, n4, c4, m4, k4, n5, c5, m5, k5, n6, c6, m6, k6, rfl, rfl, gea_, geb_, ba_, bb_, hp3.1, hp3.2.1, hp3.2.2.1, hp3.2.2.2, hp5.1, hp5.2.1, hp5.2.2.1, hp5.2.2.2, HCut⟩
        refine wpE_l rfl rfl (fun K hK => ?_)
        go_simp
        refine hK.out _ _ ((Below.refl _ _).alloc hlo _) ?_
        clear hK K
        try simp only [PU]
        have gea_ := hlo
        have lb_a_ := bb_.lt (Nat.succ_pos _)
        have l0a_ := HE.size
        have lHCa_ := HC.size
        refine absE (fun x83 hx83 => ?_)
        have hx : Ext x82 x83 := by rw [hx83]; exact ((Ext.refl _).alloc _)
        have ba_ : Bl x83 (x82.heap.size) #[.bool false, .slice none 0 0, .slice none 0 0, .bool false, .slice none 0 0, .slice none 0 0] := by rw [hx83]; exact (Bl.new (by simp))
        have fa_ : Fz x83 (x82.heap.size) := by rw [hx83]; exact (Fz.new (by simp))
        replace hlo := Nat.le_trans hlo hx.size
        replace fb_ := q1f hx fb_ bb_
        replace bb_ := q1b hx bb_
        replace hp3 := hp3.ext hx
        replace HC := HC.trans hx
        replace HCut := HCut.trans hx
        replace HE := HE.trans hx
        clear hx
        clear hx83
        refine wpE_l rfl rfl (fun K hK => ?_)
        go_simp
        refine (HB1.out _).mono ?_
        rintro e u52 ⟨a5, n5, c5, d5, m5, k5, a6, n6, c6, d6, m6, k6, rfl, hs5, ht5, hs6, ht6, hx⟩
        refine hK.out _ _ (Below.mono hx hlo) ?_
        clear hK K
        try simp only [PU]
        replace hlo := Nat.le_trans hlo hx.size
        replace fb_ := q1f hx fb_ bb_
        replace bb_ := q1b hx bb_
        replace fa_ := q1f hx fa_ ba_
        replace ba_ := q1b hx ba_
        replace hp3 := hp3.ext hx
        replace HC := HC.trans hx
        replace HCut := HCut.trans hx
        replace HE := HE.trans hx
        clear hx
        have hp5 : Sp4 _ _ _ _ _ _ _ _ _ _ _ _ _ _ _ := ⟨hs5, ht5, hs6, ht6⟩
        clear hs5 ht5 hs6 ht6
        refine wpE_l rfl rfl (fun K hK => ?_)
        go_simp
        have hle : wr.heap.size ≤ x82.heap.size := by omega
        refine hK.out _ _ (((((((Below.refl _ _).setCell hle _).setCell hle _).setCell hle _).setCell hle _).setCell hle _).setCell hle _) ?_
        clear hK K hle
        try simp only [PU]
        refine absE (fun x84 hx84 => ?_)
        have hbut : But u52 x84 (x82.heap.size) := by rw [hx84]; exact (But.refl _ _).store.store.store.store.store.store
        have hbn : Bl x84 (x82.heap.size) #[.bool (decide (q1.num < 0)), .slice a3 n3 c3, .slice d3 m3 k3, .bool (decide (q2.num < 0)), .slice a4 n4 c4, .slice d4 m4 k4] := by rw [hx84]; exact (Bl.set (Bl.set (Bl.set (Bl.set (Bl.set (Bl.set ba_ (by simp)) (by simp)) (by simp)) (by simp)) (by simp)) (by simp))
        have hni : ∀ (j : Nat) (x : Int), (#[.bool false, .slice none 0 0, .slice none 0 0, .bool false, .slice none 0 0, .slice none 0 0] : Array Value)[j]? ≠ some (Value.int .u32 x) := (not_ints6 nb_bool nb_slice nb_slice nb_bool nb_slice nb_slice)
        replace hp3 := hp3.but ba_ hni hbut
        replace hp5 := hp5.but ba_ hni hbut
        clear hni
        replace fb_ := But.fz hbut fb_ bb_ (Nat.succ_pos _) (by omega)
        replace bb_ := But.bl hbut bb_ (Nat.succ_pos _) (by omega)
        replace fa_ : Fz x84 (x82.heap.size) := by rw [hx84]; exact (Fz.set (Fz.set (Fz.set (Fz.set (Fz.set (Fz.set fa_))))))
        have hle : w.heap.size ≤ x82.heap.size := by omega
        replace HE : Ext w x84 := by rw [hx84]; exact ((((((HE.store hle _).store hle _).store hle _).store hle _).store hle _).store hle _)
        clear hle
        have hle : u93q.heap.size ≤ x82.heap.size := by omega
        replace HC : Ext u93q x84 := by rw [hx84]; exact ((((((HC.store hle _).store hle _).store hle _).store hle _).store hle _).store hle _)
        clear hle
        have hle : wr.heap.size ≤ x82.heap.size := by omega
        replace HCut : Ext wr x84 := by rw [hx84]; exact ((((((HCut.store hle _).store hle _).store hle _).store hle _).store hle _).store hle _)
        clear hle
        replace hlo : wr.heap.size ≤ x84.heap.size := Nat.le_trans hlo hbut.1
        clear ba_ hbut hx84
        have ba_ := hbn
        clear hbn
        refine wpE_b rfl rfl (fun K hK => ?_)
        go_simp
        refine hK.out _ _ ?_
        clear hK K
        try simp only [PU]
        refine absE (fun x85 hx85 => ?_)
        have hbut : But x84 x85 (u51.heap.size) := by rw [hx85]; exact (But.refl _ _).store.store.store.store.store.store
        have hbn : Bl x85 (u51.heap.size) #[.bool (decide (q3.num < 0)), .slice a5 n5 c5, .slice d5 m5 k5, .bool (decide (q4.num < 0)), .slice a6 n6 c6, .slice d6 m6 k6] := by rw [hx85]; exact (Bl.set (Bl.set (Bl.set (Bl.set (Bl.set (Bl.set bb_ (by simp)) (by simp)) (by simp)) (by simp)) (by simp)) (by simp))
        have hni : ∀ (j : Nat) (x : Int), (#[.bool false, .slice none 0 0, .slice none 0 0, .bool false, .slice none 0 0, .slice none 0 0] : Array Value)[j]? ≠ some (Value.int .u32 x) := (not_ints6 nb_bool nb_slice nb_slice nb_bool nb_slice nb_slice)
        replace hp3 := hp3.but bb_ hni hbut
        replace hp5 := hp5.but bb_ hni hbut
        clear hni
        replace fa_ := But.fz hbut fa_ ba_ (Nat.succ_pos _) (by omega)
        replace ba_ := But.bl hbut ba_ (Nat.succ_pos _) (by omega)
        replace fb_ : Fz x85 (u51.heap.size) := by rw [hx85]; exact (Fz.set (Fz.set (Fz.set (Fz.set (Fz.set (Fz.set fb_))))))
        have hle : w.heap.size ≤ u51.heap.size := by omega
        replace HE : Ext w x85 := by rw [hx85]; exact ((((((HE.store hle _).store hle _).store hle _).store hle _).store hle _).store hle _)
        clear hle
        have hle : u93q.heap.size ≤ u51.heap.size := by omega
        replace HC : Ext u93q x85 := by rw [hx85]; exact ((((((HC.store hle _).store hle _).store hle _).store hle _).store hle _).store hle _)
        clear hle
        have hle : wr.heap.size ≤ u51.heap.size := by omega
        replace HCut : Ext wr x85 := by rw [hx85]; exact ((((((HCut.store hle _).store hle _).store hle _).store hle _).store hle _).store hle _)
        clear hle
        replace hlo : wr.heap.size ≤ x85.heap.size := Nat.le_trans hlo hbut.1
        clear bb_ hbut hx85
        have bb_ := hbn
        clear hbn
        refine wpE_done ?_
        clear hlo
        go_wp2_with fail
        go_meet
        exact ⟨x82.heap.size, u51.heap.size, a3, d3, a4, d4, a5, d5, a6, d6, n3, c3, m3, k3, n4, c4, m4, k4, n5, c5, m5, k5, n6, c6, m6, k6, rfl, rfl, gea_, geb_, ba_, bb_, hp3.1, hp3.2.1, hp3.2.2.1, hp3.2.2.2, hp5.1, hp5.2.1, hp5.2.2.1, hp5.2.2.2, HCut⟩
      refine wpE_br rfl rfl (fun K hK => ?_) ?_
      · go_simp
        refine hK.out _ _ ((Below.refl _ _).alloc hlo _) ?_
        clear hK K
        try simp only [PU]
        have gea_ := hlo
        have l0a_ := HE.size
        have lHCa_ := HC.size
        refine absE (fun x82 hx82 => ?_)
        have hx : Ext x81 x82 := by rw [hx82]; exact ((Ext.refl _).alloc _)
        have ba_ : Bl x82 (x81.heap.size) #[.bool false, .slice none 0 0, .slice none 0 0, .bool false, .slice none 0 0, .slice none 0 0] := by rw [hx82]; exact (Bl.new (by simp))
        have fa_ : Fz x82 (x81.heap.size) := by rw [hx82]; exact (Fz.new (by simp))
        replace hlo := Nat.le_trans hlo hx.size
        replace HC := HC.trans hx
        replace HCut := HCut.trans hx
        replace HE := HE.trans hx
        clear hx
        clear hx82
        refine wpE_br rfl rfl (fun K hK => ?_) ?_
        · go_simp
          refine (HA1.out _).mono ?_
          rintro e u51 ⟨a3, n3, c3, d3, m3, k3, a4, n4, c4, d4, m4, k4, rfl, hs3, ht3, hs4, ht4, hx⟩
          refine hK.out _ _ (Below.mono hx hlo) ?_
          clear hK K
          try simp only [PU]
          replace hlo := Nat.le_trans hlo hx.size
          replace fa_ := q1f hx fa_ ba_
          replace ba_ := q1b hx ba_
          replace HC := HC.trans hx
          replace HCut := HCut.trans hx
          replace HE := HE.trans hx
          clear hx
          have hp3 : Sp4 _ _ _ _ _ _ _ _ _ _ _ _ _ _ _ := ⟨hs3, ht3, hs4, ht4⟩
          clear hs3 ht3 hs4 ht4
          refine wpE_br rfl rfl (fun K hK => ?_) ?_
          · go_simp
            refine (HB1.out _).mono ?_
            rintro e u52 ⟨a5, n5, c5, d5, m5, k5, a6, n6, c6, d6, m6, k6, rfl, hs5, ht5, hs6, ht6, hx⟩
            refine hK.out _ _ (Below.mono hx hlo) ?_
            clear hK K
            try simp only [PU]
            replace hlo := Nat.le_trans hlo hx.size
            replace fa_ := q1f hx fa_ ba_
            replace ba_ := q1b hx ba_
            replace hp3 := hp3.ext hx
            replace HC := HC.trans hx
            replace HCut := HCut.trans hx
            replace HE := HE.trans hx
            clear hx
            have hp5 : Sp4 _ _ _ _ _ _ _ _ _ _ _ _ _ _ _ := ⟨hs5, ht5, hs6, ht6⟩
            clear hs5 ht5 hs6 ht6
            refine wpE_l rfl rfl (fun K hK => ?_)
            go_simp
            refine hK.out _ _ ((Below.refl _ _).alloc hlo _) ?_
            clear hK K
            try simp only [PU]
            have geb_ := hlo
            have la_b_ := ba_.lt (Nat.succ_pos _)
            have l0b_ := HE.size
            have lHCb_ := HC.size
            refine absE (fun x83 hx83 => ?_)
            have hx : Ext u52 x83 := by rw [hx83]; exact ((Ext.refl _).alloc _)
            have bb_ : Bl x83 (u52.heap.size) #[.bool false, .slice none 0 0, .slice none 0 0, .bool false, .slice none 0 0, .slice none 0 0] := by rw [hx83]; exact (Bl.new (by simp))
            have fb_ : Fz x83 (u52.heap.size) := by rw [hx83]; exact (Fz.new (by simp))
            replace hlo := Nat.le_trans hlo hx.size
            replace fa_ := q1f hx fa_ ba_
            replace ba_ := q1b hx ba_
            replace hp3 := hp3.ext hx
            replace hp5 := hp5.ext hx
            replace HC := HC.trans hx
            replace HCut := HCut.trans hx
            replace HE := HE.trans hx
            clear hx
            clear hx83
            refine wpE_l rfl rfl (fun K hK => ?_)
            go_simp
            have hle : wr.heap.size ≤ x81.heap.size := by omega
            refine hK.out _ _ (((((((Below.refl _ _).setCell hle _).setCell hle _).setCell hle _).setCell hle _).setCell hle _).setCell hle _) ?_
            clear hK K hle
            try simp only [PU]
            refine absE (fun x84 hx84 => ?_)
            have hbut : But x83 x84 (x81.heap.size) := by rw [hx84]; exact (But.refl _ _).store.store.store.store.store.store
            have hbn : Bl x84 (x81.heap.size) #[.bool (decide (q1.num < 0)), .slice a3 n3 c3, .slice d3 m3 k3, .bool (decide (q2.num < 0)), .slice a4 n4 c4, .slice d4 m4 k4] := by rw [hx84]; exact (Bl.set (Bl.set (Bl.set (Bl.set (Bl.set (Bl.set ba_ (by simp)) (by simp)) (by simp)) (by simp)) (by simp)) (by simp))
            have hni : ∀ (j : Nat) (x : Int), (#[.bool false, .slice none 0 0, .slice none 0 0, .bool false, .slice none 0 0, .slice none 0 0] : Array Value)[j]? ≠ some (Value.int .u32 x) := (not_ints6 nb_bool nb_slice nb_slice nb_bool nb_slice nb_slice)
            replace hp3 := hp3.but ba_ hni hbut
            replace hp5 := hp5.but ba_ hni hbut
            clear hni
            replace fb_ := But.fz hbut fb_ bb_ (Nat.succ_pos _) (by omega)
            replace bb_ := But.bl hbut bb_ (Nat.succ_pos _) (by omega)
            replace fa_ : Fz x84 (x81.heap.size) := by rw [hx84]; exact (Fz.set (Fz.set (Fz.set (Fz.set (Fz.set (Fz.set fa_))))))
            have hle : w.heap.size ≤ x81.heap.size := by omega
            replace HE : Ext w x84 := by rw [hx84]; exact ((((((HE.store hle _).store hle _).store hle _).store hle _).store hle _).store hle _)
            clear hle
            have hle : u93q.heap.size ≤ x81.heap.size := by omega
            replace HC : Ext u93q x84 := by rw [hx84]; exact ((((((HC.store hle _).store hle _).store hle _).store hle _).store hle _).store hle _)
            clear hle
            have hle : wr.heap.size ≤ x81.heap.size := by omega
            replace HCut : Ext wr x84 := by rw [hx84]; exact ((((((HCut.store hle _).store hle _).store hle _).store hle _).store hle _).store hle _)
            clear hle
            replace hlo : wr.heap.size ≤ x84.heap.size := Nat.le_trans hlo hbut.1
            clear ba_ hbut hx84
            have ba_ := hbn
            clear hbn
            refine wpE_b rfl rfl (fun K hK => ?_)
            go_simp
            refine hK.out _ _ ?_
            clear hK K
            try simp only [PU]
            refine absE (fun x85 hx85 => ?_)
            have hbut : But x84 x85 (u52.heap.size) := by rw [hx85]; exact (But.refl _ _).store.store.store.store.store.store
            have hbn : Bl x85 (u52.heap.size) #[.bool (decide (q3.num < 0)), .slice a5 n5 c5, .slice d5 m5 k5, .bool (decide (q4.num < 0)), .slice a6 n6 c6, .slice d6 m6 k6] := by rw [hx85]; exact (Bl.set (Bl.set (Bl.set (Bl.set (Bl.set (Bl.set bb_ (by simp)) (by simp)) (by simp)) (by simp)) (by simp)) (by simp))
            have hni : ∀ (j : Nat) (x : Int), (#[.bool false, .slice none 0 0, .slice none 0 0, .bool false, .slice none 0 0, .slice none 0 0] : Array Value)[j]? ≠ some (Value.int .u32 x) := (not_ints6 nb_bool nb_slice nb_slice nb_bool nb_slice nb_slice)
            replace hp3 := hp3.but bb_ hni hbut
            replace hp5 := hp5.but bb_ hni hbut
            clear hni
            replace fa_ := But.fz hbut fa_ ba_ (Nat.succ_pos _) (by omega)
            replace ba_ := But.bl hbut ba_ (Nat.succ_pos _) (by omega)
            replace fb_ : Fz x85 (u52.heap.size) := by rw [hx85]; exact (Fz.set (Fz.set (Fz.set (Fz.set (Fz.set (Fz.set fb_))))))
            have hle : w.heap.size ≤ u52.heap.size := by omega
            replace HE : Ext w x85 := by rw [hx85]; exact ((((((HE.store hle _).store hle _).store hle _).store hle _).store hle _).store hle _)
            clear hle
            have hle : u93q.heap.size ≤ u52.heap.size := by omega
            replace HC : Ext u93q x85 := by rw [hx85]; exact ((((((HC.store hle _).store hle _).store hle _).store hle _).store hle _).store hle _)
            clear hle
            have hle : wr.heap.size ≤ u52.heap.size := by omega
            replace HCut : Ext wr x85 := by rw [hx85]; exact ((((((HCut.store hle _).store hle _).store hle _).store hle _).store hle _).store hle _)
            clear hle
            replace hlo : wr.heap.size ≤ x85.heap.size := Nat.le_trans hlo hbut.1
            clear bb_ hbut hx85
            have bb_ := hbn
            clear hbn
            refine wpE_done ?_
            clear hlo
            go_wp2_with fail
            go_meet
            exact ⟨x81.heap.size, u52.heap.size, a3, d3, a4, d4, a5, d5, a6, d6, n3, c3, m3, k3, n4, c4, m4, k4, n5, c5, m5, k5, n6, c6, m6, k6, rfl, rfl, gea_, geb_, ba_, bb_, hp3.1, hp3.2.1, hp3.2.2.1, hp3.2.2.2, hp5.1, hp5.2.1, hp5.2.2.1, hp5.2.2.2, HCut⟩
          refine wpE_l rfl rfl (fun K hK => ?_)
          go_simp
          refine hK.out _ _ ((Below.refl _ _).alloc hlo _) ?_
          clear hK K
          try simp only [PU]
          have geb_ := hlo
          have la_b_ := ba_.lt (Nat.succ_pos _)
          have l0b_ := HE.size
          have lHCb_ := HC.size
          refine absE (fun x83 hx83 => ?_)
          have hx : Ext u51 x83 := by rw [hx83]; exact ((Ext.refl _).alloc _)
          have bb_ : Bl x83 (u51.heap.size) #[.bool false, .slice none 0 0, .slice none 0 0, .bool false, .slice none 0 0, .slice none 0 0] := by rw [hx83]; exact (Bl.new (by simp))
          have fb_ : Fz x83 (u51.heap.size) := by rw [hx83]; exact (Fz.new (by simp))
          replace hlo := Nat.le_trans hlo hx.size
          replace fa_ := q1f hx fa_ ba_
          replace ba_ := q1b hx ba_
          replace hp3 := hp3.ext hx
          replace HC := HC.trans hx
          replace HCut := HCut.trans hx
          replace HE := HE.trans hx
          clear hx
          clear hx83
          refine wpE_l rfl rfl (fun K hK => ?_)
          go_simp
          refine (HB1.out _).mono ?_
          rintro e u52 ⟨a5, n5, c5, d5, m5, k5, a6, n6, c6, d6, m6, k6, rfl, hs5, ht5, hs6, ht6, hx⟩
          refine hK.out _ _ (Below.mono hx hlo) ?_
          clear hK K
          try simp only [PU]
          replace hlo := Nat.le_trans hlo hx.size
          replace fa_ := q1f hx fa_ ba_
          replace ba_ := q1b hx ba_
          replace fb_ := q1f hx fb_ bb_
          replace bb_ := q1b hx bb_
          replace hp3 := hp3.ext hx
          replace HC := HC.trans hx
          replace HCut := HCut.trans hx
          replace HE := HE.trans hx
          clear hx
          have hp5 : Sp4 _ _ _ _ _ _ _ _ _ _ _ _ _ _ _ := ⟨hs5, ht5, hs6, ht6⟩
          clear hs5 ht5 hs6 ht6
          refine wpE_l rfl rfl (fun K hK => ?_)
          go_simp
          have hle : wr.heap.size ≤ x81.heap.size := by omega
          refine hK.out _ _ (((((((Below.refl _ _).setCell hle _).setCell hle _).setCell hle _).setCell hle _).setCell hle _).setCell hle _) ?_
          clear hK K hle
          try simp only [PU]
          refine absE (fun x84 hx84 => ?_)
          have hbut : But u52 x84 (x81.heap.size) := by rw [hx84]; exact (But.refl _ _).store.store.store.store.store.store
          have hbn : Bl x84 (x81.heap.size) #[.bool (decide (q1.num < 0)), .slice a3 n3 c3, .slice d3 m3 k3, .bool (decide (q2.num < 0)), .slice a4 n4 c4, .slice d4 m4 k4] := by rw [hx84]; exact (Bl.set (Bl.set (Bl.set (Bl.set (Bl.set (Bl.set ba_ (by simp)) (by simp)) (by simp)) (by simp)) (by simp)) (by simp))
          have hni : ∀ (j : Nat) (x : Int), (#[.bool false, .slice none 0 0, .slice none 0 0, .bool false, .slice none 0 0, .slice none 0 0] : Array Value)[j]? ≠ some (Value.int .u32 x) := (not_ints6 nb_bool nb_slice nb_slice nb_bool nb_slice nb_slice)
          replace hp3 := hp3.but ba_ hni hbut
          replace hp5 := hp5.but ba_ hni hbut
          clear hni
          replace fb_ := But.fz hbut fb_ bb_ (Nat.succ_pos _) (by omega)
          replace bb_ := But.bl hbut bb_ (Nat.succ_pos _) (by omega)
          replace fa_ : Fz x84 (x81.heap.size) := by rw [hx84]; exact (Fz.set (Fz.set (Fz.set (Fz.set (Fz.set (Fz.set fa_))))))
          have hle : w.heap.size ≤ x81.heap.size := by omega
          replace HE : Ext w x84 := by rw [hx84]; exact ((((((HE.store hle _).store hle _).store hle _).store hle _).store hle _).store hle _)
          clear hle
          have hle : u93q.heap.size ≤ x81.heap.size := by omega
          replace HC : Ext u93q x84 := by rw [hx84]; exact ((((((HC.store hle _).store hle _).store hle _).store hle _).store hle _).store hle _)
          clear hle
          have hle : wr.heap.size ≤ x81.heap.size := by omega
          replace HCut : Ext wr x84 := by rw [hx84]; exact ((((((HCut.store hle _).store hle _).store hle _).store hle _).store hle _).store hle _)
          clear hle
          replace hlo : wr.heap.size ≤ x84.heap.size := Nat.le_trans hlo hbut.1
          clear ba_ hbut hx84
          have ba_ := hbn
          clear hbn
          refine wpE_b rfl rfl (fun K hK => ?_)
          go_simp
          refine hK.out _ _ ?_
          clear hK K
          try simp only [PU]
          refine absE (fun x85 hx85 => ?_)
          have hbut : But x84 x85 (u51.heap.size) := by rw [hx85]; exact (But.refl _ _).store.store.store.store.store.store
          have hbn : Bl x85 (u51.heap.size) #[.bool (decide (q3.num < 0)), .slice a5 n5 c5, .slice d5 m5 k5, .bool (decide (q4.num < 0)), .slice a6 n6 c6, .slice d6 m6 k6] := by rw [hx85]; exact (Bl.set (Bl.set (Bl.set (Bl.set (Bl.set (Bl.set bb_ (by simp)) (by simp)) (by simp)) (by simp)) (by simp)) (by simp))
          have hni : ∀ (j : Nat) (x : Int), (#[.bool false, .slice none 0 0, .slice none 0 0, .bool false, .slice none 0 0, .slice none 0 0] : Array Value)[j]? ≠ some (Value.int .u32 x) := (not_ints6 nb_bool nb_slice nb_slice nb_bool nb_slice nb_slice)
          replace hp3 := hp3.but bb_ hni hbut
          replace hp5 := hp5.but bb_ hni hbut
          clear hni
          replace fa_ := But.fz hbut fa_ ba_ (Nat.succ_pos _) (by omega)
          replace ba_ := But.bl hbut ba_ (Nat.succ_pos _) (by omega)
          replace fb_ : Fz x85 (u51.heap.size) := by rw [hx85]; exact (Fz.set (Fz.set (Fz.set (Fz.set (Fz.set (Fz.set fb_))))))
          have hle : w.heap.size ≤ u51.heap.size := by omega
          replace HE : Ext w x85 := by rw [hx85]; exact ((((((HE.store hle _).store hle _).store hle _).store hle _).store hle _).store hle _)
          clear hle
          have hle : u93q.heap.size ≤ u51.heap.size := by omega
          replace HC : Ext u93q x85 := by rw [hx85]; exact ((((((HC.store hle _).store hle _).store hle _).store hle _).store hle _).store hle _)
          clear hle
          have hle : wr.heap.size ≤ u51.heap.size := by omega
          replace HCut : Ext wr x85 := by rw [hx85]; exact ((((((HCut.store hle _).store hle _).store hle _).store hle _).store hle _).store hle _)
          clear hle
          replace hlo : wr.heap.size ≤ x85.heap.size := Nat.le_trans hlo hbut.1
          clear bb_ hbut hx85
          have bb_ := hbn
          clear hbn
          refine wpE_done ?_
          clear hlo
          go_wp2_with fail
          go_meet
          exact ⟨x81.heap.size, u51.heap.size, a3, d3, a4, d4, a5, d5, a6, d6, n3, c3, m3, k3, n4, c4, m4, k4, n5, c5, m5, k5, n6, c6, m6, k6, rfl, rfl, gea_, geb_, ba_, bb_, hp3.1, hp3.2.1, hp3.2.2.1, hp3.2.2.2, hp5.1, hp5.2.1, hp5.2.2.1, hp5.2.2.2, HCut⟩
        refine wpE_l rfl rfl (fun K hK => ?_)
        go_simp
        refine hK.out _ _ ((Below.refl _ _).alloc hlo _) ?_
        clear hK K
        try simp only [PU]
        have geb_ := hlo
        have la_b_ := ba_.lt (Nat.succ_pos _)
        have l0b_ := HE.size
        have lHCb_ := HC.size
        refine absE (fun x83 hx83 => ?_)
        have hx : Ext x82 x83 := by rw [hx83]; exact ((Ext.refl _).alloc _)
        have bb_ : Bl x83 (x82.heap.size) #[.bool false, .slice none 0 0, .slice none 0 0, .bool false, .slice none 0 0, .slice none 0 0] := by rw [hx83]; exact (Bl.new (by simp))
        have fb_ : Fz x83 (x82.heap.size) := by rw [hx83]; exact (Fz.new (by simp))
        replace hlo := Nat.le_trans hlo hx.size
        replace fa_ := q1f hx fa_ ba_
        replace ba_ := q1b hx ba_
        replace HC := HC.trans hx
        replace HCut := HCut.trans hx
        replace HE := HE.trans hx
        clear hx
        clear hx83
        refine wpE_l rfl rfl (fun K hK => ?_)
        go_simp
        refine (HA1.out _).mono ?_
        rintro e u51 ⟨a3, n3, c3, d3, m3, k3, a4, n4, c4, d4, m4, k4, rfl, hs3, ht3, hs4, ht4, hx⟩
        refine hK.out _ _ (Below.mono hx hlo) ?_
        clear hK K
        try simp only [PU]
        replace hlo := Nat.le_trans hlo hx.size
        replace fa_ := q1f hx fa_ ba_
        replace ba_ := q1b hx ba_
        replace fb_ := q1f hx fb_ bb_
        replace bb_ := q1b hx bb_
        replace HC := HC.trans hx
        replace HCut := HCut.trans hx
        replace HE := HE.trans hx
        clear hx
        have hp3 : Sp4 _ _ _ _ _ _ _ _ _ _ _ _ _ _ _ := ⟨hs3, ht3, hs4, ht4⟩
        clear hs3 ht3 hs4 ht4
        refine wpE_l rfl rfl (fun K hK => ?_)
        go_simp
        refine (HB1.out _).mono ?_
        rintro e u52 ⟨a5, n5, c5, d5, m5, k5, a6, n6, c6, d6, m6, k6, rfl, hs5, ht5, hs6, ht6, hx⟩
        refine hK.out _ _ (Below.mono hx hlo) ?_
        clear hK K
        try simp only [PU]
        replace hlo := Nat.le_trans hlo hx.size
        replace fa_ := q1f hx fa_ ba_
        replace ba_ := q1b hx ba_
        replace fb_ := q1f hx fb_ bb_
        replace bb_ := q1b hx bb_
        replace hp3 := hp3.ext hx
        replace HC := HC.trans hx
        replace HCut := HCut.trans hx
        replace HE := HE.trans hx
        clear hx
        have hp5 : Sp4 _ _ _ _ _ _ _ _ _ _ _ _ _ _ _ := ⟨hs5, ht5, hs6, ht6⟩
        clear hs5 ht5 hs6 ht6
        refine wpE_l rfl rfl (fun K hK => ?_)
        go_simp
        have hle : wr.heap.size ≤ x81.heap.size := by omega
        refine hK.out _ _ (((((((Below.refl _ _).setCell hle _).setCell hle _).setCell hle _).setCell hle _).setCell hle _).setCell hle _) ?_
        clear hK K hle
        try simp only [PU]
        refine absE (fun x84 hx84 => ?_)
        have hbut : But u52 x84 (x81.heap.size) := by rw [hx84]; exact (But.refl _ _).store.store.store.store.store.store
        have hbn : Bl x84 (x81.heap.size) #[.bool (decide (q1.num < 0)), .slice a3 n3 c3, .slice d3 m3 k3, .bool (decide (q2.num < 0)), .slice a4 n4 c4, .slice d4 m4 k4] := by rw [hx84]; exact (Bl.set (Bl.set (Bl.set (Bl.set (Bl.set (Bl.set ba_ (by simp)) (by simp)) (by simp)) (by simp)) (by simp)) (by simp))
        have hni : ∀ (j : Nat) (x : Int), (#[.bool false, .slice none 0 0, .slice none 0 0, .bool false, .slice none 0 0, .slice none 0 0] : Array Value)[j]? ≠ some (Value.int .u32 x) := (not_ints6 nb_bool nb_slice nb_slice nb_bool nb_slice nb_slice)
        replace hp3 := hp3.but ba_ hni hbut
        replace hp5 := hp5.but ba_ hni hbut
        clear hni
        replace fb_ := But.fz hbut fb_ bb_ (Nat.succ_pos _) (by omega)
        replace bb_ := But.bl hbut bb_ (Nat.succ_pos _) (by omega)
        replace fa_ : Fz x84 (x81.heap.size) := by rw [hx84]; exact (Fz.set (Fz.set (Fz.set (Fz.set (Fz.set (Fz.set fa_))))))
        have hle : w.heap.size ≤ x81.heap.size := by omega
        replace HE : Ext w x84 := by rw [hx84]; exact ((((((HE.store hle _).store hle _).store hle _).store hle _).store hle _).store hle _)
        clear hle
        have hle : u93q.heap.size ≤ x81.heap.size := by omega
        replace HC : Ext u93q x84 := by rw [hx84]; exact ((((((HC.store hle _).store hle _).store hle _).store hle _).store hle _).store hle _)
        clear hle
        have hle : wr.heap.size ≤ x81.heap.size := by omega
        replace HCut : Ext wr x84 := by rw [hx84]; exact ((((((HCut.store hle _).store hle _).store hle _).store hle _).store hle _).store hle _)
        clear hle
        replace hlo : wr.heap.size ≤ x84.heap.size := Nat.le_trans hlo hbut.1
        clear ba_ hbut hx84
        have ba_ := hbn
        clear hbn
        refine wpE_b rfl rfl (fun K hK => ?_)
        go_simp
        refine hK.out _ _ ?_
        clear hK K
        try simp only [PU]
        refine absE (fun x85 hx85 => ?_)
        have hbut : But x84 x85 (x82.heap.size) := by rw [hx85]; exact (But.refl _ _).store.store.store.store.store.store
        have hbn : Bl x85 (x82.heap.size) #[.bool (decide (q3.num < 0)), .slice a5 n5 c5, .slice d5 m5 k5, .bool (decide (q4.num < 0)), .slice a6 n6 c6, .slice d6 m6 k6] := by rw [hx85]; exact (Bl.set (Bl.set (Bl.set (Bl.set (Bl.set (Bl.set bb_ (by simp)) (by simp)) (by simp)) (by simp)) (by simp)) (by simp))
        have hni : ∀ (j : Nat) (x : Int), (#[.bool false, .slice none 0 0, .slice none 0 0, .bool false, .slice none 0 0, .slice none 0 0] : Array Value)[j]? ≠ some (Value.int .u32 x) := (not_ints6 nb_bool nb_slice nb_slice nb_bool nb_slice nb_slice)
        replace hp3 := hp3.but bb_ hni hbut
        replace hp5 := hp5.but bb_ hni hbut
        clear hni
        replace fa_ := But.fz hbut fa_ ba_ (Nat.succ_pos _) (by omega)
        replace ba_ := But.bl hbut ba_ (Nat.succ_pos _) (by omega)
        replace fb_ : Fz x85 (x82.heap.size) := by rw [hx85]; exact (Fz.set (Fz.set (Fz.set (Fz.set (Fz.set (Fz.set fb_))))))
        have hle : w.heap.size ≤ x82.heap.size := by omega
        replace HE : Ext w x85 := by rw [hx85]; exact ((((((HE.store hle _).store hle _).store hle _).store hle _).store hle _).store hle _)
        clear hle
        have hle : u93q.heap.size ≤ x82.heap.size := by omega
        replace HC : Ext u93q x85 := by rw [hx85]; exact ((((((HC.store hle _).store hle _).store hle _).store hle _).store hle _).store hle _)
        clear hle
        have hle : wr.heap.size ≤ x82.heap.size := by omega
        replace HCut : Ext wr x85 := by rw [hx85]; exact ((((((HCut.store hle _).store hle _).store hle _).store hle _).store hle _).store hle _)
        clear hle
        replace hlo : wr.heap.size ≤ x85.heap.size := Nat.le_trans hlo hbut.1
        clear bb_ hbut hx85
        have bb_ := hbn
        clear hbn
        refine wpE_done ?_
        clear hlo
        go_wp2_with fail
        go_meet
        exact ⟨x81.heap.size, x82.heap.size, a3, d3, a4, d4, a5, d5, a6, d6, n3, c3, m3, k3, n4, c4, m4, k4, n5, c5, m5, k5, n6, c6, m6, k6, rfl, rfl, gea_, geb_, ba_, bb_, hp3.1, hp3.2.1, hp3.2.2.1, hp3.2.2.2, hp5.1, hp5.2.1, hp5.2.2.1, hp5.2.2.2, HCut⟩
      refine wpE_l rfl rfl (fun K hK => ?_)
      go_simp
      refine hK.out _ _ ((Below.refl _ _).alloc hlo _) ?_
      clear hK K
      try simp only [PU]
      have geb_ := hlo
      have l0b_ := HE.size
      have lHCb_ := HC.size
      refine absE (fun x82 hx82 => ?_)
      have hx : Ext x81 x82 := by rw [hx82]; exact ((Ext.refl _).alloc _)
      have bb_ : Bl x82 (x81.heap.size) #[.bool false, .slice none 0 0, .slice none 0 0, .bool false, .slice none 0 0, .slice none 0 0] := by rw [hx82]; exact (Bl.new (by simp))
      have fb_ : Fz x82 (x81.heap.size) := by rw [hx82]; exact (Fz.new (by simp))
      replace hlo := Nat.le_trans hlo hx.size
      replace HC := HC.trans hx
      replace HCut := HCut.trans hx
      replace HE := HE.trans hx
      clear hx
      clear hx82
      refine wpE_br rfl rfl (fun K hK => ?_) ?_
      · go_simp
        refine (HA1.out _).mono ?_
        rintro e u51 ⟨a3, n3, c3, d3, m3, k3, a4, n4, c4, d4, m4, k4, rfl, hs3, ht3, hs4, ht4, hx⟩
        refine hK.out _ _ (Below.mono hx hlo) ?_
        clear hK K
        try simp only [PU]
        replace hlo := Nat.le_trans hlo hx.size
        replace fb_ := q1f hx fb_ bb_
        replace bb_ := q1b hx bb_
        replace HC := HC.trans hx
        replace HCut := HCut.trans hx
        replace HE := HE.trans hx
        clear hx
        have hp3 : Sp4 _ _ _ _ _ _ _ _ _ _ _ _ _ _ _ := ⟨hs3, ht3, hs4, ht4⟩
        clear hs3 ht3 hs4 ht4
        refine wpE_br rfl rfl (fun K hK => ?_) ?_
        · go_simp
          refine (HB1.out _).mono ?_
          rintro e u52 ⟨a5, n5, c5, d5, m5, k5, a6, n6, c6, d6, m6, k6, rfl, hs5, ht5, hs6, ht6, hx⟩
          refine hK.out _ _ (Below.mono hx hlo) ?_
          clear hK K
          try simp only [PU]
          replace hlo := Nat.le_trans hlo hx.size
          replace fb_ := q1f hx fb_ bb_
          replace bb_ := q1b hx bb_
          replace hp3 := hp3.ext hx
          replace HC := HC.trans hx
          replace HCut := HCut.trans hx
          replace HE := HE.trans hx
          clear hx
          have hp5 : Sp4 _ _ _ _ _ _ _ _ _ _ _ _ _ _ _ := ⟨hs5, ht5, hs6, ht6⟩
          clear hs5 ht5 hs6 ht6
          refine wpE_l rfl rfl (fun K hK => ?_)
          go_simp
          refine hK.out _ _ ((Below.refl _ _).alloc hlo _) ?_
          clear hK K
          try simp only [PU]
          have gea_ := hlo
          have lb_a_ := bb_.lt (Nat.succ_pos _)
          have l0a_ := HE.size
          have lHCa_ := HC.size
          refine absE (fun x83 hx83 => ?_)
          have hx : Ext u52 x83 := by rw [hx83]; exact ((Ext.refl _).alloc _)
          have ba_ : Bl x83 (u52.heap.size) #[.bool false, .slice none 0 0, .slice none 0 0, .bool false, .slice none 0 0, .slice none 0 0] := by rw [hx83]; exact (Bl.new (by simp))
          have fa_ : Fz x83 (u52.heap.size) := by rw [hx83]; exact (Fz.new (by simp))
          replace hlo := Nat.le_trans hlo hx.size
          replace fb_ := q1f hx fb_ bb_
          replace bb_ := q1b hx bb_
          replace hp3 := hp3.ext hx
          replace hp5 := hp5.ext hx
          replace HC := HC.trans hx
          replace HCut := HCut.trans hx
          replace HE := HE.trans hx
          clear hx
          clear hx83
          refine wpE_l rfl rfl (fun K hK => ?_)
          go_simp
          have hle : wr.heap.size ≤ u52.heap.size := by omega
          refine hK.out _ _ (((((((Below.refl _ _).setCell hle _).setCell hle _).setCell hle _).setCell hle _).setCell hle _).setCell hle _) ?_
          clear hK K hle
          try simp only [PU]
          refine absE (fun x84 hx84 => ?_)
          have hbut : But x83 x84 (u52.heap.size) := by rw [hx84]; exact (But.refl _ _).store.store.store.store.store.store
          have hbn : Bl x84 (u52.heap.size) #[.bool (decide (q1.num < 0)), .slice a3 n3 c3, .slice d3 m3 k3, .bool (decide (q2.num < 0)), .slice a4 n4 c4, .slice d4 m4 k4] := by rw [hx84]; exact (Bl.set (Bl.set (Bl.set (Bl.set (Bl.set (Bl.set ba_ (by simp)) (by simp)) (by simp)) (by simp)) (by simp)) (by simp))
          have hni : ∀ (j : Nat) (x : Int), (#[.bool false, .slice none 0 0, .slice none 0 0, .bool false, .slice none 0 0, .slice none 0 0] : Array Value)[j]? ≠ some (Value.int .u32 x) := (not_ints6 nb_bool nb_slice nb_slice nb_bool nb_slice nb_slice)
          replace hp3 := hp3.but ba_ hni hbut
          replace hp5 := hp5.but ba_ hni hbut
          clear hni
          replace fb_ := But.fz hbut fb_ bb_ (Nat.succ_pos _) (by omega)
          replace bb_ := But.bl hbut bb_ (Nat.succ_pos _) (by omega)
          replace fa_ : Fz x84 (u52.heap.size) := by rw [hx84]; exact (Fz.set (Fz.set (Fz.set (Fz.set (Fz.set (Fz.set fa_))))))
          have hle : w.heap.size ≤ u52.heap.size := by omega
          replace HE : Ext w x84 := by rw [hx84]; exact ((((((HE.store hle _).store hle _).store hle _).store hle _).store hle _).store hle _)
          clear hle
          have hle : u93q.heap.size ≤ u52.heap.size := by omega
          replace HC : Ext u93q x84 := by rw [hx84]; exact ((((((HC.store hle _).store hle _).store hle _).store hle _).store hle _).store hle _)
          clear hle
          have hle : wr.heap.size ≤ u52.heap.size := by omega
          replace HCut : Ext wr x84 := by rw [hx84]; exact ((((((HCut.store hle _).store hle _).store hle _).store hle _).store hle _).store hle _)
          clear hle
          replace hlo : wr.heap.size ≤ x84.heap.size := Nat.le_trans hlo hbut.1
          clear ba_ hbut hx84
          have ba_ := hbn
          clear hbn
          refine wpE_b rfl rfl (fun K hK => ?_)
          go_simp
          refine hK.out _ _ ?_
          clear hK K
          try simp only [PU]
          refine absE (fun x85 hx85 => ?_)
          have hbut : But x84 x85 (x81.heap.size) := by rw [hx85]; exact (But.refl _ _).store.store.store.store.store.store
          have hbn : Bl x85 (x81.heap.size) #[.bool (decide (q3.num < 0)), .slice a5 n5 c5, .slice d5 m5 k5, .bool (decide (q4.num < 0)), .slice a6 n6 c6, .slice d6 m6 k6] := by rw [hx85]; exact (Bl.set (Bl.set (Bl.set (Bl.set (Bl.set (Bl.set bb_ (by simp)) (by simp)) (by simp)) (by simp)) (by simp)) (by simp))
          have hni : ∀ (j : Nat) (x : Int), (#[.bool false, .slice none 0 0, .slice none 0 0, .bool false, .slice none 0 0, .slice none 0 0] : Array Value)[j]? ≠ some (Value.int .u32 x) := (not_ints6 nb_bool nb_slice nb_slice nb_bool nb_slice nb_slice)
          replace hp3 := hp3.but bb_ hni hbut
          replace hp5 := hp5.but bb_ hni hbut
          clear hni
          replace fa_ := But.fz hbut fa_ ba_ (Nat.succ_pos _) (by omega)
          replace ba_ := But.bl hbut ba_ (Nat.succ_pos _) (by omega)
          replace fb_ : Fz x85 (x81.heap.size) := by rw [hx85]; exact (Fz.set (Fz.set (Fz.set (Fz.set (Fz.set (Fz.set fb_))))))
          have hle : w.heap.size ≤ x81.heap.size := by omega
          replace HE : Ext w x85 := by rw [hx85]; exact ((((((HE.store hle _).store hle _).store hle _).store hle _).store hle _).store hle _)
          clear hle
          have hle : u93q.heap.size ≤ x81.heap.size := by omega
          replace HC : Ext u93q x85 := by rw [hx85]; exact ((((((HC.store hle _).store hle _).store hle _).store hle _).store hle _).store hle _)
          clear hle
          have hle : wr.heap.size ≤ x81.heap.size := by omega
          replace HCut : Ext wr x85 := by rw [hx85]; exact ((((((HCut.store hle _).store hle _).store hle _).store hle _).store hle _).store hle _)
          clear hle
          replace hlo : wr.heap.size ≤ x85.heap.size := Nat.le_trans hlo hbut.1
          clear bb_ hbut hx85
          have bb_ := hbn
          clear hbn
          refine wpE_done ?_
          clear hlo
          go_wp2_with fail
          go_meet
          exact ⟨u52.heap.size, x81.heap.size, a3, d3, a4, d4, a5, d5, a6, d6, n3, c3, m3, k3, n4, c4, m4, k4, n5, c5, m5, k5, n6, c6, m6, k6, rfl, rfl, gea_, geb_, ba_, bb_, hp3.1, hp3.2.1, hp3.2.2.1, hp3.2.2.2, hp5.1, hp5.2.1, hp5.2.2.1, hp5.2.2.2, HCut⟩
        refine wpE_l rfl rfl (fun K hK => ?_)
        go_simp
        refine hK.out _ _ ((Below.refl _ _).alloc hlo _) ?_
        clear hK K
        try simp only [PU]
        have gea_ := hlo
        have lb_a_ := bb_.lt (Nat.succ_pos _)
        have l0a_ := HE.size
        have lHCa_ := HC.size
        refine absE (fun x83 hx83 => ?_)
        have hx : Ext u51 x83 := by rw [hx83]; exact ((Ext.refl _).alloc _)
        have ba_ : Bl x83 (u51.heap.size) #[.bool false, .slice none 0 0, .slice none 0 0, .bool false, .slice none 0 0, .slice none 0 0] := by rw [hx83]; exact (Bl.new (by simp))
        have fa_ : Fz x83 (u51.heap.size) := by rw [hx83]; exact (Fz.new (by simp))
        replace hlo := Nat.le_trans hlo hx.size
        replace fb_ := q1f hx fb_ bb_
        replace bb_ := q1b hx bb_
        replace hp3 := hp3.ext hx
        replace HC := HC.trans hx
        replace HCut := HCut.trans hx
        replace HE := HE.trans hx
        clear hx
        clear hx83
        refine wpE_l rfl rfl (fun K hK => ?_)
        go_simp
        refine (HB1.out _).mono ?_
        rintro e u52 ⟨a5, n5, c5, d5, m5, k5, a6, n6, c6, d6, m6, k6, rfl, hs5, ht5, hs6, ht6, hx⟩
        refine hK.out _ _ (Below.mono hx hlo) ?_
        clear hK K
        try simp only [PU]
        replace hlo := Nat.le_trans hlo hx.size
        replace fb_ := q1f hx fb_ bb_
        replace bb_ := q1b hx bb_
        replace fa_ := q1f hx fa_ ba_
        replace ba_ := q1b hx ba_
        replace hp3 := hp3.ext hx
        replace HC := HC.trans hx
        replace HCut := HCut.trans hx
        replace HE := HE.trans hx
        clear hx
        have hp5 : Sp4 _ _ _ _ _ _ _ _ _ _ _ _ _ _ _ := ⟨hs5, ht5, hs6, ht6⟩
        clear hs5 ht5 hs6 ht6
        refine wpE_l rfl rfl (fun K hK => ?_)
        go_simp
        have hle : wr.heap.size ≤ u51.heap.size := by omega
        refine hK.out _ _ (((((((Below.refl _ _).setCell hle _).setCell hle _).setCell hle _).setCell hle _).setCell hle _).setCell hle _) ?_
        clear hK K hle
        try simp only [PU]
        refine absE (fun x84 hx84 => ?_)
        have hbut : But u52 x84 (u51.heap.size) := by rw [hx84]; exact (But.refl _ _).store.store.store.store.store.store
        have hbn : Bl x84 (u51.heap.size) #[.bool (decide (q1.num < 0)), .slice a3 n3 c3, .slice d3 m3 k3, .bool (decide (q2.num < 0)), .slice a4 n4 c4, .slice d4 m4 k4] := by rw [hx84]; exact (Bl.set (Bl.set (Bl.set (Bl.set (Bl.set (Bl.set ba_ (by simp)) (by simp)) (by simp)) (by simp)) (by simp)) (by simp))
        have hni : ∀ (j : Nat) (x : Int), (#[.bool false, .slice none 0 0, .slice none 0 0, .bool false, .slice none 0 0, .slice none 0 0] : Array Value)[j]? ≠ some (Value.int .u32 x) := (not_ints6 nb_bool nb_slice nb_slice nb_bool nb_slice nb_slice)
        replace hp3 := hp3.but ba_ hni hbut
        replace hp5 := hp5.but ba_ hni hbut
        clear hni
        replace fb_ := But.fz hbut fb_ bb_ (Nat.succ_pos _) (by omega)
        replace bb_ := But.bl hbut bb_ (Nat.succ_pos _) (by omega)
        replace fa_ : Fz x84 (u51.heap.size) := by rw [hx84]; exact (Fz.set (Fz.set (Fz.set (Fz.set (Fz.set (Fz.set fa_))))))
        have hle : w.heap.size ≤ u51.heap.size := by omega
        replace HE : Ext w x84 := by rw [hx84]; exact ((((((HE.store hle _).store hle _).store hle _).store hle _).store hle _).store hle _)
        clear hle
        have hle : u93q.heap.size ≤ u51.heap.size := by omega
        replace HC : Ext u93q x84 := by rw [hx84]; exact ((((((HC.store hle _).store hle _).store hle _).store hle _).store hle _).store hle _)
        clear hle
        have hle : wr.heap.size ≤ u51.heap.size := by omega
        replace HCut : Ext wr x84 := by rw [hx84]; exact ((((((HCut.store hle _).store hle _).store hle _).store hle _).store hle _).store hle _)
        clear hle
        replace hlo : wr.heap.size ≤ x84.heap.size := Nat.le_trans hlo hbut.1
        clear ba_ hbut hx84
        have ba_ := hbn
        clear hbn
        refine wpE_b rfl rfl (fun K hK => ?_)
        go_simp
        refine hK.out _ _ ?_
        clear hK K
        try simp only [PU]
        refine absE (fun x85 hx85 => ?_)
        have hbut : But x84 x85 (x81.heap.size) := by rw [hx85]; exact (But.refl _ _).store.store.store.store.store.store
        have hbn : Bl x85 (x81.heap.size) #[.bool (decide (q3.num < 0)), .slice a5 n5 c5, .slice d5 m5 k5, .bool (decide (q4.num < 0)), .slice a6 n6 c6, .slice d6 m6 k6] := by rw [hx85]; exact (Bl.set (Bl.set (Bl.set (Bl.set (Bl.set (Bl.set bb_ (by simp)) (by simp)) (by simp)) (by simp)) (by simp)) (by simp))
        have hni : ∀ (j : Nat) (x : Int), (#[.bool false, .slice none 0 0, .slice none 0 0, .bool false, .slice none 0 0, .slice none 0 0] : Array Value)[j]? ≠ some (Value.int .u32 x) := (not_ints6 nb_bool nb_slice nb_slice nb_bool nb_slice nb_slice)
        replace hp3 := hp3.but bb_ hni hbut
        replace hp5 := hp5.but bb_ hni hbut
        clear hni
        replace fa_ := But.fz hbut fa_ ba_ (Nat.succ_pos _) (by omega)
        replace ba_ := But.bl hbut ba_ (Nat.succ_pos _) (by omega)
        replace fb_ : Fz x85 (x81.heap.size) := by rw [hx85]; exact (Fz.set (Fz.set (Fz.set (Fz.set (Fz.set (Fz.set fb_))))))
        have hle : w.heap.size ≤ x81.heap.size := by omega
        replace HE : Ext w x85 := by rw [hx85]; exact ((((((HE.store hle _).store hle _).store hle _).store hle _).store hle _).store hle _)
        clear hle
        have hle : u93q.heap.size ≤ x81.heap.size := by omega
        replace HC : Ext u93q x85 := by rw [hx85]; exact ((((((HC.store hle _).store hle _).store hle _).store hle _).store hle _).store hle _)
        clear hle
        have hle : wr.heap.size ≤ x81.heap.size := by omega
        replace HCut : Ext wr x85 := by rw [hx85]; exact ((((((HCut.store hle _).store hle _).store hle _).store hle _).store hle _).store hle _)
        clear hle
        replace hlo : wr.heap.size ≤ x85.heap.size := Nat.le_trans hlo hbut.1
        clear bb_ hbut hx85
        have bb_ := hbn
        clear hbn
        refine wpE_done ?_
        clear hlo
        go_wp2_with fail
        go_meet
        exact ⟨u51.heap.size, x81.heap.size, a3, d3, a4, d4, a5, d5, a6, d6, n3, c3, m3, k3, n4, c4, m4, k4, n5, c5, m5, k5, n6, c6, m6, k6, rfl, rfl, gea_, geb_, ba_, bb_, hp3.1, hp3.2.1, hp3.2.2.1, hp3.2.2.2, hp5.1, hp5.2.1, hp5.2.2.1, hp5.2.2.2, HCut⟩
      refine wpE_l rfl rfl (fun K hK => ?_)
      go_simp
      refine hK.out _ _ ((Below.refl _ _).alloc hlo _) ?_
      clear hK K
      try simp only [PU]
      have gea_ := hlo
      have lb_a_ := bb_.lt (Nat.succ_pos _)
      have l0a_ := HE.size
      have lHCa_ := HC.size
      refine absE (fun x83 hx83 => ?_)
      have hx : Ext x82 x83 := by rw [hx83]; exact ((Ext.refl _).alloc _)
      have ba_ : Bl x83 (x82.heap.size) #[.bool false, .slice none 0 0, .slice none 0 0, .bool false, .slice none 0 0, .slice none 0 0] := by rw [hx83]; exact (Bl.new (by simp))
      have fa_ : Fz x83 (x82.heap.size) := by rw [hx83]; exact (Fz.new (by simp))
      replace hlo := Nat.le_trans hlo hx.size
      replace fb_ := q1f hx fb_ bb_
      replace bb_ := q1b hx bb_
      replace HC := HC.trans hx
      replace HCut := HCut.trans hx
      replace HE := HE.trans hx
      clear hx
      clear hx83
      refine wpE_l rfl rfl (fun K hK => ?_)
      go_simp
      refine (HA1.out _).mono ?_
      rintro e u51 ⟨a3, n3, c3, d3, m3, k3, a4, n4, c4, d4, m4, k4, rfl, hs3, ht3, hs4, ht4, hx⟩
      refine hK.out _ _ (Below.mono hx hlo) ?_
      clear hK K
      try simp only [PU]
      replace hlo := Nat.le_trans hlo hx.size
      replace fb_ := q1f hx fb_ bb_
      replace bb_ := q1b hx bb_
      replace fa_ := q1f hx fa_ ba_
      replace ba_ := q1b hx ba_
      replace HC := HC.trans hx
      replace HCut := HCut.trans hx
      replace HE := HE.trans hx
      clear hx
      have hp3 : Sp4 _ _ _ _ _ _ _ _ _ _ _ _ _ _ _ := ⟨hs3, ht3, hs4, ht4⟩
      clear hs3 ht3 hs4 ht4
      refine wpE_l rfl rfl (fun K hK => ?_)
      go_simp
      refine (HB1.out _).mono ?_
      rintro e u52 ⟨a5, n5, c5, d5, m5, k5, a6, n6, c6, d6, m6, k6, rfl, hs5, ht5, hs6, ht6, hx⟩
      refine hK.out _ _ (Below.mono hx hlo) ?_
      clear hK K
      try simp only [PU]
      replace hlo := Nat.le_trans hlo hx.size
      replace fb_ := q1f hx fb_ bb_
      replace bb_ := q1b hx bb_
      replace fa_ := q1f hx fa_ ba_
      replace ba_ := q1b hx ba_
      replace hp3 := hp3.ext hx
      replace HC := HC.trans hx
      replace HCut := HCut.trans hx
      replace HE := HE.trans hx
      clear hx
      have hp5 : Sp4 _ _ _ _ _ _ _ _ _ _ _ _ _ _ _ := ⟨hs5, ht5, hs6, ht6⟩
      clear hs5 ht5 hs6 ht6
      refine wpE_l rfl rfl (fun K hK => ?_)
      go_simp
      have hle : wr.heap.size ≤ x82.heap.size := by omega
      refine hK.out _ _ (((((((Below.refl _ _).setCell hle _).setCell hle _).setCell hle _).setCell hle _).setCell hle _).setCell hle _) ?_
      clear hK K hle
      try simp only [PU]
      refine absE (fun x84 hx84 => ?_)
      have hbut : But u52 x84 (x82.heap.size) := by rw [hx84]; exact (But.refl _ _).store.store.store.store.store.store
      have hbn : Bl x84 (x82.heap.size) #[.bool (decide (q1.num < 0)), .slice a3 n3 c3, .slice d3 m3 k3, .bool (decide (q2.num < 0)), .slice a4 n4 c4, .slice d4 m4 k4] := by rw [hx84]; exact (Bl.set (Bl.set (Bl.set (Bl.set (Bl.set (Bl.set ba_ (by simp)) (by simp)) (by simp)) (by simp)) (by simp)) (by simp))
      have hni : ∀ (j : Nat) (x : Int), (#[.bool false, .slice none 0 0, .slice none 0 0, .bool false, .slice none 0 0, .slice none 0 0] : Array Value)[j]? ≠ some (Value.int .u32 x) := (not_ints6 nb_bool nb_slice nb_slice nb_bool nb_slice nb_slice)
      replace hp3 := hp3.but ba_ hni hbut
      replace hp5 := hp5.but ba_ hni hbut
      clear hni
      replace fb_ := But.fz hbut fb_ bb_ (Nat.succ_pos _) (by omega)
      replace bb_ := But.bl hbut bb_ (Nat.succ_pos _) (by omega)
      replace fa_ : Fz x84 (x82.heap.size) := by rw [hx84]; exact (Fz.set (Fz.set (Fz.set (Fz.set (Fz.set (Fz.set fa_))))))
      have hle : w.heap.size ≤ x82.heap.size := by omega
      replace HE : Ext w x84 := by rw [hx84]; exact ((((((HE.store hle _).store hle _).store hle _).store hle _).store hle _).store hle _)
      clear hle
      have hle : u93q.heap.size ≤ x82.heap.size := by omega
      replace HC : Ext u93q x84 := by rw [hx84]; exact ((((((HC.store hle _).store hle _).store hle _).store hle _).store hle _).store hle _)
      clear hle
      have hle : wr.heap.size ≤ x82.heap.size := by omega
      replace HCut : Ext wr x84 := by rw [hx84]; exact ((((((HCut.store hle _).store hle _).store hle _).store hle _).store hle _).store hle _)
      clear hle
      replace hlo : wr.heap.size ≤ x84.heap.size := Nat.le_trans hlo hbut.1
      clear ba_ hbut hx84
      have ba_ := hbn
      clear hbn
      refine wpE_b rfl rfl (fun K hK => ?_)
      go_simp
      refine hK.out _ _ ?_
      clear hK K
      try simp only [PU]
      refine absE (fun x85 hx85 => ?_)
      have hbut : But x84 x85 (x81.heap.size) := by rw [hx85]; exact (But.refl _ _).store.store.store.store.store.store
      have hbn : Bl x85 (x81.heap.size) #[.bool (decide (q3.num < 0)), .slice a5 n5 c5, .slice d5 m5 k5, .bool (decide (q4.num < 0)), .slice a6 n6 c6, .slice d6 m6 k6] := by rw [hx85]; exact (Bl.set (Bl.set (Bl.set (Bl.set (Bl.set (Bl.set bb_ (by simp)) (by simp)) (by simp)) (by simp)) (by simp)) (by simp))
      have hni : ∀ (j : Nat) (x : Int), (#[.bool false, .slice none 0 0, .slice none 0 0, .bool false, .slice none 0 0, .slice none 0 0] : Array Value)[j]? ≠ some (Value.int .u32 x) := (not_ints6 nb_bool nb_slice nb_slice nb_bool nb_slice nb_slice)
      replace hp3 := hp3.but bb_ hni hbut
      replace hp5 := hp5.but bb_ hni hbut
      clear hni
      replace fa_ := But.fz hbut fa_ ba_ (Nat.succ_pos _) (by omega)
      replace ba_ := But.bl hbut ba_ (Nat.succ_pos _) (by omega)
      replace fb_ : Fz x85 (x81.heap.size) := by rw [hx85]; exact (Fz.set (Fz.set (Fz.set (Fz.set (Fz.set (Fz.set fb_))))))
      have hle : w.heap.size ≤ x81.heap.size := by omega
      replace HE : Ext w x85 := by rw [hx85]; exact ((((((HE.store hle _).store hle _).store hle _).store hle _).store hle _).store hle _)
      clear hle
      have hle : u93q.heap.size ≤ x81.heap.size := by omega
      replace HC : Ext u93q x85 := by rw [hx85]; exact ((((((HC.store hle _).store hle _).store hle _).store hle _).store hle _).store hle _)
      clear hle
      have hle : wr.heap.size ≤ x81.heap.size := by omega
      replace HCut : Ext wr x85 := by rw [hx85]; exact ((((((HCut.store hle _).store hle _).store hle _).store hle _).store hle _).store hle _)
      clear hle
      replace hlo : wr.heap.size ≤ x85.heap.size := Nat.le_trans hlo hbut.1
      clear bb_ hbut hx85
      have bb_ := hbn
      clear hbn
      refine wpE_done ?_
      clear hlo
      go_wp2_with fail
      go_meet
      exact ⟨x82.heap.size, x81.heap.size, a3, d3, a4, d4, a5, d5, a6, d6, n3, c3, m3, k3, n4, c4, m4, k4, n5, c5, m5, k5, n6, c6, m6, k6, rfl, rfl, gea_, geb_, ba_, bb_, hp3.1, hp3.2.1, hp3.2.2.1, hp3.2.2.2, hp5.1, hp5.2.1, hp5.2.2.1, hp5.2.2.2, HCut⟩
     obtain ⟨g11, g12, a3, d3, a4, d4, a5, d5, a6, d6, n3, c3, m3, k3, n4, c4, m4, k4, n5, c5, m5, k5, n6, c6, m6, k6, rfl, rfl, gea_, geb_, ba_, bb_, hs3, ht3, hs4, ht4, hs5, ht5, hs6, ht6, hx⟩ := hcut
     replace be := q1b hx be
     replace bm := q1b hx bm
     replace z0 := hx.cell' z0
     replace z1 := hx.cell' z1
     replace z2 := hx.cell' z2
     replace z3 := hx.cell' z3
     replace HC := HC.trans hx
     replace HE := HE.trans hx
     clear hx
     obtain ⟨bb, hbb⟩ : ∃ b, b = (!ms || decide (((ax, ay) : Int × Int) = (ex, ey)) || !on) := ⟨_, rfl⟩
     go_wp2_with fail
     go_cut [78] (fun v wx => v = .bool bb ∧ Ext wc wx)
     case first =>
      have HCut := Ext.refl wc
      clear hst
      cases ms
      · obtain rfl : bb = true := by rw [hbb]; rfl
        clear hbb
        refine wp_region_plan (R := Ext) (.q 0 (.q 1 (.q 2 (.q 3 (.l 4 (.q 5 (.q 6 (.q 7 (.q 8 (.q 9 (.q 10 (.q 11 (.q 12 (.q 13 (.q 14 (.q 15 (.q 16 (.q 17 (.q 18 (.q 19 (.q 20 (.q 21 (.q 22 (.l 23 (.q 24 (.q 25 .done)))))))))))))))))))))))))) (by kernel_rfl) (by kernel_rfl) (by kernel_rfl) (by kernel_rfl) Ext.refl (fun _ _ _ => Ext.trans) ?_
        refine absE (fun x111 hx111 => ?_)
        have hx : Ext wc x111 := by rw [hx111]; exact (Ext.refl _).drew
        replace be := q1b hx be
        replace bm := q1b hx bm
        replace ba_ := q1b hx ba_
        replace bb_ := q1b hx bb_
        replace hs3 := hs3.ext hx
        replace ht3 := ht3.ext hx
        replace hs4 := hs4.ext hx
        replace ht4 := ht4.ext hx
        replace hs5 := hs5.ext hx
        replace ht5 := ht5.ext hx
        replace hs6 := hs6.ext hx
        replace ht6 := ht6.ext hx
        replace z0 := hx.cell' z0
        replace z1 := hx.cell' z1
        replace z2 := hx.cell' z2
        replace z3 := hx.cell' z3
        replace HC := HC.trans hx
        replace HCut := HCut.trans hx
        replace HE := HE.trans hx
        clear hx
        clear hx111
        repeat (first | (refine wpE_q (v := ?_) rfl rfl (fun u hu => ?_) ?_; rotate_left 1; (focus (have ke := q1b hu be; have km := q1b hu bm; have ka_ := q1b hu ba_; have kb_ := q1b hu bb_; have kz0 := hu.cell' z0; have kz1 := hu.cell' z1; have kz2 := hu.cell' z2; have kz3 := hu.cell' z3; go_simp; (try rfl))); simp only [PU]) | (refine wpE_qs rfl rfl ?_; simp only [PU]))
        refine wpE_l rfl rfl (fun K hK => ?_)
        go_simp
        refine (HMY1.out _).mono ?_
        rintro e u53 ⟨rfl, hx⟩
        refine hK.out _ _ hx ?_
        clear hK K
        try simp only [PU]
        replace be := q1b hx be
        replace bm := q1b hx bm
        replace ba_ := q1b hx ba_
        replace bb_ := q1b hx bb_
        replace hs3 := hs3.ext hx
        replace ht3 := ht3.ext hx
        replace hs4 := hs4.ext hx
        replace ht4 := ht4.ext hx
        replace hs5 := hs5.ext hx
        replace ht5 := ht5.ext hx
        replace hs6 := hs6.ext hx
        replace ht6 := ht6.ext hx
        replace z0 := hx.cell' z0
        replace z1 := hx.cell' z1
        replace z2 := hx.cell' z2
        replace z3 := hx.cell' z3
        replace HC := HC.trans hx
        replace HCut := HCut.trans hx
        replace HE := HE.trans hx
        clear hx
        repeat (first | (refine wpE_q (v := ?_) rfl rfl (fun u hu => ?_) ?_; rotate_left 1; (focus (have ke := q1b hu be; have km := q1b hu bm; have ka_ := q1b hu ba_; have kb_ := q1b hu bb_; have kz0 := hu.cell' z0; have kz1 := hu.cell' z1; have kz2 := hu.cell' z2; have kz3 := hu.cell' z3; go_simp; (try rfl))); simp only [PU]) | (refine wpE_qs rfl rfl ?_; simp only [PU]))
        refine wpE_ls (Ext.refl _) rfl rfl ?_
        simp only [PU]
        repeat (first | (refine wpE_q (v := ?_) rfl rfl (fun u hu => ?_) ?_; rotate_left 1; (focus (have ke := q1b hu be; have km := q1b hu bm; have ka_ := q1b hu ba_; have kb_ := q1b hu bb_; have kz0 := hu.cell' z0; have kz1 := hu.cell' z1; have kz2 := hu.cell' z2; have kz3 := hu.cell' z3; go_simp; (try rfl))); simp only [PU]) | (refine wpE_qs rfl rfl ?_; simp only [PU]))
        refine wpE_done ?_
        go_wp2_with fail
        go_meet
        exact ⟨rfl, HCut⟩
      by_cases heq : ((ax, ay) : Int × Int) = (ex, ey)
      · obtain rfl : bb = true := by rw [hbb, decide_eq_true heq]; rfl
        clear hbb
        simp only [Prod.mk.injEq] at heq
        obtain ⟨rfl, rfl⟩ := heq
        refine wp_region_plan (R := Ext) (.q 0 (.q 1 (.q 2 (.q 3 (.l 4 (.q 5 (.q 6 (.q 7 (.q 8 (.q 9 (.q 10 (.q 11 (.q 12 (.q 13 (.q 14 (.q 15 (.q 16 (.q 17 (.q 18 (.q 19 (.q 20 (.q 21 (.q 22 (.l 23 (.q 24 (.q 25 .done)))))))))))))))))))))))))) (by kernel_rfl) (by kernel_rfl) (by kernel_rfl) (by kernel_rfl) Ext.refl (fun _ _ _ => Ext.trans) ?_
        refine absE (fun x111 hx111 => ?_)
        have hx : Ext wc x111 := by rw [hx111]; exact (Ext.refl _).drew
        replace be := q1b hx be
        replace bm := q1b hx bm
        replace ba_ := q1b hx ba_
        replace bb_ := q1b hx bb_
        replace hs3 := hs3.ext hx
        replace ht3 := ht3.ext hx
        replace hs4 := hs4.ext hx
        replace ht4 := ht4.ext hx
        replace hs5 := hs5.ext hx
        replace ht5 := ht5.ext hx
        replace hs6 := hs6.ext hx
        replace ht6 := ht6.ext hx
        replace z0 := hx.cell' z0
        replace z1 := hx.cell' z1
        replace z2 := hx.cell' z2
        replace z3 := hx.cell' z3
        replace HC := HC.trans hx
        replace HCut := HCut.trans hx
        replace HE := HE.trans hx
        clear hx
        clear hx111
        repeat (first | (refine wpE_q (v := ?_) rfl rfl (fun u hu => ?_) ?_; rotate_left 1; (focus (have ke := q1b hu be; have km := q1b hu bm; have ka_ := q1b hu ba_; have kb_ := q1b hu bb_; have kz0 := hu.cell' z0; have kz1 := hu.cell' z1; have kz2 := hu.cell' z2; have kz3 := hu.cell' z3; go_simp; (try rfl))); simp only [PU]) | (refine wpE_qs rfl rfl ?_; simp only [PU]))
        refine wpE_l rfl rfl (fun K hK => ?_)
        go_simp
        refine (HMY1.out _).mono ?_
        rintro e u53 ⟨rfl, hx⟩
        refine hK.out _ _ hx ?_
        clear hK K
        try simp only [PU]
        replace be := q1b hx be
        replace bm := q1b hx bm
        replace ba_ := q1b hx ba_
        replace bb_ := q1b hx bb_
        replace hs3 := hs3.ext hx
        replace ht3 := ht3.ext hx
        replace hs4 := hs4.ext hx
        replace ht4 := ht4.ext hx
        replace hs5 := hs5.ext hx
        replace ht5 := ht5.ext hx
        replace hs6 := hs6.ext hx
        replace ht6 := ht6.ext hx
        replace z0 := hx.cell' z0
        replace z1 := hx.cell' z1
        replace z2 := hx.cell' z2
        replace z3 := hx.cell' z3
        replace HC := HC.trans hx
        replace HCut := HCut.trans hx
        replace HE := HE.trans hx
        clear hx
        repeat (first | (refine wpE_q (v := ?_) rfl rfl (fun u hu => ?_) ?_; rotate_left 1; (focus (have ke := q1b hu be; have km := q1b hu bm; have ka_ := q1b hu ba_; have kb_ := q1b hu bb_; have kz0 := hu.cell' z0; have kz1 := hu.cell' z1; have kz2 := hu.cell' z2; have kz3 := hu.cell' z3; go_simp; (try rfl))); simp only [PU]) | (refine wpE_qs rfl rfl ?_; simp only [PU]))
        refine wpE_ls (Ext.refl _) rfl rfl ?_
        simp only [PU]
        repeat (first | (refine wpE_q (v := ?_) rfl rfl (fun u hu => ?_) ?_; rotate_left 1; (focus (have ke := q1b hu be; have km := q1b hu bm; have ka_ := q1b hu ba_; have kb_ := q1b hu bb_; have kz0 := hu.cell' z0; have kz1 := hu.cell' z1; have kz2 := hu.cell' z2; have kz3 := hu.cell' z3; go_simp; (try rfl))); simp only [PU]) | (refine wpE_qs rfl rfl ?_; simp only [PU]))
        refine wpE_done ?_
        go_wp2_with fail
        go_meet
        exact ⟨rfl, HCut⟩
      obtain rfl : bb = !on := by rw [hbb, decide_eq_false heq]; rfl
      clear hbb
      by_cases hq : ax = ex
      · obtain rfl : ex = ax := hq.symm
        clear hq
        have hq2 : ¬ ay = ey := fun h => heq (by rw [h])
        clear heq
        refine wp_region_plan (R := Ext) (.q 0 (.q 1 (.q 2 (.q 3 (.l 4 (.q 5 (.q 6 (.q 7 (.q 8 (.q 9 (.q 10 (.q 11 (.q 12 (.q 13 (.q 14 (.q 15 (.q 16 (.q 17 (.q 18 (.q 19 (.q 20 (.q 21 (.q 22 (.l 23 (.q 24 (.q 25 .done)))))))))))))))))))))))))) (by kernel_rfl) (by kernel_rfl) (by kernel_rfl) (by kernel_rfl) Ext.refl (fun _ _ _ => Ext.trans) ?_
        refine absE (fun x111 hx111 => ?_)
        have hx : Ext wc x111 := by rw [hx111]; exact (Ext.refl _).drew
        replace be := q1b hx be
        replace bm := q1b hx bm
        replace ba_ := q1b hx ba_
        replace bb_ := q1b hx bb_
        replace hs3 := hs3.ext hx
        replace ht3 := ht3.ext hx
        replace hs4 := hs4.ext hx
        replace ht4 := ht4.ext hx
        replace hs5 := hs5.ext hx
        replace ht5 := ht5.ext hx
        replace hs6 := hs6.ext hx
        replace ht6 := ht6.ext hx
        replace z0 := hx.cell' z0
        replace z1 := hx.cell' z1
        replace z2 := hx.cell' z2
        replace z3 := hx.cell' z3
        replace HC := HC.trans hx
        replace HCut := HCut.trans hx
        replace HE := HE.trans hx
        clear hx
        clear hx111
        repeat (refine wpE_q (v := ?_) rfl rfl (fun u hu => ?_) ?_; rotate_left 1; (focus (have ke := q1b hu be; have km := q1b hu bm; have ka_ := q1b hu ba_; have kb_ := q1b hu bb_; have kz0 := hu.cell' z0; have kz1 := hu.cell' z1; have kz2 := hu.cell' z2; have kz3 := hu.cell' z3; go_simp; (try rfl))); simp only [PU])
        refine wpE_l rfl rfl (fun K hK => ?_)
        go_simp
        refine (HMY1.out _).mono ?_
        rintro e u53 ⟨rfl, hx⟩
        refine hK.out _ _ hx ?_
        clear hK K
        try simp only [PU]
        replace be := q1b hx be
        replace bm := q1b hx bm
        replace ba_ := q1b hx ba_
        replace bb_ := q1b hx bb_
        replace hs3 := hs3.ext hx
        replace ht3 := ht3.ext hx
        replace hs4 := hs4.ext hx
        replace ht4 := ht4.ext hx
        replace hs5 := hs5.ext hx
        replace ht5 := ht5.ext hx
        replace hs6 := hs6.ext hx
        replace ht6 := ht6.ext hx
        replace z0 := hx.cell' z0
        replace z1 := hx.cell' z1
        replace z2 := hx.cell' z2
        replace z3 := hx.cell' z3
        replace HC := HC.trans hx
        replace HCut := HCut.trans hx
        replace HE := HE.trans hx
        clear hx
        repeat (refine wpE_q (v := ?_) rfl rfl (fun u hu => ?_) ?_; rotate_left 1; (focus (have ke := q1b hu be; have km := q1b hu bm; have ka_ := q1b hu ba_; have kb_ := q1b hu bb_; have kz0 := hu.cell' z0; have kz1 := hu.cell' z1; have kz2 := hu.cell' z2; have kz3 := hu.cell' z3; go_simp; (try rfl))); simp only [PU])
        refine wpE_l rfl rfl (fun K hK => ?_)
        go_simp
        refine (HON1.out _ (fq_of hs3 ht3 L4.out (by omega)) (fq_of hs4 ht4 L5.out (by omega)) (fq_of hs5 ht5 L6.out (by omega)) (fq_of hs6 ht6 L7.out (by omega)) (M1.out.ext HC) (M2.out.ext HC)).mono ?_
        rintro e u54 ⟨rfl, hx⟩
        refine hK.out _ _ hx ?_
        clear hK K
        try simp only [PU]
        replace be := q1b hx be
        replace bm := q1b hx bm
        replace ba_ := q1b hx ba_
        replace bb_ := q1b hx bb_
        replace hs3 := hs3.ext hx
        replace ht3 := ht3.ext hx
        replace hs4 := hs4.ext hx
        replace ht4 := ht4.ext hx
        replace hs5 := hs5.ext hx
        replace ht5 := ht5.ext hx
        replace hs6 := hs6.ext hx
        replace ht6 := ht6.ext hx
        replace z0 := hx.cell' z0
        replace z1 := hx.cell' z1
        replace z2 := hx.cell' z2
        replace z3 := hx.cell' z3
        replace HC := HC.trans hx
        replace HCut := HCut.trans hx
        replace HE := HE.trans hx
        clear hx
        repeat (refine wpE_q (v := ?_) rfl rfl (fun u hu => ?_) ?_; rotate_left 1; (focus (have ke := q1b hu be; have km := q1b hu bm; have ka_ := q1b hu ba_; have kb_ := q1b hu bb_; have kz0 := hu.cell' z0; have kz1 := hu.cell' z1; have kz2 := hu.cell' z2; have kz3 := hu.cell' z3; go_simp; (try rfl))); simp only [PU])
        refine wpE_done ?_
        go_wp2_with fail
        go_meet
        exact ⟨rfl, HCut⟩
      clear heq
      refine wp_region_plan (R := Ext) (.q 0 (.q 1 (.q 2 (.q 3 (.l 4 (.q 5 (.q 6 (.q 7 (.q 8 (.q 9 (.q 10 (.q 11 (.q 12 (.q 13 (.q 14 (.q 15 (.q 16 (.q 17 (.q 18 (.q 19 (.q 20 (.q 21 (.q 22 (.l 23 (.q 24 (.q 25 .done)))))))))))))))))))))))))) (by kernel_rfl) (by kernel_rfl) (by kernel_rfl) (by kernel_rfl) Ext.refl (fun _ _ _ => Ext.trans) ?_
      refine absE (fun x111 hx111 => ?_)
      have hx : Ext wc x111 := by rw [hx111]; exact (Ext.refl _).drew
      replace be := q1b hx be
      replace bm := q1b hx bm
      replace ba_ := q1b hx ba_
      replace bb_ := q1b hx bb_
      replace hs3 := hs3.ext hx
      replace ht3 := ht3.ext hx
      replace hs4 := hs4.ext hx
      replace ht4 := ht4.ext hx
      replace hs5 := hs5.ext hx
      replace ht5 := ht5.ext hx
      replace hs6 := hs6.ext hx
      replace ht6 := ht6.ext hx
      replace z0 := hx.cell' z0
      replace z1 := hx.cell' z1
      replace z2 := hx.cell' z2
      replace z3 := hx.cell' z3
      replace HC := HC.trans hx
      replace HCut := HCut.trans hx
      replace HE := HE.trans hx
      clear hx
      clear hx111
      repeat (refine wpE_q (v := ?_) rfl rfl (fun u hu => ?_) ?_; rotate_left 1; (focus (have ke := q1b hu be; have km := q1b hu bm; have ka_ := q1b hu ba_; have kb_ := q1b hu bb_; have kz0 := hu.cell' z0; have kz1 := hu.cell' z1; have kz2 := hu.cell' z2; have kz3 := hu.cell' z3; go_simp; (try rfl))); simp only [PU])
      refine wpE_l rfl rfl (fun K hK => ?_)
      go_simp
      refine (HMY1.out _).mono ?_
      rintro e u53 ⟨rfl, hx⟩
      refine hK.out _ _ hx ?_
      clear hK K
      try simp only [PU]
      replace be := q1b hx be
      replace bm := q1b hx bm
      replace ba_ := q1b hx ba_
      replace bb_ := q1b hx bb_
      replace hs3 := hs3.ext hx
      replace ht3 := ht3.ext hx
      replace hs4 := hs4.ext hx
      replace ht4 := ht4.ext hx
      replace hs5 := hs5.ext hx
      replace ht5 := ht5.ext hx
      replace hs6 := hs6.ext hx
      replace ht6 := ht6.ext hx
      replace z0 := hx.cell' z0
      replace z1 := hx.cell' z1
      replace z2 := hx.cell' z2
      replace z3 := hx.cell' z3
      replace HC := HC.trans hx
      replace HCut := HCut.trans hx
      replace HE := HE.trans hx
      clear hx
      repeat (refine wpE_q (v := ?_) rfl rfl (fun u hu => ?_) ?_; rotate_left 1; (focus (have ke := q1b hu be; have km := q1b hu bm; have ka_ := q1b hu ba_; have kb_ := q1b hu bb_; have kz0 := hu.cell' z0; have kz1 := hu.cell' z1; have kz2 := hu.cell' z2; have kz3 := hu.cell' z3; go_simp; (try rfl))); simp only [PU])
      refine wpE_l rfl rfl (fun K hK => ?_)
      go_simp
      refine (HON1.out _ (fq_of hs3 ht3 L4.out (by omega)) (fq_of hs4 ht4 L5.out (by omega)) (fq_of hs5 ht5 L6.out (by omega)) (fq_of hs6 ht6 L7.out (by omega)) (M1.out.ext HC) (M2.out.ext HC)).mono ?_
      rintro e u54 ⟨rfl, hx⟩
      refine hK.out _ _ hx ?_
      clear hK K
      try simp only [PU]
      replace be := q1b hx be
      replace bm := q1b hx bm
      replace ba_ := q1b hx ba_
      replace bb_ := q1b hx bb_
      replace hs3 := hs3.ext hx
      replace ht3 := ht3.ext hx
      replace hs4 := hs4.ext hx
      replace ht4 := ht4.ext hx
      replace hs5 := hs5.ext hx
      replace ht5 := ht5.ext hx
      replace hs6 := hs6.ext hx
      replace ht6 := ht6.ext hx
      replace z0 := hx.cell' z0
      replace z1 := hx.cell' z1
      replace z2 := hx.cell' z2
      replace z3 := hx.cell' z3
      replace HC := HC.trans hx
      replace HCut := HCut.trans hx
      replace HE := HE.trans hx
      clear hx
      repeat (refine wpE_q (v := ?_) rfl rfl (fun u hu => ?_) ?_; rotate_left 1; (focus (have ke := q1b hu be; have km := q1b hu bm; have ka_ := q1b hu ba_; have kb_ := q1b hu bb_; have kz0 := hu.cell' z0; have kz1 := hu.cell' z1; have kz2 := hu.cell' z2; have kz3 := hu.cell' z3; go_simp; (try rfl))); simp only [PU])
      refine wpE_done ?_
      go_wp2_with fail
      go_meet
      exact ⟨rfl, HCut⟩
     obtain ⟨rfl, hx⟩ := hcut
     replace be := q1b hx be
     replace bm := q1b hx bm
     replace ba_ := q1b hx ba_
     replace bb_ := q1b hx bb_
     replace hs3 := hs3.ext hx
     replace ht3 := ht3.ext hx
     replace hs4 := hs4.ext hx
     replace ht4 := ht4.ext hx
     replace hs5 := hs5.ext hx
     replace ht5 := ht5.ext hx
     replace hs6 := hs6.ext hx
     replace ht6 := ht6.ext hx
     replace z0 := hx.cell' z0
     replace z1 := hx.cell' z1
     replace z2 := hx.cell' z2
     replace z3 := hx.cell' z3
     replace HC := HC.trans hx
     replace HE := HE.trans hx
     clear hx
     cases bb
     · have hms : ms = true := by
        cases ms with
        | false => simp at hbb
        | true => rfl
       subst hms
       have hon : on = true := by
        cases on with
        | false => simp at hbb
        | true => rfl
       subst hon
       have heq : ¬ ((ax, ay) : Int × Int) = (ex, ey) := fun h => by rw [h] at hbb; simp at hbb
       rw [if_neg (fun h => by rcases h with h | h | h; cases h; exact heq h; cases h)] at hst
       clear heq hbb
       have HPA2 := hidP (HPA1.out rfl)
       clear HPA1
       go_wp2_with fail
       rcases hsd with h | h | h <;> subst h
       · have hR : R = none := by rw [hst, if_pos (by simp)]
         clear hst
         refine (HTU1.out _ (fq_of hs3 ht3 L4.out (by omega)) (fq_of hs4 ht4 L5.out (by omega)) (fq_of hs5 ht5 L6.out (by omega)) (fq_of hs6 ht6 L7.out (by omega)) (X1.out.ext HE) (Y1.out.ext HE)).mono ?_
         rintro e u55 ⟨rfl, hx⟩
         replace be := q1b hx be
         replace bm := q1b hx bm
         replace ba_ := q1b hx ba_
         replace bb_ := q1b hx bb_
         replace hs3 := hs3.ext hx
         replace ht3 := ht3.ext hx
         replace hs4 := hs4.ext hx
         replace ht4 := ht4.ext hx
         replace hs5 := hs5.ext hx
         replace ht5 := ht5.ext hx
         replace hs6 := hs6.ext hx
         replace ht6 := ht6.ext hx
         replace z0 := hx.cell' z0
         replace z1 := hx.cell' z1
         replace z2 := hx.cell' z2
         replace z3 := hx.cell' z3
         replace HC := HC.trans hx
         replace HE := HE.trans hx
         clear hx
         go_wp2_with fail
         go_ret3
         exact ⟨congrArg retB (show (0, 0, false) = besD cs cy R s0 sT by rw [hR]; unfold besD; rw [if_neg hne]), HE⟩
       · cases hk1 : (k1_ == 0)
         · cases hk2 : (k2_ == 0)
           · rw [if_neg (by simp [hk1, hk2])] at hst
             have HST2 := hidP hst.symm
             clear hst
             have HW := hidP (IntWalk.i64_in (o + pk) (by omega))
             refine (HTU1.out _ (fq_of hs3 ht3 L4.out (by omega)) (fq_of hs4 ht4 L5.out (by omega)) (fq_of hs5 ht5 L6.out (by omega)) (fq_of hs6 ht6 L7.out (by omega)) (X1.out.ext HE) (Y1.out.ext HE)).mono ?_
             rintro e u55 ⟨rfl, hx⟩
             replace be := q1b hx be
             replace bm := q1b hx bm
             replace ba_ := q1b hx ba_
             replace bb_ := q1b hx bb_
             replace hs3 := hs3.ext hx
             replace ht3 := ht3.ext hx
             replace hs4 := hs4.ext hx
             replace ht4 := ht4.ext hx
             replace hs5 := hs5.ext hx
             replace ht5 := ht5.ext hx
             replace hs6 := hs6.ext hx
             replace ht6 := ht6.ext hx
             replace z0 := hx.cell' z0
             replace z1 := hx.cell' z1
             replace z2 := hx.cell' z2
             replace z3 := hx.cell' z3
             replace HC := HC.trans hx
             replace HE := HE.trans hx
             clear hx
             go_wp2_with fail
             refine (HC11.out _ (fq_of hs3 ht3 L4.out (by omega)) (fq_of hs4 ht4 L5.out (by omega)) (M1.out.ext HC) (M2.out.ext HC)).mono ?_
             rintro e u56 ⟨rfl, hx⟩
             replace be := q1b hx be
             replace bm := q1b hx bm
             replace ba_ := q1b hx ba_
             replace bb_ := q1b hx bb_
             replace hs3 := hs3.ext hx
             replace ht3 := ht3.ext hx
             replace hs4 := hs4.ext hx
             replace ht4 := ht4.ext hx
             replace hs5 := hs5.ext hx
             replace ht5 := ht5.ext hx
             replace hs6 := hs6.ext hx
             replace ht6 := ht6.ext hx
             replace z0 := hx.cell' z0
             replace z1 := hx.cell' z1
             replace z2 := hx.cell' z2
             replace z3 := hx.cell' z3
             replace HC := HC.trans hx
             replace HE := HE.trans hx
             clear hx
             go_wp2_with fail
             refine (HC21.out _ (fq_of hs5 ht5 L6.out (by omega)) (fq_of hs6 ht6 L7.out (by omega)) (M1.out.ext HC) (M2.out.ext HC)).mono ?_
             rintro e u57 ⟨rfl, hx⟩
             replace be := q1b hx be
             replace bm := q1b hx bm
             replace ba_ := q1b hx ba_
             replace bb_ := q1b hx bb_
             replace hs3 := hs3.ext hx
             replace ht3 := ht3.ext hx
             replace hs4 := hs4.ext hx
             replace ht4 := ht4.ext hx
             replace hs5 := hs5.ext hx
             replace ht5 := ht5.ext hx
             replace hs6 := hs6.ext hx
             replace ht6 := ht6.ext hx
             replace z0 := hx.cell' z0
             replace z1 := hx.cell' z1
             replace z2 := hx.cell' z2
             replace z3 := hx.cell' z3
             replace HC := HC.trans hx
             replace HE := HE.trans hx
             clear hx
             go_wp2_with fail
             refine wp_region_plan (R := Ext) (.q 0 (.q 1 (.q 2 (.q 3 (.q 4 (.q 5 (.q 6 (.l 7 (.q 8 (.q 9 .done)))))))))) (by kernel_rfl) (by kernel_rfl) (by kernel_rfl) (by kernel_rfl) Ext.refl (fun _ _ _ => Ext.trans) ?_
             refine absE (fun x131 hx131 => ?_)
             have hx : Ext u57 x131 := by rw [hx131]; exact (Ext.refl _).drew
             replace be := q1b hx be
             replace bm := q1b hx bm
             replace ba_ := q1b hx ba_
             replace bb_ := q1b hx bb_
             replace hs3 := hs3.ext hx
             replace ht3 := ht3.ext hx
             replace hs4 := hs4.ext hx
             replace ht4 := ht4.ext hx
             replace hs5 := hs5.ext hx
             replace ht5 := ht5.ext hx
             replace hs6 := hs6.ext hx
             replace ht6 := ht6.ext hx
             replace z0 := hx.cell' z0
             replace z1 := hx.cell' z1
             replace z2 := hx.cell' z2
             replace z3 := hx.cell' z3
             replace HC := HC.trans hx
             replace HE := HE.trans hx
             clear hx
             clear hx131
             repeat (refine wpE_q (v := ?_) rfl rfl (fun u hu => ?_) ?_; rotate_left 1; (focus (have ke := q1b hu be; have km := q1b hu bm; have ka_ := q1b hu ba_; have kb_ := q1b hu bb_; have kz0 := hu.cell' z0; have kz1 := hu.cell' z1; have kz2 := hu.cell' z2; have kz3 := hu.cell' z3; have wq := HW.out; go_simp; (try rfl))); simp only [PU])
             refine wpE_l rfl rfl (fun K hK => ?_)
             go_simp
             refine (HPA2.out _ (M2.out.ext HC)).mono ?_
             rintro e u58 ⟨rfl, hx⟩
             refine hK.out _ _ hx ?_
             clear hK K
             try simp only [PU]
             replace be := q1b hx be
             replace bm := q1b hx bm
             replace ba_ := q1b hx ba_
             replace bb_ := q1b hx bb_
             replace hs3 := hs3.ext hx
             replace ht3 := ht3.ext hx
             replace hs4 := hs4.ext hx
             replace ht4 := ht4.ext hx
             replace hs5 := hs5.ext hx
             replace ht5 := ht5.ext hx
             replace hs6 := hs6.ext hx
             replace ht6 := ht6.ext hx
             replace z0 := hx.cell' z0
             replace z1 := hx.cell' z1
             replace z2 := hx.cell' z2
             replace z3 := hx.cell' z3
             replace HC := HC.trans hx
             replace HE := HE.trans hx
             clear hx
             repeat (refine wpE_q (v := ?_) rfl rfl (fun u hu => ?_) ?_; rotate_left 1; (focus (have ke := q1b hu be; have km := q1b hu bm; have ka_ := q1b hu ba_; have kb_ := q1b hu bb_; have kz0 := hu.cell' z0; have kz1 := hu.cell' z1; have kz2 := hu.cell' z2; have kz3 := hu.cell' z3; have wq := HW.out; go_simp; (try rfl))); simp only [PU])
             refine wpE_done ?_
             go_wp2_with fail
             go_roundw
             case rel => exact ⟨j + 1, o + pk, by omega, rfl, by go_num, by omega, by omega, be, bm, HST2, HC, HE⟩
             case measure => simp only [intOf]; omega
           have hR : R = none := by rw [hst, if_pos (by simp [hk1, hk2])]
           clear hst
           refine (HTU1.out _ (fq_of hs3 ht3 L4.out (by omega)) (fq_of hs4 ht4 L5.out (by omega)) (fq_of hs5 ht5 L6.out (by omega)) (fq_of hs6 ht6 L7.out (by omega)) (X1.out.ext HE) (Y1.out.ext HE)).mono ?_
           rintro e u55 ⟨rfl, hx⟩
           replace be := q1b hx be
           replace bm := q1b hx bm
           replace ba_ := q1b hx ba_
           replace bb_ := q1b hx bb_
           replace hs3 := hs3.ext hx
           replace ht3 := ht3.ext hx
           replace hs4 := hs4.ext hx
           replace ht4 := ht4.ext hx
           replace hs5 := hs5.ext hx
           replace ht5 := ht5.ext hx
           replace hs6 := hs6.ext hx
           replace ht6 := ht6.ext hx
           replace z0 := hx.cell' z0
           replace z1 := hx.cell' z1
           replace z2 := hx.cell' z2
           replace z3 := hx.cell' z3
           replace HC := HC.trans hx
           replace HE := HE.trans hx
           clear hx
           go_wp2_with fail
           refine (HC11.out _ (fq_of hs3 ht3 L4.out (by omega)) (fq_of hs4 ht4 L5.out (by omega)) (M1.out.ext HC) (M2.out.ext HC)).mono ?_
           rintro e u56 ⟨rfl, hx⟩
           replace be := q1b hx be
           replace bm := q1b hx bm
           replace ba_ := q1b hx ba_
           replace bb_ := q1b hx bb_
           replace hs3 := hs3.ext hx
           replace ht3 := ht3.ext hx
           replace hs4 := hs4.ext hx
           replace ht4 := ht4.ext hx
           replace hs5 := hs5.ext hx
           replace ht5 := ht5.ext hx
           replace hs6 := hs6.ext hx
           replace ht6 := ht6.ext hx
           replace z0 := hx.cell' z0
           replace z1 := hx.cell' z1
           replace z2 := hx.cell' z2
           replace z3 := hx.cell' z3
           replace HC := HC.trans hx
           replace HE := HE.trans hx
           clear hx
           go_wp2_with fail
           refine (HC21.out _ (fq_of hs5 ht5 L6.out (by omega)) (fq_of hs6 ht6 L7.out (by omega)) (M1.out.ext HC) (M2.out.ext HC)).mono ?_
           rintro e u57 ⟨rfl, hx⟩
           replace be := q1b hx be
           replace bm := q1b hx bm
           replace ba_ := q1b hx ba_
           replace bb_ := q1b hx bb_
           replace hs3 := hs3.ext hx
           replace ht3 := ht3.ext hx
           replace hs4 := hs4.ext hx
           replace ht4 := ht4.ext hx
           replace hs5 := hs5.ext hx
           replace ht5 := ht5.ext hx
           replace hs6 := hs6.ext hx
           replace ht6 := ht6.ext hx
           replace z0 := hx.cell' z0
           replace z1 := hx.cell' z1
           replace z2 := hx.cell' z2
           replace z3 := hx.cell' z3
           replace HC := HC.trans hx
           replace HE := HE.trans hx
           clear hx
           go_wp2_with fail
           go_ret3
           exact ⟨congrArg retB (show (0, 0, false) = besD cs cy R s0 sT by rw [hR]; unfold besD; rw [if_neg hne]), HE⟩
         have hR : R = none := by rw [hst, if_pos (by simp [hk1])]
         clear hst
         refine (HTU1.out _ (fq_of hs3 ht3 L4.out (by omega)) (fq_of hs4 ht4 L5.out (by omega)) (fq_of hs5 ht5 L6.out (by omega)) (fq_of hs6 ht6 L7.out (by omega)) (X1.out.ext HE) (Y1.out.ext HE)).mono ?_
         rintro e u55 ⟨rfl, hx⟩
         replace be := q1b hx be
         replace bm := q1b hx bm
         replace ba_ := q1b hx ba_
         replace bb_ := q1b hx bb_
         replace hs3 := hs3.ext hx
         replace ht3 := ht3.ext hx
         replace hs4 := hs4.ext hx
         replace ht4 := ht4.ext hx
         replace hs5 := hs5.ext hx
         replace ht5 := ht5.ext hx
         replace hs6 := hs6.ext hx
         replace ht6 := ht6.ext hx
         replace z0 := hx.cell' z0
         replace z1 := hx.cell' z1
         replace z2 := hx.cell' z2
         replace z3 := hx.cell' z3
         replace HC := HC.trans hx
         replace HE := HE.trans hx
         clear hx
         go_wp2_with fail
         refine (HC11.out _ (fq_of hs3 ht3 L4.out (by omega)) (fq_of hs4 ht4 L5.out (by omega)) (M1.out.ext HC) (M2.out.ext HC)).mono ?_
         rintro e u56 ⟨rfl, hx⟩
         replace be := q1b hx be
         replace bm := q1b hx bm
         replace ba_ := q1b hx ba_
         replace bb_ := q1b hx bb_
         replace hs3 := hs3.ext hx
         replace ht3 := ht3.ext hx
         replace hs4 := hs4.ext hx
         replace ht4 := ht4.ext hx
         replace hs5 := hs5.ext hx
         replace ht5 := ht5.ext hx
         replace hs6 := hs6.ext hx
         replace ht6 := ht6.ext hx
         replace z0 := hx.cell' z0
         replace z1 := hx.cell' z1
         replace z2 := hx.cell' z2
         replace z3 := hx.cell' z3
         replace HC := HC.trans hx
         replace HE := HE.trans hx
         clear hx
         go_wp2_with fail
         go_ret3
         exact ⟨congrArg retB (show (0, 0, false) = besD cs cy R s0 sT by rw [hR]; unfold besD; rw [if_neg hne]), HE⟩
       have hR : R = none := by rw [hst, if_pos (by simp)]
       clear hst
       refine (HTU1.out _ (fq_of hs3 ht3 L4.out (by omega)) (fq_of hs4 ht4 L5.out (by omega)) (fq_of hs5 ht5 L6.out (by omega)) (fq_of hs6 ht6 L7.out (by omega)) (X1.out.ext HE) (Y1.out.ext HE)).mono ?_
       rintro e u55 ⟨rfl, hx⟩
       replace be := q1b hx be
       replace bm := q1b hx bm
       replace ba_ := q1b hx ba_
       replace bb_ := q1b hx bb_
       replace hs3 := hs3.ext hx
       replace ht3 := ht3.ext hx
       replace hs4 := hs4.ext hx
       replace ht4 := ht4.ext hx
       replace hs5 := hs5.ext hx
       replace ht5 := ht5.ext hx
       replace hs6 := hs6.ext hx
       replace ht6 := ht6.ext hx
       replace z0 := hx.cell' z0
       replace z1 := hx.cell' z1
       replace z2 := hx.cell' z2
       replace z3 := hx.cell' z3
       replace HC := HC.trans hx
       replace HE := HE.trans hx
       clear hx
       go_wp2_with fail
       go_ret3
       exact ⟨congrArg retB (show (0, 0, false) = besD cs cy R s0 sT by rw [hR]; unfold besD; rw [if_neg hne]), HE⟩
     have hm : ms = false ∨ ((ax, ay) : Int × Int) = (ex, ey) ∨ on = false := by
      cases ms with
      | false => exact Or.inl rfl
      | true => cases on with
       | false => exact Or.inr (Or.inr rfl)
       | true => exact Or.inr (Or.inl (of_decide_eq_true (by simpa using hbb.symm)))
     have HST2 : Hid (besL x1 y1 q r (l.drop (j + 1)) o = R) := hidP (by rw [hst, if_pos hm])
     clear hst hbb hm
     go_wp2_with fail
     go_roundw
     case rel => exact ⟨j + 1, o, by omega, rfl, by go_num, by omega, by omega, be, bm, HST2, HC, HE⟩
     case measure => simp only [intOf]; omega
   obtain rfl : j = sn := by omega
   have hr : some o = R := by have := HJ.out; rwa [List.drop_of_length_le (by rw [HLN.out]; omega)] at this
   subst hr
   clear HJ
   have hob := HBD.out o rfl
   rw [HLN.out] at hob
   have hsb0 := HS0; have hsb1 := HS1
   rcases hb2 with h2 | h2 | h2 <;> subst h2
   · rcases hb1 with h1 | h1 | h1
     · subst h1
       have HRR := hidP (show besD (-1) (-1) (some o) s0 sT = (s0 + o, s0, true) by simp [besD])
       go_wp2_with fail
       refine (HSF.out _ (H.out.ext HE) (M1.out.ext HC) (M2.out.ext HC)).mono ?_
       rintro e u61 ⟨rfl, hx⟩
       replace be := q1b hx be
       replace bm := q1b hx bm
       replace HC := HC.trans hx
       replace HE := HE.trans hx
       clear hx
       go_wp2_with fail
       refine (A1.out _ (X1.out.ext HE) (Y1.out.ext HE) (X2.out.ext HE) (Y2.out.ext HE)).mono ?_
       rintro e u63 ⟨rfl, hx⟩
       replace be := q1b hx be
       replace bm := q1b hx bm
       replace HC := HC.trans hx
       replace HE := HE.trans hx
       clear hx
       go_wp2_with fail
       refine (A4.out _ (Y1.out.ext HE) (Y2.out.ext HE)).mono ?_
       rintro e u64 ⟨rfl, hx⟩
       replace be := q1b hx be
       replace bm := q1b hx bm
       replace HC := HC.trans hx
       replace HE := HE.trans hx
       clear hx
       go_wp2_with fail
       go_ret3
       exact ⟨congrArg retB HRR.out.symm, HE⟩
     · subst h1
       exact absurd rfl hne
     subst h1
     have HRR := hidP (show besD (1) (-1) (some o) s0 sT = (s0 + o, s0, true) by simp [besD])
     go_wp2_with fail
     refine (HSF.out _ (H.out.ext HE) (M1.out.ext HC) (M2.out.ext HC)).mono ?_
     rintro e u61 ⟨rfl, hx⟩
     replace be := q1b hx be
     replace bm := q1b hx bm
     replace HC := HC.trans hx
     replace HE := HE.trans hx
     clear hx
     go_wp2_with fail
     refine (A1.out _ (X1.out.ext HE) (Y1.out.ext HE) (X2.out.ext HE) (Y2.out.ext HE)).mono ?_
     rintro e u63 ⟨rfl, hx⟩
     replace be := q1b hx be
     replace bm := q1b hx bm
     replace HC := HC.trans hx
     replace HE := HE.trans hx
     clear hx
     go_wp2_with fail
     refine (A4.out _ (Y1.out.ext HE) (Y2.out.ext HE)).mono ?_
     rintro e u64 ⟨rfl, hx⟩
     replace be := q1b hx be
     replace bm := q1b hx bm
     replace HC := HC.trans hx
     replace HE := HE.trans hx
     clear hx
     go_wp2_with fail
     go_ret3
     exact ⟨congrArg retB HRR.out.symm, HE⟩
   · rcases hb1 with h1 | h1 | h1
     · subst h1
       have HRR := hidP (show besD (-1) (0) (some o) s0 sT = (s0, sT, true) by simp [besD])
       go_wp2_with fail
       refine (HSF.out _ (H.out.ext HE) (M1.out.ext HC) (M2.out.ext HC)).mono ?_
       rintro e u61 ⟨rfl, hx⟩
       replace be := q1b hx be
       replace bm := q1b hx bm
       replace HC := HC.trans hx
       replace HE := HE.trans hx
       clear hx
       go_wp2_with fail
       refine (HSTT.out _ (H.out.ext HE) (M1.out.ext HC) (M2.out.ext HC)).mono ?_
       rintro e u62 ⟨rfl, hx⟩
       replace be := q1b hx be
       replace bm := q1b hx bm
       replace HC := HC.trans hx
       replace HE := HE.trans hx
       clear hx
       go_wp2_with fail
       refine (A1.out _ (X1.out.ext HE) (Y1.out.ext HE) (X2.out.ext HE) (Y2.out.ext HE)).mono ?_
       rintro e u63 ⟨rfl, hx⟩
       replace be := q1b hx be
       replace bm := q1b hx bm
       replace HC := HC.trans hx
       replace HE := HE.trans hx
       clear hx
       go_wp2_with fail
       go_ret3
       exact ⟨congrArg retB HRR.out.symm, HE⟩
     · subst h1
       exact absurd rfl hne
     subst h1
     have HRR := hidP (show besD (1) (0) (some o) s0 sT = (sT, s0, true) by simp [besD])
     go_wp2_with fail
     refine (HSF.out _ (H.out.ext HE) (M1.out.ext HC) (M2.out.ext HC)).mono ?_
     rintro e u61 ⟨rfl, hx⟩
     replace be := q1b hx be
     replace bm := q1b hx bm
     replace HC := HC.trans hx
     replace HE := HE.trans hx
     clear hx
     go_wp2_with fail
     refine (HSTT.out _ (H.out.ext HE) (M1.out.ext HC) (M2.out.ext HC)).mono ?_
     rintro e u62 ⟨rfl, hx⟩
     replace be := q1b hx be
     replace bm := q1b hx bm
     replace HC := HC.trans hx
     replace HE := HE.trans hx
     clear hx
     go_wp2_with fail
     refine (A1.out _ (X1.out.ext HE) (Y1.out.ext HE) (X2.out.ext HE) (Y2.out.ext HE)).mono ?_
     rintro e u63 ⟨rfl, hx⟩
     replace be := q1b hx be
     replace bm := q1b hx bm
     replace HC := HC.trans hx
     replace HE := HE.trans hx
     clear hx
     go_wp2_with fail
     refine (A4.out _ (Y1.out.ext HE) (Y2.out.ext HE)).mono ?_
     rintro e u64 ⟨rfl, hx⟩
     replace be := q1b hx be
     replace bm := q1b hx bm
     replace HC := HC.trans hx
     replace HE := HE.trans hx
     clear hx
     go_wp2_with fail
     go_ret3
     exact ⟨congrArg retB HRR.out.symm, HE⟩
   rcases hb1 with h1 | h1 | h1
   · subst h1
     have HRR := hidP (show besD (-1) (1) (some o) s0 sT = (s0, s0 + o, true) by simp [besD])
     go_wp2_with fail
     refine (HSF.out _ (H.out.ext HE) (M1.out.ext HC) (M2.out.ext HC)).mono ?_
     rintro e u61 ⟨rfl, hx⟩
     replace be := q1b hx be
     replace bm := q1b hx bm
     replace HC := HC.trans hx
     replace HE := HE.trans hx
     clear hx
     go_wp2_with fail
     refine (A1.out _ (X1.out.ext HE) (Y1.out.ext HE) (X2.out.ext HE) (Y2.out.ext HE)).mono ?_
     rintro e u63 ⟨rfl, hx⟩
     replace be := q1b hx be
     replace bm := q1b hx bm
     replace HC := HC.trans hx
     replace HE := HE.trans hx
     clear hx
     go_wp2_with fail
     refine (A4.out _ (Y1.out.ext HE) (Y2.out.ext HE)).mono ?_
     rintro e u64 ⟨rfl, hx⟩
     replace be := q1b hx be
     replace bm := q1b hx bm
     replace HC := HC.trans hx
     replace HE := HE.trans hx
     clear hx
     go_wp2_with fail
     go_ret3
     exact ⟨congrArg retB HRR.out.symm, HE⟩
   · subst h1
     exact absurd rfl hne
   subst h1
   have HRR := hidP (show besD (1) (1) (some o) s0 sT = (s0, s0 + o, true) by simp [besD])
   go_wp2_with fail
   refine (HSF.out _ (H.out.ext HE) (M1.out.ext HC) (M2.out.ext HC)).mono ?_
   rintro e u61 ⟨rfl, hx⟩
   replace be := q1b hx be
   replace bm := q1b hx bm
   replace HC := HC.trans hx
   replace HE := HE.trans hx
   clear hx
   go_wp2_with fail
   refine (A1.out _ (X1.out.ext HE) (Y1.out.ext HE) (X2.out.ext HE) (Y2.out.ext HE)).mono ?_
   rintro e u63 ⟨rfl, hx⟩
   replace be := q1b hx be
   replace bm := q1b hx bm
   replace HC := HC.trans hx
   replace HE := HE.trans hx
   clear hx
   go_wp2_with fail
   refine (A4.out _ (Y1.out.ext HE) (Y2.out.ext HE)).mono ?_
   rintro e u64 ⟨rfl, hx⟩
   replace be := q1b hx be
   replace bm := q1b hx bm
   replace HC := HC.trans hx
   replace HE := HE.trans hx
   clear hx
   go_wp2_with fail
   go_ret3
   exact ⟨congrArg retB HRR.out.symm, HE⟩
 obtain rfl : cs = 0 := by simpa using hcs
 go_enter Tryz.func15, Tryz.ntmps15
 go_wp2_with fail
 refine absC (fun x41 hx41 => ?_)
 have hx : Ext w x41 := by rw [hx41]; exact ((Ext.refl _).alloc _)
 have be : Bl x41 (w.heap.size) #[.bool bx1, .slice ax1 nx1 cx1, .slice dx1 mx1 kx1, .bool by1, .slice ay1 ny1 cy1, .slice dy1 my1 ky1, .bool bx2, .slice ax2 nx2 cx2, .slice dx2 mx2 kx2, .bool by2, .slice ay2 ny2 cy2, .slice dy2 my2 ky2] := by rw [hx41]; exact (Bl.new (by simp))
 have HE := hx
 clear hx
 clear hx41
 refine (A1.out _ (X1.out.ext HE) (Y1.out.ext HE) (X2.out.ext HE) (Y2.out.ext HE)).mono ?_
 rintro e u91 ⟨rfl, hx⟩
 replace be := q1b hx be
 replace HE := HE.trans hx
 clear hx
 go_wp2_with fail
 go_ret3
 exact ⟨congrArg retB (show (0, 0, false) = besD 0 cy R s0 sT by simp [besD]), HE⟩
end Go.Proofs.YtgjjalnmigdjgaaGreat
