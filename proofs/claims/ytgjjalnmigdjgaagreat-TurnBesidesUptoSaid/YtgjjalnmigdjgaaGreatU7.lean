/- Turns, in the document: what a way counts. -/
import Derived.Test.YtgjjalnmigdjgaaGreatU6
import Derived.Test.YtgjjalnmigdjgaaGreatSP
import Derived.Deep.CutBlock
namespace Go.Proofs.YtgjjalnmigdjgaaGreat
set_option linter.unusedVariables false
set_option linter.unusedSimpArgs false
open Go Go.RowKit
set_option maxRecDepth 100000 in
set_option maxHeartbeats 4000000 in
theorem r17_May (ax ay ex ey : Int) (w : World) :
    Calls Tryz.prog 41 #[.agg #[.int .i64 ax, .int .i64 ay, .int .i64 ex, .int .i64 ey]] w fun e w' => e = .returned (.bool (fitP ax ay && fitP ex ey)) ∧ Ext w w' := by
  have H1 := hidP (fun u => d_Fits ax ay u)
  have H2 := hidP (fun u => d_Fits ex ey u)
  generalize fitP ax ay = f1 at *
  generalize fitP ex ey = f2 at *
  cases f1
  · go_enter Tryz.func41, Tryz.ntmps41
    go_wp2_with fail
    refine absC (fun x1 hx1 => ?_)
    have hx : Ext w x1 := by rw [hx1]; exact ((Ext.refl _).alloc _)
    have bp : Bl x1 (w.heap.size) #[.int .i64 ax, .int .i64 ay, .int .i64 ex, .int .i64 ey] := by rw [hx1]; exact (Bl.new (by simp))
    have HE := hx
    clear hx
    clear hx1
    refine (H1.out _).mono ?_
    rintro e u1 ⟨rfl, hx⟩
    replace bp := q1b hx bp
    replace HE := HE.trans hx
    clear hx
    go_wp2_with fail
    go_ret
    exact ⟨rfl, HE⟩
  · go_enter Tryz.func41, Tryz.ntmps41
    go_wp2_with fail
    refine absC (fun x1 hx1 => ?_)
    have hx : Ext w x1 := by rw [hx1]; exact ((Ext.refl _).alloc _)
    have bp : Bl x1 (w.heap.size) #[.int .i64 ax, .int .i64 ay, .int .i64 ex, .int .i64 ey] := by rw [hx1]; exact (Bl.new (by simp))
    have HE := hx
    clear hx
    clear hx1
    refine (H1.out _).mono ?_
    rintro e u1 ⟨rfl, hx⟩
    replace bp := q1b hx bp
    replace HE := HE.trans hx
    clear hx
    go_wp2_with fail
    refine (H2.out _).mono ?_
    rintro e u2 ⟨rfl, hx⟩
    replace bp := q1b hx bp
    replace HE := HE.trans hx
    clear hx
    go_wp2_with fail
    go_ret
    exact ⟨rfl, HE⟩
/-- 1: from under a height to above it; -1: from above. -/
def pastF (a b : Int) : Int := if a ≤ 0 ∧ 0 < b then 1 else if b ≤ 0 ∧ 0 < a then -1 else 0
theorem past_up (ay ey : Int) (r : Rat) : pastF (cmpQ (ay : Rat) r) (cmpQ (ey : Rat) r) = upF (decide ((ay : Rat) ≤ r)) (decide ((ey : Rat) ≤ r)) := by
  rw [← cmpQ_le, ← cmpQ_le]
  rcases cmpQ_bd (ay : Rat) r with h | h | h <;> rcases cmpQ_bd (ey : Rat) r with h2 | h2 | h2 <;> rw [h, h2] <;> rfl
theorem past_dn (ay ey : Int) (r : Rat) : pastF (cmpQ (ay : Rat) r + 1) (cmpQ (ey : Rat) r + 1) = upF (decide ((ay : Rat) < r)) (decide ((ey : Rat) < r)) := by
  rw [← cmpQ_lt, ← cmpQ_lt]
  rcases cmpQ_bd (ay : Rat) r with h | h | h <;> rcases cmpQ_bd (ey : Rat) r with h2 | h2 | h2 <;> rw [h, h2] <;> rfl
set_option maxRecDepth 100000 in
set_option maxHeartbeats 8000000 in
theorem r19_past {b' : Bool} {a' d' : Option Addr} {n' c' m' k' : Nat} {r : Rat} {N : Nat} (ax ay ex ey : Int) (st : Bool) (w : World) (hy : Fq w b' a' n' c' d' m' k' r N) (hN : N ≤ 17179869184) (y1 : -8388607 ≤ ay) (y2 : ay ≤ 8388607) (y3 : -8388607 ≤ ey) (y4 : ey ≤ 8388607) :
    Calls Tryz.prog 50 #[.agg #[.int .i64 ax, .int .i64 ay, .int .i64 ex, .int .i64 ey], .agg #[.bool b', .slice a' n' c', .slice d' m' k'], .bool st] w fun e w' => e = .returned (.int .i64 (if st = true then pastF (cmpQ (ay : Rat) r + 1) (cmpQ (ey : Rat) r + 1) else pastF (cmpQ (ay : Rat) r) (cmpQ (ey : Rat) r))) ∧ Ext w w' := by
 have HY := hidP hy
 have I1 := hidP (fun u => gq_Int ay u (by omega) (by omega)); have I2 := hidP (fun u => gq_Int ey u (by omega) (by omega))
 have Q1 := hidP (ql_int (n := ay) (by omega) (by omega)); have Q2 := hidP (ql_int (n := ey) (by omega) (by omega))
 have e1 := cmpQ_bd (ay : Rat) r; have e2 := cmpQ_bd (ey : Rat) r
 generalize (ay : Rat) = r1 at *
 generalize (ey : Rat) = r2 at *
 have C1 := hidP (fun u {g1 : Bool} {f1 f2 : Option Addr} {i1 j1 p1 q1 : Nat} (t1 : Fq u g1 f1 i1 j1 f2 p1 q1 r1 2) (t2 : Fq u b' a' n' c' d' m' k' r N) => gq_Cmp t1 t2 (by omega) (by omega))
 have C2 := hidP (fun u {g1 : Bool} {f1 f2 : Option Addr} {i1 j1 p1 q1 : Nat} (t1 : Fq u g1 f1 i1 j1 f2 p1 q1 r2 2) (t2 : Fq u b' a' n' c' d' m' k' r N) => gq_Cmp t1 t2 (by omega) (by omega))
 generalize cmpQ r1 r = u1 at *
 generalize cmpQ r2 r = u2 at *
 clear hy
 have hX : Hid (∀ v : Int, (if st = true then pastF (u1 + 1) (u2 + 1) else pastF u1 u2) = v → True) := hidP (fun _ _ => trivial)
 clear hX
 cases st
 all_goals (
  rcases e1 with h | h | h <;> subst h
  all_goals (
   rcases e2 with h | h | h <;> subst h
   all_goals (
    go_enter Tryz.func50, Tryz.ntmps50
    go_wp2_with fail
    refine absW (fun x1 hx1 => ?_)
    have hx : Ext w x1 := by rw [hx1]; exact (((Ext.refl _).alloc _).alloc _)
    have bp : Bl x1 (w.heap.size) #[.int .i64 ax, .int .i64 ay, .int .i64 ex, .int .i64 ey] := by rw [hx1]; exact ((Bl.new (by simp)).alloc (by simp))
    have bq : Bl x1 (w.heap.size + 1) #[.bool b', .slice a' n' c', .slice d' m' k'] := by rw [hx1]; exact (Bl.new (by simp))
    have HE := hx
    clear hx
    clear hx1
    refine wp_region_plan (R := Ext) (.q 0 (.q 1 (.q 2 (.q 4 (.q 6 (.q 7 (.q 8 (.q 10 (.l 3 (.l 5 (.l 9 (.l 11 (.q 12 (.q 13 .done)))))))))))))) (by kernel_rfl) (by kernel_rfl) (by kernel_rfl) (by kernel_rfl) Ext.refl (fun _ _ _ => Ext.trans) ?_
    refine absE (fun x2 hx2 => ?_)
    have hx : Ext x1 x2 := by rw [hx2]; exact (Ext.refl _).drew
    replace bp := q1b hx bp
    replace bq := q1b hx bq
    replace HE := HE.trans hx
    clear hx
    clear hx2
    repeat (refine wpE_q (v := ?_) rfl rfl (fun u hu => ?_) ?_; rotate_left 1; (focus (have kp := q1b hu bp; have kq := q1b hu bq; go_simp; (try rfl))); simp only [PU])
    refine wpE_l rfl rfl (fun K hK => ?_)
    go_simp
    refine (I1.out _).mono ?_
    rintro e u11 ⟨a11, n11, c11, d11, m11, k11, rfl, hs11, ht11, hx⟩
    refine hK.out _ _ hx ?_
    clear hK K
    try simp only [PU]
    replace bp := q1b hx bp
    replace bq := q1b hx bq
    replace HE := HE.trans hx
    clear hx
    replace hs11 : Nc u11 a11 n11 c11 (r1.num).natAbs := hs11
    replace ht11 : Nc u11 d11 m11 k11 (r1.den) := ht11
    refine wpE_l rfl rfl (fun K hK => ?_)
    go_simp
    refine (C1.out _ (fq_of hs11 ht11 Q1.out (by omega)) (HY.out.ext HE)).mono ?_
    rintro e u12 ⟨rfl, hx⟩
    refine hK.out _ _ hx ?_
    clear hK K
    try simp only [PU]
    replace bp := q1b hx bp
    replace bq := q1b hx bq
    replace hs11 := hs11.ext hx
    replace ht11 := ht11.ext hx
    replace HE := HE.trans hx
    clear hx
    refine wpE_l rfl rfl (fun K hK => ?_)
    go_simp
    refine (I2.out _).mono ?_
    rintro e u13 ⟨a13, n13, c13, d13, m13, k13, rfl, hs13, ht13, hx⟩
    refine hK.out _ _ hx ?_
    clear hK K
    try simp only [PU]
    replace bp := q1b hx bp
    replace bq := q1b hx bq
    replace hs11 := hs11.ext hx
    replace ht11 := ht11.ext hx
    replace HE := HE.trans hx
    clear hx
    replace hs13 : Nc u13 a13 n13 c13 (r2.num).natAbs := hs13
    replace ht13 : Nc u13 d13 m13 k13 (r2.den) := ht13
    refine wpE_l rfl rfl (fun K hK => ?_)
    go_simp
    refine (C2.out _ (fq_of hs13 ht13 Q2.out (by omega)) (HY.out.ext HE)).mono ?_
    rintro e u14 ⟨rfl, hx⟩
    refine hK.out _ _ hx ?_
    clear hK K
    try simp only [PU]
    replace bp := q1b hx bp
    replace bq := q1b hx bq
    replace hs11 := hs11.ext hx
    replace ht11 := ht11.ext hx
    replace hs13 := hs13.ext hx
    replace ht13 := ht13.ext hx
    replace HE := HE.trans hx
    clear hx
    repeat (refine wpE_q (v := ?_) rfl rfl (fun u hu => ?_) ?_; rotate_left 1; (focus (have kp := q1b hu bp; have kq := q1b hu bq; go_simp; (try rfl))); simp only [PU])
    refine wpE_done ?_
    go_wp2_with fail
    go_ret
    exact ⟨rfl, HE⟩)))
/-- Where a way is at a height. -/
def rightX (ax ay ex ey r : Rat) : Rat := ax + (r - ay) / (ey - ay) * (ex - ax)
set_option maxRecDepth 100000 in
set_option maxHeartbeats 8000000 in
theorem r19_right {b b' : Bool} {a d a' d' : Option Addr} {n c m k n' c' m' k' : Nat} {q r : Rat} {N : Nat} (ax ay ex ey : Int) (w : World) (hx : Fq w b a n c d m k q N) (hy : Fq w b' a' n' c' d' m' k' r N) (hN : N ≤ 8589934592) (hN1 : 1 ≤ N) (x1 : -8388607 ≤ ax) (x2 : ax ≤ 8388607) (y1 : -8388607 ≤ ay) (y2 : ay ≤ 8388607) (x3 : -8388607 ≤ ex) (x4 : ex ≤ 8388607) (y3 : -8388607 ≤ ey) (y4 : ey ≤ 8388607) (hne : (ey : Rat) - (ay : Rat) ≠ 0) :
    Calls Tryz.prog 81 #[.agg #[.int .i64 ax, .int .i64 ay, .int .i64 ex, .int .i64 ey], .agg #[.bool b, .slice a n c, .slice d m k, .bool b', .slice a' n' c', .slice d' m' k']] w fun e w' => e = .returned (.bool (decide (q < rightX (ax : Rat) (ay : Rat) (ex : Rat) (ey : Rat) r))) ∧ Ext w w' := by
 have HX := hidP hx; have HY := hidP hy
 have I1 := hidP (fun u => rp_At ax ay u (by omega) (by omega) (by omega) (by omega)); have I2 := hidP (fun u => rp_At ex ey u (by omega) (by omega) (by omega) (by omega))
 have z1 := ql_int (n := ax) (by omega) (by omega); have z2 := ql_int (n := ay) (by omega) (by omega); have z3 := ql_int (n := ex) (by omega) (by omega); have z4 := ql_int (n := ey) (by omega) (by omega)
 unfold rightX
 generalize (ax : Rat) = q1 at *
 generalize (ay : Rat) = q2 at *
 generalize (ex : Rat) = q3 at *
 generalize (ey : Rat) = q4 at *
 have s1 := ql_sub (hy.ql hN1) z2; have s2 := ql_sub z4 z2; have s3 := ql_sub z3 z1
 have s4 := ql_div s1 s2 (by omega) (by omega); have s5 := ql_mul s4 s3 (by omega); have s6 := ql_add z1 s5
 have Z1 := hidP z1; have Z2 := hidP z2; have Z3 := hidP z3; have Z4 := hidP z4
 have L1 := hidP s1; have L2 := hidP s2; have L3 := hidP s3; have L4 := hidP s4; have L5 := hidP s5; have L6 := hidP s6
 have hcm := cmpQ_lt q (q1 + (r - q2) / (q4 - q2) * (q3 - q1))
 have hcc : decide (0 < cmpQ (q1 + (r - q2) / (q4 - q2) * (q3 - q1)) q) = decide (q < q1 + (r - q2) / (q4 - q2) * (q3 - q1)) := by
  have h1 := cmpQ_le (q1 + (r - q2) / (q4 - q2) * (q3 - q1)) q
  have e1 : cmpQ (q1 + (r - q2) / (q4 - q2) * (q3 - q1)) q ≤ 0 ↔ q1 + (r - q2) / (q4 - q2) * (q3 - q1) ≤ q := by simpa using h1
  refine decide_eq_decide.2 ?_
  rw [← Int.not_le, e1, Rat.not_le]
 have A1 := hidP (fun u {g1 : Bool} {e1 f1 : Option Addr} {i1 j1 p1 o1 : Nat} {g2 : Bool} {e2 f2 : Option Addr} {i2 j2 p2 o2 : Nat} (t1 : Fq u g1 e1 i1 j1 f1 p1 o1 (r) (N)) (t2 : Fq u g2 e2 i2 j2 f2 p2 o2 (q2) (2)) => gq_Sub t1 t2 (by omega) (by omega) (by omega))
 have A2 := hidP (fun u {g1 : Bool} {e1 f1 : Option Addr} {i1 j1 p1 o1 : Nat} {g2 : Bool} {e2 f2 : Option Addr} {i2 j2 p2 o2 : Nat} (t1 : Fq u g1 e1 i1 j1 f1 p1 o1 (q4) (2)) (t2 : Fq u g2 e2 i2 j2 f2 p2 o2 (q2) (2)) => gq_Sub t1 t2 (by omega) (by omega) (by omega))
 have A3 := hidP (fun u {g1 : Bool} {e1 f1 : Option Addr} {i1 j1 p1 o1 : Nat} {g2 : Bool} {e2 f2 : Option Addr} {i2 j2 p2 o2 : Nat} (t1 : Fq u g1 e1 i1 j1 f1 p1 o1 (r - q2) (N + 2 + 1)) (t2 : Fq u g2 e2 i2 j2 f2 p2 o2 (q4 - q2) (2 + 2 + 1)) => gq_Div t1 t2 (by omega) (by omega) hne)
 have A4 := hidP (fun u {g1 : Bool} {e1 f1 : Option Addr} {i1 j1 p1 o1 : Nat} {g2 : Bool} {e2 f2 : Option Addr} {i2 j2 p2 o2 : Nat} (t1 : Fq u g1 e1 i1 j1 f1 p1 o1 (q3) (2)) (t2 : Fq u g2 e2 i2 j2 f2 p2 o2 (q1) (2)) => gq_Sub t1 t2 (by omega) (by omega) (by omega))
 have A5 := hidP (fun u {g1 : Bool} {e1 f1 : Option Addr} {i1 j1 p1 o1 : Nat} {g2 : Bool} {e2 f2 : Option Addr} {i2 j2 p2 o2 : Nat} (t1 : Fq u g1 e1 i1 j1 f1 p1 o1 ((r - q2) / (q4 - q2)) (N + 2 + 1 + (2 + 2 + 1))) (t2 : Fq u g2 e2 i2 j2 f2 p2 o2 (q3 - q1) (2 + 2 + 1)) => gq_Mul t1 t2 (by omega) (by omega))
 have A6 := hidP (fun u {g1 : Bool} {e1 f1 : Option Addr} {i1 j1 p1 o1 : Nat} {g2 : Bool} {e2 f2 : Option Addr} {i2 j2 p2 o2 : Nat} (t1 : Fq u g1 e1 i1 j1 f1 p1 o1 (q1) (2)) (t2 : Fq u g2 e2 i2 j2 f2 p2 o2 ((r - q2) / (q4 - q2) * (q3 - q1)) (N + 2 + 1 + (2 + 2 + 1) + (2 + 2 + 1))) => gq_Add t1 t2 (by omega) (by omega))
 have A7 := hidP (fun u {g1 : Bool} {e1 f1 : Option Addr} {i1 j1 p1 o1 : Nat} {g2 : Bool} {e2 f2 : Option Addr} {i2 j2 p2 o2 : Nat} (t1 : Fq u g1 e1 i1 j1 f1 p1 o1 (q1 + (r - q2) / (q4 - q2) * (q3 - q1)) (2 + (N + 2 + 1 + (2 + 2 + 1) + (2 + 2 + 1)) + 1)) (t2 : Fq u g2 e2 i2 j2 f2 p2 o2 (q) (N)) => gq_Cmp t1 t2 (by omega) (by omega))
 clear hx hy z1 z2 z3 z4 s1 s2 s3 s4 s5 s6 hcm hne
 generalize cmpQ (q1 + (r - q2) / (q4 - q2) * (q3 - q1)) q = cc at *
 have HCC := hidP hcc
 clear hcc
 generalize hres : decide (q < q1 + (r - q2) / (q4 - q2) * (q3 - q1)) = res at *
 clear hres
 generalize q1 + (r - q2) / (q4 - q2) * (q3 - q1) = v5 at *
 generalize (r - q2) / (q4 - q2) * (q3 - q1) = v4 at *
 generalize (r - q2) / (q4 - q2) = v3 at *
 generalize q3 - q1 = v6 at *
 generalize r - q2 = v1 at *
 generalize q4 - q2 = v2 at *
 go_enter Tryz.func81, Tryz.ntmps81
 go_wp2_with fail
 refine absW (fun x1 hx1 => ?_)
 have hx : Ext w x1 := by rw [hx1]; exact (((Ext.refl _).alloc _).alloc _)
 have bp : Bl x1 (w.heap.size) #[.int .i64 ax, .int .i64 ay, .int .i64 ex, .int .i64 ey] := by rw [hx1]; exact ((Bl.new (by simp)).alloc (by simp))
 have bq : Bl x1 (w.heap.size + 1) #[.bool b, .slice a n c, .slice d m k, .bool b', .slice a' n' c', .slice d' m' k'] := by rw [hx1]; exact (Bl.new (by simp))
 have HE := hx
 clear hx
 clear hx1
 go_cut [5, 6] (fun v5 v6 wx => ∃ (g5 g6 : Nat) (a1 d1 a2 d2 a3 d3 a4 d4 : Option Addr) (n1 c1 m1 k1 n2 c2 m2 k2 n3 c3 m3 k3 n4 c4 m4 k4 : Nat), v5 = .pointer (some ⟨g5, 0, none⟩) ∧ v6 = .pointer (some ⟨g6, 0, none⟩) ∧ Bl wx g5 #[.bool (decide (q1.num < 0)), .slice a1 n1 c1, .slice d1 m1 k1, .bool (decide (q2.num < 0)), .slice a2 n2 c2, .slice d2 m2 k2] ∧ Bl wx g6 #[.bool (decide (q3.num < 0)), .slice a3 n3 c3, .slice d3 m3 k3, .bool (decide (q4.num < 0)), .slice a4 n4 c4, .slice d4 m4 k4] ∧ Nc wx a1 n1 c1 q1.num.natAbs ∧ Nc wx d1 m1 k1 q1.den ∧ Nc wx a2 n2 c2 q2.num.natAbs ∧ Nc wx d2 m2 k2 q2.den ∧ Nc wx a3 n3 c3 q3.num.natAbs ∧ Nc wx d3 m3 k3 q3.den ∧ Nc wx a4 n4 c4 q4.num.natAbs ∧ Nc wx d4 m4 k4 q4.den ∧ Ext x1 wx)
 case first =>
  have HE0 := hidP HE
  clear HE
  have HE := Ext.refl x1
  have lop := bp.lt (Nat.succ_pos _)
  have loq := bq.lt (Nat.succ_pos _)
  have hlo : x1.heap.size ≤ x1.heap.size := Nat.le_refl _
  refine wp_region_plan (R := Below x1.heap.size) (.q 0 (.q 1 (.q 3 (.q 4 (.br 2 (.br 5 (.br 6 (.l 7 (.l 8 (.b 9 .done))) (.l 7 (.l 6 (.l 8 (.b 9 .done))))) (.br 6 (.br 5 (.l 7 (.l 8 (.b 9 .done))) (.l 7 (.l 5 (.l 8 (.b 9 .done))))) (.l 7 (.br 5 (.l 6 (.l 8 (.b 9 .done))) (.l 6 (.l 5 (.l 8 (.b 9 .done)))))))) (.br 6 (.br 2 (.br 5 (.l 7 (.l 8 (.b 9 .done))) (.l 7 (.l 5 (.l 8 (.b 9 .done))))) (.l 7 (.l 2 (.l 5 (.l 8 (.b 9 .done)))))) (.l 7 (.br 2 (.br 5 (.l 6 (.l 8 (.b 9 .done))) (.l 6 (.l 5 (.l 8 (.b 9 .done))))) (.l 6 (.l 2 (.l 5 (.l 8 (.b 9 .done))))))))))))) (by kernel_rfl) (by kernel_rfl) (by kernel_rfl) (by kernel_rfl) (Below.refl _) (fun _ _ _ => Below.trans) ?_
  refine absE (fun x2 hx2 => ?_)
  have hx : Ext x1 x2 := by rw [hx2]; exact (Ext.refl _).drew
  replace hlo := Nat.le_trans hlo hx.size
  replace bp := q1b hx bp
  replace bq := q1b hx bq
  replace HE := HE.trans hx
  clear hx
  clear hx2
  repeat (refine wpE_q (v := ?_) rfl rfl (fun u hu => ?_) ?_; rotate_left 1; (focus (have kp := Bl.low hu bp lop; have kq := Bl.low hu bq loq; go_simp; (try rfl))); simp only [PU])
  clear bp
  clear bq
  refine wpE_br rfl rfl (fun K hK => ?_) ?_
  · go_simp
    refine (I1.out _).mono ?_
    rintro e u11 ⟨a1, n1, c1, d1, m1, k1, a2, n2, c2, d2, m2, k2, rfl, hs1, ht1, hs2, ht2, hx⟩
    refine hK.out _ _ (Below.mono hx hlo) ?_
    clear hK K
    try simp only [PU]
    replace hlo := Nat.le_trans hlo hx.size
    replace HE := HE.trans hx
    clear hx
    have hp1 : Sp4 _ _ _ _ _ _ _ _ _ _ _ _ _ _ _ := ⟨hs1, ht1, hs2, ht2⟩
    clear hs1 ht1 hs2 ht2
    refine wpE_br rfl rfl (fun K hK => ?_) ?_
    · go_simp
      refine (I2.out _).mono ?_
      rintro e u12 ⟨a3, n3, c3, d3, m3, k3, a4, n4, c4, d4, m4, k4, rfl, hs3, ht3, hs4, ht4, hx⟩
      refine hK.out _ _ (Below.mono hx hlo) ?_
      clear hK K
      try simp only [PU]
      replace hlo := Nat.le_trans hlo hx.size
      replace hp1 := hp1.ext hx
      replace HE := HE.trans hx
      clear hx
      have hp3 : Sp4 _ _ _ _ _ _ _ _ _ _ _ _ _ _ _ := ⟨hs3, ht3, hs4, ht4⟩
      clear hs3 ht3 hs4 ht4
      refine wpE_br rfl rfl (fun K hK => ?_) ?_
      · go_simp
        refine hK.out _ _ ((Below.refl _ _).alloc hlo _) ?_
        clear hK K
        try simp only [PU]
        have gex := hlo
        have l0x := HE.size
        refine absE (fun x3 hx3 => ?_)
        have hx : Ext u12 x3 := by rw [hx3]; exact ((Ext.refl _).alloc _)
        have bx : Bl x3 (u12.heap.size) #[.bool false, .slice none 0 0, .slice none 0 0, .bool false, .slice none 0 0, .slice none 0 0] := by rw [hx3]; exact (Bl.new (by simp))
        have fx : Fz x3 (u12.heap.size) := by rw [hx3]; exact (Fz.new (by simp))
        replace hlo := Nat.le_trans hlo hx.size
        replace hp1 := hp1.ext hx
        replace hp3 := hp3.ext hx
        replace HE := HE.trans hx
        clear hx
        clear hx3
        refine wpE_l rfl rfl (fun K hK => ?_)
        go_simp
        refine hK.out _ _ ((Below.refl _ _).alloc hlo _) ?_
        clear hK K
        try simp only [PU]
        have gez := hlo
        have lxz := bx.lt (Nat.succ_pos _)
        have l0z := HE.size
        refine absE (fun x4 hx4 => ?_)
        have hx : Ext x3 x4 := by rw [hx4]; exact ((Ext.refl _).alloc _)
        have bz : Bl x4 (x3.heap.size) #[.bool false, .slice none 0 0, .slice none 0 0, .bool false, .slice none 0 0, .slice none 0 0] := by rw [hx4]; exact (Bl.new (by simp))
        have fz : Fz x4 (x3.heap.size) := by rw [hx4]; exact (Fz.new (by simp))
        replace hlo := Nat.le_trans hlo hx.size
        replace fx := q1f hx fx bx
        replace bx := q1b hx bx
        replace hp1 := hp1.ext hx
        replace hp3 := hp3.ext hx
        replace HE := HE.trans hx
        clear hx
        clear hx4
        refine wpE_l rfl rfl (fun K hK => ?_)
        go_simp
        have hle : x1.heap.size ≤ u12.heap.size := by omega
        refine hK.out _ _ (((((((Below.refl _ _).setCell hle _).setCell hle _).setCell hle _).setCell hle _).setCell hle _).setCell hle _) ?_
        clear hK K hle
        try simp only [PU]
        refine absE (fun x5 hx5 => ?_)
        have hbut : But x4 x5 (u12.heap.size) := by rw [hx5]; exact (But.refl _ _).store.store.store.store.store.store
        have hbn : Bl x5 (u12.heap.size) #[.bool (decide (q1.num < 0)), .slice a1 n1 c1, .slice d1 m1 k1, .bool (decide (q2.num < 0)), .slice a2 n2 c2, .slice d2 m2 k2] := by rw [hx5]; exact (Bl.set (Bl.set (Bl.set (Bl.set (Bl.set (Bl.set bx (by simp)) (by simp)) (by simp)) (by simp)) (by simp)) (by simp))
        have hni : ∀ (j : Nat) (x : Int), (#[.bool false, .slice none 0 0, .slice none 0 0, .bool false, .slice none 0 0, .slice none 0 0] : Array Value)[j]? ≠ some (Value.int .u32 x) := (not_ints6 nb_bool nb_slice nb_slice nb_bool nb_slice nb_slice)
        replace hp1 := hp1.but bx hni hbut
        replace hp3 := hp3.but bx hni hbut
        clear hni
        replace fz := But.fz hbut fz bz (Nat.succ_pos _) (by omega)
        replace bz := But.bl hbut bz (Nat.succ_pos _) (by omega)
        replace fx : Fz x5 (u12.heap.size) := by rw [hx5]; exact (Fz.set (Fz.set (Fz.set (Fz.set (Fz.set (Fz.set fx))))))
        have hle : x1.heap.size ≤ u12.heap.size := by omega
        replace HE : Ext x1 x5 := by rw [hx5]; exact ((((((HE.store hle _).store hle _).store hle _).store hle _).store hle _).store hle _)
        clear hle
        replace hlo : x1.heap.size ≤ x5.heap.size := Nat.le_trans hlo hbut.1
        clear bx hbut hx5
        have bx := hbn
        clear hbn
        refine wpE_b rfl rfl (fun K hK => ?_)
        go_simp
        refine hK.out _ _ ?_
        clear hK K
        try simp only [PU]
        refine absE (fun x6 hx6 => ?_)
        have hbut : But x5 x6 (x3.heap.size) := by rw [hx6]; exact (But.refl _ _).store.store.store.store.store.store
        have hbn : Bl x6 (x3.heap.size) #[.bool (decide (q3.num < 0)), .slice a3 n3 c3, .slice d3 m3 k3, .bool (decide (q4.num < 0)), .slice a4 n4 c4, .slice d4 m4 k4] := by rw [hx6]; exact (Bl.set (Bl.set (Bl.set (Bl.set (Bl.set (Bl.set bz (by simp)) (by simp)) (by simp)) (by simp)) (by simp)) (by simp))
        have hni : ∀ (j : Nat) (x : Int), (#[.bool false, .slice none 0 0, .slice none 0 0, .bool false, .slice none 0 0, .slice none 0 0] : Array Value)[j]? ≠ some (Value.int .u32 x) := (not_ints6 nb_bool nb_slice nb_slice nb_bool nb_slice nb_slice)
        replace hp1 := hp1.but bz hni hbut
        replace hp3 := hp3.but bz hni hbut
        clear hni
        replace fx := But.fz hbut fx bx (Nat.succ_pos _) (by omega)
        replace bx := But.bl hbut bx (Nat.succ_pos _) (by omega)
        replace fz : Fz x6 (x3.heap.size) := by rw [hx6]; exact (Fz.set (Fz.set (Fz.set (Fz.set (Fz.set (Fz.set fz))))))
        have hle : x1.heap.size ≤ x3.heap.size := by omega
        replace HE : Ext x1 x6 := by rw [hx6]; exact ((((((HE.store hle _).store hle _).store hle _).store hle _).store hle _).store hle _)
        clear hle
        replace hlo : x1.heap.size ≤ x6.heap.size := Nat.le_trans hlo hbut.1
        clear bz hbut hx6
        have bz := hbn
        clear hbn
        refine wpE_done ?_
        clear hlo
        go_wp2_with fail
        go_meet
        exact ⟨u12.heap.size, x3.heap.size, a1, d1, a2, d2, a3, d3, a4, d4, n1, c1, m1, k1, n2, c2, m2, k2, n3, c3, m3, k3, n4, c4, m4, k4, rfl, rfl, bx, bz, hp1.1, hp1.2.1, hp1.2.2.1, hp1.2.2.2, hp3.1, hp3.2.1, hp3.2.2.1, hp3.2.2.2, HE⟩
      refine wpE_l rfl rfl (fun K hK => ?_)
      go_simp
      refine hK.out _ _ ((Below.refl _ _).alloc hlo _) ?_
      clear hK K
      try simp only [PU]
      have gez := hlo
      have l0z := HE.size
      refine absE (fun x3 hx3 => ?_)
      have hx : Ext u12 x3 := by rw [hx3]; exact ((Ext.refl _).alloc _)
      have bz : Bl x3 (u12.heap.size) #[.bool false, .slice none 0 0, .slice none 0 0, .bool false, .slice none 0 0, .slice none 0 0] := by rw [hx3]; exact (Bl.new (by simp))
      have fz : Fz x3 (u12.heap.size) := by rw [hx3]; exact (Fz.new (by simp))
      replace hlo := Nat.le_trans hlo hx.size
      replace hp1 := hp1.ext hx
      replace hp3 := hp3.ext hx
      replace HE := HE.trans hx
      clear hx
      clear hx3
      refine wpE_l rfl rfl (fun K hK => ?_)
      go_simp
      refine hK.out _ _ ((Below.refl _ _).alloc hlo _) ?_
      clear hK K
      try simp only [PU]
      have gex := hlo
      have lzx := bz.lt (Nat.succ_pos _)
      have l0x := HE.size
      refine absE (fun x4 hx4 => ?_)
      have hx : Ext x3 x4 := by rw [hx4]; exact ((Ext.refl _).alloc _)
      have bx : Bl x4 (x3.heap.size) #[.bool false, .slice none 0 0, .slice none 0 0, .bool false, .slice none 0 0, .slice none 0 0] := by rw [hx4]; exact (Bl.new (by simp))
      have fx : Fz x4 (x3.heap.size) := by rw [hx4]; exact (Fz.new (by simp))
      replace hlo := Nat.le_trans hlo hx.size
      replace fz := q1f hx fz bz
      replace bz := q1b hx bz
      replace hp1 := hp1.ext hx
      replace hp3 := hp3.ext hx
      replace HE := HE.trans hx
      clear hx
      clear hx4
      refine wpE_l rfl rfl (fun K hK => ?_)
      go_simp
      have hle : x1.heap.size ≤ x3.heap.size := by omega
      refine hK.out _ _ (((((((Below.refl _ _).setCell hle _).setCell hle _).setCell hle _).setCell hle _).setCell hle _).setCell hle _) ?_
      clear hK K hle
      try simp only [PU]
      refine absE (fun x5 hx5 => ?_)
      have hbut : But x4 x5 (x3.heap.size) := by rw [hx5]; exact (But.refl _ _).store.store.store.store.store.store
      have hbn : Bl x5 (x3.heap.size) #[.bool (decide (q1.num < 0)), .slice a1 n1 c1, .slice d1 m1 k1, .bool (decide (q2.num < 0)), .slice a2 n2 c2, .slice d2 m2 k2] := by rw [hx5]; exact (Bl.set (Bl.set (Bl.set (Bl.set (Bl.set (Bl.set bx (by simp)) (by simp)) (by simp)) (by simp)) (by simp)) (by simp))
      have hni : ∀ (j : Nat) (x : Int), (#[.bool false, .slice none 0 0, .slice none 0 0, .bool false, .slice none 0 0, .slice none 0 0] : Array Value)[j]? ≠ some (Value.int .u32 x) := (not_ints6 nb_bool nb_slice nb_slice nb_bool nb_slice nb_slice)
      replace hp1 := hp1.but bx hni hbut
      replace hp3 := hp3.but bx hni hbut
      clear hni
      replace fz := But.fz hbut fz bz (Nat.succ_pos _) (by omega)
      replace bz := But.bl hbut bz (Nat.succ_pos _) (by omega)
      replace fx : Fz x5 (x3.heap.size) := by rw [hx5]; exact (Fz.set (Fz.set (Fz.set (Fz.set (Fz.set (Fz.set fx))))))
      have hle : x1.heap.size ≤ x3.heap.size := by omega
      replace HE : Ext x1 x5 := by rw [hx5]; exact ((((((HE.store hle _).store hle _).store hle _).store hle _).store hle _).store hle _)
      clear hle
      replace hlo : x1.heap.size ≤ x5.heap.size := Nat.le_trans hlo hbut.1
      clear bx hbut hx5
      have bx := hbn
      clear hbn
      refine wpE_b rfl rfl (fun K hK => ?_)
      go_simp
      refine hK.out _ _ ?_
      clear hK K
      try simp only [PU]
      refine absE (fun x6 hx6 => ?_)
      have hbut : But x5 x6 (u12.heap.size) := by rw [hx6]; exact (But.refl _ _).store.store.store.store.store.store
      have hbn : Bl x6 (u12.heap.size) #[.bool (decide (q3.num < 0)), .slice a3 n3 c3, .slice d3 m3 k3, .bool (decide (q4.num < 0)), .slice a4 n4 c4, .slice d4 m4 k4] := by rw [hx6]; exact (Bl.set (Bl.set (Bl.set (Bl.set (Bl.set (Bl.set bz (by simp)) (by simp)) (by simp)) (by simp)) (by simp)) (by simp))
      have hni : ∀ (j : Nat) (x : Int), (#[.bool false, .slice none 0 0, .slice none 0 0, .bool false, .slice none 0 0, .slice none 0 0] : Array Value)[j]? ≠ some (Value.int .u32 x) := (not_ints6 nb_bool nb_slice nb_slice nb_bool nb_slice nb_slice)
      replace hp1 := hp1.but bz hni hbut
      replace hp3 := hp3.but bz hni hbut
      clear hni
      replace fx := But.fz hbut fx bx (Nat.succ_pos _) (by omega)
      replace bx := But.bl hbut bx (Nat.succ_pos _) (by omega)
      replace fz : Fz x6 (u12.heap.size) := by rw [hx6]; exact (Fz.set (Fz.set (Fz.set (Fz.set (Fz.set (Fz.set fz))))))
      have hle : x1.heap.size ≤ u12.heap.size := by omega
      replace HE : Ext x1 x6 := by rw [hx6]; exact ((((((HE.store hle _).store hle _).store hle _).store hle _).store hle _).store hle _)
      clear hle
      replace hlo : x1.heap.size ≤ x6.heap.size := Nat.le_trans hlo hbut.1
      clear bz hbut hx6
      have bz := hbn
      clear hbn
      refine wpE_done ?_
      clear hlo
      go_wp2_with fail
      go_meet
      exact ⟨x3.heap.size, u12.heap.size, a1, d1, a2, d2, a3, d3, a4, d4, n1, c1, m1, k1, n2, c2, m2, k2, n3, c3, m3, k3, n4, c4, m4, k4, rfl, rfl, bx, bz, hp1.1, hp1.2.1, hp1.2.2.1, hp1.2.2.2, hp3.1, hp3.2.1, hp3.2.2.1, hp3.2.2.2, HE⟩
    refine wpE_br rfl rfl (fun K hK => ?_) ?_
    · go_simp
      refine hK.out _ _ ((Below.refl _ _).alloc hlo _) ?_
      clear hK K
      try simp only [PU]
      have gex := hlo
      have l0x := HE.size
      refine absE (fun x3 hx3 => ?_)
      have hx : Ext u11 x3 := by rw [hx3]; exact ((Ext.refl _).alloc _)
      have bx : Bl x3 (u11.heap.size) #[.bool false, .slice none 0 0, .slice none 0 0, .bool false, .slice none 0 0, .slice none 0 0] := by rw [hx3]; exact (Bl.new (by simp))
      have fx : Fz x3 (u11.heap.size) := by rw [hx3]; exact (Fz.new (by simp))
      replace hlo := Nat.le_trans hlo hx.size
      replace hp1 := hp1.ext hx
      replace HE := HE.trans hx
      clear hx
      clear hx3
      refine wpE_br rfl rfl (fun K hK => ?_) ?_
      · go_simp
        refine (I2.out _).mono ?_
        rintro e u12 ⟨a3, n3, c3, d3, m3, k3, a4, n4, c4, d4, m4, k4, rfl, hs3, ht3, hs4, ht4, hx⟩
        refine hK.out _ _ (Below.mono hx hlo) ?_
        clear hK K
        try simp only [PU]
        replace hlo := Nat.le_trans hlo hx.size
        replace fx := q1f hx fx bx
        replace bx := q1b hx bx
        replace hp1 := hp1.ext hx
        replace HE := HE.trans hx
        clear hx
        have hp3 : Sp4 _ _ _ _ _ _ _ _ _ _ _ _ _ _ _ := ⟨hs3, ht3, hs4, ht4⟩
        clear hs3 ht3 hs4 ht4
        refine wpE_l rfl rfl (fun K hK => ?_)
        go_simp
        refine hK.out _ _ ((Below.refl _ _).alloc hlo _) ?_
        clear hK K
        try simp only [PU]
        have gez := hlo
        have lxz := bx.lt (Nat.succ_pos _)
        have l0z := HE.size
        refine absE (fun x4 hx4 => ?_)
        have hx : Ext u12 x4 := by rw [hx4]; exact ((Ext.refl _).alloc _)
        have bz : Bl x4 (u12.heap.size) #[.bool false, .slice none 0 0, .slice none 0 0, .bool false, .slice none 0 0, .slice none 0 0] := by rw [hx4]; exact (Bl.new (by simp))
        have fz : Fz x4 (u12.heap.size) := by rw [hx4]; exact (Fz.new (by simp))
        replace hlo := Nat.le_trans hlo hx.size
        replace fx := q1f hx fx bx
        replace bx := q1b hx bx
        replace hp1 := hp1.ext hx
        replace hp3 := hp3.ext hx
        replace HE := HE.trans hx
        clear hx
        clear hx4
        refine wpE_l rfl rfl (fun K hK => ?_)
        go_simp
        have hle : x1.heap.size ≤ u11.heap.size := by omega
        refine hK.out _ _ (((((((Below.refl _ _).setCell hle _).setCell hle _).setCell hle _).setCell hle _).setCell hle _).setCell hle _) ?_
        clear hK K hle
        try simp only [PU]
        refine absE (fun x5 hx5 => ?_)
        have hbut : But x4 x5 (u11.heap.size) := by rw [hx5]; exact (But.refl _ _).store.store.store.store.store.store
        have hbn : Bl x5 (u11.heap.size) #[.bool (decide (q1.num < 0)), .slice a1 n1 c1, .slice d1 m1 k1, .bool (decide (q2.num < 0)), .slice a2 n2 c2, .slice d2 m2 k2] := by rw [hx5]; exact (Bl.set (Bl.set (Bl.set (Bl.set (Bl.set (Bl.set bx (by simp)) (by simp)) (by simp)) (by simp)) (by simp)) (by simp))
        have hni : ∀ (j : Nat) (x : Int), (#[.bool false, .slice none 0 0, .slice none 0 0, .bool false, .slice none 0 0, .slice none 0 0] : Array Value)[j]? ≠ some (Value.int .u32 x) := (not_ints6 nb_bool nb_slice nb_slice nb_bool nb_slice nb_slice)
        replace hp1 := hp1.but bx hni hbut
        replace hp3 := hp3.but bx hni hbut
        clear hni
        replace fz := But.fz hbut fz bz (Nat.succ_pos _) (by omega)
        replace bz := But.bl hbut bz (Nat.succ_pos _) (by omega)
        replace fx : Fz x5 (u11.heap.size) := by rw [hx5]; exact (Fz.set (Fz.set (Fz.set (Fz.set (Fz.set (Fz.set fx))))))
        have hle : x1.heap.size ≤ u11.heap.size := by omega
        replace HE : Ext x1 x5 := by rw [hx5]; exact ((((((HE.store hle _).store hle _).store hle _).store hle _).store hle _).store hle _)
        clear hle
        replace hlo : x1.heap.size ≤ x5.heap.size := Nat.le_trans hlo hbut.1
        clear bx hbut hx5
        have bx := hbn
        clear hbn
        refine wpE_b rfl rfl (fun K hK => ?_)
        go_simp
        refine hK.out _ _ ?_
        clear hK K
        try simp only [PU]
        refine absE (fun x6 hx6 => ?_)
        have hbut : But x5 x6 (u12.heap.size) := by rw [hx6]; exact (But.refl _ _).store.store.store.store.store.store
        have hbn : Bl x6 (u12.heap.size) #[.bool (decide (q3.num < 0)), .slice a3 n3 c3, .slice d3 m3 k3, .bool (decide (q4.num < 0)), .slice a4 n4 c4, .slice d4 m4 k4] := by rw [hx6]; exact (Bl.set (Bl.set (Bl.set (Bl.set (Bl.set (Bl.set bz (by simp)) (by simp)) (by simp)) (by simp)) (by simp)) (by simp))
        have hni : ∀ (j : Nat) (x : Int), (#[.bool false, .slice none 0 0, .slice none 0 0, .bool false, .slice none 0 0, .slice none 0 0] : Array Value)[j]? ≠ some (Value.int .u32 x) := (not_ints6 nb_bool nb_slice nb_slice nb_bool nb_slice nb_slice)
        replace hp1 := hp1.but bz hni hbut
        replace hp3 := hp3.but bz hni hbut
        clear hni
        replace fx := But.fz hbut fx bx (Nat.succ_pos _) (by omega)
        replace bx := But.bl hbut bx (Nat.succ_pos _) (by omega)
        replace fz : Fz x6 (u12.heap.size) := by rw [hx6]; exact (Fz.set (Fz.set (Fz.set (Fz.set (Fz.set (Fz.set fz))))))
        have hle : x1.heap.size ≤ u12.heap.size := by omega
        replace HE : Ext x1 x6 := by rw [hx6]; exact ((((((HE.store hle _).store hle _).store hle _).store hle _).store hle _).store hle _)
        clear hle
        replace hlo : x1.heap.size ≤ x6.heap.size := Nat.le_trans hlo hbut.1
        clear bz hbut hx6
        have bz := hbn
        clear hbn
        refine wpE_done ?_
        clear hlo
        go_wp2_with fail
        go_meet
        exact ⟨u11.heap.size, u12.heap.size, a1, d1, a2, d2, a3, d3, a4, d4, n1, c1, m1, k1, n2, c2, m2, k2, n3, c3, m3, k3, n4, c4, m4, k4, rfl, rfl, bx, bz, hp1.1, hp1.2.1, hp1.2.2.1, hp1.2.2.2, hp3.1, hp3.2.1, hp3.2.2.1, hp3.2.2.2, HE⟩
      refine wpE_l rfl rfl (fun K hK => ?_)
      go_simp
      refine hK.out _ _ ((Below.refl _ _).alloc hlo _) ?_
      clear hK K
      try simp only [PU]
      have gez := hlo
      have lxz := bx.lt (Nat.succ_pos _)
      have l0z := HE.size
      refine absE (fun x4 hx4 => ?_)
      have hx : Ext x3 x4 := by rw [hx4]; exact ((Ext.refl _).alloc _)
      have bz : Bl x4 (x3.heap.size) #[.bool false, .slice none 0 0, .slice none 0 0, .bool false, .slice none 0 0, .slice none 0 0] := by rw [hx4]; exact (Bl.new (by simp))
      have fz : Fz x4 (x3.heap.size) := by rw [hx4]; exact (Fz.new (by simp))
      replace hlo := Nat.le_trans hlo hx.size
      replace fx := q1f hx fx bx
      replace bx := q1b hx bx
      replace hp1 := hp1.ext hx
      replace HE := HE.trans hx
      clear hx
      clear hx4
      refine wpE_l rfl rfl (fun K hK => ?_)
      go_simp
      refine (I2.out _).mono ?_
      rintro e u12 ⟨a3, n3, c3, d3, m3, k3, a4, n4, c4, d4, m4, k4, rfl, hs3, ht3, hs4, ht4, hx⟩
      refine hK.out _ _ (Below.mono hx hlo) ?_
      clear hK K
      try simp only [PU]
      replace hlo := Nat.le_trans hlo hx.size
      replace fx := q1f hx fx bx
      replace bx := q1b hx bx
      replace fz := q1f hx fz bz
      replace bz := q1b hx bz
      replace hp1 := hp1.ext hx
      replace HE := HE.trans hx
      clear hx
      have hp3 : Sp4 _ _ _ _ _ _ _ _ _ _ _ _ _ _ _ := ⟨hs3, ht3, hs4, ht4⟩
      clear hs3 ht3 hs4 ht4
      refine wpE_l rfl rfl (fun K hK => ?_)
      go_simp
      have hle : x1.heap.size ≤ u11.heap.size := by omega
      refine hK.out _ _ (((((((Below.refl _ _).setCell hle _).setCell hle _).setCell hle _).setCell hle _).setCell hle _).setCell hle _) ?_
      clear hK K hle
      try simp only [PU]
      refine absE (fun x5 hx5 => ?_)
      have hbut : But u12 x5 (u11.heap.size) := by rw [hx5]; exact (But.refl _ _).store.store.store.store.store.store
      have hbn : Bl x5 (u11.heap.size) #[.bool (decide (q1.num < 0)), .slice a1 n1 c1, .slice d1 m1 k1, .bool (decide (q2.num < 0)), .slice a2 n2 c2, .slice d2 m2 k2] := by rw [hx5]; exact (Bl.set (Bl.set (Bl.set (Bl.set (Bl.set (Bl.set bx (by simp)) (by simp)) (by simp)) (by simp)) (by simp)) (by simp))
      have hni : ∀ (j : Nat) (x : Int), (#[.bool false, .slice none 0 0, .slice none 0 0, .bool false, .slice none 0 0, .slice none 0 0] : Array Value)[j]? ≠ some (Value.int .u32 x) := (not_ints6 nb_bool nb_slice nb_slice nb_bool nb_slice nb_slice)
      replace hp1 := hp1.but bx hni hbut
      replace hp3 := hp3.but bx hni hbut
      clear hni
      replace fz := But.fz hbut fz bz (Nat.succ_pos _) (by omega)
      replace bz := But.bl hbut bz (Nat.succ_pos _) (by omega)
      replace fx : Fz x5 (u11.heap.size) := by rw [hx5]; exact (Fz.set (Fz.set (Fz.set (Fz.set (Fz.set (Fz.set fx))))))
      have hle : x1.heap.size ≤ u11.heap.size := by omega
      replace HE : Ext x1 x5 := by rw [hx5]; exact ((((((HE.store hle _).store hle _).store hle _).store hle _).store hle _).store hle _)
      clear hle
      replace hlo : x1.heap.size ≤ x5.heap.size := Nat.le_trans hlo hbut.1
      clear bx hbut hx5
      have bx := hbn
      clear hbn
      refine wpE_b rfl rfl (fun K hK => ?_)
      go_simp
      refine hK.out _ _ ?_
      clear hK K
      try simp only [PU]
      refine absE (fun x6 hx6 => ?_)
      have hbut : But x5 x6 (x3.heap.size) := by rw [hx6]; exact (But.refl _ _).store.store.store.store.store.store
      have hbn : Bl x6 (x3.heap.size) #[.bool (decide (q3.num < 0)), .slice a3 n3 c3, .slice d3 m3 k3, .bool (decide (q4.num < 0)), .slice a4 n4 c4, .slice d4 m4 k4] := by rw [hx6]; exact (Bl.set (Bl.set (Bl.set (Bl.set (Bl.set (Bl.set bz (by simp)) (by simp)) (by simp)) (by simp)) (by simp)) (by simp))
      have hni : ∀ (j : Nat) (x : Int), (#[.bool false, .slice none 0 0, .slice none 0 0, .bool false, .slice none 0 0, .slice none 0 0] : Array Value)[j]? ≠ some (Value.int .u32 x) := (not_ints6 nb_bool nb_slice nb_slice nb_bool nb_slice nb_slice)
      replace hp1 := hp1.but bz hni hbut
      replace hp3 := hp3.but bz hni hbut
      clear hni
      replace fx := But.fz hbut fx bx (Nat.succ_pos _) (by omega)
      replace bx := But.bl hbut bx (Nat.succ_pos _) (by omega)
      replace fz : Fz x6 (x3.heap.size) := by rw [hx6]; exact (Fz.set (Fz.set (Fz.set (Fz.set (Fz.set (Fz.set fz))))))
      have hle : x1.heap.size ≤ x3.heap.size := by omega
      replace HE : Ext x1 x6 := by rw [hx6]; exact ((((((HE.store hle _).store hle _).store hle _).store hle _).store hle _).store hle _)
      clear hle
      replace hlo : x1.heap.size ≤ x6.heap.size := Nat.le_trans hlo hbut.1
      clear bz hbut hx6
      have bz := hbn
      clear hbn
      refine wpE_done ?_
      clear hlo
      go_wp2_with fail
      go_meet
      exact ⟨u11.heap.size, x3.heap.size, a1, d1, a2, d2, a3, d3, a4, d4, n1, c1, m1, k1, n2, c2, m2, k2, n3, c3, m3, k3, n4, c4, m4, k4, rfl, rfl, bx, bz, hp1.1, hp1.2.1, hp1.2.2.1, hp1.2.2.2, hp3.1, hp3.2.1, hp3.2.2.1, hp3.2.2.2, HE⟩
    refine wpE_l rfl rfl (fun K hK => ?_)
    go_simp
    refine hK.out _ _ ((Below.refl _ _).alloc hlo _) ?_
    clear hK K
    try simp only [PU]
    have gez := hlo
    have l0z := HE.size
    refine absE (fun x3 hx3 => ?_)
    have hx : Ext u11 x3 := by rw [hx3]; exact ((Ext.refl _).alloc _)
    have bz : Bl x3 (u11.heap.size) #[.bool false, .slice none 0 0, .slice none 0 0, .bool false, .slice none 0 0, .slice none 0 0] := by rw [hx3]; exact (Bl.new (by simp))
    have fz : Fz x3 (u11.heap.size) := by rw [hx3]; exact (Fz.new (by simp))
    replace hlo := Nat.le_trans hlo hx.size
    replace hp1 := hp1.ext hx
    replace HE := HE.trans hx
    clear hx
    clear hx3
    refine wpE_br rfl rfl (fun K hK => ?_) ?_
    · go_simp
      refine (I2.out _).mono ?_
      rintro e u12 ⟨a3, n3, c3, d3, m3, k3, a4, n4, c4, d4, m4, k4, rfl, hs3, ht3, hs4, ht4, hx⟩
      refine hK.out _ _ (Below.mono hx hlo) ?_
      clear hK K
      try simp only [PU]
      replace hlo := Nat.le_trans hlo hx.size
      replace fz := q1f hx fz bz
      replace bz := q1b hx bz
      replace hp1 := hp1.ext hx
      replace HE := HE.trans hx
      clear hx
      have hp3 : Sp4 _ _ _ _ _ _ _ _ _ _ _ _ _ _ _ := ⟨hs3, ht3, hs4, ht4⟩
      clear hs3 ht3 hs4 ht4
      refine wpE_l rfl rfl (fun K hK => ?_)
      go_simp
      refine hK.out _ _ ((Below.refl _ _).alloc hlo _) ?_
      clear hK K
      try simp only [PU]
      have gex := hlo
      have lzx := bz.lt (Nat.succ_pos _)
      have l0x := HE.size
      refine absE (fun x4 hx4 => ?_)
      have hx : Ext u12 x4 := by rw [hx4]; exact ((Ext.refl _).alloc _)
      have bx : Bl x4 (u12.heap.size) #[.bool false, .slice none 0 0, .slice none 0 0, .bool false, .slice none 0 0, .slice none 0 0] := by rw [hx4]; exact (Bl.new (by simp))
      have fx : Fz x4 (u12.heap.size) := by rw [hx4]; exact (Fz.new (by simp))
      replace hlo := Nat.le_trans hlo hx.size
      replace fz := q1f hx fz bz
      replace bz := q1b hx bz
      replace hp1 := hp1.ext hx
      replace hp3 := hp3.ext hx
      replace HE := HE.trans hx
      clear hx
      clear hx4
      refine wpE_l rfl rfl (fun K hK => ?_)
      go_simp
      have hle : x1.heap.size ≤ u12.heap.size := by omega
      refine hK.out _ _ (((((((Below.refl _ _).setCell hle _).setCell hle _).setCell hle _).setCell hle _).setCell hle _).setCell hle _) ?_
      clear hK K hle
      try simp only [PU]
      refine absE (fun x5 hx5 => ?_)
      have hbut : But x4 x5 (u12.heap.size) := by rw [hx5]; exact (But.refl _ _).store.store.store.store.store.store
      have hbn : Bl x5 (u12.heap.size) #[.bool (decide (q1.num < 0)), .slice a1 n1 c1, .slice d1 m1 k1, .bool (decide (q2.num < 0)), .slice a2 n2 c2, .slice d2 m2 k2] := by rw [hx5]; exact (Bl.set (Bl.set (Bl.set (Bl.set (Bl.set (Bl.set bx (by simp)) (by simp)) (by simp)) (by simp)) (by simp)) (by simp))
      have hni : ∀ (j : Nat) (x : Int), (#[.bool false, .slice none 0 0, .slice none 0 0, .bool false, .slice none 0 0, .slice none 0 0] : Array Value)[j]? ≠ some (Value.int .u32 x) := (not_ints6 nb_bool nb_slice nb_slice nb_bool nb_slice nb_slice)
      replace hp1 := hp1.but bx hni hbut
      replace hp3 := hp3.but bx hni hbut
      clear hni
      replace fz := But.fz hbut fz bz (Nat.succ_pos _) (by omega)
      replace bz := But.bl hbut bz (Nat.succ_pos _) (by omega)
      replace fx : Fz x5 (u12.heap.size) := by rw [hx5]; exact (Fz.set (Fz.set (Fz.set (Fz.set (Fz.set (Fz.set fx))))))
      have hle : x1.heap.size ≤ u12.heap.size := by omega
      replace HE : Ext x1 x5 := by rw [hx5]; exact ((((((HE.store hle _).store hle _).store hle _).store hle _).store hle _).store hle _)
      clear hle
      replace hlo : x1.heap.size ≤ x5.heap.size := Nat.le_trans hlo hbut.1
      clear bx hbut hx5
      have bx := hbn
      clear hbn
      refine wpE_b rfl rfl (fun K hK => ?_)
      go_simp
      refine hK.out _ _ ?_
      clear hK K
      try simp only [PU]
      refine absE (fun x6 hx6 => ?_)
      have hbut : But x5 x6 (u11.heap.size) := by rw [hx6]; exact (But.refl _ _).store.store.store.store.store.store
      have hbn : Bl x6 (u11.heap.size) #[.bool (decide (q3.num < 0)), .slice a3 n3 c3, .slice d3 m3 k3, .bool (decide (q4.num < 0)), .slice a4 n4 c4, .slice d4 m4 k4] := by rw [hx6]; exact (Bl.set (Bl.set (Bl.set (Bl.set (Bl.set (Bl.set bz (by simp)) (by simp)) (by simp)) (by simp)) (by simp)) (by simp))
      have hni : ∀ (j : Nat) (x : Int), (#[.bool false, .slice none 0 0, .slice none 0 0, .bool false, .slice none 0 0, .slice none 0 0] : Array Value)[j]? ≠ some (Value.int .u32 x) := (not_ints6 nb_bool nb_slice nb_slice nb_bool nb_slice nb_slice)
      replace hp1 := hp1.but bz hni hbut
      replace hp3 := hp3.but bz hni hbut
      clear hni
      replace fx := But.fz hbut fx bx (Nat.succ_pos _) (by omega)
      replace bx := But.bl hbut bx (Nat.succ_pos _) (by omega)
      replace fz : Fz x6 (u11.heap.size) := by rw [hx6]; exact (Fz.set (Fz.set (Fz.set (Fz.set (Fz.set (Fz.set fz))))))
      have hle : x1.heap.size ≤ u11.heap.size := by omega
      replace HE : Ext x1 x6 := by rw [hx6]; exact ((((((HE.store hle _).store hle _).store hle _).store hle _).store hle _).store hle _)
      clear hle
      replace hlo : x1.heap.size ≤ x6.heap.size := Nat.le_trans hlo hbut.1
      clear bz hbut hx6
      have bz := hbn
      clear hbn
      refine wpE_done ?_
      clear hlo
      go_wp2_with fail
      go_meet
      exact ⟨u12.heap.size, u11.heap.size, a1, d1, a2, d2, a3, d3, a4, d4, n1, c1, m1, k1, n2, c2, m2, k2, n3, c3, m3, k3, n4, c4, m4, k4, rfl, rfl, bx, bz, hp1.1, hp1.2.1, hp1.2.2.1, hp1.2.2.2, hp3.1, hp3.2.1, hp3.2.2.1, hp3.2.2.2, HE⟩
    refine wpE_l rfl rfl (fun K hK => ?_)
    go_simp
    refine hK.out _ _ ((Below.refl _ _).alloc hlo _) ?_
    clear hK K
    try simp only [PU]
    have gex := hlo
    have lzx := bz.lt (Nat.succ_pos _)
    have l0x := HE.size
    refine absE (fun x4 hx4 => ?_)
    have hx : Ext x3 x4 := by rw [hx4]; exact ((Ext.refl _).alloc _)
    have bx : Bl x4 (x3.heap.size) #[.bool false, .slice none 0 0, .slice none 0 0, .bool false, .slice none 0 0, .slice none 0 0] := by rw [hx4]; exact (Bl.new (by simp))
    have fx : Fz x4 (x3.heap.size) := by rw [hx4]; exact (Fz.new (by simp))
    replace hlo := Nat.le_trans hlo hx.size
    replace fz := q1f hx fz bz
    replace bz := q1b hx bz
    replace hp1 := hp1.ext hx
    replace HE := HE.trans hx
    clear hx
    clear hx4
    refine wpE_l rfl rfl (fun K hK => ?_)
    go_simp
    refine (I2.out _).mono ?_
    rintro e u12 ⟨a3, n3, c3, d3, m3, k3, a4, n4, c4, d4, m4, k4, rfl, hs3, ht3, hs4, ht4, hx⟩
    refine hK.out _ _ (Below.mono hx hlo) ?_
    clear hK K
    try simp only [PU]
    replace hlo := Nat.le_trans hlo hx.size
    replace fz := q1f hx fz bz
    replace bz := q1b hx bz
    replace fx := q1f hx fx bx
    replace bx := q1b hx bx
    replace hp1 := hp1.ext hx
    replace HE := HE.trans hx
    clear hx
    have hp3 : Sp4 _ _ _ _ _ _ _ _ _ _ _ _ _ _ _ := ⟨hs3, ht3, hs4, ht4⟩
    clear hs3 ht3 hs4 ht4
    refine wpE_l rfl rfl (fun K hK => ?_)
    go_simp
    have hle : x1.heap.size ≤ x3.heap.size := by omega
    refine hK.out _ _ (((((((Below.refl _ _).setCell hle _).setCell hle _).setCell hle _).setCell hle _).setCell hle _).setCell hle _) ?_
    clear hK K hle
    try simp only [PU]
    refine absE (fun x5 hx5 => ?_)
    have hbut : But u12 x5 (x3.heap.size) := by rw [hx5]; exact (But.refl _ _).store.store.store.store.store.store
    have hbn : Bl x5 (x3.heap.size) #[.bool (decide (q1.num < 0)), .slice a1 n1 c1, .slice d1 m1 k1, .bool (decide (q2.num < 0)), .slice a2 n2 c2, .slice d2 m2 k2] := by rw [hx5]; exact (Bl.set (Bl.set (Bl.set (Bl.set (Bl.set (Bl.set bx (by simp)) (by simp)) (by simp)) (by simp)) (by simp)) (by simp))
    have hni : ∀ (j : Nat) (x : Int), (#[.bool false, .slice none 0 0, .slice none 0 0, .bool false, .slice none 0 0, .slice none 0 0] : Array Value)[j]? ≠ some (Value.int .u32 x) := (not_ints6 nb_bool nb_slice nb_slice nb_bool nb_slice nb_slice)
    replace hp1 := hp1.but bx hni hbut
    replace hp3 := hp3.but bx hni hbut
    clear hni
    replace fz := But.fz hbut fz bz (Nat.succ_pos _) (by omega)
    replace bz := But.bl hbut bz (Nat.succ_pos _) (by omega)
    replace fx : Fz x5 (x3.heap.size) := by rw [hx5]; exact (Fz.set (Fz.set (Fz.set (Fz.set (Fz.set (Fz.set fx))))))
    have hle : x1.heap.size ≤ x3.heap.size := by omega
    replace HE : Ext x1 x5 := by rw [hx5]; exact ((((((HE.store hle _).store hle _).store hle _).store hle _).store hle _).store hle _)
    clear hle
    replace hlo : x1.heap.size ≤ x5.heap.size := Nat.le_trans hlo hbut.1
    clear bx hbut hx5
    have bx := hbn
    clear hbn
    refine wpE_b rfl rfl (fun K hK => ?_)
    go_simp
    refine hK.out _ _ ?_
    clear hK K
    try simp only [PU]
    refine absE (fun x6 hx6 => ?_)
    have hbut : But x5 x6 (u11.heap.size) := by rw [hx6]; exact (But.refl _ _).store.store.store.store.store.store
    have hbn : Bl x6 (u11.heap.size) #[.bool (decide (q3.num < 0)), .slice a3 n3 c3, .slice d3 m3 k3, .bool (decide (q4.num < 0)), .slice a4 n4 c4, .slice d4 m4 k4] := by rw [hx6]; exact (Bl.set (Bl.set (Bl.set (Bl.set (Bl.set (Bl.set bz (by simp)) (by simp)) (by simp)) (by simp)) (by simp)) (by simp))
    have hni : ∀ (j : Nat) (x : Int), (#[.bool false, .slice none 0 0, .slice none 0 0, .bool false, .slice none 0 0, .slice none 0 0] : Array Value)[j]? ≠ some (Value.int .u32 x) := (not_ints6 nb_bool nb_slice nb_slice nb_bool nb_slice nb_slice)
    replace hp1 := hp1.but bz hni hbut
    replace hp3 := hp3.but bz hni hbut
    clear hni
    replace fx := But.fz hbut fx bx (Nat.succ_pos _) (by omega)
    replace bx := But.bl hbut bx (Nat.succ_pos _) (by omega)
    replace fz : Fz x6 (u11.heap.size) := by rw [hx6]; exact (Fz.set (Fz.set (Fz.set (Fz.set (Fz.set (Fz.set fz))))))
    have hle : x1.heap.size ≤ u11.heap.size := by omega
    replace HE : Ext x1 x6 := by rw [hx6]; exact ((((((HE.store hle _).store hle _).store hle _).store hle _).store hle _).store hle _)
    clear hle
    replace hlo : x1.heap.size ≤ x6.heap.size := Nat.le_trans hlo hbut.1
    clear bz hbut hx6
    have bz := hbn
    clear hbn
    refine wpE_done ?_
    clear hlo
    go_wp2_with fail
    go_meet
    exact ⟨x3.heap.size, u11.heap.size, a1, d1, a2, d2, a3, d3, a4, d4, n1, c1, m1, k1, n2, c2, m2, k2, n3, c3, m3, k3, n4, c4, m4, k4, rfl, rfl, bx, bz, hp1.1, hp1.2.1, hp1.2.2.1, hp1.2.2.2, hp3.1, hp3.2.1, hp3.2.2.1, hp3.2.2.2, HE⟩
  refine wpE_br rfl rfl (fun K hK => ?_) ?_
  · go_simp
    refine hK.out _ _ ((Below.refl _ _).alloc hlo _) ?_
    clear hK K
    try simp only [PU]
    have gex := hlo
    have l0x := HE.size
    refine absE (fun x3 hx3 => ?_)
    have hx : Ext x2 x3 := by rw [hx3]; exact ((Ext.refl _).alloc _)
    have bx : Bl x3 (x2.heap.size) #[.bool false, .slice none 0 0, .slice none 0 0, .bool false, .slice none 0 0, .slice none 0 0] := by rw [hx3]; exact (Bl.new (by simp))
    have fx : Fz x3 (x2.heap.size) := by rw [hx3]; exact (Fz.new (by simp))
    replace hlo := Nat.le_trans hlo hx.size
    replace HE := HE.trans hx
    clear hx
    clear hx3
    refine wpE_br rfl rfl (fun K hK => ?_) ?_
    · go_simp
      refine (I1.out _).mono ?_
      rintro e u11 ⟨a1, n1, c1, d1, m1, k1, a2, n2, c2, d2, m2, k2, rfl, hs1, ht1, hs2, ht2, hx⟩
      refine hK.out _ _ (Below.mono hx hlo) ?_
      clear hK K
      try simp only [PU]
      replace hlo := Nat.le_trans hlo hx.size
      replace fx := q1f hx fx bx
      replace bx := q1b hx bx
      replace HE := HE.trans hx
      clear hx
      have hp1 : Sp4 _ _ _ _ _ _ _ _ _ _ _ _ _ _ _ := ⟨hs1, ht1, hs2, ht2⟩
      clear hs1 ht1 hs2 ht2
      refine wpE_br rfl rfl (fun K hK => ?_) ?_
      · go_simp
        refine (I2.out _).mono ?_
        rintro e u12 ⟨a3, n3, c3, d3, m3, k3, a4, n4, c4, d4, m4, k4, rfl, hs3, ht3, hs4, ht4, hx⟩
        refine hK.out _ _ (Below.mono hx hlo) ?_
        clear hK K
        try simp only [PU]
        replace hlo := Nat.le_trans hlo hx.size
        replace fx := q1f hx fx bx
        replace bx := q1b hx bx
        replace hp1 := hp1.ext hx
        replace HE := HE.trans hx
        clear hx
        have hp3 : Sp4 _ _ _ _ _ _ _ _ _ _ _ _ _ _ _ := ⟨hs3, ht3, hs4, ht4⟩
        clear hs3 ht3 hs4 ht4
        refine wpE_l rfl rfl (fun K hK => ?_)
        go_simp
        refine hK.out _ _ ((Below.refl _ _).alloc hlo _) ?_
        clear hK K
        try simp only [PU]
        have gez := hlo
        have lxz := bx.lt (Nat.succ_pos _)
        have l0z := HE.size
        refine absE (fun x4 hx4 => ?_)
        have hx : Ext u12 x4 := by rw [hx4]; exact ((Ext.refl _).alloc _)
        have bz : Bl x4 (u12.heap.size) #[.bool false, .slice none 0 0, .slice none 0 0, .bool false, .slice none 0 0, .slice none 0 0] := by rw [hx4]; exact (Bl.new (by simp))
        have fz : Fz x4 (u12.heap.size) := by rw [hx4]; exact (Fz.new (by simp))
        replace hlo := Nat.le_trans hlo hx.size
        replace fx := q1f hx fx bx
        replace bx := q1b hx bx
        replace hp1 := hp1.ext hx
        replace hp3 := hp3.ext hx
        replace HE := HE.trans hx
        clear hx
        clear hx4
        refine wpE_l rfl rfl (fun K hK => ?_)
        go_simp
        have hle : x1.heap.size ≤ x2.heap.size := by omega
        refine hK.out _ _ (((((((Below.refl _ _).setCell hle _).setCell hle _).setCell hle _).setCell hle _).setCell hle _).setCell hle _) ?_
        clear hK K hle
        try simp only [PU]
        refine absE (fun x5 hx5 => ?_)
        have hbut : But x4 x5 (x2.heap.size) := by rw [hx5]; exact (But.refl _ _).store.store.store.store.store.store
        have hbn : Bl x5 (x2.heap.size) #[.bool (decide (q1.num < 0)), .slice a1 n1 c1, .slice d1 m1 k1, .bool (decide (q2.num < 0)), .slice a2 n2 c2, .slice d2 m2 k2] := by rw [hx5]; exact (Bl.set (Bl.set (Bl.set (Bl.set (Bl.set (Bl.set bx (by simp)) (by simp)) (by simp)) (by simp)) (by simp)) (by simp))
        have hni : ∀ (j : Nat) (x : Int), (#[.bool false, .slice none 0 0, .slice none 0 0, .bool false, .slice none 0 0, .slice none 0 0] : Array Value)[j]? ≠ some (Value.int .u32 x) := (not_ints6 nb_bool nb_slice nb_slice nb_bool nb_slice nb_slice)
        replace hp1 := hp1.but bx hni hbut
        replace hp3 := hp3.but bx hni hbut
        clear hni
        replace fz := But.fz hbut fz bz (Nat.succ_pos _) (by omega)
        replace bz := But.bl hbut bz (Nat.succ_pos _) (by omega)
        replace fx : Fz x5 (x2.heap.size) := by rw [hx5]; exact (Fz.set (Fz.set (Fz.set (Fz.set (Fz.set (Fz.set fx))))))
        have hle : x1.heap.size ≤ x2.heap.size := by omega
        replace HE : Ext x1 x5 := by rw [hx5]; exact ((((((HE.store hle _).store hle _).store hle _).store hle _).store hle _).store hle _)
        clear hle
        replace hlo : x1.heap.size ≤ x5.heap.size := Nat.le_trans hlo hbut.1
        clear bx hbut hx5
        have bx := hbn
        clear hbn
        refine wpE_b rfl rfl (fun K hK => ?_)
        go_simp
        refine hK.out _ _ ?_
        clear hK K
        try simp only [PU]
        refine absE (fun x6 hx6 => ?_)
        have hbut : But x5 x6 (u12.heap.size) := by rw [hx6]; exact (But.refl _ _).store.store.store.store.store.store
        have hbn : Bl x6 (u12.heap.size) #[.bool (decide (q3.num < 0)), .slice a3 n3 c3, .slice d3 m3 k3, .bool (decide (q4.num < 0)), .slice a4 n4 c4, .slice d4 m4 k4] := by rw [hx6]; exact (Bl.set (Bl.set (Bl.set (Bl.set (Bl.set (Bl.set bz (by simp)) (by simp)) (by simp)) (by simp)) (by simp)) (by simp))
        have hni : ∀ (j : Nat) (x : Int), (#[.bool false, .slice none 0 0, .slice none 0 0, .bool false, .slice none 0 0, .slice none 0 0] : Array Value)[j]? ≠ some (Value.int .u32 x) := (not_ints6 nb_bool nb_slice nb_slice nb_bool nb_slice nb_slice)
        replace hp1 := hp1.but bz hni hbut
        replace hp3 := hp3.but bz hni hbut
        clear hni
        replace fx := But.fz hbut fx bx (Nat.succ_pos _) (by omega)
        replace bx := But.bl hbut bx (Nat.succ_pos _) (by omega)
        replace fz : Fz x6 (u12.heap.size) := by rw [hx6]; exact (Fz.set (Fz.set (Fz.set (Fz.set (Fz.set (Fz.set fz))))))
        have hle : x1.heap.size ≤ u12.heap.size := by omega
        replace HE : Ext x1 x6 := by rw [hx6]; exact ((((((HE.store hle _).store hle _).store hle _).store hle _).store hle _).store hle _)
        clear hle
        replace hlo : x1.heap.size ≤ x6.heap.size := Nat.le_trans hlo hbut.1
        clear bz hbut hx6
        have bz := hbn
        clear hbn
        refine wpE_done ?_
        clear hlo
        go_wp2_with fail
        go_meet
        exact ⟨x2.heap.size, u12.heap.size, a1, d1, a2, d2, a3, d3, a4, d4, n1, c1, m1, k1, n2, c2, m2, k2, n3, c3, m3, k3, n4, c4, m4, k4, rfl, rfl, bx, bz, hp1.1, hp1.2.1, hp1.2.2.1, hp1.2.2.2, hp3.1, hp3.2.1, hp3.2.2.1, hp3.2.2.2, HE⟩
      refine wpE_l rfl rfl (fun K hK => ?_)
      go_simp
      refine hK.out _ _ ((Below.refl _ _).alloc hlo _) ?_
      clear hK K
      try simp only [PU]
      have gez := hlo
      have lxz := bx.lt (Nat.succ_pos _)
      have l0z := HE.size
      refine absE (fun x4 hx4 => ?_)
      have hx : Ext u11 x4 := by rw [hx4]; exact ((Ext.refl _).alloc _)
      have bz : Bl x4 (u11.heap.size) #[.bool false, .slice none 0 0, .slice none 0 0, .bool false, .slice none 0 0, .slice none 0 0] := by rw [hx4]; exact (Bl.new (by simp))
      have fz : Fz x4 (u11.heap.size) := by rw [hx4]; exact (Fz.new (by simp))
      replace hlo := Nat.le_trans hlo hx.size
      replace fx := q1f hx fx bx
      replace bx := q1b hx bx
      replace hp1 := hp1.ext hx
      replace HE := HE.trans hx
      clear hx
      clear hx4
      refine wpE_l rfl rfl (fun K hK => ?_)
      go_simp
      refine (I2.out _).mono ?_
      rintro e u12 ⟨a3, n3, c3, d3, m3, k3, a4, n4, c4, d4, m4, k4, rfl, hs3, ht3, hs4, ht4, hx⟩
      refine hK.out _ _ (Below.mono hx hlo) ?_
      clear hK K
      try simp only [PU]
      replace hlo := Nat.le_trans hlo hx.size
      replace fx := q1f hx fx bx
      replace bx := q1b hx bx
      replace fz := q1f hx fz bz
      replace bz := q1b hx bz
      replace hp1 := hp1.ext hx
      replace HE := HE.trans hx
      clear hx
      have hp3 : Sp4 _ _ _ _ _ _ _ _ _ _ _ _ _ _ _ := ⟨hs3, ht3, hs4, ht4⟩
      clear hs3 ht3 hs4 ht4
      refine wpE_l rfl rfl (fun K hK => ?_)
      go_simp
      have hle : x1.heap.size ≤ x2.heap.size := by omega
      refine hK.out _ _ (((((((Below.refl _ _).setCell hle _).setCell hle _).setCell hle _).setCell hle _).setCell hle _).setCell hle _) ?_
      clear hK K hle
      try simp only [PU]
      refine absE (fun x5 hx5 => ?_)
      have hbut : But u12 x5 (x2.heap.size) := by rw [hx5]; exact (But.refl _ _).store.store.store.store.store.store
      have hbn : Bl x5 (x2.heap.size) #[.bool (decide (q1.num < 0)), .slice a1 n1 c1, .slice d1 m1 k1, .bool (decide (q2.num < 0)), .slice a2 n2 c2, .slice d2 m2 k2] := by rw [hx5]; exact (Bl.set (Bl.set (Bl.set (Bl.set (Bl.set (Bl.set bx (by simp)) (by simp)) (by simp)) (by simp)) (by simp)) (by simp))
      have hni : ∀ (j : Nat) (x : Int), (#[.bool false, .slice none 0 0, .slice none 0 0, .bool false, .slice none 0 0, .slice none 0 0] : Array Value)[j]? ≠ some (Value.int .u32 x) := (not_ints6 nb_bool nb_slice nb_slice nb_bool nb_slice nb_slice)
      replace hp1 := hp1.but bx hni hbut
      replace hp3 := hp3.but bx hni hbut
      clear hni
      replace fz := But.fz hbut fz bz (Nat.succ_pos _) (by omega)
      replace bz := But.bl hbut bz (Nat.succ_pos _) (by omega)
      replace fx : Fz x5 (x2.heap.size) := by rw [hx5]; exact (Fz.set (Fz.set (Fz.set (Fz.set (Fz.set (Fz.set fx))))))
      have hle : x1.heap.size ≤ x2.heap.size := by omega
      replace HE : Ext x1 x5 := by rw [hx5]; exact ((((((HE.store hle _).store hle _).store hle _).store hle _).store hle _).store hle _)
      clear hle
      replace hlo : x1.heap.size ≤ x5.heap.size := Nat.le_trans hlo hbut.1
      clear bx hbut hx5
      have bx := hbn
      clear hbn
      refine wpE_b rfl rfl (fun K hK => ?_)
      go_simp
      refine hK.out _ _ ?_
      clear hK K
      try simp only [PU]
      refine absE (fun x6 hx6 => ?_)
      have hbut : But x5 x6 (u11.heap.size) := by rw [hx6]; exact (But.refl _ _).store.store.store.store.store.store
      have hbn : Bl x6 (u11.heap.size) #[.bool (decide (q3.num < 0)), .slice a3 n3 c3, .slice d3 m3 k3, .bool (decide (q4.num < 0)), .slice a4 n4 c4, .slice d4 m4 k4] := by rw [hx6]; exact (Bl.set (Bl.set (Bl.set (Bl.set (Bl.set (Bl.set bz (by simp)) (by simp)) (by simp)) (by simp)) (by simp)) (by simp))
      have hni : ∀ (j : Nat) (x : Int), (#[.bool false, .slice none 0 0, .slice none 0 0, .bool false, .slice none 0 0, .slice none 0 0] : Array Value)[j]? ≠ some (Value.int .u32 x) := (not_ints6 nb_bool nb_slice nb_slice nb_bool nb_slice nb_slice)
      replace hp1 := hp1.but bz hni hbut
      replace hp3 := hp3.but bz hni hbut
      clear hni
      replace fx := But.fz hbut fx bx (Nat.succ_pos _) (by omega)
      replace bx := But.bl hbut bx (Nat.succ_pos _) (by omega)
      replace fz : Fz x6 (u11.heap.size) := by rw [hx6]; exact (Fz.set (Fz.set (Fz.set (Fz.set (Fz.set (Fz.set fz))))))
      have hle : x1.heap.size ≤ u11.heap.size := by omega
      replace HE : Ext x1 x6 := by rw [hx6]; exact ((((((HE.store hle _).store hle _).store hle _).store hle _).store hle _).store hle _)
      clear hle
      replace hlo : x1.heap.size ≤ x6.heap.size := Nat.le_trans hlo hbut.1
      clear bz hbut hx6
      have bz := hbn
      clear hbn
      refine wpE_done ?_
      clear hlo
      go_wp2_with fail
      go_meet
      exact ⟨x2.heap.size, u11.heap.size, a1, d1, a2, d2, a3, d3, a4, d4, n1, c1, m1, k1, n2, c2, m2, k2, n3, c3, m3, k3, n4, c4, m4, k4, rfl, rfl, bx, bz, hp1.1, hp1.2.1, hp1.2.2.1, hp1.2.2.2, hp3.1, hp3.2.1, hp3.2.2.1, hp3.2.2.2, HE⟩
    refine wpE_l rfl rfl (fun K hK => ?_)
    go_simp
    refine hK.out _ _ ((Below.refl _ _).alloc hlo _) ?_
    clear hK K
    try simp only [PU]
    have gez := hlo
    have lxz := bx.lt (Nat.succ_pos _)
    have l0z := HE.size
    refine absE (fun x4 hx4 => ?_)
    have hx : Ext x3 x4 := by rw [hx4]; exact ((Ext.refl _).alloc _)
    have bz : Bl x4 (x3.heap.size) #[.bool false, .slice none 0 0, .slice none 0 0, .bool false, .slice none 0 0, .slice none 0 0] := by rw [hx4]; exact (Bl.new (by simp))
    have fz : Fz x4 (x3.heap.size) := by rw [hx4]; exact (Fz.new (by simp))
    replace hlo := Nat.le_trans hlo hx.size
    replace fx := q1f hx fx bx
    replace bx := q1b hx bx
    replace HE := HE.trans hx
    clear hx
    clear hx4
    refine wpE_l rfl rfl (fun K hK => ?_)
    go_simp
    refine (I1.out _).mono ?_
    rintro e u11 ⟨a1, n1, c1, d1, m1, k1, a2, n2, c2, d2, m2, k2, rfl, hs1, ht1, hs2, ht2, hx⟩
    refine hK.out _ _ (Below.mono hx hlo) ?_
    clear hK K
    try simp only [PU]
    replace hlo := Nat.le_trans hlo hx.size
    replace fx := q1f hx fx bx
    replace bx := q1b hx bx
    replace fz := q1f hx fz bz
    replace bz := q1b hx bz
    replace HE := HE.trans hx
    clear hx
    have hp1 : Sp4 _ _ _ _ _ _ _ _ _ _ _ _ _ _ _ := ⟨hs1, ht1, hs2, ht2⟩
    clear hs1 ht1 hs2 ht2
    refine wpE_l rfl rfl (fun K hK => ?_)
    go_simp
    refine (I2.out _).mono ?_
    rintro e u12 ⟨a3, n3, c3, d3, m3, k3, a4, n4, c4, d4, m4, k4, rfl, hs3, ht3, hs4, ht4, hx⟩
    refine hK.out _ _ (Below.mono hx hlo) ?_
    clear hK K
    try simp only [PU]
    replace hlo := Nat.le_trans hlo hx.size
    replace fx := q1f hx fx bx
    replace bx := q1b hx bx
    replace fz := q1f hx fz bz
    replace bz := q1b hx bz
    replace hp1 := hp1.ext hx
    replace HE := HE.trans hx
    clear hx
    have hp3 : Sp4 _ _ _ _ _ _ _ _ _ _ _ _ _ _ _ := ⟨hs3, ht3, hs4, ht4⟩
    clear hs3 ht3 hs4 ht4
    refine wpE_l rfl rfl (fun K hK => ?_)
    go_simp
    have hle : x1.heap.size ≤ x2.heap.size := by omega
    refine hK.out _ _ (((((((Below.refl _ _).setCell hle _).setCell hle _).setCell hle _).setCell hle _).setCell hle _).setCell hle _) ?_
    clear hK K hle
    try simp only [PU]
    refine absE (fun x5 hx5 => ?_)
    have hbut : But u12 x5 (x2.heap.size) := by rw [hx5]; exact (But.refl _ _).store.store.store.store.store.store
    have hbn : Bl x5 (x2.heap.size) #[.bool (decide (q1.num < 0)), .slice a1 n1 c1, .slice d1 m1 k1, .bool (decide (q2.num < 0)), .slice a2 n2 c2, .slice d2 m2 k2] := by rw [hx5]; exact (Bl.set (Bl.set (Bl.set (Bl.set (Bl.set (Bl.set bx (by simp)) (by simp)) (by simp)) (by simp)) (by simp)) (by simp))
    have hni : ∀ (j : Nat) (x : Int), (#[.bool false, .slice none 0 0, .slice none 0 0, .bool false, .slice none 0 0, .slice none 0 0] : Array Value)[j]? ≠ some (Value.int .u32 x) := (not_ints6 nb_bool nb_slice nb_slice nb_bool nb_slice nb_slice)
    replace hp1 := hp1.but bx hni hbut
    replace hp3 := hp3.but bx hni hbut
    clear hni
    replace fz := But.fz hbut fz bz (Nat.succ_pos _) (by omega)
    replace bz := But.bl hbut bz (Nat.succ_pos _) (by omega)
    replace fx : Fz x5 (x2.heap.size) := by rw [hx5]; exact (Fz.set (Fz.set (Fz.set (Fz.set (Fz.set (Fz.set fx))))))
    have hle : x1.heap.size ≤ x2.heap.size := by omega
    replace HE : Ext x1 x5 := by rw [hx5]; exact ((((((HE.store hle _).store hle _).store hle _).store hle _).store hle _).store hle _)
    clear hle
    replace hlo : x1.heap.size ≤ x5.heap.size := Nat.le_trans hlo hbut.1
    clear bx hbut hx5
    have bx := hbn
    clear hbn
    refine wpE_b rfl rfl (fun K hK => ?_)
    go_simp
    refine hK.out _ _ ?_
    clear hK K
    try simp only [PU]
    refine absE (fun x6 hx6 => ?_)
    have hbut : But x5 x6 (x3.heap.size) := by rw [hx6]; exact (But.refl _ _).store.store.store.store.store.store
    have hbn : Bl x6 (x3.heap.size) #[.bool (decide (q3.num < 0)), .slice a3 n3 c3, .slice d3 m3 k3, .bool (decide (q4.num < 0)), .slice a4 n4 c4, .slice d4 m4 k4] := by rw [hx6]; exact (Bl.set (Bl.set (Bl.set (Bl.set (Bl.set (Bl.set bz (by simp)) (by simp)) (by simp)) (by simp)) (by simp)) (by simp))
    have hni : ∀ (j : Nat) (x : Int), (#[.bool false, .slice none 0 0, .slice none 0 0, .bool false, .slice none 0 0, .slice none 0 0] : Array Value)[j]? ≠ some (Value.int .u32 x) := (not_ints6 nb_bool nb_slice nb_slice nb_bool nb_slice nb_slice)
    replace hp1 := hp1.but bz hni hbut
    replace hp3 := hp3.but bz hni hbut
    clear hni
    replace fx := But.fz hbut fx bx (Nat.succ_pos _) (by omega)
    replace bx := But.bl hbut bx (Nat.succ_pos _) (by omega)
    replace fz : Fz x6 (x3.heap.size) := by rw [hx6]; exact (Fz.set (Fz.set (Fz.set (Fz.set (Fz.set (Fz.set fz))))))
    have hle : x1.heap.size ≤ x3.heap.size := by omega
    replace HE : Ext x1 x6 := by rw [hx6]; exact ((((((HE.store hle _).store hle _).store hle _).store hle _).store hle _).store hle _)
    clear hle
    replace hlo : x1.heap.size ≤ x6.heap.size := Nat.le_trans hlo hbut.1
    clear bz hbut hx6
    have bz := hbn
    clear hbn
    refine wpE_done ?_
    clear hlo
    go_wp2_with fail
    go_meet
    exact ⟨x2.heap.size, x3.heap.size, a1, d1, a2, d2, a3, d3, a4, d4, n1, c1, m1, k1, n2, c2, m2, k2, n3, c3, m3, k3, n4, c4, m4, k4, rfl, rfl, bx, bz, hp1.1, hp1.2.1, hp1.2.2.1, hp1.2.2.2, hp3.1, hp3.2.1, hp3.2.2.1, hp3.2.2.2, HE⟩
  refine wpE_l rfl rfl (fun K hK => ?_)
  go_simp
  refine hK.out _ _ ((Below.refl _ _).alloc hlo _) ?_
  clear hK K
  try simp only [PU]
  have gez := hlo
  have l0z := HE.size
  refine absE (fun x3 hx3 => ?_)
  have hx : Ext x2 x3 := by rw [hx3]; exact ((Ext.refl _).alloc _)
  have bz : Bl x3 (x2.heap.size) #[.bool false, .slice none 0 0, .slice none 0 0, .bool false, .slice none 0 0, .slice none 0 0] := by rw [hx3]; exact (Bl.new (by simp))
  have fz : Fz x3 (x2.heap.size) := by rw [hx3]; exact (Fz.new (by simp))
  replace hlo := Nat.le_trans hlo hx.size
  replace HE := HE.trans hx
  clear hx
  clear hx3
  refine wpE_br rfl rfl (fun K hK => ?_) ?_
  · go_simp
    refine (I1.out _).mono ?_
    rintro e u11 ⟨a1, n1, c1, d1, m1, k1, a2, n2, c2, d2, m2, k2, rfl, hs1, ht1, hs2, ht2, hx⟩
    refine hK.out _ _ (Below.mono hx hlo) ?_
    clear hK K
    try simp only [PU]
    replace hlo := Nat.le_trans hlo hx.size
    replace fz := q1f hx fz bz
    replace bz := q1b hx bz
    replace HE := HE.trans hx
    clear hx
    have hp1 : Sp4 _ _ _ _ _ _ _ _ _ _ _ _ _ _ _ := ⟨hs1, ht1, hs2, ht2⟩
    clear hs1 ht1 hs2 ht2
    refine wpE_br rfl rfl (fun K hK => ?_) ?_
    · go_simp
      refine (I2.out _).mono ?_
      rintro e u12 ⟨a3, n3, c3, d3, m3, k3, a4, n4, c4, d4, m4, k4, rfl, hs3, ht3, hs4, ht4, hx⟩
      refine hK.out _ _ (Below.mono hx hlo) ?_
      clear hK K
      try simp only [PU]
      replace hlo := Nat.le_trans hlo hx.size
      replace fz := q1f hx fz bz
      replace bz := q1b hx bz
      replace hp1 := hp1.ext hx
      replace HE := HE.trans hx
      clear hx
      have hp3 : Sp4 _ _ _ _ _ _ _ _ _ _ _ _ _ _ _ := ⟨hs3, ht3, hs4, ht4⟩
      clear hs3 ht3 hs4 ht4
      refine wpE_l rfl rfl (fun K hK => ?_)
      go_simp
      refine hK.out _ _ ((Below.refl _ _).alloc hlo _) ?_
      clear hK K
      try simp only [PU]
      have gex := hlo
      have lzx := bz.lt (Nat.succ_pos _)
      have l0x := HE.size
      refine absE (fun x4 hx4 => ?_)
      have hx : Ext u12 x4 := by rw [hx4]; exact ((Ext.refl _).alloc _)
      have bx : Bl x4 (u12.heap.size) #[.bool false, .slice none 0 0, .slice none 0 0, .bool false, .slice none 0 0, .slice none 0 0] := by rw [hx4]; exact (Bl.new (by simp))
      have fx : Fz x4 (u12.heap.size) := by rw [hx4]; exact (Fz.new (by simp))
      replace hlo := Nat.le_trans hlo hx.size
      replace fz := q1f hx fz bz
      replace bz := q1b hx bz
      replace hp1 := hp1.ext hx
      replace hp3 := hp3.ext hx
      replace HE := HE.trans hx
      clear hx
      clear hx4
      refine wpE_l rfl rfl (fun K hK => ?_)
      go_simp
      have hle : x1.heap.size ≤ u12.heap.size := by omega
      refine hK.out _ _ (((((((Below.refl _ _).setCell hle _).setCell hle _).setCell hle _).setCell hle _).setCell hle _).setCell hle _) ?_
      clear hK K hle
      try simp only [PU]
      refine absE (fun x5 hx5 => ?_)
      have hbut : But x4 x5 (u12.heap.size) := by rw [hx5]; exact (But.refl _ _).store.store.store.store.store.store
      have hbn : Bl x5 (u12.heap.size) #[.bool (decide (q1.num < 0)), .slice a1 n1 c1, .slice d1 m1 k1, .bool (decide (q2.num < 0)), .slice a2 n2 c2, .slice d2 m2 k2] := by rw [hx5]; exact (Bl.set (Bl.set (Bl.set (Bl.set (Bl.set (Bl.set bx (by simp)) (by simp)) (by simp)) (by simp)) (by simp)) (by simp))
      have hni : ∀ (j : Nat) (x : Int), (#[.bool false, .slice none 0 0, .slice none 0 0, .bool false, .slice none 0 0, .slice none 0 0] : Array Value)[j]? ≠ some (Value.int .u32 x) := (not_ints6 nb_bool nb_slice nb_slice nb_bool nb_slice nb_slice)
      replace hp1 := hp1.but bx hni hbut
      replace hp3 := hp3.but bx hni hbut
      clear hni
      replace fz := But.fz hbut fz bz (Nat.succ_pos _) (by omega)
      replace bz := But.bl hbut bz (Nat.succ_pos _) (by omega)
      replace fx : Fz x5 (u12.heap.size) := by rw [hx5]; exact (Fz.set (Fz.set (Fz.set (Fz.set (Fz.set (Fz.set fx))))))
      have hle : x1.heap.size ≤ u12.heap.size := by omega
      replace HE : Ext x1 x5 := by rw [hx5]; exact ((((((HE.store hle _).store hle _).store hle _).store hle _).store hle _).store hle _)
      clear hle
      replace hlo : x1.heap.size ≤ x5.heap.size := Nat.le_trans hlo hbut.1
      clear bx hbut hx5
      have bx := hbn
      clear hbn
      refine wpE_b rfl rfl (fun K hK => ?_)
      go_simp
      refine hK.out _ _ ?_
      clear hK K
      try simp only [PU]
      refine absE (fun x6 hx6 => ?_)
      have hbut : But x5 x6 (x2.heap.size) := by rw [hx6]; exact (But.refl _ _).store.store.store.store.store.store
      have hbn : Bl x6 (x2.heap.size) #[.bool (decide (q3.num < 0)), .slice a3 n3 c3, .slice d3 m3 k3, .bool (decide (q4.num < 0)), .slice a4 n4 c4, .slice d4 m4 k4] := by rw [hx6]; exact (Bl.set (Bl.set (Bl.set (Bl.set (Bl.set (Bl.set bz (by simp)) (by simp)) (by simp)) (by simp)) (by simp)) (by simp))
      have hni : ∀ (j : Nat) (x : Int), (#[.bool false, .slice none 0 0, .slice none 0 0, .bool false, .slice none 0 0, .slice none 0 0] : Array Value)[j]? ≠ some (Value.int .u32 x) := (not_ints6 nb_bool nb_slice nb_slice nb_bool nb_slice nb_slice)
      replace hp1 := hp1.but bz hni hbut
      replace hp3 := hp3.but bz hni hbut
      clear hni
      replace fx := But.fz hbut fx bx (Nat.succ_pos _) (by omega)
      replace bx := But.bl hbut bx (Nat.succ_pos _) (by omega)
      replace fz : Fz x6 (x2.heap.size) := by rw [hx6]; exact (Fz.set (Fz.set (Fz.set (Fz.set (Fz.set (Fz.set fz))))))
      have hle : x1.heap.size ≤ x2.heap.size := by omega
      replace HE : Ext x1 x6 := by rw [hx6]; exact ((((((HE.store hle _).store hle _).store hle _).store hle _).store hle _).store hle _)
      clear hle
      replace hlo : x1.heap.size ≤ x6.heap.size := Nat.le_trans hlo hbut.1
      clear bz hbut hx6
      have bz := hbn
      clear hbn
      refine wpE_done ?_
      clear hlo
      go_wp2_with fail
      go_meet
      exact ⟨u12.heap.size, x2.heap.size, a1, d1, a2, d2, a3, d3, a4, d4, n1, c1, m1, k1, n2, c2, m2, k2, n3, c3, m3, k3, n4, c4, m4, k4, rfl, rfl, bx, bz, hp1.1, hp1.2.1, hp1.2.2.1, hp1.2.2.2, hp3.1, hp3.2.1, hp3.2.2.1, hp3.2.2.2, HE⟩
    refine wpE_l rfl rfl (fun K hK => ?_)
    go_simp
    refine hK.out _ _ ((Below.refl _ _).alloc hlo _) ?_
    clear hK K
    try simp only [PU]
    have gex := hlo
    have lzx := bz.lt (Nat.succ_pos _)
    have l0x := HE.size
    refine absE (fun x4 hx4 => ?_)
    have hx : Ext u11 x4 := by rw [hx4]; exact ((Ext.refl _).alloc _)
    have bx : Bl x4 (u11.heap.size) #[.bool false, .slice none 0 0, .slice none 0 0, .bool false, .slice none 0 0, .slice none 0 0] := by rw [hx4]; exact (Bl.new (by simp))
    have fx : Fz x4 (u11.heap.size) := by rw [hx4]; exact (Fz.new (by simp))
    replace hlo := Nat.le_trans hlo hx.size
    replace fz := q1f hx fz bz
    replace bz := q1b hx bz
    replace hp1 := hp1.ext hx
    replace HE := HE.trans hx
    clear hx
    clear hx4
    refine wpE_l rfl rfl (fun K hK => ?_)
    go_simp
    refine (I2.out _).mono ?_
    rintro e u12 ⟨a3, n3, c3, d3, m3, k3, a4, n4, c4, d4, m4, k4, rfl, hs3, ht3, hs4, ht4, hx⟩
    refine hK.out _ _ (Below.mono hx hlo) ?_
    clear hK K
    try simp only [PU]
    replace hlo := Nat.le_trans hlo hx.size
    replace fz := q1f hx fz bz
    replace bz := q1b hx bz
    replace fx := q1f hx fx bx
    replace bx := q1b hx bx
    replace hp1 := hp1.ext hx
    replace HE := HE.trans hx
    clear hx
    have hp3 : Sp4 _ _ _ _ _ _ _ _ _ _ _ _ _ _ _ := ⟨hs3, ht3, hs4, ht4⟩
    clear hs3 ht3 hs4 ht4
    refine wpE_l rfl rfl (fun K hK => ?_)
    go_simp
    have hle : x1.heap.size ≤ u11.heap.size := by omega
    refine hK.out _ _ (((((((Below.refl _ _).setCell hle _).setCell hle _).setCell hle _).setCell hle _).setCell hle _).setCell hle _) ?_
    clear hK K hle
    try simp only [PU]
    refine absE (fun x5 hx5 => ?_)
    have hbut : But u12 x5 (u11.heap.size) := by rw [hx5]; exact (But.refl _ _).store.store.store.store.store.store
    have hbn : Bl x5 (u11.heap.size) #[.bool (decide (q1.num < 0)), .slice a1 n1 c1, .slice d1 m1 k1, .bool (decide (q2.num < 0)), .slice a2 n2 c2, .slice d2 m2 k2] := by rw [hx5]; exact (Bl.set (Bl.set (Bl.set (Bl.set (Bl.set (Bl.set bx (by simp)) (by simp)) (by simp)) (by simp)) (by simp)) (by simp))
    have hni : ∀ (j : Nat) (x : Int), (#[.bool false, .slice none 0 0, .slice none 0 0, .bool false, .slice none 0 0, .slice none 0 0] : Array Value)[j]? ≠ some (Value.int .u32 x) := (not_ints6 nb_bool nb_slice nb_slice nb_bool nb_slice nb_slice)
    replace hp1 := hp1.but bx hni hbut
    replace hp3 := hp3.but bx hni hbut
    clear hni
    replace fz := But.fz hbut fz bz (Nat.succ_pos _) (by omega)
    replace bz := But.bl hbut bz (Nat.succ_pos _) (by omega)
    replace fx : Fz x5 (u11.heap.size) := by rw [hx5]; exact (Fz.set (Fz.set (Fz.set (Fz.set (Fz.set (Fz.set fx))))))
    have hle : x1.heap.size ≤ u11.heap.size := by omega
    replace HE : Ext x1 x5 := by rw [hx5]; exact ((((((HE.store hle _).store hle _).store hle _).store hle _).store hle _).store hle _)
    clear hle
    replace hlo : x1.heap.size ≤ x5.heap.size := Nat.le_trans hlo hbut.1
    clear bx hbut hx5
    have bx := hbn
    clear hbn
    refine wpE_b rfl rfl (fun K hK => ?_)
    go_simp
    refine hK.out _ _ ?_
    clear hK K
    try simp only [PU]
    refine absE (fun x6 hx6 => ?_)
    have hbut : But x5 x6 (x2.heap.size) := by rw [hx6]; exact (But.refl _ _).store.store.store.store.store.store
    have hbn : Bl x6 (x2.heap.size) #[.bool (decide (q3.num < 0)), .slice a3 n3 c3, .slice d3 m3 k3, .bool (decide (q4.num < 0)), .slice a4 n4 c4, .slice d4 m4 k4] := by rw [hx6]; exact (Bl.set (Bl.set (Bl.set (Bl.set (Bl.set (Bl.set bz (by simp)) (by simp)) (by simp)) (by simp)) (by simp)) (by simp))
    have hni : ∀ (j : Nat) (x : Int), (#[.bool false, .slice none 0 0, .slice none 0 0, .bool false, .slice none 0 0, .slice none 0 0] : Array Value)[j]? ≠ some (Value.int .u32 x) := (not_ints6 nb_bool nb_slice nb_slice nb_bool nb_slice nb_slice)
    replace hp1 := hp1.but bz hni hbut
    replace hp3 := hp3.but bz hni hbut
    clear hni
    replace fx := But.fz hbut fx bx (Nat.succ_pos _) (by omega)
    replace bx := But.bl hbut bx (Nat.succ_pos _) (by omega)
    replace fz : Fz x6 (x2.heap.size) := by rw [hx6]; exact (Fz.set (Fz.set (Fz.set (Fz.set (Fz.set (Fz.set fz))))))
    have hle : x1.heap.size ≤ x2.heap.size := by omega
    replace HE : Ext x1 x6 := by rw [hx6]; exact ((((((HE.store hle _).store hle _).store hle _).store hle _).store hle _).store hle _)
    clear hle
    replace hlo : x1.heap.size ≤ x6.heap.size := Nat.le_trans hlo hbut.1
    clear bz hbut hx6
    have bz := hbn
    clear hbn
    refine wpE_done ?_
    clear hlo
    go_wp2_with fail
    go_meet
    exact ⟨u11.heap.size, x2.heap.size, a1, d1, a2, d2, a3, d3, a4, d4, n1, c1, m1, k1, n2, c2, m2, k2, n3, c3, m3, k3, n4, c4, m4, k4, rfl, rfl, bx, bz, hp1.1, hp1.2.1, hp1.2.2.1, hp1.2.2.2, hp3.1, hp3.2.1, hp3.2.2.1, hp3.2.2.2, HE⟩
  refine wpE_l rfl rfl (fun K hK => ?_)
  go_simp
  refine hK.out _ _ ((Below.refl _ _).alloc hlo _) ?_
  clear hK K
  try simp only [PU]
  have gex := hlo
  have lzx := bz.lt (Nat.succ_pos _)
  have l0x := HE.size
  refine absE (fun x4 hx4 => ?_)
  have hx : Ext x3 x4 := by rw [hx4]; exact ((Ext.refl _).alloc _)
  have bx : Bl x4 (x3.heap.size) #[.bool false, .slice none 0 0, .slice none 0 0, .bool false, .slice none 0 0, .slice none 0 0] := by rw [hx4]; exact (Bl.new (by simp))
  have fx : Fz x4 (x3.heap.size) := by rw [hx4]; exact (Fz.new (by simp))
  replace hlo := Nat.le_trans hlo hx.size
  replace fz := q1f hx fz bz
  replace bz := q1b hx bz
  replace HE := HE.trans hx
  clear hx
  clear hx4
  refine wpE_l rfl rfl (fun K hK => ?_)
  go_simp
  refine (I1.out _).mono ?_
  rintro e u11 ⟨a1, n1, c1, d1, m1, k1, a2, n2, c2, d2, m2, k2, rfl, hs1, ht1, hs2, ht2, hx⟩
  refine hK.out _ _ (Below.mono hx hlo) ?_
  clear hK K
  try simp only [PU]
  replace hlo := Nat.le_trans hlo hx.size
  replace fz := q1f hx fz bz
  replace bz := q1b hx bz
  replace fx := q1f hx fx bx
  replace bx := q1b hx bx
  replace HE := HE.trans hx
  clear hx
  have hp1 : Sp4 _ _ _ _ _ _ _ _ _ _ _ _ _ _ _ := ⟨hs1, ht1, hs2, ht2⟩
  clear hs1 ht1 hs2 ht2
  refine wpE_l rfl rfl (fun K hK => ?_)
  go_simp
  refine (I2.out _).mono ?_
  rintro e u12 ⟨a3, n3, c3, d3, m3, k3, a4, n4, c4, d4, m4, k4, rfl, hs3, ht3, hs4, ht4, hx⟩
  refine hK.out _ _ (Below.mono hx hlo) ?_
  clear hK K
  try simp only [PU]
  replace hlo := Nat.le_trans hlo hx.size
  replace fz := q1f hx fz bz
  replace bz := q1b hx bz
  replace fx := q1f hx fx bx
  replace bx := q1b hx bx
  replace hp1 := hp1.ext hx
  replace HE := HE.trans hx
  clear hx
  have hp3 : Sp4 _ _ _ _ _ _ _ _ _ _ _ _ _ _ _ := ⟨hs3, ht3, hs4, ht4⟩
  clear hs3 ht3 hs4 ht4
  refine wpE_l rfl rfl (fun K hK => ?_)
  go_simp
  have hle : x1.heap.size ≤ x3.heap.size := by omega
  refine hK.out _ _ (((((((Below.refl _ _).setCell hle _).setCell hle _).setCell hle _).setCell hle _).setCell hle _).setCell hle _) ?_
  clear hK K hle
  try simp only [PU]
  refine absE (fun x5 hx5 => ?_)
  have hbut : But u12 x5 (x3.heap.size) := by rw [hx5]; exact (But.refl _ _).store.store.store.store.store.store
  have hbn : Bl x5 (x3.heap.size) #[.bool (decide (q1.num < 0)), .slice a1 n1 c1, .slice d1 m1 k1, .bool (decide (q2.num < 0)), .slice a2 n2 c2, .slice d2 m2 k2] := by rw [hx5]; exact (Bl.set (Bl.set (Bl.set (Bl.set (Bl.set (Bl.set bx (by simp)) (by simp)) (by simp)) (by simp)) (by simp)) (by simp))
  have hni : ∀ (j : Nat) (x : Int), (#[.bool false, .slice none 0 0, .slice none 0 0, .bool false, .slice none 0 0, .slice none 0 0] : Array Value)[j]? ≠ some (Value.int .u32 x) := (not_ints6 nb_bool nb_slice nb_slice nb_bool nb_slice nb_slice)
  replace hp1 := hp1.but bx hni hbut
  replace hp3 := hp3.but bx hni hbut
  clear hni
  replace fz := But.fz hbut fz bz (Nat.succ_pos _) (by omega)
  replace bz := But.bl hbut bz (Nat.succ_pos _) (by omega)
  replace fx : Fz x5 (x3.heap.size) := by rw [hx5]; exact (Fz.set (Fz.set (Fz.set (Fz.set (Fz.set (Fz.set fx))))))
  have hle : x1.heap.size ≤ x3.heap.size := by omega
  replace HE : Ext x1 x5 := by rw [hx5]; exact ((((((HE.store hle _).store hle _).store hle _).store hle _).store hle _).store hle _)
  clear hle
  replace hlo : x1.heap.size ≤ x5.heap.size := Nat.le_trans hlo hbut.1
  clear bx hbut hx5
  have bx := hbn
  clear hbn
  refine wpE_b rfl rfl (fun K hK => ?_)
  go_simp
  refine hK.out _ _ ?_
  clear hK K
  try simp only [PU]
  refine absE (fun x6 hx6 => ?_)
  have hbut : But x5 x6 (x2.heap.size) := by rw [hx6]; exact (But.refl _ _).store.store.store.store.store.store
  have hbn : Bl x6 (x2.heap.size) #[.bool (decide (q3.num < 0)), .slice a3 n3 c3, .slice d3 m3 k3, .bool (decide (q4.num < 0)), .slice a4 n4 c4, .slice d4 m4 k4] := by rw [hx6]; exact (Bl.set (Bl.set (Bl.set (Bl.set (Bl.set (Bl.set bz (by simp)) (by simp)) (by simp)) (by simp)) (by simp)) (by simp))
  have hni : ∀ (j : Nat) (x : Int), (#[.bool false, .slice none 0 0, .slice none 0 0, .bool false, .slice none 0 0, .slice none 0 0] : Array Value)[j]? ≠ some (Value.int .u32 x) := (not_ints6 nb_bool nb_slice nb_slice nb_bool nb_slice nb_slice)
  replace hp1 := hp1.but bz hni hbut
  replace hp3 := hp3.but bz hni hbut
  clear hni
  replace fx := But.fz hbut fx bx (Nat.succ_pos _) (by omega)
  replace bx := But.bl hbut bx (Nat.succ_pos _) (by omega)
  replace fz : Fz x6 (x2.heap.size) := by rw [hx6]; exact (Fz.set (Fz.set (Fz.set (Fz.set (Fz.set (Fz.set fz))))))
  have hle : x1.heap.size ≤ x2.heap.size := by omega
  replace HE : Ext x1 x6 := by rw [hx6]; exact ((((((HE.store hle _).store hle _).store hle _).store hle _).store hle _).store hle _)
  clear hle
  replace hlo : x1.heap.size ≤ x6.heap.size := Nat.le_trans hlo hbut.1
  clear bz hbut hx6
  have bz := hbn
  clear hbn
  refine wpE_done ?_
  clear hlo
  go_wp2_with fail
  go_meet
  exact ⟨x3.heap.size, x2.heap.size, a1, d1, a2, d2, a3, d3, a4, d4, n1, c1, m1, k1, n2, c2, m2, k2, n3, c3, m3, k3, n4, c4, m4, k4, rfl, rfl, bx, bz, hp1.1, hp1.2.1, hp1.2.2.1, hp1.2.2.2, hp3.1, hp3.2.1, hp3.2.2.1, hp3.2.2.2, HE⟩
 obtain ⟨g5, g6, a1, d1, a2, d2, a3, d3, a4, d4, n1, c1, m1, k1, n2, c2, m2, k2, n3, c3, m3, k3, n4, c4, m4, k4, rfl, rfl, bx, by_, hs1, ht1, hs2, ht2, hs3, ht3, hs4, ht4, hx⟩ := hcut
 replace bp := q1b hx bp
 replace bq := q1b hx bq
 replace HE := HE.trans hx
 clear hx
 go_wp2_with fail
 go_cut [7] (fun v7 wx => ∃ (g7 : Nat) (a23 d23 : Option Addr) (n23 c23 m23 k23 : Nat), v7 = .pointer (some ⟨g7, 0, none⟩) ∧ wc.heap.size ≤ g7 ∧ Bl wx g7 #[.bool (decide (v3.num < 0)), .slice a23 n23 c23, .slice d23 m23 k23] ∧ Nc wx a23 n23 c23 (v3.num).natAbs ∧ Nc wx d23 m23 k23 (v3.den) ∧ Ext wc wx)
 case first =>
  have HCut := Ext.refl wc
  have lop := bp.lt (Nat.succ_pos _)
  have loq := bq.lt (Nat.succ_pos _)
  have lox := bx.lt (Nat.succ_pos _)
  have loy_ := by_.lt (Nat.succ_pos _)
  have hlo : wc.heap.size ≤ wc.heap.size := Nat.le_refl _
  refine wp_region_plan (R := Below wc.heap.size) (.q 0 (.q 1 (.q 2 (.q 3 (.q 5 (.q 6 (.q 7 (.q 8 (.br 4 (.br 9 (.br 10 (.q 11 (.q 12 (.q 13 (.l 14 (.l 15 (.q 16 .done)))))) (.l 14 (.l 10 (.q 11 (.q 12 (.q 13 (.l 15 (.q 16 .done)))))))) (.l 14 (.l 9 (.l 10 (.q 11 (.q 12 (.q 13 (.l 15 (.q 16 .done))))))))) (.l 14 (.l 4 (.l 9 (.l 10 (.q 11 (.q 12 (.q 13 (.l 15 (.q 16 .done)))))))))))))))))) (by kernel_rfl) (by kernel_rfl) (by kernel_rfl) (by kernel_rfl) (Below.refl _) (fun _ _ _ => Below.trans) ?_
  refine absE (fun x2 hx2 => ?_)
  have hx : Ext wc x2 := by rw [hx2]; exact (Ext.refl _).drew
  replace hlo := Nat.le_trans hlo hx.size
  replace bp := q1b hx bp
  replace bq := q1b hx bq
  replace bx := q1b hx bx
  replace by_ := q1b hx by_
  replace hs1 := hs1.ext hx
  replace ht1 := ht1.ext hx
  replace hs2 := hs2.ext hx
  replace ht2 := ht2.ext hx
  replace hs3 := hs3.ext hx
  replace ht3 := ht3.ext hx
  replace hs4 := hs4.ext hx
  replace ht4 := ht4.ext hx
  replace HCut := HCut.trans hx
  replace HE := HE.trans hx
  clear hx
  clear hx2
  repeat (refine wpE_q (v := ?_) rfl rfl (fun u hu => ?_) ?_; rotate_left 1; (focus (have kp := Bl.low hu bp lop; have kq := Bl.low hu bq loq; have kx := Bl.low hu bx lox; have ky_ := Bl.low hu by_ loy_; go_simp; (try rfl))); simp only [PU])
  clear bp
  clear bq
  refine wpE_br rfl rfl (fun K hK => ?_) ?_
  · go_simp
    refine (A1.out _ (HY.out.ext HE) (fq_of hs2 ht2 Z2.out (by omega))).mono ?_
    rintro e u21 ⟨a21, n21, c21, d21, m21, k21, rfl, hs21, ht21, hx⟩
    refine hK.out _ _ (Below.mono hx hlo) ?_
    clear hK K
    try simp only [PU]
    replace hlo := Nat.le_trans hlo hx.size
    replace bx := q1b hx bx
    replace by_ := q1b hx by_
    replace hs1 := hs1.ext hx
    replace ht1 := ht1.ext hx
    replace hs2 := hs2.ext hx
    replace ht2 := ht2.ext hx
    replace hs3 := hs3.ext hx
    replace ht3 := ht3.ext hx
    replace hs4 := hs4.ext hx
    replace ht4 := ht4.ext hx
    replace HCut := HCut.trans hx
    replace HE := HE.trans hx
    clear hx
    replace hs21 : Nc u21 a21 n21 c21 (v1.num).natAbs := hs21
    replace ht21 : Nc u21 d21 m21 k21 (v1.den) := ht21
    refine wpE_br rfl rfl (fun K hK => ?_) ?_
    · go_simp
      refine (A2.out _ (fq_of hs4 ht4 Z4.out (by omega)) (fq_of hs2 ht2 Z2.out (by omega))).mono ?_
      rintro e u22 ⟨a22, n22, c22, d22, m22, k22, rfl, hs22, ht22, hx⟩
      refine hK.out _ _ (Below.mono hx hlo) ?_
      clear hK K
      try simp only [PU]
      replace hlo := Nat.le_trans hlo hx.size
      replace bx := q1b hx bx
      replace by_ := q1b hx by_
      replace hs1 := hs1.ext hx
      replace ht1 := ht1.ext hx
      replace hs2 := hs2.ext hx
      replace ht2 := ht2.ext hx
      replace hs3 := hs3.ext hx
      replace ht3 := ht3.ext hx
      replace hs4 := hs4.ext hx
      replace ht4 := ht4.ext hx
      replace hs21 := hs21.ext hx
      replace ht21 := ht21.ext hx
      replace HCut := HCut.trans hx
      replace HE := HE.trans hx
      clear hx
      replace hs22 : Nc u22 a22 n22 c22 (v2.num).natAbs := hs22
      replace ht22 : Nc u22 d22 m22 k22 (v2.den) := ht22
      refine wpE_br rfl rfl (fun K hK => ?_) ?_
      · go_simp
        refine (A3.out _ (fq_of hs21 ht21 L1.out (by omega)) (fq_of hs22 ht22 L2.out (by omega))).mono ?_
        rintro e u23 ⟨a23, n23, c23, d23, m23, k23, rfl, hs23, ht23, hx⟩
        refine hK.out _ _ (Below.mono hx hlo) ?_
        clear hK K
        try simp only [PU]
        replace hlo := Nat.le_trans hlo hx.size
        replace bx := q1b hx bx
        replace by_ := q1b hx by_
        replace hs1 := hs1.ext hx
        replace ht1 := ht1.ext hx
        replace hs2 := hs2.ext hx
        replace ht2 := ht2.ext hx
        replace hs3 := hs3.ext hx
        replace ht3 := ht3.ext hx
        replace hs4 := hs4.ext hx
        replace ht4 := ht4.ext hx
        replace hs21 := hs21.ext hx
        replace ht21 := ht21.ext hx
        replace hs22 := hs22.ext hx
        replace ht22 := ht22.ext hx
        replace HCut := HCut.trans hx
        replace HE := HE.trans hx
        clear hx
        replace hs23 : Nc u23 a23 n23 c23 (v3.num).natAbs := hs23
        replace ht23 : Nc u23 d23 m23 k23 (v3.den) := ht23
        repeat (refine wpE_q (v := ?_) rfl rfl (fun u hu => ?_) ?_; rotate_left 1; (focus (have kx := Bl.low hu bx lox; have ky_ := Bl.low hu by_ loy_; go_simp; (try rfl))); simp only [PU])
        refine wpE_l rfl rfl (fun K hK => ?_)
        go_simp
        refine hK.out _ _ ((Below.refl _ _).alloc hlo _) ?_
        clear hK K
        try simp only [PU]
        have gev := hlo
        have lxv := bx.lt (Nat.succ_pos _)
        have ly_v := by_.lt (Nat.succ_pos _)
        have l0v := HE.size
        refine absE (fun x3 hx3 => ?_)
        have hx : Ext u23 x3 := by rw [hx3]; exact ((Ext.refl _).alloc _)
        have bv : Bl x3 (u23.heap.size) #[.bool false, .slice none 0 0, .slice none 0 0] := by rw [hx3]; exact (Bl.new (by simp))
        have fv : Fz x3 (u23.heap.size) := by rw [hx3]; exact (Fz.new (by simp))
        replace hlo := Nat.le_trans hlo hx.size
        replace bx := q1b hx bx
        replace by_ := q1b hx by_
        replace hs1 := hs1.ext hx
        replace ht1 := ht1.ext hx
        replace hs2 := hs2.ext hx
        replace ht2 := ht2.ext hx
        replace hs3 := hs3.ext hx
        replace ht3 := ht3.ext hx
        replace hs4 := hs4.ext hx
        replace ht4 := ht4.ext hx
        replace hs21 := hs21.ext hx
        replace ht21 := ht21.ext hx
        replace hs22 := hs22.ext hx
        replace ht22 := ht22.ext hx
        replace hs23 := hs23.ext hx
        replace ht23 := ht23.ext hx
        replace HCut := HCut.trans hx
        replace HE := HE.trans hx
        clear hx
        clear hx3
        refine wpE_l rfl rfl (fun K hK => ?_)
        go_simp
        have hle : wc.heap.size ≤ u23.heap.size := by omega
        refine hK.out _ _ ((((Below.refl _ _).setCell hle _).setCell hle _).setCell hle _) ?_
        clear hK K hle
        try simp only [PU]
        refine absE (fun x4 hx4 => ?_)
        have hbut : But x3 x4 (u23.heap.size) := by rw [hx4]; exact (But.refl _ _).store.store.store
        have hbn : Bl x4 (u23.heap.size) #[.bool (decide (v3.num < 0)), .slice a23 n23 c23, .slice d23 m23 k23] := by rw [hx4]; exact (Bl.set (Bl.set (Bl.set bv (by simp)) (by simp)) (by simp))
        have hni : ∀ (j : Nat) (x : Int), (#[.bool false, .slice none 0 0, .slice none 0 0] : Array Value)[j]? ≠ some (Value.int .u32 x) := (not_ints3 nb_bool nb_slice nb_slice)
        replace hs1 := hs1.but bv hni hbut
        replace ht1 := ht1.but bv hni hbut
        replace hs2 := hs2.but bv hni hbut
        replace ht2 := ht2.but bv hni hbut
        replace hs3 := hs3.but bv hni hbut
        replace ht3 := ht3.but bv hni hbut
        replace hs4 := hs4.but bv hni hbut
        replace ht4 := ht4.but bv hni hbut
        replace hs21 := hs21.but bv hni hbut
        replace ht21 := ht21.but bv hni hbut
        replace hs22 := hs22.but bv hni hbut
        replace ht22 := ht22.but bv hni hbut
        replace hs23 := hs23.but bv hni hbut
        replace ht23 := ht23.but bv hni hbut
        clear hni
        replace bx := But.bl hbut bx (Nat.succ_pos _) (by omega)
        replace by_ := But.bl hbut by_ (Nat.succ_pos _) (by omega)
        replace fv : Fz x4 (u23.heap.size) := by rw [hx4]; exact (Fz.set (Fz.set (Fz.set fv)))
        have hle : w.heap.size ≤ u23.heap.size := by omega
        replace HE : Ext w x4 := by rw [hx4]; exact (((HE.store hle _).store hle _).store hle _)
        clear hle
        have hle : wc.heap.size ≤ u23.heap.size := by omega
        replace HCut : Ext wc x4 := by rw [hx4]; exact (((HCut.store hle _).store hle _).store hle _)
        clear hle
        replace hlo : wc.heap.size ≤ x4.heap.size := Nat.le_trans hlo hbut.1
        clear bv hbut hx4
        have bv := hbn
        clear hbn
        repeat (refine wpE_q (v := ?_) rfl rfl (fun u hu => ?_) ?_; rotate_left 1; (focus (have kx := Bl.low hu bx lox; have ky_ := Bl.low hu by_ loy_; go_simp; (try rfl))); simp only [PU])
        refine wpE_done ?_
        clear hlo
        go_wp2_with fail
        go_meet
        exact ⟨u23.heap.size, a23, d23, n23, c23, m23, k23, rfl, gev, bv, hs23, ht23, HCut⟩
      refine wpE_l rfl rfl (fun K hK => ?_)
      go_simp
      refine hK.out _ _ ((Below.refl _ _).alloc hlo _) ?_
      clear hK K
      try simp only [PU]
      have gev := hlo
      have lxv := bx.lt (Nat.succ_pos _)
      have ly_v := by_.lt (Nat.succ_pos _)
      have l0v := HE.size
      refine absE (fun x3 hx3 => ?_)
      have hx : Ext u22 x3 := by rw [hx3]; exact ((Ext.refl _).alloc _)
      have bv : Bl x3 (u22.heap.size) #[.bool false, .slice none 0 0, .slice none 0 0] := by rw [hx3]; exact (Bl.new (by simp))
      have fv : Fz x3 (u22.heap.size) := by rw [hx3]; exact (Fz.new (by simp))
      replace hlo := Nat.le_trans hlo hx.size
      replace bx := q1b hx bx
      replace by_ := q1b hx by_
      replace hs1 := hs1.ext hx
      replace ht1 := ht1.ext hx
      replace hs2 := hs2.ext hx
      replace ht2 := ht2.ext hx
      replace hs3 := hs3.ext hx
      replace ht3 := ht3.ext hx
      replace hs4 := hs4.ext hx
      replace ht4 := ht4.ext hx
      replace hs21 := hs21.ext hx
      replace ht21 := ht21.ext hx
      replace hs22 := hs22.ext hx
      replace ht22 := ht22.ext hx
      replace HCut := HCut.trans hx
      replace HE := HE.trans hx
      clear hx
      clear hx3
      refine wpE_l rfl rfl (fun K hK => ?_)
      go_simp
      refine (A3.out _ (fq_of hs21 ht21 L1.out (by omega)) (fq_of hs22 ht22 L2.out (by omega))).mono ?_
      rintro e u23 ⟨a23, n23, c23, d23, m23, k23, rfl, hs23, ht23, hx⟩
      refine hK.out _ _ (Below.mono hx hlo) ?_
      clear hK K
      try simp only [PU]
      replace hlo := Nat.le_trans hlo hx.size
      replace bx := q1b hx bx
      replace by_ := q1b hx by_
      replace fv := q1f hx fv bv
      replace bv := q1b hx bv
      replace hs1 := hs1.ext hx
      replace ht1 := ht1.ext hx
      replace hs2 := hs2.ext hx
      replace ht2 := ht2.ext hx
      replace hs3 := hs3.ext hx
      replace ht3 := ht3.ext hx
      replace hs4 := hs4.ext hx
      replace ht4 := ht4.ext hx
      replace hs21 := hs21.ext hx
      replace ht21 := ht21.ext hx
      replace hs22 := hs22.ext hx
      replace ht22 := ht22.ext hx
      replace HCut := HCut.trans hx
      replace HE := HE.trans hx
      clear hx
      replace hs23 : Nc u23 a23 n23 c23 (v3.num).natAbs := hs23
      replace ht23 : Nc u23 d23 m23 k23 (v3.den) := ht23
      repeat (refine wpE_q (v := ?_) rfl rfl (fun u hu => ?_) ?_; rotate_left 1; (focus (have kx := Bl.low hu bx lox; have ky_ := Bl.low hu by_ loy_; go_simp; (try rfl))); simp only [PU])
      refine wpE_l rfl rfl (fun K hK => ?_)
      go_simp
      have hle : wc.heap.size ≤ u22.heap.size := by omega
      refine hK.out _ _ ((((Below.refl _ _).setCell hle _).setCell hle _).setCell hle _) ?_
      clear hK K hle
      try simp only [PU]
      refine absE (fun x4 hx4 => ?_)
      have hbut : But u23 x4 (u22.heap.size) := by rw [hx4]; exact (But.refl _ _).store.store.store
      have hbn : Bl x4 (u22.heap.size) #[.bool (decide (v3.num < 0)), .slice a23 n23 c23, .slice d23 m23 k23] := by rw [hx4]; exact (Bl.set (Bl.set (Bl.set bv (by simp)) (by simp)) (by simp))
      have hni : ∀ (j : Nat) (x : Int), (#[.bool false, .slice none 0 0, .slice none 0 0] : Array Value)[j]? ≠ some (Value.int .u32 x) := (not_ints3 nb_bool nb_slice nb_slice)
      replace hs1 := hs1.but bv hni hbut
      replace ht1 := ht1.but bv hni hbut
      replace hs2 := hs2.but bv hni hbut
      replace ht2 := ht2.but bv hni hbut
      replace hs3 := hs3.but bv hni hbut
      replace ht3 := ht3.but bv hni hbut
      replace hs4 := hs4.but bv hni hbut
      replace ht4 := ht4.but bv hni hbut
      replace hs21 := hs21.but bv hni hbut
      replace ht21 := ht21.but bv hni hbut
      replace hs22 := hs22.but bv hni hbut
      replace ht22 := ht22.but bv hni hbut
      replace hs23 := hs23.but bv hni hbut
      replace ht23 := ht23.but bv hni hbut
      clear hni
      replace bx := But.bl hbut bx (Nat.succ_pos _) (by omega)
      replace by_ := But.bl hbut by_ (Nat.succ_pos _) (by omega)
      replace fv : Fz x4 (u22.heap.size) := by rw [hx4]; exact (Fz.set (Fz.set (Fz.set fv)))
      have hle : w.heap.size ≤ u22.heap.size := by omega
      replace HE : Ext w x4 := by rw [hx4]; exact (((HE.store hle _).store hle _).store hle _)
      clear hle
      have hle : wc.heap.size ≤ u22.heap.size := by omega
      replace HCut : Ext wc x4 := by rw [hx4]; exact (((HCut.store hle _).store hle _).store hle _)
      clear hle
      replace hlo : wc.heap.size ≤ x4.heap.size := Nat.le_trans hlo hbut.1
      clear bv hbut hx4
      have bv := hbn
      clear hbn
      repeat (refine wpE_q (v := ?_) rfl rfl (fun u hu => ?_) ?_; rotate_left 1; (focus (have kx := Bl.low hu bx lox; have ky_ := Bl.low hu by_ loy_; go_simp; (try rfl))); simp only [PU])
      refine wpE_done ?_
      clear hlo
      go_wp2_with fail
      go_meet
      exact ⟨u22.heap.size, a23, d23, n23, c23, m23, k23, rfl, gev, bv, hs23, ht23, HCut⟩
    refine wpE_l rfl rfl (fun K hK => ?_)
    go_simp
    refine hK.out _ _ ((Below.refl _ _).alloc hlo _) ?_
    clear hK K
    try simp only [PU]
    have gev := hlo
    have lxv := bx.lt (Nat.succ_pos _)
    have ly_v := by_.lt (Nat.succ_pos _)
    have l0v := HE.size
    refine absE (fun x3 hx3 => ?_)
    have hx : Ext u21 x3 := by rw [hx3]; exact ((Ext.refl _).alloc _)
    have bv : Bl x3 (u21.heap.size) #[.bool false, .slice none 0 0, .slice none 0 0] := by rw [hx3]; exact (Bl.new (by simp))
    have fv : Fz x3 (u21.heap.size) := by rw [hx3]; exact (Fz.new (by simp))
    replace hlo := Nat.le_trans hlo hx.size
    replace bx := q1b hx bx
    replace by_ := q1b hx by_
    replace hs1 := hs1.ext hx
    replace ht1 := ht1.ext hx
    replace hs2 := hs2.ext hx
    replace ht2 := ht2.ext hx
    replace hs3 := hs3.ext hx
    replace ht3 := ht3.ext hx
    replace hs4 := hs4.ext hx
    replace ht4 := ht4.ext hx
    replace hs21 := hs21.ext hx
    replace ht21 := ht21.ext hx
    replace HCut := HCut.trans hx
    replace HE := HE.trans hx
    clear hx
    clear hx3
    refine wpE_l rfl rfl (fun K hK => ?_)
    go_simp
    refine (A2.out _ (fq_of hs4 ht4 Z4.out (by omega)) (fq_of hs2 ht2 Z2.out (by omega))).mono ?_
    rintro e u22 ⟨a22, n22, c22, d22, m22, k22, rfl, hs22, ht22, hx⟩
    refine hK.out _ _ (Below.mono hx hlo) ?_
    clear hK K
    try simp only [PU]
    replace hlo := Nat.le_trans hlo hx.size
    replace bx := q1b hx bx
    replace by_ := q1b hx by_
    replace fv := q1f hx fv bv
    replace bv := q1b hx bv
    replace hs1 := hs1.ext hx
    replace ht1 := ht1.ext hx
    replace hs2 := hs2.ext hx
    replace ht2 := ht2.ext hx
    replace hs3 := hs3.ext hx
    replace ht3 := ht3.ext hx
    replace hs4 := hs4.ext hx
    replace ht4 := ht4.ext hx
    replace hs21 := hs21.ext hx
    replace ht21 := ht21.ext hx
    replace HCut := HCut.trans hx
    replace HE := HE.trans hx
    clear hx
    replace hs22 : Nc u22 a22 n22 c22 (v2.num).natAbs := hs22
    replace ht22 : Nc u22 d22 m22 k22 (v2.den) := ht22
    refine wpE_l rfl rfl (fun K hK => ?_)
    go_simp
    refine (A3.out _ (fq_of hs21 ht21 L1.out (by omega)) (fq_of hs22 ht22 L2.out (by omega))).mono ?_
    rintro e u23 ⟨a23, n23, c23, d23, m23, k23, rfl, hs23, ht23, hx⟩
    refine hK.out _ _ (Below.mono hx hlo) ?_
    clear hK K
    try simp only [PU]
    replace hlo := Nat.le_trans hlo hx.size
    replace bx := q1b hx bx
    replace by_ := q1b hx by_
    replace fv := q1f hx fv bv
    replace bv := q1b hx bv
    replace hs1 := hs1.ext hx
    replace ht1 := ht1.ext hx
    replace hs2 := hs2.ext hx
    replace ht2 := ht2.ext hx
    replace hs3 := hs3.ext hx
    replace ht3 := ht3.ext hx
    replace hs4 := hs4.ext hx
    replace ht4 := ht4.ext hx
    replace hs21 := hs21.ext hx
    replace ht21 := ht21.ext hx
    replace hs22 := hs22.ext hx
    replace ht22 := ht22.ext hx
    replace HCut := HCut.trans hx
    replace HE := HE.trans hx
    clear hx
    replace hs23 : Nc u23 a23 n23 c23 (v3.num).natAbs := hs23
    replace ht23 : Nc u23 d23 m23 k23 (v3.den) := ht23
    repeat (refine wpE_q (v := ?_) rfl rfl (fun u hu => ?_) ?_; rotate_left 1; (focus (have kx := Bl.low hu bx lox; have ky_ := Bl.low hu by_ loy_; go_simp; (try rfl))); simp only [PU])
    refine wpE_l rfl rfl (fun K hK => ?_)
    go_simp
    have hle : wc.heap.size ≤ u21.heap.size := by omega
    refine hK.out _ _ ((((Below.refl _ _).setCell hle _).setCell hle _).setCell hle _) ?_
    clear hK K hle
    try simp only [PU]
    refine absE (fun x4 hx4 => ?_)
    have hbut : But u23 x4 (u21.heap.size) := by rw [hx4]; exact (But.refl _ _).store.store.store
    have hbn : Bl x4 (u21.heap.size) #[.bool (decide (v3.num < 0)), .slice a23 n23 c23, .slice d23 m23 k23] := by rw [hx4]; exact (Bl.set (Bl.set (Bl.set bv (by simp)) (by simp)) (by simp))
    have hni : ∀ (j : Nat) (x : Int), (#[.bool false, .slice none 0 0, .slice none 0 0] : Array Value)[j]? ≠ some (Value.int .u32 x) := (not_ints3 nb_bool nb_slice nb_slice)
    replace hs1 := hs1.but bv hni hbut
    replace ht1 := ht1.but bv hni hbut
    replace hs2 := hs2.but bv hni hbut
    replace ht2 := ht2.but bv hni hbut
    replace hs3 := hs3.but bv hni hbut
    replace ht3 := ht3.but bv hni hbut
    replace hs4 := hs4.but bv hni hbut
    replace ht4 := ht4.but bv hni hbut
    replace hs21 := hs21.but bv hni hbut
    replace ht21 := ht21.but bv hni hbut
    replace hs22 := hs22.but bv hni hbut
    replace ht22 := ht22.but bv hni hbut
    replace hs23 := hs23.but bv hni hbut
    replace ht23 := ht23.but bv hni hbut
    clear hni
    replace bx := But.bl hbut bx (Nat.succ_pos _) (by omega)
    replace by_ := But.bl hbut by_ (Nat.succ_pos _) (by omega)
    replace fv : Fz x4 (u21.heap.size) := by rw [hx4]; exact (Fz.set (Fz.set (Fz.set fv)))
    have hle : w.heap.size ≤ u21.heap.size := by omega
    replace HE : Ext w x4 := by rw [hx4]; exact (((HE.store hle _).store hle _).store hle _)
    clear hle
    have hle : wc.heap.size ≤ u21.heap.size := by omega
    replace HCut : Ext wc x4 := by rw [hx4]; exact (((HCut.store hle _).store hle _).store hle _)
    clear hle
    replace hlo : wc.heap.size ≤ x4.heap.size := Nat.le_trans hlo hbut.1
    clear bv hbut hx4
    have bv := hbn
    clear hbn
    repeat (refine wpE_q (v := ?_) rfl rfl (fun u hu => ?_) ?_; rotate_left 1; (focus (have kx := Bl.low hu bx lox; have ky_ := Bl.low hu by_ loy_; go_simp; (try rfl))); simp only [PU])
    refine wpE_done ?_
    clear hlo
    go_wp2_with fail
    go_meet
    exact ⟨u21.heap.size, a23, d23, n23, c23, m23, k23, rfl, gev, bv, hs23, ht23, HCut⟩
  refine wpE_l rfl rfl (fun K hK => ?_)
  go_simp
  refine hK.out _ _ ((Below.refl _ _).alloc hlo _) ?_
  clear hK K
  try simp only [PU]
  have gev := hlo
  have lxv := bx.lt (Nat.succ_pos _)
  have ly_v := by_.lt (Nat.succ_pos _)
  have l0v := HE.size
  refine absE (fun x3 hx3 => ?_)
  have hx : Ext x2 x3 := by rw [hx3]; exact ((Ext.refl _).alloc _)
  have bv : Bl x3 (x2.heap.size) #[.bool false, .slice none 0 0, .slice none 0 0] := by rw [hx3]; exact (Bl.new (by simp))
  have fv : Fz x3 (x2.heap.size) := by rw [hx3]; exact (Fz.new (by simp))
  replace hlo := Nat.le_trans hlo hx.size
  replace bx := q1b hx bx
  replace by_ := q1b hx by_
  replace hs1 := hs1.ext hx
  replace ht1 := ht1.ext hx
  replace hs2 := hs2.ext hx
  replace ht2 := ht2.ext hx
  replace hs3 := hs3.ext hx
  replace ht3 := ht3.ext hx
  replace hs4 := hs4.ext hx
  replace ht4 := ht4.ext hx
  replace HCut := HCut.trans hx
  replace HE := HE.trans hx
  clear hx
  clear hx3
  refine wpE_l rfl rfl (fun K hK => ?_)
  go_simp
  refine (A1.out _ (HY.out.ext HE) (fq_of hs2 ht2 Z2.out (by omega))).mono ?_
  rintro e u21 ⟨a21, n21, c21, d21, m21, k21, rfl, hs21, ht21, hx⟩
  refine hK.out _ _ (Below.mono hx hlo) ?_
  clear hK K
  try simp only [PU]
  replace hlo := Nat.le_trans hlo hx.size
  replace bx := q1b hx bx
  replace by_ := q1b hx by_
  replace fv := q1f hx fv bv
  replace bv := q1b hx bv
  replace hs1 := hs1.ext hx
  replace ht1 := ht1.ext hx
  replace hs2 := hs2.ext hx
  replace ht2 := ht2.ext hx
  replace hs3 := hs3.ext hx
  replace ht3 := ht3.ext hx
  replace hs4 := hs4.ext hx
  replace ht4 := ht4.ext hx
  replace HCut := HCut.trans hx
  replace HE := HE.trans hx
  clear hx
  replace hs21 : Nc u21 a21 n21 c21 (v1.num).natAbs := hs21
  replace ht21 : Nc u21 d21 m21 k21 (v1.den) := ht21
  refine wpE_l rfl rfl (fun K hK => ?_)
  go_simp
  refine (A2.out _ (fq_of hs4 ht4 Z4.out (by omega)) (fq_of hs2 ht2 Z2.out (by omega))).mono ?_
  rintro e u22 ⟨a22, n22, c22, d22, m22, k22, rfl, hs22, ht22, hx⟩
  refine hK.out _ _ (Below.mono hx hlo) ?_
  clear hK K
  try simp only [PU]
  replace hlo := Nat.le_trans hlo hx.size
  replace bx := q1b hx bx
  replace by_ := q1b hx by_
  replace fv := q1f hx fv bv
  replace bv := q1b hx bv
  replace hs1 := hs1.ext hx
  replace ht1 := ht1.ext hx
  replace hs2 := hs2.ext hx
  replace ht2 := ht2.ext hx
  replace hs3 := hs3.ext hx
  replace ht3 := ht3.ext hx
  replace hs4 := hs4.ext hx
  replace ht4 := ht4.ext hx
  replace hs21 := hs21.ext hx
  replace ht21 := ht21.ext hx
  replace HCut := HCut.trans hx
  replace HE := HE.trans hx
  clear hx
  replace hs22 : Nc u22 a22 n22 c22 (v2.num).natAbs := hs22
  replace ht22 : Nc u22 d22 m22 k22 (v2.den) := ht22
  refine wpE_l rfl rfl (fun K hK => ?_)
  go_simp
  refine (A3.out _ (fq_of hs21 ht21 L1.out (by omega)) (fq_of hs22 ht22 L2.out (by omega))).mono ?_
  rintro e u23 ⟨a23, n23, c23, d23, m23, k23, rfl, hs23, ht23, hx⟩
  refine hK.out _ _ (Below.mono hx hlo) ?_
  clear hK K
  try simp only [PU]
  replace hlo := Nat.le_trans hlo hx.size
  replace bx := q1b hx bx
  replace by_ := q1b hx by_
  replace fv := q1f hx fv bv
  replace bv := q1b hx bv
  replace hs1 := hs1.ext hx
  replace ht1 := ht1.ext hx
  replace hs2 := hs2.ext hx
  replace ht2 := ht2.ext hx
  replace hs3 := hs3.ext hx
  replace ht3 := ht3.ext hx
  replace hs4 := hs4.ext hx
  replace ht4 := ht4.ext hx
  replace hs21 := hs21.ext hx
  replace ht21 := ht21.ext hx
  replace hs22 := hs22.ext hx
  replace ht22 := ht22.ext hx
  replace HCut := HCut.trans hx
  replace HE := HE.trans hx
  clear hx
  replace hs23 : Nc u23 a23 n23 c23 (v3.num).natAbs := hs23
  replace ht23 : Nc u23 d23 m23 k23 (v3.den) := ht23
  repeat (refine wpE_q (v := ?_) rfl rfl (fun u hu => ?_) ?_; rotate_left 1; (focus (have kx := Bl.low hu bx lox; have ky_ := Bl.low hu by_ loy_; go_simp; (try rfl))); simp only [PU])
  refine wpE_l rfl rfl (fun K hK => ?_)
  go_simp
  have hle : wc.heap.size ≤ x2.heap.size := by omega
  refine hK.out _ _ ((((Below.refl _ _).setCell hle _).setCell hle _).setCell hle _) ?_
  clear hK K hle
  try simp only [PU]
  refine absE (fun x4 hx4 => ?_)
  have hbut : But u23 x4 (x2.heap.size) := by rw [hx4]; exact (But.refl _ _).store.store.store
  have hbn : Bl x4 (x2.heap.size) #[.bool (decide (v3.num < 0)), .slice a23 n23 c23, .slice d23 m23 k23] := by rw [hx4]; exact (Bl.set (Bl.set (Bl.set bv (by simp)) (by simp)) (by simp))
  have hni : ∀ (j : Nat) (x : Int), (#[.bool false, .slice none 0 0, .slice none 0 0] : Array Value)[j]? ≠ some (Value.int .u32 x) := (not_ints3 nb_bool nb_slice nb_slice)
  replace hs1 := hs1.but bv hni hbut
  replace ht1 := ht1.but bv hni hbut
  replace hs2 := hs2.but bv hni hbut
  replace ht2 := ht2.but bv hni hbut
  replace hs3 := hs3.but bv hni hbut
  replace ht3 := ht3.but bv hni hbut
  replace hs4 := hs4.but bv hni hbut
  replace ht4 := ht4.but bv hni hbut
  replace hs21 := hs21.but bv hni hbut
  replace ht21 := ht21.but bv hni hbut
  replace hs22 := hs22.but bv hni hbut
  replace ht22 := ht22.but bv hni hbut
  replace hs23 := hs23.but bv hni hbut
  replace ht23 := ht23.but bv hni hbut
  clear hni
  replace bx := But.bl hbut bx (Nat.succ_pos _) (by omega)
  replace by_ := But.bl hbut by_ (Nat.succ_pos _) (by omega)
  replace fv : Fz x4 (x2.heap.size) := by rw [hx4]; exact (Fz.set (Fz.set (Fz.set fv)))
  have hle : w.heap.size ≤ x2.heap.size := by omega
  replace HE : Ext w x4 := by rw [hx4]; exact (((HE.store hle _).store hle _).store hle _)
  clear hle
  have hle : wc.heap.size ≤ x2.heap.size := by omega
  replace HCut : Ext wc x4 := by rw [hx4]; exact (((HCut.store hle _).store hle _).store hle _)
  clear hle
  replace hlo : wc.heap.size ≤ x4.heap.size := Nat.le_trans hlo hbut.1
  clear bv hbut hx4
  have bv := hbn
  clear hbn
  repeat (refine wpE_q (v := ?_) rfl rfl (fun u hu => ?_) ?_; rotate_left 1; (focus (have kx := Bl.low hu bx lox; have ky_ := Bl.low hu by_ loy_; go_simp; (try rfl))); simp only [PU])
  refine wpE_done ?_
  clear hlo
  go_wp2_with fail
  go_meet
  exact ⟨x2.heap.size, a23, d23, n23, c23, m23, k23, rfl, gev, bv, hs23, ht23, HCut⟩
 obtain ⟨g7, a23, d23, n23, c23, m23, k23, rfl, gev, bv, hs23, ht23, hx⟩ := hcut
 replace bp := q1b hx bp
 replace bq := q1b hx bq
 replace bx := q1b hx bx
 replace by_ := q1b hx by_
 replace hs1 := hs1.ext hx
 replace ht1 := ht1.ext hx
 replace hs2 := hs2.ext hx
 replace ht2 := ht2.ext hx
 replace hs3 := hs3.ext hx
 replace ht3 := ht3.ext hx
 replace hs4 := hs4.ext hx
 replace ht4 := ht4.ext hx
 replace HE := HE.trans hx
 clear hx
 go_wp2_with fail
 refine wp_region_plan (R := Ext) (.q 0 (.q 1 (.q 2 (.q 3 (.q 4 (.q 5 (.q 6 (.q 10 (.q 11 (.l 7 (.l 8 (.l 9 (.l 12 (.q 13 (.q 14 .done))))))))))))))) (by kernel_rfl) (by kernel_rfl) (by kernel_rfl) (by kernel_rfl) Ext.refl (fun _ _ _ => Ext.trans) ?_
 refine absE (fun x32 hx32 => ?_)
 have hx : Ext wc x32 := by rw [hx32]; exact (Ext.refl _).drew
 replace bp := q1b hx bp
 replace bq := q1b hx bq
 replace bx := q1b hx bx
 replace by_ := q1b hx by_
 replace bv := q1b hx bv
 replace hs1 := hs1.ext hx
 replace ht1 := ht1.ext hx
 replace hs2 := hs2.ext hx
 replace ht2 := ht2.ext hx
 replace hs3 := hs3.ext hx
 replace ht3 := ht3.ext hx
 replace hs4 := hs4.ext hx
 replace ht4 := ht4.ext hx
 replace hs23 := hs23.ext hx
 replace ht23 := ht23.ext hx
 replace HE := HE.trans hx
 clear hx
 clear hx32
 repeat (refine wpE_q (v := ?_) rfl rfl (fun u hu => ?_) ?_; rotate_left 1; (focus (have kp := q1b hu bp; have kq := q1b hu bq; have kx := q1b hu bx; have ky_ := q1b hu by_; have kv := q1b hu bv; go_simp; (try rfl))); simp only [PU])
 refine wpE_l rfl rfl (fun K hK => ?_)
 go_simp
 refine (A4.out _ (fq_of hs3 ht3 Z3.out (by omega)) (fq_of hs1 ht1 Z1.out (by omega))).mono ?_
 rintro e u31 ⟨a31, n31, c31, d31, m31, k31, rfl, hs31, ht31, hx⟩
 refine hK.out _ _ hx ?_
 clear hK K
 try simp only [PU]
 replace bp := q1b hx bp
 replace bq := q1b hx bq
 replace bx := q1b hx bx
 replace by_ := q1b hx by_
 replace bv := q1b hx bv
 replace hs1 := hs1.ext hx
 replace ht1 := ht1.ext hx
 replace hs2 := hs2.ext hx
 replace ht2 := ht2.ext hx
 replace hs3 := hs3.ext hx
 replace ht3 := ht3.ext hx
 replace hs4 := hs4.ext hx
 replace ht4 := ht4.ext hx
 replace hs23 := hs23.ext hx
 replace ht23 := ht23.ext hx
 replace HE := HE.trans hx
 clear hx
 replace hs31 : Nc u31 a31 n31 c31 (v6.num).natAbs := hs31
 replace ht31 : Nc u31 d31 m31 k31 (v6.den) := ht31
 refine wpE_l rfl rfl (fun K hK => ?_)
 go_simp
 refine (A5.out _ (fq_of hs23 ht23 L4.out (by omega)) (fq_of hs31 ht31 L3.out (by omega))).mono ?_
 rintro e u32 ⟨a32, n32, c32, d32, m32, k32, rfl, hs32, ht32, hx⟩
 refine hK.out _ _ hx ?_
 clear hK K
 try simp only [PU]
 replace bp := q1b hx bp
 replace bq := q1b hx bq
 replace bx := q1b hx bx
 replace by_ := q1b hx by_
 replace bv := q1b hx bv
 replace hs1 := hs1.ext hx
 replace ht1 := ht1.ext hx
 replace hs2 := hs2.ext hx
 replace ht2 := ht2.ext hx
 replace hs3 := hs3.ext hx
 replace ht3 := ht3.ext hx
 replace hs4 := hs4.ext hx
 replace ht4 := ht4.ext hx
 replace hs23 := hs23.ext hx
 replace ht23 := ht23.ext hx
 replace hs31 := hs31.ext hx
 replace ht31 := ht31.ext hx
 replace HE := HE.trans hx
 clear hx
 replace hs32 : Nc u32 a32 n32 c32 (v4.num).natAbs := hs32
 replace ht32 : Nc u32 d32 m32 k32 (v4.den) := ht32
 refine wpE_l rfl rfl (fun K hK => ?_)
 go_simp
 refine (A6.out _ (fq_of hs1 ht1 Z1.out (by omega)) (fq_of hs32 ht32 L5.out (by omega))).mono ?_
 rintro e u33 ⟨a33, n33, c33, d33, m33, k33, rfl, hs33, ht33, hx⟩
 refine hK.out _ _ hx ?_
 clear hK K
 try simp only [PU]
 replace bp := q1b hx bp
 replace bq := q1b hx bq
 replace bx := q1b hx bx
 replace by_ := q1b hx by_
 replace bv := q1b hx bv
 replace hs1 := hs1.ext hx
 replace ht1 := ht1.ext hx
 replace hs2 := hs2.ext hx
 replace ht2 := ht2.ext hx
 replace hs3 := hs3.ext hx
 replace ht3 := ht3.ext hx
 replace hs4 := hs4.ext hx
 replace ht4 := ht4.ext hx
 replace hs23 := hs23.ext hx
 replace ht23 := ht23.ext hx
 replace hs31 := hs31.ext hx
 replace ht31 := ht31.ext hx
 replace hs32 := hs32.ext hx
 replace ht32 := ht32.ext hx
 replace HE := HE.trans hx
 clear hx
 replace hs33 : Nc u33 a33 n33 c33 (v5.num).natAbs := hs33
 replace ht33 : Nc u33 d33 m33 k33 (v5.den) := ht33
 refine wpE_l rfl rfl (fun K hK => ?_)
 go_simp
 refine (A7.out _ (fq_of hs33 ht33 L6.out (by omega)) (HX.out.ext HE)).mono ?_
 rintro e u34 ⟨rfl, hx⟩
 refine hK.out _ _ hx ?_
 clear hK K
 try simp only [PU]
 replace bp := q1b hx bp
 replace bq := q1b hx bq
 replace bx := q1b hx bx
 replace by_ := q1b hx by_
 replace bv := q1b hx bv
 replace hs1 := hs1.ext hx
 replace ht1 := ht1.ext hx
 replace hs2 := hs2.ext hx
 replace ht2 := ht2.ext hx
 replace hs3 := hs3.ext hx
 replace ht3 := ht3.ext hx
 replace hs4 := hs4.ext hx
 replace ht4 := ht4.ext hx
 replace hs23 := hs23.ext hx
 replace ht23 := ht23.ext hx
 replace hs31 := hs31.ext hx
 replace ht31 := ht31.ext hx
 replace hs32 := hs32.ext hx
 replace ht32 := ht32.ext hx
 replace hs33 := hs33.ext hx
 replace ht33 := ht33.ext hx
 replace HE := HE.trans hx
 clear hx
 repeat (refine wpE_q (v := ?_) rfl rfl (fun u hu => ?_) ?_; rotate_left 1; (focus (have kp := q1b hu bp; have kq := q1b hu bq; have kx := q1b hu bx; have ky_ := q1b hu by_; have kv := q1b hu bv; go_simp; (try rfl))); simp only [PU])
 refine wpE_done ?_
 go_wp2_with fail
 go_ret
 exact ⟨congrArg (fun x => Ending.returned (Value.bool x)) HCC.out, HE⟩
end Go.Proofs.YtgjjalnmigdjgaaGreat
