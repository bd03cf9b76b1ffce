/- Spots: on which side of a way of the grid. -/
import Derived.Test.YtgjjalnmigdjgaaGreatU2
namespace Go.Proofs.YtgjjalnmigdjgaaGreat
set_option linter.unusedVariables false
set_option linter.unusedSimpArgs false
open Go Go.RowKit
theorem sgn_mul {z : Int} {D : Nat} (h : 0 < D) : sgn (z * (D : Int)) = sgn z := by
  unfold sgn
  rcases Int.lt_trichotomy z 0 with h1 | h1 | h1
  · have := Int.mul_neg_of_neg_of_pos h1 (show (0 : Int) < (D : Int) by omega)
    rw [if_neg (by omega), if_pos this, if_neg (by omega), if_pos h1]
  · subst h1; simp
  · have := Int.mul_pos h1 (show (0 : Int) < (D : Int) by omega)
    rw [if_neg (by omega), if_neg (by omega), if_neg (by omega), if_neg (by omega)]
theorem side_mk (ax ay ex ey z z' : Int) (D D' : Nat) (h : D ≠ 0) (h' : D' ≠ 0) :
    sgn ((ex - ax) * (z' - ay * (D' : Int)) * (D : Int) - (ey - ay) * (z - ax * (D : Int)) * (D' : Int)) = sideR (ax : Rat) (ay : Rat) (ex : Rat) (ey : Rat) (mkRat z D) (mkRat z' D') := by
  unfold sideR
  have e1 : ((ex : Rat) - (ax : Rat)) = ((ex - ax : Int) : Rat) := by push_cast; rfl
  have e2 : ((ey : Rat) - (ay : Rat)) = ((ey - ay : Int) : Rat) := by push_cast; rfl
  rw [e1, e2, mk_less z' D' h', mk_less z D h, mk_times _ _ D' D h' h, mk_times _ _ D D' h h']
  have hd : D' * D ≠ 0 := Nat.mul_ne_zero h' h
  rw [Nat.mul_comm D D', ← cmpQ_mk hd hd, ← Int.sub_mul, sgn_mul (Nat.pos_of_ne_zero hd)]
set_option maxRecDepth 100000 in
set_option maxHeartbeats 4000000 in
theorem sp_Side0 {b b' : Bool} {a d a' d' : Option Addr} {n c m k n' c' m' k' : Nat} {q r : Rat} {N D D' : Nat} {z z' : Int} (ax ay ex ey : Int) (w : World) (hz : WhIn w b a n c z) (hd : Nu w d m k D) (hz' : WhIn w b' a' n' c' z') (hd' : Nu w d' m' k' D') (hx : Fq w b a n c d m k q N) (hy : Fq w b' a' n' c' d' m' k' r N) (h0 : D = 0 ∨ D' = 0) (hN : N ≤ 17179869184) (hN1 : 2 ≤ N) (x1 : -1073741824 ≤ ax) (x2 : ax ≤ 1073741824) (y1 : -1073741824 ≤ ay) (y2 : ay ≤ 1073741824) (x3 : -1073741824 ≤ ex) (x4 : ex ≤ 1073741824) (y3 : -1073741824 ≤ ey) (y4 : ey ≤ 1073741824) :
    Calls Tryz.prog 79 #[.agg #[.int .i64 ax, .int .i64 ay], .agg #[.int .i64 ex, .int .i64 ey], .agg #[.bool b, .slice a n c, .slice d m k, .bool b', .slice a' n' c', .slice d' m' k']] w fun e w' => e = .returned (.int .i64 (sideR (ax : Rat) (ay : Rat) (ex : Rat) (ey : Rat) q r)) ∧ Ext w w' := by
 have HX := hidP hx; have HY := hidP hy; have HD := hidP hd; have HD' := hidP hd'
 have S1 := hidP (fun u => sp_small ax ay u x1 x2 y1 y2)
 have S2 := hidP (fun u => sp_small ex ey u x3 x4 y3 y4)
 have B1 := hidP (fun u (t : Nu u d m k D) => n_Bits t)
 have B2 := hidP (fun u (t : Nu u d' m' k' D') => n_Bits t)
 have A1 := hidP (fun u => sp_At ax ay u (by omega) (by omega) (by omega) (by omega))
 have A2 := hidP (fun u => sp_At ex ey u (by omega) (by omega) (by omega) (by omega))
 have Q1 := hidP (Nat.le_trans (ql_int (n := ax) (by omega) (by omega)) hN1); have Q2 := hidP (Nat.le_trans (ql_int (n := ay) (by omega) (by omega)) hN1)
 have Q3 := hidP (Nat.le_trans (ql_int (n := ex) (by omega) (by omega)) hN1); have Q4 := hidP (Nat.le_trans (ql_int (n := ey) (by omega) (by omega)) hN1)
 generalize (ax : Rat) = r1 at *
 generalize (ay : Rat) = r2 at *
 generalize (ex : Rat) = r3 at *
 generalize (ey : Rat) = r4 at *
 have T := hidP (fun u {g1 g2 : Bool} {e1 f1 e2 f2 : Option Addr} {i1 j1 s1 t1 i2 j2 s2 t2 : Nat} {g3 g4 : Bool} {e3 f3 e4 f4 : Option Addr} {i3 j3 s3 t3 i4 j4 s4 t4 : Nat} (q1 : Fq u g1 e1 i1 j1 f1 s1 t1 r1 N) (q2 : Fq u g2 e2 i2 j2 f2 s2 t2 r2 N) (q3 : Fq u g3 e3 i3 j3 f3 s3 t3 r3 N) (q4 : Fq u g4 e4 i4 j4 f4 s4 t4 r4 N) (q5 : Fq u b a n c d m k q N) (q6 : Fq u b' a' n' c' d' m' k' r N) => sp_Turn u q1 q2 q3 q4 q5 q6 hN (by omega))
 generalize sideR r1 r2 r3 r4 q r = sr at *
 have hbl : (bitlen D : Int) = 0 ∨ (bitlen D' : Int) = 0 := by rcases h0 with h0 | h0 <;> rw [h0] <;> simp [bitlen_zero]
 generalize bitlen D = l1 at *
 generalize bitlen D' = l2 at *
 clear hx hy hd hd' hz hz' h0
 by_cases hl1 : l1 = 0
 · subst hl1
   clear hbl
   go_enter Tryz.func79, Tryz.ntmps79
   go_wp2_with fail
   refine absC (fun x1 hx1 => ?_)
   have hx : Ext w x1 := by rw [hx1]; exact ((((Ext.refl _).alloc _).alloc _).alloc _)
   have bp : Bl x1 (w.heap.size) #[.int .i64 ax, .int .i64 ay] := by rw [hx1]; exact (((Bl.new (by simp)).alloc (by simp)).alloc (by simp))
   have bq : Bl x1 (w.heap.size + 1) #[.int .i64 ex, .int .i64 ey] := by rw [hx1]; exact ((Bl.new (by simp)).alloc (by simp))
   have br : Bl x1 (w.heap.size + 1 + 1) #[.bool b, .slice a n c, .slice d m k, .bool b', .slice a' n' c', .slice d' m' k'] := by rw [hx1]; exact (Bl.new (by simp))
   have HE := hx
   clear hx
   clear hx1
   refine (S1.out _).mono ?_
   rintro e u1 ⟨rfl, hx⟩
   replace bp := q1b hx bp
   replace bq := q1b hx bq
   replace br := q1b hx br
   replace HE := HE.trans hx
   clear hx
   go_wp2_with fail
   refine (S2.out _).mono ?_
   rintro e u2 ⟨rfl, hx⟩
   replace bp := q1b hx bp
   replace bq := q1b hx bq
   replace br := q1b hx br
   replace HE := HE.trans hx
   clear hx
   go_wp2_with fail
   refine (B1.out _ (HD.out.ext HE)).mono ?_
   rintro e u3 ⟨rfl, rfl⟩
   go_wp2_with fail
   refine wp_region_plan (R := Ext) (.q 0 (.q 2 (.q 4 (.l 1 (.l 3 (.l 5 (.q 6 .done))))))) (by kernel_rfl) (by kernel_rfl) (by kernel_rfl) (by kernel_rfl) Ext.refl (fun _ _ _ => Ext.trans) ?_
   refine absE (fun x2 hx2 => ?_)
   have hx : Ext u2 x2 := by rw [hx2]; exact (Ext.refl _).drew
   replace bp := q1b hx bp
   replace bq := q1b hx bq
   replace br := q1b hx br
   replace HE := HE.trans hx
   clear hx
   clear hx2
   repeat (refine wpE_q (v := ?_) rfl rfl (fun u hu => ?_) ?_; rotate_left 1; (focus (have kp := q1b hu bp; have kq := q1b hu bq; have kr := q1b hu br; go_simp; (try rfl))); simp only [PU])
   refine wpE_l rfl rfl (fun K hK => ?_)
   go_simp
   refine (A1.out _).mono ?_
   rintro e u5 ⟨a5, n5, c5, d5, m5, k5, a6, n6, c6, d6, m6, k6, rfl, hs5, ht5, hs6, ht6, hx⟩
   refine hK.out _ _ hx ?_
   clear hK K
   try simp only [PU]
   replace bp := q1b hx bp
   replace bq := q1b hx bq
   replace br := q1b hx br
   replace HE := HE.trans hx
   clear hx
   refine wpE_l rfl rfl (fun K hK => ?_)
   go_simp
   refine (A2.out _).mono ?_
   rintro e u7 ⟨a7, n7, c7, d7, m7, k7, a8, n8, c8, d8, m8, k8, rfl, hs7, ht7, hs8, ht8, hx⟩
   refine hK.out _ _ hx ?_
   clear hK K
   try simp only [PU]
   replace bp := q1b hx bp
   replace bq := q1b hx bq
   replace br := q1b hx br
   replace hs5 := hs5.ext hx
   replace ht5 := ht5.ext hx
   replace hs6 := hs6.ext hx
   replace ht6 := ht6.ext hx
   replace HE := HE.trans hx
   clear hx
   refine wpE_l rfl rfl (fun K hK => ?_)
   go_simp
   refine (T.out _ (fq_of hs5 ht5 Q1.out (by omega)) (fq_of hs6 ht6 Q2.out (by omega)) (fq_of hs7 ht7 Q3.out (by omega)) (fq_of hs8 ht8 Q4.out (by omega)) (HX.out.ext HE) (HY.out.ext HE)).mono ?_
   rintro e u9 ⟨rfl, hx⟩
   refine hK.out _ _ hx ?_
   clear hK K
   try simp only [PU]
   replace bp := q1b hx bp
   replace bq := q1b hx bq
   replace br := q1b hx br
   replace hs5 := hs5.ext hx
   replace ht5 := ht5.ext hx
   replace hs6 := hs6.ext hx
   replace ht6 := ht6.ext hx
   replace hs7 := hs7.ext hx
   replace ht7 := ht7.ext hx
   replace hs8 := hs8.ext hx
   replace ht8 := ht8.ext hx
   replace HE := HE.trans hx
   clear hx
   repeat (refine wpE_q (v := ?_) rfl rfl (fun u hu => ?_) ?_; rotate_left 1; (focus (have kp := q1b hu bp; have kq := q1b hu bq; have kr := q1b hu br; go_simp; (try rfl))); simp only [PU])
   refine wpE_done ?_
   go_wp2_with fail
   go_ret
   exact ⟨rfl, HE⟩
 obtain rfl : l2 = 0 := by omega
 have hlb : ((l1 : Int) == 0) = false := by simp; omega
 clear hbl
 go_enter Tryz.func79, Tryz.ntmps79
 go_wp2_with fail
 refine absC (fun x1 hx1 => ?_)
 have hx : Ext w x1 := by rw [hx1]; exact ((((Ext.refl _).alloc _).alloc _).alloc _)
 have bp : Bl x1 (w.heap.size) #[.int .i64 ax, .int .i64 ay] := by rw [hx1]; exact (((Bl.new (by simp)).alloc (by simp)).alloc (by simp))
 have bq : Bl x1 (w.heap.size + 1) #[.int .i64 ex, .int .i64 ey] := by rw [hx1]; exact ((Bl.new (by simp)).alloc (by simp))
 have br : Bl x1 (w.heap.size + 1 + 1) #[.bool b, .slice a n c, .slice d m k, .bool b', .slice a' n' c', .slice d' m' k'] := by rw [hx1]; exact (Bl.new (by simp))
 have HE := hx
 clear hx
 clear hx1
 refine (S1.out _).mono ?_
 rintro e u1 ⟨rfl, hx⟩
 replace bp := q1b hx bp
 replace bq := q1b hx bq
 replace br := q1b hx br
 replace HE := HE.trans hx
 clear hx
 go_wp2_with fail
 refine (S2.out _).mono ?_
 rintro e u2 ⟨rfl, hx⟩
 replace bp := q1b hx bp
 replace bq := q1b hx bq
 replace br := q1b hx br
 replace HE := HE.trans hx
 clear hx
 go_wp2_with fail
 refine (B1.out _ (HD.out.ext HE)).mono ?_
 rintro e u3 ⟨rfl, rfl⟩
 go_wp2_with fail
 refine (B2.out _ (HD'.out.ext HE)).mono ?_
 rintro e u4 ⟨rfl, rfl⟩
 go_wp2_with fail
 refine wp_region_plan (R := Ext) (.q 0 (.q 2 (.q 4 (.l 1 (.l 3 (.l 5 (.q 6 .done))))))) (by kernel_rfl) (by kernel_rfl) (by kernel_rfl) (by kernel_rfl) Ext.refl (fun _ _ _ => Ext.trans) ?_
 refine absE (fun x2 hx2 => ?_)
 have hx : Ext u2 x2 := by rw [hx2]; exact (Ext.refl _).drew
 replace bp := q1b hx bp
 replace bq := q1b hx bq
 replace br := q1b hx br
 replace HE := HE.trans hx
 clear hx
 clear hx2
 repeat (refine wpE_q (v := ?_) rfl rfl (fun u hu => ?_) ?_; rotate_left 1; (focus (have kp := q1b hu bp; have kq := q1b hu bq; have kr := q1b hu br; go_simp; (try rfl))); simp only [PU])
 refine wpE_l rfl rfl (fun K hK => ?_)
 go_simp
 refine (A1.out _).mono ?_
 rintro e u5 ⟨a5, n5, c5, d5, m5, k5, a6, n6, c6, d6, m6, k6, rfl, hs5, ht5, hs6, ht6, hx⟩
 refine hK.out _ _ hx ?_
 clear hK K
 try simp only [PU]
 replace bp := q1b hx bp
 replace bq := q1b hx bq
 replace br := q1b hx br
 replace HE := HE.trans hx
 clear hx
 refine wpE_l rfl rfl (fun K hK => ?_)
 go_simp
 refine (A2.out _).mono ?_
 rintro e u7 ⟨a7, n7, c7, d7, m7, k7, a8, n8, c8, d8, m8, k8, rfl, hs7, ht7, hs8, ht8, hx⟩
 refine hK.out _ _ hx ?_
 clear hK K
 try simp only [PU]
 replace bp := q1b hx bp
 replace bq := q1b hx bq
 replace br := q1b hx br
 replace hs5 := hs5.ext hx
 replace ht5 := ht5.ext hx
 replace hs6 := hs6.ext hx
 replace ht6 := ht6.ext hx
 replace HE := HE.trans hx
 clear hx
 refine wpE_l rfl rfl (fun K hK => ?_)
 go_simp
 refine (T.out _ (fq_of hs5 ht5 Q1.out (by omega)) (fq_of hs6 ht6 Q2.out (by omega)) (fq_of hs7 ht7 Q3.out (by omega)) (fq_of hs8 ht8 Q4.out (by omega)) (HX.out.ext HE) (HY.out.ext HE)).mono ?_
 rintro e u9 ⟨rfl, hx⟩
 refine hK.out _ _ hx ?_
 clear hK K
 try simp only [PU]
 replace bp := q1b hx bp
 replace bq := q1b hx bq
 replace br := q1b hx br
 replace hs5 := hs5.ext hx
 replace ht5 := ht5.ext hx
 replace hs6 := hs6.ext hx
 replace ht6 := ht6.ext hx
 replace hs7 := hs7.ext hx
 replace ht7 := ht7.ext hx
 replace hs8 := hs8.ext hx
 replace ht8 := ht8.ext hx
 replace HE := HE.trans hx
 clear hx
 repeat (refine wpE_q (v := ?_) rfl rfl (fun u hu => ?_) ?_; rotate_left 1; (focus (have kp := q1b hu bp; have kq := q1b hu bq; have kr := q1b hu br; go_simp; (try rfl))); simp only [PU])
 refine wpE_done ?_
 go_wp2_with fail
 go_ret
 exact ⟨rfl, HE⟩
set_option maxRecDepth 100000 in
set_option maxHeartbeats 8000000 in
theorem sp_Side1 {b b' : Bool} {a d a' d' : Option Addr} {n c m k n' c' m' k' : Nat} {N D D' : Nat} {z z' : Int} (ax ay ex ey : Int) (w : World) (hz : WhIn w b a n c z) (hd : Nu w d m k D) (hm : m ≤ 549755813888) (hz' : WhIn w b' a' n' c' z') (hd' : Nu w d' m' k' D') (hm' : m' ≤ 549755813888) (h0 : D ≠ 0) (h0' : D' ≠ 0) (b1 : dl z.natAbs ≤ N) (b2 : dl D ≤ N) (b3 : dl z'.natAbs ≤ N) (b4 : dl D' ≤ N) (hN : N ≤ 17179869184) (x1 : -1073741824 ≤ ax) (x2 : ax ≤ 1073741824) (y1 : -1073741824 ≤ ay) (y2 : ay ≤ 1073741824) (x3 : -1073741824 ≤ ex) (x4 : ex ≤ 1073741824) (y3 : -1073741824 ≤ ey) (y4 : ey ≤ 1073741824) :
    Calls Tryz.prog 79 #[.agg #[.int .i64 ax, .int .i64 ay], .agg #[.int .i64 ex, .int .i64 ey], .agg #[.bool b, .slice a n c, .slice d m k, .bool b', .slice a' n' c', .slice d' m' k']] w fun e w' => e = .returned (.int .i64 (sgn ((ex - ax) * (z' - ay * (D' : Int)) * (D : Int) - (ey - ay) * (z - ax * (D : Int)) * (D' : Int)))) ∧ Ext w w' := by
 have HZ := hidP hz; have HZ' := hidP hz'; have HD := hidP hd; have HD' := hidP hd'
 have S1 := hidP (fun u => sp_small ax ay u x1 x2 y1 y2)
 have S2 := hidP (fun u => sp_small ex ey u x3 x4 y3 y4)
 have B1 := hidP (fun u (t : Nu u d m k D) => n_Bits t)
 have B2 := hidP (fun u (t : Nu u d' m' k' D') => n_Bits t)
 have W1 := hidP (fun u => w_Of (ex - ax) u (by omega) (by omega))
 have W2 := hidP (fun u => w_Of (ey - ay) u (by omega) (by omega))
 have O1 := hidP (fun u (t1 : WhIn u b' a' n' c' z') (t2 : Nu u d' m' k' D') => sp_over ay u t1 t2 hm' (by omega) (by omega) (by omega) (by omega))
 have O2 := hidP (fun u (t1 : WhIn u b a n c z) (t2 : Nu u d m k D) => sp_over ax u t1 t2 hm (by omega) (by omega) (by omega) (by omega))
 have i1 := wd_int (n := ex - ax) (by omega) (by omega); have i2 := wd_int (n := ey - ay) (by omega) (by omega); have i3 := wd_int (n := ax) (by omega) (by omega); have i4 := wd_int (n := ay) (by omega) (by omega)
 have j1 : dl (z' - ay * (D' : Int)).natAbs ≤ N + 3 := by have h := dz_mul ay (D' : Int); rw [Int.natAbs_natCast] at h; exact dz_sub (N := N + 2) (by omega) (by omega)
 have j2 : dl (z - ax * (D : Int)).natAbs ≤ N + 3 := by have h := dz_mul ax (D : Int); rw [Int.natAbs_natCast] at h; exact dz_sub (N := N + 2) (by omega) (by omega)
 have j3 : dl ((ex - ax) * (z' - ay * (D' : Int))).natAbs ≤ N + 5 := by have h := dz_mul (ex - ax) (z' - ay * (D' : Int)); omega
 have j4 : dl ((ey - ay) * (z - ax * (D : Int))).natAbs ≤ N + 5 := by have h := dz_mul (ey - ay) (z - ax * (D : Int)); omega
 have j5 : dl ((ex - ax) * (z' - ay * (D' : Int)) * (D : Int)).natAbs ≤ N + N + 5 := by have h := dz_mul ((ex - ax) * (z' - ay * (D' : Int))) (D : Int); rw [Int.natAbs_natCast (n := D)] at h; omega
 have j6 : dl ((ey - ay) * (z - ax * (D : Int)) * (D' : Int)).natAbs ≤ N + N + 5 := by have h := dz_mul ((ey - ay) * (z - ax * (D : Int))) (D' : Int); rw [Int.natAbs_natCast (n := D')] at h; omega
 have HW0 := hidP (IntWalk.i64_in (ex - ax) (by omega))
 have HW1 := hidP (IntWalk.i64_in (ey - ay) (by omega))
 generalize hu1 : (ex - ax) * (z' - ay * (D' : Int)) * (D : Int) = p1 at *
 generalize hu2 : (ey - ay) * (z - ax * (D : Int)) * (D' : Int) = p2 at *
 generalize hu3 : (ex - ax) * (z' - ay * (D' : Int)) = p3 at *
 generalize hu4 : (ey - ay) * (z - ax * (D : Int)) = p4 at *
 generalize hu5 : z' - ay * (D' : Int) = p5 at *
 generalize hu6 : z - ax * (D : Int) = p6 at *
 generalize hu7 : ex - ax = p7 at *
 generalize hu8 : ey - ay = p8 at *
 have M1 := hidP (fun u {g1 : Bool} {e1 : Option Addr} {s1 t1 : Nat} {g2 : Bool} {e2 : Option Addr} {s2 t2 : Nat} (q1 : WhIn u g1 e1 s1 t1 p7) (q2 : WhIn u g2 e2 s2 t2 p5) => hu3 ▸ w_Mul q1 q2)
 have M2 := hidP (fun u {g1 : Bool} {e1 : Option Addr} {s1 t1 : Nat} {g2 : Bool} {e2 : Option Addr} {s2 t2 : Nat} (q1 : WhIn u g1 e1 s1 t1 p8) (q2 : WhIn u g2 e2 s2 t2 p6) => hu4 ▸ w_Mul q1 q2)
 have M3 := hidP (fun u {g1 : Bool} {e1 : Option Addr} {s1 t1 : Nat} {g2 : Bool} {e2 : Option Addr} {s2 t2 : Nat} (q1 : WhIn u g1 e1 s1 t1 p3) (q2 : WhIn u g2 e2 s2 t2 (D : Int)) => hu1 ▸ w_Mul q1 q2)
 have M4 := hidP (fun u {g1 : Bool} {e1 : Option Addr} {s1 t1 : Nat} {g2 : Bool} {e2 : Option Addr} {s2 t2 : Nat} (q1 : WhIn u g1 e1 s1 t1 p4) (q2 : WhIn u g2 e2 s2 t2 (D' : Int)) => hu2 ▸ w_Mul q1 q2)
 have C := hidP (fun u {g1 : Bool} {e1 : Option Addr} {s1 t1 : Nat} {g2 : Bool} {e2 : Option Addr} {s2 t2 : Nat} (q1 : WhIn u g1 e1 s1 t1 p1) (q2 : WhIn u g2 e2 s2 t2 p2) => w_Cmp_any g1 g2 e1 e2 s1 t1 s2 t2 p1 p2 u q1 q2)
 have L1 := hidP (show dl p1.natAbs ≤ 549755813888 by omega); have L2 := hidP (show dl p2.natAbs ≤ 549755813888 by omega); have L3 := hidP (show dl p3.natAbs ≤ 549755813888 by omega); have L4 := hidP (show dl p4.natAbs ≤ 549755813888 by omega)
 have L5 := hidP (show dl p5.natAbs ≤ 549755813888 by omega); have L6 := hidP (show dl p6.natAbs ≤ 549755813888 by omega); have L7 := hidP (show dl p7.natAbs ≤ 549755813888 by omega); have L8 := hidP (show dl p8.natAbs ≤ 549755813888 by omega)
 generalize sgn (p1 - p2) = sr at *
 have hl1 : ((bitlen D : Int) == 0) = false := by have := (bitlen_low h0).1; simp; omega
 have hl2 : ((bitlen D' : Int) == 0) = false := by have := (bitlen_low h0').1; simp; omega
 have HU7 := hidP hu7; have HU8 := hidP hu8
 generalize bitlen D = l1 at *
 generalize bitlen D' = l2 at *
 clear hz hz' hd hd' h0 h0' b1 b2 b3 b4 i1 i2 i3 i4 j1 j2 j3 j4 j5 j6 hu1 hu2 hu3 hu4 hu5 hu6 hu7 hu8
 go_enter Tryz.func79, Tryz.ntmps79
 go_wp2_with fail
 refine absC (fun x1 hx1 => ?_)
 have hx : Ext w x1 := by rw [hx1]; exact ((((Ext.refl _).alloc _).alloc _).alloc _)
 have bp : Bl x1 (w.heap.size) #[.int .i64 ax, .int .i64 ay] := by rw [hx1]; exact (((Bl.new (by simp)).alloc (by simp)).alloc (by simp))
 have bq : Bl x1 (w.heap.size + 1) #[.int .i64 ex, .int .i64 ey] := by rw [hx1]; exact ((Bl.new (by simp)).alloc (by simp))
 have br : Bl x1 (w.heap.size + 1 + 1) #[.bool b, .slice a n c, .slice d m k, .bool b', .slice a' n' c', .slice d' m' k'] := by rw [hx1]; exact (Bl.new (by simp))
 have HE := hx
 clear hx
 clear hx1
 refine (S1.out _).mono ?_
 rintro e u1 ⟨rfl, hx⟩
 replace bp := q1b hx bp
 replace bq := q1b hx bq
 replace br := q1b hx br
 replace HE := HE.trans hx
 clear hx
 go_wp2_with fail
 refine (S2.out _).mono ?_
 rintro e u2 ⟨rfl, hx⟩
 replace bp := q1b hx bp
 replace bq := q1b hx bq
 replace br := q1b hx br
 replace HE := HE.trans hx
 clear hx
 go_wp2_with fail
 refine (B1.out _ (HD.out.ext HE)).mono ?_
 rintro e u3 ⟨rfl, rfl⟩
 go_wp2_with fail
 refine (B2.out _ (HD'.out.ext HE)).mono ?_
 rintro e u4 ⟨rfl, rfl⟩
 go_wp2_with fail
 go_cut [7] (fun v7 wx => ∃ (g7 : Nat) (a14 : Option Addr) (n14 c14 : Nat), v7 = .pointer (some ⟨g7, 0, none⟩) ∧ u2.heap.size ≤ g7 ∧ Bl wx g7 #[.bool (decide (p1 < 0)), .slice a14 n14 c14] ∧ Nc wx a14 n14 c14 p1.natAbs ∧ Ext u2 wx)
 case first =>
  have HC := Ext.refl u2
  have lop := bp.lt (Nat.succ_pos _)
  have loq := bq.lt (Nat.succ_pos _)
  have lor := br.lt (Nat.succ_pos _)
  have hlo : u2.heap.size ≤ u2.heap.size := Nat.le_refl _
  refine wp_region_plan (R := Below u2.heap.size) (.q 0 (.q 1 (.q 2 (.q 3 (.q 4 (.q 6 (.q 7 (.q 8 (.q 9 (.q 12 (.q 13 (.q 14 (.q 15 (.br 5 (.br 10 (.br 11 (.br 16 (.l 17 (.b 18 .done)) (.l 17 (.l 16 (.b 18 .done)))) (.l 17 (.l 11 (.l 16 (.b 18 .done))))) (.l 17 (.l 10 (.l 11 (.l 16 (.b 18 .done)))))) (.l 17 (.l 5 (.l 10 (.l 11 (.l 16 (.b 18 .done)))))))))))))))))))) (by kernel_rfl) (by kernel_rfl) (by kernel_rfl) (by kernel_rfl) (Below.refl _) (fun _ _ _ => Below.trans) ?_
  refine absE (fun x2 hx2 => ?_)
  have hx : Ext u2 x2 := by rw [hx2]; exact (Ext.refl _).drew
  replace hlo := Nat.le_trans hlo hx.size
  replace bp := q1b hx bp
  replace bq := q1b hx bq
  replace br := q1b hx br
  replace HC := HC.trans hx
  replace HE := HE.trans hx
  clear hx
  clear hx2
  repeat (refine wpE_q (v := ?_) rfl rfl (fun u hu => ?_) ?_; rotate_left 1; (focus (have kp := Bl.low hu bp lop; have kq := Bl.low hu bq loq; have kr := Bl.low hu br lor; have wq0 := HW0.out; have wu := HU7.out; go_simp; (try rfl))); simp only [PU])
  clear bp
  clear bq
  clear br
  refine wpE_br rfl rfl (fun K hK => ?_) ?_
  · go_simp
    refine (W1.out _).mono ?_
    rintro e u11 ⟨a11, n11, c11, rfl, hs11, hx⟩
    refine hK.out _ _ (Below.mono hx hlo) ?_
    clear hK K
    try simp only [PU]
    replace hlo := Nat.le_trans hlo hx.size
    replace HC := HC.trans hx
    replace HE := HE.trans hx
    clear hx
    replace hs11 : Nc u11 a11 n11 c11 (p7).natAbs := hs11
    refine wpE_br rfl rfl (fun K hK => ?_) ?_
    · go_simp
      refine (O1.out _ (HZ'.out.ext HE) (HD'.out.ext HE)).mono ?_
      rintro e u12 ⟨a12, n12, c12, rfl, hs12, hx⟩
      refine hK.out _ _ (Below.mono hx hlo) ?_
      clear hK K
      try simp only [PU]
      replace hlo := Nat.le_trans hlo hx.size
      replace hs11 := hs11.ext hx
      replace HC := HC.trans hx
      replace HE := HE.trans hx
      clear hx
      replace hs12 : Nc u12 a12 n12 c12 (p5).natAbs := hs12
      refine wpE_br rfl rfl (fun K hK => ?_) ?_
      · go_simp
        refine (M1.out _ (hs11.wh L7.out) (hs12.wh L5.out)).mono ?_
        rintro e u13 ⟨a13, n13, c13, rfl, hs13, hx⟩
        refine hK.out _ _ (Below.mono hx hlo) ?_
        clear hK K
        try simp only [PU]
        replace hlo := Nat.le_trans hlo hx.size
        replace hs11 := hs11.ext hx
        replace hs12 := hs12.ext hx
        replace HC := HC.trans hx
        replace HE := HE.trans hx
        clear hx
        replace hs13 : Nc u13 a13 n13 c13 (p3).natAbs := hs13
        refine wpE_br rfl rfl (fun K hK => ?_) ?_
        · go_simp
          refine (M3.out _ (hs13.wh L3.out) (nu_wh (HD.out.ext HE) hm)).mono ?_
          rintro e u14 ⟨a14, n14, c14, rfl, hs14, hx⟩
          refine hK.out _ _ (Below.mono hx hlo) ?_
          clear hK K
          try simp only [PU]
          replace hlo := Nat.le_trans hlo hx.size
          replace hs11 := hs11.ext hx
          replace hs12 := hs12.ext hx
          replace hs13 := hs13.ext hx
          replace HC := HC.trans hx
          replace HE := HE.trans hx
          clear hx
          replace hs14 : Nc u14 a14 n14 c14 (p1).natAbs := hs14
          refine wpE_l rfl rfl (fun K hK => ?_)
          go_simp
          refine hK.out _ _ ((Below.refl _ _).alloc hlo _) ?_
          clear hK K
          try simp only [PU]
          have geu := hlo
          have l0u := HE.size
          refine absE (fun x3 hx3 => ?_)
          have hx : Ext u14 x3 := by rw [hx3]; exact ((Ext.refl _).alloc _)
          have bu : Bl x3 (u14.heap.size) #[.bool false, .slice none 0 0] := by rw [hx3]; exact (Bl.new (by simp))
          have fu : Fz x3 (u14.heap.size) := by rw [hx3]; exact (Fz.new (by simp))
          replace hlo := Nat.le_trans hlo hx.size
          replace hs11 := hs11.ext hx
          replace hs12 := hs12.ext hx
          replace hs13 := hs13.ext hx
          replace hs14 := hs14.ext hx
          replace HC := HC.trans hx
          replace HE := HE.trans hx
          clear hx
          clear hx3
          refine wpE_b rfl rfl (fun K hK => ?_)
          go_simp
          refine hK.out _ _ ?_
          clear hK K
          try simp only [PU]
          refine absE (fun x4 hx4 => ?_)
          have hbut : But x3 x4 (u14.heap.size) := by rw [hx4]; exact (But.refl _ _).store.store
          have hbn : Bl x4 (u14.heap.size) #[.bool (decide (p1 < 0)), .slice a14 n14 c14] := by rw [hx4]; exact (Bl.set (Bl.set bu (by simp)) (by simp))
          have hni : ∀ (j : Nat) (x : Int), (#[.bool false, .slice none 0 0] : Array Value)[j]? ≠ some (Value.int .u32 x) := (not_ints2 nb_bool nb_slice)
          replace hs11 := hs11.but bu hni hbut
          replace hs12 := hs12.but bu hni hbut
          replace hs13 := hs13.but bu hni hbut
          replace hs14 := hs14.but bu hni hbut
          clear hni
          replace fu : Fz x4 (u14.heap.size) := by rw [hx4]; exact (Fz.set (Fz.set fu))
          have hle : w.heap.size ≤ u14.heap.size := by omega
          replace HE : Ext w x4 := by rw [hx4]; exact ((HE.store hle _).store hle _)
          clear hle
          have hle : u2.heap.size ≤ u14.heap.size := by omega
          replace HC : Ext u2 x4 := by rw [hx4]; exact ((HC.store hle _).store hle _)
          clear hle
          replace hlo : u2.heap.size ≤ x4.heap.size := Nat.le_trans hlo hbut.1
          clear bu hbut hx4
          have bu := hbn
          clear hbn
          refine wpE_done ?_
          clear hlo
          go_wp2_with fail
          go_meet
          exact ⟨u14.heap.size, a14, n14, c14, rfl, geu, bu, hs14, HC⟩
        refine wpE_l rfl rfl (fun K hK => ?_)
        go_simp
        refine hK.out _ _ ((Below.refl _ _).alloc hlo _) ?_
        clear hK K
        try simp only [PU]
        have geu := hlo
        have l0u := HE.size
        refine absE (fun x3 hx3 => ?_)
        have hx : Ext u13 x3 := by rw [hx3]; exact ((Ext.refl _).alloc _)
        have bu : Bl x3 (u13.heap.size) #[.bool false, .slice none 0 0] := by rw [hx3]; exact (Bl.new (by simp))
        have fu : Fz x3 (u13.heap.size) := by rw [hx3]; exact (Fz.new (by simp))
        replace hlo := Nat.le_trans hlo hx.size
        replace hs11 := hs11.ext hx
        replace hs12 := hs12.ext hx
        replace hs13 := hs13.ext hx
        replace HC := HC.trans hx
        replace HE := HE.trans hx
        clear hx
        clear hx3
        refine wpE_l rfl rfl (fun K hK => ?_)
        go_simp
        refine (M3.out _ (hs13.wh L3.out) (nu_wh (HD.out.ext HE) hm)).mono ?_
        rintro e u14 ⟨a14, n14, c14, rfl, hs14, hx⟩
        refine hK.out _ _ (Below.mono hx hlo) ?_
        clear hK K
        try simp only [PU]
        replace hlo := Nat.le_trans hlo hx.size
        replace fu := q1f hx fu bu
        replace bu := q1b hx bu
        replace hs11 := hs11.ext hx
        replace hs12 := hs12.ext hx
        replace hs13 := hs13.ext hx
        replace HC := HC.trans hx
        replace HE := HE.trans hx
        clear hx
        replace hs14 : Nc u14 a14 n14 c14 (p1).natAbs := hs14
        refine wpE_b rfl rfl (fun K hK => ?_)
        go_simp
        refine hK.out _ _ ?_
        clear hK K
        try simp only [PU]
        refine absE (fun x4 hx4 => ?_)
        have hbut : But u14 x4 (u13.heap.size) := by rw [hx4]; exact (But.refl _ _).store.store
        have hbn : Bl x4 (u13.heap.size) #[.bool (decide (p1 < 0)), .slice a14 n14 c14] := by rw [hx4]; exact (Bl.set (Bl.set bu (by simp)) (by simp))
        have hni : ∀ (j : Nat) (x : Int), (#[.bool false, .slice none 0 0] : Array Value)[j]? ≠ some (Value.int .u32 x) := (not_ints2 nb_bool nb_slice)
        replace hs11 := hs11.but bu hni hbut
        replace hs12 := hs12.but bu hni hbut
        replace hs13 := hs13.but bu hni hbut
        replace hs14 := hs14.but bu hni hbut
        clear hni
        replace fu : Fz x4 (u13.heap.size) := by rw [hx4]; exact (Fz.set (Fz.set fu))
        have hle : w.heap.size ≤ u13.heap.size := by omega
        replace HE : Ext w x4 := by rw [hx4]; exact ((HE.store hle _).store hle _)
        clear hle
        have hle : u2.heap.size ≤ u13.heap.size := by omega
        replace HC : Ext u2 x4 := by rw [hx4]; exact ((HC.store hle _).store hle _)
        clear hle
        replace hlo : u2.heap.size ≤ x4.heap.size := Nat.le_trans hlo hbut.1
        clear bu hbut hx4
        have bu := hbn
        clear hbn
        refine wpE_done ?_
        clear hlo
        go_wp2_with fail
        go_meet
        exact ⟨u13.heap.size, a14, n14, c14, rfl, geu, bu, hs14, HC⟩
      refine wpE_l rfl rfl (fun K hK => ?_)
      go_simp
      refine hK.out _ _ ((Below.refl _ _).alloc hlo _) ?_
      clear hK K
      try simp only [PU]
      have geu := hlo
      have l0u := HE.size
      refine absE (fun x3 hx3 => ?_)
      have hx : Ext u12 x3 := by rw [hx3]; exact ((Ext.refl _).alloc _)
      have bu : Bl x3 (u12.heap.size) #[.bool false, .slice none 0 0] := by rw [hx3]; exact (Bl.new (by simp))
      have fu : Fz x3 (u12.heap.size) := by rw [hx3]; exact (Fz.new (by simp))
      replace hlo := Nat.le_trans hlo hx.size
      replace hs11 := hs11.ext hx
      replace hs12 := hs12.ext hx
      replace HC := HC.trans hx
      replace HE := HE.trans hx
      clear hx
      clear hx3
      refine wpE_l rfl rfl (fun K hK => ?_)
      go_simp
      refine (M1.out _ (hs11.wh L7.out) (hs12.wh L5.out)).mono ?_
      rintro e u13 ⟨a13, n13, c13, rfl, hs13, hx⟩
      refine hK.out _ _ (Below.mono hx hlo) ?_
      clear hK K
      try simp only [PU]
      replace hlo := Nat.le_trans hlo hx.size
      replace fu := q1f hx fu bu
      replace bu := q1b hx bu
      replace hs11 := hs11.ext hx
      replace hs12 := hs12.ext hx
      replace HC := HC.trans hx
      replace HE := HE.trans hx
      clear hx
      replace hs13 : Nc u13 a13 n13 c13 (p3).natAbs := hs13
      refine wpE_l rfl rfl (fun K hK => ?_)
      go_simp
      refine (M3.out _ (hs13.wh L3.out) (nu_wh (HD.out.ext HE) hm)).mono ?_
      rintro e u14 ⟨a14, n14, c14, rfl, hs14, hx⟩
      refine hK.out _ _ (Below.mono hx hlo) ?_
      clear hK K
      try simp only [PU]
      replace hlo := Nat.le_trans hlo hx.size
      replace fu := q1f hx fu bu
      replace bu := q1b hx bu
      replace hs11 := hs11.ext hx
      replace hs12 := hs12.ext hx
      replace hs13 := hs13.ext hx
      replace HC := HC.trans hx
      replace HE := HE.trans hx
      clear hx
      replace hs14 : Nc u14 a14 n14 c14 (p1).natAbs := hs14
      refine wpE_b rfl rfl (fun K hK => ?_)
      go_simp
      refine hK.out _ _ ?_
      clear hK K
      try simp only [PU]
      refine absE (fun x4 hx4 => ?_)
      have hbut : But u14 x4 (u12.heap.size) := by rw [hx4]; exact (But.refl _ _).store.store
      have hbn : Bl x4 (u12.heap.size) #[.bool (decide (p1 < 0)), .slice a14 n14 c14] := by rw [hx4]; exact (Bl.set (Bl.set bu (by simp)) (by simp))
      have hni : ∀ (j : Nat) (x : Int), (#[.bool false, .slice none 0 0] : Array Value)[j]? ≠ some (Value.int .u32 x) := (not_ints2 nb_bool nb_slice)
      replace hs11 := hs11.but bu hni hbut
      replace hs12 := hs12.but bu hni hbut
      replace hs13 := hs13.but bu hni hbut
      replace hs14 := hs14.but bu hni hbut
      clear hni
      replace fu : Fz x4 (u12.heap.size) := by rw [hx4]; exact (Fz.set (Fz.set fu))
      have hle : w.heap.size ≤ u12.heap.size := by omega
      replace HE : Ext w x4 := by rw [hx4]; exact ((HE.store hle _).store hle _)
      clear hle
      have hle : u2.heap.size ≤ u12.heap.size := by omega
      replace HC : Ext u2 x4 := by rw [hx4]; exact ((HC.store hle _).store hle _)
      clear hle
      replace hlo : u2.heap.size ≤ x4.heap.size := Nat.le_trans hlo hbut.1
      clear bu hbut hx4
      have bu := hbn
      clear hbn
      refine wpE_done ?_
      clear hlo
      go_wp2_with fail
      go_meet
      exact ⟨u12.heap.size, a14, n14, c14, rfl, geu, bu, hs14, HC⟩
    refine wpE_l rfl rfl (fun K hK => ?_)
    go_simp
    refine hK.out _ _ ((Below.refl _ _).alloc hlo _) ?_
    clear hK K
    try simp only [PU]
    have geu := hlo
    have l0u := HE.size
    refine absE (fun x3 hx3 => ?_)
    have hx : Ext u11 x3 := by rw [hx3]; exact ((Ext.refl _).alloc _)
    have bu : Bl x3 (u11.heap.size) #[.bool false, .slice none 0 0] := by rw [hx3]; exact (Bl.new (by simp))
    have fu : Fz x3 (u11.heap.size) := by rw [hx3]; exact (Fz.new (by simp))
    replace hlo := Nat.le_trans hlo hx.size
    replace hs11 := hs11.ext hx
    replace HC := HC.trans hx
    replace HE := HE.trans hx
    clear hx
    clear hx3
    refine wpE_l rfl rfl (fun K hK => ?_)
    go_simp
    refine (O1.out _ (HZ'.out.ext HE) (HD'.out.ext HE)).mono ?_
    rintro e u12 ⟨a12, n12, c12, rfl, hs12, hx⟩
    refine hK.out _ _ (Below.mono hx hlo) ?_
    clear hK K
    try simp only [PU]
    replace hlo := Nat.le_trans hlo hx.size
    replace fu := q1f hx fu bu
    replace bu := q1b hx bu
    replace hs11 := hs11.ext hx
    replace HC := HC.trans hx
    replace HE := HE.trans hx
    clear hx
    replace hs12 : Nc u12 a12 n12 c12 (p5).natAbs := hs12
    refine wpE_l rfl rfl (fun K hK => ?_)
    go_simp
    refine (M1.out _ (hs11.wh L7.out) (hs12.wh L5.out)).mono ?_
    rintro e u13 ⟨a13, n13, c13, rfl, hs13, hx⟩
    refine hK.out _ _ (Below.mono hx hlo) ?_
    clear hK K
    try simp only [PU]
    replace hlo := Nat.le_trans hlo hx.size
    replace fu := q1f hx fu bu
    replace bu := q1b hx bu
    replace hs11 := hs11.ext hx
    replace hs12 := hs12.ext hx
    replace HC := HC.trans hx
    replace HE := HE.trans hx
    clear hx
    replace hs13 : Nc u13 a13 n13 c13 (p3).natAbs := hs13
    refine wpE_l rfl rfl (fun K hK => ?_)
    go_simp
    refine (M3.out _ (hs13.wh L3.out) (nu_wh (HD.out.ext HE) hm)).mono ?_
    rintro e u14 ⟨a14, n14, c14, rfl, hs14, hx⟩
    refine hK.out _ _ (Below.mono hx hlo) ?_
    clear hK K
    try simp only [PU]
    replace hlo := Nat.le_trans hlo hx.size
    replace fu := q1f hx fu bu
    replace bu := q1b hx bu
    replace hs11 := hs11.ext hx
    replace hs12 := hs12.ext hx
    replace hs13 := hs13.ext hx
    replace HC := HC.trans hx
    replace HE := HE.trans hx
    clear hx
    replace hs14 : Nc u14 a14 n14 c14 (p1).natAbs := hs14
    refine wpE_b rfl rfl (fun K hK => ?_)
    go_simp
    refine hK.out _ _ ?_
    clear hK K
    try simp only [PU]
    refine absE (fun x4 hx4 => ?_)
    have hbut : But u14 x4 (u11.heap.size) := by rw [hx4]; exact (But.refl _ _).store.store
    have hbn : Bl x4 (u11.heap.size) #[.bool (decide (p1 < 0)), .slice a14 n14 c14] := by rw [hx4]; exact (Bl.set (Bl.set bu (by simp)) (by simp))
    have hni : ∀ (j : Nat) (x : Int), (#[.bool false, .slice none 0 0] : Array Value)[j]? ≠ some (Value.int .u32 x) := (not_ints2 nb_bool nb_slice)
    replace hs11 := hs11.but bu hni hbut
    replace hs12 := hs12.but bu hni hbut
    replace hs13 := hs13.but bu hni hbut
    replace hs14 := hs14.but bu hni hbut
    clear hni
    replace fu : Fz x4 (u11.heap.size) := by rw [hx4]; exact (Fz.set (Fz.set fu))
    have hle : w.heap.size ≤ u11.heap.size := by omega
    replace HE : Ext w x4 := by rw [hx4]; exact ((HE.store hle _).store hle _)
    clear hle
    have hle : u2.heap.size ≤ u11.heap.size := by omega
    replace HC : Ext u2 x4 := by rw [hx4]; exact ((HC.store hle _).store hle _)
    clear hle
    replace hlo : u2.heap.size ≤ x4.heap.size := Nat.le_trans hlo hbut.1
    clear bu hbut hx4
    have bu := hbn
    clear hbn
    refine wpE_done ?_
    clear hlo
    go_wp2_with fail
    go_meet
    exact ⟨u11.heap.size, a14, n14, c14, rfl, geu, bu, hs14, HC⟩
  refine wpE_l rfl rfl (fun K hK => ?_)
  go_simp
  refine hK.out _ _ ((Below.refl _ _).alloc hlo _) ?_
  clear hK K
  try simp only [PU]
  have geu := hlo
  have l0u := HE.size
  refine absE (fun x3 hx3 => ?_)
  have hx : Ext x2 x3 := by rw [hx3]; exact ((Ext.refl _).alloc _)
  have bu : Bl x3 (x2.heap.size) #[.bool false, .slice none 0 0] := by rw [hx3]; exact (Bl.new (by simp))
  have fu : Fz x3 (x2.heap.size) := by rw [hx3]; exact (Fz.new (by simp))
  replace hlo := Nat.le_trans hlo hx.size
  replace HC := HC.trans hx
  replace HE := HE.trans hx
  clear hx
  clear hx3
  refine wpE_l rfl rfl (fun K hK => ?_)
  go_simp
  refine (W1.out _).mono ?_
  rintro e u11 ⟨a11, n11, c11, rfl, hs11, hx⟩
  refine hK.out _ _ (Below.mono hx hlo) ?_
  clear hK K
  try simp only [PU]
  replace hlo := Nat.le_trans hlo hx.size
  replace fu := q1f hx fu bu
  replace bu := q1b hx bu
  replace HC := HC.trans hx
  replace HE := HE.trans hx
  clear hx
  replace hs11 : Nc u11 a11 n11 c11 (p7).natAbs := hs11
  refine wpE_l rfl rfl (fun K hK => ?_)
  go_simp
  refine (O1.out _ (HZ'.out.ext HE) (HD'.out.ext HE)).mono ?_
  rintro e u12 ⟨a12, n12, c12, rfl, hs12, hx⟩
  refine hK.out _ _ (Below.mono hx hlo) ?_
  clear hK K
  try simp only [PU]
  replace hlo := Nat.le_trans hlo hx.size
  replace fu := q1f hx fu bu
  replace bu := q1b hx bu
  replace hs11 := hs11.ext hx
  replace HC := HC.trans hx
  replace HE := HE.trans hx
  clear hx
  replace hs12 : Nc u12 a12 n12 c12 (p5).natAbs := hs12
  refine wpE_l rfl rfl (fun K hK => ?_)
  go_simp
  refine (M1.out _ (hs11.wh L7.out) (hs12.wh L5.out)).mono ?_
  rintro e u13 ⟨a13, n13, c13, rfl, hs13, hx⟩
  refine hK.out _ _ (Below.mono hx hlo) ?_
  clear hK K
  try simp only [PU]
  replace hlo := Nat.le_trans hlo hx.size
  replace fu := q1f hx fu bu
  replace bu := q1b hx bu
  replace hs11 := hs11.ext hx
  replace hs12 := hs12.ext hx
  replace HC := HC.trans hx
  replace HE := HE.trans hx
  clear hx
  replace hs13 : Nc u13 a13 n13 c13 (p3).natAbs := hs13
  refine wpE_l rfl rfl (fun K hK => ?_)
  go_simp
  refine (M3.out _ (hs13.wh L3.out) (nu_wh (HD.out.ext HE) hm)).mono ?_
  rintro e u14 ⟨a14, n14, c14, rfl, hs14, hx⟩
  refine hK.out _ _ (Below.mono hx hlo) ?_
  clear hK K
  try simp only [PU]
  replace hlo := Nat.le_trans hlo hx.size
  replace fu := q1f hx fu bu
  replace bu := q1b hx bu
  replace hs11 := hs11.ext hx
  replace hs12 := hs12.ext hx
  replace hs13 := hs13.ext hx
  replace HC := HC.trans hx
  replace HE := HE.trans hx
  clear hx
  replace hs14 : Nc u14 a14 n14 c14 (p1).natAbs := hs14
  refine wpE_b rfl rfl (fun K hK => ?_)
  go_simp
  refine hK.out _ _ ?_
  clear hK K
  try simp only [PU]
  refine absE (fun x4 hx4 => ?_)
  have hbut : But u14 x4 (x2.heap.size) := by rw [hx4]; exact (But.refl _ _).store.store
  have hbn : Bl x4 (x2.heap.size) #[.bool (decide (p1 < 0)), .slice a14 n14 c14] := by rw [hx4]; exact (Bl.set (Bl.set bu (by simp)) (by simp))
  have hni : ∀ (j : Nat) (x : Int), (#[.bool false, .slice none 0 0] : Array Value)[j]? ≠ some (Value.int .u32 x) := (not_ints2 nb_bool nb_slice)
  replace hs11 := hs11.but bu hni hbut
  replace hs12 := hs12.but bu hni hbut
  replace hs13 := hs13.but bu hni hbut
  replace hs14 := hs14.but bu hni hbut
  clear hni
  replace fu : Fz x4 (x2.heap.size) := by rw [hx4]; exact (Fz.set (Fz.set fu))
  have hle : w.heap.size ≤ x2.heap.size := by omega
  replace HE : Ext w x4 := by rw [hx4]; exact ((HE.store hle _).store hle _)
  clear hle
  have hle : u2.heap.size ≤ x2.heap.size := by omega
  replace HC : Ext u2 x4 := by rw [hx4]; exact ((HC.store hle _).store hle _)
  clear hle
  replace hlo : u2.heap.size ≤ x4.heap.size := Nat.le_trans hlo hbut.1
  clear bu hbut hx4
  have bu := hbn
  clear hbn
  refine wpE_done ?_
  clear hlo
  go_wp2_with fail
  go_meet
  exact ⟨x2.heap.size, a14, n14, c14, rfl, geu, bu, hs14, HC⟩
 obtain ⟨g7, a14, n14, c14, rfl, geu, bu, hs14, hx⟩ := hcut
 replace bp := q1b hx bp
 replace bq := q1b hx bq
 replace br := q1b hx br
 replace HE := HE.trans hx
 clear hx
 go_wp2_with fail
 go_cut [8] (fun v8 wx => ∃ (g8 : Nat) (a24 : Option Addr) (n24 c24 : Nat), v8 = .pointer (some ⟨g8, 0, none⟩) ∧ wc.heap.size ≤ g8 ∧ Bl wx g8 #[.bool (decide (p2 < 0)), .slice a24 n24 c24] ∧ Nc wx a24 n24 c24 p2.natAbs ∧ Ext wc wx)
 case first =>
  have HC := Ext.refl wc
  have lop := bp.lt (Nat.succ_pos _)
  have loq := bq.lt (Nat.succ_pos _)
  have lor := br.lt (Nat.succ_pos _)
  have lou := bu.lt (Nat.succ_pos _)
  have hlo : wc.heap.size ≤ wc.heap.size := Nat.le_refl _
  refine wp_region_plan (R := Below wc.heap.size) (.q 0 (.q 1 (.q 2 (.q 3 (.q 4 (.q 6 (.q 7 (.q 8 (.q 9 (.q 12 (.q 13 (.q 14 (.q 15 (.br 5 (.br 10 (.br 11 (.br 16 (.l 17 (.b 18 .done)) (.l 17 (.l 16 (.b 18 .done)))) (.l 17 (.l 11 (.l 16 (.b 18 .done))))) (.l 17 (.l 10 (.l 11 (.l 16 (.b 18 .done)))))) (.l 17 (.l 5 (.l 10 (.l 11 (.l 16 (.b 18 .done)))))))))))))))))))) (by kernel_rfl) (by kernel_rfl) (by kernel_rfl) (by kernel_rfl) (Below.refl _) (fun _ _ _ => Below.trans) ?_
  refine absE (fun x32 hx32 => ?_)
  have hx : Ext wc x32 := by rw [hx32]; exact (Ext.refl _).drew
  replace hlo := Nat.le_trans hlo hx.size
  replace bp := q1b hx bp
  replace bq := q1b hx bq
  replace br := q1b hx br
  replace bu := q1b hx bu
  replace hs14 := hs14.ext hx
  replace HC := HC.trans hx
  replace HE := HE.trans hx
  clear hx
  clear hx32
  repeat (refine wpE_q (v := ?_) rfl rfl (fun u hu => ?_) ?_; rotate_left 1; (focus (have kp := Bl.low hu bp lop; have kq := Bl.low hu bq loq; have kr := Bl.low hu br lor; have ku := Bl.low hu bu lou; have wq1 := HW1.out; have wu := HU8.out; go_simp; (try rfl))); simp only [PU])
  clear bp
  clear bq
  clear br
  clear bu
  refine wpE_br rfl rfl (fun K hK => ?_) ?_
  · go_simp
    refine (W2.out _).mono ?_
    rintro e u21 ⟨a21, n21, c21, rfl, hs21, hx⟩
    refine hK.out _ _ (Below.mono hx hlo) ?_
    clear hK K
    try simp only [PU]
    replace hlo := Nat.le_trans hlo hx.size
    replace hs14 := hs14.ext hx
    replace HC := HC.trans hx
    replace HE := HE.trans hx
    clear hx
    replace hs21 : Nc u21 a21 n21 c21 (p8).natAbs := hs21
    refine wpE_br rfl rfl (fun K hK => ?_) ?_
    · go_simp
      refine (O2.out _ (HZ.out.ext HE) (HD.out.ext HE)).mono ?_
      rintro e u22 ⟨a22, n22, c22, rfl, hs22, hx⟩
      refine hK.out _ _ (Below.mono hx hlo) ?_
      clear hK K
      try simp only [PU]
      replace hlo := Nat.le_trans hlo hx.size
      replace hs14 := hs14.ext hx
      replace hs21 := hs21.ext hx
      replace HC := HC.trans hx
      replace HE := HE.trans hx
      clear hx
      replace hs22 : Nc u22 a22 n22 c22 (p6).natAbs := hs22
      refine wpE_br rfl rfl (fun K hK => ?_) ?_
      · go_simp
        refine (M2.out _ (hs21.wh L8.out) (hs22.wh L6.out)).mono ?_
        rintro e u23 ⟨a23, n23, c23, rfl, hs23, hx⟩
        refine hK.out _ _ (Below.mono hx hlo) ?_
        clear hK K
        try simp only [PU]
        replace hlo := Nat.le_trans hlo hx.size
        replace hs14 := hs14.ext hx
        replace hs21 := hs21.ext hx
        replace hs22 := hs22.ext hx
        replace HC := HC.trans hx
        replace HE := HE.trans hx
        clear hx
        replace hs23 : Nc u23 a23 n23 c23 (p4).natAbs := hs23
        refine wpE_br rfl rfl (fun K hK => ?_) ?_
        · go_simp
          refine (M4.out _ (hs23.wh L4.out) (nu_wh (HD'.out.ext HE) hm')).mono ?_
          rintro e u24 ⟨a24, n24, c24, rfl, hs24, hx⟩
          refine hK.out _ _ (Below.mono hx hlo) ?_
          clear hK K
          try simp only [PU]
          replace hlo := Nat.le_trans hlo hx.size
          replace hs14 := hs14.ext hx
          replace hs21 := hs21.ext hx
          replace hs22 := hs22.ext hx
          replace hs23 := hs23.ext hx
          replace HC := HC.trans hx
          replace HE := HE.trans hx
          clear hx
          replace hs24 : Nc u24 a24 n24 c24 (p2).natAbs := hs24
          refine wpE_l rfl rfl (fun K hK => ?_)
          go_simp
          refine hK.out _ _ ((Below.refl _ _).alloc hlo _) ?_
          clear hK K
          try simp only [PU]
          have gev := hlo
          have l0v := HE.size
          refine absE (fun x33 hx33 => ?_)
          have hx : Ext u24 x33 := by rw [hx33]; exact ((Ext.refl _).alloc _)
          have bv : Bl x33 (u24.heap.size) #[.bool false, .slice none 0 0] := by rw [hx33]; exact (Bl.new (by simp))
          have fv : Fz x33 (u24.heap.size) := by rw [hx33]; exact (Fz.new (by simp))
          replace hlo := Nat.le_trans hlo hx.size
          replace hs14 := hs14.ext hx
          replace hs21 := hs21.ext hx
          replace hs22 := hs22.ext hx
          replace hs23 := hs23.ext hx
          replace hs24 := hs24.ext hx
          replace HC := HC.trans hx
          replace HE := HE.trans hx
          clear hx
          clear hx33
          refine wpE_b rfl rfl (fun K hK => ?_)
          go_simp
          refine hK.out _ _ ?_
          clear hK K
          try simp only [PU]
          refine absE (fun x34 hx34 => ?_)
          have hbut : But x33 x34 (u24.heap.size) := by rw [hx34]; exact (But.refl _ _).store.store
          have hbn : Bl x34 (u24.heap.size) #[.bool (decide (p2 < 0)), .slice a24 n24 c24] := by rw [hx34]; exact (Bl.set (Bl.set bv (by simp)) (by simp))
          have hni : ∀ (j : Nat) (x : Int), (#[.bool false, .slice none 0 0] : Array Value)[j]? ≠ some (Value.int .u32 x) := (not_ints2 nb_bool nb_slice)
          replace hs14 := hs14.but bv hni hbut
          replace hs21 := hs21.but bv hni hbut
          replace hs22 := hs22.but bv hni hbut
          replace hs23 := hs23.but bv hni hbut
          replace hs24 := hs24.but bv hni hbut
          clear hni
          replace fv : Fz x34 (u24.heap.size) := by rw [hx34]; exact (Fz.set (Fz.set fv))
          have hle : w.heap.size ≤ u24.heap.size := by omega
          replace HE : Ext w x34 := by rw [hx34]; exact ((HE.store hle _).store hle _)
          clear hle
          have hle : wc.heap.size ≤ u24.heap.size := by omega
          replace HC : Ext wc x34 := by rw [hx34]; exact ((HC.store hle _).store hle _)
          clear hle
          replace hlo : wc.heap.size ≤ x34.heap.size := Nat.le_trans hlo hbut.1
          clear bv hbut hx34
          have bv := hbn
          clear hbn
          refine wpE_done ?_
          clear hlo
          go_wp2_with fail
          go_meet
          exact ⟨u24.heap.size, a24, n24, c24, rfl, gev, bv, hs24, HC⟩
        refine wpE_l rfl rfl (fun K hK => ?_)
        go_simp
        refine hK.out _ _ ((Below.refl _ _).alloc hlo _) ?_
        clear hK K
        try simp only [PU]
        have gev := hlo
        have l0v := HE.size
        refine absE (fun x33 hx33 => ?_)
        have hx : Ext u23 x33 := by rw [hx33]; exact ((Ext.refl _).alloc _)
        have bv : Bl x33 (u23.heap.size) #[.bool false, .slice none 0 0] := by rw [hx33]; exact (Bl.new (by simp))
        have fv : Fz x33 (u23.heap.size) := by rw [hx33]; exact (Fz.new (by simp))
        replace hlo := Nat.le_trans hlo hx.size
        replace hs14 := hs14.ext hx
        replace hs21 := hs21.ext hx
        replace hs22 := hs22.ext hx
        replace hs23 := hs23.ext hx
        replace HC := HC.trans hx
        replace HE := HE.trans hx
        clear hx
        clear hx33
        refine wpE_l rfl rfl (fun K hK => ?_)
        go_simp
        refine (M4.out _ (hs23.wh L4.out) (nu_wh (HD'.out.ext HE) hm')).mono ?_
        rintro e u24 ⟨a24, n24, c24, rfl, hs24, hx⟩
        refine hK.out _ _ (Below.mono hx hlo) ?_
        clear hK K
        try simp only [PU]
        replace hlo := Nat.le_trans hlo hx.size
        replace fv := q1f hx fv bv
        replace bv := q1b hx bv
        replace hs14 := hs14.ext hx
        replace hs21 := hs21.ext hx
        replace hs22 := hs22.ext hx
        replace hs23 := hs23.ext hx
        replace HC := HC.trans hx
        replace HE := HE.trans hx
        clear hx
        replace hs24 : Nc u24 a24 n24 c24 (p2).natAbs := hs24
        refine wpE_b rfl rfl (fun K hK => ?_)
        go_simp
        refine hK.out _ _ ?_
        clear hK K
        try simp only [PU]
        refine absE (fun x34 hx34 => ?_)
        have hbut : But u24 x34 (u23.heap.size) := by rw [hx34]; exact (But.refl _ _).store.store
        have hbn : Bl x34 (u23.heap.size) #[.bool (decide (p2 < 0)), .slice a24 n24 c24] := by rw [hx34]; exact (Bl.set (Bl.set bv (by simp)) (by simp))
        have hni : ∀ (j : Nat) (x : Int), (#[.bool false, .slice none 0 0] : Array Value)[j]? ≠ some (Value.int .u32 x) := (not_ints2 nb_bool nb_slice)
        replace hs14 := hs14.but bv hni hbut
        replace hs21 := hs21.but bv hni hbut
        replace hs22 := hs22.but bv hni hbut
        replace hs23 := hs23.but bv hni hbut
        replace hs24 := hs24.but bv hni hbut
        clear hni
        replace fv : Fz x34 (u23.heap.size) := by rw [hx34]; exact (Fz.set (Fz.set fv))
        have hle : w.heap.size ≤ u23.heap.size := by omega
        replace HE : Ext w x34 := by rw [hx34]; exact ((HE.store hle _).store hle _)
        clear hle
        have hle : wc.heap.size ≤ u23.heap.size := by omega
        replace HC : Ext wc x34 := by rw [hx34]; exact ((HC.store hle _).store hle _)
        clear hle
        replace hlo : wc.heap.size ≤ x34.heap.size := Nat.le_trans hlo hbut.1
        clear bv hbut hx34
        have bv := hbn
        clear hbn
        refine wpE_done ?_
        clear hlo
        go_wp2_with fail
        go_meet
        exact ⟨u23.heap.size, a24, n24, c24, rfl, gev, bv, hs24, HC⟩
      refine wpE_l rfl rfl (fun K hK => ?_)
      go_simp
      refine hK.out _ _ ((Below.refl _ _).alloc hlo _) ?_
      clear hK K
      try simp only [PU]
      have gev := hlo
      have l0v := HE.size
      refine absE (fun x33 hx33 => ?_)
      have hx : Ext u22 x33 := by rw [hx33]; exact ((Ext.refl _).alloc _)
      have bv : Bl x33 (u22.heap.size) #[.bool false, .slice none 0 0] := by rw [hx33]; exact (Bl.new (by simp))
      have fv : Fz x33 (u22.heap.size) := by rw [hx33]; exact (Fz.new (by simp))
      replace hlo := Nat.le_trans hlo hx.size
      replace hs14 := hs14.ext hx
      replace hs21 := hs21.ext hx
      replace hs22 := hs22.ext hx
      replace HC := HC.trans hx
      replace HE := HE.trans hx
      clear hx
      clear hx33
      refine wpE_l rfl rfl (fun K hK => ?_)
      go_simp
      refine (M2.out _ (hs21.wh L8.out) (hs22.wh L6.out)).mono ?_
      rintro e u23 ⟨a23, n23, c23, rfl, hs23, hx⟩
      refine hK.out _ _ (Below.mono hx hlo) ?_
      clear hK K
      try simp only [PU]
      replace hlo := Nat.le_trans hlo hx.size
      replace fv := q1f hx fv bv
      replace bv := q1b hx bv
      replace hs14 := hs14.ext hx
      replace hs21 := hs21.ext hx
      replace hs22 := hs22.ext hx
      replace HC := HC.trans hx
      replace HE := HE.trans hx
      clear hx
      replace hs23 : Nc u23 a23 n23 c23 (p4).natAbs := hs23
      refine wpE_l rfl rfl (fun K hK => ?_)
      go_simp
      refine (M4.out _ (hs23.wh L4.out) (nu_wh (HD'.out.ext HE) hm')).mono ?_
      rintro e u24 ⟨a24, n24, c24, rfl, hs24, hx⟩
      refine hK.out _ _ (Below.mono hx hlo) ?_
      clear hK K
      try simp only [PU]
      replace hlo := Nat.le_trans hlo hx.size
      replace fv := q1f hx fv bv
      replace bv := q1b hx bv
      replace hs14 := hs14.ext hx
      replace hs21 := hs21.ext hx
      replace hs22 := hs22.ext hx
      replace hs23 := hs23.ext hx
      replace HC := HC.trans hx
      replace HE := HE.trans hx
      clear hx
      replace hs24 : Nc u24 a24 n24 c24 (p2).natAbs := hs24
      refine wpE_b rfl rfl (fun K hK => ?_)
      go_simp
      refine hK.out _ _ ?_
      clear hK K
      try simp only [PU]
      refine absE (fun x34 hx34 => ?_)
      have hbut : But u24 x34 (u22.heap.size) := by rw [hx34]; exact (But.refl _ _).store.store
      have hbn : Bl x34 (u22.heap.size) #[.bool (decide (p2 < 0)), .slice a24 n24 c24] := by rw [hx34]; exact (Bl.set (Bl.set bv (by simp)) (by simp))
      have hni : ∀ (j : Nat) (x : Int), (#[.bool false, .slice none 0 0] : Array Value)[j]? ≠ some (Value.int .u32 x) := (not_ints2 nb_bool nb_slice)
      replace hs14 := hs14.but bv hni hbut
      replace hs21 := hs21.but bv hni hbut
      replace hs22 := hs22.but bv hni hbut
      replace hs23 := hs23.but bv hni hbut
      replace hs24 := hs24.but bv hni hbut
      clear hni
      replace fv : Fz x34 (u22.heap.size) := by rw [hx34]; exact (Fz.set (Fz.set fv))
      have hle : w.heap.size ≤ u22.heap.size := by omega
      replace HE : Ext w x34 := by rw [hx34]; exact ((HE.store hle _).store hle _)
      clear hle
      have hle : wc.heap.size ≤ u22.heap.size := by omega
      replace HC : Ext wc x34 := by rw [hx34]; exact ((HC.store hle _).store hle _)
      clear hle
      replace hlo : wc.heap.size ≤ x34.heap.size := Nat.le_trans hlo hbut.1
      clear bv hbut hx34
      have bv := hbn
      clear hbn
      refine wpE_done ?_
      clear hlo
      go_wp2_with fail
      go_meet
      exact ⟨u22.heap.size, a24, n24, c24, rfl, gev, bv, hs24, HC⟩
    refine wpE_l rfl rfl (fun K hK => ?_)
    go_simp
    refine hK.out _ _ ((Below.refl _ _).alloc hlo _) ?_
    clear hK K
    try simp only [PU]
    have gev := hlo
    have l0v := HE.size
    refine absE (fun x33 hx33 => ?_)
    have hx : Ext u21 x33 := by rw [hx33]; exact ((Ext.refl _).alloc _)
    have bv : Bl x33 (u21.heap.size) #[.bool false, .slice none 0 0] := by rw [hx33]; exact (Bl.new (by simp))
    have fv : Fz x33 (u21.heap.size) := by rw [hx33]; exact (Fz.new (by simp))
    replace hlo := Nat.le_trans hlo hx.size
    replace hs14 := hs14.ext hx
    replace hs21 := hs21.ext hx
    replace HC := HC.trans hx
    replace HE := HE.trans hx
    clear hx
    clear hx33
    refine wpE_l rfl rfl (fun K hK => ?_)
    go_simp
    refine (O2.out _ (HZ.out.ext HE) (HD.out.ext HE)).mono ?_
    rintro e u22 ⟨a22, n22, c22, rfl, hs22, hx⟩
    refine hK.out _ _ (Below.mono hx hlo) ?_
    clear hK K
    try simp only [PU]
    replace hlo := Nat.le_trans hlo hx.size
    replace fv := q1f hx fv bv
    replace bv := q1b hx bv
    replace hs14 := hs14.ext hx
    replace hs21 := hs21.ext hx
    replace HC := HC.trans hx
    replace HE := HE.trans hx
    clear hx
    replace hs22 : Nc u22 a22 n22 c22 (p6).natAbs := hs22
    refine wpE_l rfl rfl (fun K hK => ?_)
    go_simp
    refine (M2.out _ (hs21.wh L8.out) (hs22.wh L6.out)).mono ?_
    rintro e u23 ⟨a23, n23, c23, rfl, hs23, hx⟩
    refine hK.out _ _ (Below.mono hx hlo) ?_
    clear hK K
    try simp only [PU]
    replace hlo := Nat.le_trans hlo hx.size
    replace fv := q1f hx fv bv
    replace bv := q1b hx bv
    replace hs14 := hs14.ext hx
    replace hs21 := hs21.ext hx
    replace hs22 := hs22.ext hx
    replace HC := HC.trans hx
    replace HE := HE.trans hx
    clear hx
    replace hs23 : Nc u23 a23 n23 c23 (p4).natAbs := hs23
    refine wpE_l rfl rfl (fun K hK => ?_)
    go_simp
    refine (M4.out _ (hs23.wh L4.out) (nu_wh (HD'.out.ext HE) hm')).mono ?_
    rintro e u24 ⟨a24, n24, c24, rfl, hs24, hx⟩
    refine hK.out _ _ (Below.mono hx hlo) ?_
    clear hK K
    try simp only [PU]
    replace hlo := Nat.le_trans hlo hx.size
    replace fv := q1f hx fv bv
    replace bv := q1b hx bv
    replace hs14 := hs14.ext hx
    replace hs21 := hs21.ext hx
    replace hs22 := hs22.ext hx
    replace hs23 := hs23.ext hx
    replace HC := HC.trans hx
    replace HE := HE.trans hx
    clear hx
    replace hs24 : Nc u24 a24 n24 c24 (p2).natAbs := hs24
    refine wpE_b rfl rfl (fun K hK => ?_)
    go_simp
    refine hK.out _ _ ?_
    clear hK K
    try simp only [PU]
    refine absE (fun x34 hx34 => ?_)
    have hbut : But u24 x34 (u21.heap.size) := by rw [hx34]; exact (But.refl _ _).store.store
    have hbn : Bl x34 (u21.heap.size) #[.bool (decide (p2 < 0)), .slice a24 n24 c24] := by rw [hx34]; exact (Bl.set (Bl.set bv (by simp)) (by simp))
    have hni : ∀ (j : Nat) (x : Int), (#[.bool false, .slice none 0 0] : Array Value)[j]? ≠ some (Value.int .u32 x) := (not_ints2 nb_bool nb_slice)
    replace hs14 := hs14.but bv hni hbut
    replace hs21 := hs21.but bv hni hbut
    replace hs22 := hs22.but bv hni hbut
    replace hs23 := hs23.but bv hni hbut
    replace hs24 := hs24.but bv hni hbut
    clear hni
    replace fv : Fz x34 (u21.heap.size) := by rw [hx34]; exact (Fz.set (Fz.set fv))
    have hle : w.heap.size ≤ u21.heap.size := by omega
    replace HE : Ext w x34 := by rw [hx34]; exact ((HE.store hle _).store hle _)
    clear hle
    have hle : wc.heap.size ≤ u21.heap.size := by omega
    replace HC : Ext wc x34 := by rw [hx34]; exact ((HC.store hle _).store hle _)
    clear hle
    replace hlo : wc.heap.size ≤ x34.heap.size := Nat.le_trans hlo hbut.1
    clear bv hbut hx34
    have bv := hbn
    clear hbn
    refine wpE_done ?_
    clear hlo
    go_wp2_with fail
    go_meet
    exact ⟨u21.heap.size, a24, n24, c24, rfl, gev, bv, hs24, HC⟩
  refine wpE_l rfl rfl (fun K hK => ?_)
  go_simp
  refine hK.out _ _ ((Below.refl _ _).alloc hlo _) ?_
  clear hK K
  try simp only [PU]
  have gev := hlo
  have l0v := HE.size
  refine absE (fun x33 hx33 => ?_)
  have hx : Ext x32 x33 := by rw [hx33]; exact ((Ext.refl _).alloc _)
  have bv : Bl x33 (x32.heap.size) #[.bool false, .slice none 0 0] := by rw [hx33]; exact (Bl.new (by simp))
  have fv : Fz x33 (x32.heap.size) := by rw [hx33]; exact (Fz.new (by simp))
  replace hlo := Nat.le_trans hlo hx.size
  replace hs14 := hs14.ext hx
  replace HC := HC.trans hx
  replace HE := HE.trans hx
  clear hx
  clear hx33
  refine wpE_l rfl rfl (fun K hK => ?_)
  go_simp
  refine (W2.out _).mono ?_
  rintro e u21 ⟨a21, n21, c21, rfl, hs21, hx⟩
  refine hK.out _ _ (Below.mono hx hlo) ?_
  clear hK K
  try simp only [PU]
  replace hlo := Nat.le_trans hlo hx.size
  replace fv := q1f hx fv bv
  replace bv := q1b hx bv
  replace hs14 := hs14.ext hx
  replace HC := HC.trans hx
  replace HE := HE.trans hx
  clear hx
  replace hs21 : Nc u21 a21 n21 c21 (p8).natAbs := hs21
  refine wpE_l rfl rfl (fun K hK => ?_)
  go_simp
  refine (O2.out _ (HZ.out.ext HE) (HD.out.ext HE)).mono ?_
  rintro e u22 ⟨a22, n22, c22, rfl, hs22, hx⟩
  refine hK.out _ _ (Below.mono hx hlo) ?_
  clear hK K
  try simp only [PU]
  replace hlo := Nat.le_trans hlo hx.size
  replace fv := q1f hx fv bv
  replace bv := q1b hx bv
  replace hs14 := hs14.ext hx
  replace hs21 := hs21.ext hx
  replace HC := HC.trans hx
  replace HE := HE.trans hx
  clear hx
  replace hs22 : Nc u22 a22 n22 c22 (p6).natAbs := hs22
  refine wpE_l rfl rfl (fun K hK => ?_)
  go_simp
  refine (M2.out _ (hs21.wh L8.out) (hs22.wh L6.out)).mono ?_
  rintro e u23 ⟨a23, n23, c23, rfl, hs23, hx⟩
  refine hK.out _ _ (Below.mono hx hlo) ?_
  clear hK K
  try simp only [PU]
  replace hlo := Nat.le_trans hlo hx.size
  replace fv := q1f hx fv bv
  replace bv := q1b hx bv
  replace hs14 := hs14.ext hx
  replace hs21 := hs21.ext hx
  replace hs22 := hs22.ext hx
  replace HC := HC.trans hx
  replace HE := HE.trans hx
  clear hx
  replace hs23 : Nc u23 a23 n23 c23 (p4).natAbs := hs23
  refine wpE_l rfl rfl (fun K hK => ?_)
  go_simp
  refine (M4.out _ (hs23.wh L4.out) (nu_wh (HD'.out.ext HE) hm')).mono ?_
  rintro e u24 ⟨a24, n24, c24, rfl, hs24, hx⟩
  refine hK.out _ _ (Below.mono hx hlo) ?_
  clear hK K
  try simp only [PU]
  replace hlo := Nat.le_trans hlo hx.size
  replace fv := q1f hx fv bv
  replace bv := q1b hx bv
  replace hs14 := hs14.ext hx
  replace hs21 := hs21.ext hx
  replace hs22 := hs22.ext hx
  replace hs23 := hs23.ext hx
  replace HC := HC.trans hx
  replace HE := HE.trans hx
  clear hx
  replace hs24 : Nc u24 a24 n24 c24 (p2).natAbs := hs24
  refine wpE_b rfl rfl (fun K hK => ?_)
  go_simp
  refine hK.out _ _ ?_
  clear hK K
  try simp only [PU]
  refine absE (fun x34 hx34 => ?_)
  have hbut : But u24 x34 (x32.heap.size) := by rw [hx34]; exact (But.refl _ _).store.store
  have hbn : Bl x34 (x32.heap.size) #[.bool (decide (p2 < 0)), .slice a24 n24 c24] := by rw [hx34]; exact (Bl.set (Bl.set bv (by simp)) (by simp))
  have hni : ∀ (j : Nat) (x : Int), (#[.bool false, .slice none 0 0] : Array Value)[j]? ≠ some (Value.int .u32 x) := (not_ints2 nb_bool nb_slice)
  replace hs14 := hs14.but bv hni hbut
  replace hs21 := hs21.but bv hni hbut
  replace hs22 := hs22.but bv hni hbut
  replace hs23 := hs23.but bv hni hbut
  replace hs24 := hs24.but bv hni hbut
  clear hni
  replace fv : Fz x34 (x32.heap.size) := by rw [hx34]; exact (Fz.set (Fz.set fv))
  have hle : w.heap.size ≤ x32.heap.size := by omega
  replace HE : Ext w x34 := by rw [hx34]; exact ((HE.store hle _).store hle _)
  clear hle
  have hle : wc.heap.size ≤ x32.heap.size := by omega
  replace HC : Ext wc x34 := by rw [hx34]; exact ((HC.store hle _).store hle _)
  clear hle
  replace hlo : wc.heap.size ≤ x34.heap.size := Nat.le_trans hlo hbut.1
  clear bv hbut hx34
  have bv := hbn
  clear hbn
  refine wpE_done ?_
  clear hlo
  go_wp2_with fail
  go_meet
  exact ⟨x32.heap.size, a24, n24, c24, rfl, gev, bv, hs24, HC⟩
 obtain ⟨g8, a24, n24, c24, rfl, gev, bv, hs24, hx⟩ := hcut
 replace bp := q1b hx bp
 replace bq := q1b hx bq
 replace br := q1b hx br
 replace bu := q1b hx bu
 replace hs14 := hs14.ext hx
 replace HE := HE.trans hx
 clear hx
 go_wp2_with fail
 refine (C.out _ (hs14.wh L1.out) (hs24.wh L2.out)).mono ?_
 rintro e u9 ⟨rfl, hx⟩
 replace bp := q1b hx bp
 replace bq := q1b hx bq
 replace br := q1b hx br
 replace bu := q1b hx bu
 replace bv := q1b hx bv
 replace hs14 := hs14.ext hx
 replace hs24 := hs24.ext hx
 replace HE := HE.trans hx
 clear hx
 go_wp2_with fail
 go_ret
 exact ⟨rfl, HE⟩
/-- On which side of a way of the grid a spot is. -/
theorem sp_Side {b b' : Bool} {a d a' d' : Option Addr} {n c m k n' c' m' k' : Nat} {q r : Rat} {N : Nat} (ax ay ex ey : Int) (w : World) (hx : Fq w b a n c d m k q N) (hy : Fq w b' a' n' c' d' m' k' r N) (hN : N ≤ 17179869184) (hN1 : 2 ≤ N) (x1 : -1073741824 ≤ ax) (x2 : ax ≤ 1073741824) (y1 : -1073741824 ≤ ay) (y2 : ay ≤ 1073741824) (x3 : -1073741824 ≤ ex) (x4 : ex ≤ 1073741824) (y3 : -1073741824 ≤ ey) (y4 : ey ≤ 1073741824) :
    Calls Tryz.prog 79 #[.agg #[.int .i64 ax, .int .i64 ay], .agg #[.int .i64 ex, .int .i64 ey], .agg #[.bool b, .slice a n c, .slice d m k, .bool b', .slice a' n' c', .slice d' m' k']] w fun e w' => e = .returned (.int .i64 (sideR (ax : Rat) (ay : Rat) (ex : Rat) (ey : Rat) q r)) ∧ Ext w w' := by
  have hx0 := hx; have hy0 := hy
  obtain ⟨z, D, g1, g2, g3, g4, g5, g6⟩ := hx
  obtain ⟨z', D', g1', g2', g3', g4', g5', g6'⟩ := hy
  by_cases h0 : D = 0 ∨ D' = 0
  · exact sp_Side0 ax ay ex ey w g1 g2 g1' g2' hx0 hy0 h0 hN hN1 x1 x2 y1 y2 x3 x4 y3 y4
  · have h := side_mk ax ay ex ey z z' D D' (fun h => h0 (.inl h)) (fun h => h0 (.inr h))
    rw [← g6, ← g6', ← h]
    exact sp_Side1 ax ay ex ey w g1 g2 g3 g1' g2' g3' (fun h => h0 (.inl h)) (fun h => h0 (.inr h)) g4 g5 g4' g5' hN x1 x2 y1 y2 x3 x4 y3 y4
end Go.Proofs.YtgjjalnmigdjgaaGreat
