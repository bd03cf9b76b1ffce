/- Paints: the document's ramps. -/
import Derived.Test.YtmibjfkpchncgaaGreatZ4
import Derived.Test.YtmibjfkpchncgaaGreatZ20
import Derived.Test.YtmibjfkpchncgaaGreatR11
namespace Go.Proofs.YtmibjfkpchncgaaGreat
set_option linter.unusedVariables false
set_option linter.unusedSimpArgs false
open Go Go.RowKit

theorem rat_div_mk {n d : Int} (h : 1 ≤ d) : (n : Rat) / (d : Rat) = mkRat n d.natAbs := by
  rw [← Rat.divInt_eq_div, mz_div (by omega)]
  have : mz n d = n := by unfold mz; rw [if_neg (by omega)]
  rw [this]
theorem sgn_quot {n d : Int} (h : 1 ≤ d) : sgn ((n : Rat) / (d : Rat)).num = sgn n := by
  rw [rat_div_mk h]
  have := cmpQ_mk (z := n) (z' := 0) (D := d.natAbs) (D' := 1) (by omega) (by omega)
  unfold cmpQ at this
  have e1 : (mkRat 0 1).num = 0 := by decide
  have e2 : (mkRat 0 1).den = 1 := by decide
  rw [e1, e2] at this
  simp only [Int.zero_mul, Int.sub_zero] at this
  have e3 : ((1 : Nat) : Int) = 1 := rfl
  rw [e3, Int.mul_one, Int.mul_one] at this
  exact this.symm
theorem cmp_quot1 {n d : Int} (h : 1 ≤ d) : cmpQ ((n : Rat) / (d : Rat)) ((1 : Int) : Rat) = sgn (n - d) := by
  have e : ((1 : Int) : Rat) = mkRat 1 1 := by decide
  rw [e, rat_div_mk h, ← cmpQ_mk (by omega) (by omega)]
  congr 1
  have : ((d.natAbs : Nat) : Int) = d := by omega
  rw [this]
  omega
theorem quot_mul (n d k : Int) : (n : Rat) / (d : Rat) * (k : Rat) = ((n * k : Int) : Rat) / (d : Rat) := by
  rw [Rat.div_def, Rat.div_def, Rat.intCast_mul, Rat.mul_assoc, Rat.mul_assoc, Rat.mul_comm (d : Rat)⁻¹ (k : Rat)]
theorem lin_near {n d : Int} (h : 1 ≤ d) (h0 : 0 ≤ n) (h1 : n ≤ d) : ((n : Rat) / (d : Rat) * ((255 : Int) : Rat) + mkRat 1 2).floor = (linF n d : Nat) := by
  rw [quot_mul, near_rat h]
  by_cases hn : n = 0
  · subst hn
    rw [show linF 0 d = 0 from if_pos (.inr (Int.le_refl _))]
    simp only [Int.zero_mul, Int.mul_zero, Int.zero_add]
    exact Int.ediv_eq_zero_of_lt (by omega) (by omega)
  · by_cases hd : n = d
    · subst hd
      rw [show linF n n = 255 by unfold linF; rw [if_neg (by omega), if_pos (Int.le_refl _)]]
      have e : 2 * (n * 255) + n = 2 * n * 255 + n := by omega
      rw [e]
      refine Int.le_antisymm ?_ ?_
      · have := Int.ediv_lt_of_lt_mul (a := 2 * n * 255 + n) (b := 256) (c := 2 * n) (by omega) (by omega)
        omega
      · exact Int.le_ediv_of_mul_le (by omega) (by omega)
    · rw [linF_quo (by omega) (by omega) (by omega)]
      congr 1
      omega
theorem rat_zero : ((0 : Int) : Rat) = 0 := by decide
theorem fit_sub {ax ay px py : Int} (h : fitP px py = true) (h' : fitP ax ay = true) : (-16777214 ≤ ax - px ∧ ax - px ≤ 16777214) ∧ (-16777214 ≤ ay - py ∧ ay - py ≤ 16777214) := by
  obtain ⟨a1, a2⟩ := fitP_iff.1 h
  obtain ⟨b1, b2⟩ := fitP_iff.1 h'
  omega

set_option maxRecDepth 100000 in
set_option maxHeartbeats 8000000 in
theorem e_dot (a b c d : Int) (w : World) (j1 : -281474909601796 ≤ a * c) (j2 : a * c ≤ 281474909601796) (j3 : -281474909601796 ≤ b * d) (j4 : b * d ≤ 281474909601796) :
    Calls Tryz.prog 25 #[.int .i64 a, .int .i64 b, .int .i64 c, .int .i64 d] w (RetF w ((a * c + b * d : Int) : Rat).num ((a * c + b * d : Int) : Rat).den) := by
  have A0 := hidP (fun u => gq_Int (a * c + b * d) u (by omega) (by omega))
  generalize ((a * c + b * d : Int) : Rat) = qn at *
  go_enter Tryz.func25, Tryz.ntmps25
  go_upto_region 1 with fail
  refine absW (fun x1 hx1 => ?_)
  have hx : Ext w x1 := by rw [hx1]; exact ((Ext.refl _).alloc _)
  have bo : Bl x1 (w.heap.size) #[.bool false, .slice none 0 0, .slice none 0 0] := by rw [hx1]; exact (Bl.new (by simp))
  have fo : Fz x1 (w.heap.size) := by rw [hx1]; exact (Fz.new (by simp))
  have HE := hx
  clear hx
  clear hx1
  go_wp2_with fail
  refine (A0.out _).mono ?_
  rintro e u1 ⟨a1, n1, c1, d1, m1, k1, rfl, hs1, ht1, hx⟩
  replace fo := Fz.ext hx fo bo (Nat.succ_pos _)
  replace bo := Bl.ext hx bo (Nat.succ_pos _)
  replace HE := HE.trans hx
  clear hx
  replace hs1 : Nc u1 a1 n1 c1 (qn.num).natAbs := hs1
  replace ht1 : Nc u1 d1 m1 k1 (qn.den) := ht1
  have HS1 := hidP hs1; have HT1 := hidP ht1
  clear hs1 ht1
  go_wp2_with fail
  refine absB (fun ue hue => ?_)
  have hbs : Bl ue (w.heap.size) #[.bool (decide (qn.num < 0)), .slice a1 n1 c1, .slice d1 m1 k1] := by rw [hue]; exact (((bo.set (by simp)).set (by simp)).set (by simp))
  have hnc : ∀ {aa : Option Addr} {nn cc VV : Nat}, Nc u1 aa nn cc VV → Nc ue aa nn cc VV := fun h => by
    rw [hue]
    exact h.but bo (not_ints3 nb_bool nb_slice nb_slice) ((But.refl _ _).store.store.store)
  have heu : Ext w ue := by rw [hue]; exact ((HE.store (by show w.heap.size ≤ w.heap.size; omega) _).store (by show w.heap.size ≤ w.heap.size; omega) _).store (by show w.heap.size ≤ w.heap.size; omega) _
  clear hue
  refine bodyPost_cells rfl rfl Tryz.underlying50 rfl (by kernel_rfl) (bl_three hbs) rfl ?_
  exact RetF.of rfl rfl rfl (hnc HS1.out) (hnc HT1.out) heu

set_option maxRecDepth 100000 in
set_option maxHeartbeats 8000000 in
theorem lin_z (k : Int) (r0 g0 b0 a0 r1 g1 b1 a1 : Nat) (px py qx qy r ux uy vx vy : Int) (x y : Int) (a : Option Addr) (n c : Nat) (s : Bool) (ax ay : Int) (w : World) (hp : fitP px py = true) (hq : fitP qx qy = true) (hf : fitP ax ay = true) (hL : prodP px py qx qy qx qy = 0) :
    Calls Tryz.prog 14 #[.agg #[.int .i64 k, .int .u8 (r0 : Int), .int .u8 (g0 : Int), .int .u8 (b0 : Int), .int .u8 (a0 : Int), .int .u8 (r1 : Int), .int .u8 (g1 : Int), .int .u8 (b1 : Int), .int .u8 (a1 : Int), .int .i64 px, .int .i64 py, .int .i64 qx, .int .i64 qy, .int .i64 r, .int .i64 ux, .int .i64 uy, .int .i64 vx, .int .i64 vy, .int .i64 x, .int .i64 y, .slice a n c, .bool s], .agg #[.int .i64 ax, .int .i64 ay]] w fun e w' => e = .returned (.int .i64 (0)) ∧ Ext w w' := by
  obtain ⟨⟨i1, i2⟩, i3, i4⟩ := fit_sub hp hf
  obtain ⟨⟨i5, i6⟩, i7, i8⟩ := fit_sub hp hq
  obtain ⟨⟨j1, j2⟩, j3, j4⟩ := prod_cap hp hf hq
  obtain ⟨⟨j5, j6⟩, j7, j8⟩ := prod_cap hp hq hq
  have W1 : Hid (IntKind.i64.wrap (qx - px) = qx - px) := hidP (IntWalk.i64_in _ (by omega))
  have W2 : Hid (IntKind.i64.wrap (qy - py) = qy - py) := hidP (IntWalk.i64_in _ (by omega))
  have A1 := hidP (fun u => e_dot (ax - px) (ay - py) (qx - px) (qy - py) u j1 j2 j3 j4)
  have A2 := hidP (fun u => e_dot (qx - px) (qy - py) (qx - px) (qy - py) u j5 j6 j7 j8)
  have eN : (ax - px) * (qx - px) + (ay - py) * (qy - py) = prodP px py ax ay qx qy := rfl
  have eL : (qx - px) * (qx - px) + (qy - py) * (qy - py) = prodP px py qx qy qx qy := rfl
  have l1 : ql ((prodP px py ax ay qx qy : Int) : Rat) ≤ 2 := ql_int (by rw [← eN]; omega) (by rw [← eN]; omega)
  have l2 : ql ((prodP px py qx qy qx qy : Int) : Rat) ≤ 2 := ql_int (by rw [← eL]; omega) (by rw [← eL]; omega)
  rw [eN] at A1
  rw [eL] at A2
  clear eN eL
  have L1 := hidP l1; have L2 := hidP l2
  clear j1 j2 j3 j4 j5 j6 j7 j8
  generalize prodP px py ax ay qx qy = N at *
  generalize prodP px py qx qy qx qy = L at *
  have hz : (L : Rat) = 0 := by rw [hL]; exact rat_zero
  have A3 := hidP (fun (u : World) (b1 b2 : Bool) (a1 d1 a2 d2 : Option Addr) (n1 c1 m1 k1 n2 c2 m2 k2 : Nat) (t1 : Fq u b1 a1 n1 c1 d1 m1 k1 (N : Rat) 2) (t2 : Fq u b2 a2 n2 c2 d2 m2 k2 (L : Rat) 2) => gq_Div0 t1 t2 (by omega) (by omega) hz)
  clear hz hL
  clear hp hq hf l1 l2
  generalize (N : Rat) = qn at *
  generalize (L : Rat) = qd at *
  go_enter Tryz.func14, Tryz.ntmps14
  go_wp2_with fail
  refine wp_region_plan (R := Ext) (.q 0 (.q 1 (.q 2 (.q 3 (.q 4 (.q 5 (.q 6 (.q 7 (.q 8 (.q 9 (.q 10 (.q 11 (.q 12 (.q 13 (.q 14 (.q 15 .done)))))))))))))))) (by kernel_rfl) (by kernel_rfl) (by kernel_rfl) (by kernel_rfl) Ext.refl (fun _ _ _ => Ext.trans) ?_
  refine absE (fun x1 hx1 => ?_)
  have hx : Ext w x1 := by rw [hx1]; exact (((Ext.refl _).alloc _).alloc _).drew
  have bp : Bl x1 (w.heap.size) #[.int .i64 k, .int .u8 (r0 : Int), .int .u8 (g0 : Int), .int .u8 (b0 : Int), .int .u8 (a0 : Int), .int .u8 (r1 : Int), .int .u8 (g1 : Int), .int .u8 (b1 : Int), .int .u8 (a1 : Int), .int .i64 px, .int .i64 py, .int .i64 qx, .int .i64 qy, .int .i64 r, .int .i64 ux, .int .i64 uy, .int .i64 vx, .int .i64 vy, .int .i64 x, .int .i64 y, .slice a n c, .bool s] := by rw [hx1]; exact ((Bl.new (by simp)).alloc (by simp)).drew
  have bz : Bl x1 (w.heap.size + 1) #[.int .i64 ax, .int .i64 ay] := by rw [hx1]; exact (Bl.new (by simp)).drew
  have HE := hx
  clear hx
  clear hx1
  repeat (refine wpE_q (v := ?_) rfl rfl (fun u hu => ?_) ?_; rotate_left 1; (focus (have kp := Bl.ext hu bp (Nat.succ_pos _); have kz := Bl.ext hu bz (Nat.succ_pos _); have r1 := W1.out; have r2 := W2.out; go_simp; (try rfl))); simp only [Act.put, List.setIfInBounds_toArray, List.set_cons_zero, List.set_cons_succ])
  refine wpE_done ?_
  clear W1 W2
  go_wp2_with fail
  refine (A1.out _).mono ?_
  rintro e u1 ⟨a1, n1, c1, d1, m1, k1, rfl, hs1, ht1, hx⟩
  replace bp := Bl.ext hx bp (Nat.succ_pos _)
  replace bz := Bl.ext hx bz (Nat.succ_pos _)
  replace HE := HE.trans hx
  clear hx
  replace hs1 : Nc u1 a1 n1 c1 (qn.num).natAbs := hs1
  replace ht1 : Nc u1 d1 m1 k1 (qn.den) := ht1
  go_wp2_with fail
  refine (A2.out _).mono ?_
  rintro e u2 ⟨a2, n2, c2, d2, m2, k2, rfl, hs2, ht2, hx⟩
  replace bp := Bl.ext hx bp (Nat.succ_pos _)
  replace bz := Bl.ext hx bz (Nat.succ_pos _)
  replace hs1 := hs1.ext hx
  replace ht1 := ht1.ext hx
  replace HE := HE.trans hx
  clear hx
  replace hs2 : Nc u2 a2 n2 c2 (qd.num).natAbs := hs2
  replace ht2 : Nc u2 d2 m2 k2 (qd.den) := ht2
  clear bp bz
  go_wp2_with fail
  refine (A3.out _ _ _ _ _ _ _ _ _ _ _ _ _ _ _ (fq_of hs1 ht1 L1.out (by omega)) (fq_of hs2 ht2 L2.out (by omega))).mono ?_
  rintro e u3 ⟨a3, n3, c3, d3, m3, k3, rfl, hs3, ht3, hx⟩
  replace hs1 := hs1.ext hx
  replace ht1 := ht1.ext hx
  replace hs2 := hs2.ext hx
  replace ht2 := ht2.ext hx
  replace HE := HE.trans hx
  clear hx
  go_wp2_with fail
  go_ret
  exact ⟨rfl, HE.alloc _⟩

set_option maxRecDepth 100000 in
set_option maxHeartbeats 8000000 in
theorem lin_neg (k : Int) (r0 g0 b0 a0 r1 g1 b1 a1 : Nat) (px py qx qy r ux uy vx vy : Int) (x y : Int) (a : Option Addr) (n c : Nat) (s : Bool) (ax ay : Int) (w : World) (hp : fitP px py = true) (hq : fitP qx qy = true) (hf : fitP ax ay = true) (hL : 1 ≤ prodP px py qx qy qx qy) (hN : prodP px py ax ay qx qy < 0) :
    Calls Tryz.prog 14 #[.agg #[.int .i64 k, .int .u8 (r0 : Int), .int .u8 (g0 : Int), .int .u8 (b0 : Int), .int .u8 (a0 : Int), .int .u8 (r1 : Int), .int .u8 (g1 : Int), .int .u8 (b1 : Int), .int .u8 (a1 : Int), .int .i64 px, .int .i64 py, .int .i64 qx, .int .i64 qy, .int .i64 r, .int .i64 ux, .int .i64 uy, .int .i64 vx, .int .i64 vy, .int .i64 x, .int .i64 y, .slice a n c, .bool s], .agg #[.int .i64 ax, .int .i64 ay]] w fun e w' => e = .returned (.int .i64 (0)) ∧ Ext w w' := by
  obtain ⟨⟨i1, i2⟩, i3, i4⟩ := fit_sub hp hf
  obtain ⟨⟨i5, i6⟩, i7, i8⟩ := fit_sub hp hq
  obtain ⟨⟨j1, j2⟩, j3, j4⟩ := prod_cap hp hf hq
  obtain ⟨⟨j5, j6⟩, j7, j8⟩ := prod_cap hp hq hq
  have W1 : Hid (IntKind.i64.wrap (qx - px) = qx - px) := hidP (IntWalk.i64_in _ (by omega))
  have W2 : Hid (IntKind.i64.wrap (qy - py) = qy - py) := hidP (IntWalk.i64_in _ (by omega))
  have A1 := hidP (fun u => e_dot (ax - px) (ay - py) (qx - px) (qy - py) u j1 j2 j3 j4)
  have A2 := hidP (fun u => e_dot (qx - px) (qy - py) (qx - px) (qy - py) u j5 j6 j7 j8)
  have eN : (ax - px) * (qx - px) + (ay - py) * (qy - py) = prodP px py ax ay qx qy := rfl
  have eL : (qx - px) * (qx - px) + (qy - py) * (qy - py) = prodP px py qx qy qx qy := rfl
  have l1 : ql ((prodP px py ax ay qx qy : Int) : Rat) ≤ 2 := ql_int (by rw [← eN]; omega) (by rw [← eN]; omega)
  have l2 : ql ((prodP px py qx qy qx qy : Int) : Rat) ≤ 2 := ql_int (by rw [← eL]; omega) (by rw [← eL]; omega)
  rw [eN] at A1
  rw [eL] at A2
  clear eN eL
  have L1 := hidP l1; have L2 := hidP l2
  clear j1 j2 j3 j4 j5 j6 j7 j8
  generalize prodP px py ax ay qx qy = N at *
  generalize prodP px py qx qy qx qy = L at *
  have e1 : sgn N = -1 := by unfold sgn; rw [if_neg (by omega), if_pos hN]
  have A3 := hidP (fun (u : World) (b1 b2 : Bool) (a1 d1 a2 d2 : Option Addr) (n1 c1 m1 k1 n2 c2 m2 k2 : Nat) (t1 : Fq u b1 a1 n1 c1 d1 m1 k1 (N : Rat) 2) (t2 : Fq u b2 a2 n2 c2 d2 m2 k2 (L : Rat) 2) => gq_Div t1 t2 (by omega) (by omega) (rat_ne hL))
  have l3 : ql ((N : Rat) / (L : Rat)) ≤ 4 := ql_div l1 l2 (by omega) (by omega)
  have L3 := hidP l3
  have A4 := hidP (fun (u : World) (b1 : Bool) (a1 d1 : Option Addr) (n1 c1 m1 k1 : Nat) (t1 : Fq u b1 a1 n1 c1 d1 m1 k1 ((N : Rat) / (L : Rat)) 4) => (by have := gq_Sign t1 (by omega); rw [sgn_quot hL, e1] at this; exact this : Calls Tryz.prog 26 #[.agg #[.bool b1, .slice a1 n1 c1, .slice d1 m1 k1]] u (fun e w' => e = .returned (.int .i64 (-1)) ∧ Ext u w')))
  clear e1 hN hL
  generalize (N : Rat) / (L : Rat) = qq at *
  clear l3
  clear hp hq hf l1 l2
  generalize (N : Rat) = qn at *
  generalize (L : Rat) = qd at *
  go_enter Tryz.func14, Tryz.ntmps14
  go_wp2_with fail
  refine wp_region_plan (R := Ext) (.q 0 (.q 1 (.q 2 (.q 3 (.q 4 (.q 5 (.q 6 (.q 7 (.q 8 (.q 9 (.q 10 (.q 11 (.q 12 (.q 13 (.q 14 (.q 15 .done)))))))))))))))) (by kernel_rfl) (by kernel_rfl) (by kernel_rfl) (by kernel_rfl) Ext.refl (fun _ _ _ => Ext.trans) ?_
  refine absE (fun x1 hx1 => ?_)
  have hx : Ext w x1 := by rw [hx1]; exact (((Ext.refl _).alloc _).alloc _).drew
  have bp : Bl x1 (w.heap.size) #[.int .i64 k, .int .u8 (r0 : Int), .int .u8 (g0 : Int), .int .u8 (b0 : Int), .int .u8 (a0 : Int), .int .u8 (r1 : Int), .int .u8 (g1 : Int), .int .u8 (b1 : Int), .int .u8 (a1 : Int), .int .i64 px, .int .i64 py, .int .i64 qx, .int .i64 qy, .int .i64 r, .int .i64 ux, .int .i64 uy, .int .i64 vx, .int .i64 vy, .int .i64 x, .int .i64 y, .slice a n c, .bool s] := by rw [hx1]; exact ((Bl.new (by simp)).alloc (by simp)).drew
  have bz : Bl x1 (w.heap.size + 1) #[.int .i64 ax, .int .i64 ay] := by rw [hx1]; exact (Bl.new (by simp)).drew
  have HE := hx
  clear hx
  clear hx1
  repeat (refine wpE_q (v := ?_) rfl rfl (fun u hu => ?_) ?_; rotate_left 1; (focus (have kp := Bl.ext hu bp (Nat.succ_pos _); have kz := Bl.ext hu bz (Nat.succ_pos _); have r1 := W1.out; have r2 := W2.out; go_simp; (try rfl))); simp only [Act.put, List.setIfInBounds_toArray, List.set_cons_zero, List.set_cons_succ])
  refine wpE_done ?_
  clear W1 W2
  go_wp2_with fail
  refine (A1.out _).mono ?_
  rintro e u1 ⟨a1, n1, c1, d1, m1, k1, rfl, hs1, ht1, hx⟩
  replace bp := Bl.ext hx bp (Nat.succ_pos _)
  replace bz := Bl.ext hx bz (Nat.succ_pos _)
  replace HE := HE.trans hx
  clear hx
  replace hs1 : Nc u1 a1 n1 c1 (qn.num).natAbs := hs1
  replace ht1 : Nc u1 d1 m1 k1 (qn.den) := ht1
  go_wp2_with fail
  refine (A2.out _).mono ?_
  rintro e u2 ⟨a2, n2, c2, d2, m2, k2, rfl, hs2, ht2, hx⟩
  replace bp := Bl.ext hx bp (Nat.succ_pos _)
  replace bz := Bl.ext hx bz (Nat.succ_pos _)
  replace hs1 := hs1.ext hx
  replace ht1 := ht1.ext hx
  replace HE := HE.trans hx
  clear hx
  replace hs2 : Nc u2 a2 n2 c2 (qd.num).natAbs := hs2
  replace ht2 : Nc u2 d2 m2 k2 (qd.den) := ht2
  clear bp bz
  go_wp2_with fail
  refine (A3.out _ _ _ _ _ _ _ _ _ _ _ _ _ _ _ (fq_of hs1 ht1 L1.out (by omega)) (fq_of hs2 ht2 L2.out (by omega))).mono ?_
  rintro e u3 ⟨a3, n3, c3, d3, m3, k3, rfl, hs3, ht3, hx⟩
  replace hs1 := hs1.ext hx
  replace ht1 := ht1.ext hx
  replace hs2 := hs2.ext hx
  replace ht2 := ht2.ext hx
  replace HE := HE.trans hx
  clear hx
  replace hs3 : Nc u3 a3 n3 c3 qq.num.natAbs := hs3
  replace ht3 : Nc u3 d3 m3 k3 qq.den := ht3
  clear hs1 ht1 hs2 ht2
  go_upto_region 3 with fail
  refine absW (fun x2 hx2 => ?_)
  have hx : Ext u3 x2 := by rw [hx2]; exact ((Ext.refl _).alloc _)
  have bx : Bl x2 (u3.heap.size) #[.bool (decide (qq.num < 0)), .slice a3 n3 c3, .slice d3 m3 k3] := by rw [hx2]; exact (Bl.new (by simp))
  replace hs3 := hs3.ext hx
  replace ht3 := ht3.ext hx
  replace HE := HE.trans hx
  clear hx
  clear hx2
  go_wp2_with fail
  refine (A4.out _ _ _ _ _ _ _ _ (fq_of hs3 ht3 L3.out (by omega))).mono ?_
  rintro e u4 ⟨rfl, hx⟩
  replace bx := Bl.ext hx bx (Nat.succ_pos _)
  replace hs3 := hs3.ext hx
  replace ht3 := ht3.ext hx
  replace HE := HE.trans hx
  clear hx
  go_wp2_with fail
  go_ret
  exact ⟨rfl, HE⟩

set_option maxRecDepth 100000 in
set_option maxHeartbeats 8000000 in
theorem lin_far (k : Int) (r0 g0 b0 a0 r1 g1 b1 a1 : Nat) (px py qx qy r ux uy vx vy : Int) (x y : Int) (a : Option Addr) (n c : Nat) (s : Bool) (ax ay : Int) (w : World) (hp : fitP px py = true) (hq : fitP qx qy = true) (hf : fitP ax ay = true) (hL : 1 ≤ prodP px py qx qy qx qy) (hN : prodP px py qx qy qx qy < prodP px py ax ay qx qy) :
    Calls Tryz.prog 14 #[.agg #[.int .i64 k, .int .u8 (r0 : Int), .int .u8 (g0 : Int), .int .u8 (b0 : Int), .int .u8 (a0 : Int), .int .u8 (r1 : Int), .int .u8 (g1 : Int), .int .u8 (b1 : Int), .int .u8 (a1 : Int), .int .i64 px, .int .i64 py, .int .i64 qx, .int .i64 qy, .int .i64 r, .int .i64 ux, .int .i64 uy, .int .i64 vx, .int .i64 vy, .int .i64 x, .int .i64 y, .slice a n c, .bool s], .agg #[.int .i64 ax, .int .i64 ay]] w fun e w' => e = .returned (.int .i64 (255)) ∧ Ext w w' := by
  obtain ⟨⟨i1, i2⟩, i3, i4⟩ := fit_sub hp hf
  obtain ⟨⟨i5, i6⟩, i7, i8⟩ := fit_sub hp hq
  obtain ⟨⟨j1, j2⟩, j3, j4⟩ := prod_cap hp hf hq
  obtain ⟨⟨j5, j6⟩, j7, j8⟩ := prod_cap hp hq hq
  have W1 : Hid (IntKind.i64.wrap (qx - px) = qx - px) := hidP (IntWalk.i64_in _ (by omega))
  have W2 : Hid (IntKind.i64.wrap (qy - py) = qy - py) := hidP (IntWalk.i64_in _ (by omega))
  have A1 := hidP (fun u => e_dot (ax - px) (ay - py) (qx - px) (qy - py) u j1 j2 j3 j4)
  have A2 := hidP (fun u => e_dot (qx - px) (qy - py) (qx - px) (qy - py) u j5 j6 j7 j8)
  have eN : (ax - px) * (qx - px) + (ay - py) * (qy - py) = prodP px py ax ay qx qy := rfl
  have eL : (qx - px) * (qx - px) + (qy - py) * (qy - py) = prodP px py qx qy qx qy := rfl
  have l1 : ql ((prodP px py ax ay qx qy : Int) : Rat) ≤ 2 := ql_int (by rw [← eN]; omega) (by rw [← eN]; omega)
  have l2 : ql ((prodP px py qx qy qx qy : Int) : Rat) ≤ 2 := ql_int (by rw [← eL]; omega) (by rw [← eL]; omega)
  rw [eN] at A1
  rw [eL] at A2
  clear eN eL
  have L1 := hidP l1; have L2 := hidP l2
  clear j1 j2 j3 j4 j5 j6 j7 j8
  generalize prodP px py ax ay qx qy = N at *
  generalize prodP px py qx qy qx qy = L at *
  have e1 : sgn N = 1 := by unfold sgn; rw [if_neg (by omega), if_neg (by omega)]
  have e2 : sgn (N - L) = 1 := by unfold sgn; rw [if_neg (by omega), if_neg (by omega)]
  have A3 := hidP (fun (u : World) (b1 b2 : Bool) (a1 d1 a2 d2 : Option Addr) (n1 c1 m1 k1 n2 c2 m2 k2 : Nat) (t1 : Fq u b1 a1 n1 c1 d1 m1 k1 (N : Rat) 2) (t2 : Fq u b2 a2 n2 c2 d2 m2 k2 (L : Rat) 2) => gq_Div t1 t2 (by omega) (by omega) (rat_ne hL))
  have l3 : ql ((N : Rat) / (L : Rat)) ≤ 4 := ql_div l1 l2 (by omega) (by omega)
  have L3 := hidP l3
  have A4 := hidP (fun (u : World) (b1 : Bool) (a1 d1 : Option Addr) (n1 c1 m1 k1 : Nat) (t1 : Fq u b1 a1 n1 c1 d1 m1 k1 ((N : Rat) / (L : Rat)) 4) => (by have := gq_Sign t1 (by omega); rw [sgn_quot hL, e1] at this; exact this : Calls Tryz.prog 26 #[.agg #[.bool b1, .slice a1 n1 c1, .slice d1 m1 k1]] u (fun e w' => e = .returned (.int .i64 (1)) ∧ Ext u w')))
  have l4 : ql ((1 : Int) : Rat) ≤ 2 := ql_int (by decide) (by decide)
  have L4 := hidP l4
  have A5 := hidP (fun (u : World) => gq_Int 1 u (by decide) (by decide))
  have A6 := hidP (fun (u : World) (b1 b2 : Bool) (a1 d1 a2 d2 : Option Addr) (n1 c1 m1 k1 n2 c2 m2 k2 : Nat) (t1 : Fq u b1 a1 n1 c1 d1 m1 k1 ((N : Rat) / (L : Rat)) 4) (t2 : Fq u b2 a2 n2 c2 d2 m2 k2 ((1 : Int) : Rat) 2) => (by have := gq_Cmp t1 t2 (by omega) (by omega); rw [cmp_quot1 hL, e2] at this; exact this : Calls Tryz.prog 27 #[.agg #[.bool b1, .slice a1 n1 c1, .slice d1 m1 k1], .agg #[.bool b2, .slice a2 n2 c2, .slice d2 m2 k2]] u (fun e w' => e = .returned (.int .i64 (1)) ∧ Ext u w')))
  generalize ((1 : Int) : Rat) = q1 at *
  clear e1 e2 hN hL
  generalize (N : Rat) / (L : Rat) = qq at *
  clear l3 l4
  clear hp hq hf l1 l2
  generalize (N : Rat) = qn at *
  generalize (L : Rat) = qd at *
  go_enter Tryz.func14, Tryz.ntmps14
  go_wp2_with fail
  refine wp_region_plan (R := Ext) (.q 0 (.q 1 (.q 2 (.q 3 (.q 4 (.q 5 (.q 6 (.q 7 (.q 8 (.q 9 (.q 10 (.q 11 (.q 12 (.q 13 (.q 14 (.q 15 .done)))))))))))))))) (by kernel_rfl) (by kernel_rfl) (by kernel_rfl) (by kernel_rfl) Ext.refl (fun _ _ _ => Ext.trans) ?_
  refine absE (fun x1 hx1 => ?_)
  have hx : Ext w x1 := by rw [hx1]; exact (((Ext.refl _).alloc _).alloc _).drew
  have bp : Bl x1 (w.heap.size) #[.int .i64 k, .int .u8 (r0 : Int), .int .u8 (g0 : Int), .int .u8 (b0 : Int), .int .u8 (a0 : Int), .int .u8 (r1 : Int), .int .u8 (g1 : Int), .int .u8 (b1 : Int), .int .u8 (a1 : Int), .int .i64 px, .int .i64 py, .int .i64 qx, .int .i64 qy, .int .i64 r, .int .i64 ux, .int .i64 uy, .int .i64 vx, .int .i64 vy, .int .i64 x, .int .i64 y, .slice a n c, .bool s] := by rw [hx1]; exact ((Bl.new (by simp)).alloc (by simp)).drew
  have bz : Bl x1 (w.heap.size + 1) #[.int .i64 ax, .int .i64 ay] := by rw [hx1]; exact (Bl.new (by simp)).drew
  have HE := hx
  clear hx
  clear hx1
  repeat (refine wpE_q (v := ?_) rfl rfl (fun u hu => ?_) ?_; rotate_left 1; (focus (have kp := Bl.ext hu bp (Nat.succ_pos _); have kz := Bl.ext hu bz (Nat.succ_pos _); have r1 := W1.out; have r2 := W2.out; go_simp; (try rfl))); simp only [Act.put, List.setIfInBounds_toArray, List.set_cons_zero, List.set_cons_succ])
  refine wpE_done ?_
  clear W1 W2
  go_wp2_with fail
  refine (A1.out _).mono ?_
  rintro e u1 ⟨a1, n1, c1, d1, m1, k1, rfl, hs1, ht1, hx⟩
  replace bp := Bl.ext hx bp (Nat.succ_pos _)
  replace bz := Bl.ext hx bz (Nat.succ_pos _)
  replace HE := HE.trans hx
  clear hx
  replace hs1 : Nc u1 a1 n1 c1 (qn.num).natAbs := hs1
  replace ht1 : Nc u1 d1 m1 k1 (qn.den) := ht1
  go_wp2_with fail
  refine (A2.out _).mono ?_
  rintro e u2 ⟨a2, n2, c2, d2, m2, k2, rfl, hs2, ht2, hx⟩
  replace bp := Bl.ext hx bp (Nat.succ_pos _)
  replace bz := Bl.ext hx bz (Nat.succ_pos _)
  replace hs1 := hs1.ext hx
  replace ht1 := ht1.ext hx
  replace HE := HE.trans hx
  clear hx
  replace hs2 : Nc u2 a2 n2 c2 (qd.num).natAbs := hs2
  replace ht2 : Nc u2 d2 m2 k2 (qd.den) := ht2
  clear bp bz
  go_wp2_with fail
  refine (A3.out _ _ _ _ _ _ _ _ _ _ _ _ _ _ _ (fq_of hs1 ht1 L1.out (by omega)) (fq_of hs2 ht2 L2.out (by omega))).mono ?_
  rintro e u3 ⟨a3, n3, c3, d3, m3, k3, rfl, hs3, ht3, hx⟩
  replace hs1 := hs1.ext hx
  replace ht1 := ht1.ext hx
  replace hs2 := hs2.ext hx
  replace ht2 := ht2.ext hx
  replace HE := HE.trans hx
  clear hx
  replace hs3 : Nc u3 a3 n3 c3 qq.num.natAbs := hs3
  replace ht3 : Nc u3 d3 m3 k3 qq.den := ht3
  clear hs1 ht1 hs2 ht2
  go_upto_region 3 with fail
  refine absW (fun x2 hx2 => ?_)
  have hx : Ext u3 x2 := by rw [hx2]; exact ((Ext.refl _).alloc _)
  have bx : Bl x2 (u3.heap.size) #[.bool (decide (qq.num < 0)), .slice a3 n3 c3, .slice d3 m3 k3] := by rw [hx2]; exact (Bl.new (by simp))
  replace hs3 := hs3.ext hx
  replace ht3 := ht3.ext hx
  replace HE := HE.trans hx
  clear hx
  clear hx2
  go_wp2_with fail
  refine (A4.out _ _ _ _ _ _ _ _ (fq_of hs3 ht3 L3.out (by omega))).mono ?_
  rintro e u4 ⟨rfl, hx⟩
  replace bx := Bl.ext hx bx (Nat.succ_pos _)
  replace hs3 := hs3.ext hx
  replace ht3 := ht3.ext hx
  replace HE := HE.trans hx
  clear hx
  go_wp2_with fail
  refine wp_region_plan (R := Ext) (.q 0 (.l 1 (.l 2 (.q 3 .done)))) (by kernel_rfl) (by kernel_rfl) (by kernel_rfl) (by kernel_rfl) Ext.refl (fun _ _ _ => Ext.trans) ?_
  refine absE (fun x3 hx3 => ?_)
  have hx : Ext u4 x3 := by rw [hx3]; exact (Ext.refl _).drew
  replace bx := Bl.ext hx bx (Nat.succ_pos _)
  replace hs3 := hs3.ext hx
  replace ht3 := ht3.ext hx
  replace HE := HE.trans hx
  clear hx
  clear hx3
  repeat (refine wpE_q (v := ?_) rfl rfl (fun u hu => ?_) ?_; rotate_left 1; (focus (have kx := Bl.ext hu bx (Nat.succ_pos _); go_simp; (try rfl))); simp only [Act.put, List.setIfInBounds_toArray, List.set_cons_zero, List.set_cons_succ])
  refine wpE_l rfl rfl (fun K hK => ?_)
  go_simp
  refine (A5.out _).mono ?_
  rintro e u5 ⟨a5, n5, c5, d5, m5, k5, rfl, hs5, ht5, hx⟩
  refine hK.out _ _ hx ?_
  clear hK K
  try simp only [Act.put, List.setIfInBounds_toArray, List.set_cons_zero, List.set_cons_succ]
  replace bx := Bl.ext hx bx (Nat.succ_pos _)
  replace hs3 := hs3.ext hx
  replace ht3 := ht3.ext hx
  replace HE := HE.trans hx
  clear hx
  replace hs5 : Nc u5 a5 n5 c5 (q1.num).natAbs := hs5
  replace ht5 : Nc u5 d5 m5 k5 (q1.den) := ht5
  refine wpE_l rfl rfl (fun K hK => ?_)
  go_simp
  refine (A6.out _ _ _ _ _ _ _ _ _ _ _ _ _ _ _ (fq_of hs3 ht3 L3.out (by omega)) (fq_of hs5 ht5 L4.out (by omega))).mono ?_
  rintro e u6 ⟨rfl, hx⟩
  refine hK.out _ _ hx ?_
  clear hK K
  try simp only [Act.put, List.setIfInBounds_toArray, List.set_cons_zero, List.set_cons_succ]
  replace bx := Bl.ext hx bx (Nat.succ_pos _)
  replace hs3 := hs3.ext hx
  replace ht3 := ht3.ext hx
  replace hs5 := hs5.ext hx
  replace ht5 := ht5.ext hx
  replace HE := HE.trans hx
  clear hx
  repeat (refine wpE_q (v := ?_) rfl rfl (fun u hu => ?_) ?_; rotate_left 1; (focus (have kx := Bl.ext hu bx (Nat.succ_pos _); go_simp; (try rfl))); simp only [Act.put, List.setIfInBounds_toArray, List.set_cons_zero, List.set_cons_succ])
  refine wpE_done ?_
  go_wp2_with fail
  go_ret
  exact ⟨rfl, HE⟩

set_option maxRecDepth 100000 in
set_option maxHeartbeats 8000000 in
theorem lin_mid (k : Int) (r0 g0 b0 a0 r1 g1 b1 a1 : Nat) (px py qx qy r ux uy vx vy : Int) (x y : Int) (a : Option Addr) (n c : Nat) (s : Bool) (ax ay : Int) (w : World) (hp : fitP px py = true) (hq : fitP qx qy = true) (hf : fitP ax ay = true) (hL : 1 ≤ prodP px py qx qy qx qy) (h0 : 0 ≤ prodP px py ax ay qx qy) (h1 : prodP px py ax ay qx qy ≤ prodP px py qx qy qx qy) :
    Calls Tryz.prog 14 #[.agg #[.int .i64 k, .int .u8 (r0 : Int), .int .u8 (g0 : Int), .int .u8 (b0 : Int), .int .u8 (a0 : Int), .int .u8 (r1 : Int), .int .u8 (g1 : Int), .int .u8 (b1 : Int), .int .u8 (a1 : Int), .int .i64 px, .int .i64 py, .int .i64 qx, .int .i64 qy, .int .i64 r, .int .i64 ux, .int .i64 uy, .int .i64 vx, .int .i64 vy, .int .i64 x, .int .i64 y, .slice a n c, .bool s], .agg #[.int .i64 ax, .int .i64 ay]] w fun e w' => e = .returned (.int .i64 ((linF (prodP px py ax ay qx qy) (prodP px py qx qy qx qy) : Nat))) ∧ Ext w w' := by
  obtain ⟨⟨i1, i2⟩, i3, i4⟩ := fit_sub hp hf
  obtain ⟨⟨i5, i6⟩, i7, i8⟩ := fit_sub hp hq
  obtain ⟨⟨j1, j2⟩, j3, j4⟩ := prod_cap hp hf hq
  obtain ⟨⟨j5, j6⟩, j7, j8⟩ := prod_cap hp hq hq
  have W1 : Hid (IntKind.i64.wrap (qx - px) = qx - px) := hidP (IntWalk.i64_in _ (by omega))
  have W2 : Hid (IntKind.i64.wrap (qy - py) = qy - py) := hidP (IntWalk.i64_in _ (by omega))
  have A1 := hidP (fun u => e_dot (ax - px) (ay - py) (qx - px) (qy - py) u j1 j2 j3 j4)
  have A2 := hidP (fun u => e_dot (qx - px) (qy - py) (qx - px) (qy - py) u j5 j6 j7 j8)
  have eN : (ax - px) * (qx - px) + (ay - py) * (qy - py) = prodP px py ax ay qx qy := rfl
  have eL : (qx - px) * (qx - px) + (qy - py) * (qy - py) = prodP px py qx qy qx qy := rfl
  have l1 : ql ((prodP px py ax ay qx qy : Int) : Rat) ≤ 2 := ql_int (by rw [← eN]; omega) (by rw [← eN]; omega)
  have l2 : ql ((prodP px py qx qy qx qy : Int) : Rat) ≤ 2 := ql_int (by rw [← eL]; omega) (by rw [← eL]; omega)
  rw [eN] at A1
  rw [eL] at A2
  clear eN eL
  have L1 := hidP l1; have L2 := hidP l2
  clear j1 j2 j3 j4 j5 j6 j7 j8
  generalize prodP px py ax ay qx qy = N at *
  generalize prodP px py qx qy qx qy = L at *
  have e1 : 0 ≤ sgn N := by unfold sgn; split; omega; rw [if_neg (by omega)]; omega
  have e2 : sgn (N - L) ≤ 0 := by unfold sgn; split; omega; rw [if_pos (by omega)]; omega
  have A3 := hidP (fun (u : World) (b1 b2 : Bool) (a1 d1 a2 d2 : Option Addr) (n1 c1 m1 k1 n2 c2 m2 k2 : Nat) (t1 : Fq u b1 a1 n1 c1 d1 m1 k1 (N : Rat) 2) (t2 : Fq u b2 a2 n2 c2 d2 m2 k2 (L : Rat) 2) => gq_Div t1 t2 (by omega) (by omega) (rat_ne hL))
  have l3 : ql ((N : Rat) / (L : Rat)) ≤ 4 := ql_div l1 l2 (by omega) (by omega)
  have L3 := hidP l3
  have A4 := hidP (fun (u : World) (b1 : Bool) (a1 d1 : Option Addr) (n1 c1 m1 k1 : Nat) (t1 : Fq u b1 a1 n1 c1 d1 m1 k1 ((N : Rat) / (L : Rat)) 4) => (by have := gq_Sign t1 (by omega); rw [sgn_quot hL] at this; exact this : Calls Tryz.prog 26 #[.agg #[.bool b1, .slice a1 n1 c1, .slice d1 m1 k1]] u (fun e w' => e = .returned (.int .i64 (sgn N)) ∧ Ext u w')))
  have l4 : ql ((1 : Int) : Rat) ≤ 2 := ql_int (by decide) (by decide)
  have L4 := hidP l4
  have A5 := hidP (fun (u : World) => gq_Int 1 u (by decide) (by decide))
  have A6 := hidP (fun (u : World) (b1 b2 : Bool) (a1 d1 a2 d2 : Option Addr) (n1 c1 m1 k1 n2 c2 m2 k2 : Nat) (t1 : Fq u b1 a1 n1 c1 d1 m1 k1 ((N : Rat) / (L : Rat)) 4) (t2 : Fq u b2 a2 n2 c2 d2 m2 k2 ((1 : Int) : Rat) 2) => (by have := gq_Cmp t1 t2 (by omega) (by omega); rw [cmp_quot1 hL] at this; exact this : Calls Tryz.prog 27 #[.agg #[.bool b1, .slice a1 n1 c1, .slice d1 m1 k1], .agg #[.bool b2, .slice a2 n2 c2, .slice d2 m2 k2]] u (fun e w' => e = .returned (.int .i64 (sgn (N - L))) ∧ Ext u w')))
  generalize ((1 : Int) : Rat) = q1 at *
  have l5 : ql ((255 : Int) : Rat) ≤ 2 := ql_int (by decide) (by decide)
  have L5 := hidP l5
  have A7 := hidP (fun (u : World) => gq_Int 255 u (by decide) (by decide))
  have l6 : ql ((N : Rat) / (L : Rat) * ((255 : Int) : Rat)) ≤ 6 := ql_mul l3 l5 (by omega)
  have L6 := hidP l6
  have A8 := hidP (fun (u : World) (b1 b2 : Bool) (a1 d1 a2 d2 : Option Addr) (n1 c1 m1 k1 n2 c2 m2 k2 : Nat) (t1 : Fq u b1 a1 n1 c1 d1 m1 k1 ((N : Rat) / (L : Rat)) 4) (t2 : Fq u b2 a2 n2 c2 d2 m2 k2 ((255 : Int) : Rat) 2) => gq_Mul t1 t2 (by omega) (by omega))
  have A9 := hidP (fun (u : World) (b1 : Bool) (a1 d1 : Option Addr) (n1 c1 m1 k1 : Nat) (t1 : Fq u b1 a1 n1 c1 d1 m1 k1 ((N : Rat) / (L : Rat) * ((255 : Int) : Rat)) 6) => (by have := dq_Near t1 (by omega) (by omega) (by rw [lin_near hL h0 h1]; have := linF_le N L (by omega); omega); rw [lin_near hL h0 h1] at this; exact this : Calls Tryz.prog 29 #[.agg #[.bool b1, .slice a1 n1 c1, .slice d1 m1 k1]] u (fun e w' => e = .returned (.int .i64 (linF N L : Nat)) ∧ Ext u w')))
  generalize linF N L = rr at *
  generalize (N : Rat) / (L : Rat) * ((255 : Int) : Rat) = qm at *
  generalize ((255 : Int) : Rat) = q5 at *
  generalize sgn N = s1 at *
  generalize sgn (N - L) = s2 at *
  have f2 : decide (0 < s2) = false := decide_eq_false (by omega)
  have F2 := hidP f2
  clear hL h0 h1 f2
  generalize (N : Rat) / (L : Rat) = qq at *
  clear l3 l4 l5 l6
  clear hp hq hf l1 l2
  generalize (N : Rat) = qn at *
  generalize (L : Rat) = qd at *
  go_enter Tryz.func14, Tryz.ntmps14
  go_wp2_with fail
  refine wp_region_plan (R := Ext) (.q 0 (.q 1 (.q 2 (.q 3 (.q 4 (.q 5 (.q 6 (.q 7 (.q 8 (.q 9 (.q 10 (.q 11 (.q 12 (.q 13 (.q 14 (.q 15 .done)))))))))))))))) (by kernel_rfl) (by kernel_rfl) (by kernel_rfl) (by kernel_rfl) Ext.refl (fun _ _ _ => Ext.trans) ?_
  refine absE (fun x1 hx1 => ?_)
  have hx : Ext w x1 := by rw [hx1]; exact (((Ext.refl _).alloc _).alloc _).drew
  have bp : Bl x1 (w.heap.size) #[.int .i64 k, .int .u8 (r0 : Int), .int .u8 (g0 : Int), .int .u8 (b0 : Int), .int .u8 (a0 : Int), .int .u8 (r1 : Int), .int .u8 (g1 : Int), .int .u8 (b1 : Int), .int .u8 (a1 : Int), .int .i64 px, .int .i64 py, .int .i64 qx, .int .i64 qy, .int .i64 r, .int .i64 ux, .int .i64 uy, .int .i64 vx, .int .i64 vy, .int .i64 x, .int .i64 y, .slice a n c, .bool s] := by rw [hx1]; exact ((Bl.new (by simp)).alloc (by simp)).drew
  have bz : Bl x1 (w.heap.size + 1) #[.int .i64 ax, .int .i64 ay] := by rw [hx1]; exact (Bl.new (by simp)).drew
  have HE := hx
  clear hx
  clear hx1
  repeat (refine wpE_q (v := ?_) rfl rfl (fun u hu => ?_) ?_; rotate_left 1; (focus (have kp := Bl.ext hu bp (Nat.succ_pos _); have kz := Bl.ext hu bz (Nat.succ_pos _); have r1 := W1.out; have r2 := W2.out; go_simp; (try rfl))); simp only [Act.put, List.setIfInBounds_toArray, List.set_cons_zero, List.set_cons_succ])
  refine wpE_done ?_
  clear W1 W2
  go_wp2_with fail
  refine (A1.out _).mono ?_
  rintro e u1 ⟨a1, n1, c1, d1, m1, k1, rfl, hs1, ht1, hx⟩
  replace bp := Bl.ext hx bp (Nat.succ_pos _)
  replace bz := Bl.ext hx bz (Nat.succ_pos _)
  replace HE := HE.trans hx
  clear hx
  replace hs1 : Nc u1 a1 n1 c1 (qn.num).natAbs := hs1
  replace ht1 : Nc u1 d1 m1 k1 (qn.den) := ht1
  go_wp2_with fail
  refine (A2.out _).mono ?_
  rintro e u2 ⟨a2, n2, c2, d2, m2, k2, rfl, hs2, ht2, hx⟩
  replace bp := Bl.ext hx bp (Nat.succ_pos _)
  replace bz := Bl.ext hx bz (Nat.succ_pos _)
  replace hs1 := hs1.ext hx
  replace ht1 := ht1.ext hx
  replace HE := HE.trans hx
  clear hx
  replace hs2 : Nc u2 a2 n2 c2 (qd.num).natAbs := hs2
  replace ht2 : Nc u2 d2 m2 k2 (qd.den) := ht2
  clear bp bz
  go_wp2_with fail
  refine (A3.out _ _ _ _ _ _ _ _ _ _ _ _ _ _ _ (fq_of hs1 ht1 L1.out (by omega)) (fq_of hs2 ht2 L2.out (by omega))).mono ?_
  rintro e u3 ⟨a3, n3, c3, d3, m3, k3, rfl, hs3, ht3, hx⟩
  replace hs1 := hs1.ext hx
  replace ht1 := ht1.ext hx
  replace hs2 := hs2.ext hx
  replace ht2 := ht2.ext hx
  replace HE := HE.trans hx
  clear hx
  replace hs3 : Nc u3 a3 n3 c3 qq.num.natAbs := hs3
  replace ht3 : Nc u3 d3 m3 k3 qq.den := ht3
  clear hs1 ht1 hs2 ht2
  go_upto_region 3 with fail
  refine absW (fun x2 hx2 => ?_)
  have hx : Ext u3 x2 := by rw [hx2]; exact ((Ext.refl _).alloc _)
  have bx : Bl x2 (u3.heap.size) #[.bool (decide (qq.num < 0)), .slice a3 n3 c3, .slice d3 m3 k3] := by rw [hx2]; exact (Bl.new (by simp))
  replace hs3 := hs3.ext hx
  replace ht3 := ht3.ext hx
  replace HE := HE.trans hx
  clear hx
  clear hx2
  go_wp2_with fail
  refine (A4.out _ _ _ _ _ _ _ _ (fq_of hs3 ht3 L3.out (by omega))).mono ?_
  rintro e u4 ⟨rfl, hx⟩
  replace bx := Bl.ext hx bx (Nat.succ_pos _)
  replace hs3 := hs3.ext hx
  replace ht3 := ht3.ext hx
  replace HE := HE.trans hx
  clear hx
  go_wp2_with fail
  refine wp_region_plan (R := Ext) (.q 0 (.l 1 (.l 2 (.q 3 .done)))) (by kernel_rfl) (by kernel_rfl) (by kernel_rfl) (by kernel_rfl) Ext.refl (fun _ _ _ => Ext.trans) ?_
  refine absE (fun x3 hx3 => ?_)
  have hx : Ext u4 x3 := by rw [hx3]; exact (Ext.refl _).drew
  replace bx := Bl.ext hx bx (Nat.succ_pos _)
  replace hs3 := hs3.ext hx
  replace ht3 := ht3.ext hx
  replace HE := HE.trans hx
  clear hx
  clear hx3
  repeat (refine wpE_q (v := ?_) rfl rfl (fun u hu => ?_) ?_; rotate_left 1; (focus (have kx := Bl.ext hu bx (Nat.succ_pos _); have r0 := F2.out; go_simp; (try rfl))); simp only [Act.put, List.setIfInBounds_toArray, List.set_cons_zero, List.set_cons_succ])
  refine wpE_l rfl rfl (fun K hK => ?_)
  go_simp
  refine (A5.out _).mono ?_
  rintro e u5 ⟨a5, n5, c5, d5, m5, k5, rfl, hs5, ht5, hx⟩
  refine hK.out _ _ hx ?_
  clear hK K
  try simp only [Act.put, List.setIfInBounds_toArray, List.set_cons_zero, List.set_cons_succ]
  replace bx := Bl.ext hx bx (Nat.succ_pos _)
  replace hs3 := hs3.ext hx
  replace ht3 := ht3.ext hx
  replace HE := HE.trans hx
  clear hx
  replace hs5 : Nc u5 a5 n5 c5 (q1.num).natAbs := hs5
  replace ht5 : Nc u5 d5 m5 k5 (q1.den) := ht5
  refine wpE_l rfl rfl (fun K hK => ?_)
  go_simp
  refine (A6.out _ _ _ _ _ _ _ _ _ _ _ _ _ _ _ (fq_of hs3 ht3 L3.out (by omega)) (fq_of hs5 ht5 L4.out (by omega))).mono ?_
  rintro e u6 ⟨rfl, hx⟩
  refine hK.out _ _ hx ?_
  clear hK K
  try simp only [Act.put, List.setIfInBounds_toArray, List.set_cons_zero, List.set_cons_succ]
  replace bx := Bl.ext hx bx (Nat.succ_pos _)
  replace hs3 := hs3.ext hx
  replace ht3 := ht3.ext hx
  replace hs5 := hs5.ext hx
  replace ht5 := ht5.ext hx
  replace HE := HE.trans hx
  clear hx
  repeat (refine wpE_q (v := ?_) rfl rfl (fun u hu => ?_) ?_; rotate_left 1; (focus (have kx := Bl.ext hu bx (Nat.succ_pos _); have r0 := F2.out; go_simp; (try rfl))); simp only [Act.put, List.setIfInBounds_toArray, List.set_cons_zero, List.set_cons_succ])
  refine wpE_done ?_
  go_wp2_with fail
  refine wp_region_plan (R := Ext) (.q 0 (.l 1 (.l 2 (.l 3 (.q 4 .done))))) (by kernel_rfl) (by kernel_rfl) (by kernel_rfl) (by kernel_rfl) Ext.refl (fun _ _ _ => Ext.trans) ?_
  refine absE (fun x4 hx4 => ?_)
  have hx : Ext u6 x4 := by rw [hx4]; exact (Ext.refl _).drew
  replace bx := Bl.ext hx bx (Nat.succ_pos _)
  replace hs3 := hs3.ext hx
  replace ht3 := ht3.ext hx
  replace hs5 := hs5.ext hx
  replace ht5 := ht5.ext hx
  replace HE := HE.trans hx
  clear hx
  clear hx4
  repeat (refine wpE_q (v := ?_) rfl rfl (fun u hu => ?_) ?_; rotate_left 1; (focus (have kx := Bl.ext hu bx (Nat.succ_pos _); go_simp; (try rfl))); simp only [Act.put, List.setIfInBounds_toArray, List.set_cons_zero, List.set_cons_succ])
  refine wpE_l rfl rfl (fun K hK => ?_)
  go_simp
  refine (A7.out _).mono ?_
  rintro e u7 ⟨a7, n7, c7, d7, m7, k7, rfl, hs7, ht7, hx⟩
  refine hK.out _ _ hx ?_
  clear hK K
  try simp only [Act.put, List.setIfInBounds_toArray, List.set_cons_zero, List.set_cons_succ]
  replace bx := Bl.ext hx bx (Nat.succ_pos _)
  replace hs3 := hs3.ext hx
  replace ht3 := ht3.ext hx
  replace hs5 := hs5.ext hx
  replace ht5 := ht5.ext hx
  replace HE := HE.trans hx
  clear hx
  replace hs7 : Nc u7 a7 n7 c7 (q5.num).natAbs := hs7
  replace ht7 : Nc u7 d7 m7 k7 (q5.den) := ht7
  refine wpE_l rfl rfl (fun K hK => ?_)
  go_simp
  refine (A8.out _ _ _ _ _ _ _ _ _ _ _ _ _ _ _ (fq_of hs3 ht3 L3.out (by omega)) (fq_of hs7 ht7 L5.out (by omega))).mono ?_
  rintro e u8 ⟨a8, n8, c8, d8, m8, k8, rfl, hs8, ht8, hx⟩
  refine hK.out _ _ hx ?_
  clear hK K
  try simp only [Act.put, List.setIfInBounds_toArray, List.set_cons_zero, List.set_cons_succ]
  replace bx := Bl.ext hx bx (Nat.succ_pos _)
  replace hs3 := hs3.ext hx
  replace ht3 := ht3.ext hx
  replace hs5 := hs5.ext hx
  replace ht5 := ht5.ext hx
  replace hs7 := hs7.ext hx
  replace ht7 := ht7.ext hx
  replace HE := HE.trans hx
  clear hx
  replace hs8 : Nc u8 a8 n8 c8 (qm.num).natAbs := hs8
  replace ht8 : Nc u8 d8 m8 k8 (qm.den) := ht8
  refine wpE_l rfl rfl (fun K hK => ?_)
  go_simp
  refine (A9.out _ _ _ _ _ _ _ _ (fq_of hs8 ht8 L6.out (by omega))).mono ?_
  rintro e u9 ⟨rfl, hx⟩
  refine hK.out _ _ hx ?_
  clear hK K
  try simp only [Act.put, List.setIfInBounds_toArray, List.set_cons_zero, List.set_cons_succ]
  replace bx := Bl.ext hx bx (Nat.succ_pos _)
  replace hs3 := hs3.ext hx
  replace ht3 := ht3.ext hx
  replace hs5 := hs5.ext hx
  replace ht5 := ht5.ext hx
  replace hs7 := hs7.ext hx
  replace ht7 := ht7.ext hx
  replace hs8 := hs8.ext hx
  replace ht8 := ht8.ext hx
  replace HE := HE.trans hx
  clear hx
  repeat (refine wpE_q (v := ?_) rfl rfl (fun u hu => ?_) ?_; rotate_left 1; (focus (have kx := Bl.ext hu bx (Nat.succ_pos _); go_simp; (try rfl))); simp only [Act.put, List.setIfInBounds_toArray, List.set_cons_zero, List.set_cons_succ])
  refine wpE_done ?_
  go_wp2_with fail
  go_ret
  exact ⟨rfl, HE⟩

theorem e_linear (k : Int) (r0 g0 b0 a0 r1 g1 b1 a1 : Nat) (px py qx qy r ux uy vx vy : Int) (x y : Int) (a : Option Addr) (n c : Nat) (s : Bool) (ax ay : Int) (w : World) (hp : fitP px py = true) (hq : fitP qx qy = true) (hf : fitP ax ay = true) :
    Calls Tryz.prog 14 #[.agg #[.int .i64 k, .int .u8 (r0 : Int), .int .u8 (g0 : Int), .int .u8 (b0 : Int), .int .u8 (a0 : Int), .int .u8 (r1 : Int), .int .u8 (g1 : Int), .int .u8 (b1 : Int), .int .u8 (a1 : Int), .int .i64 px, .int .i64 py, .int .i64 qx, .int .i64 qy, .int .i64 r, .int .i64 ux, .int .i64 uy, .int .i64 vx, .int .i64 vy, .int .i64 x, .int .i64 y, .slice a n c, .bool s], .agg #[.int .i64 ax, .int .i64 ay]] w fun e w' => e = .returned (.int .i64 (linF (prodP px py ax ay qx qy) (prodP px py qx qy qx qy) : Nat)) ∧ Ext w w' := by
  have h0 : 0 ≤ prodP px py qx qy qx qy := prodP_self
  by_cases hL : prodP px py qx qy qx qy = 0
  · rw [show linF (prodP px py ax ay qx qy) (prodP px py qx qy qx qy) = 0 from if_pos (.inl hL)]
    exact lin_z k r0 g0 b0 a0 r1 g1 b1 a1 px py qx qy r ux uy vx vy x y a n c s ax ay w hp hq hf hL
  · by_cases hN : prodP px py ax ay qx qy < 0
    · rw [show linF (prodP px py ax ay qx qy) (prodP px py qx qy qx qy) = 0 from if_pos (.inr (by omega))]
      exact lin_neg k r0 g0 b0 a0 r1 g1 b1 a1 px py qx qy r ux uy vx vy x y a n c s ax ay w hp hq hf (by omega) hN
    · by_cases hM : prodP px py qx qy qx qy < prodP px py ax ay qx qy
      · rw [show linF (prodP px py ax ay qx qy) (prodP px py qx qy qx qy) = 255 by unfold linF; rw [if_neg (by omega), if_pos (by omega)]]
        exact lin_far k r0 g0 b0 a0 r1 g1 b1 a1 px py qx qy r ux uy vx vy x y a n c s ax ay w hp hq hf (by omega) hM
      · exact lin_mid k r0 g0 b0 a0 r1 g1 b1 a1 px py qx qy r ux uy vx vy x y a n c s ax ay w hp hq hf (by omega) (by omega) (by omega)

end Go.Proofs.YtmibjfkpchncgaaGreat
