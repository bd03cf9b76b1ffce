/- Paints: the document's rings. -/
import Derived.Test.YtmibjfkpchncgaaGreatZ21
namespace Go.Proofs.YtmibjfkpchncgaaGreat
set_option linter.unusedVariables false
set_option linter.unusedSimpArgs false
open Go Go.RowKit

theorem floor_quot {n d : Int} (h : 1 ≤ d) : ((n : Rat) / (d : Rat)).floor = n / d := by
  rw [rat_div_mk h, floor_mk (by omega)]
  congr 1
  omega
theorem isq_self (n : Nat) : isq n ≤ n := by
  have h := (isq_spec n).1
  rcases Nat.eq_zero_or_pos (isq n) with h0 | h0
  · omega
  · exact Nat.le_trans (Nat.le_mul_of_pos_left _ h0) h
theorem cmpI_cases (x y : Nat) : (y < x ∧ cmpI x y = 1) ∨ (x ≤ y ∧ cmpI x y ≤ 0) := by
  unfold cmpI
  by_cases h1 : x < y
  · rw [if_pos h1]; omega
  · rw [if_neg h1]; split <;> omega
theorem rad_floor {D R : Int} (hD : 0 ≤ D) (hR : 1 ≤ R) : (((65025 : Int) : Rat) * (D : Rat) / ((R : Rat) * (R : Rat))).floor = ((65025 * D.toNat / (R * R).toNat : Nat) : Int) := by
  have hp : 1 ≤ R * R := by have := Int.mul_pos (show 0 < R by omega) (show 0 < R by omega); omega
  rw [← Rat.intCast_mul, ← Rat.intCast_mul, floor_quot hp, Int.natCast_ediv]
  have e1 : ((65025 * D.toNat : Nat) : Int) = 65025 * D := by omega
  have e2 : (((R * R).toNat : Nat) : Int) = R * R := by omega
  rw [e1, e2]
theorem rr_ne {R : Int} (hR : 1 ≤ R) : (R : Rat) * (R : Rat) ≠ 0 := by
  rw [← Rat.intCast_mul]
  exact rat_ne (by have := Int.mul_pos (show 0 < R by omega) (show 0 < R by omega); omega)

set_option maxRecDepth 100000 in
set_option maxHeartbeats 8000000 in
theorem rad_far (k : Int) (r0 g0 b0 a0 r1 g1 b1 a1 : Nat) (px py qx qy r ux uy vx vy : Int) (x y : Int) (a : Option Addr) (n c : Nat) (s : Bool) (ax ay : Int) (w : World) (hp : fitP px py = true) (hf : fitP ax ay = true) (hr1 : 1 ≤ r) (hr2 : r ≤ 8388607) (hq : 255 < isq (65025 * (prodP px py ax ay ax ay).toNat / (r * r).toNat)) :
    Calls Tryz.prog 15 #[.agg #[.int .i64 k, .int .u8 (r0 : Int), .int .u8 (g0 : Int), .int .u8 (b0 : Int), .int .u8 (a0 : Int), .int .u8 (r1 : Int), .int .u8 (g1 : Int), .int .u8 (b1 : Int), .int .u8 (a1 : Int), .int .i64 px, .int .i64 py, .int .i64 qx, .int .i64 qy, .int .i64 r, .int .i64 ux, .int .i64 uy, .int .i64 vx, .int .i64 vy, .int .i64 x, .int .i64 y, .slice a n c, .bool s], .agg #[.int .i64 ax, .int .i64 ay]] w fun e w' => e = .returned (.int .i64 (radF (prodP px py ax ay ax ay) r : Nat)) ∧ Ext w w' := by
  obtain ⟨⟨i1, i2⟩, i3, i4⟩ := fit_sub hp hf
  obtain ⟨⟨j1, j2⟩, j3, j4⟩ := prod_cap hp hf hf
  have W1 : Hid (IntKind.i64.wrap (ax - px) = ax - px) := hidP (IntWalk.i64_in _ (by omega))
  have W2 : Hid (IntKind.i64.wrap (ay - py) = ay - py) := hidP (IntWalk.i64_in _ (by omega))
  have A1 := hidP (fun u => e_dot (ax - px) (ay - py) (ax - px) (ay - py) u j1 j2 j3 j4)
  have eN : (ax - px) * (ax - px) + (ay - py) * (ay - py) = prodP px py ax ay ax ay := rfl
  have hD0 : 0 ≤ prodP px py ax ay ax ay := prodP_self
  have l1 : ql ((prodP px py ax ay ax ay : Int) : Rat) ≤ 2 := ql_int (by rw [← eN]; omega) (by rw [← eN]; omega)
  rw [eN] at A1
  clear eN j1 j2 j3 j4
  have hfl := rad_floor hD0 hr1
  have hrd : radF (prodP px py ax ay ax ay) r = min (isq (65025 * (prodP px py ax ay ax ay).toNat / (r * r).toNat)) 255 := rfl
  generalize 65025 * (prodP px py ax ay ax ay).toNat / (r * r).toNat = ff at *
  generalize radF (prodP px py ax ay ax ay) r = rr at *
  generalize prodP px py ax ay ax ay = D at *
  have L1 := hidP l1
  have A0 := hidP (fun u => gq_Int 65025 u (by decide) (by decide))
  have l0 : ql ((65025 : Int) : Rat) ≤ 2 := ql_int (by decide) (by decide)
  have L0 := hidP l0
  have A2 := hidP (fun (u : World) (b1 b2 : Bool) (a1 d1 a2 d2 : Option Addr) (n1 c1 m1 k1 n2 c2 m2 k2 : Nat) (t1 : Fq u b1 a1 n1 c1 d1 m1 k1 ((65025 : Int) : Rat) 2) (t2 : Fq u b2 a2 n2 c2 d2 m2 k2 (D : Rat) 2) => gq_Mul t1 t2 (by omega) (by omega))
  have l2 : ql (((65025 : Int) : Rat) * (D : Rat)) ≤ 4 := ql_mul l0 l1 (by omega)
  have L2 := hidP l2
  have A3 := hidP (fun u => gq_Int r u (by omega) (by omega))
  have l3 : ql (r : Rat) ≤ 2 := ql_int (by omega) (by omega)
  have L3 := hidP l3
  have A4 := hidP (fun (u : World) (b1 b2 : Bool) (a1 d1 a2 d2 : Option Addr) (n1 c1 m1 k1 n2 c2 m2 k2 : Nat) (t1 : Fq u b1 a1 n1 c1 d1 m1 k1 (r : Rat) 2) (t2 : Fq u b2 a2 n2 c2 d2 m2 k2 (r : Rat) 2) => gq_Mul t1 t2 (by omega) (by omega))
  have l4 : ql ((r : Rat) * (r : Rat)) ≤ 4 := ql_mul l3 l3 (by omega)
  have L4 := hidP l4
  have A5 := hidP (fun (u : World) (b1 b2 : Bool) (a1 d1 a2 d2 : Option Addr) (n1 c1 m1 k1 n2 c2 m2 k2 : Nat) (t1 : Fq u b1 a1 n1 c1 d1 m1 k1 (((65025 : Int) : Rat) * (D : Rat)) 4) (t2 : Fq u b2 a2 n2 c2 d2 m2 k2 ((r : Rat) * (r : Rat)) 4) => gq_Div t1 t2 (by omega) (by omega) (rr_ne hr1))
  have l5 : ql (((65025 : Int) : Rat) * (D : Rat) / ((r : Rat) * (r : Rat))) ≤ 8 := ql_div l2 l4 (by omega) (by omega)
  have L5 := hidP l5
  have A6 := hidP (fun (u : World) (b1 : Bool) (a1 d1 : Option Addr) (n1 c1 m1 k1 : Nat) (t1 : Fq u b1 a1 n1 c1 d1 m1 k1 (((65025 : Int) : Rat) * (D : Rat) / ((r : Rat) * (r : Rat))) 8) => (by have := gq_Floor t1 (by omega); rw [hfl] at this; exact this : Calls Tryz.prog 32 #[.agg #[.bool b1, .slice a1 n1 c1, .slice d1 m1 k1]] u (RetW u ((ff : Nat) : Int))))
  have hdf : dl ff ≤ 8 := by have := ql_floor l5; rw [hfl] at this; simpa using this
  generalize ((65025 : Int) : Rat) * (D : Rat) / ((r : Rat) * (r : Rat)) = qq at *
  generalize ((65025 : Int) : Rat) * (D : Rat) = qa at *
  generalize (r : Rat) * (r : Rat) = qb at *
  generalize ((65025 : Int) : Rat) = q0 at *
  generalize (D : Rat) = qd at *
  have hsq : isq ff ≤ ff := isq_self ff
  have hdq : dl (isq ff) ≤ 8 := Nat.le_trans (dl_mono hsq) hdf
  have HR : Hid (rr = 255) := hidP (by rw [hrd]; omega)
  have hc : cmpI (isq ff) 255 = 1 := by rcases cmpI_cases (isq ff) 255 with h | h; exact h.2; omega
  have A7 := hidP (fun (u : World) (a1 a2 : Option Addr) (n1 c1 n2 c2 : Nat) (t1 : Nc u a1 n1 c1 (isq ff)) (t2 : Nc u a2 n2 c2 255) => (by have := d_Cmp (t1.nu (by omega)) (t2.nu (Nat.le_trans (dl_small (by decide)) (by omega))); rw [hc] at this; exact this : Calls Tryz.prog 33 #[.slice a1 n1 c1, .slice a2 n2 c2] u fun e w' => e = .returned (.int .i64 (1)) ∧ Ext u w'))
  clear hc hrd hq
  clear hp hf l0 l1 l2 l3 l4 l5 hfl hsq hD0
  generalize (r : Rat) = qr at *
  have HDQ := hidP hdq; have HDF := hidP hdf
  clear hdq hdf
  go_enter Tryz.func15, Tryz.ntmps15
  go_wp2_with fail
  refine wp_region_plan (R := Ext) (.q 0 (.q 1 (.q 2 (.q 3 (.q 4 (.q 5 (.q 6 (.q 7 (.q 8 (.q 9 (.q 10 (.q 11 (.q 12 (.q 13 .done)))))))))))))) (by kernel_rfl) (by kernel_rfl) (by kernel_rfl) (by kernel_rfl) Ext.refl (fun _ _ _ => Ext.trans) ?_
  refine absE (fun x1 hx1 => ?_)
  have hx : Ext w x1 := by rw [hx1]; exact (((Ext.refl _).alloc _).alloc _).drew
  have bp : Bl x1 (w.heap.size) #[.int .i64 k, .int .u8 (r0 : Int), .int .u8 (g0 : Int), .int .u8 (b0 : Int), .int .u8 (a0 : Int), .int .u8 (r1 : Int), .int .u8 (g1 : Int), .int .u8 (b1 : Int), .int .u8 (a1 : Int), .int .i64 px, .int .i64 py, .int .i64 qx, .int .i64 qy, .int .i64 r, .int .i64 ux, .int .i64 uy, .int .i64 vx, .int .i64 vy, .int .i64 x, .int .i64 y, .slice a n c, .bool s] := by rw [hx1]; exact ((Bl.new (by simp)).alloc (by simp)).drew
  have bz : Bl x1 (w.heap.size + 1) #[.int .i64 ax, .int .i64 ay] := by rw [hx1]; exact (Bl.new (by simp)).drew
  have HE := hx
  clear hx
  clear hx1
  repeat (refine wpE_q (v := ?_) rfl rfl (fun u hu => ?_) ?_; rotate_left 1; (focus (have kp := Bl.ext hu bp (Nat.succ_pos _); have kz := Bl.ext hu bz (Nat.succ_pos _); have r1 := W1.out; have r2 := W2.out; go_simp; (try rfl))); simp only [Act.put, List.setIfInBounds_toArray, List.set_cons_zero, List.set_cons_succ])
  refine wpE_done ?_
  clear W1 W2
  go_upto_region 3 with fail
  go_cut [7] (fun v7 wx => ∃ g7 a3 n3 c3 d3 m3 k3, v7 = .pointer (some ⟨g7, 0, none⟩) ∧ Bl wx g7 #[.bool (decide (qq.num < 0)), .slice a3 n3 c3, .slice d3 m3 k3] ∧ Nc wx a3 n3 c3 qq.num.natAbs ∧ Nc wx d3 m3 k3 qq.den ∧ Ext w wx)
  case first =>
    go_wp2_with fail
    have lop := bp.lt (Nat.succ_pos _)
    have loz := bz.lt (Nat.succ_pos _)
    have hlo : x1.heap.size ≤ x1.heap.size := Nat.le_refl _
    refine wp_region_plan (R := Below x1.heap.size) (.q 1 (.q 2 (.q 3 (.q 4 (.q 7 (.q 8 (.q 10 (.q 11 (.br 0 (.br 5 (.br 6 (.br 9 (.br 12 (.br 13 (.br 14 (.q 15 (.q 16 (.q 17 (.l 18 (.l 19 (.q 20 .done)))))) (.l 18 (.l 14 (.q 15 (.q 16 (.q 17 (.l 19 (.q 20 .done)))))))) (.l 18 (.l 13 (.l 14 (.q 15 (.q 16 (.q 17 (.l 19 (.q 20 .done))))))))) (.l 18 (.l 12 (.l 13 (.l 14 (.q 15 (.q 16 (.q 17 (.l 19 (.q 20 .done)))))))))) (.l 18 (.l 9 (.l 12 (.l 13 (.l 14 (.q 15 (.q 16 (.q 17 (.l 19 (.q 20 .done))))))))))) (.l 18 (.l 6 (.l 9 (.l 12 (.l 13 (.l 14 (.q 15 (.q 16 (.q 17 (.l 19 (.q 20 .done)))))))))))) (.l 18 (.l 5 (.l 6 (.l 9 (.l 12 (.l 13 (.l 14 (.q 15 (.q 16 (.q 17 (.l 19 (.q 20 .done))))))))))))) (.l 18 (.l 0 (.l 5 (.l 6 (.l 9 (.l 12 (.l 13 (.l 14 (.q 15 (.q 16 (.q 17 (.l 19 (.q 20 .done)))))))))))))))))))))) (by kernel_rfl) (by kernel_rfl) (by kernel_rfl) (by kernel_rfl) (Below.refl _) (fun _ _ _ => Below.trans) ?_
    refine absE (fun x2 hx2 => ?_)
    have hx : Ext x1 x2 := by rw [hx2]; exact (Ext.refl _).drew
    replace hlo := Nat.le_trans hlo hx.size
    replace bp := Bl.ext hx bp (Nat.succ_pos _)
    replace bz := Bl.ext hx bz (Nat.succ_pos _)
    replace HE := HE.trans hx
    clear hx
    clear hx2
    repeat (refine wpE_q (v := ?_) rfl rfl (fun u hu => ?_) ?_; rotate_left 1; (focus (have kp := Bl.low hu bp lop; have kz := Bl.low hu bz loz; go_simp; (try rfl))); simp only [Act.put, List.setIfInBounds_toArray, List.set_cons_zero, List.set_cons_succ])
    refine wpE_br rfl rfl (fun K hK => ?_) ?_
    · go_simp
      refine (A0.out _).mono ?_
      rintro e u0 ⟨a0, n0, c0, d0, m0, k0, rfl, hs0, ht0, hx⟩
      refine hK.out _ _ (Below.mono hx hlo) ?_
      clear hK K
      try simp only [Act.put, List.setIfInBounds_toArray, List.set_cons_zero, List.set_cons_succ]
      replace hlo := Nat.le_trans hlo hx.size
      replace bp := Bl.ext hx bp (Nat.succ_pos _)
      replace bz := Bl.ext hx bz (Nat.succ_pos _)
      replace HE := HE.trans hx
      clear hx
      replace hs0 : Nc u0 a0 n0 c0 (q0.num).natAbs := hs0
      replace ht0 : Nc u0 d0 m0 k0 (q0.den) := ht0
      refine wpE_br rfl rfl (fun K hK => ?_) ?_
      · go_simp
        refine (A1.out _).mono ?_
        rintro e u5 ⟨a5, n5, c5, d5, m5, k5, rfl, hs5, ht5, hx⟩
        refine hK.out _ _ (Below.mono hx hlo) ?_
        clear hK K
        try simp only [Act.put, List.setIfInBounds_toArray, List.set_cons_zero, List.set_cons_succ]
        replace hlo := Nat.le_trans hlo hx.size
        replace bp := Bl.ext hx bp (Nat.succ_pos _)
        replace bz := Bl.ext hx bz (Nat.succ_pos _)
        replace hs0 := hs0.ext hx
        replace ht0 := ht0.ext hx
        replace HE := HE.trans hx
        clear hx
        replace hs5 : Nc u5 a5 n5 c5 (qd.num).natAbs := hs5
        replace ht5 : Nc u5 d5 m5 k5 (qd.den) := ht5
        refine wpE_br rfl rfl (fun K hK => ?_) ?_
        · go_simp
          refine (A2.out _ _ _ _ _ _ _ _ _ _ _ _ _ _ _ (fq_of hs0 ht0 L0.out (by omega)) (fq_of hs5 ht5 L1.out (by omega))).mono ?_
          rintro e u6 ⟨a6, n6, c6, d6, m6, k6, rfl, hs6, ht6, hx⟩
          refine hK.out _ _ (Below.mono hx hlo) ?_
          clear hK K
          try simp only [Act.put, List.setIfInBounds_toArray, List.set_cons_zero, List.set_cons_succ]
          replace hlo := Nat.le_trans hlo hx.size
          replace bp := Bl.ext hx bp (Nat.succ_pos _)
          replace bz := Bl.ext hx bz (Nat.succ_pos _)
          replace hs0 := hs0.ext hx
          replace ht0 := ht0.ext hx
          replace hs5 := hs5.ext hx
          replace ht5 := ht5.ext hx
          replace HE := HE.trans hx
          clear hx
          replace hs6 : Nc u6 a6 n6 c6 (qa.num).natAbs := hs6
          replace ht6 : Nc u6 d6 m6 k6 (qa.den) := ht6
          refine wpE_br rfl rfl (fun K hK => ?_) ?_
          · go_simp
            refine (A3.out _).mono ?_
            rintro e u9 ⟨a9, n9, c9, d9, m9, k9, rfl, hs9, ht9, hx⟩
            refine hK.out _ _ (Below.mono hx hlo) ?_
            clear hK K
            try simp only [Act.put, List.setIfInBounds_toArray, List.set_cons_zero, List.set_cons_succ]
            replace hlo := Nat.le_trans hlo hx.size
            replace bp := Bl.ext hx bp (Nat.succ_pos _)
            replace bz := Bl.ext hx bz (Nat.succ_pos _)
            replace hs0 := hs0.ext hx
            replace ht0 := ht0.ext hx
            replace hs5 := hs5.ext hx
            replace ht5 := ht5.ext hx
            replace hs6 := hs6.ext hx
            replace ht6 := ht6.ext hx
            replace HE := HE.trans hx
            clear hx
            replace hs9 : Nc u9 a9 n9 c9 (qr.num).natAbs := hs9
            replace ht9 : Nc u9 d9 m9 k9 (qr.den) := ht9
            refine wpE_br rfl rfl (fun K hK => ?_) ?_
            · go_simp
              refine (A3.out _).mono ?_
              rintro e u12 ⟨a12, n12, c12, d12, m12, k12, rfl, hs12, ht12, hx⟩
              refine hK.out _ _ (Below.mono hx hlo) ?_
              clear hK K
              try simp only [Act.put, List.setIfInBounds_toArray, List.set_cons_zero, List.set_cons_succ]
              replace hlo := Nat.le_trans hlo hx.size
              replace bp := Bl.ext hx bp (Nat.succ_pos _)
              replace bz := Bl.ext hx bz (Nat.succ_pos _)
              replace hs0 := hs0.ext hx
              replace ht0 := ht0.ext hx
              replace hs5 := hs5.ext hx
              replace ht5 := ht5.ext hx
              replace hs6 := hs6.ext hx
              replace ht6 := ht6.ext hx
              replace hs9 := hs9.ext hx
              replace ht9 := ht9.ext hx
              replace HE := HE.trans hx
              clear hx
              replace hs12 : Nc u12 a12 n12 c12 (qr.num).natAbs := hs12
              replace ht12 : Nc u12 d12 m12 k12 (qr.den) := ht12
              refine wpE_br rfl rfl (fun K hK => ?_) ?_
              · go_simp
                refine (A4.out _ _ _ _ _ _ _ _ _ _ _ _ _ _ _ (fq_of hs9 ht9 L3.out (by omega)) (fq_of hs12 ht12 L3.out (by omega))).mono ?_
                rintro e u13 ⟨a13, n13, c13, d13, m13, k13, rfl, hs13, ht13, hx⟩
                refine hK.out _ _ (Below.mono hx hlo) ?_
                clear hK K
                try simp only [Act.put, List.setIfInBounds_toArray, List.set_cons_zero, List.set_cons_succ]
                replace hlo := Nat.le_trans hlo hx.size
                replace bp := Bl.ext hx bp (Nat.succ_pos _)
                replace bz := Bl.ext hx bz (Nat.succ_pos _)
                replace hs0 := hs0.ext hx
                replace ht0 := ht0.ext hx
                replace hs5 := hs5.ext hx
                replace ht5 := ht5.ext hx
                replace hs6 := hs6.ext hx
                replace ht6 := ht6.ext hx
                replace hs9 := hs9.ext hx
                replace ht9 := ht9.ext hx
                replace hs12 := hs12.ext hx
                replace ht12 := ht12.ext hx
                replace HE := HE.trans hx
                clear hx
                replace hs13 : Nc u13 a13 n13 c13 (qb.num).natAbs := hs13
                replace ht13 : Nc u13 d13 m13 k13 (qb.den) := ht13
                refine wpE_br rfl rfl (fun K hK => ?_) ?_
                · go_simp
                  refine (A5.out _ _ _ _ _ _ _ _ _ _ _ _ _ _ _ (fq_of hs6 ht6 L2.out (by omega)) (fq_of hs13 ht13 L4.out (by omega))).mono ?_
                  rintro e u14 ⟨a14, n14, c14, d14, m14, k14, rfl, hs14, ht14, hx⟩
                  refine hK.out _ _ (Below.mono hx hlo) ?_
                  clear hK K
                  try simp only [Act.put, List.setIfInBounds_toArray, List.set_cons_zero, List.set_cons_succ]
                  replace hlo := Nat.le_trans hlo hx.size
                  replace bp := Bl.ext hx bp (Nat.succ_pos _)
                  replace bz := Bl.ext hx bz (Nat.succ_pos _)
                  replace hs0 := hs0.ext hx
                  replace ht0 := ht0.ext hx
                  replace hs5 := hs5.ext hx
                  replace ht5 := ht5.ext hx
                  replace hs6 := hs6.ext hx
                  replace ht6 := ht6.ext hx
                  replace hs9 := hs9.ext hx
                  replace ht9 := ht9.ext hx
                  replace hs12 := hs12.ext hx
                  replace ht12 := ht12.ext hx
                  replace hs13 := hs13.ext hx
                  replace ht13 := ht13.ext hx
                  replace HE := HE.trans hx
                  clear hx
                  replace hs14 : Nc u14 a14 n14 c14 qq.num.natAbs := hs14
                  replace ht14 : Nc u14 d14 m14 k14 qq.den := ht14
                  repeat (refine wpE_q (v := ?_) rfl rfl (fun u hu => ?_) ?_; rotate_left 1; (focus (have kp := Bl.low hu bp lop; have kz := Bl.low hu bz loz; go_simp; (try rfl))); simp only [Act.put, List.setIfInBounds_toArray, List.set_cons_zero, List.set_cons_succ])
                  refine wpE_l rfl rfl (fun K hK => ?_)
                  go_simp
                  refine hK.out _ _ ((Below.refl _ _).alloc hlo _) ?_
                  clear hK K
                  try simp only [Act.put, List.setIfInBounds_toArray, List.set_cons_zero, List.set_cons_succ]
                  have gex := hlo
                  have lpx := bp.lt (Nat.succ_pos _)
                  have lzx := bz.lt (Nat.succ_pos _)
                  have l0x := HE.size
                  refine absE (fun x3 hx3 => ?_)
                  have hx : Ext u14 x3 := by rw [hx3]; exact ((Ext.refl _).alloc _)
                  have bx : Bl x3 (u14.heap.size) #[.bool false, .slice none 0 0, .slice none 0 0] := by rw [hx3]; exact (Bl.new (by simp))
                  have fx : Fz x3 (u14.heap.size) := by rw [hx3]; exact (Fz.new (by simp))
                  replace hlo := Nat.le_trans hlo hx.size
                  replace bp := Bl.ext hx bp (Nat.succ_pos _)
                  replace bz := Bl.ext hx bz (Nat.succ_pos _)
                  replace hs0 := hs0.ext hx
                  replace ht0 := ht0.ext hx
                  replace hs5 := hs5.ext hx
                  replace ht5 := ht5.ext hx
                  replace hs6 := hs6.ext hx
                  replace ht6 := ht6.ext hx
                  replace hs9 := hs9.ext hx
                  replace ht9 := ht9.ext hx
                  replace hs12 := hs12.ext hx
                  replace ht12 := ht12.ext hx
                  replace hs13 := hs13.ext hx
                  replace ht13 := ht13.ext hx
                  replace hs14 := hs14.ext hx
                  replace ht14 := ht14.ext hx
                  replace HE := HE.trans hx
                  clear hx
                  clear hx3
                  refine wpE_l rfl rfl (fun K hK => ?_)
                  go_simp
                  refine hK.out _ _ ((((Below.refl _ _).setCell (by show x1.heap.size ≤ u14.heap.size; omega) _).setCell (by show x1.heap.size ≤ u14.heap.size; omega) _).setCell (by show x1.heap.size ≤ u14.heap.size; omega) _) ?_
                  clear hK K
                  try simp only [Act.put, List.setIfInBounds_toArray, List.set_cons_zero, List.set_cons_succ]
                  refine absE (fun x4 hx4 => ?_)
                  have hbut : But x3 x4 (u14.heap.size) := by rw [hx4]; exact (But.refl _ _).store.store.store
                  have hbn : Bl x4 (u14.heap.size) #[.bool (decide (qq.num < 0)), .slice a14 n14 c14, .slice d14 m14 k14] := by rw [hx4]; exact (Bl.set (Bl.set (Bl.set bx (by simp)) (by simp)) (by simp))
                  replace hs0 := hs0.but bx (not_ints3 nb_bool nb_slice nb_slice) hbut
                  replace ht0 := ht0.but bx (not_ints3 nb_bool nb_slice nb_slice) hbut
                  replace hs5 := hs5.but bx (not_ints3 nb_bool nb_slice nb_slice) hbut
                  replace ht5 := ht5.but bx (not_ints3 nb_bool nb_slice nb_slice) hbut
                  replace hs6 := hs6.but bx (not_ints3 nb_bool nb_slice nb_slice) hbut
                  replace ht6 := ht6.but bx (not_ints3 nb_bool nb_slice nb_slice) hbut
                  replace hs9 := hs9.but bx (not_ints3 nb_bool nb_slice nb_slice) hbut
                  replace ht9 := ht9.but bx (not_ints3 nb_bool nb_slice nb_slice) hbut
                  replace hs12 := hs12.but bx (not_ints3 nb_bool nb_slice nb_slice) hbut
                  replace ht12 := ht12.but bx (not_ints3 nb_bool nb_slice nb_slice) hbut
                  replace hs13 := hs13.but bx (not_ints3 nb_bool nb_slice nb_slice) hbut
                  replace ht13 := ht13.but bx (not_ints3 nb_bool nb_slice nb_slice) hbut
                  replace hs14 := hs14.but bx (not_ints3 nb_bool nb_slice nb_slice) hbut
                  replace ht14 := ht14.but bx (not_ints3 nb_bool nb_slice nb_slice) hbut
                  replace bp := But.bl hbut bp (Nat.succ_pos _) (by omega)
                  replace bz := But.bl hbut bz (Nat.succ_pos _) (by omega)
                  replace fx : Fz x4 (u14.heap.size) := by rw [hx4]; exact (Fz.set (Fz.set (Fz.set fx)))
                  replace HE : Ext w x4 := by rw [hx4]; exact (((HE.store (by show w.heap.size ≤ u14.heap.size; omega) _).store (by show w.heap.size ≤ u14.heap.size; omega) _).store (by show w.heap.size ≤ u14.heap.size; omega) _)
                  replace hlo : x1.heap.size ≤ x4.heap.size := Nat.le_trans hlo hbut.1
                  clear bx hbut hx4
                  have bx := hbn
                  clear hbn
                  repeat (refine wpE_q (v := ?_) rfl rfl (fun u hu => ?_) ?_; rotate_left 1; (focus (have kp := Bl.low hu bp lop; have kz := Bl.low hu bz loz; go_simp; (try rfl))); simp only [Act.put, List.setIfInBounds_toArray, List.set_cons_zero, List.set_cons_succ])
                  refine wpE_done ?_
                  clear hlo
                  go_wp2_with fail
                  go_meet
                  exact ⟨_, _, _, _, _, _, _, rfl, bx, hs14, ht14, HE⟩
                · refine wpE_l rfl rfl (fun K hK => ?_)
                  go_simp
                  refine hK.out _ _ ((Below.refl _ _).alloc hlo _) ?_
                  clear hK K
                  try simp only [Act.put, List.setIfInBounds_toArray, List.set_cons_zero, List.set_cons_succ]
                  have gex := hlo
                  have lpx := bp.lt (Nat.succ_pos _)
                  have lzx := bz.lt (Nat.succ_pos _)
                  have l0x := HE.size
                  refine absE (fun x3 hx3 => ?_)
                  have hx : Ext u13 x3 := by rw [hx3]; exact ((Ext.refl _).alloc _)
                  have bx : Bl x3 (u13.heap.size) #[.bool false, .slice none 0 0, .slice none 0 0] := by rw [hx3]; exact (Bl.new (by simp))
                  have fx : Fz x3 (u13.heap.size) := by rw [hx3]; exact (Fz.new (by simp))
                  replace hlo := Nat.le_trans hlo hx.size
                  replace bp := Bl.ext hx bp (Nat.succ_pos _)
                  replace bz := Bl.ext hx bz (Nat.succ_pos _)
                  replace hs0 := hs0.ext hx
                  replace ht0 := ht0.ext hx
                  replace hs5 := hs5.ext hx
                  replace ht5 := ht5.ext hx
                  replace hs6 := hs6.ext hx
                  replace ht6 := ht6.ext hx
                  replace hs9 := hs9.ext hx
                  replace ht9 := ht9.ext hx
                  replace hs12 := hs12.ext hx
                  replace ht12 := ht12.ext hx
                  replace hs13 := hs13.ext hx
                  replace ht13 := ht13.ext hx
                  replace HE := HE.trans hx
                  clear hx
                  clear hx3
                  refine wpE_l rfl rfl (fun K hK => ?_)
                  go_simp
                  refine (A5.out _ _ _ _ _ _ _ _ _ _ _ _ _ _ _ (fq_of hs6 ht6 L2.out (by omega)) (fq_of hs13 ht13 L4.out (by omega))).mono ?_
                  rintro e u14 ⟨a14, n14, c14, d14, m14, k14, rfl, hs14, ht14, hx⟩
                  refine hK.out _ _ (Below.mono hx hlo) ?_
                  clear hK K
                  try simp only [Act.put, List.setIfInBounds_toArray, List.set_cons_zero, List.set_cons_succ]
                  replace hlo := Nat.le_trans hlo hx.size
                  replace bp := Bl.ext hx bp (Nat.succ_pos _)
                  replace bz := Bl.ext hx bz (Nat.succ_pos _)
                  replace fx := Fz.ext hx fx bx (Nat.succ_pos _)
                  replace bx := Bl.ext hx bx (Nat.succ_pos _)
                  replace hs0 := hs0.ext hx
                  replace ht0 := ht0.ext hx
                  replace hs5 := hs5.ext hx
                  replace ht5 := ht5.ext hx
                  replace hs6 := hs6.ext hx
                  replace ht6 := ht6.ext hx
                  replace hs9 := hs9.ext hx
                  replace ht9 := ht9.ext hx
                  replace hs12 := hs12.ext hx
                  replace ht12 := ht12.ext hx
                  replace hs13 := hs13.ext hx
                  replace ht13 := ht13.ext hx
                  replace HE := HE.trans hx
                  clear hx
                  replace hs14 : Nc u14 a14 n14 c14 qq.num.natAbs := hs14
                  replace ht14 : Nc u14 d14 m14 k14 qq.den := ht14
                  repeat (refine wpE_q (v := ?_) rfl rfl (fun u hu => ?_) ?_; rotate_left 1; (focus (have kp := Bl.low hu bp lop; have kz := Bl.low hu bz loz; go_simp; (try rfl))); simp only [Act.put, List.setIfInBounds_toArray, List.set_cons_zero, List.set_cons_succ])
                  refine wpE_l rfl rfl (fun K hK => ?_)
                  go_simp
                  refine hK.out _ _ ((((Below.refl _ _).setCell (by show x1.heap.size ≤ u13.heap.size; omega) _).setCell (by show x1.heap.size ≤ u13.heap.size; omega) _).setCell (by show x1.heap.size ≤ u13.heap.size; omega) _) ?_
                  clear hK K
                  try simp only [Act.put, List.setIfInBounds_toArray, List.set_cons_zero, List.set_cons_succ]
                  refine absE (fun x4 hx4 => ?_)
                  have hbut : But u14 x4 (u13.heap.size) := by rw [hx4]; exact (But.refl _ _).store.store.store
                  have hbn : Bl x4 (u13.heap.size) #[.bool (decide (qq.num < 0)), .slice a14 n14 c14, .slice d14 m14 k14] := by rw [hx4]; exact (Bl.set (Bl.set (Bl.set bx (by simp)) (by simp)) (by simp))
                  replace hs0 := hs0.but bx (not_ints3 nb_bool nb_slice nb_slice) hbut
                  replace ht0 := ht0.but bx (not_ints3 nb_bool nb_slice nb_slice) hbut
                  replace hs5 := hs5.but bx (not_ints3 nb_bool nb_slice nb_slice) hbut
                  replace ht5 := ht5.but bx (not_ints3 nb_bool nb_slice nb_slice) hbut
                  replace hs6 := hs6.but bx (not_ints3 nb_bool nb_slice nb_slice) hbut
                  replace ht6 := ht6.but bx (not_ints3 nb_bool nb_slice nb_slice) hbut
                  replace hs9 := hs9.but bx (not_ints3 nb_bool nb_slice nb_slice) hbut
                  replace ht9 := ht9.but bx (not_ints3 nb_bool nb_slice nb_slice) hbut
                  replace hs12 := hs12.but bx (not_ints3 nb_bool nb_slice nb_slice) hbut
                  replace ht12 := ht12.but bx (not_ints3 nb_bool nb_slice nb_slice) hbut
                  replace hs13 := hs13.but bx (not_ints3 nb_bool nb_slice nb_slice) hbut
                  replace ht13 := ht13.but bx (not_ints3 nb_bool nb_slice nb_slice) hbut
                  replace hs14 := hs14.but bx (not_ints3 nb_bool nb_slice nb_slice) hbut
                  replace ht14 := ht14.but bx (not_ints3 nb_bool nb_slice nb_slice) hbut
                  replace bp := But.bl hbut bp (Nat.succ_pos _) (by omega)
                  replace bz := But.bl hbut bz (Nat.succ_pos _) (by omega)
                  replace fx : Fz x4 (u13.heap.size) := by rw [hx4]; exact (Fz.set (Fz.set (Fz.set fx)))
                  replace HE : Ext w x4 := by rw [hx4]; exact (((HE.store (by show w.heap.size ≤ u13.heap.size; omega) _).store (by show w.heap.size ≤ u13.heap.size; omega) _).store (by show w.heap.size ≤ u13.heap.size; omega) _)
                  replace hlo : x1.heap.size ≤ x4.heap.size := Nat.le_trans hlo hbut.1
                  clear bx hbut hx4
                  have bx := hbn
                  clear hbn
                  repeat (refine wpE_q (v := ?_) rfl rfl (fun u hu => ?_) ?_; rotate_left 1; (focus (have kp := Bl.low hu bp lop; have kz := Bl.low hu bz loz; go_simp; (try rfl))); simp only [Act.put, List.setIfInBounds_toArray, List.set_cons_zero, List.set_cons_succ])
                  refine wpE_done ?_
                  clear hlo
                  go_wp2_with fail
                  go_meet
                  exact ⟨_, _, _, _, _, _, _, rfl, bx, hs14, ht14, HE⟩
              · refine wpE_l rfl rfl (fun K hK => ?_)
                go_simp
                refine hK.out _ _ ((Below.refl _ _).alloc hlo _) ?_
                clear hK K
                try simp only [Act.put, List.setIfInBounds_toArray, List.set_cons_zero, List.set_cons_succ]
                have gex := hlo
                have lpx := bp.lt (Nat.succ_pos _)
                have lzx := bz.lt (Nat.succ_pos _)
                have l0x := HE.size
                refine absE (fun x3 hx3 => ?_)
                have hx : Ext u12 x3 := by rw [hx3]; exact ((Ext.refl _).alloc _)
                have bx : Bl x3 (u12.heap.size) #[.bool false, .slice none 0 0, .slice none 0 0] := by rw [hx3]; exact (Bl.new (by simp))
                have fx : Fz x3 (u12.heap.size) := by rw [hx3]; exact (Fz.new (by simp))
                replace hlo := Nat.le_trans hlo hx.size
                replace bp := Bl.ext hx bp (Nat.succ_pos _)
                replace bz := Bl.ext hx bz (Nat.succ_pos _)
                replace hs0 := hs0.ext hx
                replace ht0 := ht0.ext hx
                replace hs5 := hs5.ext hx
                replace ht5 := ht5.ext hx
                replace hs6 := hs6.ext hx
                replace ht6 := ht6.ext hx
                replace hs9 := hs9.ext hx
                replace ht9 := ht9.ext hx
                replace hs12 := hs12.ext hx
                replace ht12 := ht12.ext hx
                replace HE := HE.trans hx
                clear hx
                clear hx3
                refine wpE_l rfl rfl (fun K hK => ?_)
                go_simp
                refine (A4.out _ _ _ _ _ _ _ _ _ _ _ _ _ _ _ (fq_of hs9 ht9 L3.out (by omega)) (fq_of hs12 ht12 L3.out (by omega))).mono ?_
                rintro e u13 ⟨a13, n13, c13, d13, m13, k13, rfl, hs13, ht13, hx⟩
                refine hK.out _ _ (Below.mono hx hlo) ?_
                clear hK K
                try simp only [Act.put, List.setIfInBounds_toArray, List.set_cons_zero, List.set_cons_succ]
                replace hlo := Nat.le_trans hlo hx.size
                replace bp := Bl.ext hx bp (Nat.succ_pos _)
                replace bz := Bl.ext hx bz (Nat.succ_pos _)
                replace fx := Fz.ext hx fx bx (Nat.succ_pos _)
                replace bx := Bl.ext hx bx (Nat.succ_pos _)
                replace hs0 := hs0.ext hx
                replace ht0 := ht0.ext hx
                replace hs5 := hs5.ext hx
                replace ht5 := ht5.ext hx
                replace hs6 := hs6.ext hx
                replace ht6 := ht6.ext hx
                replace hs9 := hs9.ext hx
                replace ht9 := ht9.ext hx
                replace hs12 := hs12.ext hx
                replace ht12 := ht12.ext hx
                replace HE := HE.trans hx
                clear hx
                replace hs13 : Nc u13 a13 n13 c13 (qb.num).natAbs := hs13
                replace ht13 : Nc u13 d13 m13 k13 (qb.den) := ht13
                refine wpE_l rfl rfl (fun K hK => ?_)
                go_simp
                refine (A5.out _ _ _ _ _ _ _ _ _ _ _ _ _ _ _ (fq_of hs6 ht6 L2.out (by omega)) (fq_of hs13 ht13 L4.out (by omega))).mono ?_
                rintro e u14 ⟨a14, n14, c14, d14, m14, k14, rfl, hs14, ht14, hx⟩
                refine hK.out _ _ (Below.mono hx hlo) ?_
                clear hK K
                try simp only [Act.put, List.setIfInBounds_toArray, List.set_cons_zero, List.set_cons_succ]
                replace hlo := Nat.le_trans hlo hx.size
                replace bp := Bl.ext hx bp (Nat.succ_pos _)
                replace bz := Bl.ext hx bz (Nat.succ_pos _)
                replace fx := Fz.ext hx fx bx (Nat.succ_pos _)
                replace bx := Bl.ext hx bx (Nat.succ_pos _)
                replace hs0 := hs0.ext hx
                replace ht0 := ht0.ext hx
                replace hs5 := hs5.ext hx
                replace ht5 := ht5.ext hx
                replace hs6 := hs6.ext hx
                replace ht6 := ht6.ext hx
                replace hs9 := hs9.ext hx
                replace ht9 := ht9.ext hx
                replace hs12 := hs12.ext hx
                replace ht12 := ht12.ext hx
                replace hs13 := hs13.ext hx
                replace ht13 := ht13.ext hx
                replace HE := HE.trans hx
                clear hx
                replace hs14 : Nc u14 a14 n14 c14 qq.num.natAbs := hs14
                replace ht14 : Nc u14 d14 m14 k14 qq.den := ht14
                repeat (refine wpE_q (v := ?_) rfl rfl (fun u hu => ?_) ?_; rotate_left 1; (focus (have kp := Bl.low hu bp lop; have kz := Bl.low hu bz loz; go_simp; (try rfl))); simp only [Act.put, List.setIfInBounds_toArray, List.set_cons_zero, List.set_cons_succ])
                refine wpE_l rfl rfl (fun K hK => ?_)
                go_simp
                refine hK.out _ _ ((((Below.refl _ _).setCell (by show x1.heap.size ≤ u12.heap.size; omega) _).setCell (by show x1.heap.size ≤ u12.heap.size; omega) _).setCell (by show x1.heap.size ≤ u12.heap.size; omega) _) ?_
                clear hK K
                try simp only [Act.put, List.setIfInBounds_toArray, List.set_cons_zero, List.set_cons_succ]
                refine absE (fun x4 hx4 => ?_)
                have hbut : But u14 x4 (u12.heap.size) := by rw [hx4]; exact (But.refl _ _).store.store.store
                have hbn : Bl x4 (u12.heap.size) #[.bool (decide (qq.num < 0)), .slice a14 n14 c14, .slice d14 m14 k14] := by rw [hx4]; exact (Bl.set (Bl.set (Bl.set bx (by simp)) (by simp)) (by simp))
                replace hs0 := hs0.but bx (not_ints3 nb_bool nb_slice nb_slice) hbut
                replace ht0 := ht0.but bx (not_ints3 nb_bool nb_slice nb_slice) hbut
                replace hs5 := hs5.but bx (not_ints3 nb_bool nb_slice nb_slice) hbut
                replace ht5 := ht5.but bx (not_ints3 nb_bool nb_slice nb_slice) hbut
                replace hs6 := hs6.but bx (not_ints3 nb_bool nb_slice nb_slice) hbut
                replace ht6 := ht6.but bx (not_ints3 nb_bool nb_slice nb_slice) hbut
                replace hs9 := hs9.but bx (not_ints3 nb_bool nb_slice nb_slice) hbut
                replace ht9 := ht9.but bx (not_ints3 nb_bool nb_slice nb_slice) hbut
                replace hs12 := hs12.but bx (not_ints3 nb_bool nb_slice nb_slice) hbut
                replace ht12 := ht12.but bx (not_ints3 nb_bool nb_slice nb_slice) hbut
                replace hs13 := hs13.but bx (not_ints3 nb_bool nb_slice nb_slice) hbut
                replace ht13 := ht13.but bx (not_ints3 nb_bool nb_slice nb_slice) hbut
                replace hs14 := hs14.but bx (not_ints3 nb_bool nb_slice nb_slice) hbut
                replace ht14 := ht14.but bx (not_ints3 nb_bool nb_slice nb_slice) hbut
                replace bp := But.bl hbut bp (Nat.succ_pos _) (by omega)
                replace bz := But.bl hbut bz (Nat.succ_pos _) (by omega)
                replace fx : Fz x4 (u12.heap.size) := by rw [hx4]; exact (Fz.set (Fz.set (Fz.set fx)))
                replace HE : Ext w x4 := by rw [hx4]; exact (((HE.store (by show w.heap.size ≤ u12.heap.size; omega) _).store (by show w.heap.size ≤ u12.heap.size; omega) _).store (by show w.heap.size ≤ u12.heap.size; omega) _)
                replace hlo : x1.heap.size ≤ x4.heap.size := Nat.le_trans hlo hbut.1
                clear bx hbut hx4
                have bx := hbn
                clear hbn
                repeat (refine wpE_q (v := ?_) rfl rfl (fun u hu => ?_) ?_; rotate_left 1; (focus (have kp := Bl.low hu bp lop; have kz := Bl.low hu bz loz; go_simp; (try rfl))); simp only [Act.put, List.setIfInBounds_toArray, List.set_cons_zero, List.set_cons_succ])
                refine wpE_done ?_
                clear hlo
                go_wp2_with fail
                go_meet
                exact ⟨_, _, _, _, _, _, _, rfl, bx, hs14, ht14, HE⟩
            · refine wpE_l rfl rfl (fun K hK => ?_)
              go_simp
              refine hK.out _ _ ((Below.refl _ _).alloc hlo _) ?_
              clear hK K
              try simp only [Act.put, List.setIfInBounds_toArray, List.set_cons_zero, List.set_cons_succ]
              have gex := hlo
              have lpx := bp.lt (Nat.succ_pos _)
              have lzx := bz.lt (Nat.succ_pos _)
              have l0x := HE.size
              refine absE (fun x3 hx3 => ?_)
              have hx : Ext u9 x3 := by rw [hx3]; exact ((Ext.refl _).alloc _)
              have bx : Bl x3 (u9.heap.size) #[.bool false, .slice none 0 0, .slice none 0 0] := by rw [hx3]; exact (Bl.new (by simp))
              have fx : Fz x3 (u9.heap.size) := by rw [hx3]; exact (Fz.new (by simp))
              replace hlo := Nat.le_trans hlo hx.size
              replace bp := Bl.ext hx bp (Nat.succ_pos _)
              replace bz := Bl.ext hx bz (Nat.succ_pos _)
              replace hs0 := hs0.ext hx
              replace ht0 := ht0.ext hx
              replace hs5 := hs5.ext hx
              replace ht5 := ht5.ext hx
              replace hs6 := hs6.ext hx
              replace ht6 := ht6.ext hx
              replace hs9 := hs9.ext hx
              replace ht9 := ht9.ext hx
              replace HE := HE.trans hx
              clear hx
              clear hx3
              refine wpE_l rfl rfl (fun K hK => ?_)
              go_simp
              refine (A3.out _).mono ?_
              rintro e u12 ⟨a12, n12, c12, d12, m12, k12, rfl, hs12, ht12, hx⟩
              refine hK.out _ _ (Below.mono hx hlo) ?_
              clear hK K
              try simp only [Act.put, List.setIfInBounds_toArray, List.set_cons_zero, List.set_cons_succ]
              replace hlo := Nat.le_trans hlo hx.size
              replace bp := Bl.ext hx bp (Nat.succ_pos _)
              replace bz := Bl.ext hx bz (Nat.succ_pos _)
              replace fx := Fz.ext hx fx bx (Nat.succ_pos _)
              replace bx := Bl.ext hx bx (Nat.succ_pos _)
              replace hs0 := hs0.ext hx
              replace ht0 := ht0.ext hx
              replace hs5 := hs5.ext hx
              replace ht5 := ht5.ext hx
              replace hs6 := hs6.ext hx
              replace ht6 := ht6.ext hx
              replace hs9 := hs9.ext hx
              replace ht9 := ht9.ext hx
              replace HE := HE.trans hx
              clear hx
              replace hs12 : Nc u12 a12 n12 c12 (qr.num).natAbs := hs12
              replace ht12 : Nc u12 d12 m12 k12 (qr.den) := ht12
              refine wpE_l rfl rfl (fun K hK => ?_)
              go_simp
              refine (A4.out _ _ _ _ _ _ _ _ _ _ _ _ _ _ _ (fq_of hs9 ht9 L3.out (by omega)) (fq_of hs12 ht12 L3.out (by omega))).mono ?_
              rintro e u13 ⟨a13, n13, c13, d13, m13, k13, rfl, hs13, ht13, hx⟩
              refine hK.out _ _ (Below.mono hx hlo) ?_
              clear hK K
              try simp only [Act.put, List.setIfInBounds_toArray, List.set_cons_zero, List.set_cons_succ]
              replace hlo := Nat.le_trans hlo hx.size
              replace bp := Bl.ext hx bp (Nat.succ_pos _)
              replace bz := Bl.ext hx bz (Nat.succ_pos _)
              replace fx := Fz.ext hx fx bx (Nat.succ_pos _)
              replace bx := Bl.ext hx bx (Nat.succ_pos _)
              replace hs0 := hs0.ext hx
              replace ht0 := ht0.ext hx
              replace hs5 := hs5.ext hx
              replace ht5 := ht5.ext hx
              replace hs6 := hs6.ext hx
              replace ht6 := ht6.ext hx
              replace hs9 := hs9.ext hx
              replace ht9 := ht9.ext hx
              replace hs12 := hs12.ext hx
              replace ht12 := ht12.ext hx
              replace HE := HE.trans hx
              clear hx
              replace hs13 : Nc u13 a13 n13 c13 (qb.num).natAbs := hs13
              replace ht13 : Nc u13 d13 m13 k13 (qb.den) := ht13
              refine wpE_l rfl rfl (fun K hK => ?_)
              go_simp
              refine (A5.out _ _ _ _ _ _ _ _ _ _ _ _ _ _ _ (fq_of hs6 ht6 L2.out (by omega)) (fq_of hs13 ht13 L4.out (by omega))).mono ?_
              rintro e u14 ⟨a14, n14, c14, d14, m14, k14, rfl, hs14, ht14, hx⟩
              refine hK.out _ _ (Below.mono hx hlo) ?_
              clear hK K
              try simp only [Act.put, List.setIfInBounds_toArray, List.set_cons_zero, List.set_cons_succ]
              replace hlo := Nat.le_trans hlo hx.size
              replace bp := Bl.ext hx bp (Nat.succ_pos _)
              replace bz := Bl.ext hx bz (Nat.succ_pos _)
              replace fx := Fz.ext hx fx bx (Nat.succ_pos _)
              replace bx := Bl.ext hx bx (Nat.succ_pos _)
              replace hs0 := hs0.ext hx
              replace ht0 := ht0.ext hx
              replace hs5 := hs5.ext hx
              replace ht5 := ht5.ext hx
              replace hs6 := hs6.ext hx
              replace ht6 := ht6.ext hx
              replace hs9 := hs9.ext hx
              replace ht9 := ht9.ext hx
              replace hs12 := hs12.ext hx
              replace ht12 := ht12.ext hx
              replace hs13 := hs13.ext hx
              replace ht13 := ht13.ext hx
              replace HE := HE.trans hx
              clear hx
              replace hs14 : Nc u14 a14 n14 c14 qq.num.natAbs := hs14
              replace ht14 : Nc u14 d14 m14 k14 qq.den := ht14
              repeat (refine wpE_q (v := ?_) rfl rfl (fun u hu => ?_) ?_; rotate_left 1; (focus (have kp := Bl.low hu bp lop; have kz := Bl.low hu bz loz; go_simp; (try rfl))); simp only [Act.put, List.setIfInBounds_toArray, List.set_cons_zero, List.set_cons_succ])
              refine wpE_l rfl rfl (fun K hK => ?_)
              go_simp
              refine hK.out _ _ ((((Below.refl _ _).setCell (by show x1.heap.size ≤ u9.heap.size; omega) _).setCell (by show x1.heap.size ≤ u9.heap.size; omega) _).setCell (by show x1.heap.size ≤ u9.heap.size; omega) _) ?_
              clear hK K
              try simp only [Act.put, List.setIfInBounds_toArray, List.set_cons_zero, List.set_cons_succ]
              refine absE (fun x4 hx4 => ?_)
              have hbut : But u14 x4 (u9.heap.size) := by rw [hx4]; exact (But.refl _ _).store.store.store
              have hbn : Bl x4 (u9.heap.size) #[.bool (decide (qq.num < 0)), .slice a14 n14 c14, .slice d14 m14 k14] := by rw [hx4]; exact (Bl.set (Bl.set (Bl.set bx (by simp)) (by simp)) (by simp))
              replace hs0 := hs0.but bx (not_ints3 nb_bool nb_slice nb_slice) hbut
              replace ht0 := ht0.but bx (not_ints3 nb_bool nb_slice nb_slice) hbut
              replace hs5 := hs5.but bx (not_ints3 nb_bool nb_slice nb_slice) hbut
              replace ht5 := ht5.but bx (not_ints3 nb_bool nb_slice nb_slice) hbut
              replace hs6 := hs6.but bx (not_ints3 nb_bool nb_slice nb_slice) hbut
              replace ht6 := ht6.but bx (not_ints3 nb_bool nb_slice nb_slice) hbut
              replace hs9 := hs9.but bx (not_ints3 nb_bool nb_slice nb_slice) hbut
              replace ht9 := ht9.but bx (not_ints3 nb_bool nb_slice nb_slice) hbut
              replace hs12 := hs12.but bx (not_ints3 nb_bool nb_slice nb_slice) hbut
              replace ht12 := ht12.but bx (not_ints3 nb_bool nb_slice nb_slice) hbut
              replace hs13 := hs13.but bx (not_ints3 nb_bool nb_slice nb_slice) hbut
              replace ht13 := ht13.but bx (not_ints3 nb_bool nb_slice nb_slice) hbut
              replace hs14 := hs14.but bx (not_ints3 nb_bool nb_slice nb_slice) hbut
              replace ht14 := ht14.but bx (not_ints3 nb_bool nb_slice nb_slice) hbut
              replace bp := But.bl hbut bp (Nat.succ_pos _) (by omega)
              replace bz := But.bl hbut bz (Nat.succ_pos _) (by omega)
              replace fx : Fz x4 (u9.heap.size) := by rw [hx4]; exact (Fz.set (Fz.set (Fz.set fx)))
              replace HE : Ext w x4 := by rw [hx4]; exact (((HE.store (by show w.heap.size ≤ u9.heap.size; omega) _).store (by show w.heap.size ≤ u9.heap.size; omega) _).store (by show w.heap.size ≤ u9.heap.size; omega) _)
              replace hlo : x1.heap.size ≤ x4.heap.size := Nat.le_trans hlo hbut.1
              clear bx hbut hx4
              have bx := hbn
              clear hbn
              repeat (refine wpE_q (v := ?_) rfl rfl (fun u hu => ?_) ?_; rotate_left 1; (focus (have kp := Bl.low hu bp lop; have kz := Bl.low hu bz loz; go_simp; (try rfl))); simp only [Act.put, List.setIfInBounds_toArray, List.set_cons_zero, List.set_cons_succ])
              refine wpE_done ?_
              clear hlo
              go_wp2_with fail
              go_meet
              exact ⟨_, _, _, _, _, _, _, rfl, bx, hs14, ht14, HE⟩
          · refine wpE_l rfl rfl (fun K hK => ?_)
            go_simp
            refine hK.out _ _ ((Below.refl _ _).alloc hlo _) ?_
            clear hK K
            try simp only [Act.put, List.setIfInBounds_toArray, List.set_cons_zero, List.set_cons_succ]
            have gex := hlo
            have lpx := bp.lt (Nat.succ_pos _)
            have lzx := bz.lt (Nat.succ_pos _)
            have l0x := HE.size
            refine absE (fun x3 hx3 => ?_)
            have hx : Ext u6 x3 := by rw [hx3]; exact ((Ext.refl _).alloc _)
            have bx : Bl x3 (u6.heap.size) #[.bool false, .slice none 0 0, .slice none 0 0] := by rw [hx3]; exact (Bl.new (by simp))
            have fx : Fz x3 (u6.heap.size) := by rw [hx3]; exact (Fz.new (by simp))
            replace hlo := Nat.le_trans hlo hx.size
            replace bp := Bl.ext hx bp (Nat.succ_pos _)
            replace bz := Bl.ext hx bz (Nat.succ_pos _)
            replace hs0 := hs0.ext hx
            replace ht0 := ht0.ext hx
            replace hs5 := hs5.ext hx
            replace ht5 := ht5.ext hx
            replace hs6 := hs6.ext hx
            replace ht6 := ht6.ext hx
            replace HE := HE.trans hx
            clear hx
            clear hx3
            refine wpE_l rfl rfl (fun K hK => ?_)
            go_simp
            refine (A3.out _).mono ?_
            rintro e u9 ⟨a9, n9, c9, d9, m9, k9, rfl, hs9, ht9, hx⟩
            refine hK.out _ _ (Below.mono hx hlo) ?_
            clear hK K
            try simp only [Act.put, List.setIfInBounds_toArray, List.set_cons_zero, List.set_cons_succ]
            replace hlo := Nat.le_trans hlo hx.size
            replace bp := Bl.ext hx bp (Nat.succ_pos _)
            replace bz := Bl.ext hx bz (Nat.succ_pos _)
            replace fx := Fz.ext hx fx bx (Nat.succ_pos _)
            replace bx := Bl.ext hx bx (Nat.succ_pos _)
            replace hs0 := hs0.ext hx
            replace ht0 := ht0.ext hx
            replace hs5 := hs5.ext hx
            replace ht5 := ht5.ext hx
            replace hs6 := hs6.ext hx
            replace ht6 := ht6.ext hx
            replace HE := HE.trans hx
            clear hx
            replace hs9 : Nc u9 a9 n9 c9 (qr.num).natAbs := hs9
            replace ht9 : Nc u9 d9 m9 k9 (qr.den) := ht9
            refine wpE_l rfl rfl (fun K hK => ?_)
            go_simp
            refine (A3.out _).mono ?_
            rintro e u12 ⟨a12, n12, c12, d12, m12, k12, rfl, hs12, ht12, hx⟩
            refine hK.out _ _ (Below.mono hx hlo) ?_
            clear hK K
            try simp only [Act.put, List.setIfInBounds_toArray, List.set_cons_zero, List.set_cons_succ]
            replace hlo := Nat.le_trans hlo hx.size
            replace bp := Bl.ext hx bp (Nat.succ_pos _)
            replace bz := Bl.ext hx bz (Nat.succ_pos _)
            replace fx := Fz.ext hx fx bx (Nat.succ_pos _)
            replace bx := Bl.ext hx bx (Nat.succ_pos _)
            replace hs0 := hs0.ext hx
            replace ht0 := ht0.ext hx
            replace hs5 := hs5.ext hx
            replace ht5 := ht5.ext hx
            replace hs6 := hs6.ext hx
            replace ht6 := ht6.ext hx
            replace hs9 := hs9.ext hx
            replace ht9 := ht9.ext hx
            replace HE := HE.trans hx
            clear hx
            replace hs12 : Nc u12 a12 n12 c12 (qr.num).natAbs := hs12
            replace ht12 : Nc u12 d12 m12 k12 (qr.den) := ht12
            refine wpE_l rfl rfl (fun K hK => ?_)
            go_simp
            refine (A4.out _ _ _ _ _ _ _ _ _ _ _ _ _ _ _ (fq_of hs9 ht9 L3.out (by omega)) (fq_of hs12 ht12 L3.out (by omega))).mono ?_
            rintro e u13 ⟨a13, n13, c13, d13, m13, k13, rfl, hs13, ht13, hx⟩
            refine hK.out _ _ (Below.mono hx hlo) ?_
            clear hK K
            try simp only [Act.put, List.setIfInBounds_toArray, List.set_cons_zero, List.set_cons_succ]
            replace hlo := Nat.le_trans hlo hx.size
            replace bp := Bl.ext hx bp (Nat.succ_pos _)
            replace bz := Bl.ext hx bz (Nat.succ_pos _)
            replace fx := Fz.ext hx fx bx (Nat.succ_pos _)
            replace bx := Bl.ext hx bx (Nat.succ_pos _)
            replace hs0 := hs0.ext hx
            replace ht0 := ht0.ext hx
            replace hs5 := hs5.ext hx
            replace ht5 := ht5.ext hx
            replace hs6 := hs6.ext hx
            replace ht6 := ht6.ext hx
            replace hs9 := hs9.ext hx
            replace ht9 := ht9.ext hx
            replace hs12 := hs12.ext hx
            replace ht12 := ht12.ext hx
            replace HE := HE.trans hx
            clear hx
            replace hs13 : Nc u13 a13 n13 c13 (qb.num).natAbs := hs13
            replace ht13 : Nc u13 d13 m13 k13 (qb.den) := ht13
            refine wpE_l rfl rfl (fun K hK => ?_)
            go_simp
            refine (A5.out _ _ _ _ _ _ _ _ _ _ _ _ _ _ _ (fq_of hs6 ht6 L2.out (by omega)) (fq_of hs13 ht13 L4.out (by omega))).mono ?_
            rintro e u14 ⟨a14, n14, c14, d14, m14, k14, rfl, hs14, ht14, hx⟩
            refine hK.out _ _ (Below.mono hx hlo) ?_
            clear hK K
            try simp only [Act.put, List.setIfInBounds_toArray, List.set_cons_zero, List.set_cons_succ]
            replace hlo := Nat.le_trans hlo hx.size
            replace bp := Bl.ext hx bp (Nat.succ_pos _)
            replace bz := Bl.ext hx bz (Nat.succ_pos _)
            replace fx := Fz.ext hx fx bx (Nat.succ_pos _)
            replace bx := Bl.ext hx bx (Nat.succ_pos _)
            replace hs0 := hs0.ext hx
            replace ht0 := ht0.ext hx
            replace hs5 := hs5.ext hx
            replace ht5 := ht5.ext hx
            replace hs6 := hs6.ext hx
            replace ht6 := ht6.ext hx
            replace hs9 := hs9.ext hx
            replace ht9 := ht9.ext hx
            replace hs12 := hs12.ext hx
            replace ht12 := ht12.ext hx
            replace hs13 := hs13.ext hx
            replace ht13 := ht13.ext hx
            replace HE := HE.trans hx
            clear hx
            replace hs14 : Nc u14 a14 n14 c14 qq.num.natAbs := hs14
            replace ht14 : Nc u14 d14 m14 k14 qq.den := ht14
            repeat (refine wpE_q (v := ?_) rfl rfl (fun u hu => ?_) ?_; rotate_left 1; (focus (have kp := Bl.low hu bp lop; have kz := Bl.low hu bz loz; go_simp; (try rfl))); simp only [Act.put, List.setIfInBounds_toArray, List.set_cons_zero, List.set_cons_succ])
            refine wpE_l rfl rfl (fun K hK => ?_)
            go_simp
            refine hK.out _ _ ((((Below.refl _ _).setCell (by show x1.heap.size ≤ u6.heap.size; omega) _).setCell (by show x1.heap.size ≤ u6.heap.size; omega) _).setCell (by show x1.heap.size ≤ u6.heap.size; omega) _) ?_
            clear hK K
            try simp only [Act.put, List.setIfInBounds_toArray, List.set_cons_zero, List.set_cons_succ]
            refine absE (fun x4 hx4 => ?_)
            have hbut : But u14 x4 (u6.heap.size) := by rw [hx4]; exact (But.refl _ _).store.store.store
            have hbn : Bl x4 (u6.heap.size) #[.bool (decide (qq.num < 0)), .slice a14 n14 c14, .slice d14 m14 k14] := by rw [hx4]; exact (Bl.set (Bl.set (Bl.set bx (by simp)) (by simp)) (by simp))
            replace hs0 := hs0.but bx (not_ints3 nb_bool nb_slice nb_slice) hbut
            replace ht0 := ht0.but bx (not_ints3 nb_bool nb_slice nb_slice) hbut
            replace hs5 := hs5.but bx (not_ints3 nb_bool nb_slice nb_slice) hbut
            replace ht5 := ht5.but bx (not_ints3 nb_bool nb_slice nb_slice) hbut
            replace hs6 := hs6.but bx (not_ints3 nb_bool nb_slice nb_slice) hbut
            replace ht6 := ht6.but bx (not_ints3 nb_bool nb_slice nb_slice) hbut
            replace hs9 := hs9.but bx (not_ints3 nb_bool nb_slice nb_slice) hbut
            replace ht9 := ht9.but bx (not_ints3 nb_bool nb_slice nb_slice) hbut
            replace hs12 := hs12.but bx (not_ints3 nb_bool nb_slice nb_slice) hbut
            replace ht12 := ht12.but bx (not_ints3 nb_bool nb_slice nb_slice) hbut
            replace hs13 := hs13.but bx (not_ints3 nb_bool nb_slice nb_slice) hbut
            replace ht13 := ht13.but bx (not_ints3 nb_bool nb_slice nb_slice) hbut
            replace hs14 := hs14.but bx (not_ints3 nb_bool nb_slice nb_slice) hbut
            replace ht14 := ht14.but bx (not_ints3 nb_bool nb_slice nb_slice) hbut
            replace bp := But.bl hbut bp (Nat.succ_pos _) (by omega)
            replace bz := But.bl hbut bz (Nat.succ_pos _) (by omega)
            replace fx : Fz x4 (u6.heap.size) := by rw [hx4]; exact (Fz.set (Fz.set (Fz.set fx)))
            replace HE : Ext w x4 := by rw [hx4]; exact (((HE.store (by show w.heap.size ≤ u6.heap.size; omega) _).store (by show w.heap.size ≤ u6.heap.size; omega) _).store (by show w.heap.size ≤ u6.heap.size; omega) _)
            replace hlo : x1.heap.size ≤ x4.heap.size := Nat.le_trans hlo hbut.1
            clear bx hbut hx4
            have bx := hbn
            clear hbn
            repeat (refine wpE_q (v := ?_) rfl rfl (fun u hu => ?_) ?_; rotate_left 1; (focus (have kp := Bl.low hu bp lop; have kz := Bl.low hu bz loz; go_simp; (try rfl))); simp only [Act.put, List.setIfInBounds_toArray, List.set_cons_zero, List.set_cons_succ])
            refine wpE_done ?_
            clear hlo
            go_wp2_with fail
            go_meet
            exact ⟨_, _, _, _, _, _, _, rfl, bx, hs14, ht14, HE⟩
        · refine wpE_l rfl rfl (fun K hK => ?_)
          go_simp
          refine hK.out _ _ ((Below.refl _ _).alloc hlo _) ?_
          clear hK K
          try simp only [Act.put, List.setIfInBounds_toArray, List.set_cons_zero, List.set_cons_succ]
          have gex := hlo
          have lpx := bp.lt (Nat.succ_pos _)
          have lzx := bz.lt (Nat.succ_pos _)
          have l0x := HE.size
          refine absE (fun x3 hx3 => ?_)
          have hx : Ext u5 x3 := by rw [hx3]; exact ((Ext.refl _).alloc _)
          have bx : Bl x3 (u5.heap.size) #[.bool false, .slice none 0 0, .slice none 0 0] := by rw [hx3]; exact (Bl.new (by simp))
          have fx : Fz x3 (u5.heap.size) := by rw [hx3]; exact (Fz.new (by simp))
          replace hlo := Nat.le_trans hlo hx.size
          replace bp := Bl.ext hx bp (Nat.succ_pos _)
          replace bz := Bl.ext hx bz (Nat.succ_pos _)
          replace hs0 := hs0.ext hx
          replace ht0 := ht0.ext hx
          replace hs5 := hs5.ext hx
          replace ht5 := ht5.ext hx
          replace HE := HE.trans hx
          clear hx
          clear hx3
          refine wpE_l rfl rfl (fun K hK => ?_)
          go_simp
          refine (A2.out _ _ _ _ _ _ _ _ _ _ _ _ _ _ _ (fq_of hs0 ht0 L0.out (by omega)) (fq_of hs5 ht5 L1.out (by omega))).mono ?_
          rintro e u6 ⟨a6, n6, c6, d6, m6, k6, rfl, hs6, ht6, hx⟩
          refine hK.out _ _ (Below.mono hx hlo) ?_
          clear hK K
          try simp only [Act.put, List.setIfInBounds_toArray, List.set_cons_zero, List.set_cons_succ]
          replace hlo := Nat.le_trans hlo hx.size
          replace bp := Bl.ext hx bp (Nat.succ_pos _)
          replace bz := Bl.ext hx bz (Nat.succ_pos _)
          replace fx := Fz.ext hx fx bx (Nat.succ_pos _)
          replace bx := Bl.ext hx bx (Nat.succ_pos _)
          replace hs0 := hs0.ext hx
          replace ht0 := ht0.ext hx
          replace hs5 := hs5.ext hx
          replace ht5 := ht5.ext hx
          replace HE := HE.trans hx
          clear hx
          replace hs6 : Nc u6 a6 n6 c6 (qa.num).natAbs := hs6
          replace ht6 : Nc u6 d6 m6 k6 (qa.den) := ht6
          refine wpE_l rfl rfl (fun K hK => ?_)
          go_simp
          refine (A3.out _).mono ?_
          rintro e u9 ⟨a9, n9, c9, d9, m9, k9, rfl, hs9, ht9, hx⟩
          refine hK.out _ _ (Below.mono hx hlo) ?_
          clear hK K
          try simp only [Act.put, List.setIfInBounds_toArray, List.set_cons_zero, List.set_cons_succ]
          replace hlo := Nat.le_trans hlo hx.size
          replace bp := Bl.ext hx bp (Nat.succ_pos _)
          replace bz := Bl.ext hx bz (Nat.succ_pos _)
          replace fx := Fz.ext hx fx bx (Nat.succ_pos _)
          replace bx := Bl.ext hx bx (Nat.succ_pos _)
          replace hs0 := hs0.ext hx
          replace ht0 := ht0.ext hx
          replace hs5 := hs5.ext hx
          replace ht5 := ht5.ext hx
          replace hs6 := hs6.ext hx
          replace ht6 := ht6.ext hx
          replace HE := HE.trans hx
          clear hx
          replace hs9 : Nc u9 a9 n9 c9 (qr.num).natAbs := hs9
          replace ht9 : Nc u9 d9 m9 k9 (qr.den) := ht9
          refine wpE_l rfl rfl (fun K hK => ?_)
          go_simp
          refine (A3.out _).mono ?_
          rintro e u12 ⟨a12, n12, c12, d12, m12, k12, rfl, hs12, ht12, hx⟩
          refine hK.out _ _ (Below.mono hx hlo) ?_
          clear hK K
          try simp only [Act.put, List.setIfInBounds_toArray, List.set_cons_zero, List.set_cons_succ]
          replace hlo := Nat.le_trans hlo hx.size
          replace bp := Bl.ext hx bp (Nat.succ_pos _)
          replace bz := Bl.ext hx bz (Nat.succ_pos _)
          replace fx := Fz.ext hx fx bx (Nat.succ_pos _)
          replace bx := Bl.ext hx bx (Nat.succ_pos _)
          replace hs0 := hs0.ext hx
          replace ht0 := ht0.ext hx
          replace hs5 := hs5.ext hx
          replace ht5 := ht5.ext hx
          replace hs6 := hs6.ext hx
          replace ht6 := ht6.ext hx
          replace hs9 := hs9.ext hx
          replace ht9 := ht9.ext hx
          replace HE := HE.trans hx
          clear hx
          replace hs12 : Nc u12 a12 n12 c12 (qr.num).natAbs := hs12
          replace ht12 : Nc u12 d12 m12 k12 (qr.den) := ht12
          refine wpE_l rfl rfl (fun K hK => ?_)
          go_simp
          refine (A4.out _ _ _ _ _ _ _ _ _ _ _ _ _ _ _ (fq_of hs9 ht9 L3.out (by omega)) (fq_of hs12 ht12 L3.out (by omega))).mono ?_
          rintro e u13 ⟨a13, n13, c13, d13, m13, k13, rfl, hs13, ht13, hx⟩
          refine hK.out _ _ (Below.mono hx hlo) ?_
          clear hK K
          try simp only [Act.put, List.setIfInBounds_toArray, List.set_cons_zero, List.set_cons_succ]
          replace hlo := Nat.le_trans hlo hx.size
          replace bp := Bl.ext hx bp (Nat.succ_pos _)
          replace bz := Bl.ext hx bz (Nat.succ_pos _)
          replace fx := Fz.ext hx fx bx (Nat.succ_pos _)
          replace bx := Bl.ext hx bx (Nat.succ_pos _)
          replace hs0 := hs0.ext hx
          replace ht0 := ht0.ext hx
          replace hs5 := hs5.ext hx
          replace ht5 := ht5.ext hx
          replace hs6 := hs6.ext hx
          replace ht6 := ht6.ext hx
          replace hs9 := hs9.ext hx
          replace ht9 := ht9.ext hx
          replace hs12 := hs12.ext hx
          replace ht12 := ht12.ext hx
          replace HE := HE.trans hx
          clear hx
          replace hs13 : Nc u13 a13 n13 c13 (qb.num).natAbs := hs13
          replace ht13 : Nc u13 d13 m13 k13 (qb.den) := ht13
          refine wpE_l rfl rfl (fun K hK => ?_)
          go_simp
          refine (A5.out _ _ _ _ _ _ _ _ _ _ _ _ _ _ _ (fq_of hs6 ht6 L2.out (by omega)) (fq_of hs13 ht13 L4.out (by omega))).mono ?_
          rintro e u14 ⟨a14, n14, c14, d14, m14, k14, rfl, hs14, ht14, hx⟩
          refine hK.out _ _ (Below.mono hx hlo) ?_
          clear hK K
          try simp only [Act.put, List.setIfInBounds_toArray, List.set_cons_zero, List.set_cons_succ]
          replace hlo := Nat.le_trans hlo hx.size
          replace bp := Bl.ext hx bp (Nat.succ_pos _)
          replace bz := Bl.ext hx bz (Nat.succ_pos _)
          replace fx := Fz.ext hx fx bx (Nat.succ_pos _)
          replace bx := Bl.ext hx bx (Nat.succ_pos _)
          replace hs0 := hs0.ext hx
          replace ht0 := ht0.ext hx
          replace hs5 := hs5.ext hx
          replace ht5 := ht5.ext hx
          replace hs6 := hs6.ext hx
          replace ht6 := ht6.ext hx
          replace hs9 := hs9.ext hx
          replace ht9 := ht9.ext hx
          replace hs12 := hs12.ext hx
          replace ht12 := ht12.ext hx
          replace hs13 := hs13.ext hx
          replace ht13 := ht13.ext hx
          replace HE := HE.trans hx
          clear hx
          replace hs14 : Nc u14 a14 n14 c14 qq.num.natAbs := hs14
          replace ht14 : Nc u14 d14 m14 k14 qq.den := ht14
          repeat (refine wpE_q (v := ?_) rfl rfl (fun u hu => ?_) ?_; rotate_left 1; (focus (have kp := Bl.low hu bp lop; have kz := Bl.low hu bz loz; go_simp; (try rfl))); simp only [Act.put, List.setIfInBounds_toArray, List.set_cons_zero, List.set_cons_succ])
          refine wpE_l rfl rfl (fun K hK => ?_)
          go_simp
          refine hK.out _ _ ((((Below.refl _ _).setCell (by show x1.heap.size ≤ u5.heap.size; omega) _).setCell (by show x1.heap.size ≤ u5.heap.size; omega) _).setCell (by show x1.heap.size ≤ u5.heap.size; omega) _) ?_
          clear hK K
          try simp only [Act.put, List.setIfInBounds_toArray, List.set_cons_zero, List.set_cons_succ]
          refine absE (fun x4 hx4 => ?_)
          have hbut : But u14 x4 (u5.heap.size) := by rw [hx4]; exact (But.refl _ _).store.store.store
          have hbn : Bl x4 (u5.heap.size) #[.bool (decide (qq.num < 0)), .slice a14 n14 c14, .slice d14 m14 k14] := by rw [hx4]; exact (Bl.set (Bl.set (Bl.set bx (by simp)) (by simp)) (by simp))
          replace hs0 := hs0.but bx (not_ints3 nb_bool nb_slice nb_slice) hbut
          replace ht0 := ht0.but bx (not_ints3 nb_bool nb_slice nb_slice) hbut
          replace hs5 := hs5.but bx (not_ints3 nb_bool nb_slice nb_slice) hbut
          replace ht5 := ht5.but bx (not_ints3 nb_bool nb_slice nb_slice) hbut
          replace hs6 := hs6.but bx (not_ints3 nb_bool nb_slice nb_slice) hbut
          replace ht6 := ht6.but bx (not_ints3 nb_bool nb_slice nb_slice) hbut
          replace hs9 := hs9.but bx (not_ints3 nb_bool nb_slice nb_slice) hbut
          replace ht9 := ht9.but bx (not_ints3 nb_bool nb_slice nb_slice) hbut
          replace hs12 := hs12.but bx (not_ints3 nb_bool nb_slice nb_slice) hbut
          replace ht12 := ht12.but bx (not_ints3 nb_bool nb_slice nb_slice) hbut
          replace hs13 := hs13.but bx (not_ints3 nb_bool nb_slice nb_slice) hbut
          replace ht13 := ht13.but bx (not_ints3 nb_bool nb_slice nb_slice) hbut
          replace hs14 := hs14.but bx (not_ints3 nb_bool nb_slice nb_slice) hbut
          replace ht14 := ht14.but bx (not_ints3 nb_bool nb_slice nb_slice) hbut
          replace bp := But.bl hbut bp (Nat.succ_pos _) (by omega)
          replace bz := But.bl hbut bz (Nat.succ_pos _) (by omega)
          replace fx : Fz x4 (u5.heap.size) := by rw [hx4]; exact (Fz.set (Fz.set (Fz.set fx)))
          replace HE : Ext w x4 := by rw [hx4]; exact (((HE.store (by show w.heap.size ≤ u5.heap.size; omega) _).store (by show w.heap.size ≤ u5.heap.size; omega) _).store (by show w.heap.size ≤ u5.heap.size; omega) _)
          replace hlo : x1.heap.size ≤ x4.heap.size := Nat.le_trans hlo hbut.1
          clear bx hbut hx4
          have bx := hbn
          clear hbn
          repeat (refine wpE_q (v := ?_) rfl rfl (fun u hu => ?_) ?_; rotate_left 1; (focus (have kp := Bl.low hu bp lop; have kz := Bl.low hu bz loz; go_simp; (try rfl))); simp only [Act.put, List.setIfInBounds_toArray, List.set_cons_zero, List.set_cons_succ])
          refine wpE_done ?_
          clear hlo
          go_wp2_with fail
          go_meet
          exact ⟨_, _, _, _, _, _, _, rfl, bx, hs14, ht14, HE⟩
      · refine wpE_l rfl rfl (fun K hK => ?_)
        go_simp
        refine hK.out _ _ ((Below.refl _ _).alloc hlo _) ?_
        clear hK K
        try simp only [Act.put, List.setIfInBounds_toArray, List.set_cons_zero, List.set_cons_succ]
        have gex := hlo
        have lpx := bp.lt (Nat.succ_pos _)
        have lzx := bz.lt (Nat.succ_pos _)
        have l0x := HE.size
        refine absE (fun x3 hx3 => ?_)
        have hx : Ext u0 x3 := by rw [hx3]; exact ((Ext.refl _).alloc _)
        have bx : Bl x3 (u0.heap.size) #[.bool false, .slice none 0 0, .slice none 0 0] := by rw [hx3]; exact (Bl.new (by simp))
        have fx : Fz x3 (u0.heap.size) := by rw [hx3]; exact (Fz.new (by simp))
        replace hlo := Nat.le_trans hlo hx.size
        replace bp := Bl.ext hx bp (Nat.succ_pos _)
        replace bz := Bl.ext hx bz (Nat.succ_pos _)
        replace hs0 := hs0.ext hx
        replace ht0 := ht0.ext hx
        replace HE := HE.trans hx
        clear hx
        clear hx3
        refine wpE_l rfl rfl (fun K hK => ?_)
        go_simp
        refine (A1.out _).mono ?_
        rintro e u5 ⟨a5, n5, c5, d5, m5, k5, rfl, hs5, ht5, hx⟩
        refine hK.out _ _ (Below.mono hx hlo) ?_
        clear hK K
        try simp only [Act.put, List.setIfInBounds_toArray, List.set_cons_zero, List.set_cons_succ]
        replace hlo := Nat.le_trans hlo hx.size
        replace bp := Bl.ext hx bp (Nat.succ_pos _)
        replace bz := Bl.ext hx bz (Nat.succ_pos _)
        replace fx := Fz.ext hx fx bx (Nat.succ_pos _)
        replace bx := Bl.ext hx bx (Nat.succ_pos _)
        replace hs0 := hs0.ext hx
        replace ht0 := ht0.ext hx
        replace HE := HE.trans hx
        clear hx
        replace hs5 : Nc u5 a5 n5 c5 (qd.num).natAbs := hs5
        replace ht5 : Nc u5 d5 m5 k5 (qd.den) := ht5
        refine wpE_l rfl rfl (fun K hK => ?_)
        go_simp
        refine (A2.out _ _ _ _ _ _ _ _ _ _ _ _ _ _ _ (fq_of hs0 ht0 L0.out (by omega)) (fq_of hs5 ht5 L1.out (by omega))).mono ?_
        rintro e u6 ⟨a6, n6, c6, d6, m6, k6, rfl, hs6, ht6, hx⟩
        refine hK.out _ _ (Below.mono hx hlo) ?_
        clear hK K
        try simp only [Act.put, List.setIfInBounds_toArray, List.set_cons_zero, List.set_cons_succ]
        replace hlo := Nat.le_trans hlo hx.size
        replace bp := Bl.ext hx bp (Nat.succ_pos _)
        replace bz := Bl.ext hx bz (Nat.succ_pos _)
        replace fx := Fz.ext hx fx bx (Nat.succ_pos _)
        replace bx := Bl.ext hx bx (Nat.succ_pos _)
        replace hs0 := hs0.ext hx
        replace ht0 := ht0.ext hx
        replace hs5 := hs5.ext hx
        replace ht5 := ht5.ext hx
        replace HE := HE.trans hx
        clear hx
        replace hs6 : Nc u6 a6 n6 c6 (qa.num).natAbs := hs6
        replace ht6 : Nc u6 d6 m6 k6 (qa.den) := ht6
        refine wpE_l rfl rfl (fun K hK => ?_)
        go_simp
        refine (A3.out _).mono ?_
        rintro e u9 ⟨a9, n9, c9, d9, m9, k9, rfl, hs9, ht9, hx⟩
        refine hK.out _ _ (Below.mono hx hlo) ?_
        clear hK K
        try simp only [Act.put, List.setIfInBounds_toArray, List.set_cons_zero, List.set_cons_succ]
        replace hlo := Nat.le_trans hlo hx.size
        replace bp := Bl.ext hx bp (Nat.succ_pos _)
        replace bz := Bl.ext hx bz (Nat.succ_pos _)
        replace fx := Fz.ext hx fx bx (Nat.succ_pos _)
        replace bx := Bl.ext hx bx (Nat.succ_pos _)
        replace hs0 := hs0.ext hx
        replace ht0 := ht0.ext hx
        replace hs5 := hs5.ext hx
        replace ht5 := ht5.ext hx
        replace hs6 := hs6.ext hx
        replace ht6 := ht6.ext hx
        replace HE := HE.trans hx
        clear hx
        replace hs9 : Nc u9 a9 n9 c9 (qr.num).natAbs := hs9
        replace ht9 : Nc u9 d9 m9 k9 (qr.den) := ht9
        refine wpE_l rfl rfl (fun K hK => ?_)
        go_simp
        refine (A3.out _).mono ?_
        rintro e u12 ⟨a12, n12, c12, d12, m12, k12, rfl, hs12, ht12, hx⟩
        refine hK.out _ _ (Below.mono hx hlo) ?_
        clear hK K
        try simp only [Act.put, List.setIfInBounds_toArray, List.set_cons_zero, List.set_cons_succ]
        replace hlo := Nat.le_trans hlo hx.size
        replace bp := Bl.ext hx bp (Nat.succ_pos _)
        replace bz := Bl.ext hx bz (Nat.succ_pos _)
        replace fx := Fz.ext hx fx bx (Nat.succ_pos _)
        replace bx := Bl.ext hx bx (Nat.succ_pos _)
        replace hs0 := hs0.ext hx
        replace ht0 := ht0.ext hx
        replace hs5 := hs5.ext hx
        replace ht5 := ht5.ext hx
        replace hs6 := hs6.ext hx
        replace ht6 := ht6.ext hx
        replace hs9 := hs9.ext hx
        replace ht9 := ht9.ext hx
        replace HE := HE.trans hx
        clear hx
        replace hs12 : Nc u12 a12 n12 c12 (qr.num).natAbs := hs12
        replace ht12 : Nc u12 d12 m12 k12 (qr.den) := ht12
        refine wpE_l rfl rfl (fun K hK => ?_)
        go_simp
        refine (A4.out _ _ _ _ _ _ _ _ _ _ _ _ _ _ _ (fq_of hs9 ht9 L3.out (by omega)) (fq_of hs12 ht12 L3.out (by omega))).mono ?_
        rintro e u13 ⟨a13, n13, c13, d13, m13, k13, rfl, hs13, ht13, hx⟩
        refine hK.out _ _ (Below.mono hx hlo) ?_
        clear hK K
        try simp only [Act.put, List.setIfInBounds_toArray, List.set_cons_zero, List.set_cons_succ]
        replace hlo := Nat.le_trans hlo hx.size
        replace bp := Bl.ext hx bp (Nat.succ_pos _)
        replace bz := Bl.ext hx bz (Nat.succ_pos _)
        replace fx := Fz.ext hx fx bx (Nat.succ_pos _)
        replace bx := Bl.ext hx bx (Nat.succ_pos _)
        replace hs0 := hs0.ext hx
        replace ht0 := ht0.ext hx
        replace hs5 := hs5.ext hx
        replace ht5 := ht5.ext hx
        replace hs6 := hs6.ext hx
        replace ht6 := ht6.ext hx
        replace hs9 := hs9.ext hx
        replace ht9 := ht9.ext hx
        replace hs12 := hs12.ext hx
        replace ht12 := ht12.ext hx
        replace HE := HE.trans hx
        clear hx
        replace hs13 : Nc u13 a13 n13 c13 (qb.num).natAbs := hs13
        replace ht13 : Nc u13 d13 m13 k13 (qb.den) := ht13
        refine wpE_l rfl rfl (fun K hK => ?_)
        go_simp
        refine (A5.out _ _ _ _ _ _ _ _ _ _ _ _ _ _ _ (fq_of hs6 ht6 L2.out (by omega)) (fq_of hs13 ht13 L4.out (by omega))).mono ?_
        rintro e u14 ⟨a14, n14, c14, d14, m14, k14, rfl, hs14, ht14, hx⟩
        refine hK.out _ _ (Below.mono hx hlo) ?_
        clear hK K
        try simp only [Act.put, List.setIfInBounds_toArray, List.set_cons_zero, List.set_cons_succ]
        replace hlo := Nat.le_trans hlo hx.size
        replace bp := Bl.ext hx bp (Nat.succ_pos _)
        replace bz := Bl.ext hx bz (Nat.succ_pos _)
        replace fx := Fz.ext hx fx bx (Nat.succ_pos _)
        replace bx := Bl.ext hx bx (Nat.succ_pos _)
        replace hs0 := hs0.ext hx
        replace ht0 := ht0.ext hx
        replace hs5 := hs5.ext hx
        replace ht5 := ht5.ext hx
        replace hs6 := hs6.ext hx
        replace ht6 := ht6.ext hx
        replace hs9 := hs9.ext hx
        replace ht9 := ht9.ext hx
        replace hs12 := hs12.ext hx
        replace ht12 := ht12.ext hx
        replace hs13 := hs13.ext hx
        replace ht13 := ht13.ext hx
        replace HE := HE.trans hx
        clear hx
        replace hs14 : Nc u14 a14 n14 c14 qq.num.natAbs := hs14
        replace ht14 : Nc u14 d14 m14 k14 qq.den := ht14
        repeat (refine wpE_q (v := ?_) rfl rfl (fun u hu => ?_) ?_; rotate_left 1; (focus (have kp := Bl.low hu bp lop; have kz := Bl.low hu bz loz; go_simp; (try rfl))); simp only [Act.put, List.setIfInBounds_toArray, List.set_cons_zero, List.set_cons_succ])
        refine wpE_l rfl rfl (fun K hK => ?_)
        go_simp
        refine hK.out _ _ ((((Below.refl _ _).setCell (by show x1.heap.size ≤ u0.heap.size; omega) _).setCell (by show x1.heap.size ≤ u0.heap.size; omega) _).setCell (by show x1.heap.size ≤ u0.heap.size; omega) _) ?_
        clear hK K
        try simp only [Act.put, List.setIfInBounds_toArray, List.set_cons_zero, List.set_cons_succ]
        refine absE (fun x4 hx4 => ?_)
        have hbut : But u14 x4 (u0.heap.size) := by rw [hx4]; exact (But.refl _ _).store.store.store
        have hbn : Bl x4 (u0.heap.size) #[.bool (decide (qq.num < 0)), .slice a14 n14 c14, .slice d14 m14 k14] := by rw [hx4]; exact (Bl.set (Bl.set (Bl.set bx (by simp)) (by simp)) (by simp))
        replace hs0 := hs0.but bx (not_ints3 nb_bool nb_slice nb_slice) hbut
        replace ht0 := ht0.but bx (not_ints3 nb_bool nb_slice nb_slice) hbut
        replace hs5 := hs5.but bx (not_ints3 nb_bool nb_slice nb_slice) hbut
        replace ht5 := ht5.but bx (not_ints3 nb_bool nb_slice nb_slice) hbut
        replace hs6 := hs6.but bx (not_ints3 nb_bool nb_slice nb_slice) hbut
        replace ht6 := ht6.but bx (not_ints3 nb_bool nb_slice nb_slice) hbut
        replace hs9 := hs9.but bx (not_ints3 nb_bool nb_slice nb_slice) hbut
        replace ht9 := ht9.but bx (not_ints3 nb_bool nb_slice nb_slice) hbut
        replace hs12 := hs12.but bx (not_ints3 nb_bool nb_slice nb_slice) hbut
        replace ht12 := ht12.but bx (not_ints3 nb_bool nb_slice nb_slice) hbut
        replace hs13 := hs13.but bx (not_ints3 nb_bool nb_slice nb_slice) hbut
        replace ht13 := ht13.but bx (not_ints3 nb_bool nb_slice nb_slice) hbut
        replace hs14 := hs14.but bx (not_ints3 nb_bool nb_slice nb_slice) hbut
        replace ht14 := ht14.but bx (not_ints3 nb_bool nb_slice nb_slice) hbut
        replace bp := But.bl hbut bp (Nat.succ_pos _) (by omega)
        replace bz := But.bl hbut bz (Nat.succ_pos _) (by omega)
        replace fx : Fz x4 (u0.heap.size) := by rw [hx4]; exact (Fz.set (Fz.set (Fz.set fx)))
        replace HE : Ext w x4 := by rw [hx4]; exact (((HE.store (by show w.heap.size ≤ u0.heap.size; omega) _).store (by show w.heap.size ≤ u0.heap.size; omega) _).store (by show w.heap.size ≤ u0.heap.size; omega) _)
        replace hlo : x1.heap.size ≤ x4.heap.size := Nat.le_trans hlo hbut.1
        clear bx hbut hx4
        have bx := hbn
        clear hbn
        repeat (refine wpE_q (v := ?_) rfl rfl (fun u hu => ?_) ?_; rotate_left 1; (focus (have kp := Bl.low hu bp lop; have kz := Bl.low hu bz loz; go_simp; (try rfl))); simp only [Act.put, List.setIfInBounds_toArray, List.set_cons_zero, List.set_cons_succ])
        refine wpE_done ?_
        clear hlo
        go_wp2_with fail
        go_meet
        exact ⟨_, _, _, _, _, _, _, rfl, bx, hs14, ht14, HE⟩
    · refine wpE_l rfl rfl (fun K hK => ?_)
      go_simp
      refine hK.out _ _ ((Below.refl _ _).alloc hlo _) ?_
      clear hK K
      try simp only [Act.put, List.setIfInBounds_toArray, List.set_cons_zero, List.set_cons_succ]
      have gex := hlo
      have lpx := bp.lt (Nat.succ_pos _)
      have lzx := bz.lt (Nat.succ_pos _)
      have l0x := HE.size
      refine absE (fun x3 hx3 => ?_)
      have hx : Ext x2 x3 := by rw [hx3]; exact ((Ext.refl _).alloc _)
      have bx : Bl x3 (x2.heap.size) #[.bool false, .slice none 0 0, .slice none 0 0] := by rw [hx3]; exact (Bl.new (by simp))
      have fx : Fz x3 (x2.heap.size) := by rw [hx3]; exact (Fz.new (by simp))
      replace hlo := Nat.le_trans hlo hx.size
      replace bp := Bl.ext hx bp (Nat.succ_pos _)
      replace bz := Bl.ext hx bz (Nat.succ_pos _)
      replace HE := HE.trans hx
      clear hx
      clear hx3
      refine wpE_l rfl rfl (fun K hK => ?_)
      go_simp
      refine (A0.out _).mono ?_
      rintro e u0 ⟨a0, n0, c0, d0, m0, k0, rfl, hs0, ht0, hx⟩
      refine hK.out _ _ (Below.mono hx hlo) ?_
      clear hK K
      try simp only [Act.put, List.setIfInBounds_toArray, List.set_cons_zero, List.set_cons_succ]
      replace hlo := Nat.le_trans hlo hx.size
      replace bp := Bl.ext hx bp (Nat.succ_pos _)
      replace bz := Bl.ext hx bz (Nat.succ_pos _)
      replace fx := Fz.ext hx fx bx (Nat.succ_pos _)
      replace bx := Bl.ext hx bx (Nat.succ_pos _)
      replace HE := HE.trans hx
      clear hx
      replace hs0 : Nc u0 a0 n0 c0 (q0.num).natAbs := hs0
      replace ht0 : Nc u0 d0 m0 k0 (q0.den) := ht0
      refine wpE_l rfl rfl (fun K hK => ?_)
      go_simp
      refine (A1.out _).mono ?_
      rintro e u5 ⟨a5, n5, c5, d5, m5, k5, rfl, hs5, ht5, hx⟩
      refine hK.out _ _ (Below.mono hx hlo) ?_
      clear hK K
      try simp only [Act.put, List.setIfInBounds_toArray, List.set_cons_zero, List.set_cons_succ]
      replace hlo := Nat.le_trans hlo hx.size
      replace bp := Bl.ext hx bp (Nat.succ_pos _)
      replace bz := Bl.ext hx bz (Nat.succ_pos _)
      replace fx := Fz.ext hx fx bx (Nat.succ_pos _)
      replace bx := Bl.ext hx bx (Nat.succ_pos _)
      replace hs0 := hs0.ext hx
      replace ht0 := ht0.ext hx
      replace HE := HE.trans hx
      clear hx
      replace hs5 : Nc u5 a5 n5 c5 (qd.num).natAbs := hs5
      replace ht5 : Nc u5 d5 m5 k5 (qd.den) := ht5
      refine wpE_l rfl rfl (fun K hK => ?_)
      go_simp
      refine (A2.out _ _ _ _ _ _ _ _ _ _ _ _ _ _ _ (fq_of hs0 ht0 L0.out (by omega)) (fq_of hs5 ht5 L1.out (by omega))).mono ?_
      rintro e u6 ⟨a6, n6, c6, d6, m6, k6, rfl, hs6, ht6, hx⟩
      refine hK.out _ _ (Below.mono hx hlo) ?_
      clear hK K
      try simp only [Act.put, List.setIfInBounds_toArray, List.set_cons_zero, List.set_cons_succ]
      replace hlo := Nat.le_trans hlo hx.size
      replace bp := Bl.ext hx bp (Nat.succ_pos _)
      replace bz := Bl.ext hx bz (Nat.succ_pos _)
      replace fx := Fz.ext hx fx bx (Nat.succ_pos _)
      replace bx := Bl.ext hx bx (Nat.succ_pos _)
      replace hs0 := hs0.ext hx
      replace ht0 := ht0.ext hx
      replace hs5 := hs5.ext hx
      replace ht5 := ht5.ext hx
      replace HE := HE.trans hx
      clear hx
      replace hs6 : Nc u6 a6 n6 c6 (qa.num).natAbs := hs6
      replace ht6 : Nc u6 d6 m6 k6 (qa.den) := ht6
      refine wpE_l rfl rfl (fun K hK => ?_)
      go_simp
      refine (A3.out _).mono ?_
      rintro e u9 ⟨a9, n9, c9, d9, m9, k9, rfl, hs9, ht9, hx⟩
      refine hK.out _ _ (Below.mono hx hlo) ?_
      clear hK K
      try simp only [Act.put, List.setIfInBounds_toArray, List.set_cons_zero, List.set_cons_succ]
      replace hlo := Nat.le_trans hlo hx.size
      replace bp := Bl.ext hx bp (Nat.succ_pos _)
      replace bz := Bl.ext hx bz (Nat.succ_pos _)
      replace fx := Fz.ext hx fx bx (Nat.succ_pos _)
      replace bx := Bl.ext hx bx (Nat.succ_pos _)
      replace hs0 := hs0.ext hx
      replace ht0 := ht0.ext hx
      replace hs5 := hs5.ext hx
      replace ht5 := ht5.ext hx
      replace hs6 := hs6.ext hx
      replace ht6 := ht6.ext hx
      replace HE := HE.trans hx
      clear hx
      replace hs9 : Nc u9 a9 n9 c9 (qr.num).natAbs := hs9
      replace ht9 : Nc u9 d9 m9 k9 (qr.den) := ht9
      refine wpE_l rfl rfl (fun K hK => ?_)
      go_simp
      refine (A3.out _).mono ?_
      rintro e u12 ⟨a12, n12, c12, d12, m12, k12, rfl, hs12, ht12, hx⟩
      refine hK.out _ _ (Below.mono hx hlo) ?_
      clear hK K
      try simp only [Act.put, List.setIfInBounds_toArray, List.set_cons_zero, List.set_cons_succ]
      replace hlo := Nat.le_trans hlo hx.size
      replace bp := Bl.ext hx bp (Nat.succ_pos _)
      replace bz := Bl.ext hx bz (Nat.succ_pos _)
      replace fx := Fz.ext hx fx bx (Nat.succ_pos _)
      replace bx := Bl.ext hx bx (Nat.succ_pos _)
      replace hs0 := hs0.ext hx
      replace ht0 := ht0.ext hx
      replace hs5 := hs5.ext hx
      replace ht5 := ht5.ext hx
      replace hs6 := hs6.ext hx
      replace ht6 := ht6.ext hx
      replace hs9 := hs9.ext hx
      replace ht9 := ht9.ext hx
      replace HE := HE.trans hx
      clear hx
      replace hs12 : Nc u12 a12 n12 c12 (qr.num).natAbs := hs12
      replace ht12 : Nc u12 d12 m12 k12 (qr.den) := ht12
      refine wpE_l rfl rfl (fun K hK => ?_)
      go_simp
      refine (A4.out _ _ _ _ _ _ _ _ _ _ _ _ _ _ _ (fq_of hs9 ht9 L3.out (by omega)) (fq_of hs12 ht12 L3.out (by omega))).mono ?_
      rintro e u13 ⟨a13, n13, c13, d13, m13, k13, rfl, hs13, ht13, hx⟩
      refine hK.out _ _ (Below.mono hx hlo) ?_
      clear hK K
      try simp only [Act.put, List.setIfInBounds_toArray, List.set_cons_zero, List.set_cons_succ]
      replace hlo := Nat.le_trans hlo hx.size
      replace bp := Bl.ext hx bp (Nat.succ_pos _)
      replace bz := Bl.ext hx bz (Nat.succ_pos _)
      replace fx := Fz.ext hx fx bx (Nat.succ_pos _)
      replace bx := Bl.ext hx bx (Nat.succ_pos _)
      replace hs0 := hs0.ext hx
      replace ht0 := ht0.ext hx
      replace hs5 := hs5.ext hx
      replace ht5 := ht5.ext hx
      replace hs6 := hs6.ext hx
      replace ht6 := ht6.ext hx
      replace hs9 := hs9.ext hx
      replace ht9 := ht9.ext hx
      replace hs12 := hs12.ext hx
      replace ht12 := ht12.ext hx
      replace HE := HE.trans hx
      clear hx
      replace hs13 : Nc u13 a13 n13 c13 (qb.num).natAbs := hs13
      replace ht13 : Nc u13 d13 m13 k13 (qb.den) := ht13
      refine wpE_l rfl rfl (fun K hK => ?_)
      go_simp
      refine (A5.out _ _ _ _ _ _ _ _ _ _ _ _ _ _ _ (fq_of hs6 ht6 L2.out (by omega)) (fq_of hs13 ht13 L4.out (by omega))).mono ?_
      rintro e u14 ⟨a14, n14, c14, d14, m14, k14, rfl, hs14, ht14, hx⟩
      refine hK.out _ _ (Below.mono hx hlo) ?_
      clear hK K
      try simp only [Act.put, List.setIfInBounds_toArray, List.set_cons_zero, List.set_cons_succ]
      replace hlo := Nat.le_trans hlo hx.size
      replace bp := Bl.ext hx bp (Nat.succ_pos _)
      replace bz := Bl.ext hx bz (Nat.succ_pos _)
      replace fx := Fz.ext hx fx bx (Nat.succ_pos _)
      replace bx := Bl.ext hx bx (Nat.succ_pos _)
      replace hs0 := hs0.ext hx
      replace ht0 := ht0.ext hx
      replace hs5 := hs5.ext hx
      replace ht5 := ht5.ext hx
      replace hs6 := hs6.ext hx
      replace ht6 := ht6.ext hx
      replace hs9 := hs9.ext hx
      replace ht9 := ht9.ext hx
      replace hs12 := hs12.ext hx
      replace ht12 := ht12.ext hx
      replace hs13 := hs13.ext hx
      replace ht13 := ht13.ext hx
      replace HE := HE.trans hx
      clear hx
      replace hs14 : Nc u14 a14 n14 c14 qq.num.natAbs := hs14
      replace ht14 : Nc u14 d14 m14 k14 qq.den := ht14
      repeat (refine wpE_q (v := ?_) rfl rfl (fun u hu => ?_) ?_; rotate_left 1; (focus (have kp := Bl.low hu bp lop; have kz := Bl.low hu bz loz; go_simp; (try rfl))); simp only [Act.put, List.setIfInBounds_toArray, List.set_cons_zero, List.set_cons_succ])
      refine wpE_l rfl rfl (fun K hK => ?_)
      go_simp
      refine hK.out _ _ ((((Below.refl _ _).setCell (by show x1.heap.size ≤ x2.heap.size; omega) _).setCell (by show x1.heap.size ≤ x2.heap.size; omega) _).setCell (by show x1.heap.size ≤ x2.heap.size; omega) _) ?_
      clear hK K
      try simp only [Act.put, List.setIfInBounds_toArray, List.set_cons_zero, List.set_cons_succ]
      refine absE (fun x4 hx4 => ?_)
      have hbut : But u14 x4 (x2.heap.size) := by rw [hx4]; exact (But.refl _ _).store.store.store
      have hbn : Bl x4 (x2.heap.size) #[.bool (decide (qq.num < 0)), .slice a14 n14 c14, .slice d14 m14 k14] := by rw [hx4]; exact (Bl.set (Bl.set (Bl.set bx (by simp)) (by simp)) (by simp))
      replace hs0 := hs0.but bx (not_ints3 nb_bool nb_slice nb_slice) hbut
      replace ht0 := ht0.but bx (not_ints3 nb_bool nb_slice nb_slice) hbut
      replace hs5 := hs5.but bx (not_ints3 nb_bool nb_slice nb_slice) hbut
      replace ht5 := ht5.but bx (not_ints3 nb_bool nb_slice nb_slice) hbut
      replace hs6 := hs6.but bx (not_ints3 nb_bool nb_slice nb_slice) hbut
      replace ht6 := ht6.but bx (not_ints3 nb_bool nb_slice nb_slice) hbut
      replace hs9 := hs9.but bx (not_ints3 nb_bool nb_slice nb_slice) hbut
      replace ht9 := ht9.but bx (not_ints3 nb_bool nb_slice nb_slice) hbut
      replace hs12 := hs12.but bx (not_ints3 nb_bool nb_slice nb_slice) hbut
      replace ht12 := ht12.but bx (not_ints3 nb_bool nb_slice nb_slice) hbut
      replace hs13 := hs13.but bx (not_ints3 nb_bool nb_slice nb_slice) hbut
      replace ht13 := ht13.but bx (not_ints3 nb_bool nb_slice nb_slice) hbut
      replace hs14 := hs14.but bx (not_ints3 nb_bool nb_slice nb_slice) hbut
      replace ht14 := ht14.but bx (not_ints3 nb_bool nb_slice nb_slice) hbut
      replace bp := But.bl hbut bp (Nat.succ_pos _) (by omega)
      replace bz := But.bl hbut bz (Nat.succ_pos _) (by omega)
      replace fx : Fz x4 (x2.heap.size) := by rw [hx4]; exact (Fz.set (Fz.set (Fz.set fx)))
      replace HE : Ext w x4 := by rw [hx4]; exact (((HE.store (by show w.heap.size ≤ x2.heap.size; omega) _).store (by show w.heap.size ≤ x2.heap.size; omega) _).store (by show w.heap.size ≤ x2.heap.size; omega) _)
      replace hlo : x1.heap.size ≤ x4.heap.size := Nat.le_trans hlo hbut.1
      clear bx hbut hx4
      have bx := hbn
      clear hbn
      repeat (refine wpE_q (v := ?_) rfl rfl (fun u hu => ?_) ?_; rotate_left 1; (focus (have kp := Bl.low hu bp lop; have kz := Bl.low hu bz loz; go_simp; (try rfl))); simp only [Act.put, List.setIfInBounds_toArray, List.set_cons_zero, List.set_cons_succ])
      refine wpE_done ?_
      clear hlo
      go_wp2_with fail
      go_meet
      exact ⟨_, _, _, _, _, _, _, rfl, bx, hs14, ht14, HE⟩
  case rest =>
    obtain ⟨g7, a3, n3, c3, d3, m3, k3, rfl, bx, hs3, ht3, HE⟩ := hcut
    go_wp2_with fail
    refine (A6.out _ _ _ _ _ _ _ _ (fq_of hs3 ht3 L5.out (by omega))).mono ?_
    rintro e u4 ⟨a4, n4, c4, rfl, hs4, hx⟩
    replace bx := Bl.ext hx bx (Nat.succ_pos _)
    replace hs3 := hs3.ext hx
    replace ht3 := ht3.ext hx
    replace HE := HE.trans hx
    clear hx
    replace hs4 : Nc u4 a4 n4 c4 ff := hs4
    generalize decide (((ff : Nat) : Int) < 0) = zb at *
    have hfl : ∀ u : World, (Instr.field 48 (.agg #[.bool zb, .slice a4 n4 c4]) 1).run Tryz.prog u = .ok (.slice a4 n4 c4) u := fun u => by kernel_rfl
    go_wp2_with fail
    refine (q_Sqrt (hs4.nu (by have := HDF.out; omega)) (by have := HDF.out; omega)).mono ?_
    rintro e u5 ⟨a5, n5, c5, rfl, hs5, hx⟩
    replace bx := Bl.ext hx bx (Nat.succ_pos _)
    replace hs3 := hs3.ext hx
    replace ht3 := ht3.ext hx
    replace hs4 := hs4.ext hx
    replace HE := HE.trans hx
    clear hx
    go_wp2_with fail
    refine absC (fun x2 hx2 => ?_)
    have hx : Ext u5 x2 := by rw [hx2]; exact ((Ext.refl _).alloc _)
    replace bx := Bl.ext hx bx (Nat.succ_pos _)
    replace hs3 := hs3.ext hx
    replace ht3 := ht3.ext hx
    replace hs4 := hs4.ext hx
    replace hs5 := hs5.ext hx
    replace HE := HE.trans hx
    clear hx
    have hl : Nc x2 (some ⟨u5.heap.size, 0, none⟩) 1 1 255 := by rw [hx2]; exact nc_litAt rfl 255 (by omega) (by omega) _
    clear hx2
    refine (A7.out _ _ _ _ _ _ _ hs5 hl).mono ?_
    rintro e u6 ⟨rfl, hx⟩
    replace bx := Bl.ext hx bx (Nat.succ_pos _)
    replace hs3 := hs3.ext hx
    replace ht3 := ht3.ext hx
    replace hs4 := hs4.ext hx
    replace hs5 := hs5.ext hx
    replace HE := HE.trans hx
    clear hx
    go_wp2_with fail
    go_ret
    rw [HR.out]
    exact ⟨rfl, HE⟩

set_option maxRecDepth 100000 in
set_option maxHeartbeats 8000000 in
theorem rad_near (k : Int) (r0 g0 b0 a0 r1 g1 b1 a1 : Nat) (px py qx qy r ux uy vx vy : Int) (x y : Int) (a : Option Addr) (n c : Nat) (s : Bool) (ax ay : Int) (w : World) (hp : fitP px py = true) (hf : fitP ax ay = true) (hr1 : 1 ≤ r) (hr2 : r ≤ 8388607) (hq : isq (65025 * (prodP px py ax ay ax ay).toNat / (r * r).toNat) ≤ 255) :
    Calls Tryz.prog 15 #[.agg #[.int .i64 k, .int .u8 (r0 : Int), .int .u8 (g0 : Int), .int .u8 (b0 : Int), .int .u8 (a0 : Int), .int .u8 (r1 : Int), .int .u8 (g1 : Int), .int .u8 (b1 : Int), .int .u8 (a1 : Int), .int .i64 px, .int .i64 py, .int .i64 qx, .int .i64 qy, .int .i64 r, .int .i64 ux, .int .i64 uy, .int .i64 vx, .int .i64 vy, .int .i64 x, .int .i64 y, .slice a n c, .bool s], .agg #[.int .i64 ax, .int .i64 ay]] w fun e w' => e = .returned (.int .i64 (radF (prodP px py ax ay ax ay) r : Nat)) ∧ Ext w w' := by
  obtain ⟨⟨i1, i2⟩, i3, i4⟩ := fit_sub hp hf
  obtain ⟨⟨j1, j2⟩, j3, j4⟩ := prod_cap hp hf hf
  have W1 : Hid (IntKind.i64.wrap (ax - px) = ax - px) := hidP (IntWalk.i64_in _ (by omega))
  have W2 : Hid (IntKind.i64.wrap (ay - py) = ay - py) := hidP (IntWalk.i64_in _ (by omega))
  have A1 := hidP (fun u => e_dot (ax - px) (ay - py) (ax - px) (ay - py) u j1 j2 j3 j4)
  have eN : (ax - px) * (ax - px) + (ay - py) * (ay - py) = prodP px py ax ay ax ay := rfl
  have hD0 : 0 ≤ prodP px py ax ay ax ay := prodP_self
  have l1 : ql ((prodP px py ax ay ax ay : Int) : Rat) ≤ 2 := ql_int (by rw [← eN]; omega) (by rw [← eN]; omega)
  rw [eN] at A1
  clear eN j1 j2 j3 j4
  have hfl := rad_floor hD0 hr1
  have hrd : radF (prodP px py ax ay ax ay) r = min (isq (65025 * (prodP px py ax ay ax ay).toNat / (r * r).toNat)) 255 := rfl
  generalize 65025 * (prodP px py ax ay ax ay).toNat / (r * r).toNat = ff at *
  generalize radF (prodP px py ax ay ax ay) r = rr at *
  generalize prodP px py ax ay ax ay = D at *
  have L1 := hidP l1
  have A0 := hidP (fun u => gq_Int 65025 u (by decide) (by decide))
  have l0 : ql ((65025 : Int) : Rat) ≤ 2 := ql_int (by decide) (by decide)
  have L0 := hidP l0
  have A2 := hidP (fun (u : World) (b1 b2 : Bool) (a1 d1 a2 d2 : Option Addr) (n1 c1 m1 k1 n2 c2 m2 k2 : Nat) (t1 : Fq u b1 a1 n1 c1 d1 m1 k1 ((65025 : Int) : Rat) 2) (t2 : Fq u b2 a2 n2 c2 d2 m2 k2 (D : Rat) 2) => gq_Mul t1 t2 (by omega) (by omega))
  have l2 : ql (((65025 : Int) : Rat) * (D : Rat)) ≤ 4 := ql_mul l0 l1 (by omega)
  have L2 := hidP l2
  have A3 := hidP (fun u => gq_Int r u (by omega) (by omega))
  have l3 : ql (r : Rat) ≤ 2 := ql_int (by omega) (by omega)
  have L3 := hidP l3
  have A4 := hidP (fun (u : World) (b1 b2 : Bool) (a1 d1 a2 d2 : Option Addr) (n1 c1 m1 k1 n2 c2 m2 k2 : Nat) (t1 : Fq u b1 a1 n1 c1 d1 m1 k1 (r : Rat) 2) (t2 : Fq u b2 a2 n2 c2 d2 m2 k2 (r : Rat) 2) => gq_Mul t1 t2 (by omega) (by omega))
  have l4 : ql ((r : Rat) * (r : Rat)) ≤ 4 := ql_mul l3 l3 (by omega)
  have L4 := hidP l4
  have A5 := hidP (fun (u : World) (b1 b2 : Bool) (a1 d1 a2 d2 : Option Addr) (n1 c1 m1 k1 n2 c2 m2 k2 : Nat) (t1 : Fq u b1 a1 n1 c1 d1 m1 k1 (((65025 : Int) : Rat) * (D : Rat)) 4) (t2 : Fq u b2 a2 n2 c2 d2 m2 k2 ((r : Rat) * (r : Rat)) 4) => gq_Div t1 t2 (by omega) (by omega) (rr_ne hr1))
  have l5 : ql (((65025 : Int) : Rat) * (D : Rat) / ((r : Rat) * (r : Rat))) ≤ 8 := ql_div l2 l4 (by omega) (by omega)
  have L5 := hidP l5
  have A6 := hidP (fun (u : World) (b1 : Bool) (a1 d1 : Option Addr) (n1 c1 m1 k1 : Nat) (t1 : Fq u b1 a1 n1 c1 d1 m1 k1 (((65025 : Int) : Rat) * (D : Rat) / ((r : Rat) * (r : Rat))) 8) => (by have := gq_Floor t1 (by omega); rw [hfl] at this; exact this : Calls Tryz.prog 32 #[.agg #[.bool b1, .slice a1 n1 c1, .slice d1 m1 k1]] u (RetW u ((ff : Nat) : Int))))
  have hdf : dl ff ≤ 8 := by have := ql_floor l5; rw [hfl] at this; simpa using this
  generalize ((65025 : Int) : Rat) * (D : Rat) / ((r : Rat) * (r : Rat)) = qq at *
  generalize ((65025 : Int) : Rat) * (D : Rat) = qa at *
  generalize (r : Rat) * (r : Rat) = qb at *
  generalize ((65025 : Int) : Rat) = q0 at *
  generalize (D : Rat) = qd at *
  have hsq : isq ff ≤ ff := isq_self ff
  have hdq : dl (isq ff) ≤ 8 := Nat.le_trans (dl_mono hsq) hdf
  have HR : Hid (rr = isq ff) := hidP (by rw [hrd]; omega)
  have hc : cmpI (isq ff) 255 ≤ 0 := by rcases cmpI_cases (isq ff) 255 with h | h; omega; exact h.2
  have A7 := hidP (fun (u : World) (a1 a2 : Option Addr) (n1 c1 n2 c2 : Nat) (t1 : Nc u a1 n1 c1 (isq ff)) (t2 : Nc u a2 n2 c2 255) => (by have := d_Cmp (t1.nu (by omega)) (t2.nu (Nat.le_trans (dl_small (by decide)) (by omega))); rw [show cmpI (isq ff) 255 = cmpI (isq ff) 255 from rfl] at this; exact this : Calls Tryz.prog 33 #[.slice a1 n1 c1, .slice a2 n2 c2] u fun e w' => e = .returned (.int .i64 (cmpI (isq ff) 255)) ∧ Ext u w'))
  have HI : Hid (intR ((isq ff : Nat) : Int) = .tuple #[.int .i64 ((isq ff : Nat) : Int), .bool true]) := hidP (if_pos (by omega))
  generalize cmpI (isq ff) 255 = cc at *
  have hcd : decide (0 < cc) = false := decide_eq_false (by omega)
  clear hrd
  clear hp hf l0 l1 l2 l3 l4 l5 hfl hsq hD0
  generalize (r : Rat) = qr at *
  have HDQ := hidP hdq; have HDF := hidP hdf
  clear hdq hdf
  go_enter Tryz.func15, Tryz.ntmps15
  go_wp2_with fail
  refine wp_region_plan (R := Ext) (.q 0 (.q 1 (.q 2 (.q 3 (.q 4 (.q 5 (.q 6 (.q 7 (.q 8 (.q 9 (.q 10 (.q 11 (.q 12 (.q 13 .done)))))))))))))) (by kernel_rfl) (by kernel_rfl) (by kernel_rfl) (by kernel_rfl) Ext.refl (fun _ _ _ => Ext.trans) ?_
  refine absE (fun x1 hx1 => ?_)
  have hx : Ext w x1 := by rw [hx1]; exact (((Ext.refl _).alloc _).alloc _).drew
  have bp : Bl x1 (w.heap.size) #[.int .i64 k, .int .u8 (r0 : Int), .int .u8 (g0 : Int), .int .u8 (b0 : Int), .int .u8 (a0 : Int), .int .u8 (r1 : Int), .int .u8 (g1 : Int), .int .u8 (b1 : Int), .int .u8 (a1 : Int), .int .i64 px, .int .i64 py, .int .i64 qx, .int .i64 qy, .int .i64 r, .int .i64 ux, .int .i64 uy, .int .i64 vx, .int .i64 vy, .int .i64 x, .int .i64 y, .slice a n c, .bool s] := by rw [hx1]; exact ((Bl.new (by simp)).alloc (by simp)).drew
  have bz : Bl x1 (w.heap.size + 1) #[.int .i64 ax, .int .i64 ay] := by rw [hx1]; exact (Bl.new (by simp)).drew
  have HE := hx
  clear hx
  clear hx1
  repeat (refine wpE_q (v := ?_) rfl rfl (fun u hu => ?_) ?_; rotate_left 1; (focus (have kp := Bl.ext hu bp (Nat.succ_pos _); have kz := Bl.ext hu bz (Nat.succ_pos _); have r1 := W1.out; have r2 := W2.out; go_simp; (try rfl))); simp only [Act.put, List.setIfInBounds_toArray, List.set_cons_zero, List.set_cons_succ])
  refine wpE_done ?_
  clear W1 W2
  go_upto_region 3 with fail
  go_cut [7] (fun v7 wx => ∃ g7 a3 n3 c3 d3 m3 k3, v7 = .pointer (some ⟨g7, 0, none⟩) ∧ Bl wx g7 #[.bool (decide (qq.num < 0)), .slice a3 n3 c3, .slice d3 m3 k3] ∧ Nc wx a3 n3 c3 qq.num.natAbs ∧ Nc wx d3 m3 k3 qq.den ∧ Ext w wx)
  case first =>
    go_wp2_with fail
    have lop := bp.lt (Nat.succ_pos _)
    have loz := bz.lt (Nat.succ_pos _)
    have hlo : x1.heap.size ≤ x1.heap.size := Nat.le_refl _
    refine wp_region_plan (R := Below x1.heap.size) (.q 1 (.q 2 (.q 3 (.q 4 (.q 7 (.q 8 (.q 10 (.q 11 (.br 0 (.br 5 (.br 6 (.br 9 (.br 12 (.br 13 (.br 14 (.q 15 (.q 16 (.q 17 (.l 18 (.l 19 (.q 20 .done)))))) (.l 18 (.l 14 (.q 15 (.q 16 (.q 17 (.l 19 (.q 20 .done)))))))) (.l 18 (.l 13 (.l 14 (.q 15 (.q 16 (.q 17 (.l 19 (.q 20 .done))))))))) (.l 18 (.l 12 (.l 13 (.l 14 (.q 15 (.q 16 (.q 17 (.l 19 (.q 20 .done)))))))))) (.l 18 (.l 9 (.l 12 (.l 13 (.l 14 (.q 15 (.q 16 (.q 17 (.l 19 (.q 20 .done))))))))))) (.l 18 (.l 6 (.l 9 (.l 12 (.l 13 (.l 14 (.q 15 (.q 16 (.q 17 (.l 19 (.q 20 .done)))))))))))) (.l 18 (.l 5 (.l 6 (.l 9 (.l 12 (.l 13 (.l 14 (.q 15 (.q 16 (.q 17 (.l 19 (.q 20 .done))))))))))))) (.l 18 (.l 0 (.l 5 (.l 6 (.l 9 (.l 12 (.l 13 (.l 14 (.q 15 (.q 16 (.q 17 (.l 19 (.q 20 .done)))))))))))))))))))))) (by kernel_rfl) (by kernel_rfl) (by kernel_rfl) (by kernel_rfl) (Below.refl _) (fun _ _ _ => Below.trans) ?_
    refine absE (fun x2 hx2 => ?_)
    have hx : Ext x1 x2 := by rw [hx2]; exact (Ext.refl _).drew
    replace hlo := Nat.le_trans hlo hx.size
    replace bp := Bl.ext hx bp (Nat.succ_pos _)
    replace bz := Bl.ext hx bz (Nat.succ_pos _)
    replace HE := HE.trans hx
    clear hx
    clear hx2
    repeat (refine wpE_q (v := ?_) rfl rfl (fun u hu => ?_) ?_; rotate_left 1; (focus (have kp := Bl.low hu bp lop; have kz := Bl.low hu bz loz; go_simp; (try rfl))); simp only [Act.put, List.setIfInBounds_toArray, List.set_cons_zero, List.set_cons_succ])
    refine wpE_br rfl rfl (fun K hK => ?_) ?_
    · go_simp
      refine (A0.out _).mono ?_
      rintro e u0 ⟨a0, n0, c0, d0, m0, k0, rfl, hs0, ht0, hx⟩
      refine hK.out _ _ (Below.mono hx hlo) ?_
      clear hK K
      try simp only [Act.put, List.setIfInBounds_toArray, List.set_cons_zero, List.set_cons_succ]
      replace hlo := Nat.le_trans hlo hx.size
      replace bp := Bl.ext hx bp (Nat.succ_pos _)
      replace bz := Bl.ext hx bz (Nat.succ_pos _)
      replace HE := HE.trans hx
      clear hx
      replace hs0 : Nc u0 a0 n0 c0 (q0.num).natAbs := hs0
      replace ht0 : Nc u0 d0 m0 k0 (q0.den) := ht0
      refine wpE_br rfl rfl (fun K hK => ?_) ?_
      · go_simp
        refine (A1.out _).mono ?_
        rintro e u5 ⟨a5, n5, c5, d5, m5, k5, rfl, hs5, ht5, hx⟩
        refine hK.out _ _ (Below.mono hx hlo) ?_
        clear hK K
        try simp only [Act.put, List.setIfInBounds_toArray, List.set_cons_zero, List.set_cons_succ]
        replace hlo := Nat.le_trans hlo hx.size
        replace bp := Bl.ext hx bp (Nat.succ_pos _)
        replace bz := Bl.ext hx bz (Nat.succ_pos _)
        replace hs0 := hs0.ext hx
        replace ht0 := ht0.ext hx
        replace HE := HE.trans hx
        clear hx
        replace hs5 : Nc u5 a5 n5 c5 (qd.num).natAbs := hs5
        replace ht5 : Nc u5 d5 m5 k5 (qd.den) := ht5
        refine wpE_br rfl rfl (fun K hK => ?_) ?_
        · go_simp
          refine (A2.out _ _ _ _ _ _ _ _ _ _ _ _ _ _ _ (fq_of hs0 ht0 L0.out (by omega)) (fq_of hs5 ht5 L1.out (by omega))).mono ?_
          rintro e u6 ⟨a6, n6, c6, d6, m6, k6, rfl, hs6, ht6, hx⟩
          refine hK.out _ _ (Below.mono hx hlo) ?_
          clear hK K
          try simp only [Act.put, List.setIfInBounds_toArray, List.set_cons_zero, List.set_cons_succ]
          replace hlo := Nat.le_trans hlo hx.size
          replace bp := Bl.ext hx bp (Nat.succ_pos _)
          replace bz := Bl.ext hx bz (Nat.succ_pos _)
          replace hs0 := hs0.ext hx
          replace ht0 := ht0.ext hx
          replace hs5 := hs5.ext hx
          replace ht5 := ht5.ext hx
          replace HE := HE.trans hx
          clear hx
          replace hs6 : Nc u6 a6 n6 c6 (qa.num).natAbs := hs6
          replace ht6 : Nc u6 d6 m6 k6 (qa.den) := ht6
          refine wpE_br rfl rfl (fun K hK => ?_) ?_
          · go_simp
            refine (A3.out _).mono ?_
            rintro e u9 ⟨a9, n9, c9, d9, m9, k9, rfl, hs9, ht9, hx⟩
            refine hK.out _ _ (Below.mono hx hlo) ?_
            clear hK K
            try simp only [Act.put, List.setIfInBounds_toArray, List.set_cons_zero, List.set_cons_succ]
            replace hlo := Nat.le_trans hlo hx.size
            replace bp := Bl.ext hx bp (Nat.succ_pos _)
            replace bz := Bl.ext hx bz (Nat.succ_pos _)
            replace hs0 := hs0.ext hx
            replace ht0 := ht0.ext hx
            replace hs5 := hs5.ext hx
            replace ht5 := ht5.ext hx
            replace hs6 := hs6.ext hx
            replace ht6 := ht6.ext hx
            replace HE := HE.trans hx
            clear hx
            replace hs9 : Nc u9 a9 n9 c9 (qr.num).natAbs := hs9
            replace ht9 : Nc u9 d9 m9 k9 (qr.den) := ht9
            refine wpE_br rfl rfl (fun K hK => ?_) ?_
            · go_simp
              refine (A3.out _).mono ?_
              rintro e u12 ⟨a12, n12, c12, d12, m12, k12, rfl, hs12, ht12, hx⟩
              refine hK.out _ _ (Below.mono hx hlo) ?_
              clear hK K
              try simp only [Act.put, List.setIfInBounds_toArray, List.set_cons_zero, List.set_cons_succ]
              replace hlo := Nat.le_trans hlo hx.size
              replace bp := Bl.ext hx bp (Nat.succ_pos _)
              replace bz := Bl.ext hx bz (Nat.succ_pos _)
              replace hs0 := hs0.ext hx
              replace ht0 := ht0.ext hx
              replace hs5 := hs5.ext hx
              replace ht5 := ht5.ext hx
              replace hs6 := hs6.ext hx
              replace ht6 := ht6.ext hx
              replace hs9 := hs9.ext hx
              replace ht9 := ht9.ext hx
              replace HE := HE.trans hx
              clear hx
              replace hs12 : Nc u12 a12 n12 c12 (qr.num).natAbs := hs12
              replace ht12 : Nc u12 d12 m12 k12 (qr.den) := ht12
              refine wpE_br rfl rfl (fun K hK => ?_) ?_
              · go_simp
                refine (A4.out _ _ _ _ _ _ _ _ _ _ _ _ _ _ _ (fq_of hs9 ht9 L3.out (by omega)) (fq_of hs12 ht12 L3.out (by omega))).mono ?_
                rintro e u13 ⟨a13, n13, c13, d13, m13, k13, rfl, hs13, ht13, hx⟩
                refine hK.out _ _ (Below.mono hx hlo) ?_
                clear hK K
                try simp only [Act.put, List.setIfInBounds_toArray, List.set_cons_zero, List.set_cons_succ]
                replace hlo := Nat.le_trans hlo hx.size
                replace bp := Bl.ext hx bp (Nat.succ_pos _)
                replace bz := Bl.ext hx bz (Nat.succ_pos _)
                replace hs0 := hs0.ext hx
                replace ht0 := ht0.ext hx
                replace hs5 := hs5.ext hx
                replace ht5 := ht5.ext hx
                replace hs6 := hs6.ext hx
                replace ht6 := ht6.ext hx
                replace hs9 := hs9.ext hx
                replace ht9 := ht9.ext hx
                replace hs12 := hs12.ext hx
                replace ht12 := ht12.ext hx
                replace HE := HE.trans hx
                clear hx
                replace hs13 : Nc u13 a13 n13 c13 (qb.num).natAbs := hs13
                replace ht13 : Nc u13 d13 m13 k13 (qb.den) := ht13
                refine wpE_br rfl rfl (fun K hK => ?_) ?_
                · go_simp
                  refine (A5.out _ _ _ _ _ _ _ _ _ _ _ _ _ _ _ (fq_of hs6 ht6 L2.out (by omega)) (fq_of hs13 ht13 L4.out (by omega))).mono ?_
                  rintro e u14 ⟨a14, n14, c14, d14, m14, k14, rfl, hs14, ht14, hx⟩
                  refine hK.out _ _ (Below.mono hx hlo) ?_
                  clear hK K
                  try simp only [Act.put, List.setIfInBounds_toArray, List.set_cons_zero, List.set_cons_succ]
                  replace hlo := Nat.le_trans hlo hx.size
                  replace bp := Bl.ext hx bp (Nat.succ_pos _)
                  replace bz := Bl.ext hx bz (Nat.succ_pos _)
                  replace hs0 := hs0.ext hx
                  replace ht0 := ht0.ext hx
                  replace hs5 := hs5.ext hx
                  replace ht5 := ht5.ext hx
                  replace hs6 := hs6.ext hx
                  replace ht6 := ht6.ext hx
                  replace hs9 := hs9.ext hx
                  replace ht9 := ht9.ext hx
                  replace hs12 := hs12.ext hx
                  replace ht12 := ht12.ext hx
                  replace hs13 := hs13.ext hx
                  replace ht13 := ht13.ext hx
                  replace HE := HE.trans hx
                  clear hx
                  replace hs14 : Nc u14 a14 n14 c14 qq.num.natAbs := hs14
                  replace ht14 : Nc u14 d14 m14 k14 qq.den := ht14
                  repeat (refine wpE_q (v := ?_) rfl rfl (fun u hu => ?_) ?_; rotate_left 1; (focus (have kp := Bl.low hu bp lop; have kz := Bl.low hu bz loz; go_simp; (try rfl))); simp only [Act.put, List.setIfInBounds_toArray, List.set_cons_zero, List.set_cons_succ])
                  refine wpE_l rfl rfl (fun K hK => ?_)
                  go_simp
                  refine hK.out _ _ ((Below.refl _ _).alloc hlo _) ?_
                  clear hK K
                  try simp only [Act.put, List.setIfInBounds_toArray, List.set_cons_zero, List.set_cons_succ]
                  have gex := hlo
                  have lpx := bp.lt (Nat.succ_pos _)
                  have lzx := bz.lt (Nat.succ_pos _)
                  have l0x := HE.size
                  refine absE (fun x3 hx3 => ?_)
                  have hx : Ext u14 x3 := by rw [hx3]; exact ((Ext.refl _).alloc _)
                  have bx : Bl x3 (u14.heap.size) #[.bool false, .slice none 0 0, .slice none 0 0] := by rw [hx3]; exact (Bl.new (by simp))
                  have fx : Fz x3 (u14.heap.size) := by rw [hx3]; exact (Fz.new (by simp))
                  replace hlo := Nat.le_trans hlo hx.size
                  replace bp := Bl.ext hx bp (Nat.succ_pos _)
                  replace bz := Bl.ext hx bz (Nat.succ_pos _)
                  replace hs0 := hs0.ext hx
                  replace ht0 := ht0.ext hx
                  replace hs5 := hs5.ext hx
                  replace ht5 := ht5.ext hx
                  replace hs6 := hs6.ext hx
                  replace ht6 := ht6.ext hx
                  replace hs9 := hs9.ext hx
                  replace ht9 := ht9.ext hx
                  replace hs12 := hs12.ext hx
                  replace ht12 := ht12.ext hx
                  replace hs13 := hs13.ext hx
                  replace ht13 := ht13.ext hx
                  replace hs14 := hs14.ext hx
                  replace ht14 := ht14.ext hx
                  replace HE := HE.trans hx
                  clear hx
                  clear hx3
                  refine wpE_l rfl rfl (fun K hK => ?_)
                  go_simp
                  refine hK.out _ _ ((((Below.refl _ _).setCell (by show x1.heap.size ≤ u14.heap.size; omega) _).setCell (by show x1.heap.size ≤ u14.heap.size; omega) _).setCell (by show x1.heap.size ≤ u14.heap.size; omega) _) ?_
                  clear hK K
                  try simp only [Act.put, List.setIfInBounds_toArray, List.set_cons_zero, List.set_cons_succ]
                  refine absE (fun x4 hx4 => ?_)
                  have hbut : But x3 x4 (u14.heap.size) := by rw [hx4]; exact (But.refl _ _).store.store.store
                  have hbn : Bl x4 (u14.heap.size) #[.bool (decide (qq.num < 0)), .slice a14 n14 c14, .slice d14 m14 k14] := by rw [hx4]; exact (Bl.set (Bl.set (Bl.set bx (by simp)) (by simp)) (by simp))
                  replace hs0 := hs0.but bx (not_ints3 nb_bool nb_slice nb_slice) hbut
                  replace ht0 := ht0.but bx (not_ints3 nb_bool nb_slice nb_slice) hbut
                  replace hs5 := hs5.but bx (not_ints3 nb_bool nb_slice nb_slice) hbut
                  replace ht5 := ht5.but bx (not_ints3 nb_bool nb_slice nb_slice) hbut
                  replace hs6 := hs6.but bx (not_ints3 nb_bool nb_slice nb_slice) hbut
                  replace ht6 := ht6.but bx (not_ints3 nb_bool nb_slice nb_slice) hbut
                  replace hs9 := hs9.but bx (not_ints3 nb_bool nb_slice nb_slice) hbut
                  replace ht9 := ht9.but bx (not_ints3 nb_bool nb_slice nb_slice) hbut
                  replace hs12 := hs12.but bx (not_ints3 nb_bool nb_slice nb_slice) hbut
                  replace ht12 := ht12.but bx (not_ints3 nb_bool nb_slice nb_slice) hbut
                  replace hs13 := hs13.but bx (not_ints3 nb_bool nb_slice nb_slice) hbut
                  replace ht13 := ht13.but bx (not_ints3 nb_bool nb_slice nb_slice) hbut
                  replace hs14 := hs14.but bx (not_ints3 nb_bool nb_slice nb_slice) hbut
                  replace ht14 := ht14.but bx (not_ints3 nb_bool nb_slice nb_slice) hbut
                  replace bp := But.bl hbut bp (Nat.succ_pos _) (by omega)
                  replace bz := But.bl hbut bz (Nat.succ_pos _) (by omega)
                  replace fx : Fz x4 (u14.heap.size) := by rw [hx4]; exact (Fz.set (Fz.set (Fz.set fx)))
                  replace HE : Ext w x4 := by rw [hx4]; exact (((HE.store (by show w.heap.size ≤ u14.heap.size; omega) _).store (by show w.heap.size ≤ u14.heap.size; omega) _).store (by show w.heap.size ≤ u14.heap.size; omega) _)
                  replace hlo : x1.heap.size ≤ x4.heap.size := Nat.le_trans hlo hbut.1
                  clear bx hbut hx4
                  have bx := hbn
                  clear hbn
                  repeat (refine wpE_q (v := ?_) rfl rfl (fun u hu => ?_) ?_; rotate_left 1; (focus (have kp := Bl.low hu bp lop; have kz := Bl.low hu bz loz; go_simp; (try rfl))); simp only [Act.put, List.setIfInBounds_toArray, List.set_cons_zero, List.set_cons_succ])
                  refine wpE_done ?_
                  clear hlo
                  go_wp2_with fail
                  go_meet
                  exact ⟨_, _, _, _, _, _, _, rfl, bx, hs14, ht14, HE⟩
                · refine wpE_l rfl rfl (fun K hK => ?_)
                  go_simp
                  refine hK.out _ _ ((Below.refl _ _).alloc hlo _) ?_
                  clear hK K
                  try simp only [Act.put, List.setIfInBounds_toArray, List.set_cons_zero, List.set_cons_succ]
                  have gex := hlo
                  have lpx := bp.lt (Nat.succ_pos _)
                  have lzx := bz.lt (Nat.succ_pos _)
                  have l0x := HE.size
                  refine absE (fun x3 hx3 => ?_)
                  have hx : Ext u13 x3 := by rw [hx3]; exact ((Ext.refl _).alloc _)
                  have bx : Bl x3 (u13.heap.size) #[.bool false, .slice none 0 0, .slice none 0 0] := by rw [hx3]; exact (Bl.new (by simp))
                  have fx : Fz x3 (u13.heap.size) := by rw [hx3]; exact (Fz.new (by simp))
                  replace hlo := Nat.le_trans hlo hx.size
                  replace bp := Bl.ext hx bp (Nat.succ_pos _)
                  replace bz := Bl.ext hx bz (Nat.succ_pos _)
                  replace hs0 := hs0.ext hx
                  replace ht0 := ht0.ext hx
                  replace hs5 := hs5.ext hx
                  replace ht5 := ht5.ext hx
                  replace hs6 := hs6.ext hx
                  replace ht6 := ht6.ext hx
                  replace hs9 := hs9.ext hx
                  replace ht9 := ht9.ext hx
                  replace hs12 := hs12.ext hx
                  replace ht12 := ht12.ext hx
                  replace hs13 := hs13.ext hx
                  replace ht13 := ht13.ext hx
                  replace HE := HE.trans hx
                  clear hx
                  clear hx3
                  refine wpE_l rfl rfl (fun K hK => ?_)
                  go_simp
                  refine (A5.out _ _ _ _ _ _ _ _ _ _ _ _ _ _ _ (fq_of hs6 ht6 L2.out (by omega)) (fq_of hs13 ht13 L4.out (by omega))).mono ?_
                  rintro e u14 ⟨a14, n14, c14, d14, m14, k14, rfl, hs14, ht14, hx⟩
                  refine hK.out _ _ (Below.mono hx hlo) ?_
                  clear hK K
                  try simp only [Act.put, List.setIfInBounds_toArray, List.set_cons_zero, List.set_cons_succ]
                  replace hlo := Nat.le_trans hlo hx.size
                  replace bp := Bl.ext hx bp (Nat.succ_pos _)
                  replace bz := Bl.ext hx bz (Nat.succ_pos _)
                  replace fx := Fz.ext hx fx bx (Nat.succ_pos _)
                  replace bx := Bl.ext hx bx (Nat.succ_pos _)
                  replace hs0 := hs0.ext hx
                  replace ht0 := ht0.ext hx
                  replace hs5 := hs5.ext hx
                  replace ht5 := ht5.ext hx
                  replace hs6 := hs6.ext hx
                  replace ht6 := ht6.ext hx
                  replace hs9 := hs9.ext hx
                  replace ht9 := ht9.ext hx
                  replace hs12 := hs12.ext hx
                  replace ht12 := ht12.ext hx
                  replace hs13 := hs13.ext hx
                  replace ht13 := ht13.ext hx
                  replace HE := HE.trans hx
                  clear hx
                  replace hs14 : Nc u14 a14 n14 c14 qq.num.natAbs := hs14
                  replace ht14 : Nc u14 d14 m14 k14 qq.den := ht14
                  repeat (refine wpE_q (v := ?_) rfl rfl (fun u hu => ?_) ?_; rotate_left 1; (focus (have kp := Bl.low hu bp lop; have kz := Bl.low hu bz loz; go_simp; (try rfl))); simp only [Act.put, List.setIfInBounds_toArray, List.set_cons_zero, List.set_cons_succ])
                  refine wpE_l rfl rfl (fun K hK => ?_)
                  go_simp
                  refine hK.out _ _ ((((Below.refl _ _).setCell (by show x1.heap.size ≤ u13.heap.size; omega) _).setCell (by show x1.heap.size ≤ u13.heap.size; omega) _).setCell (by show x1.heap.size ≤ u13.heap.size; omega) _) ?_
                  clear hK K
                  try simp only [Act.put, List.setIfInBounds_toArray, List.set_cons_zero, List.set_cons_succ]
                  refine absE (fun x4 hx4 => ?_)
                  have hbut : But u14 x4 (u13.heap.size) := by rw [hx4]; exact (But.refl _ _).store.store.store
                  have hbn : Bl x4 (u13.heap.size) #[.bool (decide (qq.num < 0)), .slice a14 n14 c14, .slice d14 m14 k14] := by rw [hx4]; exact (Bl.set (Bl.set (Bl.set bx (by simp)) (by simp)) (by simp))
                  replace hs0 := hs0.but bx (not_ints3 nb_bool nb_slice nb_slice) hbut
                  replace ht0 := ht0.but bx (not_ints3 nb_bool nb_slice nb_slice) hbut
                  replace hs5 := hs5.but bx (not_ints3 nb_bool nb_slice nb_slice) hbut
                  replace ht5 := ht5.but bx (not_ints3 nb_bool nb_slice nb_slice) hbut
                  replace hs6 := hs6.but bx (not_ints3 nb_bool nb_slice nb_slice) hbut
                  replace ht6 := ht6.but bx (not_ints3 nb_bool nb_slice nb_slice) hbut
                  replace hs9 := hs9.but bx (not_ints3 nb_bool nb_slice nb_slice) hbut
                  replace ht9 := ht9.but bx (not_ints3 nb_bool nb_slice nb_slice) hbut
                  replace hs12 := hs12.but bx (not_ints3 nb_bool nb_slice nb_slice) hbut
                  replace ht12 := ht12.but bx (not_ints3 nb_bool nb_slice nb_slice) hbut
                  replace hs13 := hs13.but bx (not_ints3 nb_bool nb_slice nb_slice) hbut
                  replace ht13 := ht13.but bx (not_ints3 nb_bool nb_slice nb_slice) hbut
                  replace hs14 := hs14.but bx (not_ints3 nb_bool nb_slice nb_slice) hbut
                  replace ht14 := ht14.but bx (not_ints3 nb_bool nb_slice nb_slice) hbut
                  replace bp := But.bl hbut bp (Nat.succ_pos _) (by omega)
                  replace bz := But.bl hbut bz (Nat.succ_pos _) (by omega)
                  replace fx : Fz x4 (u13.heap.size) := by rw [hx4]; exact (Fz.set (Fz.set (Fz.set fx)))
                  replace HE : Ext w x4 := by rw [hx4]; exact (((HE.store (by show w.heap.size ≤ u13.heap.size; omega) _).store (by show w.heap.size ≤ u13.heap.size; omega) _).store (by show w.heap.size ≤ u13.heap.size; omega) _)
                  replace hlo : x1.heap.size ≤ x4.heap.size := Nat.le_trans hlo hbut.1
                  clear bx hbut hx4
                  have bx := hbn
                  clear hbn
                  repeat (refine wpE_q (v := ?_) rfl rfl (fun u hu => ?_) ?_; rotate_left 1; (focus (have kp := Bl.low hu bp lop; have kz := Bl.low hu bz loz; go_simp; (try rfl))); simp only [Act.put, List.setIfInBounds_toArray, List.set_cons_zero, List.set_cons_succ])
                  refine wpE_done ?_
                  clear hlo
                  go_wp2_with fail
                  go_meet
                  exact ⟨_, _, _, _, _, _, _, rfl, bx, hs14, ht14, HE⟩
              · refine wpE_l rfl rfl (fun K hK => ?_)
                go_simp
                refine hK.out _ _ ((Below.refl _ _).alloc hlo _) ?_
                clear hK K
                try simp only [Act.put, List.setIfInBounds_toArray, List.set_cons_zero, List.set_cons_succ]
                have gex := hlo
                have lpx := bp.lt (Nat.succ_pos _)
                have lzx := bz.lt (Nat.succ_pos _)
                have l0x := HE.size
                refine absE (fun x3 hx3 => ?_)
                have hx : Ext u12 x3 := by rw [hx3]; exact ((Ext.refl _).alloc _)
                have bx : Bl x3 (u12.heap.size) #[.bool false, .slice none 0 0, .slice none 0 0] := by rw [hx3]; exact (Bl.new (by simp))
                have fx : Fz x3 (u12.heap.size) := by rw [hx3]; exact (Fz.new (by simp))
                replace hlo := Nat.le_trans hlo hx.size
                replace bp := Bl.ext hx bp (Nat.succ_pos _)
                replace bz := Bl.ext hx bz (Nat.succ_pos _)
                replace hs0 := hs0.ext hx
                replace ht0 := ht0.ext hx
                replace hs5 := hs5.ext hx
                replace ht5 := ht5.ext hx
                replace hs6 := hs6.ext hx
                replace ht6 := ht6.ext hx
                replace hs9 := hs9.ext hx
                replace ht9 := ht9.ext hx
                replace hs12 := hs12.ext hx
                replace ht12 := ht12.ext hx
                replace HE := HE.trans hx
                clear hx
                clear hx3
                refine wpE_l rfl rfl (fun K hK => ?_)
                go_simp
                refine (A4.out _ _ _ _ _ _ _ _ _ _ _ _ _ _ _ (fq_of hs9 ht9 L3.out (by omega)) (fq_of hs12 ht12 L3.out (by omega))).mono ?_
                rintro e u13 ⟨a13, n13, c13, d13, m13, k13, rfl, hs13, ht13, hx⟩
                refine hK.out _ _ (Below.mono hx hlo) ?_
                clear hK K
                try simp only [Act.put, List.setIfInBounds_toArray, List.set_cons_zero, List.set_cons_succ]
                replace hlo := Nat.le_trans hlo hx.size
                replace bp := Bl.ext hx bp (Nat.succ_pos _)
                replace bz := Bl.ext hx bz (Nat.succ_pos _)
                replace fx := Fz.ext hx fx bx (Nat.succ_pos _)
                replace bx := Bl.ext hx bx (Nat.succ_pos _)
                replace hs0 := hs0.ext hx
                replace ht0 := ht0.ext hx
                replace hs5 := hs5.ext hx
                replace ht5 := ht5.ext hx
                replace hs6 := hs6.ext hx
                replace ht6 := ht6.ext hx
                replace hs9 := hs9.ext hx
                replace ht9 := ht9.ext hx
                replace hs12 := hs12.ext hx
                replace ht12 := ht12.ext hx
                replace HE := HE.trans hx
                clear hx
                replace hs13 : Nc u13 a13 n13 c13 (qb.num).natAbs := hs13
                replace ht13 : Nc u13 d13 m13 k13 (qb.den) := ht13
                refine wpE_l rfl rfl (fun K hK => ?_)
                go_simp
                refine (A5.out _ _ _ _ _ _ _ _ _ _ _ _ _ _ _ (fq_of hs6 ht6 L2.out (by omega)) (fq_of hs13 ht13 L4.out (by omega))).mono ?_
                rintro e u14 ⟨a14, n14, c14, d14, m14, k14, rfl, hs14, ht14, hx⟩
                refine hK.out _ _ (Below.mono hx hlo) ?_
                clear hK K
                try simp only [Act.put, List.setIfInBounds_toArray, List.set_cons_zero, List.set_cons_succ]
                replace hlo := Nat.le_trans hlo hx.size
                replace bp := Bl.ext hx bp (Nat.succ_pos _)
                replace bz := Bl.ext hx bz (Nat.succ_pos _)
                replace fx := Fz.ext hx fx bx (Nat.succ_pos _)
                replace bx := Bl.ext hx bx (Nat.succ_pos _)
                replace hs0 := hs0.ext hx
                replace ht0 := ht0.ext hx
                replace hs5 := hs5.ext hx
                replace ht5 := ht5.ext hx
                replace hs6 := hs6.ext hx
                replace ht6 := ht6.ext hx
                replace hs9 := hs9.ext hx
                replace ht9 := ht9.ext hx
                replace hs12 := hs12.ext hx
                replace ht12 := ht12.ext hx
                replace hs13 := hs13.ext hx
                replace ht13 := ht13.ext hx
                replace HE := HE.trans hx
                clear hx
                replace hs14 : Nc u14 a14 n14 c14 qq.num.natAbs := hs14
                replace ht14 : Nc u14 d14 m14 k14 qq.den := ht14
                repeat (refine wpE_q (v := ?_) rfl rfl (fun u hu => ?_) ?_; rotate_left 1; (focus (have kp := Bl.low hu bp lop; have kz := Bl.low hu bz loz; go_simp; (try rfl))); simp only [Act.put, List.setIfInBounds_toArray, List.set_cons_zero, List.set_cons_succ])
                refine wpE_l rfl rfl (fun K hK => ?_)
                go_simp
                refine hK.out _ _ ((((Below.refl _ _).setCell (by show x1.heap.size ≤ u12.heap.size; omega) _).setCell (by show x1.heap.size ≤ u12.heap.size; omega) _).setCell (by show x1.heap.size ≤ u12.heap.size; omega) _) ?_
                clear hK K
                try simp only [Act.put, List.setIfInBounds_toArray, List.set_cons_zero, List.set_cons_succ]
                refine absE (fun x4 hx4 => ?_)
                have hbut : But u14 x4 (u12.heap.size) := by rw [hx4]; exact (But.refl _ _).store.store.store
                have hbn : Bl x4 (u12.heap.size) #[.bool (decide (qq.num < 0)), .slice a14 n14 c14, .slice d14 m14 k14] := by rw [hx4]; exact (Bl.set (Bl.set (Bl.set bx (by simp)) (by simp)) (by simp))
                replace hs0 := hs0.but bx (not_ints3 nb_bool nb_slice nb_slice) hbut
                replace ht0 := ht0.but bx (not_ints3 nb_bool nb_slice nb_slice) hbut
                replace hs5 := hs5.but bx (not_ints3 nb_bool nb_slice nb_slice) hbut
                replace ht5 := ht5.but bx (not_ints3 nb_bool nb_slice nb_slice) hbut
                replace hs6 := hs6.but bx (not_ints3 nb_bool nb_slice nb_slice) hbut
                replace ht6 := ht6.but bx (not_ints3 nb_bool nb_slice nb_slice) hbut
                replace hs9 := hs9.but bx (not_ints3 nb_bool nb_slice nb_slice) hbut
                replace ht9 := ht9.but bx (not_ints3 nb_bool nb_slice nb_slice) hbut
                replace hs12 := hs12.but bx (not_ints3 nb_bool nb_slice nb_slice) hbut
                replace ht12 := ht12.but bx (not_ints3 nb_bool nb_slice nb_slice) hbut
                replace hs13 := hs13.but bx (not_ints3 nb_bool nb_slice nb_slice) hbut
                replace ht13 := ht13.but bx (not_ints3 nb_bool nb_slice nb_slice) hbut
                replace hs14 := hs14.but bx (not_ints3 nb_bool nb_slice nb_slice) hbut
                replace ht14 := ht14.but bx (not_ints3 nb_bool nb_slice nb_slice) hbut
                replace bp := But.bl hbut bp (Nat.succ_pos _) (by omega)
                replace bz := But.bl hbut bz (Nat.succ_pos _) (by omega)
                replace fx : Fz x4 (u12.heap.size) := by rw [hx4]; exact (Fz.set (Fz.set (Fz.set fx)))
                replace HE : Ext w x4 := by rw [hx4]; exact (((HE.store (by show w.heap.size ≤ u12.heap.size; omega) _).store (by show w.heap.size ≤ u12.heap.size; omega) _).store (by show w.heap.size ≤ u12.heap.size; omega) _)
                replace hlo : x1.heap.size ≤ x4.heap.size := Nat.le_trans hlo hbut.1
                clear bx hbut hx4
                have bx := hbn
                clear hbn
                repeat (refine wpE_q (v := ?_) rfl rfl (fun u hu => ?_) ?_; rotate_left 1; (focus (have kp := Bl.low hu bp lop; have kz := Bl.low hu bz loz; go_simp; (try rfl))); simp only [Act.put, List.setIfInBounds_toArray, List.set_cons_zero, List.set_cons_succ])
                refine wpE_done ?_
                clear hlo
                go_wp2_with fail
                go_meet
                exact ⟨_, _, _, _, _, _, _, rfl, bx, hs14, ht14, HE⟩
            · refine wpE_l rfl rfl (fun K hK => ?_)
              go_simp
              refine hK.out _ _ ((Below.refl _ _).alloc hlo _) ?_
              clear hK K
              try simp only [Act.put, List.setIfInBounds_toArray, List.set_cons_zero, List.set_cons_succ]
              have gex := hlo
              have lpx := bp.lt (Nat.succ_pos _)
              have lzx := bz.lt (Nat.succ_pos _)
              have l0x := HE.size
              refine absE (fun x3 hx3 => ?_)
              have hx : Ext u9 x3 := by rw [hx3]; exact ((Ext.refl _).alloc _)
              have bx : Bl x3 (u9.heap.size) #[.bool false, .slice none 0 0, .slice none 0 0] := by rw [hx3]; exact (Bl.new (by simp))
              have fx : Fz x3 (u9.heap.size) := by rw [hx3]; exact (Fz.new (by simp))
              replace hlo := Nat.le_trans hlo hx.size
              replace bp := Bl.ext hx bp (Nat.succ_pos _)
              replace bz := Bl.ext hx bz (Nat.succ_pos _)
              replace hs0 := hs0.ext hx
              replace ht0 := ht0.ext hx
              replace hs5 := hs5.ext hx
              replace ht5 := ht5.ext hx
              replace hs6 := hs6.ext hx
              replace ht6 := ht6.ext hx
              replace hs9 := hs9.ext hx
              replace ht9 := ht9.ext hx
              replace HE := HE.trans hx
              clear hx
              clear hx3
              refine wpE_l rfl rfl (fun K hK => ?_)
              go_simp
              refine (A3.out _).mono ?_
              rintro e u12 ⟨a12, n12, c12, d12, m12, k12, rfl, hs12, ht12, hx⟩
              refine hK.out _ _ (Below.mono hx hlo) ?_
              clear hK K
              try simp only [Act.put, List.setIfInBounds_toArray, List.set_cons_zero, List.set_cons_succ]
              replace hlo := Nat.le_trans hlo hx.size
              replace bp := Bl.ext hx bp (Nat.succ_pos _)
              replace bz := Bl.ext hx bz (Nat.succ_pos _)
              replace fx := Fz.ext hx fx bx (Nat.succ_pos _)
              replace bx := Bl.ext hx bx (Nat.succ_pos _)
              replace hs0 := hs0.ext hx
              replace ht0 := ht0.ext hx
              replace hs5 := hs5.ext hx
              replace ht5 := ht5.ext hx
              replace hs6 := hs6.ext hx
              replace ht6 := ht6.ext hx
              replace hs9 := hs9.ext hx
              replace ht9 := ht9.ext hx
              replace HE := HE.trans hx
              clear hx
              replace hs12 : Nc u12 a12 n12 c12 (qr.num).natAbs := hs12
              replace ht12 : Nc u12 d12 m12 k12 (qr.den) := ht12
              refine wpE_l rfl rfl (fun K hK => ?_)
              go_simp
              refine (A4.out _ _ _ _ _ _ _ _ _ _ _ _ _ _ _ (fq_of hs9 ht9 L3.out (by omega)) (fq_of hs12 ht12 L3.out (by omega))).mono ?_
              rintro e u13 ⟨a13, n13, c13, d13, m13, k13, rfl, hs13, ht13, hx⟩
              refine hK.out _ _ (Below.mono hx hlo) ?_
              clear hK K
              try simp only [Act.put, List.setIfInBounds_toArray, List.set_cons_zero, List.set_cons_succ]
              replace hlo := Nat.le_trans hlo hx.size
              replace bp := Bl.ext hx bp (Nat.succ_pos _)
              replace bz := Bl.ext hx bz (Nat.succ_pos _)
              replace fx := Fz.ext hx fx bx (Nat.succ_pos _)
              replace bx := Bl.ext hx bx (Nat.succ_pos _)
              replace hs0 := hs0.ext hx
              replace ht0 := ht0.ext hx
              replace hs5 := hs5.ext hx
              replace ht5 := ht5.ext hx
              replace hs6 := hs6.ext hx
              replace ht6 := ht6.ext hx
              replace hs9 := hs9.ext hx
              replace ht9 := ht9.ext hx
              replace hs12 := hs12.ext hx
              replace ht12 := ht12.ext hx
              replace HE := HE.trans hx
              clear hx
              replace hs13 : Nc u13 a13 n13 c13 (qb.num).natAbs := hs13
              replace ht13 : Nc u13 d13 m13 k13 (qb.den) := ht13
              refine wpE_l rfl rfl (fun K hK => ?_)
              go_simp
              refine (A5.out _ _ _ _ _ _ _ _ _ _ _ _ _ _ _ (fq_of hs6 ht6 L2.out (by omega)) (fq_of hs13 ht13 L4.out (by omega))).mono ?_
              rintro e u14 ⟨a14, n14, c14, d14, m14, k14, rfl, hs14, ht14, hx⟩
              refine hK.out _ _ (Below.mono hx hlo) ?_
              clear hK K
              try simp only [Act.put, List.setIfInBounds_toArray, List.set_cons_zero, List.set_cons_succ]
              replace hlo := Nat.le_trans hlo hx.size
              replace bp := Bl.ext hx bp (Nat.succ_pos _)
              replace bz := Bl.ext hx bz (Nat.succ_pos _)
              replace fx := Fz.ext hx fx bx (Nat.succ_pos _)
              replace bx := Bl.ext hx bx (Nat.succ_pos _)
              replace hs0 := hs0.ext hx
              replace ht0 := ht0.ext hx
              replace hs5 := hs5.ext hx
              replace ht5 := ht5.ext hx
              replace hs6 := hs6.ext hx
              replace ht6 := ht6.ext hx
              replace hs9 := hs9.ext hx
              replace ht9 := ht9.ext hx
              replace hs12 := hs12.ext hx
              replace ht12 := ht12.ext hx
              replace hs13 := hs13.ext hx
              replace ht13 := ht13.ext hx
              replace HE := HE.trans hx
              clear hx
              replace hs14 : Nc u14 a14 n14 c14 qq.num.natAbs := hs14
              replace ht14 : Nc u14 d14 m14 k14 qq.den := ht14
              repeat (refine wpE_q (v := ?_) rfl rfl (fun u hu => ?_) ?_; rotate_left 1; (focus (have kp := Bl.low hu bp lop; have kz := Bl.low hu bz loz; go_simp; (try rfl))); simp only [Act.put, List.setIfInBounds_toArray, List.set_cons_zero, List.set_cons_succ])
              refine wpE_l rfl rfl (fun K hK => ?_)
              go_simp
              refine hK.out _ _ ((((Below.refl _ _).setCell (by show x1.heap.size ≤ u9.heap.size; omega) _).setCell (by show x1.heap.size ≤ u9.heap.size; omega) _).setCell (by show x1.heap.size ≤ u9.heap.size; omega) _) ?_
              clear hK K
              try simp only [Act.put, List.setIfInBounds_toArray, List.set_cons_zero, List.set_cons_succ]
              refine absE (fun x4 hx4 => ?_)
              have hbut : But u14 x4 (u9.heap.size) := by rw [hx4]; exact (But.refl _ _).store.store.store
              have hbn : Bl x4 (u9.heap.size) #[.bool (decide (qq.num < 0)), .slice a14 n14 c14, .slice d14 m14 k14] := by rw [hx4]; exact (Bl.set (Bl.set (Bl.set bx (by simp)) (by simp)) (by simp))
              replace hs0 := hs0.but bx (not_ints3 nb_bool nb_slice nb_slice) hbut
              replace ht0 := ht0.but bx (not_ints3 nb_bool nb_slice nb_slice) hbut
              replace hs5 := hs5.but bx (not_ints3 nb_bool nb_slice nb_slice) hbut
              replace ht5 := ht5.but bx (not_ints3 nb_bool nb_slice nb_slice) hbut
              replace hs6 := hs6.but bx (not_ints3 nb_bool nb_slice nb_slice) hbut
              replace ht6 := ht6.but bx (not_ints3 nb_bool nb_slice nb_slice) hbut
              replace hs9 := hs9.but bx (not_ints3 nb_bool nb_slice nb_slice) hbut
              replace ht9 := ht9.but bx (not_ints3 nb_bool nb_slice nb_slice) hbut
              replace hs12 := hs12.but bx (not_ints3 nb_bool nb_slice nb_slice) hbut
              replace ht12 := ht12.but bx (not_ints3 nb_bool nb_slice nb_slice) hbut
              replace hs13 := hs13.but bx (not_ints3 nb_bool nb_slice nb_slice) hbut
              replace ht13 := ht13.but bx (not_ints3 nb_bool nb_slice nb_slice) hbut
              replace hs14 := hs14.but bx (not_ints3 nb_bool nb_slice nb_slice) hbut
              replace ht14 := ht14.but bx (not_ints3 nb_bool nb_slice nb_slice) hbut
              replace bp := But.bl hbut bp (Nat.succ_pos _) (by omega)
              replace bz := But.bl hbut bz (Nat.succ_pos _) (by omega)
              replace fx : Fz x4 (u9.heap.size) := by rw [hx4]; exact (Fz.set (Fz.set (Fz.set fx)))
              replace HE : Ext w x4 := by rw [hx4]; exact (((HE.store (by show w.heap.size ≤ u9.heap.size; omega) _).store (by show w.heap.size ≤ u9.heap.size; omega) _).store (by show w.heap.size ≤ u9.heap.size; omega) _)
              replace hlo : x1.heap.size ≤ x4.heap.size := Nat.le_trans hlo hbut.1
              clear bx hbut hx4
              have bx := hbn
              clear hbn
              repeat (refine wpE_q (v := ?_) rfl rfl (fun u hu => ?_) ?_; rotate_left 1; (focus (have kp := Bl.low hu bp lop; have kz := Bl.low hu bz loz; go_simp; (try rfl))); simp only [Act.put, List.setIfInBounds_toArray, List.set_cons_zero, List.set_cons_succ])
              refine wpE_done ?_
              clear hlo
              go_wp2_with fail
              go_meet
              exact ⟨_, _, _, _, _, _, _, rfl, bx, hs14, ht14, HE⟩
          · refine wpE_l rfl rfl (fun K hK => ?_)
            go_simp
            refine hK.out _ _ ((Below.refl _ _).alloc hlo _) ?_
            clear hK K
            try simp only [Act.put, List.setIfInBounds_toArray, List.set_cons_zero, List.set_cons_succ]
            have gex := hlo
            have lpx := bp.lt (Nat.succ_pos _)
            have lzx := bz.lt (Nat.succ_pos _)
            have l0x := HE.size
            refine absE (fun x3 hx3 => ?_)
            have hx : Ext u6 x3 := by rw [hx3]; exact ((Ext.refl _).alloc _)
            have bx : Bl x3 (u6.heap.size) #[.bool false, .slice none 0 0, .slice none 0 0] := by rw [hx3]; exact (Bl.new (by simp))
            have fx : Fz x3 (u6.heap.size) := by rw [hx3]; exact (Fz.new (by simp))
            replace hlo := Nat.le_trans hlo hx.size
            replace bp := Bl.ext hx bp (Nat.succ_pos _)
            replace bz := Bl.ext hx bz (Nat.succ_pos _)
            replace hs0 := hs0.ext hx
            replace ht0 := ht0.ext hx
            replace hs5 := hs5.ext hx
            replace ht5 := ht5.ext hx
            replace hs6 := hs6.ext hx
            replace ht6 := ht6.ext hx
            replace HE := HE.trans hx
            clear hx
            clear hx3
            refine wpE_l rfl rfl (fun K hK => ?_)
            go_simp
            refine (A3.out _).mono ?_
            rintro e u9 ⟨a9, n9, c9, d9, m9, k9, rfl, hs9, ht9, hx⟩
            refine hK.out _ _ (Below.mono hx hlo) ?_
            clear hK K
            try simp only [Act.put, List.setIfInBounds_toArray, List.set_cons_zero, List.set_cons_succ]
            replace hlo := Nat.le_trans hlo hx.size
            replace bp := Bl.ext hx bp (Nat.succ_pos _)
            replace bz := Bl.ext hx bz (Nat.succ_pos _)
            replace fx := Fz.ext hx fx bx (Nat.succ_pos _)
            replace bx := Bl.ext hx bx (Nat.succ_pos _)
            replace hs0 := hs0.ext hx
            replace ht0 := ht0.ext hx
            replace hs5 := hs5.ext hx
            replace ht5 := ht5.ext hx
            replace hs6 := hs6.ext hx
            replace ht6 := ht6.ext hx
            replace HE := HE.trans hx
            clear hx
            replace hs9 : Nc u9 a9 n9 c9 (qr.num).natAbs := hs9
            replace ht9 : Nc u9 d9 m9 k9 (qr.den) := ht9
            refine wpE_l rfl rfl (fun K hK => ?_)
            go_simp
            refine (A3.out _).mono ?_
            rintro e u12 ⟨a12, n12, c12, d12, m12, k12, rfl, hs12, ht12, hx⟩
            refine hK.out _ _ (Below.mono hx hlo) ?_
            clear hK K
            try simp only [Act.put, List.setIfInBounds_toArray, List.set_cons_zero, List.set_cons_succ]
            replace hlo := Nat.le_trans hlo hx.size
            replace bp := Bl.ext hx bp (Nat.succ_pos _)
            replace bz := Bl.ext hx bz (Nat.succ_pos _)
            replace fx := Fz.ext hx fx bx (Nat.succ_pos _)
            replace bx := Bl.ext hx bx (Nat.succ_pos _)
            replace hs0 := hs0.ext hx
            replace ht0 := ht0.ext hx
            replace hs5 := hs5.ext hx
            replace ht5 := ht5.ext hx
            replace hs6 := hs6.ext hx
            replace ht6 := ht6.ext hx
            replace hs9 := hs9.ext hx
            replace ht9 := ht9.ext hx
            replace HE := HE.trans hx
            clear hx
            replace hs12 : Nc u12 a12 n12 c12 (qr.num).natAbs := hs12
            replace ht12 : Nc u12 d12 m12 k12 (qr.den) := ht12
            refine wpE_l rfl rfl (fun K hK => ?_)
            go_simp
            refine (A4.out _ _ _ _ _ _ _ _ _ _ _ _ _ _ _ (fq_of hs9 ht9 L3.out (by omega)) (fq_of hs12 ht12 L3.out (by omega))).mono ?_
            rintro e u13 ⟨a13, n13, c13, d13, m13, k13, rfl, hs13, ht13, hx⟩
            refine hK.out _ _ (Below.mono hx hlo) ?_
            clear hK K
            try simp only [Act.put, List.setIfInBounds_toArray, List.set_cons_zero, List.set_cons_succ]
            replace hlo := Nat.le_trans hlo hx.size
            replace bp := Bl.ext hx bp (Nat.succ_pos _)
            replace bz := Bl.ext hx bz (Nat.succ_pos _)
            replace fx := Fz.ext hx fx bx (Nat.succ_pos _)
            replace bx := Bl.ext hx bx (Nat.succ_pos _)
            replace hs0 := hs0.ext hx
            replace ht0 := ht0.ext hx
            replace hs5 := hs5.ext hx
            replace ht5 := ht5.ext hx
            replace hs6 := hs6.ext hx
            replace ht6 := ht6.ext hx
            replace hs9 := hs9.ext hx
            replace ht9 := ht9.ext hx
            replace hs12 := hs12.ext hx
            replace ht12 := ht12.ext hx
            replace HE := HE.trans hx
            clear hx
            replace hs13 : Nc u13 a13 n13 c13 (qb.num).natAbs := hs13
            replace ht13 : Nc u13 d13 m13 k13 (qb.den) := ht13
            refine wpE_l rfl rfl (fun K hK => ?_)
            go_simp
            refine (A5.out _ _ _ _ _ _ _ _ _ _ _ _ _ _ _ (fq_of hs6 ht6 L2.out (by omega)) (fq_of hs13 ht13 L4.out (by omega))).mono ?_
            rintro e u14 ⟨a14, n14, c14, d14, m14, k14, rfl, hs14, ht14, hx⟩
            refine hK.out _ _ (Below.mono hx hlo) ?_
            clear hK K
            try simp only [Act.put, List.setIfInBounds_toArray, List.set_cons_zero, List.set_cons_succ]
            replace hlo := Nat.le_trans hlo hx.size
            replace bp := Bl.ext hx bp (Nat.succ_pos _)
            replace bz := Bl.ext hx bz (Nat.succ_pos _)
            replace fx := Fz.ext hx fx bx (Nat.succ_pos _)
            replace bx := Bl.ext hx bx (Nat.succ_pos _)
            replace hs0 := hs0.ext hx
            replace ht0 := ht0.ext hx
            replace hs5 := hs5.ext hx
            replace ht5 := ht5.ext hx
            replace hs6 := hs6.ext hx
            replace ht6 := ht6.ext hx
            replace hs9 := hs9.ext hx
            replace ht9 := ht9.ext hx
            replace hs12 := hs12.ext hx
            replace ht12 := ht12.ext hx
            replace hs13 := hs13.ext hx
            replace ht13 := ht13.ext hx
            replace HE := HE.trans hx
            clear hx
            replace hs14 : Nc u14 a14 n14 c14 qq.num.natAbs := hs14
            replace ht14 : Nc u14 d14 m14 k14 qq.den := ht14
            repeat (refine wpE_q (v := ?_) rfl rfl (fun u hu => ?_) ?_; rotate_left 1; (focus (have kp := Bl.low hu bp lop; have kz := Bl.low hu bz loz; go_simp; (try rfl))); simp only [Act.put, List.setIfInBounds_toArray, List.set_cons_zero, List.set_cons_succ])
            refine wpE_l rfl rfl (fun K hK => ?_)
            go_simp
            refine hK.out _ _ ((((Below.refl _ _).setCell (by show x1.heap.size ≤ u6.heap.size; omega) _).setCell (by show x1.heap.size ≤ u6.heap.size; omega) _).setCell (by show x1.heap.size ≤ u6.heap.size; omega) _) ?_
            clear hK K
            try simp only [Act.put, List.setIfInBounds_toArray, List.set_cons_zero, List.set_cons_succ]
            refine absE (fun x4 hx4 => ?_)
            have hbut : But u14 x4 (u6.heap.size) := by rw [hx4]; exact (But.refl _ _).store.store.store
            have hbn : Bl x4 (u6.heap.size) #[.bool (decide (qq.num < 0)), .slice a14 n14 c14, .slice d14 m14 k14] := by rw [hx4]; exact (Bl.set (Bl.set (Bl.set bx (by simp)) (by simp)) (by simp))
            replace hs0 := hs0.but bx (not_ints3 nb_bool nb_slice nb_slice) hbut
            replace ht0 := ht0.but bx (not_ints3 nb_bool nb_slice nb_slice) hbut
            replace hs5 := hs5.but bx (not_ints3 nb_bool nb_slice nb_slice) hbut
            replace ht5 := ht5.but bx (not_ints3 nb_bool nb_slice nb_slice) hbut
            replace hs6 := hs6.but bx (not_ints3 nb_bool nb_slice nb_slice) hbut
            replace ht6 := ht6.but bx (not_ints3 nb_bool nb_slice nb_slice) hbut
            replace hs9 := hs9.but bx (not_ints3 nb_bool nb_slice nb_slice) hbut
            replace ht9 := ht9.but bx (not_ints3 nb_bool nb_slice nb_slice) hbut
            replace hs12 := hs12.but bx (not_ints3 nb_bool nb_slice nb_slice) hbut
            replace ht12 := ht12.but bx (not_ints3 nb_bool nb_slice nb_slice) hbut
            replace hs13 := hs13.but bx (not_ints3 nb_bool nb_slice nb_slice) hbut
            replace ht13 := ht13.but bx (not_ints3 nb_bool nb_slice nb_slice) hbut
            replace hs14 := hs14.but bx (not_ints3 nb_bool nb_slice nb_slice) hbut
            replace ht14 := ht14.but bx (not_ints3 nb_bool nb_slice nb_slice) hbut
            replace bp := But.bl hbut bp (Nat.succ_pos _) (by omega)
            replace bz := But.bl hbut bz (Nat.succ_pos _) (by omega)
            replace fx : Fz x4 (u6.heap.size) := by rw [hx4]; exact (Fz.set (Fz.set (Fz.set fx)))
            replace HE : Ext w x4 := by rw [hx4]; exact (((HE.store (by show w.heap.size ≤ u6.heap.size; omega) _).store (by show w.heap.size ≤ u6.heap.size; omega) _).store (by show w.heap.size ≤ u6.heap.size; omega) _)
            replace hlo : x1.heap.size ≤ x4.heap.size := Nat.le_trans hlo hbut.1
            clear bx hbut hx4
            have bx := hbn
            clear hbn
            repeat (refine wpE_q (v := ?_) rfl rfl (fun u hu => ?_) ?_; rotate_left 1; (focus (have kp := Bl.low hu bp lop; have kz := Bl.low hu bz loz; go_simp; (try rfl))); simp only [Act.put, List.setIfInBounds_toArray, List.set_cons_zero, List.set_cons_succ])
            refine wpE_done ?_
            clear hlo
            go_wp2_with fail
            go_meet
            exact ⟨_, _, _, _, _, _, _, rfl, bx, hs14, ht14, HE⟩
        · refine wpE_l rfl rfl (fun K hK => ?_)
          go_simp
          refine hK.out _ _ ((Below.refl _ _).alloc hlo _) ?_
          clear hK K
          try simp only [Act.put, List.setIfInBounds_toArray, List.set_cons_zero, List.set_cons_succ]
          have gex := hlo
          have lpx := bp.lt (Nat.succ_pos _)
          have lzx := bz.lt (Nat.succ_pos _)
          have l0x := HE.size
          refine absE (fun x3 hx3 => ?_)
          have hx : Ext u5 x3 := by rw [hx3]; exact ((Ext.refl _).alloc _)
          have bx : Bl x3 (u5.heap.size) #[.bool false, .slice none 0 0, .slice none 0 0] := by rw [hx3]; exact (Bl.new (by simp))
          have fx : Fz x3 (u5.heap.size) := by rw [hx3]; exact (Fz.new (by simp))
          replace hlo := Nat.le_trans hlo hx.size
          replace bp := Bl.ext hx bp (Nat.succ_pos _)
          replace bz := Bl.ext hx bz (Nat.succ_pos _)
          replace hs0 := hs0.ext hx
          replace ht0 := ht0.ext hx
          replace hs5 := hs5.ext hx
          replace ht5 := ht5.ext hx
          replace HE := HE.trans hx
          clear hx
          clear hx3
          refine wpE_l rfl rfl (fun K hK => ?_)
          go_simp
          refine (A2.out _ _ _ _ _ _ _ _ _ _ _ _ _ _ _ (fq_of hs0 ht0 L0.out (by omega)) (fq_of hs5 ht5 L1.out (by omega))).mono ?_
          rintro e u6 ⟨a6, n6, c6, d6, m6, k6, rfl, hs6, ht6, hx⟩
          refine hK.out _ _ (Below.mono hx hlo) ?_
          clear hK K
          try simp only [Act.put, List.setIfInBounds_toArray, List.set_cons_zero, List.set_cons_succ]
          replace hlo := Nat.le_trans hlo hx.size
          replace bp := Bl.ext hx bp (Nat.succ_pos _)
          replace bz := Bl.ext hx bz (Nat.succ_pos _)
          replace fx := Fz.ext hx fx bx (Nat.succ_pos _)
          replace bx := Bl.ext hx bx (Nat.succ_pos _)
          replace hs0 := hs0.ext hx
          replace ht0 := ht0.ext hx
          replace hs5 := hs5.ext hx
          replace ht5 := ht5.ext hx
          replace HE := HE.trans hx
          clear hx
          replace hs6 : Nc u6 a6 n6 c6 (qa.num).natAbs := hs6
          replace ht6 : Nc u6 d6 m6 k6 (qa.den) := ht6
          refine wpE_l rfl rfl (fun K hK => ?_)
          go_simp
          refine (A3.out _).mono ?_
          rintro e u9 ⟨a9, n9, c9, d9, m9, k9, rfl, hs9, ht9, hx⟩
          refine hK.out _ _ (Below.mono hx hlo) ?_
          clear hK K
          try simp only [Act.put, List.setIfInBounds_toArray, List.set_cons_zero, List.set_cons_succ]
          replace hlo := Nat.le_trans hlo hx.size
          replace bp := Bl.ext hx bp (Nat.succ_pos _)
          replace bz := Bl.ext hx bz (Nat.succ_pos _)
          replace fx := Fz.ext hx fx bx (Nat.succ_pos _)
          replace bx := Bl.ext hx bx (Nat.succ_pos _)
          replace hs0 := hs0.ext hx
          replace ht0 := ht0.ext hx
          replace hs5 := hs5.ext hx
          replace ht5 := ht5.ext hx
          replace hs6 := hs6.ext hx
          replace ht6 := ht6.ext hx
          replace HE := HE.trans hx
          clear hx
          replace hs9 : Nc u9 a9 n9 c9 (qr.num).natAbs := hs9
          replace ht9 : Nc u9 d9 m9 k9 (qr.den) := ht9
          refine wpE_l rfl rfl (fun K hK => ?_)
          go_simp
          refine (A3.out _).mono ?_
          rintro e u12 ⟨a12, n12, c12, d12, m12, k12, rfl, hs12, ht12, hx⟩
          refine hK.out _ _ (Below.mono hx hlo) ?_
          clear hK K
          try simp only [Act.put, List.setIfInBounds_toArray, List.set_cons_zero, List.set_cons_succ]
          replace hlo := Nat.le_trans hlo hx.size
          replace bp := Bl.ext hx bp (Nat.succ_pos _)
          replace bz := Bl.ext hx bz (Nat.succ_pos _)
          replace fx := Fz.ext hx fx bx (Nat.succ_pos _)
          replace bx := Bl.ext hx bx (Nat.succ_pos _)
          replace hs0 := hs0.ext hx
          replace ht0 := ht0.ext hx
          replace hs5 := hs5.ext hx
          replace ht5 := ht5.ext hx
          replace hs6 := hs6.ext hx
          replace ht6 := ht6.ext hx
          replace hs9 := hs9.ext hx
          replace ht9 := ht9.ext hx
          replace HE := HE.trans hx
          clear hx
          replace hs12 : Nc u12 a12 n12 c12 (qr.num).natAbs := hs12
          replace ht12 : Nc u12 d12 m12 k12 (qr.den) := ht12
          refine wpE_l rfl rfl (fun K hK => ?_)
          go_simp
          refine (A4.out _ _ _ _ _ _ _ _ _ _ _ _ _ _ _ (fq_of hs9 ht9 L3.out (by omega)) (fq_of hs12 ht12 L3.out (by omega))).mono ?_
          rintro e u13 ⟨a13, n13, c13, d13, m13, k13, rfl, hs13, ht13, hx⟩
          refine hK.out _ _ (Below.mono hx hlo) ?_
          clear hK K
          try simp only [Act.put, List.setIfInBounds_toArray, List.set_cons_zero, List.set_cons_succ]
          replace hlo := Nat.le_trans hlo hx.size
          replace bp := Bl.ext hx bp (Nat.succ_pos _)
          replace bz := Bl.ext hx bz (Nat.succ_pos _)
          replace fx := Fz.ext hx fx bx (Nat.succ_pos _)
          replace bx := Bl.ext hx bx (Nat.succ_pos _)
          replace hs0 := hs0.ext hx
          replace ht0 := ht0.ext hx
          replace hs5 := hs5.ext hx
          replace ht5 := ht5.ext hx
          replace hs6 := hs6.ext hx
          replace ht6 := ht6.ext hx
          replace hs9 := hs9.ext hx
          replace ht9 := ht9.ext hx
          replace hs12 := hs12.ext hx
          replace ht12 := ht12.ext hx
          replace HE := HE.trans hx
          clear hx
          replace hs13 : Nc u13 a13 n13 c13 (qb.num).natAbs := hs13
          replace ht13 : Nc u13 d13 m13 k13 (qb.den) := ht13
          refine wpE_l rfl rfl (fun K hK => ?_)
          go_simp
          refine (A5.out _ _ _ _ _ _ _ _ _ _ _ _ _ _ _ (fq_of hs6 ht6 L2.out (by omega)) (fq_of hs13 ht13 L4.out (by omega))).mono ?_
          rintro e u14 ⟨a14, n14, c14, d14, m14, k14, rfl, hs14, ht14, hx⟩
          refine hK.out _ _ (Below.mono hx hlo) ?_
          clear hK K
          try simp only [Act.put, List.setIfInBounds_toArray, List.set_cons_zero, List.set_cons_succ]
          replace hlo := Nat.le_trans hlo hx.size
          replace bp := Bl.ext hx bp (Nat.succ_pos _)
          replace bz := Bl.ext hx bz (Nat.succ_pos _)
          replace fx := Fz.ext hx fx bx (Nat.succ_pos _)
          replace bx := Bl.ext hx bx (Nat.succ_pos _)
          replace hs0 := hs0.ext hx
          replace ht0 := ht0.ext hx
          replace hs5 := hs5.ext hx
          replace ht5 := ht5.ext hx
          replace hs6 := hs6.ext hx
          replace ht6 := ht6.ext hx
          replace hs9 := hs9.ext hx
          replace ht9 := ht9.ext hx
          replace hs12 := hs12.ext hx
          replace ht12 := ht12.ext hx
          replace hs13 := hs13.ext hx
          replace ht13 := ht13.ext hx
          replace HE := HE.trans hx
          clear hx
          replace hs14 : Nc u14 a14 n14 c14 qq.num.natAbs := hs14
          replace ht14 : Nc u14 d14 m14 k14 qq.den := ht14
          repeat (refine wpE_q (v := ?_) rfl rfl (fun u hu => ?_) ?_; rotate_left 1; (focus (have kp := Bl.low hu bp lop; have kz := Bl.low hu bz loz; go_simp; (try rfl))); simp only [Act.put, List.setIfInBounds_toArray, List.set_cons_zero, List.set_cons_succ])
          refine wpE_l rfl rfl (fun K hK => ?_)
          go_simp
          refine hK.out _ _ ((((Below.refl _ _).setCell (by show x1.heap.size ≤ u5.heap.size; omega) _).setCell (by show x1.heap.size ≤ u5.heap.size; omega) _).setCell (by show x1.heap.size ≤ u5.heap.size; omega) _) ?_
          clear hK K
          try simp only [Act.put, List.setIfInBounds_toArray, List.set_cons_zero, List.set_cons_succ]
          refine absE (fun x4 hx4 => ?_)
          have hbut : But u14 x4 (u5.heap.size) := by rw [hx4]; exact (But.refl _ _).store.store.store
          have hbn : Bl x4 (u5.heap.size) #[.bool (decide (qq.num < 0)), .slice a14 n14 c14, .slice d14 m14 k14] := by rw [hx4]; exact (Bl.set (Bl.set (Bl.set bx (by simp)) (by simp)) (by simp))
          replace hs0 := hs0.but bx (not_ints3 nb_bool nb_slice nb_slice) hbut
          replace ht0 := ht0.but bx (not_ints3 nb_bool nb_slice nb_slice) hbut
          replace hs5 := hs5.but bx (not_ints3 nb_bool nb_slice nb_slice) hbut
          replace ht5 := ht5.but bx (not_ints3 nb_bool nb_slice nb_slice) hbut
          replace hs6 := hs6.but bx (not_ints3 nb_bool nb_slice nb_slice) hbut
          replace ht6 := ht6.but bx (not_ints3 nb_bool nb_slice nb_slice) hbut
          replace hs9 := hs9.but bx (not_ints3 nb_bool nb_slice nb_slice) hbut
          replace ht9 := ht9.but bx (not_ints3 nb_bool nb_slice nb_slice) hbut
          replace hs12 := hs12.but bx (not_ints3 nb_bool nb_slice nb_slice) hbut
          replace ht12 := ht12.but bx (not_ints3 nb_bool nb_slice nb_slice) hbut
          replace hs13 := hs13.but bx (not_ints3 nb_bool nb_slice nb_slice) hbut
          replace ht13 := ht13.but bx (not_ints3 nb_bool nb_slice nb_slice) hbut
          replace hs14 := hs14.but bx (not_ints3 nb_bool nb_slice nb_slice) hbut
          replace ht14 := ht14.but bx (not_ints3 nb_bool nb_slice nb_slice) hbut
          replace bp := But.bl hbut bp (Nat.succ_pos _) (by omega)
          replace bz := But.bl hbut bz (Nat.succ_pos _) (by omega)
          replace fx : Fz x4 (u5.heap.size) := by rw [hx4]; exact (Fz.set (Fz.set (Fz.set fx)))
          replace HE : Ext w x4 := by rw [hx4]; exact (((HE.store (by show w.heap.size ≤ u5.heap.size; omega) _).store (by show w.heap.size ≤ u5.heap.size; omega) _).store (by show w.heap.size ≤ u5.heap.size; omega) _)
          replace hlo : x1.heap.size ≤ x4.heap.size := Nat.le_trans hlo hbut.1
          clear bx hbut hx4
          have bx := hbn
          clear hbn
          repeat (refine wpE_q (v := ?_) rfl rfl (fun u hu => ?_) ?_; rotate_left 1; (focus (have kp := Bl.low hu bp lop; have kz := Bl.low hu bz loz; go_simp; (try rfl))); simp only [Act.put, List.setIfInBounds_toArray, List.set_cons_zero, List.set_cons_succ])
          refine wpE_done ?_
          clear hlo
          go_wp2_with fail
          go_meet
          exact ⟨_, _, _, _, _, _, _, rfl, bx, hs14, ht14, HE⟩
      · refine wpE_l rfl rfl (fun K hK => ?_)
        go_simp
        refine hK.out _ _ ((Below.refl _ _).alloc hlo _) ?_
        clear hK K
        try simp only [Act.put, List.setIfInBounds_toArray, List.set_cons_zero, List.set_cons_succ]
        have gex := hlo
        have lpx := bp.lt (Nat.succ_pos _)
        have lzx := bz.lt (Nat.succ_pos _)
        have l0x := HE.size
        refine absE (fun x3 hx3 => ?_)
        have hx : Ext u0 x3 := by rw [hx3]; exact ((Ext.refl _).alloc _)
        have bx : Bl x3 (u0.heap.size) #[.bool false, .slice none 0 0, .slice none 0 0] := by rw [hx3]; exact (Bl.new (by simp))
        have fx : Fz x3 (u0.heap.size) := by rw [hx3]; exact (Fz.new (by simp))
        replace hlo := Nat.le_trans hlo hx.size
        replace bp := Bl.ext hx bp (Nat.succ_pos _)
        replace bz := Bl.ext hx bz (Nat.succ_pos _)
        replace hs0 := hs0.ext hx
        replace ht0 := ht0.ext hx
        replace HE := HE.trans hx
        clear hx
        clear hx3
        refine wpE_l rfl rfl (fun K hK => ?_)
        go_simp
        refine (A1.out _).mono ?_
        rintro e u5 ⟨a5, n5, c5, d5, m5, k5, rfl, hs5, ht5, hx⟩
        refine hK.out _ _ (Below.mono hx hlo) ?_
        clear hK K
        try simp only [Act.put, List.setIfInBounds_toArray, List.set_cons_zero, List.set_cons_succ]
        replace hlo := Nat.le_trans hlo hx.size
        replace bp := Bl.ext hx bp (Nat.succ_pos _)
        replace bz := Bl.ext hx bz (Nat.succ_pos _)
        replace fx := Fz.ext hx fx bx (Nat.succ_pos _)
        replace bx := Bl.ext hx bx (Nat.succ_pos _)
        replace hs0 := hs0.ext hx
        replace ht0 := ht0.ext hx
        replace HE := HE.trans hx
        clear hx
        replace hs5 : Nc u5 a5 n5 c5 (qd.num).natAbs := hs5
        replace ht5 : Nc u5 d5 m5 k5 (qd.den) := ht5
        refine wpE_l rfl rfl (fun K hK => ?_)
        go_simp
        refine (A2.out _ _ _ _ _ _ _ _ _ _ _ _ _ _ _ (fq_of hs0 ht0 L0.out (by omega)) (fq_of hs5 ht5 L1.out (by omega))).mono ?_
        rintro e u6 ⟨a6, n6, c6, d6, m6, k6, rfl, hs6, ht6, hx⟩
        refine hK.out _ _ (Below.mono hx hlo) ?_
        clear hK K
        try simp only [Act.put, List.setIfInBounds_toArray, List.set_cons_zero, List.set_cons_succ]
        replace hlo := Nat.le_trans hlo hx.size
        replace bp := Bl.ext hx bp (Nat.succ_pos _)
        replace bz := Bl.ext hx bz (Nat.succ_pos _)
        replace fx := Fz.ext hx fx bx (Nat.succ_pos _)
        replace bx := Bl.ext hx bx (Nat.succ_pos _)
        replace hs0 := hs0.ext hx
        replace ht0 := ht0.ext hx
        replace hs5 := hs5.ext hx
        replace ht5 := ht5.ext hx
        replace HE := HE.trans hx
        clear hx
        replace hs6 : Nc u6 a6 n6 c6 (qa.num).natAbs := hs6
        replace ht6 : Nc u6 d6 m6 k6 (qa.den) := ht6
        refine wpE_l rfl rfl (fun K hK => ?_)
        go_simp
        refine (A3.out _).mono ?_
        rintro e u9 ⟨a9, n9, c9, d9, m9, k9, rfl, hs9, ht9, hx⟩
        refine hK.out _ _ (Below.mono hx hlo) ?_
        clear hK K
        try simp only [Act.put, List.setIfInBounds_toArray, List.set_cons_zero, List.set_cons_succ]
        replace hlo := Nat.le_trans hlo hx.size
        replace bp := Bl.ext hx bp (Nat.succ_pos _)
        replace bz := Bl.ext hx bz (Nat.succ_pos _)
        replace fx := Fz.ext hx fx bx (Nat.succ_pos _)
        replace bx := Bl.ext hx bx (Nat.succ_pos _)
        replace hs0 := hs0.ext hx
        replace ht0 := ht0.ext hx
        replace hs5 := hs5.ext hx
        replace ht5 := ht5.ext hx
        replace hs6 := hs6.ext hx
        replace ht6 := ht6.ext hx
        replace HE := HE.trans hx
        clear hx
        replace hs9 : Nc u9 a9 n9 c9 (qr.num).natAbs := hs9
        replace ht9 : Nc u9 d9 m9 k9 (qr.den) := ht9
        refine wpE_l rfl rfl (fun K hK => ?_)
        go_simp
        refine (A3.out _).mono ?_
        rintro e u12 ⟨a12, n12, c12, d12, m12, k12, rfl, hs12, ht12, hx⟩
        refine hK.out _ _ (Below.mono hx hlo) ?_
        clear hK K
        try simp only [Act.put, List.setIfInBounds_toArray, List.set_cons_zero, List.set_cons_succ]
        replace hlo := Nat.le_trans hlo hx.size
        replace bp := Bl.ext hx bp (Nat.succ_pos _)
        replace bz := Bl.ext hx bz (Nat.succ_pos _)
        replace fx := Fz.ext hx fx bx (Nat.succ_pos _)
        replace bx := Bl.ext hx bx (Nat.succ_pos _)
        replace hs0 := hs0.ext hx
        replace ht0 := ht0.ext hx
        replace hs5 := hs5.ext hx
        replace ht5 := ht5.ext hx
        replace hs6 := hs6.ext hx
        replace ht6 := ht6.ext hx
        replace hs9 := hs9.ext hx
        replace ht9 := ht9.ext hx
        replace HE := HE.trans hx
        clear hx
        replace hs12 : Nc u12 a12 n12 c12 (qr.num).natAbs := hs12
        replace ht12 : Nc u12 d12 m12 k12 (qr.den) := ht12
        refine wpE_l rfl rfl (fun K hK => ?_)
        go_simp
        refine (A4.out _ _ _ _ _ _ _ _ _ _ _ _ _ _ _ (fq_of hs9 ht9 L3.out (by omega)) (fq_of hs12 ht12 L3.out (by omega))).mono ?_
        rintro e u13 ⟨a13, n13, c13, d13, m13, k13, rfl, hs13, ht13, hx⟩
        refine hK.out _ _ (Below.mono hx hlo) ?_
        clear hK K
        try simp only [Act.put, List.setIfInBounds_toArray, List.set_cons_zero, List.set_cons_succ]
        replace hlo := Nat.le_trans hlo hx.size
        replace bp := Bl.ext hx bp (Nat.succ_pos _)
        replace bz := Bl.ext hx bz (Nat.succ_pos _)
        replace fx := Fz.ext hx fx bx (Nat.succ_pos _)
        replace bx := Bl.ext hx bx (Nat.succ_pos _)
        replace hs0 := hs0.ext hx
        replace ht0 := ht0.ext hx
        replace hs5 := hs5.ext hx
        replace ht5 := ht5.ext hx
        replace hs6 := hs6.ext hx
        replace ht6 := ht6.ext hx
        replace hs9 := hs9.ext hx
        replace ht9 := ht9.ext hx
        replace hs12 := hs12.ext hx
        replace ht12 := ht12.ext hx
        replace HE := HE.trans hx
        clear hx
        replace hs13 : Nc u13 a13 n13 c13 (qb.num).natAbs := hs13
        replace ht13 : Nc u13 d13 m13 k13 (qb.den) := ht13
        refine wpE_l rfl rfl (fun K hK => ?_)
        go_simp
        refine (A5.out _ _ _ _ _ _ _ _ _ _ _ _ _ _ _ (fq_of hs6 ht6 L2.out (by omega)) (fq_of hs13 ht13 L4.out (by omega))).mono ?_
        rintro e u14 ⟨a14, n14, c14, d14, m14, k14, rfl, hs14, ht14, hx⟩
        refine hK.out _ _ (Below.mono hx hlo) ?_
        clear hK K
        try simp only [Act.put, List.setIfInBounds_toArray, List.set_cons_zero, List.set_cons_succ]
        replace hlo := Nat.le_trans hlo hx.size
        replace bp := Bl.ext hx bp (Nat.succ_pos _)
        replace bz := Bl.ext hx bz (Nat.succ_pos _)
        replace fx := Fz.ext hx fx bx (Nat.succ_pos _)
        replace bx := Bl.ext hx bx (Nat.succ_pos _)
        replace hs0 := hs0.ext hx
        replace ht0 := ht0.ext hx
        replace hs5 := hs5.ext hx
        replace ht5 := ht5.ext hx
        replace hs6 := hs6.ext hx
        replace ht6 := ht6.ext hx
        replace hs9 := hs9.ext hx
        replace ht9 := ht9.ext hx
        replace hs12 := hs12.ext hx
        replace ht12 := ht12.ext hx
        replace hs13 := hs13.ext hx
        replace ht13 := ht13.ext hx
        replace HE := HE.trans hx
        clear hx
        replace hs14 : Nc u14 a14 n14 c14 qq.num.natAbs := hs14
        replace ht14 : Nc u14 d14 m14 k14 qq.den := ht14
        repeat (refine wpE_q (v := ?_) rfl rfl (fun u hu => ?_) ?_; rotate_left 1; (focus (have kp := Bl.low hu bp lop; have kz := Bl.low hu bz loz; go_simp; (try rfl))); simp only [Act.put, List.setIfInBounds_toArray, List.set_cons_zero, List.set_cons_succ])
        refine wpE_l rfl rfl (fun K hK => ?_)
        go_simp
        refine hK.out _ _ ((((Below.refl _ _).setCell (by show x1.heap.size ≤ u0.heap.size; omega) _).setCell (by show x1.heap.size ≤ u0.heap.size; omega) _).setCell (by show x1.heap.size ≤ u0.heap.size; omega) _) ?_
        clear hK K
        try simp only [Act.put, List.setIfInBounds_toArray, List.set_cons_zero, List.set_cons_succ]
        refine absE (fun x4 hx4 => ?_)
        have hbut : But u14 x4 (u0.heap.size) := by rw [hx4]; exact (But.refl _ _).store.store.store
        have hbn : Bl x4 (u0.heap.size) #[.bool (decide (qq.num < 0)), .slice a14 n14 c14, .slice d14 m14 k14] := by rw [hx4]; exact (Bl.set (Bl.set (Bl.set bx (by simp)) (by simp)) (by simp))
        replace hs0 := hs0.but bx (not_ints3 nb_bool nb_slice nb_slice) hbut
        replace ht0 := ht0.but bx (not_ints3 nb_bool nb_slice nb_slice) hbut
        replace hs5 := hs5.but bx (not_ints3 nb_bool nb_slice nb_slice) hbut
        replace ht5 := ht5.but bx (not_ints3 nb_bool nb_slice nb_slice) hbut
        replace hs6 := hs6.but bx (not_ints3 nb_bool nb_slice nb_slice) hbut
        replace ht6 := ht6.but bx (not_ints3 nb_bool nb_slice nb_slice) hbut
        replace hs9 := hs9.but bx (not_ints3 nb_bool nb_slice nb_slice) hbut
        replace ht9 := ht9.but bx (not_ints3 nb_bool nb_slice nb_slice) hbut
        replace hs12 := hs12.but bx (not_ints3 nb_bool nb_slice nb_slice) hbut
        replace ht12 := ht12.but bx (not_ints3 nb_bool nb_slice nb_slice) hbut
        replace hs13 := hs13.but bx (not_ints3 nb_bool nb_slice nb_slice) hbut
        replace ht13 := ht13.but bx (not_ints3 nb_bool nb_slice nb_slice) hbut
        replace hs14 := hs14.but bx (not_ints3 nb_bool nb_slice nb_slice) hbut
        replace ht14 := ht14.but bx (not_ints3 nb_bool nb_slice nb_slice) hbut
        replace bp := But.bl hbut bp (Nat.succ_pos _) (by omega)
        replace bz := But.bl hbut bz (Nat.succ_pos _) (by omega)
        replace fx : Fz x4 (u0.heap.size) := by rw [hx4]; exact (Fz.set (Fz.set (Fz.set fx)))
        replace HE : Ext w x4 := by rw [hx4]; exact (((HE.store (by show w.heap.size ≤ u0.heap.size; omega) _).store (by show w.heap.size ≤ u0.heap.size; omega) _).store (by show w.heap.size ≤ u0.heap.size; omega) _)
        replace hlo : x1.heap.size ≤ x4.heap.size := Nat.le_trans hlo hbut.1
        clear bx hbut hx4
        have bx := hbn
        clear hbn
        repeat (refine wpE_q (v := ?_) rfl rfl (fun u hu => ?_) ?_; rotate_left 1; (focus (have kp := Bl.low hu bp lop; have kz := Bl.low hu bz loz; go_simp; (try rfl))); simp only [Act.put, List.setIfInBounds_toArray, List.set_cons_zero, List.set_cons_succ])
        refine wpE_done ?_
        clear hlo
        go_wp2_with fail
        go_meet
        exact ⟨_, _, _, _, _, _, _, rfl, bx, hs14, ht14, HE⟩
    · refine wpE_l rfl rfl (fun K hK => ?_)
      go_simp
      refine hK.out _ _ ((Below.refl _ _).alloc hlo _) ?_
      clear hK K
      try simp only [Act.put, List.setIfInBounds_toArray, List.set_cons_zero, List.set_cons_succ]
      have gex := hlo
      have lpx := bp.lt (Nat.succ_pos _)
      have lzx := bz.lt (Nat.succ_pos _)
      have l0x := HE.size
      refine absE (fun x3 hx3 => ?_)
      have hx : Ext x2 x3 := by rw [hx3]; exact ((Ext.refl _).alloc _)
      have bx : Bl x3 (x2.heap.size) #[.bool false, .slice none 0 0, .slice none 0 0] := by rw [hx3]; exact (Bl.new (by simp))
      have fx : Fz x3 (x2.heap.size) := by rw [hx3]; exact (Fz.new (by simp))
      replace hlo := Nat.le_trans hlo hx.size
      replace bp := Bl.ext hx bp (Nat.succ_pos _)
      replace bz := Bl.ext hx bz (Nat.succ_pos _)
      replace HE := HE.trans hx
      clear hx
      clear hx3
      refine wpE_l rfl rfl (fun K hK => ?_)
      go_simp
      refine (A0.out _).mono ?_
      rintro e u0 ⟨a0, n0, c0, d0, m0, k0, rfl, hs0, ht0, hx⟩
      refine hK.out _ _ (Below.mono hx hlo) ?_
      clear hK K
      try simp only [Act.put, List.setIfInBounds_toArray, List.set_cons_zero, List.set_cons_succ]
      replace hlo := Nat.le_trans hlo hx.size
      replace bp := Bl.ext hx bp (Nat.succ_pos _)
      replace bz := Bl.ext hx bz (Nat.succ_pos _)
      replace fx := Fz.ext hx fx bx (Nat.succ_pos _)
      replace bx := Bl.ext hx bx (Nat.succ_pos _)
      replace HE := HE.trans hx
      clear hx
      replace hs0 : Nc u0 a0 n0 c0 (q0.num).natAbs := hs0
      replace ht0 : Nc u0 d0 m0 k0 (q0.den) := ht0
      refine wpE_l rfl rfl (fun K hK => ?_)
      go_simp
      refine (A1.out _).mono ?_
      rintro e u5 ⟨a5, n5, c5, d5, m5, k5, rfl, hs5, ht5, hx⟩
      refine hK.out _ _ (Below.mono hx hlo) ?_
      clear hK K
      try simp only [Act.put, List.setIfInBounds_toArray, List.set_cons_zero, List.set_cons_succ]
      replace hlo := Nat.le_trans hlo hx.size
      replace bp := Bl.ext hx bp (Nat.succ_pos _)
      replace bz := Bl.ext hx bz (Nat.succ_pos _)
      replace fx := Fz.ext hx fx bx (Nat.succ_pos _)
      replace bx := Bl.ext hx bx (Nat.succ_pos _)
      replace hs0 := hs0.ext hx
      replace ht0 := ht0.ext hx
      replace HE := HE.trans hx
      clear hx
      replace hs5 : Nc u5 a5 n5 c5 (qd.num).natAbs := hs5
      replace ht5 : Nc u5 d5 m5 k5 (qd.den) := ht5
      refine wpE_l rfl rfl (fun K hK => ?_)
      go_simp
      refine (A2.out _ _ _ _ _ _ _ _ _ _ _ _ _ _ _ (fq_of hs0 ht0 L0.out (by omega)) (fq_of hs5 ht5 L1.out (by omega))).mono ?_
      rintro e u6 ⟨a6, n6, c6, d6, m6, k6, rfl, hs6, ht6, hx⟩
      refine hK.out _ _ (Below.mono hx hlo) ?_
      clear hK K
      try simp only [Act.put, List.setIfInBounds_toArray, List.set_cons_zero, List.set_cons_succ]
      replace hlo := Nat.le_trans hlo hx.size
      replace bp := Bl.ext hx bp (Nat.succ_pos _)
      replace bz := Bl.ext hx bz (Nat.succ_pos _)
      replace fx := Fz.ext hx fx bx (Nat.succ_pos _)
      replace bx := Bl.ext hx bx (Nat.succ_pos _)
      replace hs0 := hs0.ext hx
      replace ht0 := ht0.ext hx
      replace hs5 := hs5.ext hx
      replace ht5 := ht5.ext hx
      replace HE := HE.trans hx
      clear hx
      replace hs6 : Nc u6 a6 n6 c6 (qa.num).natAbs := hs6
      replace ht6 : Nc u6 d6 m6 k6 (qa.den) := ht6
      refine wpE_l rfl rfl (fun K hK => ?_)
      go_simp
      refine (A3.out _).mono ?_
      rintro e u9 ⟨a9, n9, c9, d9, m9, k9, rfl, hs9, ht9, hx⟩
      refine hK.out _ _ (Below.mono hx hlo) ?_
      clear hK K
      try simp only [Act.put, List.setIfInBounds_toArray, List.set_cons_zero, List.set_cons_succ]
      replace hlo := Nat.le_trans hlo hx.size
      replace bp := Bl.ext hx bp (Nat.succ_pos _)
      replace bz := Bl.ext hx bz (Nat.succ_pos _)
      replace fx := Fz.ext hx fx bx (Nat.succ_pos _)
      replace bx := Bl.ext hx bx (Nat.succ_pos _)
      replace hs0 := hs0.ext hx
      replace ht0 := ht0.ext hx
      replace hs5 := hs5.ext hx
      replace ht5 := ht5.ext hx
      replace hs6 := hs6.ext hx
      replace ht6 := ht6.ext hx
      replace HE := HE.trans hx
      clear hx
      replace hs9 : Nc u9 a9 n9 c9 (qr.num).natAbs := hs9
      replace ht9 : Nc u9 d9 m9 k9 (qr.den) := ht9
      refine wpE_l rfl rfl (fun K hK => ?_)
      go_simp
      refine (A3.out _).mono ?_
      rintro e u12 ⟨a12, n12, c12, d12, m12, k12, rfl, hs12, ht12, hx⟩
      refine hK.out _ _ (Below.mono hx hlo) ?_
      clear hK K
      try simp only [Act.put, List.setIfInBounds_toArray, List.set_cons_zero, List.set_cons_succ]
      replace hlo := Nat.le_trans hlo hx.size
      replace bp := Bl.ext hx bp (Nat.succ_pos _)
      replace bz := Bl.ext hx bz (Nat.succ_pos _)
      replace fx := Fz.ext hx fx bx (Nat.succ_pos _)
      replace bx := Bl.ext hx bx (Nat.succ_pos _)
      replace hs0 := hs0.ext hx
      replace ht0 := ht0.ext hx
      replace hs5 := hs5.ext hx
      replace ht5 := ht5.ext hx
      replace hs6 := hs6.ext hx
      replace ht6 := ht6.ext hx
      replace hs9 := hs9.ext hx
      replace ht9 := ht9.ext hx
      replace HE := HE.trans hx
      clear hx
      replace hs12 : Nc u12 a12 n12 c12 (qr.num).natAbs := hs12
      replace ht12 : Nc u12 d12 m12 k12 (qr.den) := ht12
      refine wpE_l rfl rfl (fun K hK => ?_)
      go_simp
      refine (A4.out _ _ _ _ _ _ _ _ _ _ _ _ _ _ _ (fq_of hs9 ht9 L3.out (by omega)) (fq_of hs12 ht12 L3.out (by omega))).mono ?_
      rintro e u13 ⟨a13, n13, c13, d13, m13, k13, rfl, hs13, ht13, hx⟩
      refine hK.out _ _ (Below.mono hx hlo) ?_
      clear hK K
      try simp only [Act.put, List.setIfInBounds_toArray, List.set_cons_zero, List.set_cons_succ]
      replace hlo := Nat.le_trans hlo hx.size
      replace bp := Bl.ext hx bp (Nat.succ_pos _)
      replace bz := Bl.ext hx bz (Nat.succ_pos _)
      replace fx := Fz.ext hx fx bx (Nat.succ_pos _)
      replace bx := Bl.ext hx bx (Nat.succ_pos _)
      replace hs0 := hs0.ext hx
      replace ht0 := ht0.ext hx
      replace hs5 := hs5.ext hx
      replace ht5 := ht5.ext hx
      replace hs6 := hs6.ext hx
      replace ht6 := ht6.ext hx
      replace hs9 := hs9.ext hx
      replace ht9 := ht9.ext hx
      replace hs12 := hs12.ext hx
      replace ht12 := ht12.ext hx
      replace HE := HE.trans hx
      clear hx
      replace hs13 : Nc u13 a13 n13 c13 (qb.num).natAbs := hs13
      replace ht13 : Nc u13 d13 m13 k13 (qb.den) := ht13
      refine wpE_l rfl rfl (fun K hK => ?_)
      go_simp
      refine (A5.out _ _ _ _ _ _ _ _ _ _ _ _ _ _ _ (fq_of hs6 ht6 L2.out (by omega)) (fq_of hs13 ht13 L4.out (by omega))).mono ?_
      rintro e u14 ⟨a14, n14, c14, d14, m14, k14, rfl, hs14, ht14, hx⟩
      refine hK.out _ _ (Below.mono hx hlo) ?_
      clear hK K
      try simp only [Act.put, List.setIfInBounds_toArray, List.set_cons_zero, List.set_cons_succ]
      replace hlo := Nat.le_trans hlo hx.size
      replace bp := Bl.ext hx bp (Nat.succ_pos _)
      replace bz := Bl.ext hx bz (Nat.succ_pos _)
      replace fx := Fz.ext hx fx bx (Nat.succ_pos _)
      replace bx := Bl.ext hx bx (Nat.succ_pos _)
      replace hs0 := hs0.ext hx
      replace ht0 := ht0.ext hx
      replace hs5 := hs5.ext hx
      replace ht5 := ht5.ext hx
      replace hs6 := hs6.ext hx
      replace ht6 := ht6.ext hx
      replace hs9 := hs9.ext hx
      replace ht9 := ht9.ext hx
      replace hs12 := hs12.ext hx
      replace ht12 := ht12.ext hx
      replace hs13 := hs13.ext hx
      replace ht13 := ht13.ext hx
      replace HE := HE.trans hx
      clear hx
      replace hs14 : Nc u14 a14 n14 c14 qq.num.natAbs := hs14
      replace ht14 : Nc u14 d14 m14 k14 qq.den := ht14
      repeat (refine wpE_q (v := ?_) rfl rfl (fun u hu => ?_) ?_; rotate_left 1; (focus (have kp := Bl.low hu bp lop; have kz := Bl.low hu bz loz; go_simp; (try rfl))); simp only [Act.put, List.setIfInBounds_toArray, List.set_cons_zero, List.set_cons_succ])
      refine wpE_l rfl rfl (fun K hK => ?_)
      go_simp
      refine hK.out _ _ ((((Below.refl _ _).setCell (by show x1.heap.size ≤ x2.heap.size; omega) _).setCell (by show x1.heap.size ≤ x2.heap.size; omega) _).setCell (by show x1.heap.size ≤ x2.heap.size; omega) _) ?_
      clear hK K
      try simp only [Act.put, List.setIfInBounds_toArray, List.set_cons_zero, List.set_cons_succ]
      refine absE (fun x4 hx4 => ?_)
      have hbut : But u14 x4 (x2.heap.size) := by rw [hx4]; exact (But.refl _ _).store.store.store
      have hbn : Bl x4 (x2.heap.size) #[.bool (decide (qq.num < 0)), .slice a14 n14 c14, .slice d14 m14 k14] := by rw [hx4]; exact (Bl.set (Bl.set (Bl.set bx (by simp)) (by simp)) (by simp))
      replace hs0 := hs0.but bx (not_ints3 nb_bool nb_slice nb_slice) hbut
      replace ht0 := ht0.but bx (not_ints3 nb_bool nb_slice nb_slice) hbut
      replace hs5 := hs5.but bx (not_ints3 nb_bool nb_slice nb_slice) hbut
      replace ht5 := ht5.but bx (not_ints3 nb_bool nb_slice nb_slice) hbut
      replace hs6 := hs6.but bx (not_ints3 nb_bool nb_slice nb_slice) hbut
      replace ht6 := ht6.but bx (not_ints3 nb_bool nb_slice nb_slice) hbut
      replace hs9 := hs9.but bx (not_ints3 nb_bool nb_slice nb_slice) hbut
      replace ht9 := ht9.but bx (not_ints3 nb_bool nb_slice nb_slice) hbut
      replace hs12 := hs12.but bx (not_ints3 nb_bool nb_slice nb_slice) hbut
      replace ht12 := ht12.but bx (not_ints3 nb_bool nb_slice nb_slice) hbut
      replace hs13 := hs13.but bx (not_ints3 nb_bool nb_slice nb_slice) hbut
      replace ht13 := ht13.but bx (not_ints3 nb_bool nb_slice nb_slice) hbut
      replace hs14 := hs14.but bx (not_ints3 nb_bool nb_slice nb_slice) hbut
      replace ht14 := ht14.but bx (not_ints3 nb_bool nb_slice nb_slice) hbut
      replace bp := But.bl hbut bp (Nat.succ_pos _) (by omega)
      replace bz := But.bl hbut bz (Nat.succ_pos _) (by omega)
      replace fx : Fz x4 (x2.heap.size) := by rw [hx4]; exact (Fz.set (Fz.set (Fz.set fx)))
      replace HE : Ext w x4 := by rw [hx4]; exact (((HE.store (by show w.heap.size ≤ x2.heap.size; omega) _).store (by show w.heap.size ≤ x2.heap.size; omega) _).store (by show w.heap.size ≤ x2.heap.size; omega) _)
      replace hlo : x1.heap.size ≤ x4.heap.size := Nat.le_trans hlo hbut.1
      clear bx hbut hx4
      have bx := hbn
      clear hbn
      repeat (refine wpE_q (v := ?_) rfl rfl (fun u hu => ?_) ?_; rotate_left 1; (focus (have kp := Bl.low hu bp lop; have kz := Bl.low hu bz loz; go_simp; (try rfl))); simp only [Act.put, List.setIfInBounds_toArray, List.set_cons_zero, List.set_cons_succ])
      refine wpE_done ?_
      clear hlo
      go_wp2_with fail
      go_meet
      exact ⟨_, _, _, _, _, _, _, rfl, bx, hs14, ht14, HE⟩
  case rest =>
    obtain ⟨g7, a3, n3, c3, d3, m3, k3, rfl, bx, hs3, ht3, HE⟩ := hcut
    go_wp2_with fail
    refine (A6.out _ _ _ _ _ _ _ _ (fq_of hs3 ht3 L5.out (by omega))).mono ?_
    rintro e u4 ⟨a4, n4, c4, rfl, hs4, hx⟩
    replace bx := Bl.ext hx bx (Nat.succ_pos _)
    replace hs3 := hs3.ext hx
    replace ht3 := ht3.ext hx
    replace HE := HE.trans hx
    clear hx
    replace hs4 : Nc u4 a4 n4 c4 ff := hs4
    generalize decide (((ff : Nat) : Int) < 0) = zb at *
    have hfl : ∀ u : World, (Instr.field 48 (.agg #[.bool zb, .slice a4 n4 c4]) 1).run Tryz.prog u = .ok (.slice a4 n4 c4) u := fun u => by kernel_rfl
    go_wp2_with fail
    refine (q_Sqrt (hs4.nu (by have := HDF.out; omega)) (by have := HDF.out; omega)).mono ?_
    rintro e u5 ⟨a5, n5, c5, rfl, hs5, hx⟩
    replace bx := Bl.ext hx bx (Nat.succ_pos _)
    replace hs3 := hs3.ext hx
    replace ht3 := ht3.ext hx
    replace hs4 := hs4.ext hx
    replace HE := HE.trans hx
    clear hx
    go_wp2_with fail
    refine absC (fun x2 hx2 => ?_)
    have hx : Ext u5 x2 := by rw [hx2]; exact ((Ext.refl _).alloc _)
    replace bx := Bl.ext hx bx (Nat.succ_pos _)
    replace hs3 := hs3.ext hx
    replace ht3 := ht3.ext hx
    replace hs4 := hs4.ext hx
    replace hs5 := hs5.ext hx
    replace HE := HE.trans hx
    clear hx
    have hl : Nc x2 (some ⟨u5.heap.size, 0, none⟩) 1 1 255 := by rw [hx2]; exact nc_litAt rfl 255 (by omega) (by omega) _
    clear hx2
    refine (A7.out _ _ _ _ _ _ _ hs5 hl).mono ?_
    rintro e u6 ⟨rfl, hx⟩
    replace bx := Bl.ext hx bx (Nat.succ_pos _)
    replace hs3 := hs3.ext hx
    replace ht3 := ht3.ext hx
    replace hs4 := hs4.ext hx
    replace hs5 := hs5.ext hx
    replace HE := HE.trans hx
    clear hx

    go_wp2_with fail
    refine (r02_Int_any false a5 n5 c5 ((isq ff : Nat) : Int) _ (by have h := Nc.wh (z := ((isq ff : Nat) : Int)) hs5 (by have := HDQ.out; show dl (isq ff) ≤ _; omega); rwa [show decide (((isq ff : Nat) : Int) < 0) = false from decide_eq_false (by omega)] at h) (by have := hs5.len; have := HDQ.out; omega)).mono ?_
    rw [HI.out]
    rintro e u7 ⟨rfl, hx⟩
    replace bx := Bl.ext hx bx (Nat.succ_pos _)
    replace hs3 := hs3.ext hx
    replace ht3 := ht3.ext hx
    replace hs4 := hs4.ext hx
    replace hs5 := hs5.ext hx
    replace HE := HE.trans hx
    clear hx
    go_wp2_with fail
    go_ret
    rw [HR.out]
    exact ⟨rfl, HE⟩

theorem e_radial (k : Int) (r0 g0 b0 a0 r1 g1 b1 a1 : Nat) (px py qx qy r ux uy vx vy : Int) (x y : Int) (a : Option Addr) (n c : Nat) (s : Bool) (ax ay : Int) (w : World) (hp : fitP px py = true) (hf : fitP ax ay = true) (hr1 : 1 ≤ r) (hr2 : r ≤ 8388607) :
    Calls Tryz.prog 15 #[.agg #[.int .i64 k, .int .u8 (r0 : Int), .int .u8 (g0 : Int), .int .u8 (b0 : Int), .int .u8 (a0 : Int), .int .u8 (r1 : Int), .int .u8 (g1 : Int), .int .u8 (b1 : Int), .int .u8 (a1 : Int), .int .i64 px, .int .i64 py, .int .i64 qx, .int .i64 qy, .int .i64 r, .int .i64 ux, .int .i64 uy, .int .i64 vx, .int .i64 vy, .int .i64 x, .int .i64 y, .slice a n c, .bool s], .agg #[.int .i64 ax, .int .i64 ay]] w fun e w' => e = .returned (.int .i64 (radF (prodP px py ax ay ax ay) r : Nat)) ∧ Ext w w' := by
  rcases Nat.lt_or_ge 255 (isq (65025 * (prodP px py ax ay ax ay).toNat / (r * r).toNat)) with h | h
  · exact rad_far k r0 g0 b0 a0 r1 g1 b1 a1 px py qx qy r ux uy vx vy x y a n c s ax ay w hp hf hr1 hr2 h
  · exact rad_near k r0 g0 b0 a0 r1 g1 b1 a1 px py qx qy r ux uy vx vy x y a n c s ax ay w hp hf hr1 hr2 h

end Go.Proofs.YtmibjfkpchncgaaGreat
