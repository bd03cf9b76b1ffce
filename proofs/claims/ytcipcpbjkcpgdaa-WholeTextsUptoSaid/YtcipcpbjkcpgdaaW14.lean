/- The law of texts of whole numbers: plain law and walk. -/
import Derived.Test.YtcipcpbjkcpgdaaW13
import Derived.Test.YtcipcpbjkcpgdaaW7
namespace Go.Proofs.Ytcipcpbjkcpgdaa
set_option linter.unusedVariables false
open Go Go.RowKit

theorem decD_le9 (m : Nat) : ∀ d ∈ decD m, d ≤ 9 := by
  unfold decD
  split
  · simp
  · intro d hd
    have := dig_lt (B := 10) (by decide) m d (by simpa using hd)
    omega
def dTx (m : Nat) : List Nat := (decD m).map (48 + ·)
theorem natsOf_decS (m : Nat) : natsOf (decS m) = dTx m := by
  unfold natsOf decS decB dTx
  simp only [List.map_map]
  refine List.map_congr_left fun d hd => ?_
  have h := decD_le9 m d hd
  show (UInt8.ofNat (48 + d)).toNat = 48 + d
  rw [UInt8.toNat_ofNat']
  omega
theorem dTx_small {m : Nat} (h : m < 10) : dTx m = [48 + m] := by unfold dTx; rw [decD_small h]; rfl
theorem dTx_step {m : Nat} (h : 10 ≤ m) : dTx m = dTx (m / 10) ++ [48 + m % 10] := by unfold dTx; rw [decD_step h]; simp
theorem dTx_dval (m : Nat) : dval (dTx m) = m := by
  induction m using Nat.strongRecOn with
  | _ m ih =>
    by_cases h : m < 10
    · rw [dTx_small h]; simp [dval]
    · rw [dTx_step (by omega), dval_snoc, ih _ (by omega)]; omega
theorem dTx_ne (m : Nat) : dTx m ≠ [] := by
  by_cases h : m < 10
  · rw [dTx_small h]; simp
  · rw [dTx_step (by omega)]; simp
theorem dTx_head {m : Nat} (h : m ≠ 0) : (dTx m).getD 0 0 ≠ 48 := by
  induction m using Nat.strongRecOn with
  | _ m ih =>
    by_cases h9 : m < 10
    · rw [dTx_small h9]; simp; omega
    · have h1 := ih (m / 10) (by omega) (by omega)
      rw [dTx_step (by omega)]
      cases hd : dTx (m / 10) with
      | nil => exact absurd hd (dTx_ne _)
      | cons x r => rw [hd] at h1; simpa using h1
theorem dTx_at (m : Nat) : ∀ c ∈ dTx m, 48 ≤ c ∧ c ≤ 57 := by
  intro c hc
  unfold dTx at hc
  simp only [List.mem_map] at hc
  obtain ⟨d, hd, rfl⟩ := hc
  have := decD_le9 m d hd
  omega
theorem dTx_plain (m : Nat) : PlainL (dTx m) := by
  refine ⟨dTx_ne m, fun h => ?_, dTx_at m⟩
  by_cases h0 : m = 0
  · rw [h0, dTx_small (by decide)]; simp
  · exact absurd h (dTx_head h0)
theorem whParse_textZ {z : Int} (h : (textZ z).size ≤ 2000) : whParse (natsOf (textZ z)) = (0, z) := by
  by_cases hz : z < 0
  · have e : textZ z = ⟨#[45]⟩ ++ decS z.natAbs := if_pos hz
    have e2 : natsOf (textZ z) = 45 :: dTx z.natAbs := by
      rw [e, ← natsOf_decS]
      simp [natsOf]
    have hn : isNeg (natsOf (textZ z)) = true := by rw [e2]; rfl
    have hb : behind (natsOf (textZ z)) = dTx z.natAbs := by unfold behind; rw [hn, e2]; rfl
    have hl : (natsOf (textZ z)).length = (dTx z.natAbs).length + 1 := by rw [e2]; rfl
    rw [natsOf_len] at hl
    unfold whParse
    rw [hn, hb, if_neg (by omega), if_neg (fun hh => hh (dTx_plain _)), dTx_dval, if_neg (by omega)]
    have : wz true z.natAbs = z := by have := wz_canon z; rwa [decide_eq_true hz] at this
    rw [this]
  · have e : textZ z = decS z.natAbs := if_neg hz
    have e2 : natsOf (textZ z) = dTx z.natAbs := by rw [e, natsOf_decS]
    have hn : isNeg (natsOf (textZ z)) = false := by
      rw [e2]
      unfold isNeg
      have h1 : 48 ≤ (dTx z.natAbs).getD 0 0 := by
        cases hd : dTx z.natAbs with
        | nil => exact absurd hd (dTx_ne _)
        | cons x r => exact (dTx_at z.natAbs x (by rw [hd]; simp)).1
      simp; simp at h1; omega
    have hb : behind (natsOf (textZ z)) = dTx z.natAbs := by unfold behind; rw [hn, e2]; rfl
    have hl : (natsOf (textZ z)).length = (dTx z.natAbs).length := by rw [e2]
    rw [natsOf_len] at hl
    unfold whParse
    rw [hn, hb, if_neg (by omega), if_neg (fun hh => hh (dTx_plain _)), if_neg (fun hh => by cases hh.1), dTx_dval]
    have : wz false z.natAbs = z := by have := wz_canon z; rwa [decide_eq_false hz] at this
    rw [this]
theorem whParse_len (l : List Nat) : (dig B32 (whParse l).2.natAbs).length ≤ 2000 := by
  unfold whParse
  split
  · simp [dig_zero]
  · split
    · simp [dig_zero]
    · split
      · simp [dig_zero]
      · next h1 h2 _ =>
        have h4 : PlainL (behind l) := by simpa using h2
        have h3 := dig_len_le B32_two (dval_lt (behind l) (fun c hc => (h4.2.2 c hc).2))
        have h5 : (wz (isNeg l) (dval (behind l))).natAbs = dval (behind l) := by unfold wz; split <;> omega
        show (dig B32 (wz (isNeg l) (dval (behind l))).natAbs).length ≤ 2000
        rw [h5]
        omega
theorem textZ_size (z : Int) : (textZ z).size ≤ (decD z.natAbs).length + 1 := by
  unfold textZ
  split
  · rw [ByteArray.size_append]; unfold decS; rw [decB_size]; simp [ByteArray.size]; omega
  · unfold decS; rw [decB_size]; omega

set_option maxRecDepth 100000 in
set_option maxHeartbeats 4000000 in
theorem wholeTexts_any (neg : Bool) (a : Option Addr) (n cap : Nat) (l : List Nat) (s : ByteArray) (w : World) (hs : Sl w a n cap (ints .u32 l)) (hl : Ws l) (hn : n ≤ 1048576) (hsz : s.size ≤ 1048576) :
    Calls Try.prog 14 #[.agg #[.bool neg, .slice a n cap], .string s] w fun e w' => e = .returned (.bool true) ∧ Ext w w' := by
  obtain ⟨z, hz⟩ : ∃ z, z = wz neg (val B32 l) := ⟨_, rfl⟩
  have hw : WhIn w neg a n cap z := ⟨⟨l, hs, hl, hz.symm⟩, by omega⟩
  have hA : z.natAbs = val B32 l := by rw [hz]; unfold wz; split <;> omega
  have hD : (decD z.natAbs).length ≤ 35184372088832 := by rw [hA]; have := decD_len' hl (n := n) (by have := hs.int_len; omega); omega
  have hzl : (dig B32 z.natAbs).length ≤ 1048576 := by
    have := natAbs_len hw.lt
    omega
  have hr3 : (textZ z).size ≤ 2000 → whParse (natsOf (textZ z)) = (0, z) := whParse_textZ
  have hpl := whParse_len (natsOf s)
  have HD := hidP hD
  have hp1 := fun u => w_Parse_any s u
  have hp2 := fun u => r02_Parse_any s u
  have hp3 := fun u => w_Parse_any (textZ z) u
  have ht1 := fun u h => w_Text_any neg a n cap z u h HD.out
  have ht2 := fun u h => r02_Text_any neg a n cap z u h HD.out
  obtain ⟨r3, hr3d⟩ : ∃ r3, r3 = whParse (natsOf (textZ z)) := ⟨_, rfl⟩
  rw [← hr3d] at hr3 hp3
  generalize whParse (natsOf s) = r at *
  generalize textZ z = tz at *
  have HP1 := hidP hp1; have HP2 := hidP hp2; have HP3 := hidP hp3; have HT1 := hidP ht1; have HT2 := hidP ht2
  have HW := hidP hw; have HS := hidP hs; have HL := hidP hl; have HZ := hidP hz; have HZL := hidP hzl; have HPL := hidP hpl; have HR3 := hidP hr3
  clear hp1 hp2 hp3 ht1 ht2 hw hs hl hz hzl hpl hr3 hr3d hD hA
  go_enter Try.func14, Try.ntmps14
  go_wp2_with fail
  refine (HP1.out _).mono ?_
  rintro e w1 ⟨a1, n1, c1', rfl, hs1, he1⟩
  generalize hrb : decide (r.2 < 0) = rb at *
  have HRB := hidP hrb; clear hrb
  generalize hrc : r.1 = rc at *
  have HRC := hidP hrc; clear hrc
  have c0 := he1.cell' (p := ⟨w.heap.size, 0, none⟩) (v := .bool neg) (by go_simp; try rfl)
  have c1 := he1.cell' (p := ⟨w.heap.size, 1, none⟩) (v := .slice a n cap) (by go_simp; try rfl)
  have HE : Ext w w1 := ((Ext.refl _).alloc _).trans he1
  clear he1
  go_wp2_with fail
  refine (HP2.out _).mono ?_
  rintro e w2 ⟨a2, n2, c2', rfl, hs2, he2⟩
  rw [HRB.out, HRC.out]
  have x0 := he2.cell' (p := ⟨w1.heap.size, 0, none⟩) (v := .bool rb) (by go_simp; try rfl)
  have x1 := he2.cell' (p := ⟨w1.heap.size, 1, none⟩) (v := .slice a1 n1 c1') (by go_simp; try rfl)
  replace he2 := ((Ext.refl _).alloc _).trans he2
  replace c0 := he2.cell' c0
  replace c1 := he2.cell' c1
  replace hs1 := hs1.ext he2
  replace HE := HE.trans he2
  clear he2
  go_upto_region 3 with fail
  obtain ⟨wq, hwq⟩ : ∃ wq : World, wq = w2.alloc (.cells #[.bool rb, .slice a2 n2 c2'] 51) := ⟨_, rfl⟩
  rw [← hwq]
  have y0 : wq.cell? ⟨w2.heap.size, 0, none⟩ = some (.bool rb) := by rw [hwq]; go_simp; try rfl
  have y1 : wq.cell? ⟨w2.heap.size, 1, none⟩ = some (.slice a2 n2 c2') := by rw [hwq]; go_simp; try rfl
  have heq : Ext w2 wq := by rw [hwq]; exact (Ext.refl _).alloc _
  clear hwq
  replace c0 := heq.cell' c0
  replace c1 := heq.cell' c1
  replace x0 := heq.cell' x0
  replace x1 := heq.cell' x1
  replace hs1 := hs1.ext heq
  replace hs2 := hs2.ext heq
  replace HE := HE.trans heq
  clear heq
  obtain ⟨b1, hb1⟩ : ∃ b, w1.heap.size = b := ⟨_, rfl⟩
  obtain ⟨b2, hb2⟩ : ∃ b, w2.heap.size = b := ⟨_, rfl⟩
  rw [hb1] at x0 x1
  rw [hb2] at y0 y1
  rw [hb1, hb2]
  clear hb1 hb2
  go_wp2_with fail
  refine (HT1.out _ (HW.out.ext HE)).mono ?_
  rintro e w3 ⟨rfl, he3⟩
  replace y0 := he3.cell' y0
  replace y1 := he3.cell' y1
  replace c0 := he3.cell' c0
  replace c1 := he3.cell' c1
  replace x0 := he3.cell' x0
  replace x1 := he3.cell' x1
  replace hs1 := hs1.ext he3
  replace hs2 := hs2.ext he3
  replace HE := HE.trans he3
  clear he3
  go_wp2_with fail
  refine (HP3.out _).mono ?_
  rintro e w4 ⟨a4, n4, c4, rfl, hs4, he4⟩
  generalize hzb : decide (r3.2 < 0) = zb at *
  have HZB := hidP hzb; clear hzb
  generalize hzc : r3.1 = zc at *
  have HZC := hidP hzc; clear hzc
  replace c0 := he4.cell' c0
  replace c1 := he4.cell' c1
  replace x0 := he4.cell' x0
  replace x1 := he4.cell' x1
  replace y0 := he4.cell' y0
  replace y1 := he4.cell' y1
  replace hs1 := hs1.ext he4
  replace hs2 := hs2.ext he4
  replace HE := HE.trans he4
  clear he4
  go_upto_region 5 with fail
  obtain ⟨w5, hw5⟩ : ∃ w5 : World, w5 = World.drew (w4.alloc (.cells #[.bool zb, .slice a4 n4 c4] 51)) := ⟨_, rfl⟩
  have he5 : Ext w4 w5 := by rw [hw5]; exact ((Ext.refl _).alloc _).drew
  replace c0 := he5.cell' c0
  replace c1 := he5.cell' c1
  replace x0 := he5.cell' x0
  replace x1 := he5.cell' x1
  replace y0 := he5.cell' y0
  replace y1 := he5.cell' y1
  have v0 : w5.cell? ⟨w4.heap.size, 0, none⟩ = some (.bool zb) := by rw [hw5]; go_simp; try rfl
  have v1 : w5.cell? ⟨w4.heap.size, 1, none⟩ = some (.slice a4 n4 c4) := by rw [hw5]; go_simp; try rfl
  replace hs1 := hs1.ext he5
  replace hs2 := hs2.ext he5
  replace hs4 := hs4.ext he5
  replace HE := HE.trans he5
  clear he5
  by_cases h2 : tz.size ≤ 2000
  · have hzc0 : zc = 0 := by rw [← HZC.out, HR3.out h2]
    subst hzc0
    have h2i : ¬ (2000 : Int) < (tz.size : Int) := by omega
    refine wp_region_plan (R := Ext) (.q 0 (.q 1 (.l 2 (.q 3 (.q 4 (.q 5 (.q 6 (.l 7 (.q 8 (.q 9 (.q 10 (.q 11 (.q 12 (.q 13 (.q 14 (.q 15 (.q 16 (.q 17 (.q 18 (.q 19 (.q 20 (.q 21 (.q 22 (.q 23 (.q 24 (.q 25 (.q 26 (.l 27 (.l 28 (.q 29 (.q 30 (.q 31 (.q 32 (.l 33 (.q 34 (.q 35 .done)))))))))))))))))))))))))))))))))))) (by kernel_rfl) (by kernel_rfl) (by kernel_rfl) (by kernel_rfl) Ext.refl (fun _ _ _ => Ext.trans) ?_
    rw [← hw5]
    clear hw5
    repeat (refine wpE_q (v := ?_) rfl rfl (fun u hu => ?_) ?_; rotate_left 1; (focus ((have k0 := hu.cell' c0; have k1 := hu.cell' c1; have k2 := hu.cell' x0; have k3 := hu.cell' x1; have k4 := hu.cell' y0; have k5 := hu.cell' y1; have k6 := hu.cell' v0; have k7 := hu.cell' v1); go_simp; (try rfl))); simp only [Act.put, List.setIfInBounds_toArray, List.set_cons_zero, List.set_cons_succ])
    refine wpE_l rfl rfl (fun K hK => ?_)
    go_simp
    refine (HT2.out _ (HW.out.ext HE)).mono ?_
    rintro e u ⟨rfl, hu⟩
    refine hK.out _ _ hu ?_
    clear hK K
    replace HE := HE.trans hu
    replace c0 := hu.cell' c0
    replace c1 := hu.cell' c1
    replace x0 := hu.cell' x0
    replace x1 := hu.cell' x1
    replace y0 := hu.cell' y0
    replace y1 := hu.cell' y1
    replace v0 := hu.cell' v0
    replace v1 := hu.cell' v1
    replace hs1 := hs1.ext hu
    replace hs2 := hs2.ext hu
    replace hs4 := hs4.ext hu
    clear hu
    try simp only [Act.put, List.setIfInBounds_toArray, List.set_cons_zero, List.set_cons_succ]
    repeat (refine wpE_q (v := ?_) rfl rfl (fun u hu => ?_) ?_; rotate_left 1; (focus ((have k0 := hu.cell' c0; have k1 := hu.cell' c1; have k2 := hu.cell' x0; have k3 := hu.cell' x1; have k4 := hu.cell' y0; have k5 := hu.cell' y1; have k6 := hu.cell' v0; have k7 := hu.cell' v1); go_simp; (try rfl))); simp only [Act.put, List.setIfInBounds_toArray, List.set_cons_zero, List.set_cons_succ])
    refine wpE_l rfl rfl (fun K hK => ?_)
    go_simp
    refine (r02_Same_eq rb a1 a2 n1 c1' n2 c2' _ _ hs1 hs2 (by have h7 := hs1.int_len; have h8 := HPL.out; omega)).mono ?_
    rintro e u ⟨rfl, hu⟩
    refine hK.out _ _ hu ?_
    clear hK K
    replace HE := HE.trans hu
    replace c0 := hu.cell' c0
    replace c1 := hu.cell' c1
    replace x0 := hu.cell' x0
    replace x1 := hu.cell' x1
    replace y0 := hu.cell' y0
    replace y1 := hu.cell' y1
    replace v0 := hu.cell' v0
    replace v1 := hu.cell' v1
    replace hs4 := hs4.ext hu
    clear hu
    try simp only [Act.put, List.setIfInBounds_toArray, List.set_cons_zero, List.set_cons_succ]
    clear hs1 hs2
    repeat (refine wpE_q (v := ?_) rfl rfl (fun u hu => ?_) ?_; rotate_left 1; (focus ((have k0 := hu.cell' c0; have k1 := hu.cell' c1; have k2 := hu.cell' x0; have k3 := hu.cell' x1; have k4 := hu.cell' y0; have k5 := hu.cell' y1; have k6 := hu.cell' v0; have k7 := hu.cell' v1); go_simp; (try rfl))); simp only [Act.put, List.setIfInBounds_toArray, List.set_cons_zero, List.set_cons_succ])
    refine wpE_l rfl rfl (fun K hK => ?_)
    go_simp
    refine (r02_Make_any neg a n cap l _ (HS.out.ext HE) HL.out (by omega)).mono ?_
    rintro e u ⟨a6, n6, c6, rfl, s6, hu⟩
    refine hK.out _ _ hu ?_
    clear hK K
    replace HE := HE.trans hu
    replace c0 := hu.cell' c0
    replace c1 := hu.cell' c1
    replace x0 := hu.cell' x0
    replace x1 := hu.cell' x1
    replace y0 := hu.cell' y0
    replace y1 := hu.cell' y1
    replace v0 := hu.cell' v0
    replace v1 := hu.cell' v1
    replace hs4 := hs4.ext hu
    clear hu
    try simp only [Act.put, List.setIfInBounds_toArray, List.set_cons_zero, List.set_cons_succ]
    have e6 : decide (wz neg (val B32 l) < 0) = zb := by rw [← HZ.out, ← HZB.out, HR3.out h2]
    rw [e6]
    rw [← HZ.out] at s6
    rw [show r3.2 = z by rw [HR3.out h2]] at hs4
    refine wpE_l rfl rfl (fun K hK => ?_)
    go_simp
    refine (r02_Same_eq zb a4 a6 n4 c4 n6 c6 _ _ hs4 s6 (by have h7 := hs4.int_len; have h8 := HZL.out; omega)).mono ?_
    rintro e u ⟨rfl, hu⟩
    refine hK.out _ _ hu ?_
    clear hK K
    replace HE := HE.trans hu
    replace c0 := hu.cell' c0
    replace c1 := hu.cell' c1
    replace x0 := hu.cell' x0
    replace x1 := hu.cell' x1
    replace y0 := hu.cell' y0
    replace y1 := hu.cell' y1
    replace v0 := hu.cell' v0
    replace v1 := hu.cell' v1
    clear hu
    try simp only [Act.put, List.setIfInBounds_toArray, List.set_cons_zero, List.set_cons_succ]
    clear hs4 s6 e6
    repeat (refine wpE_q (v := ?_) rfl rfl (fun u hu => ?_) ?_; rotate_left 1; (focus ((have k0 := hu.cell' c0; have k1 := hu.cell' c1; have k2 := hu.cell' x0; have k3 := hu.cell' x1; have k4 := hu.cell' y0; have k5 := hu.cell' y1; have k6 := hu.cell' v0; have k7 := hu.cell' v1); go_simp; (try rfl))); simp only [Act.put, List.setIfInBounds_toArray, List.set_cons_zero, List.set_cons_succ])
    refine wpE_l rfl rfl (fun K hK => ?_)
    go_simp
    refine (w_lives_any _).mono ?_
    rintro e u ⟨rfl, hu⟩
    refine hK.out _ _ hu ?_
    clear hK K
    replace HE := HE.trans hu
    replace c0 := hu.cell' c0
    replace c1 := hu.cell' c1
    replace x0 := hu.cell' x0
    replace x1 := hu.cell' x1
    replace y0 := hu.cell' y0
    replace y1 := hu.cell' y1
    replace v0 := hu.cell' v0
    replace v1 := hu.cell' v1
    clear hu
    try simp only [Act.put, List.setIfInBounds_toArray, List.set_cons_zero, List.set_cons_succ]
    repeat (refine wpE_q (v := ?_) rfl rfl (fun u hu => ?_) ?_; rotate_left 1; (focus ((have k0 := hu.cell' c0; have k1 := hu.cell' c1; have k2 := hu.cell' x0; have k3 := hu.cell' x1; have k4 := hu.cell' y0; have k5 := hu.cell' y1; have k6 := hu.cell' v0; have k7 := hu.cell' v1); go_simp; (try rfl))); simp only [Act.put, List.setIfInBounds_toArray, List.set_cons_zero, List.set_cons_succ])
    refine wpE_done ?_
    go_wp2_with fail
    go_ret
    exact ⟨rfl, HE⟩
  · have h2i : (2000 : Int) < (tz.size : Int) := by omega
    refine wp_region_plan (R := Ext) (.q 0 (.q 1 (.l 2 (.q 3 (.q 4 (.q 5 (.q 6 (.l 7 (.q 8 (.q 9 (.q 10 (.q 11 (.q 12 (.q 13 (.q 14 (.q 15 (.q 16 (.q 17 (.q 18 (.q 19 (.q 20 (.q 21 (.q 22 (.q 23 (.q 24 (.q 25 (.q 26 (.l 27 (.l 28 (.q 29 (.q 30 (.q 31 (.q 32 (.l 33 (.q 34 (.q 35 .done)))))))))))))))))))))))))))))))))))) (by kernel_rfl) (by kernel_rfl) (by kernel_rfl) (by kernel_rfl) Ext.refl (fun _ _ _ => Ext.trans) ?_
    rw [← hw5]
    clear hw5
    repeat (refine wpE_q (v := ?_) rfl rfl (fun u hu => ?_) ?_; rotate_left 1; (focus ((have k0 := hu.cell' c0; have k1 := hu.cell' c1; have k2 := hu.cell' x0; have k3 := hu.cell' x1; have k4 := hu.cell' y0; have k5 := hu.cell' y1; have k6 := hu.cell' v0; have k7 := hu.cell' v1); go_simp; (try rfl))); simp only [Act.put, List.setIfInBounds_toArray, List.set_cons_zero, List.set_cons_succ])
    refine wpE_l rfl rfl (fun K hK => ?_)
    go_simp
    refine (HT2.out _ (HW.out.ext HE)).mono ?_
    rintro e u ⟨rfl, hu⟩
    refine hK.out _ _ hu ?_
    clear hK K
    replace HE := HE.trans hu
    replace c0 := hu.cell' c0
    replace c1 := hu.cell' c1
    replace x0 := hu.cell' x0
    replace x1 := hu.cell' x1
    replace y0 := hu.cell' y0
    replace y1 := hu.cell' y1
    replace v0 := hu.cell' v0
    replace v1 := hu.cell' v1
    replace hs1 := hs1.ext hu
    replace hs2 := hs2.ext hu
    replace hs4 := hs4.ext hu
    clear hu
    try simp only [Act.put, List.setIfInBounds_toArray, List.set_cons_zero, List.set_cons_succ]
    repeat (refine wpE_q (v := ?_) rfl rfl (fun u hu => ?_) ?_; rotate_left 1; (focus ((have k0 := hu.cell' c0; have k1 := hu.cell' c1; have k2 := hu.cell' x0; have k3 := hu.cell' x1; have k4 := hu.cell' y0; have k5 := hu.cell' y1; have k6 := hu.cell' v0; have k7 := hu.cell' v1); go_simp; (try rfl))); simp only [Act.put, List.setIfInBounds_toArray, List.set_cons_zero, List.set_cons_succ])
    refine wpE_l rfl rfl (fun K hK => ?_)
    go_simp
    refine (r02_Same_eq rb a1 a2 n1 c1' n2 c2' _ _ hs1 hs2 (by have h7 := hs1.int_len; have h8 := HPL.out; omega)).mono ?_
    rintro e u ⟨rfl, hu⟩
    refine hK.out _ _ hu ?_
    clear hK K
    replace HE := HE.trans hu
    replace c0 := hu.cell' c0
    replace c1 := hu.cell' c1
    replace x0 := hu.cell' x0
    replace x1 := hu.cell' x1
    replace y0 := hu.cell' y0
    replace y1 := hu.cell' y1
    replace v0 := hu.cell' v0
    replace v1 := hu.cell' v1
    replace hs4 := hs4.ext hu
    clear hu
    try simp only [Act.put, List.setIfInBounds_toArray, List.set_cons_zero, List.set_cons_succ]
    clear hs1 hs2
    repeat ((first | (refine wpE_q (v := ?_) rfl rfl (fun u hu => ?_) ?_; rotate_left 1; (focus ((have k0 := hu.cell' c0; have k1 := hu.cell' c1; have k2 := hu.cell' x0; have k3 := hu.cell' x1; have k4 := hu.cell' y0; have k5 := hu.cell' y1; have k6 := hu.cell' v0; have k7 := hu.cell' v1); go_simp; (try rfl)))) | refine wpE_qs rfl rfl ?_); simp only [Act.put, List.setIfInBounds_toArray, List.set_cons_zero, List.set_cons_succ])
    refine wpE_ls (Ext.refl _) rfl rfl ?_
    try simp only [Act.put, List.setIfInBounds_toArray, List.set_cons_zero, List.set_cons_succ]
    refine wpE_ls (Ext.refl _) rfl rfl ?_
    try simp only [Act.put, List.setIfInBounds_toArray, List.set_cons_zero, List.set_cons_succ]
    repeat ((first | (refine wpE_q (v := ?_) rfl rfl (fun u hu => ?_) ?_; rotate_left 1; (focus ((have k0 := hu.cell' c0; have k1 := hu.cell' c1; have k2 := hu.cell' x0; have k3 := hu.cell' x1; have k4 := hu.cell' y0; have k5 := hu.cell' y1; have k6 := hu.cell' v0; have k7 := hu.cell' v1); go_simp; (try rfl)))) | refine wpE_qs rfl rfl ?_); simp only [Act.put, List.setIfInBounds_toArray, List.set_cons_zero, List.set_cons_succ])
    refine wpE_l rfl rfl (fun K hK => ?_)
    go_simp
    refine (w_lives_any _).mono ?_
    rintro e u ⟨rfl, hu⟩
    refine hK.out _ _ hu ?_
    clear hK K
    replace HE := HE.trans hu
    replace c0 := hu.cell' c0
    replace c1 := hu.cell' c1
    replace x0 := hu.cell' x0
    replace x1 := hu.cell' x1
    replace y0 := hu.cell' y0
    replace y1 := hu.cell' y1
    replace v0 := hu.cell' v0
    replace v1 := hu.cell' v1
    clear hu
    try simp only [Act.put, List.setIfInBounds_toArray, List.set_cons_zero, List.set_cons_succ]
    repeat (refine wpE_q (v := ?_) rfl rfl (fun u hu => ?_) ?_; rotate_left 1; (focus ((have k0 := hu.cell' c0; have k1 := hu.cell' c1; have k2 := hu.cell' x0; have k3 := hu.cell' x1; have k4 := hu.cell' y0; have k5 := hu.cell' y1; have k6 := hu.cell' v0; have k7 := hu.cell' v1); go_simp; (try rfl))); simp only [Act.put, List.setIfInBounds_toArray, List.set_cons_zero, List.set_cons_succ])
    refine wpE_done ?_
    go_wp2_with fail
    go_ret
    exact ⟨rfl, HE⟩

end Go.Proofs.Ytcipcpbjkcpgdaa
