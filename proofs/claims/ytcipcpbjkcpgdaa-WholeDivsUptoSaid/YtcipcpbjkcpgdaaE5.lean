/- The document's whole numbers (frisketref02): as ints, as texts. -/
import Derived.Test.YtcipcpbjkcpgdaaE4
namespace Go.Proofs.Ytcipcpbjkcpgdaa
set_option linter.unusedVariables false
open Go Go.RowKit

/-- What Int answers. -/
def intR (z : Int) : Value := if -9223372036854775808 ≤ z ∧ z ≤ 9223372036854775807 then .tuple #[.int .i64 z, .bool true] else .tuple #[.int .i64 0, .bool false]

theorem sgn_neg {z : Int} (h : z < 0) : sgn z = -1 := by unfold sgn; rw [if_neg (by omega), if_pos h]
theorem sgn_nonneg {z : Int} (h : 0 ≤ z) : 0 ≤ sgn z := by unfold sgn; split <;> (try split) <;> omega
theorem sgn_pos {z : Int} (h : 0 < z) : sgn z = 1 := by unfold sgn; rw [if_neg (by omega), if_neg (by omega)]
theorem sgn_nonpos {z : Int} (h : z ≤ 0) : sgn z ≤ 0 := by unfold sgn; split <;> (try split) <;> omega

theorem natAbs_sub_len {z c : Int} {n : Nat} (h : z.natAbs < B32 ^ n) (hc : c.natAbs ≤ 9223372036854775808) : (dig B32 (z - c).natAbs).length ≤ n + 2 := by
  refine natAbs_len ?_
  have h1 : (z - c).natAbs ≤ z.natAbs + c.natAbs := by omega
  have h2 : B32 ^ (n + 2) = B32 ^ n * 18446744073709551616 := by rw [Nat.pow_add]; rfl
  have h3 : 1 ≤ B32 ^ n := Nat.pow_pos (by decide)
  rw [h2]
  omega

theorem val_drop (l : List Nat) (k : Nat) (hk : k < l.length) : val B32 (l.drop k) = l[k] + B32 * val B32 (l.drop (k + 1)) := by
  rw [List.drop_eq_getElem_cons hk]
  rfl
theorem val_drop_le (l : List Nat) : ∀ k, val B32 (l.drop k) ≤ val B32 l := by
  induction l with
  | nil => intro k; simp
  | cons x r ih =>
    intro k
    cases k with
    | zero => simp
    | succ k =>
      have := ih k
      simp only [List.drop_succ_cons, val]
      have : val B32 r ≤ B32 * val B32 r := Nat.le_mul_of_pos_left _ (by decide)
      omega

set_option maxRecDepth 100000 in
set_option maxHeartbeats 2000000 in
theorem r02_Int_any (neg : Bool) (a : Option Addr) (n cap : Nat) (z : Int) (w : World) (hw : WhIn w neg a n cap z) (hn : n ≤ 274877906944) :
    Calls Try.prog 61 #[.agg #[.bool neg, .slice a n cap]] w fun e w' => e = .returned (intR z) ∧ Ext w w' := by
  have hb1 := natAbs_sub_len (c := -9223372036854775808) hw.lt (by decide)
  have hb2 := natAbs_sub_len (c := 9223372036854775807) hw.lt (by decide)
  have HB1 := hidP hb1; have HB2 := hidP hb2
  clear hb1 hb2
  have ho1 : (dig B32 (-9223372036854775808 : Int).natAbs).length ≤ 549755813888 := by
    have : (dig B32 (-9223372036854775808 : Int).natAbs).length ≤ 2 := natAbs_len (by decide)
    omega
  have ho2 : (dig B32 (9223372036854775807 : Int).natAbs).length ≤ 549755813888 := by
    have : (dig B32 (9223372036854775807 : Int).natAbs).length ≤ 2 := natAbs_len (by decide)
    omega
  have HO1 := hidP ho1; have HO2 := hidP ho2
  clear ho1 ho2
  have HW := hidP hw; clear hw
  go_enter Try.func61, Try.ntmps61
  go_upto_region 1 with fail
  obtain ⟨w0, hw0⟩ : ∃ w0 : World, w0 = World.drew (w.alloc (.cells #[.bool neg, .slice a n cap] 51)) := ⟨_, rfl⟩
  have c0 : w0.cell? ⟨w.heap.size, 0, none⟩ = some (.bool neg) := by rw [hw0]; go_simp; try rfl
  have c1 : w0.cell? ⟨w.heap.size, 1, none⟩ = some (.slice a n cap) := by rw [hw0]; go_simp; try rfl
  have HE : Ext w w0 := by rw [hw0]; exact ((Ext.refl _).alloc _).drew
  refine wp_region_plan (R := Ext) (.q 0 (.l 1 (.l 2 (.q 3 (.q 4 (.q 5 (.l 6 (.l 7 (.q 8 (.q 9 .done)))))))))) (by kernel_rfl) (by kernel_rfl) (by kernel_rfl) (by kernel_rfl) Ext.refl (fun _ _ _ => Ext.trans) ?_
  rw [← hw0]
  clear hw0
  repeat (refine wpE_q (v := ?_) rfl rfl (fun u hu => ?_) ?_; rotate_left 1; (focus ((have k0 := hu.cell' c0; have k1 := hu.cell' c1); go_simp; (try rfl))); simp only [Act.put, List.setIfInBounds_toArray, List.set_cons_zero, List.set_cons_succ])
  by_cases hz1 : z < -9223372036854775808
  · have HR : Hid (intR z = .tuple #[.int .i64 0, .bool false]) := hidP (if_neg (fun h => by omega))
    have hc1 : sgn (z - (-9223372036854775808)) = -1 := sgn_neg (by omega)
    have HC1 := hidP hc1
    clear hc1
    refine wpE_l rfl rfl (fun K hK => ?_)
    go_simp
    refine (r02_Of_any (-9223372036854775808) _ (by decide) (by decide)).mono ?_
    rintro e u1 h1
    obtain ⟨a1, n1, cap1, rfl, hw1, hs1, he1⟩ := h1.whIn HO1.out
    refine hK.out _ _ he1 ?_
    clear hK K h1 hs1
    replace c0 := he1.cell' c0
    replace c1 := he1.cell' c1
    replace HE := HE.trans he1
    clear he1
    try simp only [Act.put, List.setIfInBounds_toArray, List.set_cons_zero, List.set_cons_succ]
    refine wpE_l rfl rfl (fun K hK => ?_)
    go_simp
    refine (r02_Cmp_any neg _ a a1 n cap n1 cap1 z (-9223372036854775808) _ (HW.out.ext HE) hw1 (by have := HB1.out; omega)).mono ?_
    rw [HC1.out]
    rintro e u2 ⟨rfl, he1⟩
    refine hK.out _ _ he1 ?_
    clear hK K hw1
    replace c0 := he1.cell' c0
    replace c1 := he1.cell' c1
    replace HE := HE.trans he1
    clear he1
    try simp only [Act.put, List.setIfInBounds_toArray, List.set_cons_zero, List.set_cons_succ]
    repeat (refine wpE_q (v := ?_) rfl rfl (fun u hu => ?_) ?_; rotate_left 1; (focus ((have k0 := hu.cell' c0; have k1 := hu.cell' c1); go_simp; (try rfl))); simp only [Act.put, List.setIfInBounds_toArray, List.set_cons_zero, List.set_cons_succ])
    refine wpE_qs rfl rfl ?_
    simp only [Act.put, List.setIfInBounds_toArray, List.set_cons_zero, List.set_cons_succ]
    refine wpE_ls (Ext.refl _) rfl rfl ?_
    simp only [Act.put, List.setIfInBounds_toArray, List.set_cons_zero, List.set_cons_succ]
    refine wpE_ls (Ext.refl _) rfl rfl ?_
    simp only [Act.put, List.setIfInBounds_toArray, List.set_cons_zero, List.set_cons_succ]
    refine wpE_qs rfl rfl ?_
    simp only [Act.put, List.setIfInBounds_toArray, List.set_cons_zero, List.set_cons_succ]
    repeat (refine wpE_q (v := ?_) rfl rfl (fun u hu => ?_) ?_; rotate_left 1; (focus ((have k0 := hu.cell' c0; have k1 := hu.cell' c1); go_simp; (try rfl))); simp only [Act.put, List.setIfInBounds_toArray, List.set_cons_zero, List.set_cons_succ])
    refine wpE_done ?_
    go_wp2_with fail
    go_ret2
    exact ⟨by rw [HR.out]; rfl, HE⟩
  · obtain ⟨s1, hs1⟩ : ∃ s1, sgn (z - (-9223372036854775808)) = s1 := ⟨_, rfl⟩
    have hp1 : 0 ≤ s1 := by rw [← hs1]; exact sgn_nonneg (by omega)
    have hd1 : decide (s1 < 0) = false := by simp; omega
    have HC1 := hidP hs1
    clear hs1
    refine wpE_l rfl rfl (fun K hK => ?_)
    go_simp
    refine (r02_Of_any (-9223372036854775808) _ (by decide) (by decide)).mono ?_
    rintro e u1 h1
    obtain ⟨a1, n1, cap1, rfl, hw1, hs1, he1⟩ := h1.whIn HO1.out
    refine hK.out _ _ he1 ?_
    clear hK K h1 hs1
    replace c0 := he1.cell' c0
    replace c1 := he1.cell' c1
    replace HE := HE.trans he1
    clear he1
    try simp only [Act.put, List.setIfInBounds_toArray, List.set_cons_zero, List.set_cons_succ]
    refine wpE_l rfl rfl (fun K hK => ?_)
    go_simp
    refine (r02_Cmp_any neg _ a a1 n cap n1 cap1 z (-9223372036854775808) _ (HW.out.ext HE) hw1 (by have := HB1.out; omega)).mono ?_
    rw [HC1.out]
    rintro e u2 ⟨rfl, he1⟩
    refine hK.out _ _ he1 ?_
    clear hK K hw1
    replace c0 := he1.cell' c0
    replace c1 := he1.cell' c1
    replace HE := HE.trans he1
    clear he1
    try simp only [Act.put, List.setIfInBounds_toArray, List.set_cons_zero, List.set_cons_succ]
    repeat (refine wpE_q (v := ?_) rfl rfl (fun u hu => ?_) ?_; rotate_left 1; (focus ((have k0 := hu.cell' c0; have k1 := hu.cell' c1); go_simp; (try rfl))); simp only [Act.put, List.setIfInBounds_toArray, List.set_cons_zero, List.set_cons_succ])
    by_cases hz2 : 9223372036854775807 < z
    · have HR : Hid (intR z = .tuple #[.int .i64 0, .bool false]) := hidP (if_neg (fun h => by omega))
      have hc2 : sgn (z - 9223372036854775807) = 1 := sgn_pos (by omega)
      have HC2 := hidP hc2
      clear hc2
      refine wpE_l rfl rfl (fun K hK => ?_)
      go_simp
      refine (r02_Of_any (9223372036854775807) _ (by decide) (by decide)).mono ?_
      rintro e v1 h1
      obtain ⟨a1, n1, cap1, rfl, hw1, hs1, he1⟩ := h1.whIn HO2.out
      refine hK.out _ _ he1 ?_
      clear hK K h1 hs1
      replace c0 := he1.cell' c0
      replace c1 := he1.cell' c1
      replace HE := HE.trans he1
      clear he1
      try simp only [Act.put, List.setIfInBounds_toArray, List.set_cons_zero, List.set_cons_succ]
      refine wpE_l rfl rfl (fun K hK => ?_)
      go_simp
      refine (r02_Cmp_any neg _ a a1 n cap n1 cap1 z (9223372036854775807) _ (HW.out.ext HE) hw1 (by have := HB2.out; omega)).mono ?_
      rw [HC2.out]
      rintro e v2 ⟨rfl, he1⟩
      refine hK.out _ _ he1 ?_
      clear hK K hw1
      replace c0 := he1.cell' c0
      replace c1 := he1.cell' c1
      replace HE := HE.trans he1
      clear he1
      try simp only [Act.put, List.setIfInBounds_toArray, List.set_cons_zero, List.set_cons_succ]
      repeat (refine wpE_q (v := ?_) rfl rfl (fun u hu => ?_) ?_; rotate_left 1; (focus ((have k0 := hu.cell' c0; have k1 := hu.cell' c1); go_simp; (try rfl))); simp only [Act.put, List.setIfInBounds_toArray, List.set_cons_zero, List.set_cons_succ])
      refine wpE_done ?_
      go_wp2_with fail
      go_ret2
      exact ⟨by rw [HR.out]; rfl, HE⟩
    · have HR : Hid (intR z = .tuple #[.int .i64 z, .bool true]) := hidP (if_pos ⟨by omega, by omega⟩)
      obtain ⟨s2, hs2⟩ : ∃ s2, sgn (z - 9223372036854775807) = s2 := ⟨_, rfl⟩
      have hp2 : s2 ≤ 0 := by rw [← hs2]; exact sgn_nonpos (by omega)
      have hd2 : decide (0 < s2) = false := by simp; omega
      have HC2 := hidP hs2
      clear hs2
      refine wpE_l rfl rfl (fun K hK => ?_)
      go_simp
      refine (r02_Of_any (9223372036854775807) _ (by decide) (by decide)).mono ?_
      rintro e v1 h1
      obtain ⟨a1, n1, cap1, rfl, hw1, hs1, he1⟩ := h1.whIn HO2.out
      refine hK.out _ _ he1 ?_
      clear hK K h1 hs1
      replace c0 := he1.cell' c0
      replace c1 := he1.cell' c1
      replace HE := HE.trans he1
      clear he1
      try simp only [Act.put, List.setIfInBounds_toArray, List.set_cons_zero, List.set_cons_succ]
      refine wpE_l rfl rfl (fun K hK => ?_)
      go_simp
      refine (r02_Cmp_any neg _ a a1 n cap n1 cap1 z (9223372036854775807) _ (HW.out.ext HE) hw1 (by have := HB2.out; omega)).mono ?_
      rw [HC2.out]
      rintro e v2 ⟨rfl, he1⟩
      refine hK.out _ _ he1 ?_
      clear hK K hw1
      replace c0 := he1.cell' c0
      replace c1 := he1.cell' c1
      replace HE := HE.trans he1
      clear he1
      try simp only [Act.put, List.setIfInBounds_toArray, List.set_cons_zero, List.set_cons_succ]
      repeat (refine wpE_q (v := ?_) rfl rfl (fun u hu => ?_) ?_; rotate_left 1; (focus ((have k0 := hu.cell' c0; have k1 := hu.cell' c1); go_simp; (try rfl))); simp only [Act.put, List.setIfInBounds_toArray, List.set_cons_zero, List.set_cons_succ])
      refine wpE_done ?_
      obtain ⟨⟨l, hsl, hl, hz⟩, _⟩ := HW.out.ext HE
      clear HW HB1 HB2 HO1 HO2 HC1 HC2
      have hln := hsl.int_len
      cases neg with
      | false =>
        have hvz : z = (val B32 l : Int) := by rw [← hz]; rfl
        have hvb : val B32 l ≤ 9223372036854775807 := by omega
        have HVZ := hidP hvz
        have HVB := hidP hvb
        clear hz hvz hvb
        go_wp2_with fail
        go_loop [4, 5] (fun v i => ∃ k v' : Nat, k ≤ n ∧ i = .int .i64 ((k : Int) - 1) ∧ v = .int .i64 ((v' : Int)) ∧ val B32 (l.drop k) = v') (fun _ i => (intOf i + 1).toNat)
        case atStart => exact ⟨n, 0, by omega, by go_num, rfl, by rw [List.drop_eq_nil_of_le (by omega)]; rfl⟩
        case round =>
          obtain ⟨k, v', hk, rfl, rfl, hv⟩ := hrel
          have HV := hidP hv; clear hv
          by_cases h0 : 0 < k
          · obtain ⟨j, rfl⟩ : ∃ j, k = j + 1 := ⟨k - 1, by omega⟩
            have e1 : ((j + 1 : Nat) : Int) - 1 = (j : Int) := by omega
            rw [e1]
            obtain ⟨b, off, rfl, hcc⟩ := hsl.at_int (by omega)
            have hck := hcc j (by omega)
            have hx := hl.at j (by omega)
            have hst := val_drop l j (by omega)
            rw [HV.out] at hst
            have hle := val_drop_le l j
            rw [hst] at hle
            have hle2 := HVB.out
            generalize l[j] = x at *
            have hb : x + 4294967296 * v' ≤ 9223372036854775807 := Nat.le_trans (show x + 4294967296 * v' ≤ val B32 l from hle) hle2
            have HST := hidP hst
            clear hst hle hle2 hcc e1
            go_wp2_with fail
            go_round
            case rel => exact ⟨j, x + 4294967296 * v', by omega, rfl, by go_num, by rw [HST.out]; rfl⟩
            case measure => simp [intOf]
          · obtain rfl : k = 0 := by omega
            go_wp2_with fail
            go_ret2
            have h1 := HV.out
            simp only [List.drop_zero] at h1
            exact ⟨by rw [HR.out, HVZ.out, h1]; rfl, HE⟩
      | true =>
        have hvz : z = -(val B32 l : Int) := by rw [← hz]; rfl
        have hvb : val B32 l ≤ 9223372036854775808 := by omega
        have HVZ := hidP hvz
        have HVB := hidP hvb
        clear hz hvz hvb
        go_wp2_with fail
        go_loop [4, 5] (fun v i => ∃ k v' : Nat, k ≤ n ∧ i = .int .i64 ((k : Int) - 1) ∧ v = .int .i64 (-(v' : Int)) ∧ val B32 (l.drop k) = v') (fun _ i => (intOf i + 1).toNat)
        case atStart => exact ⟨n, 0, by omega, by go_num, rfl, by rw [List.drop_eq_nil_of_le (by omega)]; rfl⟩
        case round =>
          obtain ⟨k, v', hk, rfl, rfl, hv⟩ := hrel
          have HV := hidP hv; clear hv
          by_cases h0 : 0 < k
          · obtain ⟨j, rfl⟩ : ∃ j, k = j + 1 := ⟨k - 1, by omega⟩
            have e1 : ((j + 1 : Nat) : Int) - 1 = (j : Int) := by omega
            rw [e1]
            obtain ⟨b, off, rfl, hcc⟩ := hsl.at_int (by omega)
            have hck := hcc j (by omega)
            have hx := hl.at j (by omega)
            have hst := val_drop l j (by omega)
            rw [HV.out] at hst
            have hle := val_drop_le l j
            rw [hst] at hle
            have hle2 := HVB.out
            generalize l[j] = x at *
            have hb : x + 4294967296 * v' ≤ 9223372036854775808 := Nat.le_trans (show x + 4294967296 * v' ≤ val B32 l from hle) hle2
            have HST := hidP hst
            clear hst hle hle2 hcc e1
            go_wp2_with fail
            go_round
            case rel => exact ⟨j, x + 4294967296 * v', by omega, rfl, by go_num, by rw [HST.out]; rfl⟩
            case measure => simp [intOf]
          · obtain rfl : k = 0 := by omega
            go_wp2_with fail
            go_ret2
            have h1 := HV.out
            simp only [List.drop_zero] at h1
            exact ⟨by rw [HR.out, HVZ.out, h1]; rfl, HE⟩

/-- A number's text. -/
def textZ (z : Int) : ByteArray := if z < 0 then ⟨#[45]⟩ ++ decS z.natAbs else decS z.natAbs

set_option maxRecDepth 100000 in
set_option maxHeartbeats 1000000 in
theorem r02_Text_any (neg : Bool) (a : Option Addr) (n cap : Nat) (z : Int) (w : World) (hw : WhIn w neg a n cap z) (hD : (decD z.natAbs).length ≤ 35184372088832) :
    Calls Try.prog 83 #[.agg #[.bool neg, .slice a n cap]] w fun e w' => e = .returned (.string (textZ z)) ∧ Ext w w' := by
  have hls := hw
  obtain ⟨⟨l, hs, hl, hz⟩, hn⟩ := hls
  have hA : z.natAbs = val B32 l := by rw [← hz]; unfold wz; split <;> omega
  rw [hA] at hD
  have hD2 : (decS (val B32 l)).size ≤ 35184372088832 := by unfold decS; rw [decB_size]; exact hD
  have HD := hidP hD; clear hD
  have HS := hidP hs; have HW := hidP hw; clear hs hw
  by_cases h0 : z < 0
  · have HR : Hid (textZ z = ⟨#[45]⟩ ++ decS (val B32 l)) := hidP (by unfold textZ; rw [if_pos h0, hA])
    have HC : Hid (sgn z = -1) := hidP (sgn_neg h0)
    clear hz hA
    go_enter Try.func83, Try.ntmps83
    go_wp2_with fail
    refine (r02_Sign_any neg a n cap z _ (HW.out.ext ((Ext.refl _).alloc _))).mono ?_
    rw [HC.out]
    rintro e w1 ⟨rfl, he1⟩
    have c0 := he1.cell' (p := ⟨w.heap.size, 0, none⟩) (v := .bool neg) (by go_simp; try rfl)
    have c1 := he1.cell' (p := ⟨w.heap.size, 1, none⟩) (v := .slice a n cap) (by go_simp; try rfl)
    have HE : Ext w w1 := ((Ext.refl _).alloc _).trans he1
    clear he1
    go_wp2_with fail
    refine (r01_Text_any a n cap l _ (HS.out.ext HE) hl (by omega) HD.out).mono ?_
    rintro e w2 ⟨rfl, he2⟩
    generalize decS (val B32 l) = tt at *
    have hcs : (⟨#[45]⟩ : ByteArray).size + tt.size ≤ 9223372036854775807 := by
      have : (⟨#[45]⟩ : ByteArray).size = 1 := rfl
      omega
    go_wp2_with fail
    go_ret
    exact ⟨by rw [HR.out]; rfl, HE.trans he2⟩
  · have HR : Hid (textZ z = decS (val B32 l)) := hidP (by unfold textZ; rw [if_neg h0, hA])
    obtain ⟨s1, hs1⟩ : ∃ s1, sgn z = s1 := ⟨_, rfl⟩
    have hp1 : 0 ≤ s1 := by rw [← hs1]; exact sgn_nonneg (by omega)
    have HC := hidP hs1
    clear hz hA hs1
    go_enter Try.func83, Try.ntmps83
    go_wp2_with fail
    refine (r02_Sign_any neg a n cap z _ (HW.out.ext ((Ext.refl _).alloc _))).mono ?_
    rw [HC.out]
    rintro e w1 ⟨rfl, he1⟩
    have c0 := he1.cell' (p := ⟨w.heap.size, 0, none⟩) (v := .bool neg) (by go_simp; try rfl)
    have c1 := he1.cell' (p := ⟨w.heap.size, 1, none⟩) (v := .slice a n cap) (by go_simp; try rfl)
    have HE : Ext w w1 := ((Ext.refl _).alloc _).trans he1
    clear he1
    go_wp2_with fail
    refine (r01_Text_any a n cap l _ (HS.out.ext HE) hl (by omega) HD.out).mono ?_
    rintro e w2 ⟨rfl, he2⟩
    go_wp2_with fail
    go_ret
    exact ⟨by rw [HR.out]; rfl, HE.trans he2⟩

end Go.Proofs.Ytcipcpbjkcpgdaa
