/- Joined: W3 W4 W5 W6 W9 W10 W13 V1 V2 VH. -/
import Derived.Test.YtgjjalnmigdjgaaGreatM4
import Derived.Test.YtgjjalnmigdjgaaGreatM1
import Derived.Deep.DeepCutAuto
namespace Go.Proofs.YtgjjalnmigdjgaaGreat
set_option linter.unusedVariables false
open Go Go.RowKit
set_option maxRecDepth 100000 in
set_option maxHeartbeats 1000000 in
theorem w_Sign_any (neg : Bool) (a : Option Addr) (n cap : Nat) (z : Int) (w : World) (hw : WhIn w neg a n cap z) :
    Calls Tryz.prog 89 #[.agg #[.bool neg, .slice a n cap]] w fun e w' => e = .returned (.int .i64 (sgn z)) ∧ Ext w w' := by
  obtain ⟨⟨l, hs, hl, hz⟩, hn⟩ := hw
  have hB := nat_Bits_any a n cap l _ (hs.ext ((Ext.refl w).alloc (.cells #[.bool neg, .slice a n cap] 27))) hl (by omega)
  by_cases h0 : val B32 l = 0
  · have HR : Hid (sgn z = 0) := hidP (by subst hz; unfold wz sgn; rw [h0]; cases neg <;> rfl)
    rw [show bitlen (val B32 l) = 0 by rw [h0]; rfl] at hB
    have HB := hidP hB
    clear hz h0 hB
    go_enter Tryz.func89, Tryz.ntmps89
    go_wp2_with fail
    refine HB.out.mono ?_
    rintro e w1 ⟨rfl, rfl⟩
    go_wp2_with fail
    go_ret
    exact ⟨by rw [HR.out]; rfl, (Ext.refl _).alloc _⟩
  · have HR : Hid (sgn z = if neg then -1 else 1) := hidP (by subst hz; unfold wz sgn; cases neg <;> simp <;> omega)
    have hbz : bitlen (val B32 l) ≠ 0 := fun h => by
      have := lt_bitlen (val B32 l)
      rw [h] at this
      omega
    generalize bitlen (val B32 l) = bl at *
    have hb0 : ((bl : Int) == 0) = false := by simp; omega
    have HB := hidP hB
    clear hz h0 hB hbz
    cases neg with
    | false =>
      go_enter Tryz.func89, Tryz.ntmps89
      go_wp2_with fail
      refine HB.out.mono ?_
      rintro e w1 ⟨rfl, rfl⟩
      go_wp2_with fail
      go_ret
      exact ⟨by rw [HR.out]; rfl, (Ext.refl _).alloc _⟩
    | true =>
      go_enter Tryz.func89, Tryz.ntmps89
      go_wp2_with fail
      refine HB.out.mono ?_
      rintro e w1 ⟨rfl, rfl⟩
      go_wp2_with fail
      go_ret
      exact ⟨by rw [HR.out]; rfl, (Ext.refl _).alloc _⟩
end Go.Proofs.YtgjjalnmigdjgaaGreat
namespace Go.Proofs.YtgjjalnmigdjgaaGreat
set_option linter.unusedVariables false
open Go Go.RowKit
end Go.Proofs.YtgjjalnmigdjgaaGreat
namespace Go.Proofs.YtgjjalnmigdjgaaGreat
set_option linter.unusedVariables false
open Go Go.RowKit
end Go.Proofs.YtgjjalnmigdjgaaGreat
namespace Go.Proofs.YtgjjalnmigdjgaaGreat
set_option linter.unusedVariables false
open Go Go.RowKit
end Go.Proofs.YtgjjalnmigdjgaaGreat
namespace Go.Proofs.YtgjjalnmigdjgaaGreat
set_option linter.unusedVariables false
open Go Go.RowKit
set_option maxRecDepth 100000 in
set_option maxHeartbeats 4000000 in
theorem w_Add_any (neg neg' : Bool) (a a' : Option Addr) (n cap n' cap' : Nat) (z z' : Int) (w : World) (hw : WhIn w neg a n cap z) (hw' : WhIn w neg' a' n' cap' z') :
    Calls Tryz.prog 174 #[.agg #[.bool neg, .slice a n cap], .agg #[.bool neg', .slice a' n' cap']] w (RetW w (z + z')) := by
 obtain ⟨⟨l, hs, hl, hz⟩, hn⟩ := hw
 obtain ⟨⟨l', hs', hl', hz'⟩, hn'⟩ := hw'
 have HS := hidP hs; have HS' := hidP hs'
 clear hs hs'
 by_cases hb : neg = neg'
 · subst hb
   have hzz : wz neg (val B32 l + val B32 l') = z + z' := by rw [add_same, hz, hz']
   have hbe : (neg == neg) = true := by simp
   have HZ := hidP hzz
   clear hz hz' hzz
   go_enter Tryz.func174, Tryz.ntmps174
   go_upto_region 2 with fail
   obtain ⟨w0, hw0⟩ : ∃ w0 : World, w0 = World.drew (((w.alloc (.cells #[.bool neg, .slice a n cap] 27)).alloc (.cells #[.bool neg, .slice a' n' cap'] 27)).alloc (.cells #[.bool false, .slice none 0 0] 27)) := ⟨_, rfl⟩
   have c0 : w0.cell? ⟨w.heap.size, 0, none⟩ = some (.bool neg) := by rw [hw0]; go_simp; try rfl
   have c1 : w0.cell? ⟨w.heap.size, 1, none⟩ = some (.slice a n cap) := by rw [hw0]; go_simp; try rfl
   have d0 : w0.cell? ⟨w.heap.size + 1, 0, none⟩ = some (.bool neg) := by rw [hw0]; go_simp; try rfl
   have d1 : w0.cell? ⟨w.heap.size + 1, 1, none⟩ = some (.slice a' n' cap') := by rw [hw0]; go_simp; try rfl
   have z0 : w0.cell? ⟨w.heap.size + 1 + 1, 0, none⟩ = some (.bool false) := by rw [hw0]; go_simp; try rfl
   have qz0 : w0.frozen? ⟨w.heap.size + 1 + 1, 0, none⟩ = false := by rw [hw0]; go_simp; try rfl
   have z1 : w0.cell? ⟨w.heap.size + 1 + 1, 1, none⟩ = some (.slice none 0 0) := by rw [hw0]; go_simp; try rfl
   have qz1 : w0.frozen? ⟨w.heap.size + 1 + 1, 1, none⟩ = false := by rw [hw0]; go_simp; try rfl
   have HE : Ext w w0 := by rw [hw0]; exact ((((Ext.refl _).alloc _).alloc _).alloc _).drew
   refine wp_region_plan (R := Ext) (.q 0 (.q 1 (.q 2 (.q 3 (.q 4 (.q 5 (.l 6 (.l 7 (.b 8 .done))))))))) (by kernel_rfl) (by kernel_rfl) (by kernel_rfl) (by kernel_rfl) Ext.refl (fun _ _ _ => Ext.trans) ?_
   rw [← hw0]
   clear hw0
   repeat (refine wpE_q (v := ?_) rfl rfl (fun u hu => ?_) ?_; rotate_left 1; (focus ((have k0 := hu.cell' c0; have k1 := hu.cell' c1; have k2 := hu.cell' d0; have k3 := hu.cell' d1); go_simp; (try rfl))); simp only [PU])
   refine wpE_l rfl rfl (fun K hK => ?_)
   go_simp
   refine (nat_Add_any a a' n cap n' cap' l l' _ (HS.out.ext HE) (HS'.out.ext HE) hl hl' (by omega) (by omega)).mono ?_
   rintro e w1 ⟨a1, n1, cap1, rfl, hs1, he1⟩
   refine hK.out _ _ he1 ?_
   clear hK K
   have hgl : w.heap.size + 1 + 1 < w0.heap.size := World.block_lt_of_cell? w0 _ z0
   replace z0 := he1.cell' z0
   replace qz0 := (he1.frozen (p := ⟨w.heap.size + 1 + 1, 0, none⟩) hgl).trans qz0
   replace z1 := he1.cell' z1
   replace qz1 := (he1.frozen (p := ⟨w.heap.size + 1 + 1, 1, none⟩) hgl).trans qz1
   clear hgl
   clear c0 c1 d0 d1
   replace HE := HE.trans he1
   clear he1
   try simp only [PU]
   refine wpE_l rfl rfl (fun K hK => ?_)
   go_simp
   refine (w_clean_any neg a1 n1 cap1 _ _ hs1).mono ?_
   rw [HZ.out]
   rintro e w2 ⟨a2, n2, cap2, rfl, hs2, he2⟩
   refine hK.out _ _ he2 ?_
   clear hK K
   have hgl : w.heap.size + 1 + 1 < w1.heap.size := World.block_lt_of_cell? w1 _ z0
   replace z0 := he2.cell' z0
   replace qz0 := (he2.frozen (p := ⟨w.heap.size + 1 + 1, 0, none⟩) hgl).trans qz0
   replace z1 := he2.cell' z1
   replace qz1 := (he2.frozen (p := ⟨w.heap.size + 1 + 1, 1, none⟩) hgl).trans qz1
   clear hgl
   replace HE := HE.trans he2
   clear he2 hs1
   try simp only [PU]
   refine wpE_b rfl rfl (fun K hK => ?_)
   go_simp
   refine hK.out _ _ ?_
   clear hK K
   try simp only [PU]
   refine wpE_done ?_
   go_wp2_with fail
   refine bodyPost_cells rfl rfl Tryz.underlying27 rfl (by kernel_rfl) (two (by go_simp; try rfl) (by go_simp; try rfl)) rfl ?_
   exact RetW.stored z0 z1 hs2 HE (by omega) rfl
 have hbe : (neg == neg') = false := by simpa using hb
 have HB := hidP hb
 clear hb
 by_cases hc : val B32 l' ≤ val B32 l
 · have hzz : wz neg (val B32 l - val B32 l') = z + z' := by rw [add_other HB.out hc, hz, hz']
   have HZ := hidP hzz
   have HC := hidP (decide_eq_true hc)
   clear hz hz' hzz hc
   go_enter Tryz.func174, Tryz.ntmps174
   go_wp2_with fail
   refine (nat_Sub_any a a' n cap n' cap' l l' _ (HS.out.ext ((((Ext.refl _).alloc _).alloc _).alloc _)) (HS'.out.ext ((((Ext.refl _).alloc _).alloc _).alloc _)) hl hl' (by omega) (by omega)).mono ?_
   rw [HC.out]
   rintro e w1 ⟨a1, n1, cap1, rfl, hs1, he1⟩
   have c0 := he1.cell' (p := ⟨w.heap.size, 0, none⟩) (v := .bool neg) (by go_simp; try rfl)
   have c1 := he1.cell' (p := ⟨w.heap.size, 1, none⟩) (v := .slice a n cap) (by go_simp; try rfl)
   have d0 := he1.cell' (p := ⟨w.heap.size + 1, 0, none⟩) (v := .bool neg') (by go_simp; try rfl)
   have d1 := he1.cell' (p := ⟨w.heap.size + 1, 1, none⟩) (v := .slice a' n' cap') (by go_simp; try rfl)
   have z0 := he1.cell' (p := ⟨w.heap.size + 1 + 1, 0, none⟩) (v := .bool false) (by go_simp; try rfl)
   have qz0 : w1.frozen? ⟨w.heap.size + 1 + 1, 0, none⟩ = false := (he1.frozen (p := ⟨w.heap.size + 1 + 1, 0, none⟩) (by simp)).trans (by go_simp)
   have z1 := he1.cell' (p := ⟨w.heap.size + 1 + 1, 1, none⟩) (v := .slice none 0 0) (by go_simp; try rfl)
   have qz1 : w1.frozen? ⟨w.heap.size + 1 + 1, 1, none⟩ = false := (he1.frozen (p := ⟨w.heap.size + 1 + 1, 1, none⟩) (by simp)).trans (by go_simp)
   have HE : Ext w w1 := ((((Ext.refl _).alloc _).alloc _).alloc _).trans he1
   clear he1
   go_wp2_with fail
   refine (w_clean_any neg a1 n1 cap1 _ _ hs1).mono ?_
   rw [HZ.out]
   rintro e w3 ⟨a3, n3, cap3, rfl, hs3, he3⟩
   replace qz0 := (he3.frozen (p := ⟨w.heap.size + 1 + 1, 0, none⟩) (World.block_lt_of_cell? w1 _ z0)).trans qz0
   replace qz1 := (he3.frozen (p := ⟨w.heap.size + 1 + 1, 1, none⟩) (World.block_lt_of_cell? w1 _ z1)).trans qz1
   replace c0 := he3.cell' c0
   replace c1 := he3.cell' c1
   replace d0 := he3.cell' d0
   replace d1 := he3.cell' d1
   replace z0 := he3.cell' z0
   replace z1 := he3.cell' z1
   replace HE := HE.trans he3
   clear he3
   go_wp2_with fail
   refine bodyPost_cells rfl rfl Tryz.underlying27 rfl (by kernel_rfl) (two (by go_simp; try rfl) (by go_simp; try rfl)) rfl ?_
   exact RetW.stored z0 z1 hs3 HE (by omega) rfl
 have hlt : val B32 l < val B32 l' := by omega
 have hzz : wz neg' (val B32 l' - val B32 l) = z + z' := by rw [add_other' HB.out (Nat.le_of_lt hlt), hz, hz']
 have HZ := hidP hzz
 have HC := hidP (decide_eq_false hc)
 have HC2 := hidP (decide_eq_true (Nat.le_of_lt hlt))
 clear hz hz' hzz hc hlt
 go_enter Tryz.func174, Tryz.ntmps174
 go_wp2_with fail
 refine (nat_Sub_any a a' n cap n' cap' l l' _ (HS.out.ext ((((Ext.refl _).alloc _).alloc _).alloc _)) (HS'.out.ext ((((Ext.refl _).alloc _).alloc _).alloc _)) hl hl' (by omega) (by omega)).mono ?_
 rw [HC.out]
 rintro e w1 ⟨a1, n1, cap1, rfl, hs1, he1⟩
 have c0 := he1.cell' (p := ⟨w.heap.size, 0, none⟩) (v := .bool neg) (by go_simp; try rfl)
 have c1 := he1.cell' (p := ⟨w.heap.size, 1, none⟩) (v := .slice a n cap) (by go_simp; try rfl)
 have d0 := he1.cell' (p := ⟨w.heap.size + 1, 0, none⟩) (v := .bool neg') (by go_simp; try rfl)
 have d1 := he1.cell' (p := ⟨w.heap.size + 1, 1, none⟩) (v := .slice a' n' cap') (by go_simp; try rfl)
 have z0 := he1.cell' (p := ⟨w.heap.size + 1 + 1, 0, none⟩) (v := .bool false) (by go_simp; try rfl)
 have qz0 : w1.frozen? ⟨w.heap.size + 1 + 1, 0, none⟩ = false := (he1.frozen (p := ⟨w.heap.size + 1 + 1, 0, none⟩) (by simp)).trans (by go_simp)
 have z1 := he1.cell' (p := ⟨w.heap.size + 1 + 1, 1, none⟩) (v := .slice none 0 0) (by go_simp; try rfl)
 have qz1 : w1.frozen? ⟨w.heap.size + 1 + 1, 1, none⟩ = false := (he1.frozen (p := ⟨w.heap.size + 1 + 1, 1, none⟩) (by simp)).trans (by go_simp)
 have HE : Ext w w1 := ((((Ext.refl _).alloc _).alloc _).alloc _).trans he1
 clear he1 hs1
 go_wp2_with fail
 refine (nat_Sub_any a' a n' cap' n cap l' l _ (HS'.out.ext HE) (HS.out.ext HE) hl' hl (by omega) (by omega)).mono ?_
 rw [HC2.out]
 rintro e w2 ⟨a2, n2, cap2, rfl, hs2, he2⟩
 replace qz0 := (he2.frozen (p := ⟨w.heap.size + 1 + 1, 0, none⟩) (World.block_lt_of_cell? w1 _ z0)).trans qz0
 replace qz1 := (he2.frozen (p := ⟨w.heap.size + 1 + 1, 1, none⟩) (World.block_lt_of_cell? w1 _ z1)).trans qz1
 replace c0 := he2.cell' c0
 replace c1 := he2.cell' c1
 replace d0 := he2.cell' d0
 replace d1 := he2.cell' d1
 replace z0 := he2.cell' z0
 replace z1 := he2.cell' z1
 replace HE := HE.trans he2
 clear he2
 go_wp2_with fail
 refine (w_clean_any neg' a2 n2 cap2 _ _ hs2).mono ?_
 rw [HZ.out]
 rintro e w3 ⟨a3, n3, cap3, rfl, hs3, he3⟩
 replace qz0 := (he3.frozen (p := ⟨w.heap.size + 1 + 1, 0, none⟩) (World.block_lt_of_cell? w2 _ z0)).trans qz0
 replace qz1 := (he3.frozen (p := ⟨w.heap.size + 1 + 1, 1, none⟩) (World.block_lt_of_cell? w2 _ z1)).trans qz1
 replace c0 := he3.cell' c0
 replace c1 := he3.cell' c1
 replace d0 := he3.cell' d0
 replace d1 := he3.cell' d1
 replace z0 := he3.cell' z0
 replace z1 := he3.cell' z1
 replace HE := HE.trans he3
 clear he3
 go_wp2_with fail
 refine bodyPost_cells rfl rfl Tryz.underlying27 rfl (by kernel_rfl) (two (by go_simp; try rfl) (by go_simp; try rfl)) rfl ?_
 exact RetW.stored z0 z1 hs3 HE (by omega) rfl
end Go.Proofs.YtgjjalnmigdjgaaGreat
namespace Go.Proofs.YtgjjalnmigdjgaaGreat
set_option linter.unusedVariables false
open Go Go.RowKit
set_option maxRecDepth 100000 in
set_option maxHeartbeats 1000000 in
theorem w_Neg_any (neg : Bool) (a : Option Addr) (n cap : Nat) (z : Int) (w : World) (hw : WhIn w neg a n cap z) :
    Calls Tryz.prog 215 #[.agg #[.bool neg, .slice a n cap]] w (RetW w (-z)) := by
  obtain ⟨⟨l, hs, hl, hz⟩, hn⟩ := hw
  have hzz : wz (!neg) (val B32 l) = -z := by rw [wz_not, hz]
  have HZ := hidP hzz
  clear hz hzz
  go_enter Tryz.func215, Tryz.ntmps215
  go_wp2_with fail
  refine (w_Make_any (!neg) a n cap l _ (hs.ext (((Ext.refl _).alloc _).alloc _)) hl (by omega)).mono ?_
  rw [HZ.out]
  rintro e w1 ⟨a1, n1, cap1, rfl, hs1, he1⟩
  have z0 := he1.cell' (p := ⟨w.heap.size + 1, 0, none⟩) (v := .bool false) (by go_simp; try rfl)
  have qz0 : w1.frozen? ⟨w.heap.size + 1, 0, none⟩ = false := (he1.frozen (p := ⟨w.heap.size + 1, 0, none⟩) (by simp)).trans (by go_simp)
  have z1 := he1.cell' (p := ⟨w.heap.size + 1, 1, none⟩) (v := .slice none 0 0) (by go_simp; try rfl)
  have qz1 : w1.frozen? ⟨w.heap.size + 1, 1, none⟩ = false := (he1.frozen (p := ⟨w.heap.size + 1, 1, none⟩) (by simp)).trans (by go_simp)
  have HE : Ext w w1 := (((Ext.refl _).alloc _).alloc _).trans he1
  clear he1
  go_wp2_with fail
  refine bodyPost_cells rfl rfl Tryz.underlying27 rfl (by kernel_rfl) (two (by go_simp; try rfl) (by go_simp; try rfl)) rfl ?_
  exact RetW.stored z0 z1 hs1 HE (Nat.le_succ _) (by simp)
theorem WhIn.not {w : World} {neg : Bool} {a : Option Addr} {n cap : Nat} {z : Int} (h : WhIn w neg a n cap z) : WhIn w (!neg) a n cap (-z) :=
  let ⟨⟨l, h1, h2, h3⟩, h4⟩ := h; ⟨⟨l, h1, h2, by rw [wz_not, h3]⟩, h4⟩
set_option maxRecDepth 100000 in
set_option maxHeartbeats 2000000 in
theorem w_Sub_any (neg neg' : Bool) (a a' : Option Addr) (n cap n' cap' : Nat) (z z' : Int) (w : World) (hw : WhIn w neg a n cap z) (hw' : WhIn w neg' a' n' cap' z') :
    Calls Tryz.prog 170 #[.agg #[.bool neg, .slice a n cap], .agg #[.bool neg', .slice a' n' cap']] w (RetW w (z - z')) := by
  have HW := hidP hw; have HW' := hidP hw'.not
  clear hw hw'
  go_enter Tryz.func170, Tryz.ntmps170
  go_wp2_with fail
  refine (w_Add_any neg (!neg') a a' n cap n' cap' z (-z') _ (HW.out.ext ((((Ext.refl _).alloc _).alloc _).alloc _)) (HW'.out.ext ((((Ext.refl _).alloc _).alloc _).alloc _))).mono ?_
  rintro e w1 ⟨a1, n1, cap1, rfl, hs1, he1⟩
  have z0 := he1.cell' (p := ⟨w.heap.size + 1 + 1, 0, none⟩) (v := .bool false) (by go_simp; try rfl)
  have qz0 : w1.frozen? ⟨w.heap.size + 1 + 1, 0, none⟩ = false := (he1.frozen (p := ⟨w.heap.size + 1 + 1, 0, none⟩) (by simp)).trans (by go_simp)
  have z1 := he1.cell' (p := ⟨w.heap.size + 1 + 1, 1, none⟩) (v := .slice none 0 0) (by go_simp; try rfl)
  have qz1 : w1.frozen? ⟨w.heap.size + 1 + 1, 1, none⟩ = false := (he1.frozen (p := ⟨w.heap.size + 1 + 1, 1, none⟩) (by simp)).trans (by go_simp)
  have HE : Ext w w1 := ((((Ext.refl _).alloc _).alloc _).alloc _).trans he1
  clear he1
  go_wp2_with fail
  refine bodyPost_cells rfl rfl Tryz.underlying27 rfl (by kernel_rfl) (two (by go_simp; try rfl) (by go_simp; try rfl)) rfl ?_
  exact RetW.stored z0 z1 hs1 HE (by omega) rfl
theorem wz_mul (b b' : Bool) (x y : Nat) : wz (b != b') (x * y) = wz b x * wz b' y := by
  unfold wz
  cases b <;> cases b' <;> simp [Int.neg_mul, Int.mul_neg]
set_option maxRecDepth 100000 in
set_option maxHeartbeats 2000000 in
theorem w_Mul_any (neg neg' : Bool) (a a' : Option Addr) (n cap n' cap' : Nat) (z z' : Int) (w : World) (hw : WhIn w neg a n cap z) (hw' : WhIn w neg' a' n' cap' z') :
    Calls Tryz.prog 91 #[.agg #[.bool neg, .slice a n cap], .agg #[.bool neg', .slice a' n' cap']] w (RetW w (z * z')) := by
 obtain ⟨⟨l, hs, hl, hz⟩, hn⟩ := hw
 obtain ⟨⟨l', hs', hl', hz'⟩, hn'⟩ := hw'
 have hln := hs.int_len
 have hln' := hs'.int_len
 have hzz : wz (neg != neg') (val B32 l * val B32 l') = z * z' := by rw [wz_mul, hz, hz']
 have hlen : (dig B32 (val B32 l * val B32 l')).length ≤ 1099511627776 := by
  refine Nat.le_trans (dig_len_le (k := n + n') B32_two ?_) (by omega)
  have h1 := val_lt (B := B32) (by decide) l hl
  have h2 := val_lt (B := B32) (by decide) l' hl'
  rw [hln] at h1
  rw [hln'] at h2
  rw [Nat.pow_add]
  exact Nat.mul_lt_mul'' h1 h2
 have HS := hidP hs; have HS' := hidP hs'
 obtain ⟨nb, hnb⟩ : ∃ nb, nb = (neg != neg') := ⟨_, rfl⟩
 rw [← hnb] at hzz
 have HZ := hidP hzz; have HLEN := hidP hlen
 clear hz hz' hzz hlen hln hln' hs hs'
 have hne : (!(neg == neg')) = nb := hnb.symm
 clear hnb
 go_enter Tryz.func91, Tryz.ntmps91
 go_upto_region 1 with fail
 obtain ⟨w0, hw0⟩ : ∃ w0 : World, w0 = World.drew (((w.alloc (.cells #[.bool neg, .slice a n cap] 27)).alloc (.cells #[.bool neg', .slice a' n' cap'] 27)).alloc (.cells #[.bool false, .slice none 0 0] 27)) := ⟨_, rfl⟩
 have c0 : w0.cell? ⟨w.heap.size, 0, none⟩ = some (.bool neg) := by rw [hw0]; go_simp; try rfl
 have c1 : w0.cell? ⟨w.heap.size, 1, none⟩ = some (.slice a n cap) := by rw [hw0]; go_simp; try rfl
 have d0 : w0.cell? ⟨w.heap.size + 1, 0, none⟩ = some (.bool neg') := by rw [hw0]; go_simp; try rfl
 have d1 : w0.cell? ⟨w.heap.size + 1, 1, none⟩ = some (.slice a' n' cap') := by rw [hw0]; go_simp; try rfl
 have z0 : w0.cell? ⟨w.heap.size + 1 + 1, 0, none⟩ = some (.bool false) := by rw [hw0]; go_simp; try rfl
 have qz0 : w0.frozen? ⟨w.heap.size + 1 + 1, 0, none⟩ = false := by rw [hw0]; go_simp; try rfl
 have z1 : w0.cell? ⟨w.heap.size + 1 + 1, 1, none⟩ = some (.slice none 0 0) := by rw [hw0]; go_simp; try rfl
 have qz1 : w0.frozen? ⟨w.heap.size + 1 + 1, 1, none⟩ = false := by rw [hw0]; go_simp; try rfl
 have HE : Ext w w0 := by rw [hw0]; exact ((((Ext.refl _).alloc _).alloc _).alloc _).drew
 refine wp_region_plan (R := Ext) (.q 0 (.q 1 (.q 2 (.q 3 (.q 4 (.q 5 (.q 6 (.q 7 (.q 8 (.l 9 (.l 10 (.b 11 .done)))))))))))) (by kernel_rfl) (by kernel_rfl) (by kernel_rfl) (by kernel_rfl) Ext.refl (fun _ _ _ => Ext.trans) ?_
 rw [← hw0]
 clear hw0
 repeat (refine wpE_q (v := ?_) rfl rfl (fun u hu => ?_) ?_; rotate_left 1; (focus ((have k0 := hu.cell' c0; have k1 := hu.cell' c1; have k2 := hu.cell' d0; have k3 := hu.cell' d1); go_simp; (try rfl))); simp only [PU])
 refine wpE_l rfl rfl (fun K hK => ?_)
 go_simp
 refine (nat_Mul_any a a' n cap n' cap' l l' _ (HS.out.ext HE) (HS'.out.ext HE) hl hl' (by omega) (by omega)).mono ?_
 rintro e w1 ⟨a1, n1, cap1, rfl, hs1, he1⟩
 refine hK.out _ _ he1 ?_
 clear hK K
 have hgl : w.heap.size + 1 + 1 < w0.heap.size := World.block_lt_of_cell? w0 _ z0
 replace z0 := he1.cell' z0
 replace qz0 := (he1.frozen (p := ⟨w.heap.size + 1 + 1, 0, none⟩) hgl).trans qz0
 replace z1 := he1.cell' z1
 replace qz1 := (he1.frozen (p := ⟨w.heap.size + 1 + 1, 1, none⟩) hgl).trans qz1
 clear hgl
 clear c0 c1 d0 d1
 replace HE := HE.trans he1
 clear he1
 try simp only [PU]
 refine wpE_l rfl rfl (fun K hK => ?_)
 go_simp
 refine (w_clean_any nb a1 n1 cap1 _ _ hs1).mono ?_
 rw [HZ.out]
 rintro e w2 ⟨a2, n2, cap2, rfl, hs2, he2⟩
 refine hK.out _ _ he2 ?_
 clear hK K
 have hgl : w.heap.size + 1 + 1 < w1.heap.size := World.block_lt_of_cell? w1 _ z0
 replace z0 := he2.cell' z0
 replace qz0 := (he2.frozen (p := ⟨w.heap.size + 1 + 1, 0, none⟩) hgl).trans qz0
 replace z1 := he2.cell' z1
 replace qz1 := (he2.frozen (p := ⟨w.heap.size + 1 + 1, 1, none⟩) hgl).trans qz1
 clear hgl
 replace HE := HE.trans he2
 clear he2 hs1
 try simp only [PU]
 refine wpE_b rfl rfl (fun K hK => ?_)
 go_simp
 refine hK.out _ _ ?_
 clear hK K
 try simp only [PU]
 refine wpE_done ?_
 go_wp2_with fail
 refine bodyPost_cells rfl rfl Tryz.underlying27 rfl (by kernel_rfl) (two (by go_simp; try rfl) (by go_simp; try rfl)) rfl ?_
 exact RetW.stored z0 z1 hs2 HE (by omega) rfl
set_option maxRecDepth 100000 in
set_option maxHeartbeats 2000000 in
theorem r02_Mul_any (neg neg' : Bool) (a a' : Option Addr) (n cap n' cap' : Nat) (z z' : Int) (w : World) (hw : WhIn w neg a n cap z) (hw' : WhIn w neg' a' n' cap' z') :
    Calls Tryz.prog 94 #[.agg #[.bool neg, .slice a n cap], .agg #[.bool neg', .slice a' n' cap']] w (RetW w (z * z')) := by
 obtain ⟨⟨l, hs, hl, hz⟩, hn⟩ := hw
 obtain ⟨⟨l', hs', hl', hz'⟩, hn'⟩ := hw'
 have hln := hs.int_len
 have hln' := hs'.int_len
 have hzz : wz (neg != neg') (val B32 l * val B32 l') = z * z' := by rw [wz_mul, hz, hz']
 have hlen : (dig B32 (val B32 l * val B32 l')).length ≤ 1099511627776 := by
  refine Nat.le_trans (dig_len_le (k := n + n') B32_two ?_) (by omega)
  have h1 := val_lt (B := B32) (by decide) l hl
  have h2 := val_lt (B := B32) (by decide) l' hl'
  rw [hln] at h1
  rw [hln'] at h2
  rw [Nat.pow_add]
  exact Nat.mul_lt_mul'' h1 h2
 have HS := hidP hs; have HS' := hidP hs'
 obtain ⟨nb, hnb⟩ : ∃ nb, nb = (neg != neg') := ⟨_, rfl⟩
 rw [← hnb] at hzz
 have HZ := hidP hzz; have HLEN := hidP hlen
 clear hz hz' hzz hlen hln hln' hs hs'
 have hne : (!(neg == neg')) = nb := hnb.symm
 clear hnb
 go_enter Tryz.func94, Tryz.ntmps94
 go_upto_region 1 with fail
 obtain ⟨w0, hw0⟩ : ∃ w0 : World, w0 = World.drew (((w.alloc (.cells #[.bool neg, .slice a n cap] 27)).alloc (.cells #[.bool neg', .slice a' n' cap'] 27)).alloc (.cells #[.bool false, .slice none 0 0] 27)) := ⟨_, rfl⟩
 have c0 : w0.cell? ⟨w.heap.size, 0, none⟩ = some (.bool neg) := by rw [hw0]; go_simp; try rfl
 have c1 : w0.cell? ⟨w.heap.size, 1, none⟩ = some (.slice a n cap) := by rw [hw0]; go_simp; try rfl
 have d0 : w0.cell? ⟨w.heap.size + 1, 0, none⟩ = some (.bool neg') := by rw [hw0]; go_simp; try rfl
 have d1 : w0.cell? ⟨w.heap.size + 1, 1, none⟩ = some (.slice a' n' cap') := by rw [hw0]; go_simp; try rfl
 have z0 : w0.cell? ⟨w.heap.size + 1 + 1, 0, none⟩ = some (.bool false) := by rw [hw0]; go_simp; try rfl
 have qz0 : w0.frozen? ⟨w.heap.size + 1 + 1, 0, none⟩ = false := by rw [hw0]; go_simp; try rfl
 have z1 : w0.cell? ⟨w.heap.size + 1 + 1, 1, none⟩ = some (.slice none 0 0) := by rw [hw0]; go_simp; try rfl
 have qz1 : w0.frozen? ⟨w.heap.size + 1 + 1, 1, none⟩ = false := by rw [hw0]; go_simp; try rfl
 have HE : Ext w w0 := by rw [hw0]; exact ((((Ext.refl _).alloc _).alloc _).alloc _).drew
 refine wp_region_plan (R := Ext) (.q 0 (.q 1 (.q 2 (.q 3 (.q 4 (.q 5 (.q 6 (.q 7 (.q 8 (.l 9 (.l 10 (.b 11 .done)))))))))))) (by kernel_rfl) (by kernel_rfl) (by kernel_rfl) (by kernel_rfl) Ext.refl (fun _ _ _ => Ext.trans) ?_
 rw [← hw0]
 clear hw0
 repeat (refine wpE_q (v := ?_) rfl rfl (fun u hu => ?_) ?_; rotate_left 1; (focus ((have k0 := hu.cell' c0; have k1 := hu.cell' c1; have k2 := hu.cell' d0; have k3 := hu.cell' d1); go_simp; (try rfl))); simp only [PU])
 refine wpE_l rfl rfl (fun K hK => ?_)
 go_simp
 refine (r01_Mul_any a a' n cap n' cap' l l' _ (HS.out.ext HE) (HS'.out.ext HE) hl hl' (by omega) (by omega)).mono ?_
 rintro e w1 ⟨a1, n1, cap1, rfl, hs1, he1⟩
 refine hK.out _ _ he1 ?_
 clear hK K
 have hgl : w.heap.size + 1 + 1 < w0.heap.size := World.block_lt_of_cell? w0 _ z0
 replace z0 := he1.cell' z0
 replace qz0 := (he1.frozen (p := ⟨w.heap.size + 1 + 1, 0, none⟩) hgl).trans qz0
 replace z1 := he1.cell' z1
 replace qz1 := (he1.frozen (p := ⟨w.heap.size + 1 + 1, 1, none⟩) hgl).trans qz1
 clear hgl
 clear c0 c1 d0 d1
 replace HE := HE.trans he1
 clear he1
 try simp only [PU]
 refine wpE_l rfl rfl (fun K hK => ?_)
 go_simp
 refine (r02_Make_any nb a1 n1 cap1 _ _ hs1 (Ws.dig _) (by have h3 := hs1.int_len; have h4 := HLEN.out; omega)).mono ?_
 rw [val_dig B32_two, HZ.out]
 rintro e w2 ⟨a2, n2, cap2, rfl, hs2, he2⟩
 refine hK.out _ _ he2 ?_
 clear hK K
 have hgl : w.heap.size + 1 + 1 < w1.heap.size := World.block_lt_of_cell? w1 _ z0
 replace z0 := he2.cell' z0
 replace qz0 := (he2.frozen (p := ⟨w.heap.size + 1 + 1, 0, none⟩) hgl).trans qz0
 replace z1 := he2.cell' z1
 replace qz1 := (he2.frozen (p := ⟨w.heap.size + 1 + 1, 1, none⟩) hgl).trans qz1
 clear hgl
 replace HE := HE.trans he2
 clear he2 hs1
 try simp only [PU]
 refine wpE_b rfl rfl (fun K hK => ?_)
 go_simp
 refine hK.out _ _ ?_
 clear hK K
 try simp only [PU]
 refine wpE_done ?_
 go_wp2_with fail
 refine bodyPost_cells rfl rfl Tryz.underlying27 rfl (by kernel_rfl) (two (by go_simp; try rfl) (by go_simp; try rfl)) rfl ?_
 exact RetW.stored z0 z1 hs2 HE (by omega) rfl
theorem cmpI_sgn (x y : Nat) : cmpI x y = sgn ((x : Int) - (y : Int)) := by
  unfold cmpI sgn
  split
  · rw [if_neg (by omega), if_pos (by omega)]
  · split
    · rw [if_neg (by omega), if_neg (by omega)]
    · rw [if_pos (by omega)]
theorem sgn_cases (z : Int) : (sgn z = -1 ∧ z < 0) ∨ (sgn z = 0 ∧ z = 0) ∨ (sgn z = 1 ∧ 0 < z) := by
  unfold sgn
  split
  · exact .inr (.inl ⟨rfl, by assumption⟩)
  · split
    · exact .inl ⟨rfl, by assumption⟩
    · exact .inr (.inr ⟨rfl, by omega⟩)
set_option maxRecDepth 100000 in
set_option maxHeartbeats 2000000 in
theorem w_Cmp_any (neg neg' : Bool) (a a' : Option Addr) (n cap n' cap' : Nat) (z z' : Int) (w : World) (hw : WhIn w neg a n cap z) (hw' : WhIn w neg' a' n' cap' z') :
    Calls Tryz.prog 90 #[.agg #[.bool neg, .slice a n cap], .agg #[.bool neg', .slice a' n' cap']] w fun e w' => e = .returned (.int .i64 (sgn (z - z'))) ∧ Ext w w' := by
 obtain ⟨⟨l, hs, hl, hz⟩, hn⟩ := id hw
 obtain ⟨⟨l', hs', hl', hz'⟩, hn'⟩ := id hw'
 obtain ⟨r, hr⟩ : ∃ r, r = sgn (z - z') := ⟨_, rfl⟩
 rw [← hr]
 obtain ⟨s1, h1⟩ : ∃ s1, s1 = sgn z := ⟨_, rfl⟩
 obtain ⟨s2, h2⟩ : ∃ s2, s2 = sgn z' := ⟨_, rfl⟩
 have H : (s1 < s2 ∧ r = -1) ∨ (s2 < s1 ∧ r = 1) ∨ (s1 = s2 ∧ s2 < 0 ∧ cmpI (val B32 l') (val B32 l) = r) ∨ (s1 = s2 ∧ 0 ≤ s2 ∧ cmpI (val B32 l) (val B32 l') = r) := by
  rw [cmpI_sgn, cmpI_sgn]
  have e1 : z < 0 → z = -(val B32 l : Int) := fun h => by rw [← hz] at h ⊢; unfold wz at *; split <;> simp_all <;> omega
  have e2 : z' < 0 → z' = -(val B32 l' : Int) := fun h => by rw [← hz'] at h ⊢; unfold wz at *; split <;> simp_all <;> omega
  have e3 : 0 ≤ z → z = (val B32 l : Int) := fun h => by rw [← hz] at h ⊢; unfold wz at *; split <;> simp_all <;> omega
  have e4 : 0 ≤ z' → z' = (val B32 l' : Int) := fun h => by rw [← hz'] at h ⊢; unfold wz at *; split <;> simp_all <;> omega
  have hm : ∀ t : Int, t < 0 → sgn t = -1 := fun t ht => by unfold sgn; rw [if_neg (by omega), if_pos ht]
  have hp : ∀ t : Int, 0 < t → sgn t = 1 := fun t ht => by unfold sgn; rw [if_neg (by omega), if_neg (by omega)]
  rcases sgn_cases z with ⟨q1, q2⟩ | ⟨q1, q2⟩ | ⟨q1, q2⟩ <;> rcases sgn_cases z' with ⟨p1, p2⟩ | ⟨p1, p2⟩ | ⟨p1, p2⟩
  · right; right; left
    refine ⟨by omega, by omega, ?_⟩
    rw [hr, e1 q2, e2 p2]; congr 1; omega
  · left; exact ⟨by omega, by rw [hr]; exact hm _ (by omega)⟩
  · left; exact ⟨by omega, by rw [hr]; exact hm _ (by omega)⟩
  · right; left; exact ⟨by omega, by rw [hr]; exact hp _ (by omega)⟩
  · right; right; right
    refine ⟨by omega, by omega, ?_⟩
    rw [hr, e3 (by omega), e4 (by omega)]
  · left; exact ⟨by omega, by rw [hr]; exact hm _ (by omega)⟩
  · right; left; exact ⟨by omega, by rw [hr]; exact hp _ (by omega)⟩
  · right; left; exact ⟨by omega, by rw [hr]; exact hp _ (by omega)⟩
  right; right; right
  refine ⟨by omega, by omega, ?_⟩
  rw [hr, e3 (by omega), e4 (by omega)]
 have HW := hidP hw; have HW' := hidP hw'
 have HS := hidP hs; have HS' := hidP hs'
 have H1 := hidP h1.symm; have H2 := hidP h2.symm
 clear hw hw' hs hs' h1 h2 hz hz' hr
 rcases H with ⟨hlt, rfl⟩ | ⟨hlt, rfl⟩ | ⟨rfl, hlt, hc⟩ | ⟨rfl, hlt, hc⟩
 · go_enter Tryz.func90, Tryz.ntmps90
   go_upto_region 1 with fail
   obtain ⟨w0, hw0⟩ : ∃ w0 : World, w0 = World.drew ((w.alloc (.cells #[.bool neg, .slice a n cap] 27)).alloc (.cells #[.bool neg', .slice a' n' cap'] 27)) := ⟨_, rfl⟩
   have c0 : w0.cell? ⟨w.heap.size, 0, none⟩ = some (.bool neg) := by rw [hw0]; go_simp; try rfl
   have c1 : w0.cell? ⟨w.heap.size, 1, none⟩ = some (.slice a n cap) := by rw [hw0]; go_simp; try rfl
   have d0 : w0.cell? ⟨w.heap.size + 1, 0, none⟩ = some (.bool neg') := by rw [hw0]; go_simp; try rfl
   have d1 : w0.cell? ⟨w.heap.size + 1, 1, none⟩ = some (.slice a' n' cap') := by rw [hw0]; go_simp; try rfl
   have HE : Ext w w0 := by rw [hw0]; exact (((Ext.refl _).alloc _).alloc _).drew
   refine wp_region_plan (R := Ext) (.q 0 (.q 2 (.l 1 (.l 3 (.q 4 (.q 5 .done)))))) (by kernel_rfl) (by kernel_rfl) (by kernel_rfl) (by kernel_rfl) Ext.refl (fun _ _ _ => Ext.trans) ?_
   rw [← hw0]
   clear hw0
   repeat (refine wpE_q (v := ?_) rfl rfl (fun u hu => ?_) ?_; rotate_left 1; (focus ((have k0 := hu.cell' c0; have k1 := hu.cell' c1; have k2 := hu.cell' d0; have k3 := hu.cell' d1); go_simp; (try rfl))); simp only [PU])
   refine wpE_l rfl rfl (fun K hK => ?_)
   go_simp
   refine (w_Sign_any neg a n cap z _ (HW.out.ext HE)).mono ?_
   rw [H1.out]
   rintro e w1 ⟨rfl, he1⟩
   refine hK.out _ _ he1 ?_
   clear hK K
   replace c0 := he1.cell' c0
   replace c1 := he1.cell' c1
   replace d0 := he1.cell' d0
   replace d1 := he1.cell' d1
   replace HE := HE.trans he1
   clear he1
   try simp only [PU]
   refine wpE_l rfl rfl (fun K hK => ?_)
   go_simp
   refine (w_Sign_any neg' a' n' cap' z' _ (HW'.out.ext HE)).mono ?_
   rw [H2.out]
   rintro e w2 ⟨rfl, he2⟩
   refine hK.out _ _ he2 ?_
   clear hK K
   replace c0 := he2.cell' c0
   replace c1 := he2.cell' c1
   replace d0 := he2.cell' d0
   replace d1 := he2.cell' d1
   replace HE := HE.trans he2
   clear he2
   try simp only [PU]
   repeat (refine wpE_q (v := ?_) rfl rfl (fun u hu => ?_) ?_; rotate_left 1; (focus (go_simp; (try rfl))); simp only [PU])
   refine wpE_done ?_
   go_wp2_with fail
   go_ret
   exact ⟨rfl, HE⟩
 · go_enter Tryz.func90, Tryz.ntmps90
   go_upto_region 1 with fail
   obtain ⟨w0, hw0⟩ : ∃ w0 : World, w0 = World.drew ((w.alloc (.cells #[.bool neg, .slice a n cap] 27)).alloc (.cells #[.bool neg', .slice a' n' cap'] 27)) := ⟨_, rfl⟩
   have c0 : w0.cell? ⟨w.heap.size, 0, none⟩ = some (.bool neg) := by rw [hw0]; go_simp; try rfl
   have c1 : w0.cell? ⟨w.heap.size, 1, none⟩ = some (.slice a n cap) := by rw [hw0]; go_simp; try rfl
   have d0 : w0.cell? ⟨w.heap.size + 1, 0, none⟩ = some (.bool neg') := by rw [hw0]; go_simp; try rfl
   have d1 : w0.cell? ⟨w.heap.size + 1, 1, none⟩ = some (.slice a' n' cap') := by rw [hw0]; go_simp; try rfl
   have HE : Ext w w0 := by rw [hw0]; exact (((Ext.refl _).alloc _).alloc _).drew
   refine wp_region_plan (R := Ext) (.q 0 (.q 2 (.l 1 (.l 3 (.q 4 (.q 5 .done)))))) (by kernel_rfl) (by kernel_rfl) (by kernel_rfl) (by kernel_rfl) Ext.refl (fun _ _ _ => Ext.trans) ?_
   rw [← hw0]
   clear hw0
   repeat (refine wpE_q (v := ?_) rfl rfl (fun u hu => ?_) ?_; rotate_left 1; (focus ((have k0 := hu.cell' c0; have k1 := hu.cell' c1; have k2 := hu.cell' d0; have k3 := hu.cell' d1); go_simp; (try rfl))); simp only [PU])
   refine wpE_l rfl rfl (fun K hK => ?_)
   go_simp
   refine (w_Sign_any neg a n cap z _ (HW.out.ext HE)).mono ?_
   rw [H1.out]
   rintro e w1 ⟨rfl, he1⟩
   refine hK.out _ _ he1 ?_
   clear hK K
   replace c0 := he1.cell' c0
   replace c1 := he1.cell' c1
   replace d0 := he1.cell' d0
   replace d1 := he1.cell' d1
   replace HE := HE.trans he1
   clear he1
   try simp only [PU]
   refine wpE_l rfl rfl (fun K hK => ?_)
   go_simp
   refine (w_Sign_any neg' a' n' cap' z' _ (HW'.out.ext HE)).mono ?_
   rw [H2.out]
   rintro e w2 ⟨rfl, he2⟩
   refine hK.out _ _ he2 ?_
   clear hK K
   replace c0 := he2.cell' c0
   replace c1 := he2.cell' c1
   replace d0 := he2.cell' d0
   replace d1 := he2.cell' d1
   replace HE := HE.trans he2
   clear he2
   try simp only [PU]
   repeat (refine wpE_q (v := ?_) rfl rfl (fun u hu => ?_) ?_; rotate_left 1; (focus (go_simp; (try rfl))); simp only [PU])
   refine wpE_done ?_
   go_wp2_with fail
   go_ret
   exact ⟨rfl, HE⟩
 · have HC := hidP hc
   clear hc
   go_enter Tryz.func90, Tryz.ntmps90
   go_upto_region 1 with fail
   obtain ⟨w0, hw0⟩ : ∃ w0 : World, w0 = World.drew ((w.alloc (.cells #[.bool neg, .slice a n cap] 27)).alloc (.cells #[.bool neg', .slice a' n' cap'] 27)) := ⟨_, rfl⟩
   have c0 : w0.cell? ⟨w.heap.size, 0, none⟩ = some (.bool neg) := by rw [hw0]; go_simp; try rfl
   have c1 : w0.cell? ⟨w.heap.size, 1, none⟩ = some (.slice a n cap) := by rw [hw0]; go_simp; try rfl
   have d0 : w0.cell? ⟨w.heap.size + 1, 0, none⟩ = some (.bool neg') := by rw [hw0]; go_simp; try rfl
   have d1 : w0.cell? ⟨w.heap.size + 1, 1, none⟩ = some (.slice a' n' cap') := by rw [hw0]; go_simp; try rfl
   have HE : Ext w w0 := by rw [hw0]; exact (((Ext.refl _).alloc _).alloc _).drew
   refine wp_region_plan (R := Ext) (.q 0 (.q 2 (.l 1 (.l 3 (.q 4 (.q 5 .done)))))) (by kernel_rfl) (by kernel_rfl) (by kernel_rfl) (by kernel_rfl) Ext.refl (fun _ _ _ => Ext.trans) ?_
   rw [← hw0]
   clear hw0
   repeat (refine wpE_q (v := ?_) rfl rfl (fun u hu => ?_) ?_; rotate_left 1; (focus ((have k0 := hu.cell' c0; have k1 := hu.cell' c1; have k2 := hu.cell' d0; have k3 := hu.cell' d1); go_simp; (try rfl))); simp only [PU])
   refine wpE_l rfl rfl (fun K hK => ?_)
   go_simp
   refine (w_Sign_any neg a n cap z _ (HW.out.ext HE)).mono ?_
   rw [H1.out]
   rintro e w1 ⟨rfl, he1⟩
   refine hK.out _ _ he1 ?_
   clear hK K
   replace c0 := he1.cell' c0
   replace c1 := he1.cell' c1
   replace d0 := he1.cell' d0
   replace d1 := he1.cell' d1
   replace HE := HE.trans he1
   clear he1
   try simp only [PU]
   refine wpE_l rfl rfl (fun K hK => ?_)
   go_simp
   refine (w_Sign_any neg' a' n' cap' z' _ (HW'.out.ext HE)).mono ?_
   rw [H2.out]
   rintro e w2 ⟨rfl, he2⟩
   refine hK.out _ _ he2 ?_
   clear hK K
   replace c0 := he2.cell' c0
   replace c1 := he2.cell' c1
   replace d0 := he2.cell' d0
   replace d1 := he2.cell' d1
   replace HE := HE.trans he2
   clear he2
   try simp only [PU]
   repeat (refine wpE_q (v := ?_) rfl rfl (fun u hu => ?_) ?_; rotate_left 1; (focus (go_simp; (try rfl))); simp only [PU])
   refine wpE_done ?_
   go_wp2_with fail
   refine (nat_Cmp_any a' a n' cap' n cap l' l _ (HS'.out.ext HE) (HS.out.ext HE) hl' hl (by omega) (by omega)).mono ?_
   rw [HC.out]
   rintro e w3 ⟨rfl, he3⟩
   go_wp2_with fail
   go_ret
   exact ⟨rfl, HE.trans he3⟩
 have HC := hidP hc
 clear hc
 go_enter Tryz.func90, Tryz.ntmps90
 go_upto_region 1 with fail
 obtain ⟨w0, hw0⟩ : ∃ w0 : World, w0 = World.drew ((w.alloc (.cells #[.bool neg, .slice a n cap] 27)).alloc (.cells #[.bool neg', .slice a' n' cap'] 27)) := ⟨_, rfl⟩
 have c0 : w0.cell? ⟨w.heap.size, 0, none⟩ = some (.bool neg) := by rw [hw0]; go_simp; try rfl
 have c1 : w0.cell? ⟨w.heap.size, 1, none⟩ = some (.slice a n cap) := by rw [hw0]; go_simp; try rfl
 have d0 : w0.cell? ⟨w.heap.size + 1, 0, none⟩ = some (.bool neg') := by rw [hw0]; go_simp; try rfl
 have d1 : w0.cell? ⟨w.heap.size + 1, 1, none⟩ = some (.slice a' n' cap') := by rw [hw0]; go_simp; try rfl
 have HE : Ext w w0 := by rw [hw0]; exact (((Ext.refl _).alloc _).alloc _).drew
 refine wp_region_plan (R := Ext) (.q 0 (.q 2 (.l 1 (.l 3 (.q 4 (.q 5 .done)))))) (by kernel_rfl) (by kernel_rfl) (by kernel_rfl) (by kernel_rfl) Ext.refl (fun _ _ _ => Ext.trans) ?_
 rw [← hw0]
 clear hw0
 repeat (refine wpE_q (v := ?_) rfl rfl (fun u hu => ?_) ?_; rotate_left 1; (focus ((have k0 := hu.cell' c0; have k1 := hu.cell' c1; have k2 := hu.cell' d0; have k3 := hu.cell' d1); go_simp; (try rfl))); simp only [PU])
 refine wpE_l rfl rfl (fun K hK => ?_)
 go_simp
 refine (w_Sign_any neg a n cap z _ (HW.out.ext HE)).mono ?_
 rw [H1.out]
 rintro e w1 ⟨rfl, he1⟩
 refine hK.out _ _ he1 ?_
 clear hK K
 replace c0 := he1.cell' c0
 replace c1 := he1.cell' c1
 replace d0 := he1.cell' d0
 replace d1 := he1.cell' d1
 replace HE := HE.trans he1
 clear he1
 try simp only [PU]
 refine wpE_l rfl rfl (fun K hK => ?_)
 go_simp
 refine (w_Sign_any neg' a' n' cap' z' _ (HW'.out.ext HE)).mono ?_
 rw [H2.out]
 rintro e w2 ⟨rfl, he2⟩
 refine hK.out _ _ he2 ?_
 clear hK K
 replace c0 := he2.cell' c0
 replace c1 := he2.cell' c1
 replace d0 := he2.cell' d0
 replace d1 := he2.cell' d1
 replace HE := HE.trans he2
 clear he2
 try simp only [PU]
 repeat (refine wpE_q (v := ?_) rfl rfl (fun u hu => ?_) ?_; rotate_left 1; (focus (go_simp; (try rfl))); simp only [PU])
 refine wpE_done ?_
 go_wp2_with fail
 refine (nat_Cmp_any a a' n cap n' cap' l l' _ (HS.out.ext HE) (HS'.out.ext HE) hl hl' (by omega) (by omega)).mono ?_
 rw [HC.out]
 rintro e w3 ⟨rfl, he3⟩
 go_wp2_with fail
 go_ret
 exact ⟨rfl, HE.trans he3⟩
end Go.Proofs.YtgjjalnmigdjgaaGreat
namespace Go.Proofs.YtgjjalnmigdjgaaGreat
set_option linter.unusedVariables false
open Go Go.RowKit
end Go.Proofs.YtgjjalnmigdjgaaGreat
namespace Go.Proofs.YtgjjalnmigdjgaaGreat
set_option linter.unusedVariables false
open Go Go.RowKit
theorem absB {P : Program} {fn : Func} {R : Ending → World → Prop} {ex : Exit} {a : Act} {w : World} (h : ∀ u, u = w → bodyPost P fn R ex a u) : bodyPost P fn R ex a w := h w rfl
theorem Nc.but {w u : World} {g : Nat} {cs : Array Value} {a : Option Addr} {n cap V : Nat} (h : Nc w a n cap V) (hb : Bl w g cs) (hcs : ∀ (j : Nat) (x : Int), cs[j]? ≠ some (Value.int .u32 x)) (hu : But w u g) : Nc u a n cap V := Sl.but h hb hcs hu
theorem bl_two {w : World} {g : Nat} {v0 v1 : Value} (h : Bl w g #[v0, v1]) : ∀ j v, (#[v0, v1] : Array Value).toList[j]? = some v → w.cell? ⟨g, j, none⟩ = some v := by
  intro j v hv
  rw [h j]
  simpa using hv
theorem WhIn.nu {w : World} {neg : Bool} {a : Option Addr} {n cap : Nat} {z : Int} (h : WhIn w neg a n cap z) : Nu w a n cap z.natAbs := by
  obtain ⟨⟨l, hs, hl, hz⟩, hn⟩ := h
  have h2 : z.natAbs = val B32 l := by rw [← hz]; unfold wz; split <;> omega
  exact ⟨⟨l, hs, hl, h2.symm⟩, by omega⟩
theorem WhIn.sgn {w : World} {neg : Bool} {a : Option Addr} {n cap : Nat} {z : Int} (h : WhIn w neg a n cap z) : z = wz neg z.natAbs := by
  obtain ⟨⟨l, hs, hl, hz⟩, hn⟩ := h
  have h2 : z.natAbs = val B32 l := by rw [← hz]; unfold wz; split <;> omega
  rw [h2]; exact hz.symm
theorem nb_bool {b : Bool} : ∀ x : Int, Value.bool b ≠ .int .u32 x := fun x h => by cases h
theorem nb_slice {a : Option Addr} {n c : Nat} : ∀ x : Int, Value.slice a n c ≠ .int .u32 x := fun x h => by cases h
end Go.Proofs.YtgjjalnmigdjgaaGreat
namespace Go.Proofs.YtgjjalnmigdjgaaGreat
set_option linter.unusedVariables false
open Go Go.RowKit
theorem absE {R : World → World → Prop} {P : Program} {ops : Array Oper} {Q : Exit → Act → World → Prop} {p : Plan} {a : Act} {w : World} (h : ∀ u, u = w → wpE R P ops Q p a u) : wpE R P ops Q p a w := h w rfl
theorem Nc.wh {w : World} {a : Option Addr} {n cap : Nat} {z : Int} (h : Nc w a n cap z.natAbs) (hb : dl z.natAbs ≤ 549755813888) : WhIn w (decide (z < 0)) a n cap z :=
  ⟨⟨_, h, Ws.dig _, by rw [val_dig B32_two]; exact wz_canon z⟩, by rw [h.len]; exact hb⟩
theorem d_Make (neg : Bool) {a : Option Addr} {n cap V : Nat} {w : World} (h : Nu w a n cap V) : Calls Tryz.prog 105 #[.bool neg, .slice a n cap] w (RetW w (wz neg V)) := by
  obtain ⟨⟨l, hs, hl, rfl⟩, hn⟩ := h; exact r02_Make_any neg a n cap l w hs hl hn
theorem wz_abs (b : Bool) (m : Nat) : (wz b m).natAbs = m := by unfold wz; split <;> omega
theorem dz_sub {z z' : Int} {N : Nat} (h : dl z.natAbs ≤ N) (h' : dl z'.natAbs ≤ N) : dl (z - z').natAbs ≤ N + 1 :=
  Nat.le_trans (dl_mono (by omega : (z - z').natAbs ≤ z.natAbs + z'.natAbs)) (dl_add h h')
theorem dz_add {z z' : Int} {N : Nat} (h : dl z.natAbs ≤ N) (h' : dl z'.natAbs ≤ N) : dl (z + z').natAbs ≤ N + 1 :=
  Nat.le_trans (dl_mono (by omega : (z + z').natAbs ≤ z.natAbs + z'.natAbs)) (dl_add h h')
theorem dz_mul (z z' : Int) : dl (z * z').natAbs ≤ dl z.natAbs + dl z'.natAbs := by rw [Int.natAbs_mul]; exact dl_mul _ _
end Go.Proofs.YtgjjalnmigdjgaaGreat
namespace Go.Proofs.YtgjjalnmigdjgaaGreat
set_option linter.unusedVariables false
open Go Go.RowKit
theorem wh_of {w : World} {neg : Bool} {a : Option Addr} {n cap : Nat} {l : List Nat} (hs : Sl w a n cap (ints .u32 l)) (hl : Ws l) (hn : n ≤ 549755813888) : WhIn w neg a n cap (wz neg (val B32 l)) ∧ dl (wz neg (val B32 l)).natAbs ≤ n := by
  refine ⟨⟨⟨l, hs, hl, rfl⟩, hn⟩, ?_⟩
  rw [wz_abs]
  have := dig_val_len B32_two l hl
  rw [hs.int_len] at this
  exact this
end Go.Proofs.YtgjjalnmigdjgaaGreat
