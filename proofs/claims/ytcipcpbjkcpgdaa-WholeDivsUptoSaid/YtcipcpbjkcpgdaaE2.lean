/- The document's whole numbers (frisketref02): the other side, sums, differences, how two stand. -/
import Derived.Test.YtcipcpbjkcpgdaaE1
namespace Go.Proofs.Ytcipcpbjkcpgdaa
set_option linter.unusedVariables false
open Go Go.RowKit

theorem wz_not (neg : Bool) (m : Nat) : wz (!neg) m = -wz neg m := by unfold wz; cases neg <;> simp

set_option maxRecDepth 100000 in
set_option maxHeartbeats 1000000 in
theorem r02_Neg_any (neg : Bool) (a : Option Addr) (n cap : Nat) (z : Int) (w : World) (hw : WhIn w neg a n cap z) :
    Calls Try.prog 79 #[.agg #[.bool neg, .slice a n cap]] w (RetW w (-z)) := by
  obtain ⟨⟨l, hs, hl, hz⟩, hn⟩ := hw
  have hzz : wz (!neg) (val B32 l) = -z := by rw [wz_not, hz]
  have HZ := hidP hzz
  clear hz hzz
  go_enter Try.func79, Try.ntmps79
  go_wp2_with fail
  refine (r02_Make_any (!neg) a n cap l _ (hs.ext (((Ext.refl _).alloc _).alloc _)) hl (by omega)).mono ?_
  rw [HZ.out]
  rintro e w1 ⟨a1, n1, cap1, rfl, hs1, he1⟩
  have z0 := he1.cell' (p := ⟨w.heap.size + 1, 0, none⟩) (v := .bool false) (by go_simp; try rfl)
  have qz0 : w1.frozen? ⟨w.heap.size + 1, 0, none⟩ = false := (he1.frozen (p := ⟨w.heap.size + 1, 0, none⟩) (by simp)).trans (by go_simp)
  have z1 := he1.cell' (p := ⟨w.heap.size + 1, 1, none⟩) (v := .slice none 0 0) (by go_simp; try rfl)
  have qz1 : w1.frozen? ⟨w.heap.size + 1, 1, none⟩ = false := (he1.frozen (p := ⟨w.heap.size + 1, 1, none⟩) (by simp)).trans (by go_simp)
  have HE : Ext w w1 := (((Ext.refl _).alloc _).alloc _).trans he1
  clear he1
  go_wp2_with fail
  refine bodyPost_cells rfl rfl Try.underlying51 rfl (by kernel_rfl) (two (by go_simp; try rfl) (by go_simp; try rfl)) rfl ?_
  exact RetW.stored z0 z1 hs1 HE (Nat.le_succ _) (by simp)

theorem add_same {b : Bool} {x y : Nat} : wz b (x + y) = wz b x + wz b y := by unfold wz; cases b <;> simp <;> omega
theorem add_other {b b' : Bool} {x y : Nat} (hb : b ≠ b') (h : y ≤ x) : wz b (x - y) = wz b x + wz b' y := by
  unfold wz
  cases b <;> cases b' <;> simp at hb <;> simp <;> omega
theorem add_other' {b b' : Bool} {x y : Nat} (hb : b ≠ b') (h : x ≤ y) : wz b' (y - x) = wz b x + wz b' y := by
  unfold wz
  cases b <;> cases b' <;> simp at hb <;> simp <;> omega
theorem dig_add_len (x y : List Nat) (hx : Ws x) (hy : Ws y) (N : Nat) (h1 : x.length ≤ N) (h2 : y.length ≤ N) : (dig B32 (val B32 x + val B32 y)).length ≤ N + 1 := by
  have a1 := val_lt (B := B32) (by decide) x hx
  have a2 := val_lt (B := B32) (by decide) y hy
  have b1 : B32 ^ x.length ≤ B32 ^ N := Nat.pow_le_pow_right (by decide) h1
  have b2 : B32 ^ y.length ≤ B32 ^ N := Nat.pow_le_pow_right (by decide) h2
  refine dig_len_le B32_two ?_
  rw [Nat.pow_succ]
  have : B32 ^ N * 2 ≤ B32 ^ N * B32 := Nat.mul_le_mul_left _ B32_two
  omega

set_option maxRecDepth 100000 in
set_option maxHeartbeats 4000000 in
theorem r02_Add_any (neg neg' : Bool) (a a' : Option Addr) (n cap n' cap' : Nat) (z z' : Int) (w : World) (hw : WhIn w neg a n cap z) (hw' : WhIn w neg' a' n' cap' z') :
    Calls Try.prog 69 #[.agg #[.bool neg, .slice a n cap], .agg #[.bool neg', .slice a' n' cap']] w (RetW w (z + z')) := by
  obtain ⟨⟨l, hs, hl, hz⟩, hn⟩ := hw
  obtain ⟨⟨l', hs', hl', hz'⟩, hn'⟩ := hw'
  have hln := hs.int_len
  have hln' := hs'.int_len
  have HS := hidP hs; have HS' := hidP hs'
  clear hs hs'
  by_cases hb : neg = neg'
  · subst hb
    have hzz : wz neg (val B32 l + val B32 l') = z + z' := by rw [add_same, hz, hz']
    have hlen := dig_add_len l l' hl hl' 549755813888 (by omega) (by omega)
    have HZ := hidP hzz; have HLEN := hidP hlen
    clear hz hz' hzz hlen hln hln'
    go_enter Try.func69, Try.ntmps69
    go_upto_region 2 with fail
    obtain ⟨w0, hw0⟩ : ∃ w0 : World, w0 = World.drew (((w.alloc (.cells #[.bool neg, .slice a n cap] 51)).alloc (.cells #[.bool neg, .slice a' n' cap'] 51)).alloc (.cells #[.bool false, .slice none 0 0] 51)) := ⟨_, rfl⟩
    have c0 : w0.cell? ⟨w.heap.size, 0, none⟩ = some (.bool neg) := by rw [hw0]; go_simp; try rfl
    have c1 : w0.cell? ⟨w.heap.size, 1, none⟩ = some (.slice a n cap) := by rw [hw0]; go_simp; try rfl
    have d0 : w0.cell? ⟨w.heap.size + 1, 0, none⟩ = some (.bool neg) := by rw [hw0]; go_simp; try rfl
    have d1 : w0.cell? ⟨w.heap.size + 1, 1, none⟩ = some (.slice a' n' cap') := by rw [hw0]; go_simp; try rfl
    have z0 : w0.cell? ⟨w.heap.size + 1 + 1, 0, none⟩ = some (.bool false) := by rw [hw0]; go_simp; try rfl
    have qz0 : w0.frozen? ⟨w.heap.size + 1 + 1, 0, none⟩ = false := by rw [hw0]; go_simp; try rfl
    have z1 : w0.cell? ⟨w.heap.size + 1 + 1, 1, none⟩ = some (.slice none 0 0) := by rw [hw0]; go_simp; try rfl
    have qz1 : w0.frozen? ⟨w.heap.size + 1 + 1, 1, none⟩ = false := by rw [hw0]; go_simp; try rfl
    have HE : Ext w w0 := by rw [hw0]; exact ((((Ext.refl _).alloc _).alloc _).alloc _).drew
    refine wp_region_plan (R := Ext) (.q 0 (.q 1 (.q 2 (.q 3 (.q 4 (.q 5 (.l 6 (.l 7 (.b 8 .done))))))))) (by kernel_rfl) (by kernel_rfl) (by kernel_rfl) (by kernel_rfl) Ext.refl (fun _ _ _ => Ext.trans) ?_
    rw [← hw0]
    clear hw0
    repeat (refine wpE_q (v := ?_) rfl rfl (fun u hu => ?_) ?_; rotate_left 1; (focus ((have k0 := hu.cell' c0; have k1 := hu.cell' c1; have k2 := hu.cell' d0; have k3 := hu.cell' d1); go_simp; (try rfl))); simp only [Act.put, List.setIfInBounds_toArray, List.set_cons_zero, List.set_cons_succ])
    refine wpE_l rfl rfl (fun K hK => ?_)
    go_simp
    refine (r01_Add_any a a' n cap n' cap' l l' _ (HS.out.ext HE) (HS'.out.ext HE) hl hl' (by omega) (by omega)).mono ?_
    rintro e w1 ⟨a1, n1, cap1, rfl, hs1, he1⟩
    refine hK.out _ _ he1 ?_
    clear hK K
    have hgl : w.heap.size + 1 + 1 < w0.heap.size := World.block_lt_of_cell? w0 _ z0
    replace z0 := he1.cell' z0
    replace z1 := he1.cell' z1
    replace qz0 := (he1.frozen (p := ⟨w.heap.size + 1 + 1, 0, none⟩) hgl).trans qz0
    replace qz1 := (he1.frozen (p := ⟨w.heap.size + 1 + 1, 1, none⟩) hgl).trans qz1
    clear c0 c1 d0 d1
    replace HE := HE.trans he1
    clear he1 hgl
    try simp only [Act.put, List.setIfInBounds_toArray, List.set_cons_zero, List.set_cons_succ]
    refine wpE_l rfl rfl (fun K hK => ?_)
    go_simp
    refine (r02_Make_any neg a1 n1 cap1 _ _ hs1 (Ws.dig _) (by have h3 := hs1.int_len; have h4 := HLEN.out; omega)).mono ?_
    rw [val_dig B32_two, HZ.out]
    rintro e w2 ⟨a2, n2, cap2, rfl, hs2, he2⟩
    refine hK.out _ _ he2 ?_
    clear hK K
    have hgl : w.heap.size + 1 + 1 < w1.heap.size := World.block_lt_of_cell? w1 _ z0
    replace z0 := he2.cell' z0
    replace z1 := he2.cell' z1
    replace qz0 := (he2.frozen (p := ⟨w.heap.size + 1 + 1, 0, none⟩) hgl).trans qz0
    replace qz1 := (he2.frozen (p := ⟨w.heap.size + 1 + 1, 1, none⟩) hgl).trans qz1
    replace HE := HE.trans he2
    clear he2 hgl hs1
    try simp only [Act.put, List.setIfInBounds_toArray, List.set_cons_zero, List.set_cons_succ]
    refine wpE_b rfl rfl (fun K hK => ?_)
    go_simp
    refine hK.out _ _ ?_
    clear hK K
    try simp only [Act.put, List.setIfInBounds_toArray, List.set_cons_zero, List.set_cons_succ]
    refine wpE_done ?_
    go_wp2_with fail
    refine bodyPost_cells rfl rfl Try.underlying51 rfl (by kernel_rfl) (two (by go_simp; try rfl) (by go_simp; try rfl)) rfl ?_
    exact RetW.stored z0 z1 hs2 HE (by omega) rfl
  · have hbe : (neg == neg') = false := by simpa using hb
    have HB := hidP hb
    clear hb
    by_cases hc : val B32 l' ≤ val B32 l
    · have hzz : wz neg (val B32 l - val B32 l') = z + z' := by rw [add_other HB.out hc, hz, hz']
      have hlen : (dig B32 (val B32 l - val B32 l')).length ≤ n := by
        have h1 := dig_mono B32_two (Nat.sub_le (val B32 l) (val B32 l'))
        have h2 := dig_val_len B32_two l hl
        omega
      have hcm : (0 : Int) ≤ cmpI (val B32 l) (val B32 l') := cmpI_ge hc
      have HZ := hidP hzz; have HLEN := hidP hlen
      generalize hcc : cmpI (val B32 l) (val B32 l') = cc at *
      have HCC := hidP hcc; clear hcc
      clear hz hz' hzz hlen hln hln' hc
      go_enter Try.func69, Try.ntmps69
      go_wp2_with fail
      refine (r01_Cmp_any a a' n cap n' cap' l l' _ (HS.out.ext ((((Ext.refl _).alloc _).alloc _).alloc _)) (HS'.out.ext ((((Ext.refl _).alloc _).alloc _).alloc _)) hl hl' (by omega) (by omega)).mono ?_
      rw [HCC.out]
      rintro e w1 ⟨rfl, he1⟩
      have c0 := he1.cell' (p := ⟨w.heap.size, 0, none⟩) (v := .bool neg) (by go_simp; try rfl)
      have c1 := he1.cell' (p := ⟨w.heap.size, 1, none⟩) (v := .slice a n cap) (by go_simp; try rfl)
      have d0 := he1.cell' (p := ⟨w.heap.size + 1, 0, none⟩) (v := .bool neg') (by go_simp; try rfl)
      have d1 := he1.cell' (p := ⟨w.heap.size + 1, 1, none⟩) (v := .slice a' n' cap') (by go_simp; try rfl)
      have z0 := he1.cell' (p := ⟨w.heap.size + 1 + 1, 0, none⟩) (v := .bool false) (by go_simp; try rfl)
      have qz0 : w1.frozen? ⟨w.heap.size + 1 + 1, 0, none⟩ = false := (he1.frozen (p := ⟨w.heap.size + 1 + 1, 0, none⟩) (by simp)).trans (by go_simp)
      have z1 := he1.cell' (p := ⟨w.heap.size + 1 + 1, 1, none⟩) (v := .slice none 0 0) (by go_simp; try rfl)
      have qz1 : w1.frozen? ⟨w.heap.size + 1 + 1, 1, none⟩ = false := (he1.frozen (p := ⟨w.heap.size + 1 + 1, 1, none⟩) (by simp)).trans (by go_simp)
      have HE : Ext w w1 := ((((Ext.refl _).alloc _).alloc _).alloc _).trans he1
      clear he1
      go_wp2_with fail
      refine (r01_Sub_any a a' n cap n' cap' l l' _ (HS.out.ext HE) (HS'.out.ext HE) hl hl' (by omega) (by omega)).mono ?_
      rintro e w2 ⟨a2, n2, cap2, rfl, hs2, he2⟩
      replace qz0 := (he2.frozen (p := ⟨w.heap.size + 1 + 1, 0, none⟩) (World.block_lt_of_cell? w1 _ z0)).trans qz0
      replace qz1 := (he2.frozen (p := ⟨w.heap.size + 1 + 1, 1, none⟩) (World.block_lt_of_cell? w1 _ z1)).trans qz1
      replace c0 := he2.cell' c0
      replace c1 := he2.cell' c1
      replace d0 := he2.cell' d0
      replace d1 := he2.cell' d1
      replace z0 := he2.cell' z0
      replace z1 := he2.cell' z1
      replace HE := HE.trans he2
      clear he2
      have hn2 : n2 ≤ 549755813888 := by have h3 := hs2.int_len; have h4 := HLEN.out; omega
      generalize decide (val B32 l' ≤ val B32 l) = okb at *
      go_wp2_with fail
      refine (r02_Make_any neg a2 n2 cap2 _ _ hs2 (Ws.dig _) (by omega)).mono ?_
      rw [val_dig B32_two, HZ.out]
      rintro e w3 ⟨a3, n3, cap3, rfl, hs3, he3⟩
      replace qz0 := (he3.frozen (p := ⟨w.heap.size + 1 + 1, 0, none⟩) (World.block_lt_of_cell? w2 _ z0)).trans qz0
      replace qz1 := (he3.frozen (p := ⟨w.heap.size + 1 + 1, 1, none⟩) (World.block_lt_of_cell? w2 _ z1)).trans qz1
      replace c0 := he3.cell' c0
      replace c1 := he3.cell' c1
      replace d0 := he3.cell' d0
      replace d1 := he3.cell' d1
      replace z0 := he3.cell' z0
      replace z1 := he3.cell' z1
      replace HE := HE.trans he3
      clear he3 hs2
      go_wp2_with fail
      refine bodyPost_cells rfl rfl Try.underlying51 rfl (by kernel_rfl) (two (by go_simp; try rfl) (by go_simp; try rfl)) rfl ?_
      exact RetW.stored z0 z1 hs3 HE (by omega) rfl
    · have hlt : val B32 l < val B32 l' := by omega
      have hzz : wz neg' (val B32 l' - val B32 l) = z + z' := by rw [add_other' HB.out (Nat.le_of_lt hlt), hz, hz']
      have hlen : (dig B32 (val B32 l' - val B32 l)).length ≤ n' := by
        have h1 := dig_mono B32_two (Nat.sub_le (val B32 l') (val B32 l))
        have h2 := dig_val_len B32_two l' hl'
        omega
      have hcm : cmpI (val B32 l) (val B32 l') = -1 := cmpI_lt hlt
      have HZ := hidP hzz; have HLEN := hidP hlen
      have HCC := hidP hcm; clear hcm
      clear hz hz' hzz hlen hln hln' hc hlt
      go_enter Try.func69, Try.ntmps69
      go_wp2_with fail
      refine (r01_Cmp_any a a' n cap n' cap' l l' _ (HS.out.ext ((((Ext.refl _).alloc _).alloc _).alloc _)) (HS'.out.ext ((((Ext.refl _).alloc _).alloc _).alloc _)) hl hl' (by omega) (by omega)).mono ?_
      rw [HCC.out]
      rintro e w1 ⟨rfl, he1⟩
      have c0 := he1.cell' (p := ⟨w.heap.size, 0, none⟩) (v := .bool neg) (by go_simp; try rfl)
      have c1 := he1.cell' (p := ⟨w.heap.size, 1, none⟩) (v := .slice a n cap) (by go_simp; try rfl)
      have d0 := he1.cell' (p := ⟨w.heap.size + 1, 0, none⟩) (v := .bool neg') (by go_simp; try rfl)
      have d1 := he1.cell' (p := ⟨w.heap.size + 1, 1, none⟩) (v := .slice a' n' cap') (by go_simp; try rfl)
      have z0 := he1.cell' (p := ⟨w.heap.size + 1 + 1, 0, none⟩) (v := .bool false) (by go_simp; try rfl)
      have qz0 : w1.frozen? ⟨w.heap.size + 1 + 1, 0, none⟩ = false := (he1.frozen (p := ⟨w.heap.size + 1 + 1, 0, none⟩) (by simp)).trans (by go_simp)
      have z1 := he1.cell' (p := ⟨w.heap.size + 1 + 1, 1, none⟩) (v := .slice none 0 0) (by go_simp; try rfl)
      have qz1 : w1.frozen? ⟨w.heap.size + 1 + 1, 1, none⟩ = false := (he1.frozen (p := ⟨w.heap.size + 1 + 1, 1, none⟩) (by simp)).trans (by go_simp)
      have HE : Ext w w1 := ((((Ext.refl _).alloc _).alloc _).alloc _).trans he1
      clear he1
      go_wp2_with fail
      refine (r01_Sub_any a' a n' cap' n cap l' l _ (HS'.out.ext HE) (HS.out.ext HE) hl' hl (by omega) (by omega)).mono ?_
      rintro e w2 ⟨a2, n2, cap2, rfl, hs2, he2⟩
      replace qz0 := (he2.frozen (p := ⟨w.heap.size + 1 + 1, 0, none⟩) (World.block_lt_of_cell? w1 _ z0)).trans qz0
      replace qz1 := (he2.frozen (p := ⟨w.heap.size + 1 + 1, 1, none⟩) (World.block_lt_of_cell? w1 _ z1)).trans qz1
      replace c0 := he2.cell' c0
      replace c1 := he2.cell' c1
      replace d0 := he2.cell' d0
      replace d1 := he2.cell' d1
      replace z0 := he2.cell' z0
      replace z1 := he2.cell' z1
      replace HE := HE.trans he2
      clear he2
      have hn2 : n2 ≤ 549755813888 := by have h3 := hs2.int_len; have h4 := HLEN.out; omega
      generalize decide (val B32 l ≤ val B32 l') = okb at *
      go_wp2_with fail
      refine (r02_Make_any neg' a2 n2 cap2 _ _ hs2 (Ws.dig _) (by omega)).mono ?_
      rw [val_dig B32_two, HZ.out]
      rintro e w3 ⟨a3, n3, cap3, rfl, hs3, he3⟩
      replace qz0 := (he3.frozen (p := ⟨w.heap.size + 1 + 1, 0, none⟩) (World.block_lt_of_cell? w2 _ z0)).trans qz0
      replace qz1 := (he3.frozen (p := ⟨w.heap.size + 1 + 1, 1, none⟩) (World.block_lt_of_cell? w2 _ z1)).trans qz1
      replace c0 := he3.cell' c0
      replace c1 := he3.cell' c1
      replace d0 := he3.cell' d0
      replace d1 := he3.cell' d1
      replace z0 := he3.cell' z0
      replace z1 := he3.cell' z1
      replace HE := HE.trans he3
      clear he3 hs2
      go_wp2_with fail
      refine bodyPost_cells rfl rfl Try.underlying51 rfl (by kernel_rfl) (two (by go_simp; try rfl) (by go_simp; try rfl)) rfl ?_
      exact RetW.stored z0 z1 hs3 HE (by omega) rfl

end Go.Proofs.Ytcipcpbjkcpgdaa
