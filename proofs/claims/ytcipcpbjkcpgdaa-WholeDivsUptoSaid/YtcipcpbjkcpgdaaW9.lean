/- The program's whole numbers: sums. -/
import Derived.Test.YtcipcpbjkcpgdaaW6
namespace Go.Proofs.Ytcipcpbjkcpgdaa
set_option linter.unusedVariables false
open Go Go.RowKit

set_option maxRecDepth 100000 in
set_option maxHeartbeats 4000000 in
theorem w_Add_any (neg neg' : Bool) (a a' : Option Addr) (n cap n' cap' : Nat) (z z' : Int) (w : World) (hw : WhIn w neg a n cap z) (hw' : WhIn w neg' a' n' cap' z') :
    Calls Try.prog 68 #[.agg #[.bool neg, .slice a n cap], .agg #[.bool neg', .slice a' n' cap']] w (RetW w (z + z')) := by
  obtain ⟨⟨l, hs, hl, hz⟩, hn⟩ := hw
  obtain ⟨⟨l', hs', hl', hz'⟩, hn'⟩ := hw'
  have HS := hidP hs; have HS' := hidP hs'
  clear hs hs'
  by_cases hb : neg = neg'
  · subst hb
    have hzz : wz neg (val B32 l + val B32 l') = z + z' := by rw [add_same, hz, hz']
    have hbe : (neg == neg) = true := by simp
    have HZ := hidP hzz
    clear hz hz' hzz
    go_enter Try.func68, Try.ntmps68
    go_upto_region 2 with fail
    obtain ⟨w0, hw0⟩ : ∃ w0 : World, w0 = World.drew (((w.alloc (.cells #[.bool neg, .slice a n cap] 51)).alloc (.cells #[.bool neg, .slice a' n' cap'] 51)).alloc (.cells #[.bool false, .slice none 0 0] 51)) := ⟨_, rfl⟩
    have c0 : w0.cell? ⟨w.heap.size, 0, none⟩ = some (.bool neg) := by rw [hw0]; go_simp; try rfl
    have c1 : w0.cell? ⟨w.heap.size, 1, none⟩ = some (.slice a n cap) := by rw [hw0]; go_simp; try rfl
    have d0 : w0.cell? ⟨w.heap.size + 1, 0, none⟩ = some (.bool neg) := by rw [hw0]; go_simp; try rfl
    have d1 : w0.cell? ⟨w.heap.size + 1, 1, none⟩ = some (.slice a' n' cap') := by rw [hw0]; go_simp; try rfl
    have z0 : w0.cell? ⟨w.heap.size + 1 + 1, 0, none⟩ = some (.bool false) := by rw [hw0]; go_simp; try rfl
    have qz0 : w0.frozen? ⟨w.heap.size + 1 + 1, 0, none⟩ = false := by rw [hw0]; go_simp; try rfl
    have z1 : w0.cell? ⟨w.heap.size + 1 + 1, 1, none⟩ = some (.slice none 0 0) := by rw [hw0]; go_simp; try rfl
    have qz1 : w0.frozen? ⟨w.heap.size + 1 + 1, 1, none⟩ = false := by rw [hw0]; go_simp; try rfl
    have HE : Ext w w0 := by rw [hw0]; exact ((((Ext.refl _).alloc _).alloc _).alloc _).drew
    refine wp_region_plan (R := Ext) (.q 0 (.q 1 (.q 2 (.q 3 (.q 4 (.q 5 (.l 6 (.l 7 (.b 8 .done))))))))) (by kernel_rfl) (by kernel_rfl) (by kernel_rfl) (by kernel_rfl) Ext.refl (fun _ _ _ => Ext.trans) ?_
    rw [← hw0]
    clear hw0
    repeat (refine wpE_q (v := ?_) rfl rfl (fun u hu => ?_) ?_; rotate_left 1; (focus ((have k0 := hu.cell' c0; have k1 := hu.cell' c1; have k2 := hu.cell' d0; have k3 := hu.cell' d1); go_simp; (try rfl))); simp only [Act.put, List.setIfInBounds_toArray, List.set_cons_zero, List.set_cons_succ])
    refine wpE_l rfl rfl (fun K hK => ?_)
    go_simp
    refine (nat_Add_any a a' n cap n' cap' l l' _ (HS.out.ext HE) (HS'.out.ext HE) hl hl' (by omega) (by omega)).mono ?_
    rintro e w1 ⟨a1, n1, cap1, rfl, hs1, he1⟩
    refine hK.out _ _ he1 ?_
    clear hK K
    have hgl : w.heap.size + 1 + 1 < w0.heap.size := World.block_lt_of_cell? w0 _ z0
    replace z0 := he1.cell' z0
    replace qz0 := (he1.frozen (p := ⟨w.heap.size + 1 + 1, 0, none⟩) hgl).trans qz0
    replace z1 := he1.cell' z1
    replace qz1 := (he1.frozen (p := ⟨w.heap.size + 1 + 1, 1, none⟩) hgl).trans qz1
    clear hgl
    clear c0 c1 d0 d1
    replace HE := HE.trans he1
    clear he1
    try simp only [Act.put, List.setIfInBounds_toArray, List.set_cons_zero, List.set_cons_succ]
    refine wpE_l rfl rfl (fun K hK => ?_)
    go_simp
    refine (w_clean_any neg a1 n1 cap1 _ _ hs1).mono ?_
    rw [HZ.out]
    rintro e w2 ⟨a2, n2, cap2, rfl, hs2, he2⟩
    refine hK.out _ _ he2 ?_
    clear hK K
    have hgl : w.heap.size + 1 + 1 < w1.heap.size := World.block_lt_of_cell? w1 _ z0
    replace z0 := he2.cell' z0
    replace qz0 := (he2.frozen (p := ⟨w.heap.size + 1 + 1, 0, none⟩) hgl).trans qz0
    replace z1 := he2.cell' z1
    replace qz1 := (he2.frozen (p := ⟨w.heap.size + 1 + 1, 1, none⟩) hgl).trans qz1
    clear hgl
    replace HE := HE.trans he2
    clear he2 hs1
    try simp only [Act.put, List.setIfInBounds_toArray, List.set_cons_zero, List.set_cons_succ]
    refine wpE_b rfl rfl (fun K hK => ?_)
    go_simp
    refine hK.out _ _ ?_
    clear hK K
    try simp only [Act.put, List.setIfInBounds_toArray, List.set_cons_zero, List.set_cons_succ]
    refine wpE_done ?_
    go_wp2_with fail
    refine bodyPost_cells rfl rfl Try.underlying51 rfl (by kernel_rfl) (two (by go_simp; try rfl) (by go_simp; try rfl)) rfl ?_
    exact RetW.stored z0 z1 hs2 HE (by omega) rfl
  · have hbe : (neg == neg') = false := by simpa using hb
    have HB := hidP hb
    clear hb
    by_cases hc : val B32 l' ≤ val B32 l
    · have hzz : wz neg (val B32 l - val B32 l') = z + z' := by rw [add_other HB.out hc, hz, hz']
      have HZ := hidP hzz
      have HC := hidP (decide_eq_true hc)
      clear hz hz' hzz hc
      go_enter Try.func68, Try.ntmps68
      go_wp2_with fail
      refine (nat_Sub_any a a' n cap n' cap' l l' _ (HS.out.ext ((((Ext.refl _).alloc _).alloc _).alloc _)) (HS'.out.ext ((((Ext.refl _).alloc _).alloc _).alloc _)) hl hl' (by omega) (by omega)).mono ?_
      rw [HC.out]
      rintro e w1 ⟨a1, n1, cap1, rfl, hs1, he1⟩
      have c0 := he1.cell' (p := ⟨w.heap.size, 0, none⟩) (v := .bool neg) (by go_simp; try rfl)
      have c1 := he1.cell' (p := ⟨w.heap.size, 1, none⟩) (v := .slice a n cap) (by go_simp; try rfl)
      have d0 := he1.cell' (p := ⟨w.heap.size + 1, 0, none⟩) (v := .bool neg') (by go_simp; try rfl)
      have d1 := he1.cell' (p := ⟨w.heap.size + 1, 1, none⟩) (v := .slice a' n' cap') (by go_simp; try rfl)
      have z0 := he1.cell' (p := ⟨w.heap.size + 1 + 1, 0, none⟩) (v := .bool false) (by go_simp; try rfl)
      have qz0 : w1.frozen? ⟨w.heap.size + 1 + 1, 0, none⟩ = false := (he1.frozen (p := ⟨w.heap.size + 1 + 1, 0, none⟩) (by simp)).trans (by go_simp)
      have z1 := he1.cell' (p := ⟨w.heap.size + 1 + 1, 1, none⟩) (v := .slice none 0 0) (by go_simp; try rfl)
      have qz1 : w1.frozen? ⟨w.heap.size + 1 + 1, 1, none⟩ = false := (he1.frozen (p := ⟨w.heap.size + 1 + 1, 1, none⟩) (by simp)).trans (by go_simp)
      have HE : Ext w w1 := ((((Ext.refl _).alloc _).alloc _).alloc _).trans he1
      clear he1
      go_wp2_with fail
      refine (w_clean_any neg a1 n1 cap1 _ _ hs1).mono ?_
      rw [HZ.out]
      rintro e w3 ⟨a3, n3, cap3, rfl, hs3, he3⟩
      replace qz0 := (he3.frozen (p := ⟨w.heap.size + 1 + 1, 0, none⟩) (World.block_lt_of_cell? w1 _ z0)).trans qz0
      replace qz1 := (he3.frozen (p := ⟨w.heap.size + 1 + 1, 1, none⟩) (World.block_lt_of_cell? w1 _ z1)).trans qz1
      replace c0 := he3.cell' c0
      replace c1 := he3.cell' c1
      replace d0 := he3.cell' d0
      replace d1 := he3.cell' d1
      replace z0 := he3.cell' z0
      replace z1 := he3.cell' z1
      replace HE := HE.trans he3
      clear he3
      go_wp2_with fail
      refine bodyPost_cells rfl rfl Try.underlying51 rfl (by kernel_rfl) (two (by go_simp; try rfl) (by go_simp; try rfl)) rfl ?_
      exact RetW.stored z0 z1 hs3 HE (by omega) rfl
    · have hlt : val B32 l < val B32 l' := by omega
      have hzz : wz neg' (val B32 l' - val B32 l) = z + z' := by rw [add_other' HB.out (Nat.le_of_lt hlt), hz, hz']
      have HZ := hidP hzz
      have HC := hidP (decide_eq_false hc)
      have HC2 := hidP (decide_eq_true (Nat.le_of_lt hlt))
      clear hz hz' hzz hc hlt
      go_enter Try.func68, Try.ntmps68
      go_wp2_with fail
      refine (nat_Sub_any a a' n cap n' cap' l l' _ (HS.out.ext ((((Ext.refl _).alloc _).alloc _).alloc _)) (HS'.out.ext ((((Ext.refl _).alloc _).alloc _).alloc _)) hl hl' (by omega) (by omega)).mono ?_
      rw [HC.out]
      rintro e w1 ⟨a1, n1, cap1, rfl, hs1, he1⟩
      have c0 := he1.cell' (p := ⟨w.heap.size, 0, none⟩) (v := .bool neg) (by go_simp; try rfl)
      have c1 := he1.cell' (p := ⟨w.heap.size, 1, none⟩) (v := .slice a n cap) (by go_simp; try rfl)
      have d0 := he1.cell' (p := ⟨w.heap.size + 1, 0, none⟩) (v := .bool neg') (by go_simp; try rfl)
      have d1 := he1.cell' (p := ⟨w.heap.size + 1, 1, none⟩) (v := .slice a' n' cap') (by go_simp; try rfl)
      have z0 := he1.cell' (p := ⟨w.heap.size + 1 + 1, 0, none⟩) (v := .bool false) (by go_simp; try rfl)
      have qz0 : w1.frozen? ⟨w.heap.size + 1 + 1, 0, none⟩ = false := (he1.frozen (p := ⟨w.heap.size + 1 + 1, 0, none⟩) (by simp)).trans (by go_simp)
      have z1 := he1.cell' (p := ⟨w.heap.size + 1 + 1, 1, none⟩) (v := .slice none 0 0) (by go_simp; try rfl)
      have qz1 : w1.frozen? ⟨w.heap.size + 1 + 1, 1, none⟩ = false := (he1.frozen (p := ⟨w.heap.size + 1 + 1, 1, none⟩) (by simp)).trans (by go_simp)
      have HE : Ext w w1 := ((((Ext.refl _).alloc _).alloc _).alloc _).trans he1
      clear he1 hs1
      go_wp2_with fail
      refine (nat_Sub_any a' a n' cap' n cap l' l _ (HS'.out.ext HE) (HS.out.ext HE) hl' hl (by omega) (by omega)).mono ?_
      rw [HC2.out]
      rintro e w2 ⟨a2, n2, cap2, rfl, hs2, he2⟩
      replace qz0 := (he2.frozen (p := ⟨w.heap.size + 1 + 1, 0, none⟩) (World.block_lt_of_cell? w1 _ z0)).trans qz0
      replace qz1 := (he2.frozen (p := ⟨w.heap.size + 1 + 1, 1, none⟩) (World.block_lt_of_cell? w1 _ z1)).trans qz1
      replace c0 := he2.cell' c0
      replace c1 := he2.cell' c1
      replace d0 := he2.cell' d0
      replace d1 := he2.cell' d1
      replace z0 := he2.cell' z0
      replace z1 := he2.cell' z1
      replace HE := HE.trans he2
      clear he2
      go_wp2_with fail
      refine (w_clean_any neg' a2 n2 cap2 _ _ hs2).mono ?_
      rw [HZ.out]
      rintro e w3 ⟨a3, n3, cap3, rfl, hs3, he3⟩
      replace qz0 := (he3.frozen (p := ⟨w.heap.size + 1 + 1, 0, none⟩) (World.block_lt_of_cell? w2 _ z0)).trans qz0
      replace qz1 := (he3.frozen (p := ⟨w.heap.size + 1 + 1, 1, none⟩) (World.block_lt_of_cell? w2 _ z1)).trans qz1
      replace c0 := he3.cell' c0
      replace c1 := he3.cell' c1
      replace d0 := he3.cell' d0
      replace d1 := he3.cell' d1
      replace z0 := he3.cell' z0
      replace z1 := he3.cell' z1
      replace HE := HE.trans he3
      clear he3
      go_wp2_with fail
      refine bodyPost_cells rfl rfl Try.underlying51 rfl (by kernel_rfl) (two (by go_simp; try rfl) (by go_simp; try rfl)) rfl ?_
      exact RetW.stored z0 z1 hs3 HE (by omega) rfl

end Go.Proofs.Ytcipcpbjkcpgdaa
