/- The law of whole numbers as sums: its walk. -/
import Derived.Test.YtcipcpbjkcpgdaaW10
import Derived.Test.YtcipcpbjkcpgdaaW7
namespace Go.Proofs.Ytcipcpbjkcpgdaa
set_option linter.unusedVariables false
open Go Go.RowKit

theorem abs_add_len {z z' : Int} {N : Nat} (h : z.natAbs < B32 ^ N) (h' : z'.natAbs < B32 ^ N) : (dig B32 (z + z').natAbs).length ≤ N + 1 := by
  refine natAbs_len ?_
  rw [Nat.pow_succ]
  have : B32 ^ N * 2 ≤ B32 ^ N * B32 := Nat.mul_le_mul_left _ B32_two
  omega
theorem abs_sub_len {z z' : Int} {N : Nat} (h : z.natAbs < B32 ^ N) (h' : z'.natAbs < B32 ^ N) : (dig B32 (z - z').natAbs).length ≤ N + 1 := by
  refine natAbs_len ?_
  rw [Nat.pow_succ]
  have : B32 ^ N * 2 ≤ B32 ^ N * B32 := Nat.mul_le_mul_left _ B32_two
  omega
theorem abs_neg_len {z : Int} {N : Nat} (h : z.natAbs < B32 ^ N) : (dig B32 (-z).natAbs).length ≤ N := by
  refine natAbs_len ?_
  omega
theorem abs_mul_len {z z' : Int} {N N' : Nat} (h : z.natAbs < B32 ^ N) (h' : z'.natAbs < B32 ^ N') : (dig B32 (z * z').natAbs).length ≤ N + N' := by
  refine natAbs_len ?_
  rw [Nat.pow_add, Int.natAbs_mul]
  exact Nat.mul_lt_mul'' h h'
theorem WhIn.lt_of {w : World} {neg : Bool} {a : Option Addr} {n cap N : Nat} {z : Int} (h : WhIn w neg a n cap z) (hN : n ≤ N) : z.natAbs < B32 ^ N :=
  Nat.lt_of_lt_of_le h.lt (Nat.pow_le_pow_right (by decide) hN)

set_option maxRecDepth 100000 in
set_option maxHeartbeats 4000000 in
theorem wholeSums_any (neg : Bool) (a : Option Addr) (n cap : Nat) (l : List Nat) (neg' : Bool) (a' : Option Addr) (n' cap' : Nat) (l' : List Nat) (w : World) (hs : Sl w a n cap (ints .u32 l)) (hl : Ws l) (hn : n ≤ 1048576) (hs' : Sl w a' n' cap' (ints .u32 l')) (hl' : Ws l') (hn' : n' ≤ 1048576) :
    Calls Try.prog 13 #[.agg #[.bool neg, .slice a n cap], .agg #[.bool neg', .slice a' n' cap']] w fun e w' => e = .returned (.bool true) ∧ Ext w w' := by
  obtain ⟨z, hz⟩ : ∃ z, z = wz neg (val B32 l) := ⟨_, rfl⟩
  obtain ⟨z', hz'⟩ : ∃ z, z = wz neg' (val B32 l') := ⟨_, rfl⟩
  have hw : WhIn w neg a n cap z := ⟨⟨l, hs, hl, hz.symm⟩, by omega⟩
  have hw' : WhIn w neg' a' n' cap' z' := ⟨⟨l', hs', hl', hz'.symm⟩, by omega⟩
  obtain ⟨N, hN⟩ : ∃ N, N = max n n' := ⟨_, rfl⟩
  have hNl : N ≤ 1048576 := by omega
  have e1 := hw.lt_of (N := N) (by omega)
  have e2 := hw'.lt_of (N := N) (by omega)
  have L1 : Hid ((dig B32 (z + z').natAbs).length ≤ 1048577) := hidP (Nat.le_trans (abs_add_len e1 e2) (by omega))
  have L2 : Hid ((dig B32 (z - z').natAbs).length ≤ 1048577) := hidP (Nat.le_trans (abs_sub_len e1 e2) (by omega))
  have L3 : Hid ((dig B32 (z * z').natAbs).length ≤ 2097152) := hidP (Nat.le_trans (abs_mul_len e1 e2) (by omega))
  have L4 : Hid ((dig B32 (-z).natAbs).length ≤ 1048576) := hidP (Nat.le_trans (abs_neg_len e1) (by omega))
  have HW := hidP hw; have HW' := hidP hw'
  clear hw hw' hs hs' hl hl' hn hn' hz hz' hN hNl e1 e2 l l' N
  go_enter Try.func13, Try.ntmps13
  go_upto_region 1 with fail
  obtain ⟨w0, hw0⟩ : ∃ w0 : World, w0 = World.drew ((w.alloc (.cells #[.bool neg, .slice a n cap] 51)).alloc (.cells #[.bool neg', .slice a' n' cap'] 51)) := ⟨_, rfl⟩
  have c0 : w0.cell? ⟨w.heap.size, 0, none⟩ = some (.bool neg) := by rw [hw0]; go_simp; try rfl
  have c1 : w0.cell? ⟨w.heap.size, 1, none⟩ = some (.slice a n cap) := by rw [hw0]; go_simp; try rfl
  have d0 : w0.cell? ⟨w.heap.size + 1, 0, none⟩ = some (.bool neg') := by rw [hw0]; go_simp; try rfl
  have d1 : w0.cell? ⟨w.heap.size + 1, 1, none⟩ = some (.slice a' n' cap') := by rw [hw0]; go_simp; try rfl
  have HE : Ext w w0 := by rw [hw0]; exact (((Ext.refl _).alloc _).alloc _).drew
  refine wp_region_plan (R := Ext) (.q 0 (.q 1 (.q 3 (.q 4 (.l 2 (.l 5 (.l 6 (.q 7 (.q 8 (.q 9 (.q 11 (.q 12 (.l 10 (.l 13 (.l 14 (.q 15 (.q 16 (.q 17 (.q 18 (.q 20 (.q 21 (.l 19 (.l 22 (.l 23 (.q 24 (.q 25 (.q 26 (.q 27 (.q 29 (.q 30 (.l 28 (.l 31 (.q 32 (.q 33 (.q 34 (.q 35 (.q 37 (.l 36 (.l 38 (.q 39 (.q 40 (.q 41 (.q 42 (.q 44 (.l 43 (.l 45 (.l 46 (.q 47 (.q 48 (.l 49 (.q 50 (.q 51 .done)))))))))))))))))))))))))))))))))))))))))))))))))))) (by kernel_rfl) (by kernel_rfl) (by kernel_rfl) (by kernel_rfl) Ext.refl (fun _ _ _ => Ext.trans) ?_
  rw [← hw0]
  clear hw0
  repeat (refine wpE_q (v := ?_) rfl rfl (fun u hu => ?_) ?_; rotate_left 1; (focus ((have k0 := hu.cell' c0; have k1 := hu.cell' c1; have k2 := hu.cell' d0; have k3 := hu.cell' d1); go_simp; (try rfl))); simp only [Act.put, List.setIfInBounds_toArray, List.set_cons_zero, List.set_cons_succ])
  refine wpE_l rfl rfl (fun K hK => ?_)
  go_simp
  refine (w_Add_any neg neg' a a' n cap n' cap' z z' _ (HW.out.ext HE) (HW'.out.ext HE)).mono ?_
  rintro e u ⟨a5, n5, c5, rfl, s5, hu⟩
  refine hK.out _ _ hu ?_
  clear hK K
  replace HE := HE.trans hu
  replace c0 := hu.cell' c0
  replace c1 := hu.cell' c1
  replace d0 := hu.cell' d0
  replace d1 := hu.cell' d1
  clear hu
  try simp only [Act.put, List.setIfInBounds_toArray, List.set_cons_zero, List.set_cons_succ]
  refine wpE_l rfl rfl (fun K hK => ?_)
  go_simp
  refine (r02_Add_any neg neg' a a' n cap n' cap' z z' _ (HW.out.ext HE) (HW'.out.ext HE)).mono ?_
  rintro e u ⟨a6, n6, c6, rfl, s6, hu⟩
  refine hK.out _ _ hu ?_
  clear hK K
  replace HE := HE.trans hu
  replace c0 := hu.cell' c0
  replace c1 := hu.cell' c1
  replace d0 := hu.cell' d0
  replace d1 := hu.cell' d1
  replace s5 := s5.ext hu
  clear hu
  try simp only [Act.put, List.setIfInBounds_toArray, List.set_cons_zero, List.set_cons_succ]
  generalize decide (z + z' < 0) = zb1 at *
  refine wpE_l rfl rfl (fun K hK => ?_)
  go_simp
  refine (r02_Same_eq zb1 a5 a6 n5 c5 n6 c6 _ _ s5 s6 (by have h7 := s5.int_len; have h8 := L1.out; omega)).mono ?_
  rintro e u ⟨rfl, hu⟩
  refine hK.out _ _ hu ?_
  clear hK K
  replace HE := HE.trans hu
  replace c0 := hu.cell' c0
  replace c1 := hu.cell' c1
  replace d0 := hu.cell' d0
  replace d1 := hu.cell' d1
  clear hu
  try simp only [Act.put, List.setIfInBounds_toArray, List.set_cons_zero, List.set_cons_succ]
  clear s5 s6
  repeat (refine wpE_q (v := ?_) rfl rfl (fun u hu => ?_) ?_; rotate_left 1; (focus ((have k0 := hu.cell' c0; have k1 := hu.cell' c1; have k2 := hu.cell' d0; have k3 := hu.cell' d1); go_simp; (try rfl))); simp only [Act.put, List.setIfInBounds_toArray, List.set_cons_zero, List.set_cons_succ])
  refine wpE_l rfl rfl (fun K hK => ?_)
  go_simp
  refine (w_Sub_any neg neg' a a' n cap n' cap' z z' _ (HW.out.ext HE) (HW'.out.ext HE)).mono ?_
  rintro e u ⟨a5, n5, c5, rfl, s5, hu⟩
  refine hK.out _ _ hu ?_
  clear hK K
  replace HE := HE.trans hu
  replace c0 := hu.cell' c0
  replace c1 := hu.cell' c1
  replace d0 := hu.cell' d0
  replace d1 := hu.cell' d1
  clear hu
  try simp only [Act.put, List.setIfInBounds_toArray, List.set_cons_zero, List.set_cons_succ]
  refine wpE_l rfl rfl (fun K hK => ?_)
  go_simp
  refine (r02_Sub_any neg neg' a a' n cap n' cap' z z' _ (HW.out.ext HE) (HW'.out.ext HE)).mono ?_
  rintro e u ⟨a6, n6, c6, rfl, s6, hu⟩
  refine hK.out _ _ hu ?_
  clear hK K
  replace HE := HE.trans hu
  replace c0 := hu.cell' c0
  replace c1 := hu.cell' c1
  replace d0 := hu.cell' d0
  replace d1 := hu.cell' d1
  replace s5 := s5.ext hu
  clear hu
  try simp only [Act.put, List.setIfInBounds_toArray, List.set_cons_zero, List.set_cons_succ]
  generalize decide (z - z' < 0) = zb2 at *
  refine wpE_l rfl rfl (fun K hK => ?_)
  go_simp
  refine (r02_Same_eq zb2 a5 a6 n5 c5 n6 c6 _ _ s5 s6 (by have h7 := s5.int_len; have h8 := L2.out; omega)).mono ?_
  rintro e u ⟨rfl, hu⟩
  refine hK.out _ _ hu ?_
  clear hK K
  replace HE := HE.trans hu
  replace c0 := hu.cell' c0
  replace c1 := hu.cell' c1
  replace d0 := hu.cell' d0
  replace d1 := hu.cell' d1
  clear hu
  try simp only [Act.put, List.setIfInBounds_toArray, List.set_cons_zero, List.set_cons_succ]
  clear s5 s6
  repeat (refine wpE_q (v := ?_) rfl rfl (fun u hu => ?_) ?_; rotate_left 1; (focus ((have k0 := hu.cell' c0; have k1 := hu.cell' c1; have k2 := hu.cell' d0; have k3 := hu.cell' d1); go_simp; (try rfl))); simp only [Act.put, List.setIfInBounds_toArray, List.set_cons_zero, List.set_cons_succ])
  refine wpE_l rfl rfl (fun K hK => ?_)
  go_simp
  refine (w_Mul_any neg neg' a a' n cap n' cap' z z' _ (HW.out.ext HE) (HW'.out.ext HE)).mono ?_
  rintro e u ⟨a5, n5, c5, rfl, s5, hu⟩
  refine hK.out _ _ hu ?_
  clear hK K
  replace HE := HE.trans hu
  replace c0 := hu.cell' c0
  replace c1 := hu.cell' c1
  replace d0 := hu.cell' d0
  replace d1 := hu.cell' d1
  clear hu
  try simp only [Act.put, List.setIfInBounds_toArray, List.set_cons_zero, List.set_cons_succ]
  refine wpE_l rfl rfl (fun K hK => ?_)
  go_simp
  refine (r02_Mul_any neg neg' a a' n cap n' cap' z z' _ (HW.out.ext HE) (HW'.out.ext HE)).mono ?_
  rintro e u ⟨a6, n6, c6, rfl, s6, hu⟩
  refine hK.out _ _ hu ?_
  clear hK K
  replace HE := HE.trans hu
  replace c0 := hu.cell' c0
  replace c1 := hu.cell' c1
  replace d0 := hu.cell' d0
  replace d1 := hu.cell' d1
  replace s5 := s5.ext hu
  clear hu
  try simp only [Act.put, List.setIfInBounds_toArray, List.set_cons_zero, List.set_cons_succ]
  generalize decide (z * z' < 0) = zb3 at *
  refine wpE_l rfl rfl (fun K hK => ?_)
  go_simp
  refine (r02_Same_eq zb3 a5 a6 n5 c5 n6 c6 _ _ s5 s6 (by have h7 := s5.int_len; have h8 := L3.out; omega)).mono ?_
  rintro e u ⟨rfl, hu⟩
  refine hK.out _ _ hu ?_
  clear hK K
  replace HE := HE.trans hu
  replace c0 := hu.cell' c0
  replace c1 := hu.cell' c1
  replace d0 := hu.cell' d0
  replace d1 := hu.cell' d1
  clear hu
  try simp only [Act.put, List.setIfInBounds_toArray, List.set_cons_zero, List.set_cons_succ]
  clear s5 s6
  repeat (refine wpE_q (v := ?_) rfl rfl (fun u hu => ?_) ?_; rotate_left 1; (focus ((have k0 := hu.cell' c0; have k1 := hu.cell' c1; have k2 := hu.cell' d0; have k3 := hu.cell' d1); go_simp; (try rfl))); simp only [Act.put, List.setIfInBounds_toArray, List.set_cons_zero, List.set_cons_succ])
  obtain ⟨sg, hsg⟩ : ∃ sg, sgn (z - z') = sg := ⟨_, rfl⟩
  have HSG := hidP hsg; clear hsg
  refine wpE_l rfl rfl (fun K hK => ?_)
  go_simp
  refine (w_Cmp_any neg neg' a a' n cap n' cap' z z' _ (HW.out.ext HE) (HW'.out.ext HE)).mono ?_
  rw [HSG.out]
  rintro e u ⟨rfl, hu⟩
  refine hK.out _ _ hu ?_
  clear hK K
  replace HE := HE.trans hu
  replace c0 := hu.cell' c0
  replace c1 := hu.cell' c1
  replace d0 := hu.cell' d0
  replace d1 := hu.cell' d1
  clear hu
  try simp only [Act.put, List.setIfInBounds_toArray, List.set_cons_zero, List.set_cons_succ]
  refine wpE_l rfl rfl (fun K hK => ?_)
  go_simp
  refine (r02_Cmp_any neg neg' a a' n cap n' cap' z z' _ (HW.out.ext HE) (HW'.out.ext HE) (by have h8 := L2.out; omega)).mono ?_
  rw [HSG.out]
  rintro e u ⟨rfl, hu⟩
  refine hK.out _ _ hu ?_
  clear hK K
  replace HE := HE.trans hu
  replace c0 := hu.cell' c0
  replace c1 := hu.cell' c1
  replace d0 := hu.cell' d0
  replace d1 := hu.cell' d1
  clear hu
  try simp only [Act.put, List.setIfInBounds_toArray, List.set_cons_zero, List.set_cons_succ]
  repeat (refine wpE_q (v := ?_) rfl rfl (fun u hu => ?_) ?_; rotate_left 1; (focus ((have k0 := hu.cell' c0; have k1 := hu.cell' c1; have k2 := hu.cell' d0; have k3 := hu.cell' d1); go_simp; (try rfl))); simp only [Act.put, List.setIfInBounds_toArray, List.set_cons_zero, List.set_cons_succ])
  obtain ⟨sh, hsh⟩ : ∃ sh, sgn z = sh := ⟨_, rfl⟩
  have HSH := hidP hsh; clear hsh
  refine wpE_l rfl rfl (fun K hK => ?_)
  go_simp
  refine (w_Sign_any neg a n cap z _ (HW.out.ext HE)).mono ?_
  rw [HSH.out]
  rintro e u ⟨rfl, hu⟩
  refine hK.out _ _ hu ?_
  clear hK K
  replace HE := HE.trans hu
  replace c0 := hu.cell' c0
  replace c1 := hu.cell' c1
  replace d0 := hu.cell' d0
  replace d1 := hu.cell' d1
  clear hu
  try simp only [Act.put, List.setIfInBounds_toArray, List.set_cons_zero, List.set_cons_succ]
  refine wpE_l rfl rfl (fun K hK => ?_)
  go_simp
  refine (r02_Sign_any neg a n cap z _ (HW.out.ext HE)).mono ?_
  rw [HSH.out]
  rintro e u ⟨rfl, hu⟩
  refine hK.out _ _ hu ?_
  clear hK K
  replace HE := HE.trans hu
  replace c0 := hu.cell' c0
  replace c1 := hu.cell' c1
  replace d0 := hu.cell' d0
  replace d1 := hu.cell' d1
  clear hu
  try simp only [Act.put, List.setIfInBounds_toArray, List.set_cons_zero, List.set_cons_succ]
  repeat (refine wpE_q (v := ?_) rfl rfl (fun u hu => ?_) ?_; rotate_left 1; (focus ((have k0 := hu.cell' c0; have k1 := hu.cell' c1; have k2 := hu.cell' d0; have k3 := hu.cell' d1); go_simp; (try rfl))); simp only [Act.put, List.setIfInBounds_toArray, List.set_cons_zero, List.set_cons_succ])
  obtain ⟨zn, hzn⟩ : ∃ zn, -z = zn := ⟨_, rfl⟩
  rw [hzn] at L4
  have HZN := hidP hzn; clear hzn
  refine wpE_l rfl rfl (fun K hK => ?_)
  go_simp
  refine (w_Neg_any neg a n cap z _ (HW.out.ext HE)).mono ?_
  rw [HZN.out]
  rintro e u ⟨a5, n5, c5, rfl, s5, hu⟩
  refine hK.out _ _ hu ?_
  clear hK K
  replace HE := HE.trans hu
  replace c0 := hu.cell' c0
  replace c1 := hu.cell' c1
  replace d0 := hu.cell' d0
  replace d1 := hu.cell' d1
  clear hu
  try simp only [Act.put, List.setIfInBounds_toArray, List.set_cons_zero, List.set_cons_succ]
  refine wpE_l rfl rfl (fun K hK => ?_)
  go_simp
  refine (r02_Neg_any neg a n cap z _ (HW.out.ext HE)).mono ?_
  rw [HZN.out]
  rintro e u ⟨a6, n6, c6, rfl, s6, hu⟩
  refine hK.out _ _ hu ?_
  clear hK K
  replace HE := HE.trans hu
  replace c0 := hu.cell' c0
  replace c1 := hu.cell' c1
  replace d0 := hu.cell' d0
  replace d1 := hu.cell' d1
  replace s5 := s5.ext hu
  clear hu
  try simp only [Act.put, List.setIfInBounds_toArray, List.set_cons_zero, List.set_cons_succ]
  generalize decide (zn < 0) = zb4 at *
  refine wpE_l rfl rfl (fun K hK => ?_)
  go_simp
  refine (r02_Same_eq zb4 a5 a6 n5 c5 n6 c6 _ _ s5 s6 (by have h7 := s5.int_len; have h8 := L4.out; omega)).mono ?_
  rintro e u ⟨rfl, hu⟩
  refine hK.out _ _ hu ?_
  clear hK K
  replace HE := HE.trans hu
  replace c0 := hu.cell' c0
  replace c1 := hu.cell' c1
  replace d0 := hu.cell' d0
  replace d1 := hu.cell' d1
  clear hu
  try simp only [Act.put, List.setIfInBounds_toArray, List.set_cons_zero, List.set_cons_succ]
  clear s5 s6
  repeat (refine wpE_q (v := ?_) rfl rfl (fun u hu => ?_) ?_; rotate_left 1; (focus ((have k0 := hu.cell' c0; have k1 := hu.cell' c1; have k2 := hu.cell' d0; have k3 := hu.cell' d1); go_simp; (try rfl))); simp only [Act.put, List.setIfInBounds_toArray, List.set_cons_zero, List.set_cons_succ])
  refine wpE_l rfl rfl (fun K hK => ?_)
  go_simp
  refine (w_lives_any _).mono ?_
  rintro e u ⟨rfl, hu⟩
  refine hK.out _ _ hu ?_
  clear hK K
  replace HE := HE.trans hu
  replace c0 := hu.cell' c0
  replace c1 := hu.cell' c1
  replace d0 := hu.cell' d0
  replace d1 := hu.cell' d1
  clear hu
  try simp only [Act.put, List.setIfInBounds_toArray, List.set_cons_zero, List.set_cons_succ]
  repeat (refine wpE_q (v := ?_) rfl rfl (fun u hu => ?_) ?_; rotate_left 1; (focus ((have k0 := hu.cell' c0; have k1 := hu.cell' c1; have k2 := hu.cell' d0; have k3 := hu.cell' d1); go_simp; (try rfl))); simp only [Act.put, List.setIfInBounds_toArray, List.set_cons_zero, List.set_cons_succ])
  refine wpE_done ?_
  go_wp2_with fail
  go_ret
  exact ⟨rfl, HE⟩

end Go.Proofs.Ytcipcpbjkcpgdaa
