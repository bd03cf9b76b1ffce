/- The law of whole numbers as ints: its walk. -/
import Derived.Test.YtcipcpbjkcpgdaaW6
namespace Go.Proofs.Ytcipcpbjkcpgdaa
set_option linter.unusedVariables false
open Go Go.RowKit

theorem intR_parts (z : Int) : ∃ (v : Int) (ok : Bool), intR z = .tuple #[.int .i64 v, .bool ok] := by
  unfold intR
  split
  · exact ⟨_, _, rfl⟩
  · exact ⟨_, _, rfl⟩
theorem int_len {k : Int} (h1 : -9223372036854775808 ≤ k) (h2 : k ≤ 9223372036854775807) : (dig B32 k.natAbs).length ≤ 2 := natAbs_len (by unfold B32; omega)

set_option maxRecDepth 100000 in
set_option maxHeartbeats 4000000 in
theorem wholeInts_any (neg : Bool) (a : Option Addr) (n cap : Nat) (l : List Nat) (k : Int) (w : World) (hs : Sl w a n cap (ints .u32 l)) (hl : Ws l) (hn : n ≤ 1048576) (h1 : -9223372036854775808 ≤ k) (h2 : k ≤ 9223372036854775807) :
    Calls Try.prog 11 #[.agg #[.bool neg, .slice a n cap], .int .i64 k] w fun e w' => e = .returned (.bool true) ∧ Ext w w' := by
  obtain ⟨z, hz⟩ : ∃ z, z = wz neg (val B32 l) := ⟨_, rfl⟩
  have hw : WhIn w neg a n cap z := ⟨⟨l, hs, hl, hz.symm⟩, by omega⟩
  obtain ⟨v, ok, hv⟩ := intR_parts z
  have hk : intR k = .tuple #[.int .i64 k, .bool true] := if_pos ⟨h1, h2⟩
  have hkl := int_len h1 h2
  have hzl : (dig B32 (wz neg (val B32 l)).natAbs).length ≤ 1048576 := by
    rw [← hz]
    have := natAbs_len hw.lt
    omega
  have HW := hidP hw; have HV := hidP hv; have HK := hidP hk; have HKL := hidP hkl; have HZL := hidP hzl; have HS := hidP hs
  have HH := hidP (And.intro h1 h2)
  clear hw hv hk hkl hzl hs hz h1 h2
  go_enter Try.func11, Try.ntmps11
  go_wp2_with fail
  refine (w_Int_any neg a n cap z _ (HW.out.ext ((Ext.refl _).alloc _))).mono ?_
  rw [HV.out]
  rintro e w1 ⟨rfl, he1⟩
  have c0 := he1.cell' (p := ⟨w.heap.size, 0, none⟩) (v := .bool neg) (by go_simp; try rfl)
  have c1 := he1.cell' (p := ⟨w.heap.size, 1, none⟩) (v := .slice a n cap) (by go_simp; try rfl)
  have HE : Ext w w1 := ((Ext.refl _).alloc _).trans he1
  clear he1
  go_wp2_with fail
  refine (r02_Int_any neg a n cap z _ (HW.out.ext HE) (by omega)).mono ?_
  rw [HV.out]
  rintro e w2 ⟨rfl, he⟩
  replace c0 := he.cell' c0
  replace c1 := he.cell' c1
  replace HE := HE.trans he
  clear he
  go_wp2_with fail
  refine (w_Of_any k _ HH.out.1 HH.out.2).mono ?_
  rintro e w3 h3
  obtain ⟨a3, n3, c3, rfl, hw3, hs3, he⟩ := h3.whIn (by have := HKL.out; omega)
  replace c0 := he.cell' c0
  replace c1 := he.cell' c1
  replace HE := HE.trans he
  clear he h3 hs3
  generalize hbb : decide (k < 0) = kb at *
  have HBB := hidP hbb; clear hbb
  go_wp2_with fail
  refine (w_Int_any kb a3 n3 c3 k _ hw3).mono ?_
  rw [HK.out]
  rintro e w4 ⟨rfl, he⟩
  replace c0 := he.cell' c0
  replace c1 := he.cell' c1
  replace HE := HE.trans he
  clear he hw3
  go_upto_region 4 with fail
  replace HE := HE.drew
  have c0' : w4.drew.cell? ⟨w.heap.size, 0, none⟩ = some (.bool neg) := by go_simp
  have c1' : w4.drew.cell? ⟨w.heap.size, 1, none⟩ = some (.slice a n cap) := by go_simp
  replace c0 := c0'
  replace c1 := c1'
  clear c0' c1'
  refine wp_region_plan (R := Ext) (.q 0 (.q 1 (.q 2 (.q 3 (.q 4 (.q 5 (.q 6 (.q 7 (.q 8 (.q 9 (.q 11 (.l 10 (.l 12 (.l 13 (.q 14 (.q 15 (.q 16 (.q 17 (.q 18 (.q 19 (.q 20 (.q 21 (.q 22 (.q 23 (.q 24 (.q 25 (.q 26 (.q 27 (.q 29 (.q 30 (.q 31 (.q 32 (.l 28 (.l 33 (.l 34 (.q 35 (.q 36 (.l 37 (.q 38 (.q 39 .done)))))))))))))))))))))))))))))))))))))))) (by kernel_rfl) (by kernel_rfl) (by kernel_rfl) (by kernel_rfl) Ext.refl (fun _ _ _ => Ext.trans) ?_
  generalize w4.drew = w5 at *
  repeat (refine wpE_q (v := ?_) rfl rfl (fun u hu => ?_) ?_; rotate_left 1; (focus ((have k0 := hu.cell' c0; have k1 := hu.cell' c1); go_simp; (try rfl))); simp only [Act.put, List.setIfInBounds_toArray, List.set_cons_zero, List.set_cons_succ])
  refine wpE_l rfl rfl (fun K hK => ?_)
  go_simp
  refine (w_Of_any k _ HH.out.1 HH.out.2).mono ?_
  rintro e u ⟨a5, n5, c5, rfl, s5, hu⟩
  refine hK.out _ _ hu ?_
  clear hK K
  replace HE := HE.trans hu
  replace c0 := hu.cell' c0
  replace c1 := hu.cell' c1
  clear hu
  try simp only [Act.put, List.setIfInBounds_toArray, List.set_cons_zero, List.set_cons_succ]
  rw [HBB.out]
  refine wpE_l rfl rfl (fun K hK => ?_)
  go_simp
  refine (r02_Of_any k _ HH.out.1 HH.out.2).mono ?_
  rintro e u ⟨a6, n6, c6, rfl, s6, hu⟩
  refine hK.out _ _ hu ?_
  clear hK K
  replace HE := HE.trans hu
  replace c0 := hu.cell' c0
  replace c1 := hu.cell' c1
  replace s5 := s5.ext hu
  clear hu
  try simp only [Act.put, List.setIfInBounds_toArray, List.set_cons_zero, List.set_cons_succ]
  rw [HBB.out]
  refine wpE_l rfl rfl (fun K hK => ?_)
  go_simp
  refine (r02_Same_eq kb a5 a6 n5 c5 n6 c6 _ _ s5 s6 (by have h7 := s5.int_len; have h8 := HKL.out; omega)).mono ?_
  rintro e u ⟨rfl, hu⟩
  refine hK.out _ _ hu ?_
  clear hK K
  replace HE := HE.trans hu
  replace c0 := hu.cell' c0
  replace c1 := hu.cell' c1
  clear hu
  try simp only [Act.put, List.setIfInBounds_toArray, List.set_cons_zero, List.set_cons_succ]
  clear s5 s6
  repeat (refine wpE_q (v := ?_) rfl rfl (fun u hu => ?_) ?_; rotate_left 1; (focus ((have k0 := hu.cell' c0; have k1 := hu.cell' c1); go_simp; (try rfl))); simp only [Act.put, List.setIfInBounds_toArray, List.set_cons_zero, List.set_cons_succ])
  refine wpE_l rfl rfl (fun K hK => ?_)
  go_simp
  refine (w_Make_any neg a n cap l _ (HS.out.ext HE) hl (by omega)).mono ?_
  rintro e u ⟨a7, n7, c7, rfl, s7, hu⟩
  refine hK.out _ _ hu ?_
  clear hK K
  replace HE := HE.trans hu
  replace c0 := hu.cell' c0
  replace c1 := hu.cell' c1
  clear hu
  try simp only [Act.put, List.setIfInBounds_toArray, List.set_cons_zero, List.set_cons_succ]
  refine wpE_l rfl rfl (fun K hK => ?_)
  go_simp
  refine (r02_Make_any neg a n cap l _ (HS.out.ext HE) hl (by omega)).mono ?_
  rintro e u ⟨a8, n8, c8, rfl, s8, hu⟩
  refine hK.out _ _ hu ?_
  clear hK K
  replace HE := HE.trans hu
  replace c0 := hu.cell' c0
  replace c1 := hu.cell' c1
  replace s7 := s7.ext hu
  clear hu
  try simp only [Act.put, List.setIfInBounds_toArray, List.set_cons_zero, List.set_cons_succ]
  generalize decide (wz neg (val B32 l) < 0) = zb at *
  refine wpE_l rfl rfl (fun K hK => ?_)
  go_simp
  refine (r02_Same_eq zb a7 a8 n7 c7 n8 c8 _ _ s7 s8 (by have h7 := s7.int_len; have h8 := HZL.out; omega)).mono ?_
  rintro e u ⟨rfl, hu⟩
  refine hK.out _ _ hu ?_
  clear hK K
  replace HE := HE.trans hu
  replace c0 := hu.cell' c0
  replace c1 := hu.cell' c1
  clear hu
  try simp only [Act.put, List.setIfInBounds_toArray, List.set_cons_zero, List.set_cons_succ]
  clear s7 s8
  repeat (refine wpE_q (v := ?_) rfl rfl (fun u hu => ?_) ?_; rotate_left 1; (focus ((have k0 := hu.cell' c0; have k1 := hu.cell' c1); go_simp; (try rfl))); simp only [Act.put, List.setIfInBounds_toArray, List.set_cons_zero, List.set_cons_succ])
  refine wpE_l rfl rfl (fun K hK => ?_)
  go_simp
  refine (w_lives_any _).mono ?_
  rintro e u ⟨rfl, hu⟩
  refine hK.out _ _ hu ?_
  clear hK K
  replace HE := HE.trans hu
  replace c0 := hu.cell' c0
  replace c1 := hu.cell' c1
  clear hu
  try simp only [Act.put, List.setIfInBounds_toArray, List.set_cons_zero, List.set_cons_succ]
  repeat (refine wpE_q (v := ?_) rfl rfl (fun u hu => ?_) ?_; rotate_left 1; (focus ((have k0 := hu.cell' c0; have k1 := hu.cell' c1); go_simp; (try rfl))); simp only [Act.put, List.setIfInBounds_toArray, List.set_cons_zero, List.set_cons_succ])
  refine wpE_done ?_
  go_wp2_with fail
  go_ret
  exact ⟨rfl, HE⟩

end Go.Proofs.Ytcipcpbjkcpgdaa
