/- The law of colours by 255: its walk. -/
import Derived.Test.YtbhjookpdmfdnaaC6
import Derived.Test.YtbhjookpdmfdnaaC7
namespace Go.Proofs.Ytbhjookpdmfdnaa
set_option linter.unusedVariables false
open Go Go.RowKit

set_option maxRecDepth 100000 in
set_option maxHeartbeats 4000000 in
theorem parts_any (r g b a r' g' b' a' : Nat) (n : Int) (w : World) (h : Col8 r g b a) (h' : Col8 r' g' b' a') (hw : (Lit.int .i64 n).wf = true) :
    Calls Try.prog 4 #[.agg #[.int .u8 (r : Int), .int .u8 (g : Int), .int .u8 (b : Int), .int .u8 (a : Int)], .agg #[.int .u8 (r' : Int), .int .u8 (g' : Int), .int .u8 (b' : Int), .int .u8 (a' : Int)], .int .i64 n] w fun e w' => e = .returned (.bool true) ∧ Ext w w' := by
  obtain ⟨n1, n2⟩ : -9223372036854775808 ≤ n ∧ n ≤ 9223372036854775807 := by
    simp [Lit.wf] at hw
    exact ⟨hw.1, hw.2⟩
  clear hw
  go_enter Try.func4, Try.ntmps4
  go_upto_region 2 with fail
  obtain ⟨m, hm, hn⟩ : ∃ m : Nat, bits .and .i64 n 255 % 256 = (m : Int) ∧ m ≤ 255 := ⟨(bits .and .i64 n 255 % 256).toNat, by omega, by omega⟩
  rw [hm]
  clear hm
  generalize bits .and .i64 n 255 = nn
  obtain ⟨w0, hw0⟩ : ∃ w0 : World, w0 = World.drew ((w.alloc (.cells #[.int .u8 (r : Int), .int .u8 (g : Int), .int .u8 (b : Int), .int .u8 (a : Int)] 23)).alloc (.cells #[.int .u8 (r' : Int), .int .u8 (g' : Int), .int .u8 (b' : Int), .int .u8 (a' : Int)] 23)) := ⟨_, rfl⟩
  have c0 : w0.cell? ⟨w.heap.size, 0, none⟩ = some (.int .u8 (r : Int)) := by rw [hw0]; go_simp; try rfl
  have d0 : w0.cell? ⟨w.heap.size + 1, 0, none⟩ = some (.int .u8 (r' : Int)) := by rw [hw0]; go_simp; try rfl
  have c1 : w0.cell? ⟨w.heap.size, 1, none⟩ = some (.int .u8 (g : Int)) := by rw [hw0]; go_simp; try rfl
  have d1 : w0.cell? ⟨w.heap.size + 1, 1, none⟩ = some (.int .u8 (g' : Int)) := by rw [hw0]; go_simp; try rfl
  have c2 : w0.cell? ⟨w.heap.size, 2, none⟩ = some (.int .u8 (b : Int)) := by rw [hw0]; go_simp; try rfl
  have d2 : w0.cell? ⟨w.heap.size + 1, 2, none⟩ = some (.int .u8 (b' : Int)) := by rw [hw0]; go_simp; try rfl
  have c3 : w0.cell? ⟨w.heap.size, 3, none⟩ = some (.int .u8 (a : Int)) := by rw [hw0]; go_simp; try rfl
  have d3 : w0.cell? ⟨w.heap.size + 1, 3, none⟩ = some (.int .u8 (a' : Int)) := by rw [hw0]; go_simp; try rfl
  have HE : Ext w w0 := by rw [hw0]; exact (((Ext.refl _).alloc _).alloc _).drew
  have hr := h.r
  have hg' := h'.g
  refine wp_region_plan (R := Ext) (.q 0 (.q 2 (.l 1 (.l 3 (.q 4 (.q 5 (.q 6 (.q 7 (.q 8 (.q 9 (.q 11 (.q 12 (.q 13 (.q 14 (.l 10 (.l 15 (.q 16 (.q 17 (.q 18 (.q 19 (.q 21 (.l 20 (.l 22 (.q 23 (.q 24 (.q 25 (.q 26 (.q 28 (.l 27 (.l 29 (.q 30 (.q 31 (.q 32 (.q 33 (.q 34 (.q 36 (.q 37 (.l 35 (.l 38 (.q 39 (.q 40 (.q 41 (.q 42 (.q 43 (.q 44 (.q 46 (.q 47 (.q 48 (.l 45 (.l 49 (.q 50 (.q 51 (.q 52 (.l 53 (.q 54 (.q 55 .done)))))))))))))))))))))))))))))))))))))))))))))))))))))))) (by kernel_rfl) (by kernel_rfl) (by kernel_rfl) (by kernel_rfl) Ext.refl (fun _ _ _ => Ext.trans) ?_
  rw [← hw0]
  clear hw0
  repeat (refine wpE_q (v := ?_) rfl rfl (fun u hu => ?_) ?_; rotate_left 1; (focus ((have k0 := hu.cell' c0; have k1 := hu.cell' c1; have k2 := hu.cell' c2; have k3 := hu.cell' c3; have k4 := hu.cell' d0; have k5 := hu.cell' d1; have k6 := hu.cell' d2; have k7 := hu.cell' d3); go_simp; (try rfl))); simp only [Act.put, List.setIfInBounds_toArray, List.set_cons_zero, List.set_cons_succ])
  refine wpE_l rfl rfl (fun K hK => ?_)
  go_simp
  refine (c_part_any n _ n1 n2).mono ?_
  rintro e u ⟨rfl, rfl⟩
  refine hK.out _ _ (Ext.refl _) ?_
  clear hK K
  try simp only [Act.put, List.setIfInBounds_toArray, List.set_cons_zero, List.set_cons_succ]
  refine wpE_l rfl rfl (fun K hK => ?_)
  go_simp
  refine (r08_part_any n _ n1 n2).mono ?_
  rintro e u ⟨rfl, rfl⟩
  refine hK.out _ _ (Ext.refl _) ?_
  clear hK K
  try simp only [Act.put, List.setIfInBounds_toArray, List.set_cons_zero, List.set_cons_succ]
  repeat (refine wpE_q (v := ?_) rfl rfl (fun u hu => ?_) ?_; rotate_left 1; (focus ((have k0 := hu.cell' c0; have k1 := hu.cell' c1; have k2 := hu.cell' c2; have k3 := hu.cell' c3; have k4 := hu.cell' d0; have k5 := hu.cell' d1; have k6 := hu.cell' d2; have k7 := hu.cell' d3); go_simp; (try rfl))); simp only [Act.put, List.setIfInBounds_toArray, List.set_cons_zero, List.set_cons_succ])
  refine wpE_l rfl rfl (fun K hK => ?_)
  go_simp
  refine (c_times_any r g' _ hr hg').mono ?_
  rintro e u ⟨rfl, rfl⟩
  refine hK.out _ _ (Ext.refl _) ?_
  clear hK K
  try simp only [Act.put, List.setIfInBounds_toArray, List.set_cons_zero, List.set_cons_succ]
  refine wpE_l rfl rfl (fun K hK => ?_)
  go_simp
  refine (r08_times_any r g' _ hr hg').mono ?_
  rintro e u ⟨rfl, rfl⟩
  refine hK.out _ _ (Ext.refl _) ?_
  clear hK K
  try simp only [Act.put, List.setIfInBounds_toArray, List.set_cons_zero, List.set_cons_succ]
  repeat (refine wpE_q (v := ?_) rfl rfl (fun u hu => ?_) ?_; rotate_left 1; (focus ((have k0 := hu.cell' c0; have k1 := hu.cell' c1; have k2 := hu.cell' c2; have k3 := hu.cell' c3; have k4 := hu.cell' d0; have k5 := hu.cell' d1; have k6 := hu.cell' d2; have k7 := hu.cell' d3); go_simp; (try rfl))); simp only [Act.put, List.setIfInBounds_toArray, List.set_cons_zero, List.set_cons_succ])
  refine wpE_l rfl rfl (fun K hK => ?_)
  go_simp
  refine (c_weigh_any r g b a _ h).mono ?_
  rintro e u ⟨rfl, hu⟩
  refine hK.out _ _ hu ?_
  clear hK K
  replace HE := HE.trans hu
  replace c0 := hu.cell' c0
  replace c1 := hu.cell' c1
  replace c2 := hu.cell' c2
  replace c3 := hu.cell' c3
  replace d0 := hu.cell' d0
  replace d1 := hu.cell' d1
  replace d2 := hu.cell' d2
  replace d3 := hu.cell' d3
  clear hu
  try simp only [Act.put, List.setIfInBounds_toArray, List.set_cons_zero, List.set_cons_succ]
  refine wpE_l rfl rfl (fun K hK => ?_)
  go_simp
  refine (r08_weigh_any r g b a _ h).mono ?_
  rintro e u ⟨rfl, hu⟩
  refine hK.out _ _ hu ?_
  clear hK K
  replace HE := HE.trans hu
  replace c0 := hu.cell' c0
  replace c1 := hu.cell' c1
  replace c2 := hu.cell' c2
  replace c3 := hu.cell' c3
  replace d0 := hu.cell' d0
  replace d1 := hu.cell' d1
  replace d2 := hu.cell' d2
  replace d3 := hu.cell' d3
  clear hu
  try simp only [Act.put, List.setIfInBounds_toArray, List.set_cons_zero, List.set_cons_succ]
  repeat (refine wpE_q (v := ?_) rfl rfl (fun u hu => ?_) ?_; rotate_left 1; (focus ((have k0 := hu.cell' c0; have k1 := hu.cell' c1; have k2 := hu.cell' c2; have k3 := hu.cell' c3; have k4 := hu.cell' d0; have k5 := hu.cell' d1; have k6 := hu.cell' d2; have k7 := hu.cell' d3); go_simp; (try rfl))); simp only [Act.put, List.setIfInBounds_toArray, List.set_cons_zero, List.set_cons_succ])
  refine wpE_l rfl rfl (fun K hK => ?_)
  go_simp
  refine (c_may_any r g b a _ h).mono ?_
  rintro e u ⟨rfl, hu⟩
  refine hK.out _ _ hu ?_
  clear hK K
  replace HE := HE.trans hu
  replace c0 := hu.cell' c0
  replace c1 := hu.cell' c1
  replace c2 := hu.cell' c2
  replace c3 := hu.cell' c3
  replace d0 := hu.cell' d0
  replace d1 := hu.cell' d1
  replace d2 := hu.cell' d2
  replace d3 := hu.cell' d3
  clear hu
  try simp only [Act.put, List.setIfInBounds_toArray, List.set_cons_zero, List.set_cons_succ]
  refine wpE_l rfl rfl (fun K hK => ?_)
  go_simp
  refine (r08_may_any r g b a _ h).mono ?_
  rintro e u ⟨rfl, hu⟩
  refine hK.out _ _ hu ?_
  clear hK K
  replace HE := HE.trans hu
  replace c0 := hu.cell' c0
  replace c1 := hu.cell' c1
  replace c2 := hu.cell' c2
  replace c3 := hu.cell' c3
  replace d0 := hu.cell' d0
  replace d1 := hu.cell' d1
  replace d2 := hu.cell' d2
  replace d3 := hu.cell' d3
  clear hu
  try simp only [Act.put, List.setIfInBounds_toArray, List.set_cons_zero, List.set_cons_succ]
  repeat (refine wpE_q (v := ?_) rfl rfl (fun u hu => ?_) ?_; rotate_left 1; (focus ((have k0 := hu.cell' c0; have k1 := hu.cell' c1; have k2 := hu.cell' c2; have k3 := hu.cell' c3; have k4 := hu.cell' d0; have k5 := hu.cell' d1; have k6 := hu.cell' d2; have k7 := hu.cell' d3); go_simp; (try rfl))); simp only [Act.put, List.setIfInBounds_toArray, List.set_cons_zero, List.set_cons_succ])
  refine wpE_l rfl rfl (fun K hK => ?_)
  go_simp
  refine (c_fade_any m r g b a _ h hn).mono ?_
  rintro e u ⟨rfl, hu⟩
  refine hK.out _ _ hu ?_
  clear hK K
  replace HE := HE.trans hu
  replace c0 := hu.cell' c0
  replace c1 := hu.cell' c1
  replace c2 := hu.cell' c2
  replace c3 := hu.cell' c3
  replace d0 := hu.cell' d0
  replace d1 := hu.cell' d1
  replace d2 := hu.cell' d2
  replace d3 := hu.cell' d3
  clear hu
  try simp only [Act.put, List.setIfInBounds_toArray, List.set_cons_zero, List.set_cons_succ]
  refine wpE_l rfl rfl (fun K hK => ?_)
  go_simp
  refine (r08_fade_any m r g b a _ h hn).mono ?_
  rintro e u ⟨rfl, hu⟩
  refine hK.out _ _ hu ?_
  clear hK K
  replace HE := HE.trans hu
  replace c0 := hu.cell' c0
  replace c1 := hu.cell' c1
  replace c2 := hu.cell' c2
  replace c3 := hu.cell' c3
  replace d0 := hu.cell' d0
  replace d1 := hu.cell' d1
  replace d2 := hu.cell' d2
  replace d3 := hu.cell' d3
  clear hu
  try simp only [Act.put, List.setIfInBounds_toArray, List.set_cons_zero, List.set_cons_succ]
  repeat (refine wpE_q (v := ?_) rfl rfl (fun u hu => ?_) ?_; rotate_left 1; (focus ((have k0 := hu.cell' c0; have k1 := hu.cell' c1; have k2 := hu.cell' c2; have k3 := hu.cell' c3; have k4 := hu.cell' d0; have k5 := hu.cell' d1; have k6 := hu.cell' d2; have k7 := hu.cell' d3); go_simp; (try rfl))); simp only [Act.put, List.setIfInBounds_toArray, List.set_cons_zero, List.set_cons_succ])
  refine wpE_l rfl rfl (fun K hK => ?_)
  go_simp
  refine (c_mix_any m r g b a r' g' b' a' _ h h' hn).mono ?_
  rintro e u ⟨rfl, hu⟩
  refine hK.out _ _ hu ?_
  clear hK K
  replace HE := HE.trans hu
  replace c0 := hu.cell' c0
  replace c1 := hu.cell' c1
  replace c2 := hu.cell' c2
  replace c3 := hu.cell' c3
  replace d0 := hu.cell' d0
  replace d1 := hu.cell' d1
  replace d2 := hu.cell' d2
  replace d3 := hu.cell' d3
  clear hu
  try simp only [Act.put, List.setIfInBounds_toArray, List.set_cons_zero, List.set_cons_succ]
  refine wpE_l rfl rfl (fun K hK => ?_)
  go_simp
  refine (r08_mix_any m r g b a r' g' b' a' _ h h' hn).mono ?_
  rintro e u ⟨rfl, hu⟩
  refine hK.out _ _ hu ?_
  clear hK K
  replace HE := HE.trans hu
  replace c0 := hu.cell' c0
  replace c1 := hu.cell' c1
  replace c2 := hu.cell' c2
  replace c3 := hu.cell' c3
  replace d0 := hu.cell' d0
  replace d1 := hu.cell' d1
  replace d2 := hu.cell' d2
  replace d3 := hu.cell' d3
  clear hu
  try simp only [Act.put, List.setIfInBounds_toArray, List.set_cons_zero, List.set_cons_succ]
  repeat (refine wpE_q (v := ?_) rfl rfl (fun u hu => ?_) ?_; rotate_left 1; (focus ((have k0 := hu.cell' c0; have k1 := hu.cell' c1; have k2 := hu.cell' c2; have k3 := hu.cell' c3; have k4 := hu.cell' d0; have k5 := hu.cell' d1; have k6 := hu.cell' d2; have k7 := hu.cell' d3); go_simp; (try rfl))); simp only [Act.put, List.setIfInBounds_toArray, List.set_cons_zero, List.set_cons_succ])
  refine wpE_l rfl rfl (fun K hK => ?_)
  go_simp
  refine (lives_any _).mono ?_
  rintro e u ⟨rfl, hu⟩
  refine hK.out _ _ hu ?_
  clear hK K
  replace HE := HE.trans hu
  replace c0 := hu.cell' c0
  replace c1 := hu.cell' c1
  replace c2 := hu.cell' c2
  replace c3 := hu.cell' c3
  replace d0 := hu.cell' d0
  replace d1 := hu.cell' d1
  replace d2 := hu.cell' d2
  replace d3 := hu.cell' d3
  clear hu
  try simp only [Act.put, List.setIfInBounds_toArray, List.set_cons_zero, List.set_cons_succ]
  repeat (refine wpE_q (v := ?_) rfl rfl (fun u hu => ?_) ?_; rotate_left 1; (focus ((have k0 := hu.cell' c0; have k1 := hu.cell' c1; have k2 := hu.cell' c2; have k3 := hu.cell' c3; have k4 := hu.cell' d0; have k5 := hu.cell' d1; have k6 := hu.cell' d2; have k7 := hu.cell' d3); go_simp; (try rfl))); simp only [Act.put, List.setIfInBounds_toArray, List.set_cons_zero, List.set_cons_succ])
  refine wpE_done ?_
  go_wp2_with fail
  go_ret
  exact ⟨rfl, HE⟩

end Go.Proofs.Ytbhjookpdmfdnaa
