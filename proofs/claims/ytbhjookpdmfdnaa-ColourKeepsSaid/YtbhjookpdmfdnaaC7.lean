/- The law of one colour over another one. -/
import Derived.Test.YtbhjookpdmfdnaaC5
namespace Go.Proofs.Ytbhjookpdmfdnaa
set_option linter.unusedVariables false
open Go Go.RowKit

theorem covr_zero (b : Nat) (hb : b ≤ 255) : covr 255 0 b = b := by
  have : part ((b : Int) * ((255 : Nat) : Int)) = b := by
    unfold part
    split
    · omega
    · split <;> omega
  unfold covr
  rw [this]; omega

/-- The program's own answer is the document's. -/
theorem c_over_any (r g b a r' g' b' a' : Nat) (w : World) (h : Col8 r g b a) (h' : Col8 r' g' b' a') :
    Calls Try.prog 10 #[.agg #[.int .u8 (r : Int), .int .u8 (g : Int), .int .u8 (b : Int), .int .u8 (a : Int)], .agg #[.int .u8 (r' : Int), .int .u8 (g' : Int), .int .u8 (b' : Int), .int .u8 (a' : Int)]] w fun e w' => e = .returned (.agg #[.int .u8 ((covr (255 - a) r r' : Nat) : Int), .int .u8 ((covr (255 - a) g g' : Nat) : Int), .int .u8 ((covr (255 - a) b b' : Nat) : Int), .int .u8 ((covr (255 - a) a a' : Nat) : Int)]) ∧ Ext w w' := by
  by_cases hz : r = 0 ∧ g = 0 ∧ b = 0 ∧ a = 0
  · obtain ⟨rfl, rfl, rfl, rfl⟩ := hz
    have e1 := covr_zero r' h'.r
    have e2 := covr_zero g' h'.g
    have e3 := covr_zero b' h'.b
    have e4 := covr_zero a' h'.a
    simp only [Nat.sub_zero, e1, e2, e3, e4]
    exact c_over_none_any r' g' b' a' w h'
  · exact c_over_some_any r g b a r' g' b' a' w h h' hz

set_option maxHeartbeats 1000000 in
theorem lives_any (w : World) : Calls Try.prog 12 #[] w fun e w' => e = .returned (.bool true) ∧ Ext w w' := by
  go_enter Try.func12, Try.ntmps12
  go_wp2_with fail
  refine (c_weigh_any 255 0 0 128 _ ⟨by omega, by omega, by omega, by omega⟩).mono ?_
  rintro e u ⟨rfl, hu⟩
  go_wp2_with fail
  refine (c_over_any 128 0 0 128 0 0 255 255 _ ⟨by omega, by omega, by omega, by omega⟩ ⟨by omega, by omega, by omega, by omega⟩).mono ?_
  rintro e u2 ⟨rfl, hu2⟩
  go_wp2_with fail
  go_ret
  exact ⟨rfl, hu.trans (Ext.trans ((Ext.refl _).alloc _) hu2)⟩

set_option maxHeartbeats 1000000 in
theorem overs_any (r g b a r' g' b' a' : Nat) (w : World) (h : Col8 r g b a) (h' : Col8 r' g' b' a') :
    Calls Try.prog 3 #[.agg #[.int .u8 (r : Int), .int .u8 (g : Int), .int .u8 (b : Int), .int .u8 (a : Int)], .agg #[.int .u8 (r' : Int), .int .u8 (g' : Int), .int .u8 (b' : Int), .int .u8 (a' : Int)]] w fun e w' => e = .returned (.bool true) ∧ Ext w w' := by
  go_enter Try.func3, Try.ntmps3
  go_wp2_with fail
  obtain ⟨w0, hw0⟩ : ∃ w0 : World, w0 = World.drew ((w.alloc (.cells #[.int .u8 (r : Int), .int .u8 (g : Int), .int .u8 (b : Int), .int .u8 (a : Int)] 23)).alloc (.cells #[.int .u8 (r' : Int), .int .u8 (g' : Int), .int .u8 (b' : Int), .int .u8 (a' : Int)] 23)) := ⟨_, rfl⟩
  have c0 : w0.cell? ⟨w.heap.size, 0, none⟩ = some (.int .u8 (r : Int)) := by rw [hw0]; go_simp; try rfl
  have d0 : w0.cell? ⟨w.heap.size + 1, 0, none⟩ = some (.int .u8 (r' : Int)) := by rw [hw0]; go_simp; try rfl
  have c1 : w0.cell? ⟨w.heap.size, 1, none⟩ = some (.int .u8 (g : Int)) := by rw [hw0]; go_simp; try rfl
  have d1 : w0.cell? ⟨w.heap.size + 1, 1, none⟩ = some (.int .u8 (g' : Int)) := by rw [hw0]; go_simp; try rfl
  have c2 : w0.cell? ⟨w.heap.size, 2, none⟩ = some (.int .u8 (b : Int)) := by rw [hw0]; go_simp; try rfl
  have d2 : w0.cell? ⟨w.heap.size + 1, 2, none⟩ = some (.int .u8 (b' : Int)) := by rw [hw0]; go_simp; try rfl
  have c3 : w0.cell? ⟨w.heap.size, 3, none⟩ = some (.int .u8 (a : Int)) := by rw [hw0]; go_simp; try rfl
  have d3 : w0.cell? ⟨w.heap.size + 1, 3, none⟩ = some (.int .u8 (a' : Int)) := by rw [hw0]; go_simp; try rfl
  have HE : Ext w w0 := by rw [hw0]; exact (((Ext.refl _).alloc _).alloc _).drew
  refine wp_region_plan (R := Ext) (.q 0 (.q 1 (.q 3 (.q 4 (.l 2 (.l 5 (.q 6 (.q 7 (.l 8 (.q 9 (.q 10 .done))))))))))) (by kernel_rfl) (by kernel_rfl) (by kernel_rfl) (by kernel_rfl) Ext.refl (fun _ _ _ => Ext.trans) ?_
  rw [← hw0]
  clear hw0
  repeat (refine wpE_q (v := ?_) rfl rfl (fun u hu => ?_) ?_; rotate_left 1; (focus ((have a0 := hu.cell' c0; have b0 := hu.cell' d0; have a1 := hu.cell' c1; have b1 := hu.cell' d1; have a2 := hu.cell' c2; have b2 := hu.cell' d2; have a3 := hu.cell' c3; have b3 := hu.cell' d3); go_simp; (try rfl))); simp only [Act.put, List.setIfInBounds_toArray, List.set_cons_zero, List.set_cons_succ])
  refine wpE_l rfl rfl (fun K hK => ?_)
  go_simp
  refine (c_over_any r g b a r' g' b' a' _ h h').mono ?_
  rintro e u1 ⟨rfl, hu1⟩
  refine hK.out _ _ hu1 ?_
  clear hK K
  try simp only [Act.put, List.setIfInBounds_toArray, List.set_cons_zero, List.set_cons_succ]
  refine wpE_l rfl rfl (fun K hK => ?_)
  go_simp
  refine (r08_over_any r g b a r' g' b' a' _ h h').mono ?_
  rintro e u2 ⟨rfl, hu2⟩
  refine hK.out _ _ hu2 ?_
  clear hK K
  try simp only [Act.put, List.setIfInBounds_toArray, List.set_cons_zero, List.set_cons_succ]
  repeat (refine wpE_q (v := ?_) rfl rfl (fun u hu => ?_) ?_; rotate_left 1; (focus (go_simp; (try rfl))); simp only [Act.put, List.setIfInBounds_toArray, List.set_cons_zero, List.set_cons_succ])
  refine wpE_l rfl rfl (fun K hK => ?_)
  go_simp
  refine (lives_any _).mono ?_
  rintro e u3 ⟨rfl, hu3⟩
  refine hK.out _ _ hu3 ?_
  clear hK K
  try simp only [Act.put, List.setIfInBounds_toArray, List.set_cons_zero, List.set_cons_succ]
  repeat (refine wpE_q (v := ?_) rfl rfl (fun u hu => ?_) ?_; rotate_left 1; (focus (go_simp; (try rfl))); simp only [Act.put, List.setIfInBounds_toArray, List.set_cons_zero, List.set_cons_succ])
  refine wpE_done ?_
  go_wp2_with fail
  go_ret
  exact ⟨rfl, ((HE.trans hu1).trans hu2).trans hu3⟩

end Go.Proofs.Ytbhjookpdmfdnaa
