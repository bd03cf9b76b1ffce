/- Colours: weigh, may; the document's own answers. -/
import Derived.Test.YtbhjookpdmfdnaaC4
namespace Go.Proofs.Ytbhjookpdmfdnaa
set_option linter.unusedVariables false
open Go Go.RowKit

set_option maxHeartbeats 1000000 in
theorem r08_over_any (r g b a r' g' b' a' : Nat) (w : World) (h : Col8 r g b a) (h' : Col8 r' g' b' a') :
    Calls Try.prog 11 #[.agg #[.int .u8 (r : Int), .int .u8 (g : Int), .int .u8 (b : Int), .int .u8 (a : Int)], .agg #[.int .u8 (r' : Int), .int .u8 (g' : Int), .int .u8 (b' : Int), .int .u8 (a' : Int)]] w fun e w' => e = .returned (.agg #[.int .u8 ((covr (255 - a) r r' : Nat) : Int), .int .u8 ((covr (255 - a) g g' : Nat) : Int), .int .u8 ((covr (255 - a) b b' : Nat) : Int), .int .u8 ((covr (255 - a) a a' : Nat) : Int)]) ∧ Ext w w' := by
  obtain ⟨hr, hg, hb, ha⟩ := h
  obtain ⟨hr', hg', hb', ha'⟩ := h'
  go_enter Try.func11, Try.ntmps11
  go_wp2_with fail
  obtain ⟨w0, hw0⟩ : ∃ w0 : World, w0 = World.drew (World.alloc (World.alloc (World.alloc w (.cells #[.int .u8 (r : Int), .int .u8 (g : Int), .int .u8 (b : Int), .int .u8 (a : Int)] 23)) (.cells #[.int .u8 (r' : Int), .int .u8 (g' : Int), .int .u8 (b' : Int), .int .u8 (a' : Int)] 23)) (.cells #[.int .u8 0, .int .u8 0, .int .u8 0, .int .u8 0] 23)) := ⟨_, rfl⟩
  have c00 : w0.cell? ⟨w.heap.size, 0, none⟩ = some (.int .u8 (r : Int)) := by rw [hw0]; go_simp; try rfl
  have c01 : w0.cell? ⟨w.heap.size, 1, none⟩ = some (.int .u8 (g : Int)) := by rw [hw0]; go_simp; try rfl
  have c02 : w0.cell? ⟨w.heap.size, 2, none⟩ = some (.int .u8 (b : Int)) := by rw [hw0]; go_simp; try rfl
  have c03 : w0.cell? ⟨w.heap.size, 3, none⟩ = some (.int .u8 (a : Int)) := by rw [hw0]; go_simp; try rfl
  have c10 : w0.cell? ⟨w.heap.size + 1, 0, none⟩ = some (.int .u8 (r' : Int)) := by rw [hw0]; go_simp; try rfl
  have c11 : w0.cell? ⟨w.heap.size + 1, 1, none⟩ = some (.int .u8 (g' : Int)) := by rw [hw0]; go_simp; try rfl
  have c12 : w0.cell? ⟨w.heap.size + 1, 2, none⟩ = some (.int .u8 (b' : Int)) := by rw [hw0]; go_simp; try rfl
  have c13 : w0.cell? ⟨w.heap.size + 1, 3, none⟩ = some (.int .u8 (a' : Int)) := by rw [hw0]; go_simp; try rfl
  have z0 : w0.cell? ⟨w.heap.size + 1 + 1, 0, none⟩ = some (.int .u8 0) := by rw [hw0]; go_simp; try rfl
  have f0 : w0.frozen? ⟨w.heap.size + 1 + 1, 0, none⟩ = false := by rw [hw0]; go_simp
  have z1 : w0.cell? ⟨w.heap.size + 1 + 1, 1, none⟩ = some (.int .u8 0) := by rw [hw0]; go_simp; try rfl
  have f1 : w0.frozen? ⟨w.heap.size + 1 + 1, 1, none⟩ = false := by rw [hw0]; go_simp
  have z2 : w0.cell? ⟨w.heap.size + 1 + 1, 2, none⟩ = some (.int .u8 0) := by rw [hw0]; go_simp; try rfl
  have f2 : w0.frozen? ⟨w.heap.size + 1 + 1, 2, none⟩ = false := by rw [hw0]; go_simp
  have z3 : w0.cell? ⟨w.heap.size + 1 + 1, 3, none⟩ = some (.int .u8 0) := by rw [hw0]; go_simp; try rfl
  have f3 : w0.frozen? ⟨w.heap.size + 1 + 1, 3, none⟩ = false := by rw [hw0]; go_simp
  have HE : Ext w w0 := by
    rw [hw0]
    refine Ext.drew ?_
    repeat (refine Ext.alloc ?_ _)
    exact Ext.refl _
  refine wp_region_plan (R := Ext) (.q 0 (.q 1 (.q 2 (.q 3 (.q 4 (.q 5 (.q 7 (.q 8 (.q 9 (.q 10 (.q 11 (.q 12 (.q 14 (.q 15 (.q 16 (.q 17 (.q 18 (.q 19 (.q 21 (.q 22 (.q 23 (.q 24 (.q 25 (.q 26 (.l 6 (.l 13 (.l 20 (.l 27 (.q 28 (.b 29 .done)))))))))))))))))))))))))))))) (by kernel_rfl) (by kernel_rfl) (by kernel_rfl) (by kernel_rfl) Ext.refl (fun _ _ _ => Ext.trans) ?_
  rw [← hw0]
  clear hw0
  repeat (refine wpE_q (v := ?_) rfl rfl (fun u hu => ?_) ?_; rotate_left 1; (focus ((have d00 := hu.cell' c00; have d01 := hu.cell' c01; have d02 := hu.cell' c02; have d03 := hu.cell' c03; have d10 := hu.cell' c10; have d11 := hu.cell' c11; have d12 := hu.cell' c12; have d13 := hu.cell' c13); go_simp; (try rfl))); simp only [Act.put, List.setIfInBounds_toArray, List.set_cons_zero, List.set_cons_succ])
  refine wpE_l rfl rfl (fun K hK => ?_)
  go_simp
  refine (r08_over1_any _ _ _ _ hr hr' ha).mono ?_
  rintro e u ⟨rfl, rfl⟩
  refine hK.out _ _ (Ext.refl _) ?_
  clear hK K
  try simp only [Act.put, List.setIfInBounds_toArray, List.set_cons_zero, List.set_cons_succ]
  refine wpE_l rfl rfl (fun K hK => ?_)
  go_simp
  refine (r08_over1_any _ _ _ _ hg hg' ha).mono ?_
  rintro e u ⟨rfl, rfl⟩
  refine hK.out _ _ (Ext.refl _) ?_
  clear hK K
  try simp only [Act.put, List.setIfInBounds_toArray, List.set_cons_zero, List.set_cons_succ]
  refine wpE_l rfl rfl (fun K hK => ?_)
  go_simp
  refine (r08_over1_any _ _ _ _ hb hb' ha).mono ?_
  rintro e u ⟨rfl, rfl⟩
  refine hK.out _ _ (Ext.refl _) ?_
  clear hK K
  try simp only [Act.put, List.setIfInBounds_toArray, List.set_cons_zero, List.set_cons_succ]
  refine wpE_l rfl rfl (fun K hK => ?_)
  go_simp
  refine (r08_over1_any _ _ _ _ ha ha' ha).mono ?_
  rintro e u ⟨rfl, rfl⟩
  refine hK.out _ _ (Ext.refl _) ?_
  clear hK K
  try simp only [Act.put, List.setIfInBounds_toArray, List.set_cons_zero, List.set_cons_succ]
  refine wpE_q (v := ?_) rfl rfl (fun u hu => ?_) ?_
  rotate_left 1
  focus (go_simp; (try rfl))
  try simp only [Act.put, List.setIfInBounds_toArray, List.set_cons_zero, List.set_cons_succ]
  refine wpE_b rfl rfl (fun K hK => ?_)
  go_simp
  refine hK.out _ _ ?_
  clear hK K
  try simp only [Act.put, List.setIfInBounds_toArray, List.set_cons_zero, List.set_cons_succ]
  refine wpE_done ?_
  go_wp2_with fail
  refine bodyPost_cells rfl rfl Try.underlying23 rfl (by kernel_rfl) (four (by go_simp; try rfl) (by go_simp; try rfl) (by go_simp; try rfl) (by go_simp; try rfl)) rfl ⟨rfl, ?_⟩
  refine (((HE.store ?_ _).store ?_ _).store ?_ _).store ?_ _ <;> (show w.heap.size ≤ w.heap.size + 1 + 1; omega)

set_option maxHeartbeats 1000000 in
theorem r08_weigh_any (r g b a : Nat) (w : World) (h : Col8 r g b a) :
    Calls Try.prog 18 #[.agg #[.int .u8 (r : Int), .int .u8 (g : Int), .int .u8 (b : Int), .int .u8 (a : Int)]] w fun e w' => e = .returned (.agg #[.int .u8 ((fadr a r r : Nat) : Int), .int .u8 ((fadr a g g : Nat) : Int), .int .u8 ((fadr a b b : Nat) : Int), .int .u8 (a : Int)]) ∧ Ext w w' := by
  obtain ⟨hr, hg, hb, ha⟩ := h
  go_enter Try.func18, Try.ntmps18
  go_wp2_with fail
  obtain ⟨w0, hw0⟩ : ∃ w0 : World, w0 = World.drew (World.alloc (World.alloc w (.cells #[.int .u8 (r : Int), .int .u8 (g : Int), .int .u8 (b : Int), .int .u8 (a : Int)] 23)) (.cells #[.int .u8 0, .int .u8 0, .int .u8 0, .int .u8 0] 23)) := ⟨_, rfl⟩
  have c00 : w0.cell? ⟨w.heap.size, 0, none⟩ = some (.int .u8 (r : Int)) := by rw [hw0]; go_simp; try rfl
  have c01 : w0.cell? ⟨w.heap.size, 1, none⟩ = some (.int .u8 (g : Int)) := by rw [hw0]; go_simp; try rfl
  have c02 : w0.cell? ⟨w.heap.size, 2, none⟩ = some (.int .u8 (b : Int)) := by rw [hw0]; go_simp; try rfl
  have c03 : w0.cell? ⟨w.heap.size, 3, none⟩ = some (.int .u8 (a : Int)) := by rw [hw0]; go_simp; try rfl
  have z0 : w0.cell? ⟨w.heap.size + 1, 0, none⟩ = some (.int .u8 0) := by rw [hw0]; go_simp; try rfl
  have f0 : w0.frozen? ⟨w.heap.size + 1, 0, none⟩ = false := by rw [hw0]; go_simp
  have z1 : w0.cell? ⟨w.heap.size + 1, 1, none⟩ = some (.int .u8 0) := by rw [hw0]; go_simp; try rfl
  have f1 : w0.frozen? ⟨w.heap.size + 1, 1, none⟩ = false := by rw [hw0]; go_simp
  have z2 : w0.cell? ⟨w.heap.size + 1, 2, none⟩ = some (.int .u8 0) := by rw [hw0]; go_simp; try rfl
  have f2 : w0.frozen? ⟨w.heap.size + 1, 2, none⟩ = false := by rw [hw0]; go_simp
  have z3 : w0.cell? ⟨w.heap.size + 1, 3, none⟩ = some (.int .u8 0) := by rw [hw0]; go_simp; try rfl
  have f3 : w0.frozen? ⟨w.heap.size + 1, 3, none⟩ = false := by rw [hw0]; go_simp
  have HE : Ext w w0 := by
    rw [hw0]
    refine Ext.drew ?_
    repeat (refine Ext.alloc ?_ _)
    exact Ext.refl _
  refine wp_region_plan (R := Ext) (.q 0 (.q 1 (.q 2 (.q 3 (.q 5 (.q 6 (.q 7 (.q 8 (.q 10 (.q 11 (.q 12 (.q 13 (.q 15 (.q 16 (.l 4 (.l 9 (.l 14 (.q 17 (.b 18 .done))))))))))))))))))) (by kernel_rfl) (by kernel_rfl) (by kernel_rfl) (by kernel_rfl) Ext.refl (fun _ _ _ => Ext.trans) ?_
  rw [← hw0]
  clear hw0
  repeat (refine wpE_q (v := ?_) rfl rfl (fun u hu => ?_) ?_; rotate_left 1; (focus ((have d00 := hu.cell' c00; have d01 := hu.cell' c01; have d02 := hu.cell' c02; have d03 := hu.cell' c03); go_simp; (try rfl))); simp only [Act.put, List.setIfInBounds_toArray, List.set_cons_zero, List.set_cons_succ])
  refine wpE_l rfl rfl (fun K hK => ?_)
  go_simp
  refine (r08_times_any _ _ _ hr ha).mono ?_
  rintro e u ⟨rfl, rfl⟩
  refine hK.out _ _ (Ext.refl _) ?_
  clear hK K
  try simp only [Act.put, List.setIfInBounds_toArray, List.set_cons_zero, List.set_cons_succ]
  refine wpE_l rfl rfl (fun K hK => ?_)
  go_simp
  refine (r08_times_any _ _ _ hg ha).mono ?_
  rintro e u ⟨rfl, rfl⟩
  refine hK.out _ _ (Ext.refl _) ?_
  clear hK K
  try simp only [Act.put, List.setIfInBounds_toArray, List.set_cons_zero, List.set_cons_succ]
  refine wpE_l rfl rfl (fun K hK => ?_)
  go_simp
  refine (r08_times_any _ _ _ hb ha).mono ?_
  rintro e u ⟨rfl, rfl⟩
  refine hK.out _ _ (Ext.refl _) ?_
  clear hK K
  try simp only [Act.put, List.setIfInBounds_toArray, List.set_cons_zero, List.set_cons_succ]
  refine wpE_q (v := ?_) rfl rfl (fun u hu => ?_) ?_
  rotate_left 1
  focus (go_simp; (try rfl))
  try simp only [Act.put, List.setIfInBounds_toArray, List.set_cons_zero, List.set_cons_succ]
  refine wpE_b rfl rfl (fun K hK => ?_)
  go_simp
  refine hK.out _ _ ?_
  clear hK K
  try simp only [Act.put, List.setIfInBounds_toArray, List.set_cons_zero, List.set_cons_succ]
  refine wpE_done ?_
  go_wp2_with fail
  refine bodyPost_cells rfl rfl Try.underlying23 rfl (by kernel_rfl) (four (by go_simp; try rfl) (by go_simp; try rfl) (by go_simp; try rfl) (by go_simp; try rfl)) rfl ⟨rfl, ?_⟩
  refine (((HE.store ?_ _).store ?_ _).store ?_ _).store ?_ _ <;> (show w.heap.size ≤ w.heap.size + 1; omega)

set_option maxHeartbeats 1000000 in
theorem r08_fade_any (n r g b a : Nat) (w : World) (h : Col8 r g b a) (hn : n ≤ 255) :
    Calls Try.prog 22 #[.agg #[.int .u8 (r : Int), .int .u8 (g : Int), .int .u8 (b : Int), .int .u8 (a : Int)], .int .u8 (n : Int)] w fun e w' => e = .returned (.agg #[.int .u8 ((fadr n r r : Nat) : Int), .int .u8 ((fadr n g g : Nat) : Int), .int .u8 ((fadr n b b : Nat) : Int), .int .u8 ((fadr n a a : Nat) : Int)]) ∧ Ext w w' := by
  obtain ⟨hr, hg, hb, ha⟩ := h
  go_enter Try.func22, Try.ntmps22
  go_wp2_with fail
  obtain ⟨w0, hw0⟩ : ∃ w0 : World, w0 = World.drew (World.alloc (World.alloc w (.cells #[.int .u8 (r : Int), .int .u8 (g : Int), .int .u8 (b : Int), .int .u8 (a : Int)] 23)) (.cells #[.int .u8 0, .int .u8 0, .int .u8 0, .int .u8 0] 23)) := ⟨_, rfl⟩
  have c00 : w0.cell? ⟨w.heap.size, 0, none⟩ = some (.int .u8 (r : Int)) := by rw [hw0]; go_simp; try rfl
  have c01 : w0.cell? ⟨w.heap.size, 1, none⟩ = some (.int .u8 (g : Int)) := by rw [hw0]; go_simp; try rfl
  have c02 : w0.cell? ⟨w.heap.size, 2, none⟩ = some (.int .u8 (b : Int)) := by rw [hw0]; go_simp; try rfl
  have c03 : w0.cell? ⟨w.heap.size, 3, none⟩ = some (.int .u8 (a : Int)) := by rw [hw0]; go_simp; try rfl
  have z0 : w0.cell? ⟨w.heap.size + 1, 0, none⟩ = some (.int .u8 0) := by rw [hw0]; go_simp; try rfl
  have f0 : w0.frozen? ⟨w.heap.size + 1, 0, none⟩ = false := by rw [hw0]; go_simp
  have z1 : w0.cell? ⟨w.heap.size + 1, 1, none⟩ = some (.int .u8 0) := by rw [hw0]; go_simp; try rfl
  have f1 : w0.frozen? ⟨w.heap.size + 1, 1, none⟩ = false := by rw [hw0]; go_simp
  have z2 : w0.cell? ⟨w.heap.size + 1, 2, none⟩ = some (.int .u8 0) := by rw [hw0]; go_simp; try rfl
  have f2 : w0.frozen? ⟨w.heap.size + 1, 2, none⟩ = false := by rw [hw0]; go_simp
  have z3 : w0.cell? ⟨w.heap.size + 1, 3, none⟩ = some (.int .u8 0) := by rw [hw0]; go_simp; try rfl
  have f3 : w0.frozen? ⟨w.heap.size + 1, 3, none⟩ = false := by rw [hw0]; go_simp
  have HE : Ext w w0 := by
    rw [hw0]
    refine Ext.drew ?_
    repeat (refine Ext.alloc ?_ _)
    exact Ext.refl _
  refine wp_region_plan (R := Ext) (.q 0 (.q 1 (.q 2 (.q 4 (.q 5 (.q 6 (.q 8 (.q 9 (.q 10 (.q 12 (.q 13 (.q 14 (.l 3 (.l 7 (.l 11 (.l 15 (.q 16 (.b 17 .done)))))))))))))))))) (by kernel_rfl) (by kernel_rfl) (by kernel_rfl) (by kernel_rfl) Ext.refl (fun _ _ _ => Ext.trans) ?_
  rw [← hw0]
  clear hw0
  repeat (refine wpE_q (v := ?_) rfl rfl (fun u hu => ?_) ?_; rotate_left 1; (focus ((have d00 := hu.cell' c00; have d01 := hu.cell' c01; have d02 := hu.cell' c02; have d03 := hu.cell' c03); go_simp; (try rfl))); simp only [Act.put, List.setIfInBounds_toArray, List.set_cons_zero, List.set_cons_succ])
  refine wpE_l rfl rfl (fun K hK => ?_)
  go_simp
  refine (r08_times_any _ _ _ hr hn).mono ?_
  rintro e u ⟨rfl, rfl⟩
  refine hK.out _ _ (Ext.refl _) ?_
  clear hK K
  try simp only [Act.put, List.setIfInBounds_toArray, List.set_cons_zero, List.set_cons_succ]
  refine wpE_l rfl rfl (fun K hK => ?_)
  go_simp
  refine (r08_times_any _ _ _ hg hn).mono ?_
  rintro e u ⟨rfl, rfl⟩
  refine hK.out _ _ (Ext.refl _) ?_
  clear hK K
  try simp only [Act.put, List.setIfInBounds_toArray, List.set_cons_zero, List.set_cons_succ]
  refine wpE_l rfl rfl (fun K hK => ?_)
  go_simp
  refine (r08_times_any _ _ _ hb hn).mono ?_
  rintro e u ⟨rfl, rfl⟩
  refine hK.out _ _ (Ext.refl _) ?_
  clear hK K
  try simp only [Act.put, List.setIfInBounds_toArray, List.set_cons_zero, List.set_cons_succ]
  refine wpE_l rfl rfl (fun K hK => ?_)
  go_simp
  refine (r08_times_any _ _ _ ha hn).mono ?_
  rintro e u ⟨rfl, rfl⟩
  refine hK.out _ _ (Ext.refl _) ?_
  clear hK K
  try simp only [Act.put, List.setIfInBounds_toArray, List.set_cons_zero, List.set_cons_succ]
  refine wpE_q (v := ?_) rfl rfl (fun u hu => ?_) ?_
  rotate_left 1
  focus (go_simp; (try rfl))
  try simp only [Act.put, List.setIfInBounds_toArray, List.set_cons_zero, List.set_cons_succ]
  refine wpE_b rfl rfl (fun K hK => ?_)
  go_simp
  refine hK.out _ _ ?_
  clear hK K
  try simp only [Act.put, List.setIfInBounds_toArray, List.set_cons_zero, List.set_cons_succ]
  refine wpE_done ?_
  go_wp2_with fail
  refine bodyPost_cells rfl rfl Try.underlying23 rfl (by kernel_rfl) (four (by go_simp; try rfl) (by go_simp; try rfl) (by go_simp; try rfl) (by go_simp; try rfl)) rfl ⟨rfl, ?_⟩
  refine (((HE.store ?_ _).store ?_ _).store ?_ _).store ?_ _ <;> (show w.heap.size ≤ w.heap.size + 1; omega)

set_option maxHeartbeats 1000000 in
theorem r08_mix_any (n r g b a r' g' b' a' : Nat) (w : World) (h : Col8 r g b a) (h' : Col8 r' g' b' a') (hn : n ≤ 255) :
    Calls Try.prog 24 #[.agg #[.int .u8 (r : Int), .int .u8 (g : Int), .int .u8 (b : Int), .int .u8 (a : Int)], .agg #[.int .u8 (r' : Int), .int .u8 (g' : Int), .int .u8 (b' : Int), .int .u8 (a' : Int)], .int .u8 (n : Int)] w fun e w' => e = .returned (.agg #[.int .u8 ((mixr n r r' : Nat) : Int), .int .u8 ((mixr n g g' : Nat) : Int), .int .u8 ((mixr n b b' : Nat) : Int), .int .u8 ((mixr n a a' : Nat) : Int)]) ∧ Ext w w' := by
  obtain ⟨hr, hg, hb, ha⟩ := h
  obtain ⟨hr', hg', hb', ha'⟩ := h'
  go_enter Try.func24, Try.ntmps24
  go_wp2_with fail
  obtain ⟨w0, hw0⟩ : ∃ w0 : World, w0 = World.drew (World.alloc (World.alloc (World.alloc w (.cells #[.int .u8 (r : Int), .int .u8 (g : Int), .int .u8 (b : Int), .int .u8 (a : Int)] 23)) (.cells #[.int .u8 (r' : Int), .int .u8 (g' : Int), .int .u8 (b' : Int), .int .u8 (a' : Int)] 23)) (.cells #[.int .u8 0, .int .u8 0, .int .u8 0, .int .u8 0] 23)) := ⟨_, rfl⟩
  have c00 : w0.cell? ⟨w.heap.size, 0, none⟩ = some (.int .u8 (r : Int)) := by rw [hw0]; go_simp; try rfl
  have c01 : w0.cell? ⟨w.heap.size, 1, none⟩ = some (.int .u8 (g : Int)) := by rw [hw0]; go_simp; try rfl
  have c02 : w0.cell? ⟨w.heap.size, 2, none⟩ = some (.int .u8 (b : Int)) := by rw [hw0]; go_simp; try rfl
  have c03 : w0.cell? ⟨w.heap.size, 3, none⟩ = some (.int .u8 (a : Int)) := by rw [hw0]; go_simp; try rfl
  have c10 : w0.cell? ⟨w.heap.size + 1, 0, none⟩ = some (.int .u8 (r' : Int)) := by rw [hw0]; go_simp; try rfl
  have c11 : w0.cell? ⟨w.heap.size + 1, 1, none⟩ = some (.int .u8 (g' : Int)) := by rw [hw0]; go_simp; try rfl
  have c12 : w0.cell? ⟨w.heap.size + 1, 2, none⟩ = some (.int .u8 (b' : Int)) := by rw [hw0]; go_simp; try rfl
  have c13 : w0.cell? ⟨w.heap.size + 1, 3, none⟩ = some (.int .u8 (a' : Int)) := by rw [hw0]; go_simp; try rfl
  have z0 : w0.cell? ⟨w.heap.size + 1 + 1, 0, none⟩ = some (.int .u8 0) := by rw [hw0]; go_simp; try rfl
  have f0 : w0.frozen? ⟨w.heap.size + 1 + 1, 0, none⟩ = false := by rw [hw0]; go_simp
  have z1 : w0.cell? ⟨w.heap.size + 1 + 1, 1, none⟩ = some (.int .u8 0) := by rw [hw0]; go_simp; try rfl
  have f1 : w0.frozen? ⟨w.heap.size + 1 + 1, 1, none⟩ = false := by rw [hw0]; go_simp
  have z2 : w0.cell? ⟨w.heap.size + 1 + 1, 2, none⟩ = some (.int .u8 0) := by rw [hw0]; go_simp; try rfl
  have f2 : w0.frozen? ⟨w.heap.size + 1 + 1, 2, none⟩ = false := by rw [hw0]; go_simp
  have z3 : w0.cell? ⟨w.heap.size + 1 + 1, 3, none⟩ = some (.int .u8 0) := by rw [hw0]; go_simp; try rfl
  have f3 : w0.frozen? ⟨w.heap.size + 1 + 1, 3, none⟩ = false := by rw [hw0]; go_simp
  have HE : Ext w w0 := by
    rw [hw0]
    refine Ext.drew ?_
    repeat (refine Ext.alloc ?_ _)
    exact Ext.refl _
  refine wp_region_plan (R := Ext) (.q 0 (.q 1 (.q 2 (.q 3 (.q 4 (.q 6 (.q 7 (.q 8 (.q 9 (.q 10 (.q 12 (.q 13 (.q 14 (.q 15 (.q 16 (.q 18 (.q 19 (.q 20 (.q 21 (.q 22 (.l 5 (.l 11 (.l 17 (.l 23 (.q 24 (.b 25 .done)))))))))))))))))))))))))) (by kernel_rfl) (by kernel_rfl) (by kernel_rfl) (by kernel_rfl) Ext.refl (fun _ _ _ => Ext.trans) ?_
  rw [← hw0]
  clear hw0
  repeat (refine wpE_q (v := ?_) rfl rfl (fun u hu => ?_) ?_; rotate_left 1; (focus ((have d00 := hu.cell' c00; have d01 := hu.cell' c01; have d02 := hu.cell' c02; have d03 := hu.cell' c03; have d10 := hu.cell' c10; have d11 := hu.cell' c11; have d12 := hu.cell' c12; have d13 := hu.cell' c13); go_simp; (try rfl))); simp only [Act.put, List.setIfInBounds_toArray, List.set_cons_zero, List.set_cons_succ])
  refine wpE_l rfl rfl (fun K hK => ?_)
  go_simp
  refine (r08_mix1_any _ _ _ _ hr hr' hn).mono ?_
  rintro e u ⟨rfl, rfl⟩
  refine hK.out _ _ (Ext.refl _) ?_
  clear hK K
  try simp only [Act.put, List.setIfInBounds_toArray, List.set_cons_zero, List.set_cons_succ]
  refine wpE_l rfl rfl (fun K hK => ?_)
  go_simp
  refine (r08_mix1_any _ _ _ _ hg hg' hn).mono ?_
  rintro e u ⟨rfl, rfl⟩
  refine hK.out _ _ (Ext.refl _) ?_
  clear hK K
  try simp only [Act.put, List.setIfInBounds_toArray, List.set_cons_zero, List.set_cons_succ]
  refine wpE_l rfl rfl (fun K hK => ?_)
  go_simp
  refine (r08_mix1_any _ _ _ _ hb hb' hn).mono ?_
  rintro e u ⟨rfl, rfl⟩
  refine hK.out _ _ (Ext.refl _) ?_
  clear hK K
  try simp only [Act.put, List.setIfInBounds_toArray, List.set_cons_zero, List.set_cons_succ]
  refine wpE_l rfl rfl (fun K hK => ?_)
  go_simp
  refine (r08_mix1_any _ _ _ _ ha ha' hn).mono ?_
  rintro e u ⟨rfl, rfl⟩
  refine hK.out _ _ (Ext.refl _) ?_
  clear hK K
  try simp only [Act.put, List.setIfInBounds_toArray, List.set_cons_zero, List.set_cons_succ]
  refine wpE_q (v := ?_) rfl rfl (fun u hu => ?_) ?_
  rotate_left 1
  focus (go_simp; (try rfl))
  try simp only [Act.put, List.setIfInBounds_toArray, List.set_cons_zero, List.set_cons_succ]
  refine wpE_b rfl rfl (fun K hK => ?_)
  go_simp
  refine hK.out _ _ ?_
  clear hK K
  try simp only [Act.put, List.setIfInBounds_toArray, List.set_cons_zero, List.set_cons_succ]
  refine wpE_done ?_
  go_wp2_with fail
  refine bodyPost_cells rfl rfl Try.underlying23 rfl (by kernel_rfl) (four (by go_simp; try rfl) (by go_simp; try rfl) (by go_simp; try rfl) (by go_simp; try rfl)) rfl ⟨rfl, ?_⟩
  refine (((HE.store ?_ _).store ?_ _).store ?_ _).store ?_ _ <;> (show w.heap.size ≤ w.heap.size + 1 + 1; omega)


theorem ret_bool {a b : Bool} (h : a = b) : Ending.returned (.bool a) = .returned (.bool b) := by rw [h]

/-- May a colour be a weighted one? -/
def mayB (r g b a : Nat) : Bool := decide (r ≤ a ∧ g ≤ a ∧ b ≤ a)

set_option maxHeartbeats 1000000 in
theorem r08_may_any (r g b a : Nat) (w : World) (h : Col8 r g b a) :
    Calls Try.prog 20 #[.agg #[.int .u8 (r : Int), .int .u8 (g : Int), .int .u8 (b : Int), .int .u8 (a : Int)]] w fun e w' => e = .returned (.bool (mayB r g b a)) ∧ Ext w w' := by
  have HM : Hid (mayB r g b a = decide (r ≤ a ∧ g ≤ a ∧ b ≤ a)) := rfl
  generalize mayB r g b a = M at *
  go_enter Try.func20, Try.ntmps20
  go_wp2_with fail
  all_goals go_ret
  all_goals refine ⟨ret_bool ?_, (Ext.refl _).alloc _⟩
  all_goals rw [HM.out]
  all_goals first | exact decide_eq_decide.2 (by omega) | exact (decide_eq_false (by omega)).symm

set_option maxHeartbeats 1000000 in
theorem c_weigh_any (r g b a : Nat) (w : World) (h : Col8 r g b a) :
    Calls Try.prog 17 #[.agg #[.int .u8 (r : Int), .int .u8 (g : Int), .int .u8 (b : Int), .int .u8 (a : Int)]] w fun e w' => e = .returned (.agg #[.int .u8 ((fadr a r r : Nat) : Int), .int .u8 ((fadr a g g : Nat) : Int), .int .u8 ((fadr a b b : Nat) : Int), .int .u8 (a : Int)]) ∧ Ext w w' := by
  go_enter Try.func17, Try.ntmps17
  go_wp2_with fail
  refine (c_fade_any a r g b a _ h h.a).mono ?_
  rintro e u ⟨rfl, hu⟩
  have z0 := hu.cell' (p := ⟨w.heap.size, 0, none⟩) (v := .int .u8 (r : Int)) (by go_simp; try rfl)
  have y0 := hu.cell' (p := ⟨w.heap.size + 1, 0, none⟩) (v := .int .u8 0) (by go_simp; try rfl)
  have q0 : u.frozen? ⟨w.heap.size + 1, 0, none⟩ = false := (hu.frozen (p := ⟨w.heap.size + 1, 0, none⟩) (by simp)).trans (by go_simp)
  have z1 := hu.cell' (p := ⟨w.heap.size, 1, none⟩) (v := .int .u8 (g : Int)) (by go_simp; try rfl)
  have y1 := hu.cell' (p := ⟨w.heap.size + 1, 1, none⟩) (v := .int .u8 0) (by go_simp; try rfl)
  have q1 : u.frozen? ⟨w.heap.size + 1, 1, none⟩ = false := (hu.frozen (p := ⟨w.heap.size + 1, 1, none⟩) (by simp)).trans (by go_simp)
  have z2 := hu.cell' (p := ⟨w.heap.size, 2, none⟩) (v := .int .u8 (b : Int)) (by go_simp; try rfl)
  have y2 := hu.cell' (p := ⟨w.heap.size + 1, 2, none⟩) (v := .int .u8 0) (by go_simp; try rfl)
  have q2 : u.frozen? ⟨w.heap.size + 1, 2, none⟩ = false := (hu.frozen (p := ⟨w.heap.size + 1, 2, none⟩) (by simp)).trans (by go_simp)
  have z3 := hu.cell' (p := ⟨w.heap.size, 3, none⟩) (v := .int .u8 (a : Int)) (by go_simp; try rfl)
  have y3 := hu.cell' (p := ⟨w.heap.size + 1, 3, none⟩) (v := .int .u8 0) (by go_simp; try rfl)
  have q3 : u.frozen? ⟨w.heap.size + 1, 3, none⟩ = false := (hu.frozen (p := ⟨w.heap.size + 1, 3, none⟩) (by simp)).trans (by go_simp)
  have hsu := hu.size
  simp only [World.size_alloc] at hsu
  have HE : Ext w u := Ext.trans (((Ext.refl _).alloc _).alloc _) hu
  clear hu
  go_upto_region 2 with fail
  have he := (Ext.refl u).alloc (.cells #[.int .u8 ((fadr a r r : Nat) : Int), .int .u8 ((fadr a g g : Nat) : Int), .int .u8 ((fadr a b b : Nat) : Int), .int .u8 ((fadr a a a : Nat) : Int)] 23)
  have hq : ∀ j, (u.alloc (.cells #[.int .u8 ((fadr a r r : Nat) : Int), .int .u8 ((fadr a g g : Nat) : Int), .int .u8 ((fadr a b b : Nat) : Int), .int .u8 ((fadr a a a : Nat) : Int)] 23)).frozen? ⟨w.heap.size + 1, j, none⟩ = u.frozen? ⟨w.heap.size + 1, j, none⟩ := fun j => he.frozen (by show w.heap.size + 1 < _; omega)
  have x0 : (u.alloc (.cells #[.int .u8 ((fadr a r r : Nat) : Int), .int .u8 ((fadr a g g : Nat) : Int), .int .u8 ((fadr a b b : Nat) : Int), .int .u8 ((fadr a a a : Nat) : Int)] 23)).cell? ⟨u.heap.size, 0, none⟩ = some (.int .u8 ((fadr a r r : Nat) : Int)) := by go_simp; try rfl
  replace z0 := he.cell' z0
  replace y0 := he.cell' y0
  replace q0 := (hq 0).trans q0
  have x1 : (u.alloc (.cells #[.int .u8 ((fadr a r r : Nat) : Int), .int .u8 ((fadr a g g : Nat) : Int), .int .u8 ((fadr a b b : Nat) : Int), .int .u8 ((fadr a a a : Nat) : Int)] 23)).cell? ⟨u.heap.size, 1, none⟩ = some (.int .u8 ((fadr a g g : Nat) : Int)) := by go_simp; try rfl
  replace z1 := he.cell' z1
  replace y1 := he.cell' y1
  replace q1 := (hq 1).trans q1
  have x2 : (u.alloc (.cells #[.int .u8 ((fadr a r r : Nat) : Int), .int .u8 ((fadr a g g : Nat) : Int), .int .u8 ((fadr a b b : Nat) : Int), .int .u8 ((fadr a a a : Nat) : Int)] 23)).cell? ⟨u.heap.size, 2, none⟩ = some (.int .u8 ((fadr a b b : Nat) : Int)) := by go_simp; try rfl
  replace z2 := he.cell' z2
  replace y2 := he.cell' y2
  replace q2 := (hq 2).trans q2
  have x3 : (u.alloc (.cells #[.int .u8 ((fadr a r r : Nat) : Int), .int .u8 ((fadr a g g : Nat) : Int), .int .u8 ((fadr a b b : Nat) : Int), .int .u8 ((fadr a a a : Nat) : Int)] 23)).cell? ⟨u.heap.size, 3, none⟩ = some (.int .u8 ((fadr a a a : Nat) : Int)) := by go_simp; try rfl
  replace z3 := he.cell' z3
  replace y3 := he.cell' y3
  replace q3 := (hq 3).trans q3
  have x4 : (u.alloc (.cells #[.int .u8 ((fadr a r r : Nat) : Int), .int .u8 ((fadr a g g : Nat) : Int), .int .u8 ((fadr a b b : Nat) : Int), .int .u8 ((fadr a a a : Nat) : Int)] 23)).frozen? ⟨u.heap.size, 3, none⟩ = false := by go_simp
  replace HE := HE.trans he
  clear he hq
  generalize (u.alloc (.cells #[.int .u8 ((fadr a r r : Nat) : Int), .int .u8 ((fadr a g g : Nat) : Int), .int .u8 ((fadr a b b : Nat) : Int), .int .u8 ((fadr a a a : Nat) : Int)] 23)) = u2 at *
  have hne : ¬ w.heap.size + 1 = u.heap.size := by omega
  have hne' : ¬ u.heap.size = w.heap.size + 1 := by omega
  have hle : w.heap.size ≤ u.heap.size := by omega
  clear hsu
  generalize u.heap.size = G at *
  go_wp2_with fail
  refine bodyPost_cells rfl rfl Try.underlying23 rfl (by kernel_rfl) (four (by go_simp; try rfl) (by go_simp; try rfl) (by go_simp; try rfl) (by go_simp; try rfl)) rfl ⟨rfl, ?_⟩
  exact ((((HE.store hle _).store (Nat.le_succ _) _).store (Nat.le_succ _) _).store (Nat.le_succ _) _).store (Nat.le_succ _) _


end Go.Proofs.Ytbhjookpdmfdnaa
