/- The document's whole numbers: differences, how two stand. -/
import Derived.Test.YtcipcpbjkcpgdaaE2
namespace Go.Proofs.Ytcipcpbjkcpgdaa
set_option linter.unusedVariables false
open Go Go.RowKit

theorem natAbs_len {z : Int} {N : Nat} (h : z.natAbs < B32 ^ N) : (dig B32 z.natAbs).length ≤ N := dig_len_le B32_two h
theorem WhIn.lt {w : World} {neg : Bool} {a : Option Addr} {n cap : Nat} {z : Int} (h : WhIn w neg a n cap z) : z.natAbs < B32 ^ n := by
  obtain ⟨⟨l, hs, hl, hz⟩, hn⟩ := h
  have := val_lt (B := B32) (by decide) l hl
  rw [hs.int_len] at this
  have h2 : z.natAbs = val B32 l := by rw [← hz]; unfold wz; split <;> omega
  rw [h2]; exact this

set_option maxRecDepth 100000 in
set_option maxHeartbeats 2000000 in
theorem r02_Sub_any (neg neg' : Bool) (a a' : Option Addr) (n cap n' cap' : Nat) (z z' : Int) (w : World) (hw : WhIn w neg a n cap z) (hw' : WhIn w neg' a' n' cap' z') :
    Calls Try.prog 71 #[.agg #[.bool neg, .slice a n cap], .agg #[.bool neg', .slice a' n' cap']] w (RetW w (z - z')) := by
  have hN : (dig B32 (-z').natAbs).length ≤ 549755813888 := by
    have h1 := hw'.lt
    have h2 := natAbs_len (z := -z') (N := n') (by simpa using h1)
    have := hw'.le
    omega
  have HN := hidP hN
  have HW := hidP hw; have HW' := hidP hw'
  clear hN hw hw'
  go_enter Try.func71, Try.ntmps71
  go_upto_region 1 with fail
  obtain ⟨w0, hw0⟩ : ∃ w0 : World, w0 = World.drew (((w.alloc (.cells #[.bool neg, .slice a n cap] 51)).alloc (.cells #[.bool neg', .slice a' n' cap'] 51)).alloc (.cells #[.bool false, .slice none 0 0] 51)) := ⟨_, rfl⟩
  have c0 : w0.cell? ⟨w.heap.size, 0, none⟩ = some (.bool neg) := by rw [hw0]; go_simp; try rfl
  have c1 : w0.cell? ⟨w.heap.size, 1, none⟩ = some (.slice a n cap) := by rw [hw0]; go_simp; try rfl
  have d0 : w0.cell? ⟨w.heap.size + 1, 0, none⟩ = some (.bool neg') := by rw [hw0]; go_simp; try rfl
  have d1 : w0.cell? ⟨w.heap.size + 1, 1, none⟩ = some (.slice a' n' cap') := by rw [hw0]; go_simp; try rfl
  have z0 : w0.cell? ⟨w.heap.size + 1 + 1, 0, none⟩ = some (.bool false) := by rw [hw0]; go_simp; try rfl
  have qz0 : w0.frozen? ⟨w.heap.size + 1 + 1, 0, none⟩ = false := by rw [hw0]; go_simp; try rfl
  have z1 : w0.cell? ⟨w.heap.size + 1 + 1, 1, none⟩ = some (.slice none 0 0) := by rw [hw0]; go_simp; try rfl
  have qz1 : w0.frozen? ⟨w.heap.size + 1 + 1, 1, none⟩ = false := by rw [hw0]; go_simp; try rfl
  have HE : Ext w w0 := by rw [hw0]; exact ((((Ext.refl _).alloc _).alloc _).alloc _).drew
  refine wp_region_plan (R := Ext) (.q 0 (.q 1 (.l 2 (.l 3 (.b 4 .done))))) (by kernel_rfl) (by kernel_rfl) (by kernel_rfl) (by kernel_rfl) Ext.refl (fun _ _ _ => Ext.trans) ?_
  rw [← hw0]
  clear hw0
  repeat (refine wpE_q (v := ?_) rfl rfl (fun u hu => ?_) ?_; rotate_left 1; (focus ((have k0 := hu.cell' c0; have k1 := hu.cell' c1; have k2 := hu.cell' d0; have k3 := hu.cell' d1); go_simp; (try rfl))); simp only [Act.put, List.setIfInBounds_toArray, List.set_cons_zero, List.set_cons_succ])
  refine wpE_l rfl rfl (fun K hK => ?_)
  go_simp
  refine (r02_Neg_any neg' a' n' cap' z' _ (HW'.out.ext HE)).mono ?_
  rintro e w1 h1
  obtain ⟨a1, n1, cap1, rfl, hw1, hs1, he1⟩ := h1.whIn HN.out
  clear h1
  generalize decide (-z' < 0) = nb at *
  refine hK.out _ _ he1 ?_
  clear hK K hs1
  have hgl : w.heap.size + 1 + 1 < w0.heap.size := World.block_lt_of_cell? w0 _ z0
  replace z0 := he1.cell' z0
  replace qz0 := (he1.frozen (p := ⟨w.heap.size + 1 + 1, 0, none⟩) hgl).trans qz0
  replace z1 := he1.cell' z1
  replace qz1 := (he1.frozen (p := ⟨w.heap.size + 1 + 1, 1, none⟩) hgl).trans qz1
  clear hgl
  clear c0 c1 d0 d1
  replace HE := HE.trans he1
  clear he1
  try simp only [Act.put, List.setIfInBounds_toArray, List.set_cons_zero, List.set_cons_succ]
  refine wpE_l rfl rfl (fun K hK => ?_)
  go_simp
  refine (r02_Add_any neg nb a a1 n cap n1 cap1 z (-z') _ (HW.out.ext HE) hw1).mono ?_
  rintro e w2 ⟨a2, n2, cap2, rfl, hs2, he2⟩
  refine hK.out _ _ he2 ?_
  clear hK K
  have hgl : w.heap.size + 1 + 1 < w1.heap.size := World.block_lt_of_cell? w1 _ z0
  replace z0 := he2.cell' z0
  replace qz0 := (he2.frozen (p := ⟨w.heap.size + 1 + 1, 0, none⟩) hgl).trans qz0
  replace z1 := he2.cell' z1
  replace qz1 := (he2.frozen (p := ⟨w.heap.size + 1 + 1, 1, none⟩) hgl).trans qz1
  clear hgl
  replace HE := HE.trans he2
  clear he2 hw1
  try simp only [Act.put, List.setIfInBounds_toArray, List.set_cons_zero, List.set_cons_succ]
  refine wpE_b rfl rfl (fun K hK => ?_)
  go_simp
  refine hK.out _ _ ?_
  clear hK K
  try simp only [Act.put, List.setIfInBounds_toArray, List.set_cons_zero, List.set_cons_succ]
  refine wpE_done ?_
  go_wp2_with fail
  refine bodyPost_cells rfl rfl Try.underlying51 rfl (by kernel_rfl) (two (by go_simp; try rfl) (by go_simp; try rfl)) rfl ?_
  exact RetW.stored z0 z1 hs2 HE (by omega) rfl

set_option maxRecDepth 100000 in
set_option maxHeartbeats 1000000 in
theorem r02_Cmp_any (neg neg' : Bool) (a a' : Option Addr) (n cap n' cap' : Nat) (z z' : Int) (w : World) (hw : WhIn w neg a n cap z) (hw' : WhIn w neg' a' n' cap' z') (hb : (dig B32 (z - z').natAbs).length ≤ 549755813888) :
    Calls Try.prog 75 #[.agg #[.bool neg, .slice a n cap], .agg #[.bool neg', .slice a' n' cap']] w fun e w' => e = .returned (.int .i64 (sgn (z - z'))) ∧ Ext w w' := by
  have HB := hidP hb
  clear hb
  go_enter Try.func75, Try.ntmps75
  go_wp2_with fail
  refine (r02_Sub_any neg neg' a a' n cap n' cap' z z' _ (hw.ext (((Ext.refl _).alloc _).alloc _)) (hw'.ext (((Ext.refl _).alloc _).alloc _))).mono ?_
  rintro e w1 h1
  obtain ⟨a1, n1, cap1, rfl, hw1, hs1, he1⟩ := h1.whIn HB.out
  have HE : Ext w w1 := (((Ext.refl _).alloc _).alloc _).trans he1
  clear h1 hs1 he1
  generalize decide (z - z' < 0) = nb at *
  go_wp2_with fail
  refine (r02_Sign_any _ a1 n1 cap1 _ _ hw1).mono ?_
  rintro e w2 ⟨rfl, he2⟩
  go_wp2_with fail
  go_ret
  exact ⟨rfl, HE.trans he2⟩

end Go.Proofs.Ytcipcpbjkcpgdaa
