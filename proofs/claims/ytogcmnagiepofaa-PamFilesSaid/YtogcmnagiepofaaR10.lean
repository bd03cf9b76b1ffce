/- Rasters: the law of differences: its walk. -/
import Derived.Test.YtogcmnagiepofaaR9
namespace Go.Proofs.Ytogcmnagiepofaa
set_option linter.unusedVariables false
open Go Go.RowKit

theorem slc_lit (w : World) (q : Col) (e : TypeId) : SlC (w.alloc (.cells #[.int .u8 (q.1 : Int), .int .u8 (q.2.1 : Int), .int .u8 (q.2.2.1 : Int), .int .u8 (q.2.2.2 : Int)] e)) (some ⟨w.heap.size, 0, none⟩) 1 1 [q] := by
  refine ⟨rfl, Nat.le_refl _, by unfold maxLen; omega, fun _ => ⟨_, 0, rfl, fun i u hu => ?_⟩⟩
  match i, hu with
  | 0, hu => simp [cols] at hu; subst hu; go_simp
  | 1, hu => simp [cols] at hu; subst hu; go_simp
  | 2, hu => simp [cols] at hu; subst hu; go_simp
  | 3, hu => simp [cols] at hu; subst hu; go_simp
  | i + 4, hu => simp [cols] at hu
theorem head11 : (natsOf (headS 1 1)).length = 65 := by
  unfold headS
  rw [live_1, natsOf_len]
  rfl
theorem difR_self {x y : Int} {n : Nat} {l : List Col} : (difR x y n l x y n l).2.2 = false := by
  unfold difR
  split
  · rw [if_pos rfl]
  · simp

set_option maxRecDepth 100000 in
set_option maxHeartbeats 4000000 in
theorem pam_lives (w : World) : Calls Try.prog 68 #[] w fun e w' => e = .returned (.bool true) ∧ Ext w w' := by
  have hw : wrL 1 1 1 [(7, 0, 0, 9)] = some (natsOf (headS 1 1) ++ [7, 0, 0, 9]) := rfl
  have hh := head11
  have HW := hidP (fun (u : World) (a : Option Addr) (t : SlC u a 1 1 [(7, 0, 0, 9)]) => p_Write 1 1 a 1 1 [(7, 0, 0, 9)] u t)
  rw [hw] at HW
  generalize natsOf (headS 1 1) = hd at *
  clear hw
  go_enter Try.func68, Try.ntmps68
  go_wp2_with fail
  refine absC (fun x1 hx1 => ?_)
  have hx : Ext w x1 := by rw [hx1]; exact (Ext.refl _).alloc _
  have hl : SlC x1 (some ⟨w.heap.size, 0, none⟩) 1 1 [(7, 0, 0, 9)] := by rw [hx1]; exact slc_lit w (7, 0, 0, 9) _
  clear hx1
  refine (HW.out _ _ hl).mono ?_
  rintro e u1 ⟨a1, n1, c1, rfl, hS, he⟩
  have hn := hS.int_len
  rw [List.length_append, hh] at hn
  have hn2 : n1 = 69 := hn.symm
  subst hn2
  obtain ⟨b, off, rfl, hc⟩ := hS.2.2.2 (by omega)
  have c65 := hc 65 (.int .u8 7) (by rw [ints_append, List.getElem?_append_right (by rw [ints_len]; omega), ints_len, hh]; rfl)
  have c68 := hc 68 (.int .u8 9) (by rw [ints_append, List.getElem?_append_right (by rw [ints_len]; omega), ints_len, hh]; rfl)
  have HX := hx.trans he
  clear hS hc hn hl
  go_wp2_with fail
  go_ret
  exact ⟨rfl, HX⟩

set_option maxRecDepth 100000 in
set_option maxHeartbeats 4000000 in
theorem pamDiffers_any (x y : Int) (a : Option Addr) (n c : Nat) (l : List Col) (x' y' : Int) (a' : Option Addr) (n' c' : Nat) (l' : List Col) (w : World)
    (ix1 : -9223372036854775808 ≤ x) (ix2 : x ≤ 9223372036854775807) (iy1 : -9223372036854775808 ≤ y) (iy2 : y ≤ 9223372036854775807) (h : SlC w a n c l) (hl : ∀ p ∈ l, p.1 ≤ 255 ∧ p.2.1 ≤ 255 ∧ p.2.2.1 ≤ 255 ∧ p.2.2.2 ≤ 255)
    (jx1 : -9223372036854775808 ≤ x') (jx2 : x' ≤ 9223372036854775807) (jy1 : -9223372036854775808 ≤ y') (jy2 : y' ≤ 9223372036854775807) (h' : SlC w a' n' c' l') (hl' : ∀ p ∈ l', p.1 ≤ 255 ∧ p.2.1 ≤ 255 ∧ p.2.2.1 ≤ 255 ∧ p.2.2.2 ≤ 255) :
    Calls Try.prog 11 #[rst x y a n c, rst x' y' a' n' c'] w fun e w' => e = .returned (.bool true) ∧ Ext w w' := by
  have H := hidP h; have H' := hidP h'
  have A1 := hidP (fun (u : World) (t : SlC u a n c l) (t' : SlC u a' n' c' l') => p_Differ x y x' y' a a' n c n' c' l l' u t t')
  have A2 := hidP (fun (u : World) (t : SlC u a n c l) (t' : SlC u a' n' c' l') => d_Differ x y x' y' a a' n c n' c' l l' u t t')
  have A3 := hidP (fun (u : World) (t : SlC u a n c l) => p_Differ x y x y a a n c n c l l u t t)
  have hd := @difR_self x y n l
  generalize difR x y n l x' y' n' l' = r at *
  generalize difR x y n l x y n l = q at *
  obtain ⟨r0, r1, r2⟩ := r
  obtain ⟨q0, q1, q2⟩ := q
  simp only [] at hd
  subst hd
  clear h h' hl hl' ix1 ix2 iy1 iy2 jx1 jx2 jy1 jy2
  go_enter Try.func11, Try.ntmps11
  go_wp2_with fail
  refine absC (fun x1 hx1 => ?_)
  have hx : Ext w x1 := by rw [hx1]; exact (((Ext.refl _).alloc _).alloc _)
  have bs : Bl x1 (w.heap.size) #[.int .i64 x, .int .i64 y, .slice a n c] := by rw [hx1]; exact ((Bl.new (by simp)).alloc (by simp))
  have bt : Bl x1 (w.heap.size + 1) #[.int .i64 x', .int .i64 y', .slice a' n' c'] := by rw [hx1]; exact (Bl.new (by simp))
  have HE := hx
  clear hx
  clear hx1
  refine (A1.out _ (H.out.ext HE) (H'.out.ext HE)).mono ?_
  rintro e u1 ⟨rfl, hx⟩
  replace bs := Bl.ext hx bs (Nat.succ_pos _)
  replace bt := Bl.ext hx bt (Nat.succ_pos _)
  replace HE := HE.trans hx
  clear hx
  go_wp2_with fail
  refine (A2.out _ (H.out.ext HE) (H'.out.ext HE)).mono ?_
  rintro e u2 ⟨rfl, hx⟩
  replace bs := Bl.ext hx bs (Nat.succ_pos _)
  replace bt := Bl.ext hx bt (Nat.succ_pos _)
  replace HE := HE.trans hx
  clear hx
  go_wp2_with fail
  refine (A3.out _ (H.out.ext HE)).mono ?_
  rintro e u3 ⟨rfl, hx⟩
  replace bs := Bl.ext hx bs (Nat.succ_pos _)
  replace bt := Bl.ext hx bt (Nat.succ_pos _)
  replace HE := HE.trans hx
  clear hx
  go_wp2_with fail
  refine (pam_lives _).mono ?_
  rintro e u4 ⟨rfl, hx⟩
  replace bs := Bl.ext hx bs (Nat.succ_pos _)
  replace bt := Bl.ext hx bt (Nat.succ_pos _)
  replace HE := HE.trans hx
  clear hx
  go_wp2_with fail
  go_ret
  exact ⟨rfl, HE⟩

end Go.Proofs.Ytogcmnagiepofaa
