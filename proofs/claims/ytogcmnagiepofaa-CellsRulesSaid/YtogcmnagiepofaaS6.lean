/- Sets of cells: the law of sets: its walk. -/
import Derived.Test.YtogcmnagiepofaaS4
import Derived.Test.YtogcmnagiepofaaS5
namespace Go.Proofs.Ytogcmnagiepofaa
set_option linter.unusedVariables false
set_option linter.unusedSimpArgs false
open Go Go.RowKit


set_option maxRecDepth 100000 in
set_option maxHeartbeats 8000000 in
theorem cells_lives (w : World) : Calls Try.prog 46 #[] w fun e w' => e = .returned (.bool true) ∧ Ext w w' := by
  have HO := hidP (fun u a (t : SlR u a 2 2 [(0, 0, 1), (0, 2, 3)]) => c_Of 3 1 a 2 2 [(0, 0, 1), (0, 2, 3)] u t (by omega) (by omega) (by omega) (by omega) (by
    intro i h
    match i, h with
    | 0, _ => simp
    | 1, _ => simp
    | i + 2, h => exact absurd h (by simp)) (by omega))
  have eF : fills 3 (List.replicate (1 * 3) false) [(0, 0, 1), (0, 2, 3)] = [true, false, true] := by decide
  rw [eF] at HO
  have HC := hidP (fun u a c (t : SlB u a 3 c [true, false, true]) => (by
    have := c_Count 3 1 a 3 c [true, false, true] u t
    rw [show countB 3 1 3 [true, false, true] = 2 by decide] at this
    exact this : Calls Try.prog 53 #[rst 3 1 a 3 c] u fun e w' => e = .returned (.int .i64 2) ∧ Ext u w'))
  have HA := hidP (fun u a c (t : SlB u a 3 c [true, false, true]) => (by
    have := c_Has 3 1 a 3 c [true, false, true] 2 0 u t
    rw [show hasB 3 1 3 [true, false, true] 2 0 = true by decide] at this
    exact this : Calls Try.prog 51 #[rst 3 1 a 3 c, .int .i64 2, .int .i64 0] u fun e w' => e = .returned (.bool true) ∧ Ext u w'))
  have HB := hidP (fun u a c (t : SlB u a 3 c [true, false, true]) => (by
    have := c_Has 3 1 a 3 c [true, false, true] 1 0 u t
    rw [show hasB 3 1 3 [true, false, true] 1 0 = false by decide] at this
    exact this : Calls Try.prog 51 #[rst 3 1 a 3 c, .int .i64 1, .int .i64 0] u fun e w' => e = .returned (.bool false) ∧ Ext u w'))
  go_enter Try.func46, Try.ntmps46
  go_wp2_with fail
  refine absC (fun x1 hx1 => ?_)
  have hx : Ext w x1 := by rw [hx1]; exact ((Ext.refl _).alloc _)
  have bl : Bl x1 (w.heap.size) #[.int .i64 0, .int .i64 0, .int .i64 1, .int .i64 0, .int .i64 2, .int .i64 3] := by rw [hx1]; exact (Bl.new (by simp))
  have HE := hx
  clear hx
  clear hx1
  have hsl : SlR x1 (some ⟨w.heap.size, 0, none⟩) 2 2 [(0, 0, 1), (0, 2, 3)] := ⟨rfl, Nat.le_refl _, by unfold maxLen; omega, fun _ => ⟨_, 0, rfl, fun i u hu => by
    rw [Nat.zero_add, bl i, ← hu]
    match i with
    | 0 => rfl
    | 1 => rfl
    | 2 => rfl
    | 3 => rfl
    | 4 => rfl
    | 5 => rfl
    | i + 6 => simp [runsV]⟩⟩
  refine (HO.out _ _ hsl).mono ?_
  clear hsl
  rintro e u1 ⟨a1, n1, c1, rfl, hs1, hx⟩
  replace hs1 : SlB u1 a1 n1 c1 [true, false, true] := hs1
  obtain rfl : n1 = 3 := hs1.len.symm
  replace bl := Bl.ext hx bl (Nat.succ_pos _)
  replace HE := HE.trans hx
  clear hx
  go_upto_region 2 with fail
  refine absW (fun x2 hx2 => ?_)
  have hx : Ext u1 x2 := by rw [hx2]; exact ((Ext.refl _).alloc _)
  have bc : Bl x2 (u1.heap.size) #[.int .i64 3, .int .i64 1, .slice a1 3 c1] := by rw [hx2]; exact (Bl.new (by simp))
  replace bl := Bl.ext hx bl (Nat.succ_pos _)
  replace hs1 := hs1.ext hx
  replace HE := HE.trans hx
  clear hx
  clear hx2
  go_wp2_with fail
  refine (HC.out _ _ _ hs1).mono ?_
  rintro e u2 ⟨rfl, hx⟩
  replace bl := Bl.ext hx bl (Nat.succ_pos _)
  replace bc := Bl.ext hx bc (Nat.succ_pos _)
  replace hs1 := hs1.ext hx
  replace HE := HE.trans hx
  clear hx
  go_wp2_with fail
  refine (HA.out _ _ _ hs1).mono ?_
  rintro e u3 ⟨rfl, hx⟩
  replace bl := Bl.ext hx bl (Nat.succ_pos _)
  replace bc := Bl.ext hx bc (Nat.succ_pos _)
  replace hs1 := hs1.ext hx
  replace HE := HE.trans hx
  clear hx
  go_wp2_with fail
  refine (HB.out _ _ _ hs1).mono ?_
  rintro e u4 ⟨rfl, hx⟩
  replace bl := Bl.ext hx bl (Nat.succ_pos _)
  replace bc := Bl.ext hx bc (Nat.succ_pos _)
  replace hs1 := hs1.ext hx
  replace HE := HE.trans hx
  clear hx
  go_wp2_with fail
  go_ret
  exact ⟨rfl, HE⟩

set_option maxRecDepth 100000 in
set_option maxHeartbeats 8000000 in
theorem cellsSets_any (x y : Int) (a : Option Addr) (n c : Nat) (l : List Bool) (x' y' : Int) (a' : Option Addr) (n' c' : Nat) (l' : List Bool) (w : World) (ix1 : -9223372036854775808 ≤ x) (ix2 : x ≤ 9223372036854775807) (iy1 : -9223372036854775808 ≤ y) (iy2 : y ≤ 9223372036854775807) (h : SlB w a n c l) (jx1 : -9223372036854775808 ≤ x') (jx2 : x' ≤ 9223372036854775807) (jy1 : -9223372036854775808 ≤ y') (jy2 : y' ≤ 9223372036854775807) (h' : SlB w a' n' c' l') :
    Calls Try.prog 7 #[rst x y a n c, rst x' y' a' n' c'] w fun e w' => e = .returned (.bool true) ∧ Ext w w' := by
  have H := hidP h; have H' := hidP h'
  clear h h' ix1 ix2 iy1 iy2 jx1 jx2 jy1 jy2
  have A1 := hidP (fun (u : World) (t : SlB u a n c l) (t' : SlB u a' n' c' l') => c_Both x y x' y' a a' n c n' c' l l' u t t')
  have A2 := hidP (fun (u : World) (t : SlB u a n c l) (t' : SlB u a' n' c' l') => e_Two0 x y x' y' a a' n c n' c' l l' u t t')
  have A3 := hidP (fun (u : World) (t : SlB u a n c l) (t' : SlB u a' n' c' l') => c_Either x y x' y' a a' n c n' c' l l' u t t')
  have A4 := hidP (fun (u : World) (t : SlB u a n c l) (t' : SlB u a' n' c' l') => e_Two1 x y x' y' a a' n c n' c' l l' u t t')
  have A5 := hidP (fun (u : World) (t : SlB u a n c l) (t' : SlB u a' n' c' l') => c_Without x y x' y' a a' n c n' c' l l' u t t')
  have A6 := hidP (fun (u : World) (t : SlB u a n c l) (t' : SlB u a' n' c' l') => e_Two2 x y x' y' a a' n c n' c' l l' u t t')
  have A7 := hidP (fun (u : World) (t : SlB u a n c l) => c_Flip x y a n c l u t)
  have A8 := hidP (fun (u : World) (t : SlB u a n c l) => e_Flip x y a n c l u t)
  have A9 := hidP (fun (u : World) => c_May x y a n c u)
  have A10 := hidP (fun (u : World) => e_May x y a n c u)
  have A11 := hidP (fun (u : World) (t : SlB u a n c l) (t' : SlB u a' n' c' l') => c_Same x y x' y' a a' n c n' c' l l' u t t')
  have A12 := hidP (fun (u : World) (t : SlB u a n c l) (t' : SlB u a' n' c' l') => e_Same x y x' y' a a' n c n' c' l l' u t t')
  have S1 := hidP (fun (u : World) (x y : Int) (a a' : Option Addr) (n c n' c' : Nat) (l : List Bool) (t : SlB u a n c l) (t' : SlB u a' n' c' l) => (by
    have := e_Same x y x y a a' n c n' c' l l u t t'
    rw [show decide (x = x ∧ y = y ∧ l = l) = true by simp] at this
    exact this : Calls Try.prog 38 #[rst x y a n c, rst x y a' n' c'] u fun e w' => e = .returned (.bool true) ∧ Ext u w'))
  generalize twoB (fun p q => p && q) x y n l x' y' n' l' = r at *
  generalize twoB (fun p q => p || q) x y n l x' y' n' l' = s at *
  generalize twoB (fun p q => p && !q) x y n l x' y' n' l' = t at *
  generalize flipB x y n l = v at *
  generalize mayR x y n = mm at *
  generalize decide (x = x' ∧ y = y' ∧ l = l') = dd at *
  obtain ⟨⟨r0, r1, r2⟩, r3⟩ := r
  obtain ⟨⟨s0, s1, s2⟩, s3⟩ := s
  obtain ⟨⟨t0, t1, t2⟩, t3⟩ := t
  obtain ⟨⟨v0, v1, v2⟩, v3⟩ := v
  go_enter Try.func7, Try.ntmps7
  go_wp2_with fail
  refine absC (fun x1 hx1 => ?_)
  have hx : Ext w x1 := by rw [hx1]; exact (((Ext.refl _).alloc _).alloc _)
  have bp : Bl x1 (w.heap.size) #[.int .i64 x, .int .i64 y, .slice a n c] := by rw [hx1]; exact ((Bl.new (by simp)).alloc (by simp))
  have bq : Bl x1 (w.heap.size + 1) #[.int .i64 x', .int .i64 y', .slice a' n' c'] := by rw [hx1]; exact (Bl.new (by simp))
  have HE := hx
  clear hx
  clear hx1
  refine (A1.out _ (H.out.ext HE) (H'.out.ext HE)).mono ?_
  rintro e u1 ⟨a1, n1, c1, rfl, hs1, hx⟩
  replace bp := Bl.ext hx bp (Nat.succ_pos _)
  replace bq := Bl.ext hx bq (Nat.succ_pos _)
  replace HE := HE.trans hx
  clear hx
  replace hs1 : SlB u1 a1 n1 c1 r2 := hs1
  go_upto_region 2 with fail
  have lga := bq.lt (Nat.succ_pos _)
  refine absW (fun x2 hx2 => ?_)
  have hx : Ext u1 x2 := by rw [hx2]; exact ((Ext.refl _).alloc _)
  have ba : Bl x2 (u1.heap.size) #[.int .i64 r0, .int .i64 r1, .slice a1 n1 c1] := by rw [hx2]; exact (Bl.new (by simp))
  have fa : Fz x2 (u1.heap.size) := by rw [hx2]; exact (Fz.new (by simp))
  replace bp := Bl.ext hx bp (Nat.succ_pos _)
  replace bq := Bl.ext hx bq (Nat.succ_pos _)
  replace hs1 := hs1.ext hx
  replace HE := HE.trans hx
  clear hx
  clear hx2
  generalize u1.heap.size = ga at *
  go_wp2_with fail
  refine (A2.out _ (H.out.ext HE) (H'.out.ext HE)).mono ?_
  rintro e u2 ⟨a2, n2, c2, rfl, hs2, hx⟩
  replace bp := Bl.ext hx bp (Nat.succ_pos _)
  replace bq := Bl.ext hx bq (Nat.succ_pos _)
  replace fa := Fz.ext hx fa ba (Nat.succ_pos _)
  replace ba := Bl.ext hx ba (Nat.succ_pos _)
  replace hs1 := hs1.ext hx
  replace HE := HE.trans hx
  clear hx
  replace hs2 : SlB u2 a2 n2 c2 r2 := hs2
  go_upto_region 3 with fail
  have lgb := bq.lt (Nat.succ_pos _)
  have lgab := ba.lt (Nat.succ_pos _)
  refine absW (fun x3 hx3 => ?_)
  have hx : Ext u2 x3 := by rw [hx3]; exact ((Ext.refl _).alloc _)
  have bb : Bl x3 (u2.heap.size) #[.int .i64 r0, .int .i64 r1, .slice a2 n2 c2] := by rw [hx3]; exact (Bl.new (by simp))
  have fb : Fz x3 (u2.heap.size) := by rw [hx3]; exact (Fz.new (by simp))
  replace bp := Bl.ext hx bp (Nat.succ_pos _)
  replace bq := Bl.ext hx bq (Nat.succ_pos _)
  replace fa := Fz.ext hx fa ba (Nat.succ_pos _)
  replace ba := Bl.ext hx ba (Nat.succ_pos _)
  replace hs1 := hs1.ext hx
  replace hs2 := hs2.ext hx
  replace HE := HE.trans hx
  clear hx
  clear hx3
  generalize u2.heap.size = gb at *
  go_wp2_with fail
  refine (S1.out _ r0 r1 _ _ _ _ _ _ _ hs1 hs2).mono ?_
  rintro e u3 ⟨rfl, hx⟩
  replace bp := Bl.ext hx bp (Nat.succ_pos _)
  replace bq := Bl.ext hx bq (Nat.succ_pos _)
  replace fa := Fz.ext hx fa ba (Nat.succ_pos _)
  replace ba := Bl.ext hx ba (Nat.succ_pos _)
  replace fb := Fz.ext hx fb bb (Nat.succ_pos _)
  replace bb := Bl.ext hx bb (Nat.succ_pos _)
  replace hs1 := hs1.ext hx
  replace hs2 := hs2.ext hx
  replace HE := HE.trans hx
  clear hx
  go_wp2_with fail
  refine (A3.out _ (H.out.ext HE) (H'.out.ext HE)).mono ?_
  rintro e u4 ⟨a4, n4, c4, rfl, hs4, hx⟩
  replace bp := Bl.ext hx bp (Nat.succ_pos _)
  replace bq := Bl.ext hx bq (Nat.succ_pos _)
  replace fa := Fz.ext hx fa ba (Nat.succ_pos _)
  replace ba := Bl.ext hx ba (Nat.succ_pos _)
  replace fb := Fz.ext hx fb bb (Nat.succ_pos _)
  replace bb := Bl.ext hx bb (Nat.succ_pos _)
  replace hs1 := hs1.ext hx
  replace hs2 := hs2.ext hx
  replace HE := HE.trans hx
  clear hx
  replace hs4 : SlB u4 a4 n4 c4 s2 := hs4
  go_upto_region 6 with fail
  refine absW (fun x4 hx4 => ?_)
  have hbut : But u4 x4 (ga) := by rw [hx4]; exact ((But.refl _ _).store.store.store)
  have hbn : Bl x4 (ga) #[.int .i64 s0, .int .i64 s1, .slice a4 n4 c4] := by rw [hx4]; exact (((ba.set (by simp)).set (by simp)).set (by simp))
  have hfn : Fz x4 (ga) := by rw [hx4]; exact fa.set.set.set
  replace hs1 := SlB.but hs1 ba not_bools hbut
  replace hs2 := SlB.but hs2 ba not_bools hbut
  replace hs4 := SlB.but hs4 ba not_bools hbut
  replace bp := hbut.bl bp (Nat.succ_pos _) (by omega)
  replace bq := hbut.bl bq (Nat.succ_pos _) (by omega)
  replace fb := hbut.fz fb bb (Nat.succ_pos _) (by omega)
  replace bb := hbut.bl bb (Nat.succ_pos _) (by omega)
  replace HE : Ext w x4 := by rw [hx4]; exact ((HE.store (by show w.heap.size ≤ ga; omega) _).store (by show w.heap.size ≤ ga; omega) _).store (by show w.heap.size ≤ ga; omega) _
  clear ba fa hbut hx4
  have ba := hbn; have fa := hfn
  clear hbn hfn
  go_wp2_with fail
  refine (A4.out _ (H.out.ext HE) (H'.out.ext HE)).mono ?_
  rintro e u5 ⟨a5, n5, c5, rfl, hs5, hx⟩
  replace bp := Bl.ext hx bp (Nat.succ_pos _)
  replace bq := Bl.ext hx bq (Nat.succ_pos _)
  replace fa := Fz.ext hx fa ba (Nat.succ_pos _)
  replace ba := Bl.ext hx ba (Nat.succ_pos _)
  replace fb := Fz.ext hx fb bb (Nat.succ_pos _)
  replace bb := Bl.ext hx bb (Nat.succ_pos _)
  replace hs1 := hs1.ext hx
  replace hs2 := hs2.ext hx
  replace hs4 := hs4.ext hx
  replace HE := HE.trans hx
  clear hx
  replace hs5 : SlB u5 a5 n5 c5 s2 := hs5
  go_upto_region 7 with fail
  refine absW (fun x5 hx5 => ?_)
  have hbut : But u5 x5 (gb) := by rw [hx5]; exact ((But.refl _ _).store.store.store)
  have hbn : Bl x5 (gb) #[.int .i64 s0, .int .i64 s1, .slice a5 n5 c5] := by rw [hx5]; exact (((bb.set (by simp)).set (by simp)).set (by simp))
  have hfn : Fz x5 (gb) := by rw [hx5]; exact fb.set.set.set
  replace hs1 := SlB.but hs1 bb not_bools hbut
  replace hs2 := SlB.but hs2 bb not_bools hbut
  replace hs4 := SlB.but hs4 bb not_bools hbut
  replace hs5 := SlB.but hs5 bb not_bools hbut
  replace bp := hbut.bl bp (Nat.succ_pos _) (by omega)
  replace bq := hbut.bl bq (Nat.succ_pos _) (by omega)
  replace fa := hbut.fz fa ba (Nat.succ_pos _) (by omega)
  replace ba := hbut.bl ba (Nat.succ_pos _) (by omega)
  replace HE : Ext w x5 := by rw [hx5]; exact ((HE.store (by show w.heap.size ≤ gb; omega) _).store (by show w.heap.size ≤ gb; omega) _).store (by show w.heap.size ≤ gb; omega) _
  clear bb fb hbut hx5
  have bb := hbn; have fb := hfn
  clear hbn hfn
  go_wp2_with fail
  refine (S1.out _ s0 s1 _ _ _ _ _ _ _ hs4 hs5).mono ?_
  rintro e u6 ⟨rfl, hx⟩
  replace bp := Bl.ext hx bp (Nat.succ_pos _)
  replace bq := Bl.ext hx bq (Nat.succ_pos _)
  replace fa := Fz.ext hx fa ba (Nat.succ_pos _)
  replace ba := Bl.ext hx ba (Nat.succ_pos _)
  replace fb := Fz.ext hx fb bb (Nat.succ_pos _)
  replace bb := Bl.ext hx bb (Nat.succ_pos _)
  replace hs1 := hs1.ext hx
  replace hs2 := hs2.ext hx
  replace hs4 := hs4.ext hx
  replace hs5 := hs5.ext hx
  replace HE := HE.trans hx
  clear hx
  go_wp2_with fail
  refine (A5.out _ (H.out.ext HE) (H'.out.ext HE)).mono ?_
  rintro e u7 ⟨a7, n7, c7, rfl, hs7, hx⟩
  replace bp := Bl.ext hx bp (Nat.succ_pos _)
  replace bq := Bl.ext hx bq (Nat.succ_pos _)
  replace fa := Fz.ext hx fa ba (Nat.succ_pos _)
  replace ba := Bl.ext hx ba (Nat.succ_pos _)
  replace fb := Fz.ext hx fb bb (Nat.succ_pos _)
  replace bb := Bl.ext hx bb (Nat.succ_pos _)
  replace hs1 := hs1.ext hx
  replace hs2 := hs2.ext hx
  replace hs4 := hs4.ext hx
  replace hs5 := hs5.ext hx
  replace HE := HE.trans hx
  clear hx
  replace hs7 : SlB u7 a7 n7 c7 t2 := hs7
  go_upto_region 10 with fail
  refine absW (fun x6 hx6 => ?_)
  have hbut : But u7 x6 (ga) := by rw [hx6]; exact ((But.refl _ _).store.store.store)
  have hbn : Bl x6 (ga) #[.int .i64 t0, .int .i64 t1, .slice a7 n7 c7] := by rw [hx6]; exact (((ba.set (by simp)).set (by simp)).set (by simp))
  have hfn : Fz x6 (ga) := by rw [hx6]; exact fa.set.set.set
  replace hs1 := SlB.but hs1 ba not_bools hbut
  replace hs2 := SlB.but hs2 ba not_bools hbut
  replace hs4 := SlB.but hs4 ba not_bools hbut
  replace hs5 := SlB.but hs5 ba not_bools hbut
  replace hs7 := SlB.but hs7 ba not_bools hbut
  replace bp := hbut.bl bp (Nat.succ_pos _) (by omega)
  replace bq := hbut.bl bq (Nat.succ_pos _) (by omega)
  replace fb := hbut.fz fb bb (Nat.succ_pos _) (by omega)
  replace bb := hbut.bl bb (Nat.succ_pos _) (by omega)
  replace HE : Ext w x6 := by rw [hx6]; exact ((HE.store (by show w.heap.size ≤ ga; omega) _).store (by show w.heap.size ≤ ga; omega) _).store (by show w.heap.size ≤ ga; omega) _
  clear ba fa hbut hx6
  have ba := hbn; have fa := hfn
  clear hbn hfn
  go_wp2_with fail
  refine (A6.out _ (H.out.ext HE) (H'.out.ext HE)).mono ?_
  rintro e u8 ⟨a8, n8, c8, rfl, hs8, hx⟩
  replace bp := Bl.ext hx bp (Nat.succ_pos _)
  replace bq := Bl.ext hx bq (Nat.succ_pos _)
  replace fa := Fz.ext hx fa ba (Nat.succ_pos _)
  replace ba := Bl.ext hx ba (Nat.succ_pos _)
  replace fb := Fz.ext hx fb bb (Nat.succ_pos _)
  replace bb := Bl.ext hx bb (Nat.succ_pos _)
  replace hs1 := hs1.ext hx
  replace hs2 := hs2.ext hx
  replace hs4 := hs4.ext hx
  replace hs5 := hs5.ext hx
  replace hs7 := hs7.ext hx
  replace HE := HE.trans hx
  clear hx
  replace hs8 : SlB u8 a8 n8 c8 t2 := hs8
  go_upto_region 11 with fail
  refine absW (fun x7 hx7 => ?_)
  have hbut : But u8 x7 (gb) := by rw [hx7]; exact ((But.refl _ _).store.store.store)
  have hbn : Bl x7 (gb) #[.int .i64 t0, .int .i64 t1, .slice a8 n8 c8] := by rw [hx7]; exact (((bb.set (by simp)).set (by simp)).set (by simp))
  have hfn : Fz x7 (gb) := by rw [hx7]; exact fb.set.set.set
  replace hs1 := SlB.but hs1 bb not_bools hbut
  replace hs2 := SlB.but hs2 bb not_bools hbut
  replace hs4 := SlB.but hs4 bb not_bools hbut
  replace hs5 := SlB.but hs5 bb not_bools hbut
  replace hs7 := SlB.but hs7 bb not_bools hbut
  replace hs8 := SlB.but hs8 bb not_bools hbut
  replace bp := hbut.bl bp (Nat.succ_pos _) (by omega)
  replace bq := hbut.bl bq (Nat.succ_pos _) (by omega)
  replace fa := hbut.fz fa ba (Nat.succ_pos _) (by omega)
  replace ba := hbut.bl ba (Nat.succ_pos _) (by omega)
  replace HE : Ext w x7 := by rw [hx7]; exact ((HE.store (by show w.heap.size ≤ gb; omega) _).store (by show w.heap.size ≤ gb; omega) _).store (by show w.heap.size ≤ gb; omega) _
  clear bb fb hbut hx7
  have bb := hbn; have fb := hfn
  clear hbn hfn
  go_wp2_with fail
  refine (A7.out _ (H.out.ext HE)).mono ?_
  rintro e u9 ⟨a9, n9, c9, rfl, hs9, hx⟩
  replace bp := Bl.ext hx bp (Nat.succ_pos _)
  replace bq := Bl.ext hx bq (Nat.succ_pos _)
  replace fa := Fz.ext hx fa ba (Nat.succ_pos _)
  replace ba := Bl.ext hx ba (Nat.succ_pos _)
  replace fb := Fz.ext hx fb bb (Nat.succ_pos _)
  replace bb := Bl.ext hx bb (Nat.succ_pos _)
  replace hs1 := hs1.ext hx
  replace hs2 := hs2.ext hx
  replace hs4 := hs4.ext hx
  replace hs5 := hs5.ext hx
  replace hs7 := hs7.ext hx
  replace hs8 := hs8.ext hx
  replace HE := HE.trans hx
  clear hx
  replace hs9 : SlB u9 a9 n9 c9 v2 := hs9
  go_upto_region 12 with fail
  refine absW (fun x8 hx8 => ?_)
  have hx : Ext u9 x8 := by rw [hx8]; exact ((Ext.refl _).alloc _)
  have bd : Bl x8 (u9.heap.size) #[.int .i64 v0, .int .i64 v1, .slice a9 n9 c9] := by rw [hx8]; exact (Bl.new (by simp))
  replace bp := Bl.ext hx bp (Nat.succ_pos _)
  replace bq := Bl.ext hx bq (Nat.succ_pos _)
  replace fa := Fz.ext hx fa ba (Nat.succ_pos _)
  replace ba := Bl.ext hx ba (Nat.succ_pos _)
  replace fb := Fz.ext hx fb bb (Nat.succ_pos _)
  replace bb := Bl.ext hx bb (Nat.succ_pos _)
  replace hs1 := hs1.ext hx
  replace hs2 := hs2.ext hx
  replace hs4 := hs4.ext hx
  replace hs5 := hs5.ext hx
  replace hs7 := hs7.ext hx
  replace hs8 := hs8.ext hx
  replace hs9 := hs9.ext hx
  replace HE := HE.trans hx
  clear hx
  clear hx8
  go_wp2_with fail
  refine (A8.out _ (H.out.ext HE)).mono ?_
  rintro e u10 ⟨a10, n10, c10, rfl, hs10, hx⟩
  replace bp := Bl.ext hx bp (Nat.succ_pos _)
  replace bq := Bl.ext hx bq (Nat.succ_pos _)
  replace fa := Fz.ext hx fa ba (Nat.succ_pos _)
  replace ba := Bl.ext hx ba (Nat.succ_pos _)
  replace fb := Fz.ext hx fb bb (Nat.succ_pos _)
  replace bb := Bl.ext hx bb (Nat.succ_pos _)
  replace bd := Bl.ext hx bd (Nat.succ_pos _)
  replace hs1 := hs1.ext hx
  replace hs2 := hs2.ext hx
  replace hs4 := hs4.ext hx
  replace hs5 := hs5.ext hx
  replace hs7 := hs7.ext hx
  replace hs8 := hs8.ext hx
  replace hs9 := hs9.ext hx
  replace HE := HE.trans hx
  clear hx
  replace hs10 : SlB u10 a10 n10 c10 v2 := hs10
  go_upto_region 13 with fail
  refine absW (fun x9 hx9 => ?_)
  have hx : Ext u10 x9 := by rw [hx9]; exact ((Ext.refl _).alloc _)
  have be : Bl x9 (u10.heap.size) #[.int .i64 v0, .int .i64 v1, .slice a10 n10 c10] := by rw [hx9]; exact (Bl.new (by simp))
  replace bp := Bl.ext hx bp (Nat.succ_pos _)
  replace bq := Bl.ext hx bq (Nat.succ_pos _)
  replace fa := Fz.ext hx fa ba (Nat.succ_pos _)
  replace ba := Bl.ext hx ba (Nat.succ_pos _)
  replace fb := Fz.ext hx fb bb (Nat.succ_pos _)
  replace bb := Bl.ext hx bb (Nat.succ_pos _)
  replace bd := Bl.ext hx bd (Nat.succ_pos _)
  replace hs1 := hs1.ext hx
  replace hs2 := hs2.ext hx
  replace hs4 := hs4.ext hx
  replace hs5 := hs5.ext hx
  replace hs7 := hs7.ext hx
  replace hs8 := hs8.ext hx
  replace hs9 := hs9.ext hx
  replace hs10 := hs10.ext hx
  replace HE := HE.trans hx
  clear hx
  clear hx9
  refine wp_region_plan (R := Ext) (.q 0 (.q 1 (.l 2 (.q 3 (.q 4 (.q 5 (.q 6 (.q 7 (.q 8 (.q 9 (.q 10 (.l 11 (.q 12 (.q 13 (.q 14 (.q 15 (.q 16 (.q 17 (.q 18 (.q 19 (.q 21 (.l 20 (.l 22 (.q 23 (.q 24 (.q 25 (.q 26 (.q 27 (.q 29 (.q 30 (.l 28 (.l 31 (.q 32 (.q 33 (.q 34 (.l 35 (.q 36 (.q 37 .done)))))))))))))))))))))))))))))))))))))) (by kernel_rfl) (by kernel_rfl) (by kernel_rfl) (by kernel_rfl) Ext.refl (fun _ _ _ => Ext.trans) ?_
  refine absE (fun x10 hx10 => ?_)
  have hx : Ext x9 x10 := by rw [hx10]; exact (Ext.refl _).drew
  replace bp := Bl.ext hx bp (Nat.succ_pos _)
  replace bq := Bl.ext hx bq (Nat.succ_pos _)
  replace fa := Fz.ext hx fa ba (Nat.succ_pos _)
  replace ba := Bl.ext hx ba (Nat.succ_pos _)
  replace fb := Fz.ext hx fb bb (Nat.succ_pos _)
  replace bb := Bl.ext hx bb (Nat.succ_pos _)
  replace bd := Bl.ext hx bd (Nat.succ_pos _)
  replace be := Bl.ext hx be (Nat.succ_pos _)
  replace hs1 := hs1.ext hx
  replace hs2 := hs2.ext hx
  replace hs4 := hs4.ext hx
  replace hs5 := hs5.ext hx
  replace hs7 := hs7.ext hx
  replace hs8 := hs8.ext hx
  replace hs9 := hs9.ext hx
  replace hs10 := hs10.ext hx
  replace HE := HE.trans hx
  clear hx
  clear hx10
  repeat (refine wpE_q (v := ?_) rfl rfl (fun u hu => ?_) ?_; rotate_left 1; (focus (have kp := Bl.ext hu bp (Nat.succ_pos _); have kq := Bl.ext hu bq (Nat.succ_pos _); have ka := Bl.ext hu ba (Nat.succ_pos _); have kb := Bl.ext hu bb (Nat.succ_pos _); have kd := Bl.ext hu bd (Nat.succ_pos _); have ke := Bl.ext hu be (Nat.succ_pos _); go_simp; (try rfl))); simp only [Act.put, List.setIfInBounds_toArray, List.set_cons_zero, List.set_cons_succ])
  refine wpE_l rfl rfl (fun K hK => ?_)
  go_simp
  refine (S1.out _ t0 t1 _ _ _ _ _ _ _ hs7 hs8).mono ?_
  rintro e u11 ⟨rfl, hx⟩
  refine hK.out _ _ hx ?_
  clear hK K
  try simp only [Act.put, List.setIfInBounds_toArray, List.set_cons_zero, List.set_cons_succ]
  replace bp := Bl.ext hx bp (Nat.succ_pos _)
  replace bq := Bl.ext hx bq (Nat.succ_pos _)
  replace fa := Fz.ext hx fa ba (Nat.succ_pos _)
  replace ba := Bl.ext hx ba (Nat.succ_pos _)
  replace fb := Fz.ext hx fb bb (Nat.succ_pos _)
  replace bb := Bl.ext hx bb (Nat.succ_pos _)
  replace bd := Bl.ext hx bd (Nat.succ_pos _)
  replace be := Bl.ext hx be (Nat.succ_pos _)
  replace hs1 := hs1.ext hx
  replace hs2 := hs2.ext hx
  replace hs4 := hs4.ext hx
  replace hs5 := hs5.ext hx
  replace hs7 := hs7.ext hx
  replace hs8 := hs8.ext hx
  replace hs9 := hs9.ext hx
  replace hs10 := hs10.ext hx
  replace HE := HE.trans hx
  clear hx
  repeat (refine wpE_q (v := ?_) rfl rfl (fun u hu => ?_) ?_; rotate_left 1; (focus (have kp := Bl.ext hu bp (Nat.succ_pos _); have kq := Bl.ext hu bq (Nat.succ_pos _); have ka := Bl.ext hu ba (Nat.succ_pos _); have kb := Bl.ext hu bb (Nat.succ_pos _); have kd := Bl.ext hu bd (Nat.succ_pos _); have ke := Bl.ext hu be (Nat.succ_pos _); go_simp; (try rfl))); simp only [Act.put, List.setIfInBounds_toArray, List.set_cons_zero, List.set_cons_succ])
  refine wpE_l rfl rfl (fun K hK => ?_)
  go_simp
  refine (S1.out _ v0 v1 _ _ _ _ _ _ _ hs9 hs10).mono ?_
  rintro e u12 ⟨rfl, hx⟩
  refine hK.out _ _ hx ?_
  clear hK K
  try simp only [Act.put, List.setIfInBounds_toArray, List.set_cons_zero, List.set_cons_succ]
  replace bp := Bl.ext hx bp (Nat.succ_pos _)
  replace bq := Bl.ext hx bq (Nat.succ_pos _)
  replace fa := Fz.ext hx fa ba (Nat.succ_pos _)
  replace ba := Bl.ext hx ba (Nat.succ_pos _)
  replace fb := Fz.ext hx fb bb (Nat.succ_pos _)
  replace bb := Bl.ext hx bb (Nat.succ_pos _)
  replace bd := Bl.ext hx bd (Nat.succ_pos _)
  replace be := Bl.ext hx be (Nat.succ_pos _)
  replace hs1 := hs1.ext hx
  replace hs2 := hs2.ext hx
  replace hs4 := hs4.ext hx
  replace hs5 := hs5.ext hx
  replace hs7 := hs7.ext hx
  replace hs8 := hs8.ext hx
  replace hs9 := hs9.ext hx
  replace hs10 := hs10.ext hx
  replace HE := HE.trans hx
  clear hx
  repeat (refine wpE_q (v := ?_) rfl rfl (fun u hu => ?_) ?_; rotate_left 1; (focus (have kp := Bl.ext hu bp (Nat.succ_pos _); have kq := Bl.ext hu bq (Nat.succ_pos _); have ka := Bl.ext hu ba (Nat.succ_pos _); have kb := Bl.ext hu bb (Nat.succ_pos _); have kd := Bl.ext hu bd (Nat.succ_pos _); have ke := Bl.ext hu be (Nat.succ_pos _); go_simp; (try rfl))); simp only [Act.put, List.setIfInBounds_toArray, List.set_cons_zero, List.set_cons_succ])
  refine wpE_l rfl rfl (fun K hK => ?_)
  go_simp
  refine (A9.out _).mono ?_
  rintro e u13 ⟨rfl, hx⟩
  refine hK.out _ _ hx ?_
  clear hK K
  try simp only [Act.put, List.setIfInBounds_toArray, List.set_cons_zero, List.set_cons_succ]
  replace bp := Bl.ext hx bp (Nat.succ_pos _)
  replace bq := Bl.ext hx bq (Nat.succ_pos _)
  replace fa := Fz.ext hx fa ba (Nat.succ_pos _)
  replace ba := Bl.ext hx ba (Nat.succ_pos _)
  replace fb := Fz.ext hx fb bb (Nat.succ_pos _)
  replace bb := Bl.ext hx bb (Nat.succ_pos _)
  replace bd := Bl.ext hx bd (Nat.succ_pos _)
  replace be := Bl.ext hx be (Nat.succ_pos _)
  replace hs1 := hs1.ext hx
  replace hs2 := hs2.ext hx
  replace hs4 := hs4.ext hx
  replace hs5 := hs5.ext hx
  replace hs7 := hs7.ext hx
  replace hs8 := hs8.ext hx
  replace hs9 := hs9.ext hx
  replace hs10 := hs10.ext hx
  replace HE := HE.trans hx
  clear hx
  refine wpE_l rfl rfl (fun K hK => ?_)
  go_simp
  refine (A10.out _).mono ?_
  rintro e u14 ⟨rfl, hx⟩
  refine hK.out _ _ hx ?_
  clear hK K
  try simp only [Act.put, List.setIfInBounds_toArray, List.set_cons_zero, List.set_cons_succ]
  replace bp := Bl.ext hx bp (Nat.succ_pos _)
  replace bq := Bl.ext hx bq (Nat.succ_pos _)
  replace fa := Fz.ext hx fa ba (Nat.succ_pos _)
  replace ba := Bl.ext hx ba (Nat.succ_pos _)
  replace fb := Fz.ext hx fb bb (Nat.succ_pos _)
  replace bb := Bl.ext hx bb (Nat.succ_pos _)
  replace bd := Bl.ext hx bd (Nat.succ_pos _)
  replace be := Bl.ext hx be (Nat.succ_pos _)
  replace hs1 := hs1.ext hx
  replace hs2 := hs2.ext hx
  replace hs4 := hs4.ext hx
  replace hs5 := hs5.ext hx
  replace hs7 := hs7.ext hx
  replace hs8 := hs8.ext hx
  replace hs9 := hs9.ext hx
  replace hs10 := hs10.ext hx
  replace HE := HE.trans hx
  clear hx
  repeat (refine wpE_q (v := ?_) rfl rfl (fun u hu => ?_) ?_; rotate_left 1; (focus (have kp := Bl.ext hu bp (Nat.succ_pos _); have kq := Bl.ext hu bq (Nat.succ_pos _); have ka := Bl.ext hu ba (Nat.succ_pos _); have kb := Bl.ext hu bb (Nat.succ_pos _); have kd := Bl.ext hu bd (Nat.succ_pos _); have ke := Bl.ext hu be (Nat.succ_pos _); go_simp; (try rfl))); simp only [Act.put, List.setIfInBounds_toArray, List.set_cons_zero, List.set_cons_succ])
  refine wpE_l rfl rfl (fun K hK => ?_)
  go_simp
  refine (A11.out _ (H.out.ext HE) (H'.out.ext HE)).mono ?_
  rintro e u15 ⟨rfl, hx⟩
  refine hK.out _ _ hx ?_
  clear hK K
  try simp only [Act.put, List.setIfInBounds_toArray, List.set_cons_zero, List.set_cons_succ]
  replace bp := Bl.ext hx bp (Nat.succ_pos _)
  replace bq := Bl.ext hx bq (Nat.succ_pos _)
  replace fa := Fz.ext hx fa ba (Nat.succ_pos _)
  replace ba := Bl.ext hx ba (Nat.succ_pos _)
  replace fb := Fz.ext hx fb bb (Nat.succ_pos _)
  replace bb := Bl.ext hx bb (Nat.succ_pos _)
  replace bd := Bl.ext hx bd (Nat.succ_pos _)
  replace be := Bl.ext hx be (Nat.succ_pos _)
  replace hs1 := hs1.ext hx
  replace hs2 := hs2.ext hx
  replace hs4 := hs4.ext hx
  replace hs5 := hs5.ext hx
  replace hs7 := hs7.ext hx
  replace hs8 := hs8.ext hx
  replace hs9 := hs9.ext hx
  replace hs10 := hs10.ext hx
  replace HE := HE.trans hx
  clear hx
  refine wpE_l rfl rfl (fun K hK => ?_)
  go_simp
  refine (A12.out _ (H.out.ext HE) (H'.out.ext HE)).mono ?_
  rintro e u16 ⟨rfl, hx⟩
  refine hK.out _ _ hx ?_
  clear hK K
  try simp only [Act.put, List.setIfInBounds_toArray, List.set_cons_zero, List.set_cons_succ]
  replace bp := Bl.ext hx bp (Nat.succ_pos _)
  replace bq := Bl.ext hx bq (Nat.succ_pos _)
  replace fa := Fz.ext hx fa ba (Nat.succ_pos _)
  replace ba := Bl.ext hx ba (Nat.succ_pos _)
  replace fb := Fz.ext hx fb bb (Nat.succ_pos _)
  replace bb := Bl.ext hx bb (Nat.succ_pos _)
  replace bd := Bl.ext hx bd (Nat.succ_pos _)
  replace be := Bl.ext hx be (Nat.succ_pos _)
  replace hs1 := hs1.ext hx
  replace hs2 := hs2.ext hx
  replace hs4 := hs4.ext hx
  replace hs5 := hs5.ext hx
  replace hs7 := hs7.ext hx
  replace hs8 := hs8.ext hx
  replace hs9 := hs9.ext hx
  replace hs10 := hs10.ext hx
  replace HE := HE.trans hx
  clear hx
  repeat (refine wpE_q (v := ?_) rfl rfl (fun u hu => ?_) ?_; rotate_left 1; (focus (have kp := Bl.ext hu bp (Nat.succ_pos _); have kq := Bl.ext hu bq (Nat.succ_pos _); have ka := Bl.ext hu ba (Nat.succ_pos _); have kb := Bl.ext hu bb (Nat.succ_pos _); have kd := Bl.ext hu bd (Nat.succ_pos _); have ke := Bl.ext hu be (Nat.succ_pos _); go_simp; (try rfl))); simp only [Act.put, List.setIfInBounds_toArray, List.set_cons_zero, List.set_cons_succ])
  refine wpE_l rfl rfl (fun K hK => ?_)
  go_simp
  refine (cells_lives _).mono ?_
  rintro e u17 ⟨rfl, hx⟩
  refine hK.out _ _ hx ?_
  clear hK K
  try simp only [Act.put, List.setIfInBounds_toArray, List.set_cons_zero, List.set_cons_succ]
  replace bp := Bl.ext hx bp (Nat.succ_pos _)
  replace bq := Bl.ext hx bq (Nat.succ_pos _)
  replace fa := Fz.ext hx fa ba (Nat.succ_pos _)
  replace ba := Bl.ext hx ba (Nat.succ_pos _)
  replace fb := Fz.ext hx fb bb (Nat.succ_pos _)
  replace bb := Bl.ext hx bb (Nat.succ_pos _)
  replace bd := Bl.ext hx bd (Nat.succ_pos _)
  replace be := Bl.ext hx be (Nat.succ_pos _)
  replace hs1 := hs1.ext hx
  replace hs2 := hs2.ext hx
  replace hs4 := hs4.ext hx
  replace hs5 := hs5.ext hx
  replace hs7 := hs7.ext hx
  replace hs8 := hs8.ext hx
  replace hs9 := hs9.ext hx
  replace hs10 := hs10.ext hx
  replace HE := HE.trans hx
  clear hx
  repeat (refine wpE_q (v := ?_) rfl rfl (fun u hu => ?_) ?_; rotate_left 1; (focus (have kp := Bl.ext hu bp (Nat.succ_pos _); have kq := Bl.ext hu bq (Nat.succ_pos _); have ka := Bl.ext hu ba (Nat.succ_pos _); have kb := Bl.ext hu bb (Nat.succ_pos _); have kd := Bl.ext hu bd (Nat.succ_pos _); have ke := Bl.ext hu be (Nat.succ_pos _); go_simp; (try rfl))); simp only [Act.put, List.setIfInBounds_toArray, List.set_cons_zero, List.set_cons_succ])
  refine wpE_done ?_
  go_wp2_with fail
  go_ret
  exact ⟨rfl, HE⟩

end Go.Proofs.Ytogcmnagiepofaa
