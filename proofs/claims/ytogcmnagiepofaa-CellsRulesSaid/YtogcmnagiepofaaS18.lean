/- Sets of cells: the law of the rules of sets: its walk. -/
import Derived.Test.YtogcmnagiepofaaS17
import Derived.Test.YtogcmnagiepofaaS6
namespace Go.Proofs.Ytogcmnagiepofaa
set_option linter.unusedVariables false
set_option linter.unusedSimpArgs false
open Go Go.RowKit

theorem growD_add {x y : Int} {n : Nat} {l : List Bool} {k m : Int} {s0 s1 : Int} {s2 : List Bool} {s3 : Int} (hl : l.length = n) (hs : growD x y n l k = ((s0, s1, s2), s3)) (h3 : s3 = 0) {t : (Int × Int × List Bool) × Int} (ht : growD s0 s1 s2.length s2 m = t) (h4 : t.2 = 0) :
    0 ≤ k ∧ k ≤ 8 ∧ 0 ≤ m ∧ m ≤ 8 ∧ (k ≤ 8 - m → growD x y n l (k + m) = t) := by
  subst ht
  by_cases hc : mayR x y n = true ∧ 0 ≤ k ∧ k ≤ 8
  · have e : growD x y n l k = ((x, y, growR k.toNat x.toNat y.toNat l), 0) := if_pos hc
    rw [e] at hs
    cases hs
    obtain ⟨m1, m2, m3, m4, m5⟩ := of_decide_eq_true hc.1
    by_cases hd : mayR x y (growR k.toNat x.toNat y.toNat l).length = true ∧ 0 ≤ m ∧ m ≤ 8
    · refine ⟨hc.2.1, hc.2.2, hd.2.1, hd.2.2, fun hkm => ?_⟩
      have e1 : growD x y n l (k + m) = ((x, y, growR (k + m).toNat x.toNat y.toNat l), 0) := if_pos ⟨hc.1, by omega, by omega⟩
      have e2 : growD x y (growR k.toNat x.toNat y.toNat l).length (growR k.toNat x.toNat y.toNat l) m = ((x, y, growR m.toNat x.toNat y.toNat (growR k.toNat x.toNat y.toNat l)), 0) := if_pos hd
      rw [e1, e2, growR_add (by omega) (by omega) (by omega) (by omega), show (k + m).toNat = k.toNat + m.toNat by omega]
    · have e2 : growD x y (growR k.toNat x.toNat y.toNat l).length (growR k.toNat x.toNat y.toNat l) m = ((0, 0, []), 2) := if_neg hd
      rw [e2] at h4
      exact absurd h4 (by decide)
  · have e : growD x y n l k = ((0, 0, []), 2) := if_neg hc
    rw [e] at hs
    cases hs
    exact absurd h3 (by decide)

set_option maxRecDepth 100000 in
set_option maxHeartbeats 8000000 in
theorem cellsRules_any (x y : Int) (a : Option Addr) (n c : Nat) (l : List Bool) (x' y' : Int) (a' : Option Addr) (n' c' : Nat) (l' : List Bool) (k m : Int) (w : World) (ix1 : -9223372036854775808 ≤ x) (ix2 : x ≤ 9223372036854775807) (iy1 : -9223372036854775808 ≤ y) (iy2 : y ≤ 9223372036854775807) (h : SlB w a n c l) (jx1 : -9223372036854775808 ≤ x') (jx2 : x' ≤ 9223372036854775807) (jy1 : -9223372036854775808 ≤ y') (jy2 : y' ≤ 9223372036854775807) (h' : SlB w a' n' c' l') (ik1 : -9223372036854775808 ≤ k) (ik2 : k ≤ 9223372036854775807) (im1 : -9223372036854775808 ≤ m) (im2 : m ≤ 9223372036854775807) :
    Calls Try.prog 9 #[rst x y a n c, rst x' y' a' n' c', .agg #[.int .i64 k, .int .i64 m]] w fun e w' => e = .returned (.bool true) ∧ Ext w w' := by
  have H := hidP h; have H' := hidP h'
  have HL := hidP h.len; have HL' := hidP h'.len
  clear h h' ix1 ix2 iy1 iy2 jx1 jx2 jy1 jy2 ik1 ik2 im1 im2
  have A0 := hidP (fun (u : World) => e_May x y a n c u)
  cases hm : mayR x y n
  · rw [hm] at A0
    clear hm
    go_enter Try.func9, Try.ntmps9
    go_wp2_with fail
    refine absC (fun x1 hx1 => ?_)
    have hx : Ext w x1 := by rw [hx1]; exact ((((Ext.refl _).alloc _).alloc _).alloc _)
    have bp : Bl x1 (w.heap.size) #[.int .i64 x, .int .i64 y, .slice a n c] := by rw [hx1]; exact (((Bl.new (by simp)).alloc (by simp)).alloc (by simp))
    have bq : Bl x1 (w.heap.size + 1) #[.int .i64 x', .int .i64 y', .slice a' n' c'] := by rw [hx1]; exact ((Bl.new (by simp)).alloc (by simp))
    have bz : Bl x1 (w.heap.size + 1 + 1) #[.int .i64 k, .int .i64 m] := by rw [hx1]; exact (Bl.new (by simp))
    have HE := hx
    clear hx
    clear hx1
    refine (A0.out _).mono ?_
    rintro e u1 ⟨rfl, hx⟩
    replace bp := Bl.ext hx bp (Nat.succ_pos _)
    replace bq := Bl.ext hx bq (Nat.succ_pos _)
    replace bz := Bl.ext hx bz (Nat.succ_pos _)
    replace HE := HE.trans hx
    clear hx
    go_wp2_with fail
    refine (cells_lives _).mono ?_
    rintro e u2 ⟨rfl, hx⟩
    replace bp := Bl.ext hx bp (Nat.succ_pos _)
    replace bq := Bl.ext hx bq (Nat.succ_pos _)
    replace bz := Bl.ext hx bz (Nat.succ_pos _)
    replace HE := HE.trans hx
    clear hx
    go_wp2_with fail
    go_ret
    exact ⟨rfl, HE⟩
  · rw [hm] at A0
    obtain ⟨m1, m2, m3, m4, m5⟩ := of_decide_eq_true hm
    obtain ⟨X, rfl⟩ : ∃ X : Nat, x = (X : Int) := ⟨x.toNat, by omega⟩
    obtain ⟨Y, rfl⟩ : ∃ Y : Nat, y = (Y : Int) := ⟨y.toNat, by omega⟩
    have hn1 : n = Y * X := by rw [Nat.mul_comm]; exact_mod_cast m5
    have A2 := hidP (fun (u : World) (t : SlB u a n c l) => c_Runs X Y a n c l u t (by omega) (by omega) (by omega) (by omega) hn1)
    have hLl := rowsR_len l X Y 0
    have hYX : Y * X ≤ 4096 := Nat.mul_le_mul (by omega : Y ≤ 64) (by omega : X ≤ 64)
    rw [Nat.sub_zero] at hLl
    have A3 := hidP (fun (u : World) a2 n2 c2 (t : SlR u a2 n2 c2 (rowsR l X Y 0)) => c_Of X Y a2 n2 c2 (rowsR l X Y 0) u t (by omega) (by omega) (by omega) (by omega) (rowsR_runs l X Y) (by have := t.len; omega))
    rw [fills_runs (by omega) (by rw [HL.out, hn1])] at A3
    generalize rowsR l X Y 0 = L at *
    have hFa : flipB X Y n l = (((X : Int), (Y : Int), l.map (! ·)), 0) := if_pos hm
    have A4 := hidP (fun (u : World) (t : SlB u a n c l) => c_Flip X Y a n c l u t)
    rw [hFa] at A4
    have A5 := hidP (fun (u : World) (t : SlB u a' n' c' l') => c_Flip x' y' a' n' c' l' u t)
    have A6 := hidP (fun (u : World) (t : SlB u a n c l) (t' : SlB u a' n' c' l') => c_Either X Y x' y' a a' n c n' c' l l' u t t')
    have A7 := hidP (fun (u : World) (b0 b1 : Int) (b2 : List Bool) (d : Option Addr) (i j : Nat) (d' : Option Addr) (i' j' : Nat) (t : SlB u d i j (l.map (! ·))) (t' : SlB u d' i' j' b2) => c_Both X Y b0 b1 d d' i j i' j' (l.map (! ·)) b2 u t t')
    have A8 := hidP (fun (u : World) (b0 b1 : Int) (b2 : List Bool) (d : Option Addr) (i j : Nat) (t : SlB u d i j b2) => c_Flip b0 b1 d i j b2 u t)
    have A9 := hidP (fun (u : World) (q : Int) (t : SlB u a n c l) => (by
      have := c_Grow X Y a n c l q u t
      rw [growB_eq] at this
      exact this : Calls Try.prog 49 #[rst X Y a n c, .int .i64 q] u (RetBE u (growD X Y n l q))))
    have A10 := hidP (fun (u : World) (b0 b1 : Int) (b2 : List Bool) (d : Option Addr) (i j : Nat) (q : Int) (t : SlB u d i j b2) => (by
      have := c_Grow b0 b1 d i j b2 q u t
      rw [growB_eq] at this
      exact this : Calls Try.prog 49 #[rst b0 b1 d i j, .int .i64 q] u (RetBE u (growD b0 b1 i b2 q))))
    have S1 := hidP (fun (u : World) (x y : Int) (a a' : Option Addr) (n c n' c' : Nat) (l : List Bool) (t : SlB u a n c l) (t' : SlB u a' n' c' l) => (by
      have := e_Same x y x y a a' n c n' c' l l u t t'
      rw [show decide (x = x ∧ y = y ∧ l = l) = true by simp] at this
      exact this : Calls Try.prog 38 #[rst x y a n c, rst x y a' n' c'] u fun e w' => e = .returned (.bool true) ∧ Ext u w'))
    have DM := hidP (@either_dm X Y n l x' y' n' l' HL.out HL'.out)
    have GA := hidP (fun (s0 s1 : Int) (s2 : List Bool) (s3 : Int) (hs : growD X Y n l k = ((s0, s1, s2), s3)) (h3 : s3 = 0) (t : (Int × Int × List Bool) × Int) => @growD_add X Y n l k m s0 s1 s2 s3 HL.out hs h3 t)
    clear hm m1 m2 m3 m4 m5 hn1 hLl hYX hFa
    generalize hU : twoB (fun p q => p || q) X Y n l x' y' n' l' = rU at *
    generalize hB : flipB x' y' n' l' = rB at *
    have A9k := hidP (fun u t => A9.out u k t)
    generalize hS : growD X Y n l k = rS at *
    clear hU hB hS
    obtain ⟨⟨f0, f1, f2⟩, e0⟩ := rU
    obtain ⟨⟨b0, b1, b2⟩, b3⟩ := rB
    obtain ⟨⟨s0, s1, s2⟩, s3⟩ := rS
    go_enter Try.func9, Try.ntmps9
    go_wp2_with fail
    refine absC (fun x1 hx1 => ?_)
    have hx : Ext w x1 := by rw [hx1]; exact ((((Ext.refl _).alloc _).alloc _).alloc _)
    have bp : Bl x1 (w.heap.size) #[.int .i64 (X : Int), .int .i64 (Y : Int), .slice a n c] := by rw [hx1]; exact (((Bl.new (by simp)).alloc (by simp)).alloc (by simp))
    have bq : Bl x1 (w.heap.size + 1) #[.int .i64 x', .int .i64 y', .slice a' n' c'] := by rw [hx1]; exact ((Bl.new (by simp)).alloc (by simp))
    have bz : Bl x1 (w.heap.size + 1 + 1) #[.int .i64 k, .int .i64 m] := by rw [hx1]; exact (Bl.new (by simp))
    have HE := hx
    clear hx
    clear hx1
    refine (A0.out _).mono ?_
    rintro e u1 ⟨rfl, hx⟩
    replace bp := Bl.ext hx bp (Nat.succ_pos _)
    replace bq := Bl.ext hx bq (Nat.succ_pos _)
    replace bz := Bl.ext hx bz (Nat.succ_pos _)
    replace HE := HE.trans hx
    clear hx
    go_upto_region 3 with fail
    go_cut [7, 8] (fun v7 v8 wx => ∃ g7 a3 n3 c3, v7 = .pointer (some ⟨g7, 0, none⟩) ∧ v8 = .int .i64 0 ∧ Bl wx g7 #[.int .i64 (X : Int), .int .i64 (Y : Int), .slice a3 n3 c3] ∧ SlB wx a3 n3 c3 l ∧ Bl wx w.heap.size #[.int .i64 (X : Int), .int .i64 (Y : Int), .slice a n c] ∧ Bl wx (w.heap.size + 1) #[.int .i64 x', .int .i64 y', .slice a' n' c'] ∧ Bl wx (w.heap.size + 1 + 1) #[.int .i64 k, .int .i64 m] ∧ Ext w wx)
    case first =>
      have lzz := bz.lt (Nat.succ_pos _)
      have lop := bp.lt (Nat.succ_pos _)
      have loq := bq.lt (Nat.succ_pos _)
      have loz := bz.lt (Nat.succ_pos _)
      have hlo : u1.heap.size ≤ u1.heap.size := Nat.le_refl _
      refine wp_region_plan (R := Below u1.heap.size) (.q 0 (.q 1 (.q 2 (.q 3 (.q 4 (.br 5 (.br 6 (.q 7 (.q 8 (.q 9 (.l 10 (.l 11 (.q 12 .done)))))) (.l 10 (.l 6 (.q 7 (.q 8 (.q 9 (.l 11 (.q 12 .done)))))))) (.l 10 (.l 5 (.l 6 (.q 7 (.q 8 (.q 9 (.l 11 (.q 12 .done)))))))))))))) (by kernel_rfl) (by kernel_rfl) (by kernel_rfl) (by kernel_rfl) (Below.refl _) (fun _ _ _ => Below.trans) ?_
      refine absE (fun x2 hx2 => ?_)
      have hx : Ext u1 x2 := by rw [hx2]; exact (Ext.refl _).drew
      replace hlo := Nat.le_trans hlo hx.size
      replace bp := Bl.ext hx bp (Nat.succ_pos _)
      replace bq := Bl.ext hx bq (Nat.succ_pos _)
      replace bz := Bl.ext hx bz (Nat.succ_pos _)
      replace HE := HE.trans hx
      clear hx
      clear hx2
      repeat (refine wpE_q (v := ?_) rfl rfl (fun u hu => ?_) ?_; rotate_left 1; (focus (have kp := Bl.lowB hu bp lop; have kq := Bl.lowB hu bq loq; have kz := Bl.lowB hu bz loz; go_simp; (try rfl))); simp only [Act.put, List.setIfInBounds_toArray, List.set_cons_zero, List.set_cons_succ])
      refine wpE_br rfl rfl (fun K hK => ?_) ?_
      · go_simp
        refine (A2.out _ (H.out.ext HE)).mono ?_
        rintro e u2 ⟨a2, n2, c2, rfl, hs2, hx⟩
        refine hK.out _ _ (Below.mono hx hlo) ?_
        clear hK K
        try simp only [Act.put, List.setIfInBounds_toArray, List.set_cons_zero, List.set_cons_succ]
        replace hlo := Nat.le_trans hlo hx.size
        replace bp := Bl.ext hx bp (Nat.succ_pos _)
        replace bq := Bl.ext hx bq (Nat.succ_pos _)
        replace bz := Bl.ext hx bz (Nat.succ_pos _)
        replace HE := HE.trans hx
        clear hx
        refine wpE_br rfl rfl (fun K hK => ?_) ?_
        · go_simp
          refine (A3.out _ _ _ _ hs2).mono ?_
          rintro e u3 ⟨a3, n3, c3, rfl, hs3, hx⟩
          refine hK.out _ _ (Below.mono hx hlo) ?_
          clear hK K
          try simp only [Act.put, List.setIfInBounds_toArray, List.set_cons_zero, List.set_cons_succ]
          replace hlo := Nat.le_trans hlo hx.size
          replace bp := Bl.ext hx bp (Nat.succ_pos _)
          replace bq := Bl.ext hx bq (Nat.succ_pos _)
          replace bz := Bl.ext hx bz (Nat.succ_pos _)
          replace hs2 := hs2.ext hx
          replace HE := HE.trans hx
          clear hx
          replace hs3 : SlB u3 a3 n3 c3 l := hs3
          repeat (refine wpE_q (v := ?_) rfl rfl (fun u hu => ?_) ?_; rotate_left 1; (focus (have kp := Bl.lowB hu bp lop; have kq := Bl.lowB hu bq loq; have kz := Bl.lowB hu bz loz; go_simp; (try rfl))); simp only [Act.put, List.setIfInBounds_toArray, List.set_cons_zero, List.set_cons_succ])
          refine wpE_l rfl rfl (fun K hK => ?_)
          go_simp
          refine hK.out _ _ ((Below.refl _ _).alloc hlo _) ?_
          clear hK K
          try simp only [Act.put, List.setIfInBounds_toArray, List.set_cons_zero, List.set_cons_succ]
          have get := hlo
          have lpt := bp.lt (Nat.succ_pos _)
          have lqt := bq.lt (Nat.succ_pos _)
          have lzt := bz.lt (Nat.succ_pos _)
          have l0t := HE.size
          refine absE (fun x3 hx3 => ?_)
          have hx : Ext u3 x3 := by rw [hx3]; exact ((Ext.refl _).alloc _)
          have bt : Bl x3 (u3.heap.size) #[.int .i64 0, .int .i64 0, .slice none 0 0] := by rw [hx3]; exact (Bl.new (by simp))
          have ft : Fz x3 (u3.heap.size) := by rw [hx3]; exact (Fz.new (by simp))
          replace hlo := Nat.le_trans hlo hx.size
          replace bp := Bl.ext hx bp (Nat.succ_pos _)
          replace bq := Bl.ext hx bq (Nat.succ_pos _)
          replace bz := Bl.ext hx bz (Nat.succ_pos _)
          replace hs2 := hs2.ext hx
          replace hs3 := hs3.ext hx
          replace HE := HE.trans hx
          clear hx
          clear hx3
          refine wpE_l rfl rfl (fun K hK => ?_)
          go_simp
          refine hK.out _ _ ((((Below.refl _ _).setCell (by show u1.heap.size ≤ u3.heap.size; omega) _).setCell (by show u1.heap.size ≤ u3.heap.size; omega) _).setCell (by show u1.heap.size ≤ u3.heap.size; omega) _) ?_
          clear hK K
          try simp only [Act.put, List.setIfInBounds_toArray, List.set_cons_zero, List.set_cons_succ]
          refine absE (fun x8 hx8 => ?_)
          have hbut8 : But x3 x8 (u3.heap.size) := by rw [hx8]; exact ((But.refl _ _).store.store.store)
          have hbn : Bl x8 (u3.heap.size) #[.int .i64 (X : Int), .int .i64 (Y : Int), .slice a3 n3 c3] := by rw [hx8]; exact (((bt.set (by simp)).set (by simp)).set (by simp))
          replace hs3 := SlB.but hs3 bt not_bools hbut8
          replace bp := hbut8.bl bp (Nat.succ_pos _) (by omega)
          replace bq := hbut8.bl bq (Nat.succ_pos _) (by omega)
          replace bz := hbut8.bl bz (Nat.succ_pos _) (by omega)
          replace HE : Ext w x8 := by rw [hx8]; exact ((HE.store (by show w.heap.size ≤ u3.heap.size; omega) _).store (by show w.heap.size ≤ u3.heap.size; omega) _).store (by show w.heap.size ≤ u3.heap.size; omega) _
          replace hlo : u1.heap.size ≤ x8.heap.size := Nat.le_trans hlo hbut8.1
          clear ft bt hx8 hbut8 hs2
          have bt := hbn
          clear hbn
          repeat (refine wpE_q (v := ?_) rfl rfl (fun u hu => ?_) ?_; rotate_left 1; (focus (have kp := Bl.lowB hu bp lop; have kq := Bl.lowB hu bq loq; have kz := Bl.lowB hu bz loz; go_simp; (try rfl))); simp only [Act.put, List.setIfInBounds_toArray, List.set_cons_zero, List.set_cons_succ])
          refine wpE_done ?_
          clear hlo
          go_wp2_with fail
          go_meet
          exact ⟨_, _, _, _, rfl, rfl, bt, hs3, bp, bq, bz, HE⟩
        · refine wpE_l rfl rfl (fun K hK => ?_)
          go_simp
          refine hK.out _ _ ((Below.refl _ _).alloc hlo _) ?_
          clear hK K
          try simp only [Act.put, List.setIfInBounds_toArray, List.set_cons_zero, List.set_cons_succ]
          have get := hlo
          have lpt := bp.lt (Nat.succ_pos _)
          have lqt := bq.lt (Nat.succ_pos _)
          have lzt := bz.lt (Nat.succ_pos _)
          have l0t := HE.size
          refine absE (fun x3 hx3 => ?_)
          have hx : Ext u2 x3 := by rw [hx3]; exact ((Ext.refl _).alloc _)
          have bt : Bl x3 (u2.heap.size) #[.int .i64 0, .int .i64 0, .slice none 0 0] := by rw [hx3]; exact (Bl.new (by simp))
          have ft : Fz x3 (u2.heap.size) := by rw [hx3]; exact (Fz.new (by simp))
          replace hlo := Nat.le_trans hlo hx.size
          replace bp := Bl.ext hx bp (Nat.succ_pos _)
          replace bq := Bl.ext hx bq (Nat.succ_pos _)
          replace bz := Bl.ext hx bz (Nat.succ_pos _)
          replace hs2 := hs2.ext hx
          replace HE := HE.trans hx
          clear hx
          clear hx3
          refine wpE_l rfl rfl (fun K hK => ?_)
          go_simp
          refine (A3.out _ _ _ _ hs2).mono ?_
          rintro e u3 ⟨a3, n3, c3, rfl, hs3, hx⟩
          refine hK.out _ _ (Below.mono hx hlo) ?_
          clear hK K
          try simp only [Act.put, List.setIfInBounds_toArray, List.set_cons_zero, List.set_cons_succ]
          replace hlo := Nat.le_trans hlo hx.size
          replace bp := Bl.ext hx bp (Nat.succ_pos _)
          replace bq := Bl.ext hx bq (Nat.succ_pos _)
          replace bz := Bl.ext hx bz (Nat.succ_pos _)
          replace ft := Fz.ext hx ft bt (Nat.succ_pos _)
          replace bt := Bl.ext hx bt (Nat.succ_pos _)
          replace hs2 := hs2.ext hx
          replace HE := HE.trans hx
          clear hx
          replace hs3 : SlB u3 a3 n3 c3 l := hs3
          repeat (refine wpE_q (v := ?_) rfl rfl (fun u hu => ?_) ?_; rotate_left 1; (focus (have kp := Bl.lowB hu bp lop; have kq := Bl.lowB hu bq loq; have kz := Bl.lowB hu bz loz; go_simp; (try rfl))); simp only [Act.put, List.setIfInBounds_toArray, List.set_cons_zero, List.set_cons_succ])
          refine wpE_l rfl rfl (fun K hK => ?_)
          go_simp
          refine hK.out _ _ ((((Below.refl _ _).setCell (by show u1.heap.size ≤ u2.heap.size; omega) _).setCell (by show u1.heap.size ≤ u2.heap.size; omega) _).setCell (by show u1.heap.size ≤ u2.heap.size; omega) _) ?_
          clear hK K
          try simp only [Act.put, List.setIfInBounds_toArray, List.set_cons_zero, List.set_cons_succ]
          refine absE (fun x8 hx8 => ?_)
          have hbut8 : But u3 x8 (u2.heap.size) := by rw [hx8]; exact ((But.refl _ _).store.store.store)
          have hbn : Bl x8 (u2.heap.size) #[.int .i64 (X : Int), .int .i64 (Y : Int), .slice a3 n3 c3] := by rw [hx8]; exact (((bt.set (by simp)).set (by simp)).set (by simp))
          replace hs3 := SlB.but hs3 bt not_bools hbut8
          replace bp := hbut8.bl bp (Nat.succ_pos _) (by omega)
          replace bq := hbut8.bl bq (Nat.succ_pos _) (by omega)
          replace bz := hbut8.bl bz (Nat.succ_pos _) (by omega)
          replace HE : Ext w x8 := by rw [hx8]; exact ((HE.store (by show w.heap.size ≤ u2.heap.size; omega) _).store (by show w.heap.size ≤ u2.heap.size; omega) _).store (by show w.heap.size ≤ u2.heap.size; omega) _
          replace hlo : u1.heap.size ≤ x8.heap.size := Nat.le_trans hlo hbut8.1
          clear ft bt hx8 hbut8 hs2
          have bt := hbn
          clear hbn
          repeat (refine wpE_q (v := ?_) rfl rfl (fun u hu => ?_) ?_; rotate_left 1; (focus (have kp := Bl.lowB hu bp lop; have kq := Bl.lowB hu bq loq; have kz := Bl.lowB hu bz loz; go_simp; (try rfl))); simp only [Act.put, List.setIfInBounds_toArray, List.set_cons_zero, List.set_cons_succ])
          refine wpE_done ?_
          clear hlo
          go_wp2_with fail
          go_meet
          exact ⟨_, _, _, _, rfl, rfl, bt, hs3, bp, bq, bz, HE⟩
      · refine wpE_l rfl rfl (fun K hK => ?_)
        go_simp
        refine hK.out _ _ ((Below.refl _ _).alloc hlo _) ?_
        clear hK K
        try simp only [Act.put, List.setIfInBounds_toArray, List.set_cons_zero, List.set_cons_succ]
        have get := hlo
        have lpt := bp.lt (Nat.succ_pos _)
        have lqt := bq.lt (Nat.succ_pos _)
        have lzt := bz.lt (Nat.succ_pos _)
        have l0t := HE.size
        refine absE (fun x3 hx3 => ?_)
        have hx : Ext x2 x3 := by rw [hx3]; exact ((Ext.refl _).alloc _)
        have bt : Bl x3 (x2.heap.size) #[.int .i64 0, .int .i64 0, .slice none 0 0] := by rw [hx3]; exact (Bl.new (by simp))
        have ft : Fz x3 (x2.heap.size) := by rw [hx3]; exact (Fz.new (by simp))
        replace hlo := Nat.le_trans hlo hx.size
        replace bp := Bl.ext hx bp (Nat.succ_pos _)
        replace bq := Bl.ext hx bq (Nat.succ_pos _)
        replace bz := Bl.ext hx bz (Nat.succ_pos _)
        replace HE := HE.trans hx
        clear hx
        clear hx3
        refine wpE_l rfl rfl (fun K hK => ?_)
        go_simp
        refine (A2.out _ (H.out.ext HE)).mono ?_
        rintro e u2 ⟨a2, n2, c2, rfl, hs2, hx⟩
        refine hK.out _ _ (Below.mono hx hlo) ?_
        clear hK K
        try simp only [Act.put, List.setIfInBounds_toArray, List.set_cons_zero, List.set_cons_succ]
        replace hlo := Nat.le_trans hlo hx.size
        replace bp := Bl.ext hx bp (Nat.succ_pos _)
        replace bq := Bl.ext hx bq (Nat.succ_pos _)
        replace bz := Bl.ext hx bz (Nat.succ_pos _)
        replace ft := Fz.ext hx ft bt (Nat.succ_pos _)
        replace bt := Bl.ext hx bt (Nat.succ_pos _)
        replace HE := HE.trans hx
        clear hx
        refine wpE_l rfl rfl (fun K hK => ?_)
        go_simp
        refine (A3.out _ _ _ _ hs2).mono ?_
        rintro e u3 ⟨a3, n3, c3, rfl, hs3, hx⟩
        refine hK.out _ _ (Below.mono hx hlo) ?_
        clear hK K
        try simp only [Act.put, List.setIfInBounds_toArray, List.set_cons_zero, List.set_cons_succ]
        replace hlo := Nat.le_trans hlo hx.size
        replace bp := Bl.ext hx bp (Nat.succ_pos _)
        replace bq := Bl.ext hx bq (Nat.succ_pos _)
        replace bz := Bl.ext hx bz (Nat.succ_pos _)
        replace ft := Fz.ext hx ft bt (Nat.succ_pos _)
        replace bt := Bl.ext hx bt (Nat.succ_pos _)
        replace hs2 := hs2.ext hx
        replace HE := HE.trans hx
        clear hx
        replace hs3 : SlB u3 a3 n3 c3 l := hs3
        repeat (refine wpE_q (v := ?_) rfl rfl (fun u hu => ?_) ?_; rotate_left 1; (focus (have kp := Bl.lowB hu bp lop; have kq := Bl.lowB hu bq loq; have kz := Bl.lowB hu bz loz; go_simp; (try rfl))); simp only [Act.put, List.setIfInBounds_toArray, List.set_cons_zero, List.set_cons_succ])
        refine wpE_l rfl rfl (fun K hK => ?_)
        go_simp
        refine hK.out _ _ ((((Below.refl _ _).setCell (by show u1.heap.size ≤ x2.heap.size; omega) _).setCell (by show u1.heap.size ≤ x2.heap.size; omega) _).setCell (by show u1.heap.size ≤ x2.heap.size; omega) _) ?_
        clear hK K
        try simp only [Act.put, List.setIfInBounds_toArray, List.set_cons_zero, List.set_cons_succ]
        refine absE (fun x8 hx8 => ?_)
        have hbut8 : But u3 x8 (x2.heap.size) := by rw [hx8]; exact ((But.refl _ _).store.store.store)
        have hbn : Bl x8 (x2.heap.size) #[.int .i64 (X : Int), .int .i64 (Y : Int), .slice a3 n3 c3] := by rw [hx8]; exact (((bt.set (by simp)).set (by simp)).set (by simp))
        replace hs3 := SlB.but hs3 bt not_bools hbut8
        replace bp := hbut8.bl bp (Nat.succ_pos _) (by omega)
        replace bq := hbut8.bl bq (Nat.succ_pos _) (by omega)
        replace bz := hbut8.bl bz (Nat.succ_pos _) (by omega)
        replace HE : Ext w x8 := by rw [hx8]; exact ((HE.store (by show w.heap.size ≤ x2.heap.size; omega) _).store (by show w.heap.size ≤ x2.heap.size; omega) _).store (by show w.heap.size ≤ x2.heap.size; omega) _
        replace hlo : u1.heap.size ≤ x8.heap.size := Nat.le_trans hlo hbut8.1
        clear ft bt hx8 hbut8 hs2
        have bt := hbn
        clear hbn
        repeat (refine wpE_q (v := ?_) rfl rfl (fun u hu => ?_) ?_; rotate_left 1; (focus (have kp := Bl.lowB hu bp lop; have kq := Bl.lowB hu bq loq; have kz := Bl.lowB hu bz loz; go_simp; (try rfl))); simp only [Act.put, List.setIfInBounds_toArray, List.set_cons_zero, List.set_cons_succ])
        refine wpE_done ?_
        clear hlo
        go_wp2_with fail
        go_meet
        exact ⟨_, _, _, _, rfl, rfl, bt, hs3, bp, bq, bz, HE⟩
    case rest =>
      obtain ⟨g7, a3, n3, c3, rfl, rfl, bt, hs3, bp, bq, bz, HE⟩ := hcut
      go_wp2_with fail
      refine (S1.out _ (X : Int) (Y : Int) _ _ _ _ _ _ _ hs3 (H.out.ext HE)).mono ?_
      rintro e u4 ⟨rfl, hx⟩
      replace bp := Bl.ext hx bp (Nat.succ_pos _)
      replace bq := Bl.ext hx bq (Nat.succ_pos _)
      replace bz := Bl.ext hx bz (Nat.succ_pos _)
      replace bt := Bl.ext hx bt (Nat.succ_pos _)
      replace hs3 := hs3.ext hx
      replace HE := HE.trans hx
      clear hx
      clear hs3
      go_wp2_with fail
      refine (A4.out _ (H.out.ext HE)).mono ?_
      rintro e u5 ⟨a5, n5, c5, rfl, hs5, hx⟩
      replace bp := Bl.ext hx bp (Nat.succ_pos _)
      replace bq := Bl.ext hx bq (Nat.succ_pos _)
      replace bz := Bl.ext hx bz (Nat.succ_pos _)
      replace bt := Bl.ext hx bt (Nat.succ_pos _)
      replace HE := HE.trans hx
      clear hx
      replace hs5 : SlB u5 a5 n5 c5 (l.map (! ·)) := hs5
      go_upto_region 7 with fail
      refine absW (fun x1 hx1 => ?_)
      have hx : Ext u5 x1 := by rw [hx1]; exact ((Ext.refl _).alloc _)
      have be5 : Bl x1 (u5.heap.size) #[.int .i64 (X : Int), .int .i64 (Y : Int), .slice a5 n5 c5] := by rw [hx1]; exact (Bl.new (by simp))
      replace bp := Bl.ext hx bp (Nat.succ_pos _)
      replace bq := Bl.ext hx bq (Nat.succ_pos _)
      replace bz := Bl.ext hx bz (Nat.succ_pos _)
      replace bt := Bl.ext hx bt (Nat.succ_pos _)
      replace hs5 := hs5.ext hx
      replace HE := HE.trans hx
      clear hx
      clear hx1
      go_wp2_with fail
      refine (A5.out _ (H'.out.ext HE)).mono ?_
      rintro e u6 ⟨a6, n6, c6, rfl, hs6, hx⟩
      replace bp := Bl.ext hx bp (Nat.succ_pos _)
      replace bq := Bl.ext hx bq (Nat.succ_pos _)
      replace bz := Bl.ext hx bz (Nat.succ_pos _)
      replace bt := Bl.ext hx bt (Nat.succ_pos _)
      replace be5 := Bl.ext hx be5 (Nat.succ_pos _)
      replace hs5 := hs5.ext hx
      replace HE := HE.trans hx
      clear hx
      replace hs6 : SlB u6 a6 n6 c6 b2 := hs6
      go_upto_region 8 with fail
      refine absW (fun x2 hx2 => ?_)
      have hx : Ext u6 x2 := by rw [hx2]; exact ((Ext.refl _).alloc _)
      have be6 : Bl x2 (u6.heap.size) #[.int .i64 b0, .int .i64 b1, .slice a6 n6 c6] := by rw [hx2]; exact (Bl.new (by simp))
      replace bp := Bl.ext hx bp (Nat.succ_pos _)
      replace bq := Bl.ext hx bq (Nat.succ_pos _)
      replace bz := Bl.ext hx bz (Nat.succ_pos _)
      replace bt := Bl.ext hx bt (Nat.succ_pos _)
      replace be5 := Bl.ext hx be5 (Nat.succ_pos _)
      replace hs5 := hs5.ext hx
      replace hs6 := hs6.ext hx
      replace HE := HE.trans hx
      clear hx
      clear hx2
      go_wp2_with fail
      refine (A6.out _ (H.out.ext HE) (H'.out.ext HE)).mono ?_
      rintro e u7 ⟨a7, n7, c7, rfl, hs7, hx⟩
      replace bp := Bl.ext hx bp (Nat.succ_pos _)
      replace bq := Bl.ext hx bq (Nat.succ_pos _)
      replace bz := Bl.ext hx bz (Nat.succ_pos _)
      replace bt := Bl.ext hx bt (Nat.succ_pos _)
      replace be5 := Bl.ext hx be5 (Nat.succ_pos _)
      replace be6 := Bl.ext hx be6 (Nat.succ_pos _)
      replace hs5 := hs5.ext hx
      replace hs6 := hs6.ext hx
      replace HE := HE.trans hx
      clear hx
      replace hs7 : SlB u7 a7 n7 c7 f2 := hs7
      go_upto_region 9 with fail
      refine absW (fun x3 hx3 => ?_)
      have hx : Ext u7 x3 := by rw [hx3]; exact ((Ext.refl _).alloc _)
      have be7 : Bl x3 (u7.heap.size) #[.int .i64 f0, .int .i64 f1, .slice a7 n7 c7] := by rw [hx3]; exact (Bl.new (by simp))
      replace bp := Bl.ext hx bp (Nat.succ_pos _)
      replace bq := Bl.ext hx bq (Nat.succ_pos _)
      replace bz := Bl.ext hx bz (Nat.succ_pos _)
      replace bt := Bl.ext hx bt (Nat.succ_pos _)
      replace be5 := Bl.ext hx be5 (Nat.succ_pos _)
      replace be6 := Bl.ext hx be6 (Nat.succ_pos _)
      replace hs5 := hs5.ext hx
      replace hs6 := hs6.ext hx
      replace hs7 := hs7.ext hx
      replace HE := HE.trans hx
      clear hx
      clear hx3
      have hn5 : Hid (n5 = n) := hidP (by have := hs5.len; rw [List.length_map, HL.out] at this; exact this.symm)
      have hn6 := hidP hs6.len
      generalize hV : twoB (fun p q => p && q) X Y n5 (l.map (! ·)) b0 b1 n6 b2 = rV
      have A7' := hidP (fun u t t' => A7.out u b0 b1 b2 a5 n5 c5 a6 n6 c6 t t')
      rw [hV] at A7'
      obtain ⟨⟨v0, v1, v2⟩, v3⟩ := rV
      go_wp2_with fail
      refine (A7'.out _ hs5 hs6).mono ?_
      rintro e u8 ⟨a8, n8, c8, rfl, hs8, hx⟩
      replace bp := Bl.ext hx bp (Nat.succ_pos _)
      replace bq := Bl.ext hx bq (Nat.succ_pos _)
      replace bz := Bl.ext hx bz (Nat.succ_pos _)
      replace bt := Bl.ext hx bt (Nat.succ_pos _)
      replace be5 := Bl.ext hx be5 (Nat.succ_pos _)
      replace be6 := Bl.ext hx be6 (Nat.succ_pos _)
      replace be7 := Bl.ext hx be7 (Nat.succ_pos _)
      replace hs5 := hs5.ext hx
      replace hs6 := hs6.ext hx
      replace hs7 := hs7.ext hx
      replace HE := HE.trans hx
      clear hx
      replace hs8 : SlB u8 a8 n8 c8 v2 := hs8
      go_upto_region 10 with fail
      refine absW (fun x4 hx4 => ?_)
      have hx : Ext u8 x4 := by rw [hx4]; exact ((Ext.refl _).alloc _)
      have be8 : Bl x4 (u8.heap.size) #[.int .i64 v0, .int .i64 v1, .slice a8 n8 c8] := by rw [hx4]; exact (Bl.new (by simp))
      replace bp := Bl.ext hx bp (Nat.succ_pos _)
      replace bq := Bl.ext hx bq (Nat.succ_pos _)
      replace bz := Bl.ext hx bz (Nat.succ_pos _)
      replace bt := Bl.ext hx bt (Nat.succ_pos _)
      replace be5 := Bl.ext hx be5 (Nat.succ_pos _)
      replace be6 := Bl.ext hx be6 (Nat.succ_pos _)
      replace be7 := Bl.ext hx be7 (Nat.succ_pos _)
      replace hs5 := hs5.ext hx
      replace hs6 := hs6.ext hx
      replace hs7 := hs7.ext hx
      replace hs8 := hs8.ext hx
      replace HE := HE.trans hx
      clear hx
      clear hx4
      have hn8 := hidP hs8.len
      generalize hN : flipB v0 v1 n8 v2 = rN at *
      have A8' := hidP (fun u t => A8.out u v0 v1 v2 a8 n8 c8 t)
      rw [hN] at A8'
      obtain ⟨⟨z0, z1, z2⟩, z3⟩ := rN
      have HD : Hid (e0 = 0 → v3 = 0 ∧ z0 = f0 ∧ z1 = f1 ∧ z2 = f2) := hidP (fun he => by
        obtain ⟨mm, d1, d2, d3, d4, d5, d6⟩ := DM.out he
        cases d2
        have hnn : n6 = n' := by rw [← hn6.out, List.length_map, HL'.out]
        rw [hn5.out, hnn, d3] at hV
        cases hV
        have h8 : n8 = n := by rw [← hn8.out, d4]
        rw [h8, d5] at hN
        cases hN
        cases d6
        exact ⟨rfl, rfl, rfl, rfl⟩)
      clear hn5 hn6 hn8 hV hN
      go_wp2_with fail
      refine (A8'.out _ hs8).mono ?_
      rintro e u9 ⟨a9, n9, c9, rfl, hs9, hx⟩
      replace bp := Bl.ext hx bp (Nat.succ_pos _)
      replace bq := Bl.ext hx bq (Nat.succ_pos _)
      replace bz := Bl.ext hx bz (Nat.succ_pos _)
      replace bt := Bl.ext hx bt (Nat.succ_pos _)
      replace be5 := Bl.ext hx be5 (Nat.succ_pos _)
      replace be6 := Bl.ext hx be6 (Nat.succ_pos _)
      replace be7 := Bl.ext hx be7 (Nat.succ_pos _)
      replace be8 := Bl.ext hx be8 (Nat.succ_pos _)
      replace hs5 := hs5.ext hx
      replace hs6 := hs6.ext hx
      replace hs7 := hs7.ext hx
      replace hs8 := hs8.ext hx
      replace HE := HE.trans hx
      clear hx
      replace hs9 : SlB u9 a9 n9 c9 z2 := hs9
      go_upto_region 11 with fail
      refine absW (fun x5 hx5 => ?_)
      have hx : Ext u9 x5 := by rw [hx5]; exact ((Ext.refl _).alloc _)
      have be9 : Bl x5 (u9.heap.size) #[.int .i64 z0, .int .i64 z1, .slice a9 n9 c9] := by rw [hx5]; exact (Bl.new (by simp))
      replace bp := Bl.ext hx bp (Nat.succ_pos _)
      replace bq := Bl.ext hx bq (Nat.succ_pos _)
      replace bz := Bl.ext hx bz (Nat.succ_pos _)
      replace bt := Bl.ext hx bt (Nat.succ_pos _)
      replace be5 := Bl.ext hx be5 (Nat.succ_pos _)
      replace be6 := Bl.ext hx be6 (Nat.succ_pos _)
      replace be7 := Bl.ext hx be7 (Nat.succ_pos _)
      replace be8 := Bl.ext hx be8 (Nat.succ_pos _)
      replace hs5 := hs5.ext hx
      replace hs6 := hs6.ext hx
      replace hs7 := hs7.ext hx
      replace hs8 := hs8.ext hx
      replace hs9 := hs9.ext hx
      replace HE := HE.trans hx
      clear hx
      clear hx5
      clear hs5 hs6 hs8 be5 be6 be8
      by_cases hu : e0 = 0
      · obtain ⟨r1, r2, r3, r4⟩ := HD.out hu
        subst hu; subst r1; subst r2; subst r3; subst r4
        go_wp2_with fail
        refine (S1.out _ z0 z1 _ _ _ _ _ _ _ hs7 hs9).mono ?_
        rintro e u10 ⟨rfl, hx⟩
        replace bp := Bl.ext hx bp (Nat.succ_pos _)
        replace bq := Bl.ext hx bq (Nat.succ_pos _)
        replace bz := Bl.ext hx bz (Nat.succ_pos _)
        replace bt := Bl.ext hx bt (Nat.succ_pos _)
        replace be7 := Bl.ext hx be7 (Nat.succ_pos _)
        replace be9 := Bl.ext hx be9 (Nat.succ_pos _)
        replace hs7 := hs7.ext hx
        replace hs9 := hs9.ext hx
        replace HE := HE.trans hx
        clear hx
        go_wp2_with fail
        refine (A9k.out _ (H.out.ext HE)).mono ?_
        rintro e u11 ⟨a11, n11, c11, rfl, hs11, hx⟩
        replace bp := Bl.ext hx bp (Nat.succ_pos _)
        replace bq := Bl.ext hx bq (Nat.succ_pos _)
        replace bz := Bl.ext hx bz (Nat.succ_pos _)
        replace bt := Bl.ext hx bt (Nat.succ_pos _)
        replace be7 := Bl.ext hx be7 (Nat.succ_pos _)
        replace be9 := Bl.ext hx be9 (Nat.succ_pos _)
        replace hs7 := hs7.ext hx
        replace hs9 := hs9.ext hx
        replace HE := HE.trans hx
        clear hx
        replace hs11 : SlB u11 a11 n11 c11 s2 := hs11
        go_upto_region 14 with fail
        refine absW (fun x6 hx6 => ?_)
        have hx : Ext u11 x6 := by rw [hx6]; exact ((Ext.refl _).alloc _)
        have bg1 : Bl x6 (u11.heap.size) #[.int .i64 s0, .int .i64 s1, .slice a11 n11 c11] := by rw [hx6]; exact (Bl.new (by simp))
        replace bp := Bl.ext hx bp (Nat.succ_pos _)
        replace bq := Bl.ext hx bq (Nat.succ_pos _)
        replace bz := Bl.ext hx bz (Nat.succ_pos _)
        replace bt := Bl.ext hx bt (Nat.succ_pos _)
        replace be7 := Bl.ext hx be7 (Nat.succ_pos _)
        replace be9 := Bl.ext hx be9 (Nat.succ_pos _)
        replace hs7 := hs7.ext hx
        replace hs9 := hs9.ext hx
        replace hs11 := hs11.ext hx
        replace HE := HE.trans hx
        clear hx
        clear hx6
        have hn11 : n11 = s2.length := hs11.len.symm
        generalize hT : growD s0 s1 n11 s2 m = rT at *
        have A10' := hidP (fun u t => A10.out u s0 s1 s2 a11 n11 c11 m t)
        rw [hT] at A10'
        obtain ⟨⟨t0, t1, t2⟩, t3⟩ := rT
        have HG : Hid (s3 = 0 → t3 = 0 → 0 ≤ k ∧ k ≤ 8 ∧ 0 ≤ m ∧ m ≤ 8 ∧ (k ≤ 8 - m → growD X Y n l (k + m) = ((t0, t1, t2), t3))) := hidP (fun h1 h2 => GA.out s0 s1 s2 s3 rfl h1 _ (by rw [← hn11]; exact hT) h2)
        clear hn11 hT
        go_wp2_with fail
        refine (A10'.out _ hs11).mono ?_
        rintro e u12 ⟨a12, n12, c12, rfl, hs12, hx⟩
        replace bp := Bl.ext hx bp (Nat.succ_pos _)
        replace bq := Bl.ext hx bq (Nat.succ_pos _)
        replace bz := Bl.ext hx bz (Nat.succ_pos _)
        replace bt := Bl.ext hx bt (Nat.succ_pos _)
        replace be7 := Bl.ext hx be7 (Nat.succ_pos _)
        replace be9 := Bl.ext hx be9 (Nat.succ_pos _)
        replace bg1 := Bl.ext hx bg1 (Nat.succ_pos _)
        replace hs7 := hs7.ext hx
        replace hs9 := hs9.ext hx
        replace hs11 := hs11.ext hx
        replace HE := HE.trans hx
        clear hx
        replace hs12 : SlB u12 a12 n12 c12 t2 := hs12
        go_upto_region 15 with fail
        refine absW (fun x7 hx7 => ?_)
        have hx : Ext u12 x7 := by rw [hx7]; exact ((Ext.refl _).alloc _)
        have bg2 : Bl x7 (u12.heap.size) #[.int .i64 t0, .int .i64 t1, .slice a12 n12 c12] := by rw [hx7]; exact (Bl.new (by simp))
        replace bp := Bl.ext hx bp (Nat.succ_pos _)
        replace bq := Bl.ext hx bq (Nat.succ_pos _)
        replace bz := Bl.ext hx bz (Nat.succ_pos _)
        replace bt := Bl.ext hx bt (Nat.succ_pos _)
        replace be7 := Bl.ext hx be7 (Nat.succ_pos _)
        replace be9 := Bl.ext hx be9 (Nat.succ_pos _)
        replace bg1 := Bl.ext hx bg1 (Nat.succ_pos _)
        replace hs7 := hs7.ext hx
        replace hs9 := hs9.ext hx
        replace hs11 := hs11.ext hx
        replace hs12 := hs12.ext hx
        replace HE := HE.trans hx
        clear hx
        clear hx7
        by_cases h1 : s3 = 0
        · by_cases h2 : t3 = 0
          · obtain ⟨k1, k2, k3, k4, kk⟩ := HG.out h1 h2
            subst h1
            subst h2
            have hw1 : wrap64 (8 - m) = 8 - m := by unfold wrap64; omega
            have hw2 : wrap64 (k + m) = k + m := by unfold wrap64; omega
            by_cases h3 : k ≤ 8 - m
            · have A11 := hidP (fun (u : World) (t : SlB u a n c l) => A9.out u (k + m) t)
              rw [kk h3] at A11
              clear kk
              go_wp2_with fail
              refine (A11.out _ (H.out.ext HE)).mono ?_
              rintro e u13 ⟨a13, n13, c13, rfl, hs13, hx⟩
              replace bp := Bl.ext hx bp (Nat.succ_pos _)
              replace bq := Bl.ext hx bq (Nat.succ_pos _)
              replace bz := Bl.ext hx bz (Nat.succ_pos _)
              replace bt := Bl.ext hx bt (Nat.succ_pos _)
              replace be7 := Bl.ext hx be7 (Nat.succ_pos _)
              replace be9 := Bl.ext hx be9 (Nat.succ_pos _)
              replace bg1 := Bl.ext hx bg1 (Nat.succ_pos _)
              replace bg2 := Bl.ext hx bg2 (Nat.succ_pos _)
              replace hs7 := hs7.ext hx
              replace hs9 := hs9.ext hx
              replace hs11 := hs11.ext hx
              replace hs12 := hs12.ext hx
              replace HE := HE.trans hx
              clear hx
              replace hs13 : SlB u13 a13 n13 c13 t2 := hs13
              go_upto_region 17 with fail
              refine absW (fun x8 hx8 => ?_)
              have hx : Ext u13 x8 := by rw [hx8]; exact ((Ext.refl _).alloc _)
              have bg3 : Bl x8 (u13.heap.size) #[.int .i64 t0, .int .i64 t1, .slice a13 n13 c13] := by rw [hx8]; exact (Bl.new (by simp))
              replace bp := Bl.ext hx bp (Nat.succ_pos _)
              replace bq := Bl.ext hx bq (Nat.succ_pos _)
              replace bz := Bl.ext hx bz (Nat.succ_pos _)
              replace bt := Bl.ext hx bt (Nat.succ_pos _)
              replace be7 := Bl.ext hx be7 (Nat.succ_pos _)
              replace be9 := Bl.ext hx be9 (Nat.succ_pos _)
              replace bg1 := Bl.ext hx bg1 (Nat.succ_pos _)
              replace bg2 := Bl.ext hx bg2 (Nat.succ_pos _)
              replace hs7 := hs7.ext hx
              replace hs9 := hs9.ext hx
              replace hs11 := hs11.ext hx
              replace hs12 := hs12.ext hx
              replace hs13 := hs13.ext hx
              replace HE := HE.trans hx
              clear hx
              clear hx8
              go_wp2_with fail
              refine (S1.out _ t0 t1 _ _ _ _ _ _ _ hs13 hs12).mono ?_
              rintro e u14 ⟨rfl, hx⟩
              replace bp := Bl.ext hx bp (Nat.succ_pos _)
              replace bq := Bl.ext hx bq (Nat.succ_pos _)
              replace bz := Bl.ext hx bz (Nat.succ_pos _)
              replace bt := Bl.ext hx bt (Nat.succ_pos _)
              replace be7 := Bl.ext hx be7 (Nat.succ_pos _)
              replace be9 := Bl.ext hx be9 (Nat.succ_pos _)
              replace bg1 := Bl.ext hx bg1 (Nat.succ_pos _)
              replace bg2 := Bl.ext hx bg2 (Nat.succ_pos _)
              replace bg3 := Bl.ext hx bg3 (Nat.succ_pos _)
              replace hs7 := hs7.ext hx
              replace hs9 := hs9.ext hx
              replace hs11 := hs11.ext hx
              replace hs12 := hs12.ext hx
              replace hs13 := hs13.ext hx
              replace HE := HE.trans hx
              clear hx
              go_wp2_with fail
              refine (cells_lives _).mono ?_
              rintro e u15 ⟨rfl, hx⟩
              replace bp := Bl.ext hx bp (Nat.succ_pos _)
              replace bq := Bl.ext hx bq (Nat.succ_pos _)
              replace bz := Bl.ext hx bz (Nat.succ_pos _)
              replace bt := Bl.ext hx bt (Nat.succ_pos _)
              replace be7 := Bl.ext hx be7 (Nat.succ_pos _)
              replace be9 := Bl.ext hx be9 (Nat.succ_pos _)
              replace bg1 := Bl.ext hx bg1 (Nat.succ_pos _)
              replace bg2 := Bl.ext hx bg2 (Nat.succ_pos _)
              replace bg3 := Bl.ext hx bg3 (Nat.succ_pos _)
              replace hs7 := hs7.ext hx
              replace hs9 := hs9.ext hx
              replace hs11 := hs11.ext hx
              replace hs12 := hs12.ext hx
              replace hs13 := hs13.ext hx
              replace HE := HE.trans hx
              clear hx
              go_wp2_with fail
              go_ret
              exact ⟨rfl, HE⟩
            · clear kk
              go_wp2_with fail
              refine (cells_lives _).mono ?_
              rintro e u13 ⟨rfl, hx⟩
              replace HE := HE.trans hx
              clear hx
              go_wp2_with fail
              go_ret
              exact ⟨rfl, HE⟩
          · have hb : ((t3 : Int) == 0) = false := by simpa using h2
            subst h1
            go_wp2_with fail
            refine (cells_lives _).mono ?_
            rintro e u13 ⟨rfl, hx⟩
            replace HE := HE.trans hx
            clear hx
            go_wp2_with fail
            go_ret
            exact ⟨rfl, HE⟩
        · have hb : ((s3 : Int) == 0) = false := by simpa using h1
          go_wp2_with fail
          refine (cells_lives _).mono ?_
          rintro e u13 ⟨rfl, hx⟩
          replace HE := HE.trans hx
          clear hx
          go_wp2_with fail
          go_ret
          exact ⟨rfl, HE⟩
      · have hbu : ((e0 : Int) == 0) = false := by simpa using hu
        go_wp2_with fail
        refine (A9k.out _ (H.out.ext HE)).mono ?_
        rintro e u11 ⟨a11, n11, c11, rfl, hs11, hx⟩
        replace bp := Bl.ext hx bp (Nat.succ_pos _)
        replace bq := Bl.ext hx bq (Nat.succ_pos _)
        replace bz := Bl.ext hx bz (Nat.succ_pos _)
        replace bt := Bl.ext hx bt (Nat.succ_pos _)
        replace be7 := Bl.ext hx be7 (Nat.succ_pos _)
        replace be9 := Bl.ext hx be9 (Nat.succ_pos _)
        replace hs7 := hs7.ext hx
        replace hs9 := hs9.ext hx
        replace HE := HE.trans hx
        clear hx
        replace hs11 : SlB u11 a11 n11 c11 s2 := hs11
        go_upto_region 14 with fail
        refine absW (fun x6 hx6 => ?_)
        have hx : Ext u11 x6 := by rw [hx6]; exact ((Ext.refl _).alloc _)
        have bg1 : Bl x6 (u11.heap.size) #[.int .i64 s0, .int .i64 s1, .slice a11 n11 c11] := by rw [hx6]; exact (Bl.new (by simp))
        replace bp := Bl.ext hx bp (Nat.succ_pos _)
        replace bq := Bl.ext hx bq (Nat.succ_pos _)
        replace bz := Bl.ext hx bz (Nat.succ_pos _)
        replace bt := Bl.ext hx bt (Nat.succ_pos _)
        replace be7 := Bl.ext hx be7 (Nat.succ_pos _)
        replace be9 := Bl.ext hx be9 (Nat.succ_pos _)
        replace hs7 := hs7.ext hx
        replace hs9 := hs9.ext hx
        replace hs11 := hs11.ext hx
        replace HE := HE.trans hx
        clear hx
        clear hx6
        have hn11 : n11 = s2.length := hs11.len.symm
        generalize hT : growD s0 s1 n11 s2 m = rT at *
        have A10' := hidP (fun u t => A10.out u s0 s1 s2 a11 n11 c11 m t)
        rw [hT] at A10'
        obtain ⟨⟨t0, t1, t2⟩, t3⟩ := rT
        have HG : Hid (s3 = 0 → t3 = 0 → 0 ≤ k ∧ k ≤ 8 ∧ 0 ≤ m ∧ m ≤ 8 ∧ (k ≤ 8 - m → growD X Y n l (k + m) = ((t0, t1, t2), t3))) := hidP (fun h1 h2 => GA.out s0 s1 s2 s3 rfl h1 _ (by rw [← hn11]; exact hT) h2)
        clear hn11 hT
        go_wp2_with fail
        refine (A10'.out _ hs11).mono ?_
        rintro e u12 ⟨a12, n12, c12, rfl, hs12, hx⟩
        replace bp := Bl.ext hx bp (Nat.succ_pos _)
        replace bq := Bl.ext hx bq (Nat.succ_pos _)
        replace bz := Bl.ext hx bz (Nat.succ_pos _)
        replace bt := Bl.ext hx bt (Nat.succ_pos _)
        replace be7 := Bl.ext hx be7 (Nat.succ_pos _)
        replace be9 := Bl.ext hx be9 (Nat.succ_pos _)
        replace bg1 := Bl.ext hx bg1 (Nat.succ_pos _)
        replace hs7 := hs7.ext hx
        replace hs9 := hs9.ext hx
        replace hs11 := hs11.ext hx
        replace HE := HE.trans hx
        clear hx
        replace hs12 : SlB u12 a12 n12 c12 t2 := hs12
        go_upto_region 15 with fail
        refine absW (fun x7 hx7 => ?_)
        have hx : Ext u12 x7 := by rw [hx7]; exact ((Ext.refl _).alloc _)
        have bg2 : Bl x7 (u12.heap.size) #[.int .i64 t0, .int .i64 t1, .slice a12 n12 c12] := by rw [hx7]; exact (Bl.new (by simp))
        replace bp := Bl.ext hx bp (Nat.succ_pos _)
        replace bq := Bl.ext hx bq (Nat.succ_pos _)
        replace bz := Bl.ext hx bz (Nat.succ_pos _)
        replace bt := Bl.ext hx bt (Nat.succ_pos _)
        replace be7 := Bl.ext hx be7 (Nat.succ_pos _)
        replace be9 := Bl.ext hx be9 (Nat.succ_pos _)
        replace bg1 := Bl.ext hx bg1 (Nat.succ_pos _)
        replace hs7 := hs7.ext hx
        replace hs9 := hs9.ext hx
        replace hs11 := hs11.ext hx
        replace hs12 := hs12.ext hx
        replace HE := HE.trans hx
        clear hx
        clear hx7
        by_cases h1 : s3 = 0
        · by_cases h2 : t3 = 0
          · obtain ⟨k1, k2, k3, k4, kk⟩ := HG.out h1 h2
            subst h1
            subst h2
            have hw1 : wrap64 (8 - m) = 8 - m := by unfold wrap64; omega
            have hw2 : wrap64 (k + m) = k + m := by unfold wrap64; omega
            by_cases h3 : k ≤ 8 - m
            · have A11 := hidP (fun (u : World) (t : SlB u a n c l) => A9.out u (k + m) t)
              rw [kk h3] at A11
              clear kk
              go_wp2_with fail
              refine (A11.out _ (H.out.ext HE)).mono ?_
              rintro e u13 ⟨a13, n13, c13, rfl, hs13, hx⟩
              replace bp := Bl.ext hx bp (Nat.succ_pos _)
              replace bq := Bl.ext hx bq (Nat.succ_pos _)
              replace bz := Bl.ext hx bz (Nat.succ_pos _)
              replace bt := Bl.ext hx bt (Nat.succ_pos _)
              replace be7 := Bl.ext hx be7 (Nat.succ_pos _)
              replace be9 := Bl.ext hx be9 (Nat.succ_pos _)
              replace bg1 := Bl.ext hx bg1 (Nat.succ_pos _)
              replace bg2 := Bl.ext hx bg2 (Nat.succ_pos _)
              replace hs7 := hs7.ext hx
              replace hs9 := hs9.ext hx
              replace hs11 := hs11.ext hx
              replace hs12 := hs12.ext hx
              replace HE := HE.trans hx
              clear hx
              replace hs13 : SlB u13 a13 n13 c13 t2 := hs13
              go_upto_region 17 with fail
              refine absW (fun x8 hx8 => ?_)
              have hx : Ext u13 x8 := by rw [hx8]; exact ((Ext.refl _).alloc _)
              have bg3 : Bl x8 (u13.heap.size) #[.int .i64 t0, .int .i64 t1, .slice a13 n13 c13] := by rw [hx8]; exact (Bl.new (by simp))
              replace bp := Bl.ext hx bp (Nat.succ_pos _)
              replace bq := Bl.ext hx bq (Nat.succ_pos _)
              replace bz := Bl.ext hx bz (Nat.succ_pos _)
              replace bt := Bl.ext hx bt (Nat.succ_pos _)
              replace be7 := Bl.ext hx be7 (Nat.succ_pos _)
              replace be9 := Bl.ext hx be9 (Nat.succ_pos _)
              replace bg1 := Bl.ext hx bg1 (Nat.succ_pos _)
              replace bg2 := Bl.ext hx bg2 (Nat.succ_pos _)
              replace hs7 := hs7.ext hx
              replace hs9 := hs9.ext hx
              replace hs11 := hs11.ext hx
              replace hs12 := hs12.ext hx
              replace hs13 := hs13.ext hx
              replace HE := HE.trans hx
              clear hx
              clear hx8
              go_wp2_with fail
              refine (S1.out _ t0 t1 _ _ _ _ _ _ _ hs13 hs12).mono ?_
              rintro e u14 ⟨rfl, hx⟩
              replace bp := Bl.ext hx bp (Nat.succ_pos _)
              replace bq := Bl.ext hx bq (Nat.succ_pos _)
              replace bz := Bl.ext hx bz (Nat.succ_pos _)
              replace bt := Bl.ext hx bt (Nat.succ_pos _)
              replace be7 := Bl.ext hx be7 (Nat.succ_pos _)
              replace be9 := Bl.ext hx be9 (Nat.succ_pos _)
              replace bg1 := Bl.ext hx bg1 (Nat.succ_pos _)
              replace bg2 := Bl.ext hx bg2 (Nat.succ_pos _)
              replace bg3 := Bl.ext hx bg3 (Nat.succ_pos _)
              replace hs7 := hs7.ext hx
              replace hs9 := hs9.ext hx
              replace hs11 := hs11.ext hx
              replace hs12 := hs12.ext hx
              replace hs13 := hs13.ext hx
              replace HE := HE.trans hx
              clear hx
              go_wp2_with fail
              refine (cells_lives _).mono ?_
              rintro e u15 ⟨rfl, hx⟩
              replace bp := Bl.ext hx bp (Nat.succ_pos _)
              replace bq := Bl.ext hx bq (Nat.succ_pos _)
              replace bz := Bl.ext hx bz (Nat.succ_pos _)
              replace bt := Bl.ext hx bt (Nat.succ_pos _)
              replace be7 := Bl.ext hx be7 (Nat.succ_pos _)
              replace be9 := Bl.ext hx be9 (Nat.succ_pos _)
              replace bg1 := Bl.ext hx bg1 (Nat.succ_pos _)
              replace bg2 := Bl.ext hx bg2 (Nat.succ_pos _)
              replace bg3 := Bl.ext hx bg3 (Nat.succ_pos _)
              replace hs7 := hs7.ext hx
              replace hs9 := hs9.ext hx
              replace hs11 := hs11.ext hx
              replace hs12 := hs12.ext hx
              replace hs13 := hs13.ext hx
              replace HE := HE.trans hx
              clear hx
              go_wp2_with fail
              go_ret
              exact ⟨rfl, HE⟩
            · clear kk
              go_wp2_with fail
              refine (cells_lives _).mono ?_
              rintro e u13 ⟨rfl, hx⟩
              replace HE := HE.trans hx
              clear hx
              go_wp2_with fail
              go_ret
              exact ⟨rfl, HE⟩
          · have hb : ((t3 : Int) == 0) = false := by simpa using h2
            subst h1
            go_wp2_with fail
            refine (cells_lives _).mono ?_
            rintro e u13 ⟨rfl, hx⟩
            replace HE := HE.trans hx
            clear hx
            go_wp2_with fail
            go_ret
            exact ⟨rfl, HE⟩
        · have hb : ((s3 : Int) == 0) = false := by simpa using h1
          go_wp2_with fail
          refine (cells_lives _).mono ?_
          rintro e u13 ⟨rfl, hx⟩
          replace HE := HE.trans hx
          clear hx
          go_wp2_with fail
          go_ret
          exact ⟨rfl, HE⟩

end Go.Proofs.Ytogcmnagiepofaa
