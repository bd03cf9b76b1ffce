/- The law of the rules of whole numbers: its walk. -/
import Derived.Test.YtcipcpbjkcpgdaaQ33
namespace Go.Proofs.Ytcipcpbjkcpgdaa
set_option linter.unusedVariables false
open Go Go.RowKit

theorem whs_three {w : World} {g N : Nat} {b1 b2 b3 : Bool} {a1 a2 a3 : Option Addr} {n1 n2 n3 c1 c2 c3 : Nat} {z1 z2 z3 : Int} (h : Bl w g #[.bool b1, .slice a1 n1 c1, .bool b2, .slice a2 n2 c2, .bool b3, .slice a3 n3 c3])
    (h1 : WhIn w b1 a1 n1 c1 z1) (h2 : WhIn w b2 a2 n2 c2 z2) (h3 : WhIn w b3 a3 n3 c3 z3) (hN : dl z1.natAbs ≤ N ∧ dl z2.natAbs ≤ N ∧ dl z3.natAbs ≤ N) : WhS w (some ⟨g, 0, none⟩) 3 3 [z1, z2, z3] N := by
  refine ⟨rfl, by omega, fun z hz => ?_, fun _ => ⟨g, 0, rfl, fun i hi => ?_⟩⟩
  · simp only [List.mem_cons, List.not_mem_nil, or_false] at hz
    rcases hz with rfl | rfl | rfl
    · exact hN.1
    · exact hN.2.1
    · exact hN.2.2
  match i, hi with
  | 0, _ => exact ⟨b1, a1, n1, c1, h 0, h 1, h1⟩
  | 1, _ => exact ⟨b2, a2, n2, c2, h 2, h 3, h2⟩
  | 2, _ => exact ⟨b3, a3, n3, c3, h 4, h 5, h3⟩
theorem whs_nil (w : World) (N : Nat) : WhS w none 0 0 [] N := ⟨rfl, by omega, fun z hz => (by cases hz), fun h => absurd h (by omega)⟩
theorem sumZ_three (q1 q2 q3 : Int) : sumZ [q1, q2, q3] = q1 + (q2 + q3) := by
  show ((0 + q1) + q2) + q3 = _
  omega
theorem sumZ_three2 (q1 q2 q3 : Int) : sumZ [q3, q1, q2] = q1 + (q2 + q3) := by
  show ((0 + q3) + q1) + q2 = _
  omega

set_option maxRecDepth 100000 in
set_option maxHeartbeats 8000000 in
theorem wholeRules_any (b : Bool) (a : Option Addr) (n c : Nat) (l : List Nat) (b' : Bool) (a' : Option Addr) (n' c' : Nat) (l' : List Nat) (b'' : Bool) (a'' : Option Addr) (n'' c'' : Nat) (l'' : List Nat) (w : World)
    (hs : Sl w a n c (ints .u32 l)) (hl : Ws l) (hn : n ≤ 1048576) (hs' : Sl w a' n' c' (ints .u32 l')) (hl' : Ws l') (hn' : n' ≤ 1048576) (hs'' : Sl w a'' n'' c'' (ints .u32 l'')) (hl'' : Ws l'') (hn'' : n'' ≤ 1048576) :
    Calls Try.prog 15 #[.agg #[.bool b, .slice a n c], .agg #[.bool b', .slice a' n' c'], .agg #[.bool b'', .slice a'' n'' c'']] w fun e w' => e = .returned (.bool true) ∧ Ext w w' := by
  obtain ⟨h, l1⟩ := wh_of (neg := b) hs hl (by omega)
  obtain ⟨h', l2⟩ := wh_of (neg := b') hs' hl' (by omega)
  obtain ⟨h'', l3⟩ := wh_of (neg := b'') hs'' hl'' (by omega)
  generalize wz b (val B32 l) = z at *
  generalize wz b' (val B32 l') = z' at *
  generalize wz b'' (val B32 l'') = z'' at *
  have x1 : dl (z' + z'').natAbs ≤ 1048577 := dz_add (by omega) (by omega)
  have x2 : dl (z * z').natAbs ≤ 2097152 := by have := dz_mul z z'; omega
  have x3 : dl (z * z'').natAbs ≤ 2097152 := by have := dz_mul z z''; omega
  have x4 : dl (z + z'').natAbs ≤ 1048577 := dz_add (by omega) (by omega)
  have x5 : dl (z * (z' + z'')).natAbs ≤ 2097153 := by have := dz_mul z (z' + z''); omega
  have x6 : dl (z + (z' + z'')).natAbs ≤ 1048578 := dz_add (by omega) (by omega)
  have L1 := hidP x1; have L2 := hidP x2; have L3 := hidP x3; have L4 := hidP x4; have L5 := hidP x5; have L6 := hidP x6
  have LL : Hid (dl z.natAbs ≤ 1048576 ∧ dl z'.natAbs ≤ 1048576 ∧ dl z''.natAbs ≤ 1048576) := hidP ⟨by omega, by omega, by omega⟩
  have hdist : z * z' + z * z'' = z * (z' + z'') := (Int.mul_add z z' z'').symm
  have hcmp : (z + z'') - (z' + z'') = z - z' := by omega
  have hsum := sumZ_three z z' z''
  have hsum2 := sumZ_three2 z z' z''
  have hsum0 : sumZ [] = 0 := rfl
  have A1 := fun (u : World) (t1 : WhIn u b' a' n' c' z') (t2 : WhIn u b'' a'' n'' c'' z'') => w_AddW t1 t2
  have A2 := fun (u : World) (t1 : WhIn u b a n c z) (t2 : WhIn u b' a' n' c' z') => w_Mul_any _ _ _ _ _ _ _ _ _ _ u t1 t2
  have A3 := fun (u : World) (t1 : WhIn u b a n c z) (t2 : WhIn u b'' a'' n'' c'' z'') => w_Mul_any _ _ _ _ _ _ _ _ _ _ u t1 t2
  have A4 := fun (u : World) (t1 : WhIn u b a n c z) (t2 : WhIn u b'' a'' n'' c'' z'') => w_AddW t1 t2
  have A5 := fun (u : World) (t1 : WhIn u b a n c z) (b2 : Bool) (a2 : Option Addr) (n2 c2 : Nat) (t2 : WhIn u b2 a2 n2 c2 (z' + z'')) => w_Mul_any _ _ _ _ _ _ _ _ _ _ u t1 t2
  have A6 := fun (u : World) (b1 : Bool) (a1 : Option Addr) (n1 c1 : Nat) (t1 : WhIn u b1 a1 n1 c1 (z * z')) (b2 : Bool) (a2 : Option Addr) (n2 c2 : Nat) (t2 : WhIn u b2 a2 n2 c2 (z * z'')) => w_AddW t1 t2
  have A7 := fun (u : World) (t1 : WhIn u b a n c z) (b2 : Bool) (a2 : Option Addr) (n2 c2 : Nat) (t2 : WhIn u b2 a2 n2 c2 (z' + z'')) => w_AddW t1 t2
  have A8 := fun (u : World) (t1 : WhIn u b a n c z) (t2 : WhIn u b' a' n' c' z') => w_Cmp_any _ _ _ _ _ _ _ _ _ _ u t1 t2
  have A9 := fun (u : World) (b1 : Bool) (a1 : Option Addr) (n1 c1 : Nat) (t1 : WhIn u b1 a1 n1 c1 (z + z'')) (b2 : Bool) (a2 : Option Addr) (n2 c2 : Nat) (t2 : WhIn u b2 a2 n2 c2 (z' + z'')) => w_Cmp_any _ _ _ _ _ _ _ _ _ _ u t1 t2
  rw [hdist] at A6
  rw [hcmp] at A9
  generalize sgn (z - z') = cc at *
  generalize z * (z' + z'') = r5 at *
  generalize z + (z' + z'') = r6 at *
  generalize z' + z'' = r1 at *
  generalize z * z' = r2 at *
  generalize z * z'' = r3 at *
  generalize z + z'' = r4 at *
  have A1 := hidP A1
  have A2 := hidP A2
  have A3 := hidP A3
  have A4 := hidP A4
  have A5 := hidP A5
  have A6 := hidP A6
  have A7 := hidP A7
  have A8 := hidP A8
  have A9 := hidP A9
  have HS1 := hidP hsum; have HS2 := hidP hsum2; have HS0 := hidP hsum0
  have H := hidP h
  have H' := hidP h'
  have H'' := hidP h''
  clear hdist hcmp hsum hsum2 hsum0 x1 x2 x3 x4 x5 x6 h hs hl h' hs' hl' h'' hs'' hl'' l1 l2 l3
  go_enter Try.func15, Try.ntmps15
  go_upto_region 1 with fail
  refine absW (fun x1 hx1 => ?_)
  have hx : Ext w x1 := by rw [hx1]; exact ((((Ext.refl _).alloc _).alloc _).alloc _)
  have bp : Bl x1 (w.heap.size) #[.bool b, .slice a n c] := by rw [hx1]; exact (((Bl.new (by simp)).alloc (by simp)).alloc (by simp))
  have bq : Bl x1 (w.heap.size + 1) #[.bool b', .slice a' n' c'] := by rw [hx1]; exact ((Bl.new (by simp)).alloc (by simp))
  have br : Bl x1 (w.heap.size + 1 + 1) #[.bool b'', .slice a'' n'' c''] := by rw [hx1]; exact (Bl.new (by simp))
  have HE := hx
  clear hx
  clear hx1
  go_cut [7] (fun vx wx => ∃ (gx : Nat) (ax : Option Addr) (nx cx : Nat), vx = .pointer (some ⟨gx, 0, none⟩) ∧ Bl wx gx #[.bool (decide (r5 < 0)), .slice ax nx cx] ∧ Nc wx ax nx cx (r5).natAbs ∧ Ext x1 wx)
  case first =>
    have HE0 := hidP HE
    clear HE
    have HE := Ext.refl x1
    refine wp_region_plan (R := Ext) (.q 0 (.q 1 (.q 2 (.br 3 (.br 4 (.l 5 (.b 6 .done)) (.l 5 (.l 4 (.b 6 .done)))) (.l 5 (.l 3 (.l 4 (.b 6 .done)))))))) (by kernel_rfl) (by kernel_rfl) (by kernel_rfl) (by kernel_rfl) Ext.refl (fun _ _ _ => Ext.trans) ?_
    refine absE (fun x2 hx2 => ?_)
    have hx : Ext x1 x2 := by rw [hx2]; exact (Ext.refl _).drew
    replace bp := Bl.ext hx bp (Nat.succ_pos _)
    replace bq := Bl.ext hx bq (Nat.succ_pos _)
    replace br := Bl.ext hx br (Nat.succ_pos _)
    replace HE := HE.trans hx
    clear hx
    clear hx2
    repeat (refine wpE_q (v := ?_) rfl rfl (fun u hu => ?_) ?_; rotate_left 1; (focus (have kp := Bl.ext hu bp (Nat.succ_pos _); have kq := Bl.ext hu bq (Nat.succ_pos _); have kr := Bl.ext hu br (Nat.succ_pos _); go_simp; (try rfl))); simp only [Act.put, List.setIfInBounds_toArray, List.set_cons_zero, List.set_cons_succ])
    refine wpE_br rfl rfl (fun K hK => ?_) ?_
    · go_simp
      refine (A1.out _ ((H'.out.ext HE0.out).ext HE) ((H''.out.ext HE0.out).ext HE)).mono ?_
      rintro e u3 ⟨a3, n3, c3, rfl, hs3, hx⟩
      refine hK.out _ _ hx ?_
      clear hK K
      try simp only [Act.put, List.setIfInBounds_toArray, List.set_cons_zero, List.set_cons_succ]
      replace bp := Bl.ext hx bp (Nat.succ_pos _)
      replace bq := Bl.ext hx bq (Nat.succ_pos _)
      replace br := Bl.ext hx br (Nat.succ_pos _)
      replace HE := HE.trans hx
      clear hx
      replace hs3 : Nc u3 a3 n3 c3 (r1).natAbs := hs3
      refine wpE_br rfl rfl (fun K hK => ?_) ?_
      · go_simp
        refine (A5.out _ ((H.out.ext HE0.out).ext HE) _ _ _ _ (hs3.wh (by have := L1.out; omega))).mono ?_
        rintro e u4 ⟨a4, n4, c4, rfl, hs4, hx⟩
        refine hK.out _ _ hx ?_
        clear hK K
        try simp only [Act.put, List.setIfInBounds_toArray, List.set_cons_zero, List.set_cons_succ]
        replace bp := Bl.ext hx bp (Nat.succ_pos _)
        replace bq := Bl.ext hx bq (Nat.succ_pos _)
        replace br := Bl.ext hx br (Nat.succ_pos _)
        replace hs3 := hs3.ext hx
        replace HE := HE.trans hx
        clear hx
        replace hs4 : Nc u4 a4 n4 c4 (r5).natAbs := hs4
        refine wpE_l rfl rfl (fun K hK => ?_)
        go_simp
        refine hK.out _ _ ((Ext.refl _).alloc _) ?_
        clear hK K
        try simp only [Act.put, List.setIfInBounds_toArray, List.set_cons_zero, List.set_cons_succ]
        have lpx := bp.lt (Nat.succ_pos _)
        have lqx := bq.lt (Nat.succ_pos _)
        have lrx := br.lt (Nat.succ_pos _)
        have l0x := HE.size
        refine absE (fun x3 hx3 => ?_)
        have hx : Ext u4 x3 := by rw [hx3]; exact ((Ext.refl _).alloc _)
        have bx : Bl x3 (u4.heap.size) #[.bool false, .slice none 0 0] := by rw [hx3]; exact (Bl.new (by simp))
        have fx : Fz x3 (u4.heap.size) := by rw [hx3]; exact (Fz.new (by simp))
        replace bp := Bl.ext hx bp (Nat.succ_pos _)
        replace bq := Bl.ext hx bq (Nat.succ_pos _)
        replace br := Bl.ext hx br (Nat.succ_pos _)
        replace hs3 := hs3.ext hx
        replace hs4 := hs4.ext hx
        replace HE := HE.trans hx
        clear hx
        clear hx3
        refine wpE_b rfl rfl (fun K hK => ?_)
        go_simp
        refine hK.out _ _ ?_
        clear hK K
        try simp only [Act.put, List.setIfInBounds_toArray, List.set_cons_zero, List.set_cons_succ]
        refine absE (fun x4 hx4 => ?_)
        have hbut : But x3 x4 (u4.heap.size) := by rw [hx4]; exact (But.refl _ _).store.store
        have hbn : Bl x4 (u4.heap.size) #[(.bool (decide (r5 < 0))), .slice a4 n4 c4] := by rw [hx4]; exact (Bl.set (Bl.set bx (by simp)) (by simp))
        replace hs3 := hs3.but bx (not_ints2 nb_bool nb_slice) hbut
        replace hs4 := hs4.but bx (not_ints2 nb_bool nb_slice) hbut
        replace bp := But.bl hbut bp (Nat.succ_pos _) (by omega)
        replace bq := But.bl hbut bq (Nat.succ_pos _) (by omega)
        replace br := But.bl hbut br (Nat.succ_pos _) (by omega)
        replace fx : Fz x4 (u4.heap.size) := by rw [hx4]; exact (Fz.set (Fz.set fx))
        replace HE : Ext x1 x4 := by rw [hx4]; exact ((HE.store (by show x1.heap.size ≤ u4.heap.size; omega) _).store (by show x1.heap.size ≤ u4.heap.size; omega) _)
        clear bx hbut hx4
        have bx := hbn
        clear hbn
        refine wpE_done ?_
        go_wp2_with fail
        go_meet
        exact ⟨u4.heap.size, a4, n4, c4, rfl, bx, hs4, HE⟩
      · refine wpE_l rfl rfl (fun K hK => ?_)
        go_simp
        refine hK.out _ _ ((Ext.refl _).alloc _) ?_
        clear hK K
        try simp only [Act.put, List.setIfInBounds_toArray, List.set_cons_zero, List.set_cons_succ]
        have lpx := bp.lt (Nat.succ_pos _)
        have lqx := bq.lt (Nat.succ_pos _)
        have lrx := br.lt (Nat.succ_pos _)
        have l0x := HE.size
        refine absE (fun x3 hx3 => ?_)
        have hx : Ext u3 x3 := by rw [hx3]; exact ((Ext.refl _).alloc _)
        have bx : Bl x3 (u3.heap.size) #[.bool false, .slice none 0 0] := by rw [hx3]; exact (Bl.new (by simp))
        have fx : Fz x3 (u3.heap.size) := by rw [hx3]; exact (Fz.new (by simp))
        replace bp := Bl.ext hx bp (Nat.succ_pos _)
        replace bq := Bl.ext hx bq (Nat.succ_pos _)
        replace br := Bl.ext hx br (Nat.succ_pos _)
        replace hs3 := hs3.ext hx
        replace HE := HE.trans hx
        clear hx
        clear hx3
        refine wpE_l rfl rfl (fun K hK => ?_)
        go_simp
        refine (A5.out _ ((H.out.ext HE0.out).ext HE) _ _ _ _ (hs3.wh (by have := L1.out; omega))).mono ?_
        rintro e u4 ⟨a4, n4, c4, rfl, hs4, hx⟩
        refine hK.out _ _ hx ?_
        clear hK K
        try simp only [Act.put, List.setIfInBounds_toArray, List.set_cons_zero, List.set_cons_succ]
        replace bp := Bl.ext hx bp (Nat.succ_pos _)
        replace bq := Bl.ext hx bq (Nat.succ_pos _)
        replace br := Bl.ext hx br (Nat.succ_pos _)
        replace fx := Fz.ext hx fx bx (Nat.succ_pos _)
        replace bx := Bl.ext hx bx (Nat.succ_pos _)
        replace hs3 := hs3.ext hx
        replace HE := HE.trans hx
        clear hx
        replace hs4 : Nc u4 a4 n4 c4 (r5).natAbs := hs4
        refine wpE_b rfl rfl (fun K hK => ?_)
        go_simp
        refine hK.out _ _ ?_
        clear hK K
        try simp only [Act.put, List.setIfInBounds_toArray, List.set_cons_zero, List.set_cons_succ]
        refine absE (fun x4 hx4 => ?_)
        have hbut : But u4 x4 (u3.heap.size) := by rw [hx4]; exact (But.refl _ _).store.store
        have hbn : Bl x4 (u3.heap.size) #[(.bool (decide (r5 < 0))), .slice a4 n4 c4] := by rw [hx4]; exact (Bl.set (Bl.set bx (by simp)) (by simp))
        replace hs3 := hs3.but bx (not_ints2 nb_bool nb_slice) hbut
        replace hs4 := hs4.but bx (not_ints2 nb_bool nb_slice) hbut
        replace bp := But.bl hbut bp (Nat.succ_pos _) (by omega)
        replace bq := But.bl hbut bq (Nat.succ_pos _) (by omega)
        replace br := But.bl hbut br (Nat.succ_pos _) (by omega)
        replace fx : Fz x4 (u3.heap.size) := by rw [hx4]; exact (Fz.set (Fz.set fx))
        replace HE : Ext x1 x4 := by rw [hx4]; exact ((HE.store (by show x1.heap.size ≤ u3.heap.size; omega) _).store (by show x1.heap.size ≤ u3.heap.size; omega) _)
        clear bx hbut hx4
        have bx := hbn
        clear hbn
        refine wpE_done ?_
        go_wp2_with fail
        go_meet
        exact ⟨u3.heap.size, a4, n4, c4, rfl, bx, hs4, HE⟩
    · refine wpE_l rfl rfl (fun K hK => ?_)
      go_simp
      refine hK.out _ _ ((Ext.refl _).alloc _) ?_
      clear hK K
      try simp only [Act.put, List.setIfInBounds_toArray, List.set_cons_zero, List.set_cons_succ]
      have lpx := bp.lt (Nat.succ_pos _)
      have lqx := bq.lt (Nat.succ_pos _)
      have lrx := br.lt (Nat.succ_pos _)
      have l0x := HE.size
      refine absE (fun x3 hx3 => ?_)
      have hx : Ext x2 x3 := by rw [hx3]; exact ((Ext.refl _).alloc _)
      have bx : Bl x3 (x2.heap.size) #[.bool false, .slice none 0 0] := by rw [hx3]; exact (Bl.new (by simp))
      have fx : Fz x3 (x2.heap.size) := by rw [hx3]; exact (Fz.new (by simp))
      replace bp := Bl.ext hx bp (Nat.succ_pos _)
      replace bq := Bl.ext hx bq (Nat.succ_pos _)
      replace br := Bl.ext hx br (Nat.succ_pos _)
      replace HE := HE.trans hx
      clear hx
      clear hx3
      refine wpE_l rfl rfl (fun K hK => ?_)
      go_simp
      refine (A1.out _ ((H'.out.ext HE0.out).ext HE) ((H''.out.ext HE0.out).ext HE)).mono ?_
      rintro e u3 ⟨a3, n3, c3, rfl, hs3, hx⟩
      refine hK.out _ _ hx ?_
      clear hK K
      try simp only [Act.put, List.setIfInBounds_toArray, List.set_cons_zero, List.set_cons_succ]
      replace bp := Bl.ext hx bp (Nat.succ_pos _)
      replace bq := Bl.ext hx bq (Nat.succ_pos _)
      replace br := Bl.ext hx br (Nat.succ_pos _)
      replace fx := Fz.ext hx fx bx (Nat.succ_pos _)
      replace bx := Bl.ext hx bx (Nat.succ_pos _)
      replace HE := HE.trans hx
      clear hx
      replace hs3 : Nc u3 a3 n3 c3 (r1).natAbs := hs3
      refine wpE_l rfl rfl (fun K hK => ?_)
      go_simp
      refine (A5.out _ ((H.out.ext HE0.out).ext HE) _ _ _ _ (hs3.wh (by have := L1.out; omega))).mono ?_
      rintro e u4 ⟨a4, n4, c4, rfl, hs4, hx⟩
      refine hK.out _ _ hx ?_
      clear hK K
      try simp only [Act.put, List.setIfInBounds_toArray, List.set_cons_zero, List.set_cons_succ]
      replace bp := Bl.ext hx bp (Nat.succ_pos _)
      replace bq := Bl.ext hx bq (Nat.succ_pos _)
      replace br := Bl.ext hx br (Nat.succ_pos _)
      replace fx := Fz.ext hx fx bx (Nat.succ_pos _)
      replace bx := Bl.ext hx bx (Nat.succ_pos _)
      replace hs3 := hs3.ext hx
      replace HE := HE.trans hx
      clear hx
      replace hs4 : Nc u4 a4 n4 c4 (r5).natAbs := hs4
      refine wpE_b rfl rfl (fun K hK => ?_)
      go_simp
      refine hK.out _ _ ?_
      clear hK K
      try simp only [Act.put, List.setIfInBounds_toArray, List.set_cons_zero, List.set_cons_succ]
      refine absE (fun x4 hx4 => ?_)
      have hbut : But u4 x4 (x2.heap.size) := by rw [hx4]; exact (But.refl _ _).store.store
      have hbn : Bl x4 (x2.heap.size) #[(.bool (decide (r5 < 0))), .slice a4 n4 c4] := by rw [hx4]; exact (Bl.set (Bl.set bx (by simp)) (by simp))
      replace hs3 := hs3.but bx (not_ints2 nb_bool nb_slice) hbut
      replace hs4 := hs4.but bx (not_ints2 nb_bool nb_slice) hbut
      replace bp := But.bl hbut bp (Nat.succ_pos _) (by omega)
      replace bq := But.bl hbut bq (Nat.succ_pos _) (by omega)
      replace br := But.bl hbut br (Nat.succ_pos _) (by omega)
      replace fx : Fz x4 (x2.heap.size) := by rw [hx4]; exact (Fz.set (Fz.set fx))
      replace HE : Ext x1 x4 := by rw [hx4]; exact ((HE.store (by show x1.heap.size ≤ x2.heap.size; omega) _).store (by show x1.heap.size ≤ x2.heap.size; omega) _)
      clear bx hbut hx4
      have bx := hbn
      clear hbn
      refine wpE_done ?_
      go_wp2_with fail
      go_meet
      exact ⟨x2.heap.size, a4, n4, c4, rfl, bx, hs4, HE⟩
  case rest =>
    obtain ⟨gx, ax, nx, cx, rfl, bx, hsx, hx⟩ := hcut
    replace bp := Bl.ext hx bp (Nat.succ_pos _)
    replace bq := Bl.ext hx bq (Nat.succ_pos _)
    replace br := Bl.ext hx br (Nat.succ_pos _)
    replace HE := HE.trans hx
    clear hx
    go_upto_region 2 with fail
    go_cut [8] (fun vv wx => ∃ (gv : Nat) (av : Option Addr) (nv cv : Nat), vv = .pointer (some ⟨gv, 0, none⟩) ∧ Bl wx gv #[.bool (decide (r5 < 0)), .slice av nv cv] ∧ Nc wx av nv cv (r5).natAbs ∧ Ext wc wx)
    case first =>
      have HE0 := hidP HE
      clear HE
      have HE := Ext.refl wc
      refine wp_region_plan (R := Ext) (.q 0 (.q 1 (.q 3 (.q 4 (.br 2 (.br 5 (.br 6 (.l 7 (.b 8 .done)) (.l 7 (.l 6 (.b 8 .done)))) (.l 7 (.l 5 (.l 6 (.b 8 .done))))) (.l 7 (.l 2 (.l 5 (.l 6 (.b 8 .done)))))))))) (by kernel_rfl) (by kernel_rfl) (by kernel_rfl) (by kernel_rfl) Ext.refl (fun _ _ _ => Ext.trans) ?_
      refine absE (fun x2 hx2 => ?_)
      have hx : Ext wc x2 := by rw [hx2]; exact (Ext.refl _).drew
      replace bp := Bl.ext hx bp (Nat.succ_pos _)
      replace bq := Bl.ext hx bq (Nat.succ_pos _)
      replace br := Bl.ext hx br (Nat.succ_pos _)
      replace bx := Bl.ext hx bx (Nat.succ_pos _)
      replace hsx := hsx.ext hx
      replace HE := HE.trans hx
      clear hx
      clear hx2
      repeat (refine wpE_q (v := ?_) rfl rfl (fun u hu => ?_) ?_; rotate_left 1; (focus (have kp := Bl.ext hu bp (Nat.succ_pos _); have kq := Bl.ext hu bq (Nat.succ_pos _); have kr := Bl.ext hu br (Nat.succ_pos _); have kx := Bl.ext hu bx (Nat.succ_pos _); go_simp; (try rfl))); simp only [Act.put, List.setIfInBounds_toArray, List.set_cons_zero, List.set_cons_succ])
      refine wpE_br rfl rfl (fun K hK => ?_) ?_
      · go_simp
        refine (A2.out _ ((H.out.ext HE0.out).ext HE) ((H'.out.ext HE0.out).ext HE)).mono ?_
        rintro e u2 ⟨a2, n2, c2, rfl, hs2, hx⟩
        refine hK.out _ _ hx ?_
        clear hK K
        try simp only [Act.put, List.setIfInBounds_toArray, List.set_cons_zero, List.set_cons_succ]
        replace bp := Bl.ext hx bp (Nat.succ_pos _)
        replace bq := Bl.ext hx bq (Nat.succ_pos _)
        replace br := Bl.ext hx br (Nat.succ_pos _)
        replace bx := Bl.ext hx bx (Nat.succ_pos _)
        replace hsx := hsx.ext hx
        replace HE := HE.trans hx
        clear hx
        replace hs2 : Nc u2 a2 n2 c2 (r2).natAbs := hs2
        refine wpE_br rfl rfl (fun K hK => ?_) ?_
        · go_simp
          refine (A3.out _ ((H.out.ext HE0.out).ext HE) ((H''.out.ext HE0.out).ext HE)).mono ?_
          rintro e u5 ⟨a5, n5, c5, rfl, hs5, hx⟩
          refine hK.out _ _ hx ?_
          clear hK K
          try simp only [Act.put, List.setIfInBounds_toArray, List.set_cons_zero, List.set_cons_succ]
          replace bp := Bl.ext hx bp (Nat.succ_pos _)
          replace bq := Bl.ext hx bq (Nat.succ_pos _)
          replace br := Bl.ext hx br (Nat.succ_pos _)
          replace bx := Bl.ext hx bx (Nat.succ_pos _)
          replace hsx := hsx.ext hx
          replace hs2 := hs2.ext hx
          replace HE := HE.trans hx
          clear hx
          replace hs5 : Nc u5 a5 n5 c5 (r3).natAbs := hs5
          refine wpE_br rfl rfl (fun K hK => ?_) ?_
          · go_simp
            refine (A6.out _ _ _ _ _ (hs2.wh (by have := L2.out; omega)) _ _ _ _ (hs5.wh (by have := L3.out; omega))).mono ?_
            rintro e u6 ⟨a6, n6, c6, rfl, hs6, hx⟩
            refine hK.out _ _ hx ?_
            clear hK K
            try simp only [Act.put, List.setIfInBounds_toArray, List.set_cons_zero, List.set_cons_succ]
            replace bp := Bl.ext hx bp (Nat.succ_pos _)
            replace bq := Bl.ext hx bq (Nat.succ_pos _)
            replace br := Bl.ext hx br (Nat.succ_pos _)
            replace bx := Bl.ext hx bx (Nat.succ_pos _)
            replace hsx := hsx.ext hx
            replace hs2 := hs2.ext hx
            replace hs5 := hs5.ext hx
            replace HE := HE.trans hx
            clear hx
            replace hs6 : Nc u6 a6 n6 c6 (r5).natAbs := hs6
            refine wpE_l rfl rfl (fun K hK => ?_)
            go_simp
            refine hK.out _ _ ((Ext.refl _).alloc _) ?_
            clear hK K
            try simp only [Act.put, List.setIfInBounds_toArray, List.set_cons_zero, List.set_cons_succ]
            have lpv := bp.lt (Nat.succ_pos _)
            have lqv := bq.lt (Nat.succ_pos _)
            have lrv := br.lt (Nat.succ_pos _)
            have lxv := bx.lt (Nat.succ_pos _)
            have l0v := HE.size
            refine absE (fun x3 hx3 => ?_)
            have hx : Ext u6 x3 := by rw [hx3]; exact ((Ext.refl _).alloc _)
            have bv : Bl x3 (u6.heap.size) #[.bool false, .slice none 0 0] := by rw [hx3]; exact (Bl.new (by simp))
            have fv : Fz x3 (u6.heap.size) := by rw [hx3]; exact (Fz.new (by simp))
            replace bp := Bl.ext hx bp (Nat.succ_pos _)
            replace bq := Bl.ext hx bq (Nat.succ_pos _)
            replace br := Bl.ext hx br (Nat.succ_pos _)
            replace bx := Bl.ext hx bx (Nat.succ_pos _)
            replace hsx := hsx.ext hx
            replace hs2 := hs2.ext hx
            replace hs5 := hs5.ext hx
            replace hs6 := hs6.ext hx
            replace HE := HE.trans hx
            clear hx
            clear hx3
            refine wpE_b rfl rfl (fun K hK => ?_)
            go_simp
            refine hK.out _ _ ?_
            clear hK K
            try simp only [Act.put, List.setIfInBounds_toArray, List.set_cons_zero, List.set_cons_succ]
            refine absE (fun x4 hx4 => ?_)
            have hbut : But x3 x4 (u6.heap.size) := by rw [hx4]; exact (But.refl _ _).store.store
            have hbn : Bl x4 (u6.heap.size) #[(.bool (decide (r5 < 0))), .slice a6 n6 c6] := by rw [hx4]; exact (Bl.set (Bl.set bv (by simp)) (by simp))
            replace hsx := hsx.but bv (not_ints2 nb_bool nb_slice) hbut
            replace hs2 := hs2.but bv (not_ints2 nb_bool nb_slice) hbut
            replace hs5 := hs5.but bv (not_ints2 nb_bool nb_slice) hbut
            replace hs6 := hs6.but bv (not_ints2 nb_bool nb_slice) hbut
            replace bp := But.bl hbut bp (Nat.succ_pos _) (by omega)
            replace bq := But.bl hbut bq (Nat.succ_pos _) (by omega)
            replace br := But.bl hbut br (Nat.succ_pos _) (by omega)
            replace bx := But.bl hbut bx (Nat.succ_pos _) (by omega)
            replace fv : Fz x4 (u6.heap.size) := by rw [hx4]; exact (Fz.set (Fz.set fv))
            replace HE : Ext wc x4 := by rw [hx4]; exact ((HE.store (by show wc.heap.size ≤ u6.heap.size; omega) _).store (by show wc.heap.size ≤ u6.heap.size; omega) _)
            clear bv hbut hx4
            have bv := hbn
            clear hbn
            refine wpE_done ?_
            go_wp2_with fail
            go_meet
            exact ⟨u6.heap.size, a6, n6, c6, rfl, bv, hs6, HE⟩
          · refine wpE_l rfl rfl (fun K hK => ?_)
            go_simp
            refine hK.out _ _ ((Ext.refl _).alloc _) ?_
            clear hK K
            try simp only [Act.put, List.setIfInBounds_toArray, List.set_cons_zero, List.set_cons_succ]
            have lpv := bp.lt (Nat.succ_pos _)
            have lqv := bq.lt (Nat.succ_pos _)
            have lrv := br.lt (Nat.succ_pos _)
            have lxv := bx.lt (Nat.succ_pos _)
            have l0v := HE.size
            refine absE (fun x3 hx3 => ?_)
            have hx : Ext u5 x3 := by rw [hx3]; exact ((Ext.refl _).alloc _)
            have bv : Bl x3 (u5.heap.size) #[.bool false, .slice none 0 0] := by rw [hx3]; exact (Bl.new (by simp))
            have fv : Fz x3 (u5.heap.size) := by rw [hx3]; exact (Fz.new (by simp))
            replace bp := Bl.ext hx bp (Nat.succ_pos _)
            replace bq := Bl.ext hx bq (Nat.succ_pos _)
            replace br := Bl.ext hx br (Nat.succ_pos _)
            replace bx := Bl.ext hx bx (Nat.succ_pos _)
            replace hsx := hsx.ext hx
            replace hs2 := hs2.ext hx
            replace hs5 := hs5.ext hx
            replace HE := HE.trans hx
            clear hx
            clear hx3
            refine wpE_l rfl rfl (fun K hK => ?_)
            go_simp
            refine (A6.out _ _ _ _ _ (hs2.wh (by have := L2.out; omega)) _ _ _ _ (hs5.wh (by have := L3.out; omega))).mono ?_
            rintro e u6 ⟨a6, n6, c6, rfl, hs6, hx⟩
            refine hK.out _ _ hx ?_
            clear hK K
            try simp only [Act.put, List.setIfInBounds_toArray, List.set_cons_zero, List.set_cons_succ]
            replace bp := Bl.ext hx bp (Nat.succ_pos _)
            replace bq := Bl.ext hx bq (Nat.succ_pos _)
            replace br := Bl.ext hx br (Nat.succ_pos _)
            replace bx := Bl.ext hx bx (Nat.succ_pos _)
            replace fv := Fz.ext hx fv bv (Nat.succ_pos _)
            replace bv := Bl.ext hx bv (Nat.succ_pos _)
            replace hsx := hsx.ext hx
            replace hs2 := hs2.ext hx
            replace hs5 := hs5.ext hx
            replace HE := HE.trans hx
            clear hx
            replace hs6 : Nc u6 a6 n6 c6 (r5).natAbs := hs6
            refine wpE_b rfl rfl (fun K hK => ?_)
            go_simp
            refine hK.out _ _ ?_
            clear hK K
            try simp only [Act.put, List.setIfInBounds_toArray, List.set_cons_zero, List.set_cons_succ]
            refine absE (fun x4 hx4 => ?_)
            have hbut : But u6 x4 (u5.heap.size) := by rw [hx4]; exact (But.refl _ _).store.store
            have hbn : Bl x4 (u5.heap.size) #[(.bool (decide (r5 < 0))), .slice a6 n6 c6] := by rw [hx4]; exact (Bl.set (Bl.set bv (by simp)) (by simp))
            replace hsx := hsx.but bv (not_ints2 nb_bool nb_slice) hbut
            replace hs2 := hs2.but bv (not_ints2 nb_bool nb_slice) hbut
            replace hs5 := hs5.but bv (not_ints2 nb_bool nb_slice) hbut
            replace hs6 := hs6.but bv (not_ints2 nb_bool nb_slice) hbut
            replace bp := But.bl hbut bp (Nat.succ_pos _) (by omega)
            replace bq := But.bl hbut bq (Nat.succ_pos _) (by omega)
            replace br := But.bl hbut br (Nat.succ_pos _) (by omega)
            replace bx := But.bl hbut bx (Nat.succ_pos _) (by omega)
            replace fv : Fz x4 (u5.heap.size) := by rw [hx4]; exact (Fz.set (Fz.set fv))
            replace HE : Ext wc x4 := by rw [hx4]; exact ((HE.store (by show wc.heap.size ≤ u5.heap.size; omega) _).store (by show wc.heap.size ≤ u5.heap.size; omega) _)
            clear bv hbut hx4
            have bv := hbn
            clear hbn
            refine wpE_done ?_
            go_wp2_with fail
            go_meet
            exact ⟨u5.heap.size, a6, n6, c6, rfl, bv, hs6, HE⟩
        · refine wpE_l rfl rfl (fun K hK => ?_)
          go_simp
          refine hK.out _ _ ((Ext.refl _).alloc _) ?_
          clear hK K
          try simp only [Act.put, List.setIfInBounds_toArray, List.set_cons_zero, List.set_cons_succ]
          have lpv := bp.lt (Nat.succ_pos _)
          have lqv := bq.lt (Nat.succ_pos _)
          have lrv := br.lt (Nat.succ_pos _)
          have lxv := bx.lt (Nat.succ_pos _)
          have l0v := HE.size
          refine absE (fun x3 hx3 => ?_)
          have hx : Ext u2 x3 := by rw [hx3]; exact ((Ext.refl _).alloc _)
          have bv : Bl x3 (u2.heap.size) #[.bool false, .slice none 0 0] := by rw [hx3]; exact (Bl.new (by simp))
          have fv : Fz x3 (u2.heap.size) := by rw [hx3]; exact (Fz.new (by simp))
          replace bp := Bl.ext hx bp (Nat.succ_pos _)
          replace bq := Bl.ext hx bq (Nat.succ_pos _)
          replace br := Bl.ext hx br (Nat.succ_pos _)
          replace bx := Bl.ext hx bx (Nat.succ_pos _)
          replace hsx := hsx.ext hx
          replace hs2 := hs2.ext hx
          replace HE := HE.trans hx
          clear hx
          clear hx3
          refine wpE_l rfl rfl (fun K hK => ?_)
          go_simp
          refine (A3.out _ ((H.out.ext HE0.out).ext HE) ((H''.out.ext HE0.out).ext HE)).mono ?_
          rintro e u5 ⟨a5, n5, c5, rfl, hs5, hx⟩
          refine hK.out _ _ hx ?_
          clear hK K
          try simp only [Act.put, List.setIfInBounds_toArray, List.set_cons_zero, List.set_cons_succ]
          replace bp := Bl.ext hx bp (Nat.succ_pos _)
          replace bq := Bl.ext hx bq (Nat.succ_pos _)
          replace br := Bl.ext hx br (Nat.succ_pos _)
          replace bx := Bl.ext hx bx (Nat.succ_pos _)
          replace fv := Fz.ext hx fv bv (Nat.succ_pos _)
          replace bv := Bl.ext hx bv (Nat.succ_pos _)
          replace hsx := hsx.ext hx
          replace hs2 := hs2.ext hx
          replace HE := HE.trans hx
          clear hx
          replace hs5 : Nc u5 a5 n5 c5 (r3).natAbs := hs5
          refine wpE_l rfl rfl (fun K hK => ?_)
          go_simp
          refine (A6.out _ _ _ _ _ (hs2.wh (by have := L2.out; omega)) _ _ _ _ (hs5.wh (by have := L3.out; omega))).mono ?_
          rintro e u6 ⟨a6, n6, c6, rfl, hs6, hx⟩
          refine hK.out _ _ hx ?_
          clear hK K
          try simp only [Act.put, List.setIfInBounds_toArray, List.set_cons_zero, List.set_cons_succ]
          replace bp := Bl.ext hx bp (Nat.succ_pos _)
          replace bq := Bl.ext hx bq (Nat.succ_pos _)
          replace br := Bl.ext hx br (Nat.succ_pos _)
          replace bx := Bl.ext hx bx (Nat.succ_pos _)
          replace fv := Fz.ext hx fv bv (Nat.succ_pos _)
          replace bv := Bl.ext hx bv (Nat.succ_pos _)
          replace hsx := hsx.ext hx
          replace hs2 := hs2.ext hx
          replace hs5 := hs5.ext hx
          replace HE := HE.trans hx
          clear hx
          replace hs6 : Nc u6 a6 n6 c6 (r5).natAbs := hs6
          refine wpE_b rfl rfl (fun K hK => ?_)
          go_simp
          refine hK.out _ _ ?_
          clear hK K
          try simp only [Act.put, List.setIfInBounds_toArray, List.set_cons_zero, List.set_cons_succ]
          refine absE (fun x4 hx4 => ?_)
          have hbut : But u6 x4 (u2.heap.size) := by rw [hx4]; exact (But.refl _ _).store.store
          have hbn : Bl x4 (u2.heap.size) #[(.bool (decide (r5 < 0))), .slice a6 n6 c6] := by rw [hx4]; exact (Bl.set (Bl.set bv (by simp)) (by simp))
          replace hsx := hsx.but bv (not_ints2 nb_bool nb_slice) hbut
          replace hs2 := hs2.but bv (not_ints2 nb_bool nb_slice) hbut
          replace hs5 := hs5.but bv (not_ints2 nb_bool nb_slice) hbut
          replace hs6 := hs6.but bv (not_ints2 nb_bool nb_slice) hbut
          replace bp := But.bl hbut bp (Nat.succ_pos _) (by omega)
          replace bq := But.bl hbut bq (Nat.succ_pos _) (by omega)
          replace br := But.bl hbut br (Nat.succ_pos _) (by omega)
          replace bx := But.bl hbut bx (Nat.succ_pos _) (by omega)
          replace fv : Fz x4 (u2.heap.size) := by rw [hx4]; exact (Fz.set (Fz.set fv))
          replace HE : Ext wc x4 := by rw [hx4]; exact ((HE.store (by show wc.heap.size ≤ u2.heap.size; omega) _).store (by show wc.heap.size ≤ u2.heap.size; omega) _)
          clear bv hbut hx4
          have bv := hbn
          clear hbn
          refine wpE_done ?_
          go_wp2_with fail
          go_meet
          exact ⟨u2.heap.size, a6, n6, c6, rfl, bv, hs6, HE⟩
      · refine wpE_l rfl rfl (fun K hK => ?_)
        go_simp
        refine hK.out _ _ ((Ext.refl _).alloc _) ?_
        clear hK K
        try simp only [Act.put, List.setIfInBounds_toArray, List.set_cons_zero, List.set_cons_succ]
        have lpv := bp.lt (Nat.succ_pos _)
        have lqv := bq.lt (Nat.succ_pos _)
        have lrv := br.lt (Nat.succ_pos _)
        have lxv := bx.lt (Nat.succ_pos _)
        have l0v := HE.size
        refine absE (fun x3 hx3 => ?_)
        have hx : Ext x2 x3 := by rw [hx3]; exact ((Ext.refl _).alloc _)
        have bv : Bl x3 (x2.heap.size) #[.bool false, .slice none 0 0] := by rw [hx3]; exact (Bl.new (by simp))
        have fv : Fz x3 (x2.heap.size) := by rw [hx3]; exact (Fz.new (by simp))
        replace bp := Bl.ext hx bp (Nat.succ_pos _)
        replace bq := Bl.ext hx bq (Nat.succ_pos _)
        replace br := Bl.ext hx br (Nat.succ_pos _)
        replace bx := Bl.ext hx bx (Nat.succ_pos _)
        replace hsx := hsx.ext hx
        replace HE := HE.trans hx
        clear hx
        clear hx3
        refine wpE_l rfl rfl (fun K hK => ?_)
        go_simp
        refine (A2.out _ ((H.out.ext HE0.out).ext HE) ((H'.out.ext HE0.out).ext HE)).mono ?_
        rintro e u2 ⟨a2, n2, c2, rfl, hs2, hx⟩
        refine hK.out _ _ hx ?_
        clear hK K
        try simp only [Act.put, List.setIfInBounds_toArray, List.set_cons_zero, List.set_cons_succ]
        replace bp := Bl.ext hx bp (Nat.succ_pos _)
        replace bq := Bl.ext hx bq (Nat.succ_pos _)
        replace br := Bl.ext hx br (Nat.succ_pos _)
        replace bx := Bl.ext hx bx (Nat.succ_pos _)
        replace fv := Fz.ext hx fv bv (Nat.succ_pos _)
        replace bv := Bl.ext hx bv (Nat.succ_pos _)
        replace hsx := hsx.ext hx
        replace HE := HE.trans hx
        clear hx
        replace hs2 : Nc u2 a2 n2 c2 (r2).natAbs := hs2
        refine wpE_l rfl rfl (fun K hK => ?_)
        go_simp
        refine (A3.out _ ((H.out.ext HE0.out).ext HE) ((H''.out.ext HE0.out).ext HE)).mono ?_
        rintro e u5 ⟨a5, n5, c5, rfl, hs5, hx⟩
        refine hK.out _ _ hx ?_
        clear hK K
        try simp only [Act.put, List.setIfInBounds_toArray, List.set_cons_zero, List.set_cons_succ]
        replace bp := Bl.ext hx bp (Nat.succ_pos _)
        replace bq := Bl.ext hx bq (Nat.succ_pos _)
        replace br := Bl.ext hx br (Nat.succ_pos _)
        replace bx := Bl.ext hx bx (Nat.succ_pos _)
        replace fv := Fz.ext hx fv bv (Nat.succ_pos _)
        replace bv := Bl.ext hx bv (Nat.succ_pos _)
        replace hsx := hsx.ext hx
        replace hs2 := hs2.ext hx
        replace HE := HE.trans hx
        clear hx
        replace hs5 : Nc u5 a5 n5 c5 (r3).natAbs := hs5
        refine wpE_l rfl rfl (fun K hK => ?_)
        go_simp
        refine (A6.out _ _ _ _ _ (hs2.wh (by have := L2.out; omega)) _ _ _ _ (hs5.wh (by have := L3.out; omega))).mono ?_
        rintro e u6 ⟨a6, n6, c6, rfl, hs6, hx⟩
        refine hK.out _ _ hx ?_
        clear hK K
        try simp only [Act.put, List.setIfInBounds_toArray, List.set_cons_zero, List.set_cons_succ]
        replace bp := Bl.ext hx bp (Nat.succ_pos _)
        replace bq := Bl.ext hx bq (Nat.succ_pos _)
        replace br := Bl.ext hx br (Nat.succ_pos _)
        replace bx := Bl.ext hx bx (Nat.succ_pos _)
        replace fv := Fz.ext hx fv bv (Nat.succ_pos _)
        replace bv := Bl.ext hx bv (Nat.succ_pos _)
        replace hsx := hsx.ext hx
        replace hs2 := hs2.ext hx
        replace hs5 := hs5.ext hx
        replace HE := HE.trans hx
        clear hx
        replace hs6 : Nc u6 a6 n6 c6 (r5).natAbs := hs6
        refine wpE_b rfl rfl (fun K hK => ?_)
        go_simp
        refine hK.out _ _ ?_
        clear hK K
        try simp only [Act.put, List.setIfInBounds_toArray, List.set_cons_zero, List.set_cons_succ]
        refine absE (fun x4 hx4 => ?_)
        have hbut : But u6 x4 (x2.heap.size) := by rw [hx4]; exact (But.refl _ _).store.store
        have hbn : Bl x4 (x2.heap.size) #[(.bool (decide (r5 < 0))), .slice a6 n6 c6] := by rw [hx4]; exact (Bl.set (Bl.set bv (by simp)) (by simp))
        replace hsx := hsx.but bv (not_ints2 nb_bool nb_slice) hbut
        replace hs2 := hs2.but bv (not_ints2 nb_bool nb_slice) hbut
        replace hs5 := hs5.but bv (not_ints2 nb_bool nb_slice) hbut
        replace hs6 := hs6.but bv (not_ints2 nb_bool nb_slice) hbut
        replace bp := But.bl hbut bp (Nat.succ_pos _) (by omega)
        replace bq := But.bl hbut bq (Nat.succ_pos _) (by omega)
        replace br := But.bl hbut br (Nat.succ_pos _) (by omega)
        replace bx := But.bl hbut bx (Nat.succ_pos _) (by omega)
        replace fv : Fz x4 (x2.heap.size) := by rw [hx4]; exact (Fz.set (Fz.set fv))
        replace HE : Ext wc x4 := by rw [hx4]; exact ((HE.store (by show wc.heap.size ≤ x2.heap.size; omega) _).store (by show wc.heap.size ≤ x2.heap.size; omega) _)
        clear bv hbut hx4
        have bv := hbn
        clear hbn
        refine wpE_done ?_
        go_wp2_with fail
        go_meet
        exact ⟨x2.heap.size, a6, n6, c6, rfl, bv, hs6, HE⟩
    case rest =>
      obtain ⟨gv, av, nv, cv, rfl, bv, hsv, hx⟩ := hcut
      replace bp := Bl.ext hx bp (Nat.succ_pos _)
      replace bq := Bl.ext hx bq (Nat.succ_pos _)
      replace br := Bl.ext hx br (Nat.succ_pos _)
      replace bx := Bl.ext hx bx (Nat.succ_pos _)
      replace hsx := hsx.ext hx
      replace HE := HE.trans hx
      clear hx
      go_wp2_with fail
      refine wp_region_plan (R := Ext) (.q 0 (.q 1 (.q 2 (.q 5 (.q 6 (.q 7 (.br 3 (.br 4 (.l 8 (.l 9 (.l 10 (.q 11 (.q 12 (.q 13 (.q 14 (.q 17 (.q 18 (.q 19 (.l 15 (.l 16 (.l 20 (.l 21 (.l 22 (.q 23 (.q 24 (.q 26 (.l 25 (.l 27 (.q 28 (.q 29 (.q 30 (.q 31 (.l 32 (.q 33 (.q 34 (.q 35 (.q 36 (.q 38 (.q 39 (.q 41 (.q 42 (.l 37 (.l 40 (.l 43 (.l 44 (.q 45 (.q 46 (.q 47 (.l 48 (.q 49 (.q 50 .done))))))))))))))))))))))))))))))))))))))))))) (.l 8 (.l 4 (.l 9 (.l 10 (.q 11 (.q 12 (.q 13 (.q 14 (.q 17 (.q 18 (.q 19 (.l 15 (.l 16 (.l 20 (.l 21 (.l 22 (.q 23 (.q 24 (.q 26 (.l 25 (.l 27 (.q 28 (.q 29 (.q 30 (.q 31 (.l 32 (.q 33 (.q 34 (.q 35 (.q 36 (.q 38 (.q 39 (.q 41 (.q 42 (.l 37 (.l 40 (.l 43 (.l 44 (.q 45 (.q 46 (.q 47 (.l 48 (.q 49 (.q 50 .done))))))))))))))))))))))))))))))))))))))))))))) (.l 8 (.l 3 (.l 4 (.l 9 (.l 10 (.q 11 (.q 12 (.q 13 (.q 14 (.q 17 (.q 18 (.q 19 (.l 15 (.l 16 (.l 20 (.l 21 (.l 22 (.q 23 (.q 24 (.q 26 (.l 25 (.l 27 (.q 28 (.q 29 (.q 30 (.q 31 (.l 32 (.q 33 (.q 34 (.q 35 (.q 36 (.q 38 (.q 39 (.q 41 (.q 42 (.l 37 (.l 40 (.l 43 (.l 44 (.q 45 (.q 46 (.q 47 (.l 48 (.q 49 (.q 50 .done)))))))))))))))))))))))))))))))))))))))))))))))))))) (by kernel_rfl) (by kernel_rfl) (by kernel_rfl) (by kernel_rfl) Ext.refl (fun _ _ _ => Ext.trans) ?_
      refine absE (fun x2 hx2 => ?_)
      have hx : Ext wc x2 := by rw [hx2]; exact (Ext.refl _).drew
      replace bp := Bl.ext hx bp (Nat.succ_pos _)
      replace bq := Bl.ext hx bq (Nat.succ_pos _)
      replace br := Bl.ext hx br (Nat.succ_pos _)
      replace bx := Bl.ext hx bx (Nat.succ_pos _)
      replace bv := Bl.ext hx bv (Nat.succ_pos _)
      replace hsx := hsx.ext hx
      replace hsv := hsv.ext hx
      replace HE := HE.trans hx
      clear hx
      clear hx2
      repeat (refine wpE_q (v := ?_) rfl rfl (fun u hu => ?_) ?_; rotate_left 1; (focus (have kp := Bl.ext hu bp (Nat.succ_pos _); have kq := Bl.ext hu bq (Nat.succ_pos _); have kr := Bl.ext hu br (Nat.succ_pos _); have kx := Bl.ext hu bx (Nat.succ_pos _); have kv := Bl.ext hu bv (Nat.succ_pos _); go_simp; (try rfl))); simp only [Act.put, List.setIfInBounds_toArray, List.set_cons_zero, List.set_cons_succ])
      refine wpE_br rfl rfl (fun K hK => ?_) ?_
      · go_simp
        refine hK.out _ _ ((Ext.refl _).alloc _) ?_
        clear hK K
        try simp only [Act.put, List.setIfInBounds_toArray, List.set_cons_zero, List.set_cons_succ]
        have lpe := bp.lt (Nat.succ_pos _)
        have lqe := bq.lt (Nat.succ_pos _)
        have lre := br.lt (Nat.succ_pos _)
        have lxe := bx.lt (Nat.succ_pos _)
        have lve := bv.lt (Nat.succ_pos _)
        have l0e := HE.size
        refine absE (fun x3 hx3 => ?_)
        have hx : Ext x2 x3 := by rw [hx3]; exact ((Ext.refl _).alloc _)
        have be : Bl x3 (x2.heap.size) #[.bool b, .slice a n c, .bool b', .slice a' n' c', .bool b'', .slice a'' n'' c''] := by rw [hx3]; exact (Bl.new (by simp))
        replace bp := Bl.ext hx bp (Nat.succ_pos _)
        replace bq := Bl.ext hx bq (Nat.succ_pos _)
        replace br := Bl.ext hx br (Nat.succ_pos _)
        replace bx := Bl.ext hx bx (Nat.succ_pos _)
        replace bv := Bl.ext hx bv (Nat.succ_pos _)
        replace hsx := hsx.ext hx
        replace hsv := hsv.ext hx
        replace HE := HE.trans hx
        clear hx
        clear hx3
        refine wpE_br rfl rfl (fun K hK => ?_) ?_
        · go_simp
          refine (w_Sum _ 3 3 [z, z', z''] 1048576 _ (whs_three be (H.out.ext HE) (H'.out.ext HE) (H''.out.ext HE) ⟨LL.out.1, LL.out.2.1, LL.out.2.2⟩) (by omega)).mono ?_
          rw [HS1.out]
          rintro e u4 ⟨a4, n4, c4, rfl, hs4, hx⟩
          refine hK.out _ _ hx ?_
          clear hK K
          try simp only [Act.put, List.setIfInBounds_toArray, List.set_cons_zero, List.set_cons_succ]
          replace bp := Bl.ext hx bp (Nat.succ_pos _)
          replace bq := Bl.ext hx bq (Nat.succ_pos _)
          replace br := Bl.ext hx br (Nat.succ_pos _)
          replace bx := Bl.ext hx bx (Nat.succ_pos _)
          replace bv := Bl.ext hx bv (Nat.succ_pos _)
          replace be := Bl.ext hx be (Nat.succ_pos _)
          replace hsx := hsx.ext hx
          replace hsv := hsv.ext hx
          replace HE := HE.trans hx
          clear hx
          replace hs4 : Nc u4 a4 n4 c4 (r6).natAbs := hs4
          refine wpE_l rfl rfl (fun K hK => ?_)
          go_simp
          refine hK.out _ _ ((Ext.refl _).alloc _) ?_
          clear hK K
          try simp only [Act.put, List.setIfInBounds_toArray, List.set_cons_zero, List.set_cons_succ]
          have lpf := bp.lt (Nat.succ_pos _)
          have lqf := bq.lt (Nat.succ_pos _)
          have lrf := br.lt (Nat.succ_pos _)
          have lxf := bx.lt (Nat.succ_pos _)
          have lvf := bv.lt (Nat.succ_pos _)
          have lef := be.lt (Nat.succ_pos _)
          have l0f := HE.size
          refine absE (fun x4 hx4 => ?_)
          have hx : Ext u4 x4 := by rw [hx4]; exact ((Ext.refl _).alloc _)
          have bf : Bl x4 (u4.heap.size) #[.bool b'', .slice a'' n'' c'', .bool b, .slice a n c, .bool b', .slice a' n' c'] := by rw [hx4]; exact (Bl.new (by simp))
          replace bp := Bl.ext hx bp (Nat.succ_pos _)
          replace bq := Bl.ext hx bq (Nat.succ_pos _)
          replace br := Bl.ext hx br (Nat.succ_pos _)
          replace bx := Bl.ext hx bx (Nat.succ_pos _)
          replace bv := Bl.ext hx bv (Nat.succ_pos _)
          replace be := Bl.ext hx be (Nat.succ_pos _)
          replace hsx := hsx.ext hx
          replace hsv := hsv.ext hx
          replace hs4 := hs4.ext hx
          replace HE := HE.trans hx
          clear hx
          clear hx4
          refine wpE_l rfl rfl (fun K hK => ?_)
          go_simp
          refine (w_Sum _ 3 3 [z'', z, z'] 1048576 _ (whs_three bf (H''.out.ext HE) (H.out.ext HE) (H'.out.ext HE) ⟨LL.out.2.2, LL.out.1, LL.out.2.1⟩) (by omega)).mono ?_
          rw [HS2.out]
          rintro e u9 ⟨a9, n9, c9, rfl, hs9, hx⟩
          refine hK.out _ _ hx ?_
          clear hK K
          try simp only [Act.put, List.setIfInBounds_toArray, List.set_cons_zero, List.set_cons_succ]
          replace bp := Bl.ext hx bp (Nat.succ_pos _)
          replace bq := Bl.ext hx bq (Nat.succ_pos _)
          replace br := Bl.ext hx br (Nat.succ_pos _)
          replace bx := Bl.ext hx bx (Nat.succ_pos _)
          replace bv := Bl.ext hx bv (Nat.succ_pos _)
          replace be := Bl.ext hx be (Nat.succ_pos _)
          replace bf := Bl.ext hx bf (Nat.succ_pos _)
          replace hsx := hsx.ext hx
          replace hsv := hsv.ext hx
          replace hs4 := hs4.ext hx
          replace HE := HE.trans hx
          clear hx
          replace hs9 : Nc u9 a9 n9 c9 (r6).natAbs := hs9
          refine wpE_l rfl rfl (fun K hK => ?_)
          go_simp
          refine (d_SameW hs4 hs9 (by have := L6.out; omega)).mono ?_
          rintro e u10 ⟨rfl, hx⟩
          refine hK.out _ _ hx ?_
          clear hK K
          try simp only [Act.put, List.setIfInBounds_toArray, List.set_cons_zero, List.set_cons_succ]
          replace bp := Bl.ext hx bp (Nat.succ_pos _)
          replace bq := Bl.ext hx bq (Nat.succ_pos _)
          replace br := Bl.ext hx br (Nat.succ_pos _)
          replace bx := Bl.ext hx bx (Nat.succ_pos _)
          replace bv := Bl.ext hx bv (Nat.succ_pos _)
          replace be := Bl.ext hx be (Nat.succ_pos _)
          replace bf := Bl.ext hx bf (Nat.succ_pos _)
          replace hsx := hsx.ext hx
          replace hsv := hsv.ext hx
          replace hs4 := hs4.ext hx
          replace hs9 := hs9.ext hx
          replace HE := HE.trans hx
          clear hx
          repeat (refine wpE_q (v := ?_) rfl rfl (fun u hu => ?_) ?_; rotate_left 1; (focus (have kp := Bl.ext hu bp (Nat.succ_pos _); have kq := Bl.ext hu bq (Nat.succ_pos _); have kr := Bl.ext hu br (Nat.succ_pos _); have kx := Bl.ext hu bx (Nat.succ_pos _); have kv := Bl.ext hu bv (Nat.succ_pos _); have ke := Bl.ext hu be (Nat.succ_pos _); have kf := Bl.ext hu bf (Nat.succ_pos _); go_simp; (try rfl))); simp only [Act.put, List.setIfInBounds_toArray, List.set_cons_zero, List.set_cons_succ])
          refine wpE_l rfl rfl (fun K hK => ?_)
          go_simp
          refine hK.out _ _ ((Ext.refl _).alloc _) ?_
          clear hK K
          try simp only [Act.put, List.setIfInBounds_toArray, List.set_cons_zero, List.set_cons_succ]
          have lph := bp.lt (Nat.succ_pos _)
          have lqh := bq.lt (Nat.succ_pos _)
          have lrh := br.lt (Nat.succ_pos _)
          have lxh := bx.lt (Nat.succ_pos _)
          have lvh := bv.lt (Nat.succ_pos _)
          have leh := be.lt (Nat.succ_pos _)
          have lfh := bf.lt (Nat.succ_pos _)
          have l0h := HE.size
          refine absE (fun x5 hx5 => ?_)
          have hx : Ext u10 x5 := by rw [hx5]; exact ((Ext.refl _).alloc _)
          have bh : Bl x5 (u10.heap.size) #[.bool b, .slice a n c, .bool b', .slice a' n' c', .bool b'', .slice a'' n'' c''] := by rw [hx5]; exact (Bl.new (by simp))
          replace bp := Bl.ext hx bp (Nat.succ_pos _)
          replace bq := Bl.ext hx bq (Nat.succ_pos _)
          replace br := Bl.ext hx br (Nat.succ_pos _)
          replace bx := Bl.ext hx bx (Nat.succ_pos _)
          replace bv := Bl.ext hx bv (Nat.succ_pos _)
          replace be := Bl.ext hx be (Nat.succ_pos _)
          replace bf := Bl.ext hx bf (Nat.succ_pos _)
          replace hsx := hsx.ext hx
          replace hsv := hsv.ext hx
          replace hs4 := hs4.ext hx
          replace hs9 := hs9.ext hx
          replace HE := HE.trans hx
          clear hx
          clear hx5
          refine wpE_l rfl rfl (fun K hK => ?_)
          go_simp
          refine (w_Sum _ 3 3 [z, z', z''] 1048576 _ (whs_three bh (H.out.ext HE) (H'.out.ext HE) (H''.out.ext HE) ⟨LL.out.1, LL.out.2.1, LL.out.2.2⟩) (by omega)).mono ?_
          rw [HS1.out]
          rintro e u16 ⟨a16, n16, c16, rfl, hs16, hx⟩
          refine hK.out _ _ hx ?_
          clear hK K
          try simp only [Act.put, List.setIfInBounds_toArray, List.set_cons_zero, List.set_cons_succ]
          replace bp := Bl.ext hx bp (Nat.succ_pos _)
          replace bq := Bl.ext hx bq (Nat.succ_pos _)
          replace br := Bl.ext hx br (Nat.succ_pos _)
          replace bx := Bl.ext hx bx (Nat.succ_pos _)
          replace bv := Bl.ext hx bv (Nat.succ_pos _)
          replace be := Bl.ext hx be (Nat.succ_pos _)
          replace bf := Bl.ext hx bf (Nat.succ_pos _)
          replace bh := Bl.ext hx bh (Nat.succ_pos _)
          replace hsx := hsx.ext hx
          replace hsv := hsv.ext hx
          replace hs4 := hs4.ext hx
          replace hs9 := hs9.ext hx
          replace HE := HE.trans hx
          clear hx
          replace hs16 : Nc u16 a16 n16 c16 (r6).natAbs := hs16
          refine wpE_l rfl rfl (fun K hK => ?_)
          go_simp
          refine (A1.out _ (H'.out.ext HE) (H''.out.ext HE)).mono ?_
          rintro e u20 ⟨a20, n20, c20, rfl, hs20, hx⟩
          refine hK.out _ _ hx ?_
          clear hK K
          try simp only [Act.put, List.setIfInBounds_toArray, List.set_cons_zero, List.set_cons_succ]
          replace bp := Bl.ext hx bp (Nat.succ_pos _)
          replace bq := Bl.ext hx bq (Nat.succ_pos _)
          replace br := Bl.ext hx br (Nat.succ_pos _)
          replace bx := Bl.ext hx bx (Nat.succ_pos _)
          replace bv := Bl.ext hx bv (Nat.succ_pos _)
          replace be := Bl.ext hx be (Nat.succ_pos _)
          replace bf := Bl.ext hx bf (Nat.succ_pos _)
          replace bh := Bl.ext hx bh (Nat.succ_pos _)
          replace hsx := hsx.ext hx
          replace hsv := hsv.ext hx
          replace hs4 := hs4.ext hx
          replace hs9 := hs9.ext hx
          replace hs16 := hs16.ext hx
          replace HE := HE.trans hx
          clear hx
          replace hs20 : Nc u20 a20 n20 c20 (r1).natAbs := hs20
          refine wpE_l rfl rfl (fun K hK => ?_)
          go_simp
          refine (A7.out _ (H.out.ext HE) _ _ _ _ (hs20.wh (by have := L1.out; omega))).mono ?_
          rintro e u21 ⟨a21, n21, c21, rfl, hs21, hx⟩
          refine hK.out _ _ hx ?_
          clear hK K
          try simp only [Act.put, List.setIfInBounds_toArray, List.set_cons_zero, List.set_cons_succ]
          replace bp := Bl.ext hx bp (Nat.succ_pos _)
          replace bq := Bl.ext hx bq (Nat.succ_pos _)
          replace br := Bl.ext hx br (Nat.succ_pos _)
          replace bx := Bl.ext hx bx (Nat.succ_pos _)
          replace bv := Bl.ext hx bv (Nat.succ_pos _)
          replace be := Bl.ext hx be (Nat.succ_pos _)
          replace bf := Bl.ext hx bf (Nat.succ_pos _)
          replace bh := Bl.ext hx bh (Nat.succ_pos _)
          replace hsx := hsx.ext hx
          replace hsv := hsv.ext hx
          replace hs4 := hs4.ext hx
          replace hs9 := hs9.ext hx
          replace hs16 := hs16.ext hx
          replace hs20 := hs20.ext hx
          replace HE := HE.trans hx
          clear hx
          replace hs21 : Nc u21 a21 n21 c21 (r6).natAbs := hs21
          refine wpE_l rfl rfl (fun K hK => ?_)
          go_simp
          refine (d_SameW hs16 hs21 (by have := L6.out; omega)).mono ?_
          rintro e u22 ⟨rfl, hx⟩
          refine hK.out _ _ hx ?_
          clear hK K
          try simp only [Act.put, List.setIfInBounds_toArray, List.set_cons_zero, List.set_cons_succ]
          replace bp := Bl.ext hx bp (Nat.succ_pos _)
          replace bq := Bl.ext hx bq (Nat.succ_pos _)
          replace br := Bl.ext hx br (Nat.succ_pos _)
          replace bx := Bl.ext hx bx (Nat.succ_pos _)
          replace bv := Bl.ext hx bv (Nat.succ_pos _)
          replace be := Bl.ext hx be (Nat.succ_pos _)
          replace bf := Bl.ext hx bf (Nat.succ_pos _)
          replace bh := Bl.ext hx bh (Nat.succ_pos _)
          replace hsx := hsx.ext hx
          replace hsv := hsv.ext hx
          replace hs4 := hs4.ext hx
          replace hs9 := hs9.ext hx
          replace hs16 := hs16.ext hx
          replace hs20 := hs20.ext hx
          replace hs21 := hs21.ext hx
          replace HE := HE.trans hx
          clear hx
          repeat (refine wpE_q (v := ?_) rfl rfl (fun u hu => ?_) ?_; rotate_left 1; (focus (have kp := Bl.ext hu bp (Nat.succ_pos _); have kq := Bl.ext hu bq (Nat.succ_pos _); have kr := Bl.ext hu br (Nat.succ_pos _); have kx := Bl.ext hu bx (Nat.succ_pos _); have kv := Bl.ext hu bv (Nat.succ_pos _); have ke := Bl.ext hu be (Nat.succ_pos _); have kf := Bl.ext hu bf (Nat.succ_pos _); have kh := Bl.ext hu bh (Nat.succ_pos _); go_simp; (try rfl))); simp only [Act.put, List.setIfInBounds_toArray, List.set_cons_zero, List.set_cons_succ])
          refine wpE_l rfl rfl (fun K hK => ?_)
          go_simp
          refine (w_Sum none 0 0 [] 1 _ (whs_nil _ _) (by omega)).mono ?_
          rw [HS0.out]
          rintro e u25 ⟨a25, n25, c25, rfl, hs25, hx⟩
          refine hK.out _ _ hx ?_
          clear hK K
          try simp only [Act.put, List.setIfInBounds_toArray, List.set_cons_zero, List.set_cons_succ]
          replace bp := Bl.ext hx bp (Nat.succ_pos _)
          replace bq := Bl.ext hx bq (Nat.succ_pos _)
          replace br := Bl.ext hx br (Nat.succ_pos _)
          replace bx := Bl.ext hx bx (Nat.succ_pos _)
          replace bv := Bl.ext hx bv (Nat.succ_pos _)
          replace be := Bl.ext hx be (Nat.succ_pos _)
          replace bf := Bl.ext hx bf (Nat.succ_pos _)
          replace bh := Bl.ext hx bh (Nat.succ_pos _)
          replace hsx := hsx.ext hx
          replace hsv := hsv.ext hx
          replace hs4 := hs4.ext hx
          replace hs9 := hs9.ext hx
          replace hs16 := hs16.ext hx
          replace hs20 := hs20.ext hx
          replace hs21 := hs21.ext hx
          replace HE := HE.trans hx
          clear hx
          replace hs25 : Nc u25 a25 n25 c25 ((0 : Int)).natAbs := hs25
          refine wpE_l rfl rfl (fun K hK => ?_)
          go_simp
          refine (d_SameW (b := false) (V := 0) hs25 (Nc.zero _) (by rw [dl_zero]; omega)).mono ?_
          rintro e u27 ⟨rfl, hx⟩
          refine hK.out _ _ hx ?_
          clear hK K
          try simp only [Act.put, List.setIfInBounds_toArray, List.set_cons_zero, List.set_cons_succ]
          replace bp := Bl.ext hx bp (Nat.succ_pos _)
          replace bq := Bl.ext hx bq (Nat.succ_pos _)
          replace br := Bl.ext hx br (Nat.succ_pos _)
          replace bx := Bl.ext hx bx (Nat.succ_pos _)
          replace bv := Bl.ext hx bv (Nat.succ_pos _)
          replace be := Bl.ext hx be (Nat.succ_pos _)
          replace bf := Bl.ext hx bf (Nat.succ_pos _)
          replace bh := Bl.ext hx bh (Nat.succ_pos _)
          replace hsx := hsx.ext hx
          replace hsv := hsv.ext hx
          replace hs4 := hs4.ext hx
          replace hs9 := hs9.ext hx
          replace hs16 := hs16.ext hx
          replace hs20 := hs20.ext hx
          replace hs21 := hs21.ext hx
          replace hs25 := hs25.ext hx
          replace HE := HE.trans hx
          clear hx
          repeat (refine wpE_q (v := ?_) rfl rfl (fun u hu => ?_) ?_; rotate_left 1; (focus (have kp := Bl.ext hu bp (Nat.succ_pos _); have kq := Bl.ext hu bq (Nat.succ_pos _); have kr := Bl.ext hu br (Nat.succ_pos _); have kx := Bl.ext hu bx (Nat.succ_pos _); have kv := Bl.ext hu bv (Nat.succ_pos _); have ke := Bl.ext hu be (Nat.succ_pos _); have kf := Bl.ext hu bf (Nat.succ_pos _); have kh := Bl.ext hu bh (Nat.succ_pos _); go_simp; (try rfl))); simp only [Act.put, List.setIfInBounds_toArray, List.set_cons_zero, List.set_cons_succ])
          refine wpE_l rfl rfl (fun K hK => ?_)
          go_simp
          refine (d_SameW hsx hsv (by have := L5.out; omega)).mono ?_
          rintro e u32 ⟨rfl, hx⟩
          refine hK.out _ _ hx ?_
          clear hK K
          try simp only [Act.put, List.setIfInBounds_toArray, List.set_cons_zero, List.set_cons_succ]
          replace bp := Bl.ext hx bp (Nat.succ_pos _)
          replace bq := Bl.ext hx bq (Nat.succ_pos _)
          replace br := Bl.ext hx br (Nat.succ_pos _)
          replace bx := Bl.ext hx bx (Nat.succ_pos _)
          replace bv := Bl.ext hx bv (Nat.succ_pos _)
          replace be := Bl.ext hx be (Nat.succ_pos _)
          replace bf := Bl.ext hx bf (Nat.succ_pos _)
          replace bh := Bl.ext hx bh (Nat.succ_pos _)
          replace hsx := hsx.ext hx
          replace hsv := hsv.ext hx
          replace hs4 := hs4.ext hx
          replace hs9 := hs9.ext hx
          replace hs16 := hs16.ext hx
          replace hs20 := hs20.ext hx
          replace hs21 := hs21.ext hx
          replace hs25 := hs25.ext hx
          replace HE := HE.trans hx
          clear hx
          repeat (refine wpE_q (v := ?_) rfl rfl (fun u hu => ?_) ?_; rotate_left 1; (focus (have kp := Bl.ext hu bp (Nat.succ_pos _); have kq := Bl.ext hu bq (Nat.succ_pos _); have kr := Bl.ext hu br (Nat.succ_pos _); have kx := Bl.ext hu bx (Nat.succ_pos _); have kv := Bl.ext hu bv (Nat.succ_pos _); have ke := Bl.ext hu be (Nat.succ_pos _); have kf := Bl.ext hu bf (Nat.succ_pos _); have kh := Bl.ext hu bh (Nat.succ_pos _); go_simp; (try rfl))); simp only [Act.put, List.setIfInBounds_toArray, List.set_cons_zero, List.set_cons_succ])
          refine wpE_l rfl rfl (fun K hK => ?_)
          go_simp
          refine (A8.out _ (H.out.ext HE) (H'.out.ext HE)).mono ?_
          rintro e u37 ⟨rfl, hx⟩
          refine hK.out _ _ hx ?_
          clear hK K
          try simp only [Act.put, List.setIfInBounds_toArray, List.set_cons_zero, List.set_cons_succ]
          replace bp := Bl.ext hx bp (Nat.succ_pos _)
          replace bq := Bl.ext hx bq (Nat.succ_pos _)
          replace br := Bl.ext hx br (Nat.succ_pos _)
          replace bx := Bl.ext hx bx (Nat.succ_pos _)
          replace bv := Bl.ext hx bv (Nat.succ_pos _)
          replace be := Bl.ext hx be (Nat.succ_pos _)
          replace bf := Bl.ext hx bf (Nat.succ_pos _)
          replace bh := Bl.ext hx bh (Nat.succ_pos _)
          replace hsx := hsx.ext hx
          replace hsv := hsv.ext hx
          replace hs4 := hs4.ext hx
          replace hs9 := hs9.ext hx
          replace hs16 := hs16.ext hx
          replace hs20 := hs20.ext hx
          replace hs21 := hs21.ext hx
          replace hs25 := hs25.ext hx
          replace HE := HE.trans hx
          clear hx
          refine wpE_l rfl rfl (fun K hK => ?_)
          go_simp
          refine (A4.out _ (H.out.ext HE) (H''.out.ext HE)).mono ?_
          rintro e u40 ⟨a40, n40, c40, rfl, hs40, hx⟩
          refine hK.out _ _ hx ?_
          clear hK K
          try simp only [Act.put, List.setIfInBounds_toArray, List.set_cons_zero, List.set_cons_succ]
          replace bp := Bl.ext hx bp (Nat.succ_pos _)
          replace bq := Bl.ext hx bq (Nat.succ_pos _)
          replace br := Bl.ext hx br (Nat.succ_pos _)
          replace bx := Bl.ext hx bx (Nat.succ_pos _)
          replace bv := Bl.ext hx bv (Nat.succ_pos _)
          replace be := Bl.ext hx be (Nat.succ_pos _)
          replace bf := Bl.ext hx bf (Nat.succ_pos _)
          replace bh := Bl.ext hx bh (Nat.succ_pos _)
          replace hsx := hsx.ext hx
          replace hsv := hsv.ext hx
          replace hs4 := hs4.ext hx
          replace hs9 := hs9.ext hx
          replace hs16 := hs16.ext hx
          replace hs20 := hs20.ext hx
          replace hs21 := hs21.ext hx
          replace hs25 := hs25.ext hx
          replace HE := HE.trans hx
          clear hx
          replace hs40 : Nc u40 a40 n40 c40 (r4).natAbs := hs40
          refine wpE_l rfl rfl (fun K hK => ?_)
          go_simp
          refine (A1.out _ (H'.out.ext HE) (H''.out.ext HE)).mono ?_
          rintro e u43 ⟨a43, n43, c43, rfl, hs43, hx⟩
          refine hK.out _ _ hx ?_
          clear hK K
          try simp only [Act.put, List.setIfInBounds_toArray, List.set_cons_zero, List.set_cons_succ]
          replace bp := Bl.ext hx bp (Nat.succ_pos _)
          replace bq := Bl.ext hx bq (Nat.succ_pos _)
          replace br := Bl.ext hx br (Nat.succ_pos _)
          replace bx := Bl.ext hx bx (Nat.succ_pos _)
          replace bv := Bl.ext hx bv (Nat.succ_pos _)
          replace be := Bl.ext hx be (Nat.succ_pos _)
          replace bf := Bl.ext hx bf (Nat.succ_pos _)
          replace bh := Bl.ext hx bh (Nat.succ_pos _)
          replace hsx := hsx.ext hx
          replace hsv := hsv.ext hx
          replace hs4 := hs4.ext hx
          replace hs9 := hs9.ext hx
          replace hs16 := hs16.ext hx
          replace hs20 := hs20.ext hx
          replace hs21 := hs21.ext hx
          replace hs25 := hs25.ext hx
          replace hs40 := hs40.ext hx
          replace HE := HE.trans hx
          clear hx
          replace hs43 : Nc u43 a43 n43 c43 (r1).natAbs := hs43
          refine wpE_l rfl rfl (fun K hK => ?_)
          go_simp
          refine (A9.out _ _ _ _ _ (hs40.wh (by have := L4.out; omega)) _ _ _ _ (hs43.wh (by have := L1.out; omega))).mono ?_
          rintro e u44 ⟨rfl, hx⟩
          refine hK.out _ _ hx ?_
          clear hK K
          try simp only [Act.put, List.setIfInBounds_toArray, List.set_cons_zero, List.set_cons_succ]
          replace bp := Bl.ext hx bp (Nat.succ_pos _)
          replace bq := Bl.ext hx bq (Nat.succ_pos _)
          replace br := Bl.ext hx br (Nat.succ_pos _)
          replace bx := Bl.ext hx bx (Nat.succ_pos _)
          replace bv := Bl.ext hx bv (Nat.succ_pos _)
          replace be := Bl.ext hx be (Nat.succ_pos _)
          replace bf := Bl.ext hx bf (Nat.succ_pos _)
          replace bh := Bl.ext hx bh (Nat.succ_pos _)
          replace hsx := hsx.ext hx
          replace hsv := hsv.ext hx
          replace hs4 := hs4.ext hx
          replace hs9 := hs9.ext hx
          replace hs16 := hs16.ext hx
          replace hs20 := hs20.ext hx
          replace hs21 := hs21.ext hx
          replace hs25 := hs25.ext hx
          replace hs40 := hs40.ext hx
          replace hs43 := hs43.ext hx
          replace HE := HE.trans hx
          clear hx
          repeat (refine wpE_q (v := ?_) rfl rfl (fun u hu => ?_) ?_; rotate_left 1; (focus (have kp := Bl.ext hu bp (Nat.succ_pos _); have kq := Bl.ext hu bq (Nat.succ_pos _); have kr := Bl.ext hu br (Nat.succ_pos _); have kx := Bl.ext hu bx (Nat.succ_pos _); have kv := Bl.ext hu bv (Nat.succ_pos _); have ke := Bl.ext hu be (Nat.succ_pos _); have kf := Bl.ext hu bf (Nat.succ_pos _); have kh := Bl.ext hu bh (Nat.succ_pos _); go_simp; (try rfl))); simp only [Act.put, List.setIfInBounds_toArray, List.set_cons_zero, List.set_cons_succ])
          refine wpE_l rfl rfl (fun K hK => ?_)
          go_simp
          refine (w_lives_any _).mono ?_
          rintro e u48 ⟨rfl, hx⟩
          refine hK.out _ _ hx ?_
          clear hK K
          try simp only [Act.put, List.setIfInBounds_toArray, List.set_cons_zero, List.set_cons_succ]
          replace bp := Bl.ext hx bp (Nat.succ_pos _)
          replace bq := Bl.ext hx bq (Nat.succ_pos _)
          replace br := Bl.ext hx br (Nat.succ_pos _)
          replace bx := Bl.ext hx bx (Nat.succ_pos _)
          replace bv := Bl.ext hx bv (Nat.succ_pos _)
          replace be := Bl.ext hx be (Nat.succ_pos _)
          replace bf := Bl.ext hx bf (Nat.succ_pos _)
          replace bh := Bl.ext hx bh (Nat.succ_pos _)
          replace hsx := hsx.ext hx
          replace hsv := hsv.ext hx
          replace hs4 := hs4.ext hx
          replace hs9 := hs9.ext hx
          replace hs16 := hs16.ext hx
          replace hs20 := hs20.ext hx
          replace hs21 := hs21.ext hx
          replace hs25 := hs25.ext hx
          replace hs40 := hs40.ext hx
          replace hs43 := hs43.ext hx
          replace HE := HE.trans hx
          clear hx
          repeat (refine wpE_q (v := ?_) rfl rfl (fun u hu => ?_) ?_; rotate_left 1; (focus (have kp := Bl.ext hu bp (Nat.succ_pos _); have kq := Bl.ext hu bq (Nat.succ_pos _); have kr := Bl.ext hu br (Nat.succ_pos _); have kx := Bl.ext hu bx (Nat.succ_pos _); have kv := Bl.ext hu bv (Nat.succ_pos _); have ke := Bl.ext hu be (Nat.succ_pos _); have kf := Bl.ext hu bf (Nat.succ_pos _); have kh := Bl.ext hu bh (Nat.succ_pos _); go_simp; (try rfl))); simp only [Act.put, List.setIfInBounds_toArray, List.set_cons_zero, List.set_cons_succ])
          refine wpE_done ?_
          go_wp2_with fail
          go_ret
          exact ⟨rfl, HE⟩
        · refine wpE_l rfl rfl (fun K hK => ?_)
          go_simp
          refine hK.out _ _ ((Ext.refl _).alloc _) ?_
          clear hK K
          try simp only [Act.put, List.setIfInBounds_toArray, List.set_cons_zero, List.set_cons_succ]
          have lpf := bp.lt (Nat.succ_pos _)
          have lqf := bq.lt (Nat.succ_pos _)
          have lrf := br.lt (Nat.succ_pos _)
          have lxf := bx.lt (Nat.succ_pos _)
          have lvf := bv.lt (Nat.succ_pos _)
          have lef := be.lt (Nat.succ_pos _)
          have l0f := HE.size
          refine absE (fun x4 hx4 => ?_)
          have hx : Ext x3 x4 := by rw [hx4]; exact ((Ext.refl _).alloc _)
          have bf : Bl x4 (x3.heap.size) #[.bool b'', .slice a'' n'' c'', .bool b, .slice a n c, .bool b', .slice a' n' c'] := by rw [hx4]; exact (Bl.new (by simp))
          replace bp := Bl.ext hx bp (Nat.succ_pos _)
          replace bq := Bl.ext hx bq (Nat.succ_pos _)
          replace br := Bl.ext hx br (Nat.succ_pos _)
          replace bx := Bl.ext hx bx (Nat.succ_pos _)
          replace bv := Bl.ext hx bv (Nat.succ_pos _)
          replace be := Bl.ext hx be (Nat.succ_pos _)
          replace hsx := hsx.ext hx
          replace hsv := hsv.ext hx
          replace HE := HE.trans hx
          clear hx
          clear hx4
          refine wpE_l rfl rfl (fun K hK => ?_)
          go_simp
          refine (w_Sum _ 3 3 [z, z', z''] 1048576 _ (whs_three be (H.out.ext HE) (H'.out.ext HE) (H''.out.ext HE) ⟨LL.out.1, LL.out.2.1, LL.out.2.2⟩) (by omega)).mono ?_
          rw [HS1.out]
          rintro e u4 ⟨a4, n4, c4, rfl, hs4, hx⟩
          refine hK.out _ _ hx ?_
          clear hK K
          try simp only [Act.put, List.setIfInBounds_toArray, List.set_cons_zero, List.set_cons_succ]
          replace bp := Bl.ext hx bp (Nat.succ_pos _)
          replace bq := Bl.ext hx bq (Nat.succ_pos _)
          replace br := Bl.ext hx br (Nat.succ_pos _)
          replace bx := Bl.ext hx bx (Nat.succ_pos _)
          replace bv := Bl.ext hx bv (Nat.succ_pos _)
          replace be := Bl.ext hx be (Nat.succ_pos _)
          replace bf := Bl.ext hx bf (Nat.succ_pos _)
          replace hsx := hsx.ext hx
          replace hsv := hsv.ext hx
          replace HE := HE.trans hx
          clear hx
          replace hs4 : Nc u4 a4 n4 c4 (r6).natAbs := hs4
          refine wpE_l rfl rfl (fun K hK => ?_)
          go_simp
          refine (w_Sum _ 3 3 [z'', z, z'] 1048576 _ (whs_three bf (H''.out.ext HE) (H.out.ext HE) (H'.out.ext HE) ⟨LL.out.2.2, LL.out.1, LL.out.2.1⟩) (by omega)).mono ?_
          rw [HS2.out]
          rintro e u9 ⟨a9, n9, c9, rfl, hs9, hx⟩
          refine hK.out _ _ hx ?_
          clear hK K
          try simp only [Act.put, List.setIfInBounds_toArray, List.set_cons_zero, List.set_cons_succ]
          replace bp := Bl.ext hx bp (Nat.succ_pos _)
          replace bq := Bl.ext hx bq (Nat.succ_pos _)
          replace br := Bl.ext hx br (Nat.succ_pos _)
          replace bx := Bl.ext hx bx (Nat.succ_pos _)
          replace bv := Bl.ext hx bv (Nat.succ_pos _)
          replace be := Bl.ext hx be (Nat.succ_pos _)
          replace bf := Bl.ext hx bf (Nat.succ_pos _)
          replace hsx := hsx.ext hx
          replace hsv := hsv.ext hx
          replace hs4 := hs4.ext hx
          replace HE := HE.trans hx
          clear hx
          replace hs9 : Nc u9 a9 n9 c9 (r6).natAbs := hs9
          refine wpE_l rfl rfl (fun K hK => ?_)
          go_simp
          refine (d_SameW hs4 hs9 (by have := L6.out; omega)).mono ?_
          rintro e u10 ⟨rfl, hx⟩
          refine hK.out _ _ hx ?_
          clear hK K
          try simp only [Act.put, List.setIfInBounds_toArray, List.set_cons_zero, List.set_cons_succ]
          replace bp := Bl.ext hx bp (Nat.succ_pos _)
          replace bq := Bl.ext hx bq (Nat.succ_pos _)
          replace br := Bl.ext hx br (Nat.succ_pos _)
          replace bx := Bl.ext hx bx (Nat.succ_pos _)
          replace bv := Bl.ext hx bv (Nat.succ_pos _)
          replace be := Bl.ext hx be (Nat.succ_pos _)
          replace bf := Bl.ext hx bf (Nat.succ_pos _)
          replace hsx := hsx.ext hx
          replace hsv := hsv.ext hx
          replace hs4 := hs4.ext hx
          replace hs9 := hs9.ext hx
          replace HE := HE.trans hx
          clear hx
          repeat (refine wpE_q (v := ?_) rfl rfl (fun u hu => ?_) ?_; rotate_left 1; (focus (have kp := Bl.ext hu bp (Nat.succ_pos _); have kq := Bl.ext hu bq (Nat.succ_pos _); have kr := Bl.ext hu br (Nat.succ_pos _); have kx := Bl.ext hu bx (Nat.succ_pos _); have kv := Bl.ext hu bv (Nat.succ_pos _); have ke := Bl.ext hu be (Nat.succ_pos _); have kf := Bl.ext hu bf (Nat.succ_pos _); go_simp; (try rfl))); simp only [Act.put, List.setIfInBounds_toArray, List.set_cons_zero, List.set_cons_succ])
          refine wpE_l rfl rfl (fun K hK => ?_)
          go_simp
          refine hK.out _ _ ((Ext.refl _).alloc _) ?_
          clear hK K
          try simp only [Act.put, List.setIfInBounds_toArray, List.set_cons_zero, List.set_cons_succ]
          have lph := bp.lt (Nat.succ_pos _)
          have lqh := bq.lt (Nat.succ_pos _)
          have lrh := br.lt (Nat.succ_pos _)
          have lxh := bx.lt (Nat.succ_pos _)
          have lvh := bv.lt (Nat.succ_pos _)
          have leh := be.lt (Nat.succ_pos _)
          have lfh := bf.lt (Nat.succ_pos _)
          have l0h := HE.size
          refine absE (fun x5 hx5 => ?_)
          have hx : Ext u10 x5 := by rw [hx5]; exact ((Ext.refl _).alloc _)
          have bh : Bl x5 (u10.heap.size) #[.bool b, .slice a n c, .bool b', .slice a' n' c', .bool b'', .slice a'' n'' c''] := by rw [hx5]; exact (Bl.new (by simp))
          replace bp := Bl.ext hx bp (Nat.succ_pos _)
          replace bq := Bl.ext hx bq (Nat.succ_pos _)
          replace br := Bl.ext hx br (Nat.succ_pos _)
          replace bx := Bl.ext hx bx (Nat.succ_pos _)
          replace bv := Bl.ext hx bv (Nat.succ_pos _)
          replace be := Bl.ext hx be (Nat.succ_pos _)
          replace bf := Bl.ext hx bf (Nat.succ_pos _)
          replace hsx := hsx.ext hx
          replace hsv := hsv.ext hx
          replace hs4 := hs4.ext hx
          replace hs9 := hs9.ext hx
          replace HE := HE.trans hx
          clear hx
          clear hx5
          refine wpE_l rfl rfl (fun K hK => ?_)
          go_simp
          refine (w_Sum _ 3 3 [z, z', z''] 1048576 _ (whs_three bh (H.out.ext HE) (H'.out.ext HE) (H''.out.ext HE) ⟨LL.out.1, LL.out.2.1, LL.out.2.2⟩) (by omega)).mono ?_
          rw [HS1.out]
          rintro e u16 ⟨a16, n16, c16, rfl, hs16, hx⟩
          refine hK.out _ _ hx ?_
          clear hK K
          try simp only [Act.put, List.setIfInBounds_toArray, List.set_cons_zero, List.set_cons_succ]
          replace bp := Bl.ext hx bp (Nat.succ_pos _)
          replace bq := Bl.ext hx bq (Nat.succ_pos _)
          replace br := Bl.ext hx br (Nat.succ_pos _)
          replace bx := Bl.ext hx bx (Nat.succ_pos _)
          replace bv := Bl.ext hx bv (Nat.succ_pos _)
          replace be := Bl.ext hx be (Nat.succ_pos _)
          replace bf := Bl.ext hx bf (Nat.succ_pos _)
          replace bh := Bl.ext hx bh (Nat.succ_pos _)
          replace hsx := hsx.ext hx
          replace hsv := hsv.ext hx
          replace hs4 := hs4.ext hx
          replace hs9 := hs9.ext hx
          replace HE := HE.trans hx
          clear hx
          replace hs16 : Nc u16 a16 n16 c16 (r6).natAbs := hs16
          refine wpE_l rfl rfl (fun K hK => ?_)
          go_simp
          refine (A1.out _ (H'.out.ext HE) (H''.out.ext HE)).mono ?_
          rintro e u20 ⟨a20, n20, c20, rfl, hs20, hx⟩
          refine hK.out _ _ hx ?_
          clear hK K
          try simp only [Act.put, List.setIfInBounds_toArray, List.set_cons_zero, List.set_cons_succ]
          replace bp := Bl.ext hx bp (Nat.succ_pos _)
          replace bq := Bl.ext hx bq (Nat.succ_pos _)
          replace br := Bl.ext hx br (Nat.succ_pos _)
          replace bx := Bl.ext hx bx (Nat.succ_pos _)
          replace bv := Bl.ext hx bv (Nat.succ_pos _)
          replace be := Bl.ext hx be (Nat.succ_pos _)
          replace bf := Bl.ext hx bf (Nat.succ_pos _)
          replace bh := Bl.ext hx bh (Nat.succ_pos _)
          replace hsx := hsx.ext hx
          replace hsv := hsv.ext hx
          replace hs4 := hs4.ext hx
          replace hs9 := hs9.ext hx
          replace hs16 := hs16.ext hx
          replace HE := HE.trans hx
          clear hx
          replace hs20 : Nc u20 a20 n20 c20 (r1).natAbs := hs20
          refine wpE_l rfl rfl (fun K hK => ?_)
          go_simp
          refine (A7.out _ (H.out.ext HE) _ _ _ _ (hs20.wh (by have := L1.out; omega))).mono ?_
          rintro e u21 ⟨a21, n21, c21, rfl, hs21, hx⟩
          refine hK.out _ _ hx ?_
          clear hK K
          try simp only [Act.put, List.setIfInBounds_toArray, List.set_cons_zero, List.set_cons_succ]
          replace bp := Bl.ext hx bp (Nat.succ_pos _)
          replace bq := Bl.ext hx bq (Nat.succ_pos _)
          replace br := Bl.ext hx br (Nat.succ_pos _)
          replace bx := Bl.ext hx bx (Nat.succ_pos _)
          replace bv := Bl.ext hx bv (Nat.succ_pos _)
          replace be := Bl.ext hx be (Nat.succ_pos _)
          replace bf := Bl.ext hx bf (Nat.succ_pos _)
          replace bh := Bl.ext hx bh (Nat.succ_pos _)
          replace hsx := hsx.ext hx
          replace hsv := hsv.ext hx
          replace hs4 := hs4.ext hx
          replace hs9 := hs9.ext hx
          replace hs16 := hs16.ext hx
          replace hs20 := hs20.ext hx
          replace HE := HE.trans hx
          clear hx
          replace hs21 : Nc u21 a21 n21 c21 (r6).natAbs := hs21
          refine wpE_l rfl rfl (fun K hK => ?_)
          go_simp
          refine (d_SameW hs16 hs21 (by have := L6.out; omega)).mono ?_
          rintro e u22 ⟨rfl, hx⟩
          refine hK.out _ _ hx ?_
          clear hK K
          try simp only [Act.put, List.setIfInBounds_toArray, List.set_cons_zero, List.set_cons_succ]
          replace bp := Bl.ext hx bp (Nat.succ_pos _)
          replace bq := Bl.ext hx bq (Nat.succ_pos _)
          replace br := Bl.ext hx br (Nat.succ_pos _)
          replace bx := Bl.ext hx bx (Nat.succ_pos _)
          replace bv := Bl.ext hx bv (Nat.succ_pos _)
          replace be := Bl.ext hx be (Nat.succ_pos _)
          replace bf := Bl.ext hx bf (Nat.succ_pos _)
          replace bh := Bl.ext hx bh (Nat.succ_pos _)
          replace hsx := hsx.ext hx
          replace hsv := hsv.ext hx
          replace hs4 := hs4.ext hx
          replace hs9 := hs9.ext hx
          replace hs16 := hs16.ext hx
          replace hs20 := hs20.ext hx
          replace hs21 := hs21.ext hx
          replace HE := HE.trans hx
          clear hx
          repeat (refine wpE_q (v := ?_) rfl rfl (fun u hu => ?_) ?_; rotate_left 1; (focus (have kp := Bl.ext hu bp (Nat.succ_pos _); have kq := Bl.ext hu bq (Nat.succ_pos _); have kr := Bl.ext hu br (Nat.succ_pos _); have kx := Bl.ext hu bx (Nat.succ_pos _); have kv := Bl.ext hu bv (Nat.succ_pos _); have ke := Bl.ext hu be (Nat.succ_pos _); have kf := Bl.ext hu bf (Nat.succ_pos _); have kh := Bl.ext hu bh (Nat.succ_pos _); go_simp; (try rfl))); simp only [Act.put, List.setIfInBounds_toArray, List.set_cons_zero, List.set_cons_succ])
          refine wpE_l rfl rfl (fun K hK => ?_)
          go_simp
          refine (w_Sum none 0 0 [] 1 _ (whs_nil _ _) (by omega)).mono ?_
          rw [HS0.out]
          rintro e u25 ⟨a25, n25, c25, rfl, hs25, hx⟩
          refine hK.out _ _ hx ?_
          clear hK K
          try simp only [Act.put, List.setIfInBounds_toArray, List.set_cons_zero, List.set_cons_succ]
          replace bp := Bl.ext hx bp (Nat.succ_pos _)
          replace bq := Bl.ext hx bq (Nat.succ_pos _)
          replace br := Bl.ext hx br (Nat.succ_pos _)
          replace bx := Bl.ext hx bx (Nat.succ_pos _)
          replace bv := Bl.ext hx bv (Nat.succ_pos _)
          replace be := Bl.ext hx be (Nat.succ_pos _)
          replace bf := Bl.ext hx bf (Nat.succ_pos _)
          replace bh := Bl.ext hx bh (Nat.succ_pos _)
          replace hsx := hsx.ext hx
          replace hsv := hsv.ext hx
          replace hs4 := hs4.ext hx
          replace hs9 := hs9.ext hx
          replace hs16 := hs16.ext hx
          replace hs20 := hs20.ext hx
          replace hs21 := hs21.ext hx
          replace HE := HE.trans hx
          clear hx
          replace hs25 : Nc u25 a25 n25 c25 ((0 : Int)).natAbs := hs25
          refine wpE_l rfl rfl (fun K hK => ?_)
          go_simp
          refine (d_SameW (b := false) (V := 0) hs25 (Nc.zero _) (by rw [dl_zero]; omega)).mono ?_
          rintro e u27 ⟨rfl, hx⟩
          refine hK.out _ _ hx ?_
          clear hK K
          try simp only [Act.put, List.setIfInBounds_toArray, List.set_cons_zero, List.set_cons_succ]
          replace bp := Bl.ext hx bp (Nat.succ_pos _)
          replace bq := Bl.ext hx bq (Nat.succ_pos _)
          replace br := Bl.ext hx br (Nat.succ_pos _)
          replace bx := Bl.ext hx bx (Nat.succ_pos _)
          replace bv := Bl.ext hx bv (Nat.succ_pos _)
          replace be := Bl.ext hx be (Nat.succ_pos _)
          replace bf := Bl.ext hx bf (Nat.succ_pos _)
          replace bh := Bl.ext hx bh (Nat.succ_pos _)
          replace hsx := hsx.ext hx
          replace hsv := hsv.ext hx
          replace hs4 := hs4.ext hx
          replace hs9 := hs9.ext hx
          replace hs16 := hs16.ext hx
          replace hs20 := hs20.ext hx
          replace hs21 := hs21.ext hx
          replace hs25 := hs25.ext hx
          replace HE := HE.trans hx
          clear hx
          repeat (refine wpE_q (v := ?_) rfl rfl (fun u hu => ?_) ?_; rotate_left 1; (focus (have kp := Bl.ext hu bp (Nat.succ_pos _); have kq := Bl.ext hu bq (Nat.succ_pos _); have kr := Bl.ext hu br (Nat.succ_pos _); have kx := Bl.ext hu bx (Nat.succ_pos _); have kv := Bl.ext hu bv (Nat.succ_pos _); have ke := Bl.ext hu be (Nat.succ_pos _); have kf := Bl.ext hu bf (Nat.succ_pos _); have kh := Bl.ext hu bh (Nat.succ_pos _); go_simp; (try rfl))); simp only [Act.put, List.setIfInBounds_toArray, List.set_cons_zero, List.set_cons_succ])
          refine wpE_l rfl rfl (fun K hK => ?_)
          go_simp
          refine (d_SameW hsx hsv (by have := L5.out; omega)).mono ?_
          rintro e u32 ⟨rfl, hx⟩
          refine hK.out _ _ hx ?_
          clear hK K
          try simp only [Act.put, List.setIfInBounds_toArray, List.set_cons_zero, List.set_cons_succ]
          replace bp := Bl.ext hx bp (Nat.succ_pos _)
          replace bq := Bl.ext hx bq (Nat.succ_pos _)
          replace br := Bl.ext hx br (Nat.succ_pos _)
          replace bx := Bl.ext hx bx (Nat.succ_pos _)
          replace bv := Bl.ext hx bv (Nat.succ_pos _)
          replace be := Bl.ext hx be (Nat.succ_pos _)
          replace bf := Bl.ext hx bf (Nat.succ_pos _)
          replace bh := Bl.ext hx bh (Nat.succ_pos _)
          replace hsx := hsx.ext hx
          replace hsv := hsv.ext hx
          replace hs4 := hs4.ext hx
          replace hs9 := hs9.ext hx
          replace hs16 := hs16.ext hx
          replace hs20 := hs20.ext hx
          replace hs21 := hs21.ext hx
          replace hs25 := hs25.ext hx
          replace HE := HE.trans hx
          clear hx
          repeat (refine wpE_q (v := ?_) rfl rfl (fun u hu => ?_) ?_; rotate_left 1; (focus (have kp := Bl.ext hu bp (Nat.succ_pos _); have kq := Bl.ext hu bq (Nat.succ_pos _); have kr := Bl.ext hu br (Nat.succ_pos _); have kx := Bl.ext hu bx (Nat.succ_pos _); have kv := Bl.ext hu bv (Nat.succ_pos _); have ke := Bl.ext hu be (Nat.succ_pos _); have kf := Bl.ext hu bf (Nat.succ_pos _); have kh := Bl.ext hu bh (Nat.succ_pos _); go_simp; (try rfl))); simp only [Act.put, List.setIfInBounds_toArray, List.set_cons_zero, List.set_cons_succ])
          refine wpE_l rfl rfl (fun K hK => ?_)
          go_simp
          refine (A8.out _ (H.out.ext HE) (H'.out.ext HE)).mono ?_
          rintro e u37 ⟨rfl, hx⟩
          refine hK.out _ _ hx ?_
          clear hK K
          try simp only [Act.put, List.setIfInBounds_toArray, List.set_cons_zero, List.set_cons_succ]
          replace bp := Bl.ext hx bp (Nat.succ_pos _)
          replace bq := Bl.ext hx bq (Nat.succ_pos _)
          replace br := Bl.ext hx br (Nat.succ_pos _)
          replace bx := Bl.ext hx bx (Nat.succ_pos _)
          replace bv := Bl.ext hx bv (Nat.succ_pos _)
          replace be := Bl.ext hx be (Nat.succ_pos _)
          replace bf := Bl.ext hx bf (Nat.succ_pos _)
          replace bh := Bl.ext hx bh (Nat.succ_pos _)
          replace hsx := hsx.ext hx
          replace hsv := hsv.ext hx
          replace hs4 := hs4.ext hx
          replace hs9 := hs9.ext hx
          replace hs16 := hs16.ext hx
          replace hs20 := hs20.ext hx
          replace hs21 := hs21.ext hx
          replace hs25 := hs25.ext hx
          replace HE := HE.trans hx
          clear hx
          refine wpE_l rfl rfl (fun K hK => ?_)
          go_simp
          refine (A4.out _ (H.out.ext HE) (H''.out.ext HE)).mono ?_
          rintro e u40 ⟨a40, n40, c40, rfl, hs40, hx⟩
          refine hK.out _ _ hx ?_
          clear hK K
          try simp only [Act.put, List.setIfInBounds_toArray, List.set_cons_zero, List.set_cons_succ]
          replace bp := Bl.ext hx bp (Nat.succ_pos _)
          replace bq := Bl.ext hx bq (Nat.succ_pos _)
          replace br := Bl.ext hx br (Nat.succ_pos _)
          replace bx := Bl.ext hx bx (Nat.succ_pos _)
          replace bv := Bl.ext hx bv (Nat.succ_pos _)
          replace be := Bl.ext hx be (Nat.succ_pos _)
          replace bf := Bl.ext hx bf (Nat.succ_pos _)
          replace bh := Bl.ext hx bh (Nat.succ_pos _)
          replace hsx := hsx.ext hx
          replace hsv := hsv.ext hx
          replace hs4 := hs4.ext hx
          replace hs9 := hs9.ext hx
          replace hs16 := hs16.ext hx
          replace hs20 := hs20.ext hx
          replace hs21 := hs21.ext hx
          replace hs25 := hs25.ext hx
          replace HE := HE.trans hx
          clear hx
          replace hs40 : Nc u40 a40 n40 c40 (r4).natAbs := hs40
          refine wpE_l rfl rfl (fun K hK => ?_)
          go_simp
          refine (A1.out _ (H'.out.ext HE) (H''.out.ext HE)).mono ?_
          rintro e u43 ⟨a43, n43, c43, rfl, hs43, hx⟩
          refine hK.out _ _ hx ?_
          clear hK K
          try simp only [Act.put, List.setIfInBounds_toArray, List.set_cons_zero, List.set_cons_succ]
          replace bp := Bl.ext hx bp (Nat.succ_pos _)
          replace bq := Bl.ext hx bq (Nat.succ_pos _)
          replace br := Bl.ext hx br (Nat.succ_pos _)
          replace bx := Bl.ext hx bx (Nat.succ_pos _)
          replace bv := Bl.ext hx bv (Nat.succ_pos _)
          replace be := Bl.ext hx be (Nat.succ_pos _)
          replace bf := Bl.ext hx bf (Nat.succ_pos _)
          replace bh := Bl.ext hx bh (Nat.succ_pos _)
          replace hsx := hsx.ext hx
          replace hsv := hsv.ext hx
          replace hs4 := hs4.ext hx
          replace hs9 := hs9.ext hx
          replace hs16 := hs16.ext hx
          replace hs20 := hs20.ext hx
          replace hs21 := hs21.ext hx
          replace hs25 := hs25.ext hx
          replace hs40 := hs40.ext hx
          replace HE := HE.trans hx
          clear hx
          replace hs43 : Nc u43 a43 n43 c43 (r1).natAbs := hs43
          refine wpE_l rfl rfl (fun K hK => ?_)
          go_simp
          refine (A9.out _ _ _ _ _ (hs40.wh (by have := L4.out; omega)) _ _ _ _ (hs43.wh (by have := L1.out; omega))).mono ?_
          rintro e u44 ⟨rfl, hx⟩
          refine hK.out _ _ hx ?_
          clear hK K
          try simp only [Act.put, List.setIfInBounds_toArray, List.set_cons_zero, List.set_cons_succ]
          replace bp := Bl.ext hx bp (Nat.succ_pos _)
          replace bq := Bl.ext hx bq (Nat.succ_pos _)
          replace br := Bl.ext hx br (Nat.succ_pos _)
          replace bx := Bl.ext hx bx (Nat.succ_pos _)
          replace bv := Bl.ext hx bv (Nat.succ_pos _)
          replace be := Bl.ext hx be (Nat.succ_pos _)
          replace bf := Bl.ext hx bf (Nat.succ_pos _)
          replace bh := Bl.ext hx bh (Nat.succ_pos _)
          replace hsx := hsx.ext hx
          replace hsv := hsv.ext hx
          replace hs4 := hs4.ext hx
          replace hs9 := hs9.ext hx
          replace hs16 := hs16.ext hx
          replace hs20 := hs20.ext hx
          replace hs21 := hs21.ext hx
          replace hs25 := hs25.ext hx
          replace hs40 := hs40.ext hx
          replace hs43 := hs43.ext hx
          replace HE := HE.trans hx
          clear hx
          repeat (refine wpE_q (v := ?_) rfl rfl (fun u hu => ?_) ?_; rotate_left 1; (focus (have kp := Bl.ext hu bp (Nat.succ_pos _); have kq := Bl.ext hu bq (Nat.succ_pos _); have kr := Bl.ext hu br (Nat.succ_pos _); have kx := Bl.ext hu bx (Nat.succ_pos _); have kv := Bl.ext hu bv (Nat.succ_pos _); have ke := Bl.ext hu be (Nat.succ_pos _); have kf := Bl.ext hu bf (Nat.succ_pos _); have kh := Bl.ext hu bh (Nat.succ_pos _); go_simp; (try rfl))); simp only [Act.put, List.setIfInBounds_toArray, List.set_cons_zero, List.set_cons_succ])
          refine wpE_l rfl rfl (fun K hK => ?_)
          go_simp
          refine (w_lives_any _).mono ?_
          rintro e u48 ⟨rfl, hx⟩
          refine hK.out _ _ hx ?_
          clear hK K
          try simp only [Act.put, List.setIfInBounds_toArray, List.set_cons_zero, List.set_cons_succ]
          replace bp := Bl.ext hx bp (Nat.succ_pos _)
          replace bq := Bl.ext hx bq (Nat.succ_pos _)
          replace br := Bl.ext hx br (Nat.succ_pos _)
          replace bx := Bl.ext hx bx (Nat.succ_pos _)
          replace bv := Bl.ext hx bv (Nat.succ_pos _)
          replace be := Bl.ext hx be (Nat.succ_pos _)
          replace bf := Bl.ext hx bf (Nat.succ_pos _)
          replace bh := Bl.ext hx bh (Nat.succ_pos _)
          replace hsx := hsx.ext hx
          replace hsv := hsv.ext hx
          replace hs4 := hs4.ext hx
          replace hs9 := hs9.ext hx
          replace hs16 := hs16.ext hx
          replace hs20 := hs20.ext hx
          replace hs21 := hs21.ext hx
          replace hs25 := hs25.ext hx
          replace hs40 := hs40.ext hx
          replace hs43 := hs43.ext hx
          replace HE := HE.trans hx
          clear hx
          repeat (refine wpE_q (v := ?_) rfl rfl (fun u hu => ?_) ?_; rotate_left 1; (focus (have kp := Bl.ext hu bp (Nat.succ_pos _); have kq := Bl.ext hu bq (Nat.succ_pos _); have kr := Bl.ext hu br (Nat.succ_pos _); have kx := Bl.ext hu bx (Nat.succ_pos _); have kv := Bl.ext hu bv (Nat.succ_pos _); have ke := Bl.ext hu be (Nat.succ_pos _); have kf := Bl.ext hu bf (Nat.succ_pos _); have kh := Bl.ext hu bh (Nat.succ_pos _); go_simp; (try rfl))); simp only [Act.put, List.setIfInBounds_toArray, List.set_cons_zero, List.set_cons_succ])
          refine wpE_done ?_
          go_wp2_with fail
          go_ret
          exact ⟨rfl, HE⟩
      · refine wpE_l rfl rfl (fun K hK => ?_)
        go_simp
        refine hK.out _ _ ((Ext.refl _).alloc _) ?_
        clear hK K
        try simp only [Act.put, List.setIfInBounds_toArray, List.set_cons_zero, List.set_cons_succ]
        have lpf := bp.lt (Nat.succ_pos _)
        have lqf := bq.lt (Nat.succ_pos _)
        have lrf := br.lt (Nat.succ_pos _)
        have lxf := bx.lt (Nat.succ_pos _)
        have lvf := bv.lt (Nat.succ_pos _)
        have l0f := HE.size
        refine absE (fun x3 hx3 => ?_)
        have hx : Ext x2 x3 := by rw [hx3]; exact ((Ext.refl _).alloc _)
        have bf : Bl x3 (x2.heap.size) #[.bool b'', .slice a'' n'' c'', .bool b, .slice a n c, .bool b', .slice a' n' c'] := by rw [hx3]; exact (Bl.new (by simp))
        replace bp := Bl.ext hx bp (Nat.succ_pos _)
        replace bq := Bl.ext hx bq (Nat.succ_pos _)
        replace br := Bl.ext hx br (Nat.succ_pos _)
        replace bx := Bl.ext hx bx (Nat.succ_pos _)
        replace bv := Bl.ext hx bv (Nat.succ_pos _)
        replace hsx := hsx.ext hx
        replace hsv := hsv.ext hx
        replace HE := HE.trans hx
        clear hx
        clear hx3
        refine wpE_l rfl rfl (fun K hK => ?_)
        go_simp
        refine hK.out _ _ ((Ext.refl _).alloc _) ?_
        clear hK K
        try simp only [Act.put, List.setIfInBounds_toArray, List.set_cons_zero, List.set_cons_succ]
        have lpe := bp.lt (Nat.succ_pos _)
        have lqe := bq.lt (Nat.succ_pos _)
        have lre := br.lt (Nat.succ_pos _)
        have lxe := bx.lt (Nat.succ_pos _)
        have lve := bv.lt (Nat.succ_pos _)
        have lfe := bf.lt (Nat.succ_pos _)
        have l0e := HE.size
        refine absE (fun x4 hx4 => ?_)
        have hx : Ext x3 x4 := by rw [hx4]; exact ((Ext.refl _).alloc _)
        have be : Bl x4 (x3.heap.size) #[.bool b, .slice a n c, .bool b', .slice a' n' c', .bool b'', .slice a'' n'' c''] := by rw [hx4]; exact (Bl.new (by simp))
        replace bp := Bl.ext hx bp (Nat.succ_pos _)
        replace bq := Bl.ext hx bq (Nat.succ_pos _)
        replace br := Bl.ext hx br (Nat.succ_pos _)
        replace bx := Bl.ext hx bx (Nat.succ_pos _)
        replace bv := Bl.ext hx bv (Nat.succ_pos _)
        replace bf := Bl.ext hx bf (Nat.succ_pos _)
        replace hsx := hsx.ext hx
        replace hsv := hsv.ext hx
        replace HE := HE.trans hx
        clear hx
        clear hx4
        refine wpE_l rfl rfl (fun K hK => ?_)
        go_simp
        refine (w_Sum _ 3 3 [z, z', z''] 1048576 _ (whs_three be (H.out.ext HE) (H'.out.ext HE) (H''.out.ext HE) ⟨LL.out.1, LL.out.2.1, LL.out.2.2⟩) (by omega)).mono ?_
        rw [HS1.out]
        rintro e u4 ⟨a4, n4, c4, rfl, hs4, hx⟩
        refine hK.out _ _ hx ?_
        clear hK K
        try simp only [Act.put, List.setIfInBounds_toArray, List.set_cons_zero, List.set_cons_succ]
        replace bp := Bl.ext hx bp (Nat.succ_pos _)
        replace bq := Bl.ext hx bq (Nat.succ_pos _)
        replace br := Bl.ext hx br (Nat.succ_pos _)
        replace bx := Bl.ext hx bx (Nat.succ_pos _)
        replace bv := Bl.ext hx bv (Nat.succ_pos _)
        replace bf := Bl.ext hx bf (Nat.succ_pos _)
        replace be := Bl.ext hx be (Nat.succ_pos _)
        replace hsx := hsx.ext hx
        replace hsv := hsv.ext hx
        replace HE := HE.trans hx
        clear hx
        replace hs4 : Nc u4 a4 n4 c4 (r6).natAbs := hs4
        refine wpE_l rfl rfl (fun K hK => ?_)
        go_simp
        refine (w_Sum _ 3 3 [z'', z, z'] 1048576 _ (whs_three bf (H''.out.ext HE) (H.out.ext HE) (H'.out.ext HE) ⟨LL.out.2.2, LL.out.1, LL.out.2.1⟩) (by omega)).mono ?_
        rw [HS2.out]
        rintro e u9 ⟨a9, n9, c9, rfl, hs9, hx⟩
        refine hK.out _ _ hx ?_
        clear hK K
        try simp only [Act.put, List.setIfInBounds_toArray, List.set_cons_zero, List.set_cons_succ]
        replace bp := Bl.ext hx bp (Nat.succ_pos _)
        replace bq := Bl.ext hx bq (Nat.succ_pos _)
        replace br := Bl.ext hx br (Nat.succ_pos _)
        replace bx := Bl.ext hx bx (Nat.succ_pos _)
        replace bv := Bl.ext hx bv (Nat.succ_pos _)
        replace bf := Bl.ext hx bf (Nat.succ_pos _)
        replace be := Bl.ext hx be (Nat.succ_pos _)
        replace hsx := hsx.ext hx
        replace hsv := hsv.ext hx
        replace hs4 := hs4.ext hx
        replace HE := HE.trans hx
        clear hx
        replace hs9 : Nc u9 a9 n9 c9 (r6).natAbs := hs9
        refine wpE_l rfl rfl (fun K hK => ?_)
        go_simp
        refine (d_SameW hs4 hs9 (by have := L6.out; omega)).mono ?_
        rintro e u10 ⟨rfl, hx⟩
        refine hK.out _ _ hx ?_
        clear hK K
        try simp only [Act.put, List.setIfInBounds_toArray, List.set_cons_zero, List.set_cons_succ]
        replace bp := Bl.ext hx bp (Nat.succ_pos _)
        replace bq := Bl.ext hx bq (Nat.succ_pos _)
        replace br := Bl.ext hx br (Nat.succ_pos _)
        replace bx := Bl.ext hx bx (Nat.succ_pos _)
        replace bv := Bl.ext hx bv (Nat.succ_pos _)
        replace bf := Bl.ext hx bf (Nat.succ_pos _)
        replace be := Bl.ext hx be (Nat.succ_pos _)
        replace hsx := hsx.ext hx
        replace hsv := hsv.ext hx
        replace hs4 := hs4.ext hx
        replace hs9 := hs9.ext hx
        replace HE := HE.trans hx
        clear hx
        repeat (refine wpE_q (v := ?_) rfl rfl (fun u hu => ?_) ?_; rotate_left 1; (focus (have kp := Bl.ext hu bp (Nat.succ_pos _); have kq := Bl.ext hu bq (Nat.succ_pos _); have kr := Bl.ext hu br (Nat.succ_pos _); have kx := Bl.ext hu bx (Nat.succ_pos _); have kv := Bl.ext hu bv (Nat.succ_pos _); have kf := Bl.ext hu bf (Nat.succ_pos _); have ke := Bl.ext hu be (Nat.succ_pos _); go_simp; (try rfl))); simp only [Act.put, List.setIfInBounds_toArray, List.set_cons_zero, List.set_cons_succ])
        refine wpE_l rfl rfl (fun K hK => ?_)
        go_simp
        refine hK.out _ _ ((Ext.refl _).alloc _) ?_
        clear hK K
        try simp only [Act.put, List.setIfInBounds_toArray, List.set_cons_zero, List.set_cons_succ]
        have lph := bp.lt (Nat.succ_pos _)
        have lqh := bq.lt (Nat.succ_pos _)
        have lrh := br.lt (Nat.succ_pos _)
        have lxh := bx.lt (Nat.succ_pos _)
        have lvh := bv.lt (Nat.succ_pos _)
        have lfh := bf.lt (Nat.succ_pos _)
        have leh := be.lt (Nat.succ_pos _)
        have l0h := HE.size
        refine absE (fun x5 hx5 => ?_)
        have hx : Ext u10 x5 := by rw [hx5]; exact ((Ext.refl _).alloc _)
        have bh : Bl x5 (u10.heap.size) #[.bool b, .slice a n c, .bool b', .slice a' n' c', .bool b'', .slice a'' n'' c''] := by rw [hx5]; exact (Bl.new (by simp))
        replace bp := Bl.ext hx bp (Nat.succ_pos _)
        replace bq := Bl.ext hx bq (Nat.succ_pos _)
        replace br := Bl.ext hx br (Nat.succ_pos _)
        replace bx := Bl.ext hx bx (Nat.succ_pos _)
        replace bv := Bl.ext hx bv (Nat.succ_pos _)
        replace bf := Bl.ext hx bf (Nat.succ_pos _)
        replace be := Bl.ext hx be (Nat.succ_pos _)
        replace hsx := hsx.ext hx
        replace hsv := hsv.ext hx
        replace hs4 := hs4.ext hx
        replace hs9 := hs9.ext hx
        replace HE := HE.trans hx
        clear hx
        clear hx5
        refine wpE_l rfl rfl (fun K hK => ?_)
        go_simp
        refine (w_Sum _ 3 3 [z, z', z''] 1048576 _ (whs_three bh (H.out.ext HE) (H'.out.ext HE) (H''.out.ext HE) ⟨LL.out.1, LL.out.2.1, LL.out.2.2⟩) (by omega)).mono ?_
        rw [HS1.out]
        rintro e u16 ⟨a16, n16, c16, rfl, hs16, hx⟩
        refine hK.out _ _ hx ?_
        clear hK K
        try simp only [Act.put, List.setIfInBounds_toArray, List.set_cons_zero, List.set_cons_succ]
        replace bp := Bl.ext hx bp (Nat.succ_pos _)
        replace bq := Bl.ext hx bq (Nat.succ_pos _)
        replace br := Bl.ext hx br (Nat.succ_pos _)
        replace bx := Bl.ext hx bx (Nat.succ_pos _)
        replace bv := Bl.ext hx bv (Nat.succ_pos _)
        replace bf := Bl.ext hx bf (Nat.succ_pos _)
        replace be := Bl.ext hx be (Nat.succ_pos _)
        replace bh := Bl.ext hx bh (Nat.succ_pos _)
        replace hsx := hsx.ext hx
        replace hsv := hsv.ext hx
        replace hs4 := hs4.ext hx
        replace hs9 := hs9.ext hx
        replace HE := HE.trans hx
        clear hx
        replace hs16 : Nc u16 a16 n16 c16 (r6).natAbs := hs16
        refine wpE_l rfl rfl (fun K hK => ?_)
        go_simp
        refine (A1.out _ (H'.out.ext HE) (H''.out.ext HE)).mono ?_
        rintro e u20 ⟨a20, n20, c20, rfl, hs20, hx⟩
        refine hK.out _ _ hx ?_
        clear hK K
        try simp only [Act.put, List.setIfInBounds_toArray, List.set_cons_zero, List.set_cons_succ]
        replace bp := Bl.ext hx bp (Nat.succ_pos _)
        replace bq := Bl.ext hx bq (Nat.succ_pos _)
        replace br := Bl.ext hx br (Nat.succ_pos _)
        replace bx := Bl.ext hx bx (Nat.succ_pos _)
        replace bv := Bl.ext hx bv (Nat.succ_pos _)
        replace bf := Bl.ext hx bf (Nat.succ_pos _)
        replace be := Bl.ext hx be (Nat.succ_pos _)
        replace bh := Bl.ext hx bh (Nat.succ_pos _)
        replace hsx := hsx.ext hx
        replace hsv := hsv.ext hx
        replace hs4 := hs4.ext hx
        replace hs9 := hs9.ext hx
        replace hs16 := hs16.ext hx
        replace HE := HE.trans hx
        clear hx
        replace hs20 : Nc u20 a20 n20 c20 (r1).natAbs := hs20
        refine wpE_l rfl rfl (fun K hK => ?_)
        go_simp
        refine (A7.out _ (H.out.ext HE) _ _ _ _ (hs20.wh (by have := L1.out; omega))).mono ?_
        rintro e u21 ⟨a21, n21, c21, rfl, hs21, hx⟩
        refine hK.out _ _ hx ?_
        clear hK K
        try simp only [Act.put, List.setIfInBounds_toArray, List.set_cons_zero, List.set_cons_succ]
        replace bp := Bl.ext hx bp (Nat.succ_pos _)
        replace bq := Bl.ext hx bq (Nat.succ_pos _)
        replace br := Bl.ext hx br (Nat.succ_pos _)
        replace bx := Bl.ext hx bx (Nat.succ_pos _)
        replace bv := Bl.ext hx bv (Nat.succ_pos _)
        replace bf := Bl.ext hx bf (Nat.succ_pos _)
        replace be := Bl.ext hx be (Nat.succ_pos _)
        replace bh := Bl.ext hx bh (Nat.succ_pos _)
        replace hsx := hsx.ext hx
        replace hsv := hsv.ext hx
        replace hs4 := hs4.ext hx
        replace hs9 := hs9.ext hx
        replace hs16 := hs16.ext hx
        replace hs20 := hs20.ext hx
        replace HE := HE.trans hx
        clear hx
        replace hs21 : Nc u21 a21 n21 c21 (r6).natAbs := hs21
        refine wpE_l rfl rfl (fun K hK => ?_)
        go_simp
        refine (d_SameW hs16 hs21 (by have := L6.out; omega)).mono ?_
        rintro e u22 ⟨rfl, hx⟩
        refine hK.out _ _ hx ?_
        clear hK K
        try simp only [Act.put, List.setIfInBounds_toArray, List.set_cons_zero, List.set_cons_succ]
        replace bp := Bl.ext hx bp (Nat.succ_pos _)
        replace bq := Bl.ext hx bq (Nat.succ_pos _)
        replace br := Bl.ext hx br (Nat.succ_pos _)
        replace bx := Bl.ext hx bx (Nat.succ_pos _)
        replace bv := Bl.ext hx bv (Nat.succ_pos _)
        replace bf := Bl.ext hx bf (Nat.succ_pos _)
        replace be := Bl.ext hx be (Nat.succ_pos _)
        replace bh := Bl.ext hx bh (Nat.succ_pos _)
        replace hsx := hsx.ext hx
        replace hsv := hsv.ext hx
        replace hs4 := hs4.ext hx
        replace hs9 := hs9.ext hx
        replace hs16 := hs16.ext hx
        replace hs20 := hs20.ext hx
        replace hs21 := hs21.ext hx
        replace HE := HE.trans hx
        clear hx
        repeat (refine wpE_q (v := ?_) rfl rfl (fun u hu => ?_) ?_; rotate_left 1; (focus (have kp := Bl.ext hu bp (Nat.succ_pos _); have kq := Bl.ext hu bq (Nat.succ_pos _); have kr := Bl.ext hu br (Nat.succ_pos _); have kx := Bl.ext hu bx (Nat.succ_pos _); have kv := Bl.ext hu bv (Nat.succ_pos _); have kf := Bl.ext hu bf (Nat.succ_pos _); have ke := Bl.ext hu be (Nat.succ_pos _); have kh := Bl.ext hu bh (Nat.succ_pos _); go_simp; (try rfl))); simp only [Act.put, List.setIfInBounds_toArray, List.set_cons_zero, List.set_cons_succ])
        refine wpE_l rfl rfl (fun K hK => ?_)
        go_simp
        refine (w_Sum none 0 0 [] 1 _ (whs_nil _ _) (by omega)).mono ?_
        rw [HS0.out]
        rintro e u25 ⟨a25, n25, c25, rfl, hs25, hx⟩
        refine hK.out _ _ hx ?_
        clear hK K
        try simp only [Act.put, List.setIfInBounds_toArray, List.set_cons_zero, List.set_cons_succ]
        replace bp := Bl.ext hx bp (Nat.succ_pos _)
        replace bq := Bl.ext hx bq (Nat.succ_pos _)
        replace br := Bl.ext hx br (Nat.succ_pos _)
        replace bx := Bl.ext hx bx (Nat.succ_pos _)
        replace bv := Bl.ext hx bv (Nat.succ_pos _)
        replace bf := Bl.ext hx bf (Nat.succ_pos _)
        replace be := Bl.ext hx be (Nat.succ_pos _)
        replace bh := Bl.ext hx bh (Nat.succ_pos _)
        replace hsx := hsx.ext hx
        replace hsv := hsv.ext hx
        replace hs4 := hs4.ext hx
        replace hs9 := hs9.ext hx
        replace hs16 := hs16.ext hx
        replace hs20 := hs20.ext hx
        replace hs21 := hs21.ext hx
        replace HE := HE.trans hx
        clear hx
        replace hs25 : Nc u25 a25 n25 c25 ((0 : Int)).natAbs := hs25
        refine wpE_l rfl rfl (fun K hK => ?_)
        go_simp
        refine (d_SameW (b := false) (V := 0) hs25 (Nc.zero _) (by rw [dl_zero]; omega)).mono ?_
        rintro e u27 ⟨rfl, hx⟩
        refine hK.out _ _ hx ?_
        clear hK K
        try simp only [Act.put, List.setIfInBounds_toArray, List.set_cons_zero, List.set_cons_succ]
        replace bp := Bl.ext hx bp (Nat.succ_pos _)
        replace bq := Bl.ext hx bq (Nat.succ_pos _)
        replace br := Bl.ext hx br (Nat.succ_pos _)
        replace bx := Bl.ext hx bx (Nat.succ_pos _)
        replace bv := Bl.ext hx bv (Nat.succ_pos _)
        replace bf := Bl.ext hx bf (Nat.succ_pos _)
        replace be := Bl.ext hx be (Nat.succ_pos _)
        replace bh := Bl.ext hx bh (Nat.succ_pos _)
        replace hsx := hsx.ext hx
        replace hsv := hsv.ext hx
        replace hs4 := hs4.ext hx
        replace hs9 := hs9.ext hx
        replace hs16 := hs16.ext hx
        replace hs20 := hs20.ext hx
        replace hs21 := hs21.ext hx
        replace hs25 := hs25.ext hx
        replace HE := HE.trans hx
        clear hx
        repeat (refine wpE_q (v := ?_) rfl rfl (fun u hu => ?_) ?_; rotate_left 1; (focus (have kp := Bl.ext hu bp (Nat.succ_pos _); have kq := Bl.ext hu bq (Nat.succ_pos _); have kr := Bl.ext hu br (Nat.succ_pos _); have kx := Bl.ext hu bx (Nat.succ_pos _); have kv := Bl.ext hu bv (Nat.succ_pos _); have kf := Bl.ext hu bf (Nat.succ_pos _); have ke := Bl.ext hu be (Nat.succ_pos _); have kh := Bl.ext hu bh (Nat.succ_pos _); go_simp; (try rfl))); simp only [Act.put, List.setIfInBounds_toArray, List.set_cons_zero, List.set_cons_succ])
        refine wpE_l rfl rfl (fun K hK => ?_)
        go_simp
        refine (d_SameW hsx hsv (by have := L5.out; omega)).mono ?_
        rintro e u32 ⟨rfl, hx⟩
        refine hK.out _ _ hx ?_
        clear hK K
        try simp only [Act.put, List.setIfInBounds_toArray, List.set_cons_zero, List.set_cons_succ]
        replace bp := Bl.ext hx bp (Nat.succ_pos _)
        replace bq := Bl.ext hx bq (Nat.succ_pos _)
        replace br := Bl.ext hx br (Nat.succ_pos _)
        replace bx := Bl.ext hx bx (Nat.succ_pos _)
        replace bv := Bl.ext hx bv (Nat.succ_pos _)
        replace bf := Bl.ext hx bf (Nat.succ_pos _)
        replace be := Bl.ext hx be (Nat.succ_pos _)
        replace bh := Bl.ext hx bh (Nat.succ_pos _)
        replace hsx := hsx.ext hx
        replace hsv := hsv.ext hx
        replace hs4 := hs4.ext hx
        replace hs9 := hs9.ext hx
        replace hs16 := hs16.ext hx
        replace hs20 := hs20.ext hx
        replace hs21 := hs21.ext hx
        replace hs25 := hs25.ext hx
        replace HE := HE.trans hx
        clear hx
        repeat (refine wpE_q (v := ?_) rfl rfl (fun u hu => ?_) ?_; rotate_left 1; (focus (have kp := Bl.ext hu bp (Nat.succ_pos _); have kq := Bl.ext hu bq (Nat.succ_pos _); have kr := Bl.ext hu br (Nat.succ_pos _); have kx := Bl.ext hu bx (Nat.succ_pos _); have kv := Bl.ext hu bv (Nat.succ_pos _); have kf := Bl.ext hu bf (Nat.succ_pos _); have ke := Bl.ext hu be (Nat.succ_pos _); have kh := Bl.ext hu bh (Nat.succ_pos _); go_simp; (try rfl))); simp only [Act.put, List.setIfInBounds_toArray, List.set_cons_zero, List.set_cons_succ])
        refine wpE_l rfl rfl (fun K hK => ?_)
        go_simp
        refine (A8.out _ (H.out.ext HE) (H'.out.ext HE)).mono ?_
        rintro e u37 ⟨rfl, hx⟩
        refine hK.out _ _ hx ?_
        clear hK K
        try simp only [Act.put, List.setIfInBounds_toArray, List.set_cons_zero, List.set_cons_succ]
        replace bp := Bl.ext hx bp (Nat.succ_pos _)
        replace bq := Bl.ext hx bq (Nat.succ_pos _)
        replace br := Bl.ext hx br (Nat.succ_pos _)
        replace bx := Bl.ext hx bx (Nat.succ_pos _)
        replace bv := Bl.ext hx bv (Nat.succ_pos _)
        replace bf := Bl.ext hx bf (Nat.succ_pos _)
        replace be := Bl.ext hx be (Nat.succ_pos _)
        replace bh := Bl.ext hx bh (Nat.succ_pos _)
        replace hsx := hsx.ext hx
        replace hsv := hsv.ext hx
        replace hs4 := hs4.ext hx
        replace hs9 := hs9.ext hx
        replace hs16 := hs16.ext hx
        replace hs20 := hs20.ext hx
        replace hs21 := hs21.ext hx
        replace hs25 := hs25.ext hx
        replace HE := HE.trans hx
        clear hx
        refine wpE_l rfl rfl (fun K hK => ?_)
        go_simp
        refine (A4.out _ (H.out.ext HE) (H''.out.ext HE)).mono ?_
        rintro e u40 ⟨a40, n40, c40, rfl, hs40, hx⟩
        refine hK.out _ _ hx ?_
        clear hK K
        try simp only [Act.put, List.setIfInBounds_toArray, List.set_cons_zero, List.set_cons_succ]
        replace bp := Bl.ext hx bp (Nat.succ_pos _)
        replace bq := Bl.ext hx bq (Nat.succ_pos _)
        replace br := Bl.ext hx br (Nat.succ_pos _)
        replace bx := Bl.ext hx bx (Nat.succ_pos _)
        replace bv := Bl.ext hx bv (Nat.succ_pos _)
        replace bf := Bl.ext hx bf (Nat.succ_pos _)
        replace be := Bl.ext hx be (Nat.succ_pos _)
        replace bh := Bl.ext hx bh (Nat.succ_pos _)
        replace hsx := hsx.ext hx
        replace hsv := hsv.ext hx
        replace hs4 := hs4.ext hx
        replace hs9 := hs9.ext hx
        replace hs16 := hs16.ext hx
        replace hs20 := hs20.ext hx
        replace hs21 := hs21.ext hx
        replace hs25 := hs25.ext hx
        replace HE := HE.trans hx
        clear hx
        replace hs40 : Nc u40 a40 n40 c40 (r4).natAbs := hs40
        refine wpE_l rfl rfl (fun K hK => ?_)
        go_simp
        refine (A1.out _ (H'.out.ext HE) (H''.out.ext HE)).mono ?_
        rintro e u43 ⟨a43, n43, c43, rfl, hs43, hx⟩
        refine hK.out _ _ hx ?_
        clear hK K
        try simp only [Act.put, List.setIfInBounds_toArray, List.set_cons_zero, List.set_cons_succ]
        replace bp := Bl.ext hx bp (Nat.succ_pos _)
        replace bq := Bl.ext hx bq (Nat.succ_pos _)
        replace br := Bl.ext hx br (Nat.succ_pos _)
        replace bx := Bl.ext hx bx (Nat.succ_pos _)
        replace bv := Bl.ext hx bv (Nat.succ_pos _)
        replace bf := Bl.ext hx bf (Nat.succ_pos _)
        replace be := Bl.ext hx be (Nat.succ_pos _)
        replace bh := Bl.ext hx bh (Nat.succ_pos _)
        replace hsx := hsx.ext hx
        replace hsv := hsv.ext hx
        replace hs4 := hs4.ext hx
        replace hs9 := hs9.ext hx
        replace hs16 := hs16.ext hx
        replace hs20 := hs20.ext hx
        replace hs21 := hs21.ext hx
        replace hs25 := hs25.ext hx
        replace hs40 := hs40.ext hx
        replace HE := HE.trans hx
        clear hx
        replace hs43 : Nc u43 a43 n43 c43 (r1).natAbs := hs43
        refine wpE_l rfl rfl (fun K hK => ?_)
        go_simp
        refine (A9.out _ _ _ _ _ (hs40.wh (by have := L4.out; omega)) _ _ _ _ (hs43.wh (by have := L1.out; omega))).mono ?_
        rintro e u44 ⟨rfl, hx⟩
        refine hK.out _ _ hx ?_
        clear hK K
        try simp only [Act.put, List.setIfInBounds_toArray, List.set_cons_zero, List.set_cons_succ]
        replace bp := Bl.ext hx bp (Nat.succ_pos _)
        replace bq := Bl.ext hx bq (Nat.succ_pos _)
        replace br := Bl.ext hx br (Nat.succ_pos _)
        replace bx := Bl.ext hx bx (Nat.succ_pos _)
        replace bv := Bl.ext hx bv (Nat.succ_pos _)
        replace bf := Bl.ext hx bf (Nat.succ_pos _)
        replace be := Bl.ext hx be (Nat.succ_pos _)
        replace bh := Bl.ext hx bh (Nat.succ_pos _)
        replace hsx := hsx.ext hx
        replace hsv := hsv.ext hx
        replace hs4 := hs4.ext hx
        replace hs9 := hs9.ext hx
        replace hs16 := hs16.ext hx
        replace hs20 := hs20.ext hx
        replace hs21 := hs21.ext hx
        replace hs25 := hs25.ext hx
        replace hs40 := hs40.ext hx
        replace hs43 := hs43.ext hx
        replace HE := HE.trans hx
        clear hx
        repeat (refine wpE_q (v := ?_) rfl rfl (fun u hu => ?_) ?_; rotate_left 1; (focus (have kp := Bl.ext hu bp (Nat.succ_pos _); have kq := Bl.ext hu bq (Nat.succ_pos _); have kr := Bl.ext hu br (Nat.succ_pos _); have kx := Bl.ext hu bx (Nat.succ_pos _); have kv := Bl.ext hu bv (Nat.succ_pos _); have kf := Bl.ext hu bf (Nat.succ_pos _); have ke := Bl.ext hu be (Nat.succ_pos _); have kh := Bl.ext hu bh (Nat.succ_pos _); go_simp; (try rfl))); simp only [Act.put, List.setIfInBounds_toArray, List.set_cons_zero, List.set_cons_succ])
        refine wpE_l rfl rfl (fun K hK => ?_)
        go_simp
        refine (w_lives_any _).mono ?_
        rintro e u48 ⟨rfl, hx⟩
        refine hK.out _ _ hx ?_
        clear hK K
        try simp only [Act.put, List.setIfInBounds_toArray, List.set_cons_zero, List.set_cons_succ]
        replace bp := Bl.ext hx bp (Nat.succ_pos _)
        replace bq := Bl.ext hx bq (Nat.succ_pos _)
        replace br := Bl.ext hx br (Nat.succ_pos _)
        replace bx := Bl.ext hx bx (Nat.succ_pos _)
        replace bv := Bl.ext hx bv (Nat.succ_pos _)
        replace bf := Bl.ext hx bf (Nat.succ_pos _)
        replace be := Bl.ext hx be (Nat.succ_pos _)
        replace bh := Bl.ext hx bh (Nat.succ_pos _)
        replace hsx := hsx.ext hx
        replace hsv := hsv.ext hx
        replace hs4 := hs4.ext hx
        replace hs9 := hs9.ext hx
        replace hs16 := hs16.ext hx
        replace hs20 := hs20.ext hx
        replace hs21 := hs21.ext hx
        replace hs25 := hs25.ext hx
        replace hs40 := hs40.ext hx
        replace hs43 := hs43.ext hx
        replace HE := HE.trans hx
        clear hx
        repeat (refine wpE_q (v := ?_) rfl rfl (fun u hu => ?_) ?_; rotate_left 1; (focus (have kp := Bl.ext hu bp (Nat.succ_pos _); have kq := Bl.ext hu bq (Nat.succ_pos _); have kr := Bl.ext hu br (Nat.succ_pos _); have kx := Bl.ext hu bx (Nat.succ_pos _); have kv := Bl.ext hu bv (Nat.succ_pos _); have kf := Bl.ext hu bf (Nat.succ_pos _); have ke := Bl.ext hu be (Nat.succ_pos _); have kh := Bl.ext hu bh (Nat.succ_pos _); go_simp; (try rfl))); simp only [Act.put, List.setIfInBounds_toArray, List.set_cons_zero, List.set_cons_succ])
        refine wpE_done ?_
        go_wp2_with fail
        go_ret
        exact ⟨rfl, HE⟩

end Go.Proofs.Ytcipcpbjkcpgdaa
