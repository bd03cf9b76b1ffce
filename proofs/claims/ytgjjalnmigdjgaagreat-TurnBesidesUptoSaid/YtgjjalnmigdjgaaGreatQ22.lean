/- The program's fractions on rationals: the rest. -/
import Derived.Test.YtgjjalnmigdjgaaGreatQ21
import Derived.Test.YtgjjalnmigdjgaaGreatQ4
import Derived.Deep.DeepCutAuto
namespace Go.Proofs.YtgjjalnmigdjgaaGreat
set_option linter.unusedVariables false
open Go Go.RowKit
section
variable {b b' : Bool} {a d a' d' : Option Addr} {n c m k n' c' m' k' N N' : Nat} {q q' : Rat} {w : World}
theorem fq_Int (z : Int) (w : World) (h1 : -9223372036854775808 ≤ z) (h2 : z ≤ 9223372036854775807) : Calls Tryz.prog 61 #[.int .i64 z] w (RetF w (z : Rat).num (z : Rat).den) := f_Int z w h1 h2
theorem cmp_sign {z z' : Int} {D D' : Nat} (h : D ≠ 0) (h' : D' ≠ 0) (hs : sgn z ≠ sgn z') : cmpQ (mkRat z D) (mkRat z' D') = if sgn z < sgn z' then -1 else 1 := by
  rw [← cmpQ_mk h h']
  have hd : (0 : Int) < (D : Int) := by omega
  have hd' : (0 : Int) < (D' : Int) := by omega
  generalize (D : Int) = E at *
  generalize (D' : Int) = E' at *
  have n1 : z < 0 → z * E' < 0 := fun h => Int.mul_neg_of_neg_of_pos h hd'
  have p1 : 0 < z → 0 < z * E' := fun h => Int.mul_pos h hd'
  have n2 : z' < 0 → z' * E < 0 := fun h => Int.mul_neg_of_neg_of_pos h hd
  have p2 : 0 < z' → 0 < z' * E := fun h => Int.mul_pos h hd
  have z1 : z = 0 → z * E' = 0 := fun h => by rw [h, Int.zero_mul]
  have z2 : z' = 0 → z' * E = 0 := fun h => by rw [h, Int.zero_mul]
  generalize z * E' = X at *
  generalize z' * E = Y at *
  unfold sgn at *
  rcases Int.lt_trichotomy z 0 with a1 | a1 | a1 <;> rcases Int.lt_trichotomy z' 0 with a2 | a2 | a2 <;> simp_all <;> (try omega) <;> (repeat' split) <;> omega
set_option maxRecDepth 100000 in
set_option maxHeartbeats 4000000 in
theorem fq_Cmp (h : Fq w b a n c d m k q N) (h' : Fq w b' a' n' c' d' m' k' q' N') (hN : N ≤ 137438953472) (hN' : N' ≤ 137438953472) :
    Calls Tryz.prog 47 #[.agg #[.bool b, .slice a n c, .slice d m k], .agg #[.bool b', .slice a' n' c', .slice d' m' k']] w fun e w' => e = .returned (.int .i64 (cmpQ q q')) ∧ Ext w w' := by
 obtain ⟨z, D, hz, hd, hm, hb1, hb2, rfl⟩ := h
 obtain ⟨z', D', hz', hd', hm', hb3, hb4, rfl⟩ := h'
 have HP1 : Hid (∀ u, WhIn u b a n c z → Nu u d m k D → Calls Tryz.prog 88 #[.agg #[.bool b, .slice a n c, .slice d m k]] u (RetF u (pz z D) (pd D))) := hidP (fun u t1 t2 => f_parts b a d n c m k z D u t1 t2)
 have HP2 : Hid (∀ u, WhIn u b' a' n' c' z' → Nu u d' m' k' D' → Calls Tryz.prog 88 #[.agg #[.bool b', .slice a' n' c', .slice d' m' k']] u (RetF u (pz z' D') (pd D'))) := hidP (fun u t1 t2 => f_parts b' a' d' n' c' m' k' z' D' u t1 t2)
 have B1 : Hid (dl (pz z D).natAbs ≤ 137438953473) := hidP (by have := pz_len z D; omega)
 have B2 : Hid (dl (pd D) ≤ 137438953473) := hidP (by have := pd_len D; omega)
 have B3 : Hid (dl (pz z' D').natAbs ≤ 137438953473) := hidP (by have := pz_len z' D'; omega)
 have B4 : Hid (dl (pd D') ≤ 137438953473) := hidP (by have := pd_len D'; omega)
 have hcs := cmp_sign (z := pz z D) (z' := pz z' D') (pd_ne D) (pd_ne D')
 have hcm := cmpQ_mk (z := pz z D) (z' := pz z' D') (pd_ne D) (pd_ne D')
 rw [mk_pr, mk_pr] at hcs hcm
 have HZ := hidP hz; have HD := hidP hd; have HZ' := hidP hz'; have HD' := hidP hd'
 clear hz hd hz' hd' hb1 hb2 hb3 hb4 hm hm' hN hN'
 generalize pz z D = Z at *
 generalize pd D = E at *
 generalize pz z' D' = Y at *
 generalize pd D' = F at *
 generalize cmpQ (mkRat z D) (mkRat z' D') = rr at *
 have HS1 := hidP (fun u b1 a1 n1 c1 (t : WhIn u b1 a1 n1 c1 Z) => w_Sign_any b1 a1 n1 c1 Z u t)
 have HS2 := hidP (fun u b1 a1 n1 c1 (t : WhIn u b1 a1 n1 c1 Y) => w_Sign_any b1 a1 n1 c1 Y u t)
 have Q1 : Hid (dl (Z * (F : Int)).natAbs ≤ 274877906946) := hidP (by have := dz_mul Z (F : Int); have := B1.out; have := B4.out; rw [Int.natAbs_natCast] at *; omega)
 have Q2 : Hid (dl (Y * (E : Int)).natAbs ≤ 274877906946) := hidP (by have := dz_mul Y (E : Int); have := B3.out; have := B2.out; rw [Int.natAbs_natCast] at *; omega)
 have HR := hidP hcm
 have HCS := hidP hcs
 generalize sgn Z = sz at *
 generalize sgn Y = sy at *
 clear hcs hcm
 go_enter Tryz.func47, Tryz.ntmps47
 go_upto_region 1 with fail
 refine absW (fun x1 hx1 => ?_)
 have hx : Ext w x1 := by rw [hx1]; exact (((Ext.refl _).alloc _).alloc _)
 have bp : Bl x1 (w.heap.size) #[.bool b, .slice a n c, .slice d m k] := by rw [hx1]; exact ((Bl.new (by simp)).alloc (by simp))
 have bq : Bl x1 (w.heap.size + 1) #[.bool b', .slice a' n' c', .slice d' m' k'] := by rw [hx1]; exact (Bl.new (by simp))
 have HE := hx
 clear hx
 clear hx1
 go_cut [5, 6] (fun vr vs wx => ∃ (gr gv : Nat) (ar dr : Option Addr) (nr cr mr kr : Nat) (av dv : Option Addr) (nv cv mv kv : Nat), vr = .pointer (some ⟨gr, 0, none⟩) ∧ vs = .pointer (some ⟨gv, 0, none⟩) ∧ Bl wx gr #[.bool (decide (Z < 0)), .slice ar nr cr, .slice dr mr kr] ∧ Bl wx gv #[.bool (decide (Y < 0)), .slice av nv cv, .slice dv mv kv] ∧ Nc wx ar nr cr Z.natAbs ∧ Nc wx dr mr kr E ∧ Nc wx av nv cv Y.natAbs ∧ Nc wx dv mv kv F ∧ Ext w wx)
 case first =>
  have lop := bp.lt (Nat.succ_pos _)
  have loq := bq.lt (Nat.succ_pos _)
  have hlo : x1.heap.size ≤ x1.heap.size := Nat.le_refl _
  refine wp_region_plan (R := Below x1.heap.size) (.q 0 (.q 2 (.br 1 (.br 3 (.br 4 (.l 5 (.l 6 (.b 7 .done))) (.l 5 (.l 4 (.l 6 (.b 7 .done))))) (.br 4 (.br 3 (.l 5 (.l 6 (.b 7 .done))) (.l 5 (.l 3 (.l 6 (.b 7 .done))))) (.l 5 (.br 3 (.l 4 (.l 6 (.b 7 .done))) (.l 4 (.l 3 (.l 6 (.b 7 .done)))))))) (.br 4 (.br 1 (.br 3 (.l 5 (.l 6 (.b 7 .done))) (.l 5 (.l 3 (.l 6 (.b 7 .done))))) (.l 5 (.l 1 (.l 3 (.l 6 (.b 7 .done)))))) (.l 5 (.br 1 (.br 3 (.l 4 (.l 6 (.b 7 .done))) (.l 4 (.l 3 (.l 6 (.b 7 .done))))) (.l 4 (.l 1 (.l 3 (.l 6 (.b 7 .done))))))))))) (by kernel_rfl) (by kernel_rfl) (by kernel_rfl) (by kernel_rfl) (Below.refl _) (fun _ _ _ => Below.trans) ?_
  refine absE (fun x2 hx2 => ?_)
  have hx : Ext x1 x2 := by rw [hx2]; exact (Ext.refl _).drew
  replace hlo := Nat.le_trans hlo hx.size
  replace bp := q1b hx bp
  replace bq := q1b hx bq
  replace HE := HE.trans hx
  clear hx
  clear hx2
  repeat (refine wpE_q (v := ?_) rfl rfl (fun u hu => ?_) ?_; rotate_left 1; (focus (have kp := Bl.low hu bp lop; have kq := Bl.low hu bq loq; go_simp; (try rfl))); simp only [PU])
  clear bp
  clear bq
  refine wpE_br rfl rfl (fun K hK => ?_) ?_
  · go_simp
    refine (HP1.out _ (HZ.out.ext HE) (HD.out.ext HE)).mono ?_
    rintro e u1 ⟨a1, n1, c1, d1, m1, k1, rfl, hs1, ht1, hx⟩
    refine hK.out _ _ (Below.mono hx hlo) ?_
    clear hK K
    try simp only [PU]
    replace hlo := Nat.le_trans hlo hx.size
    replace HE := HE.trans hx
    clear hx
    replace hs1 : Nc u1 a1 n1 c1 (Z).natAbs := hs1
    replace ht1 : Nc u1 d1 m1 k1 (E) := ht1
    refine wpE_br rfl rfl (fun K hK => ?_) ?_
    · go_simp
      refine (HP2.out _ (HZ'.out.ext HE) (HD'.out.ext HE)).mono ?_
      rintro e u2 ⟨a2, n2, c2, d2, m2, k2, rfl, hs2, ht2, hx⟩
      refine hK.out _ _ (Below.mono hx hlo) ?_
      clear hK K
      try simp only [PU]
      replace hlo := Nat.le_trans hlo hx.size
      replace hs1 := hs1.ext hx
      replace ht1 := ht1.ext hx
      replace HE := HE.trans hx
      clear hx
      replace hs2 : Nc u2 a2 n2 c2 (Y).natAbs := hs2
      replace ht2 : Nc u2 d2 m2 k2 (F) := ht2
      refine wpE_br rfl rfl (fun K hK => ?_) ?_
      · go_simp
        refine hK.out _ _ ((Below.refl _ _).alloc hlo _) ?_
        clear hK K
        try simp only [PU]
        have ger := hlo
        have l0r := HE.size
        refine absE (fun x3 hx3 => ?_)
        have hx : Ext u2 x3 := by rw [hx3]; exact ((Ext.refl _).alloc _)
        have br : Bl x3 (u2.heap.size) #[.bool false, .slice none 0 0, .slice none 0 0] := by rw [hx3]; exact (Bl.new (by simp))
        have fr : Fz x3 (u2.heap.size) := by rw [hx3]; exact (Fz.new (by simp))
        replace hlo := Nat.le_trans hlo hx.size
        replace hs1 := hs1.ext hx
        replace ht1 := ht1.ext hx
        replace hs2 := hs2.ext hx
        replace ht2 := ht2.ext hx
        replace HE := HE.trans hx
        clear hx
        clear hx3
        refine wpE_l rfl rfl (fun K hK => ?_)
        go_simp
        refine hK.out _ _ ((Below.refl _ _).alloc hlo _) ?_
        clear hK K
        try simp only [PU]
        have gev := hlo
        have lrv := br.lt (Nat.succ_pos _)
        have l0v := HE.size
        refine absE (fun x4 hx4 => ?_)
        have hx : Ext x3 x4 := by rw [hx4]; exact ((Ext.refl _).alloc _)
        have bv : Bl x4 (x3.heap.size) #[.bool false, .slice none 0 0, .slice none 0 0] := by rw [hx4]; exact (Bl.new (by simp))
        have fv : Fz x4 (x3.heap.size) := by rw [hx4]; exact (Fz.new (by simp))
        replace hlo := Nat.le_trans hlo hx.size
        replace fr := q1f hx fr br
        replace br := q1b hx br
        replace hs1 := hs1.ext hx
        replace ht1 := ht1.ext hx
        replace hs2 := hs2.ext hx
        replace ht2 := ht2.ext hx
        replace HE := HE.trans hx
        clear hx
        clear hx4
        refine wpE_l rfl rfl (fun K hK => ?_)
        go_simp
        have hle : x1.heap.size ≤ u2.heap.size := by omega
        refine hK.out _ _ ((((Below.refl _ _).setCell hle _).setCell hle _).setCell hle _) ?_
        clear hK K hle
        try simp only [PU]
        refine absE (fun x5 hx5 => ?_)
        have hbut : But x4 x5 (u2.heap.size) := by rw [hx5]; exact (But.refl _ _).store.store.store
        have hbn : Bl x5 (u2.heap.size) #[.bool (decide (Z < 0)), .slice a1 n1 c1, .slice d1 m1 k1] := by rw [hx5]; exact (Bl.set (Bl.set (Bl.set br (by simp)) (by simp)) (by simp))
        have hni : ∀ (j : Nat) (x : Int), (#[.bool false, .slice none 0 0, .slice none 0 0] : Array Value)[j]? ≠ some (Value.int .u32 x) := (not_ints3 nb_bool nb_slice nb_slice)
        replace hs1 := hs1.but br hni hbut
        replace ht1 := ht1.but br hni hbut
        replace hs2 := hs2.but br hni hbut
        replace ht2 := ht2.but br hni hbut
        clear hni
        replace fv := But.fz hbut fv bv (Nat.succ_pos _) (by omega)
        replace bv := But.bl hbut bv (Nat.succ_pos _) (by omega)
        replace fr : Fz x5 (u2.heap.size) := by rw [hx5]; exact (Fz.set (Fz.set (Fz.set fr)))
        have hle : w.heap.size ≤ u2.heap.size := by omega
        replace HE : Ext w x5 := by rw [hx5]; exact (((HE.store hle _).store hle _).store hle _)
        clear hle
        replace hlo : x1.heap.size ≤ x5.heap.size := Nat.le_trans hlo hbut.1
        clear br hbut hx5
        have br := hbn
        clear hbn
        refine wpE_b rfl rfl (fun K hK => ?_)
        go_simp
        refine hK.out _ _ ?_
        clear hK K
        try simp only [PU]
        refine absE (fun x6 hx6 => ?_)
        have hbut : But x5 x6 (x3.heap.size) := by rw [hx6]; exact (But.refl _ _).store.store.store
        have hbn : Bl x6 (x3.heap.size) #[.bool (decide (Y < 0)), .slice a2 n2 c2, .slice d2 m2 k2] := by rw [hx6]; exact (Bl.set (Bl.set (Bl.set bv (by simp)) (by simp)) (by simp))
        have hni : ∀ (j : Nat) (x : Int), (#[.bool false, .slice none 0 0, .slice none 0 0] : Array Value)[j]? ≠ some (Value.int .u32 x) := (not_ints3 nb_bool nb_slice nb_slice)
        replace hs1 := hs1.but bv hni hbut
        replace ht1 := ht1.but bv hni hbut
        replace hs2 := hs2.but bv hni hbut
        replace ht2 := ht2.but bv hni hbut
        clear hni
        replace fr := But.fz hbut fr br (Nat.succ_pos _) (by omega)
        replace br := But.bl hbut br (Nat.succ_pos _) (by omega)
        replace fv : Fz x6 (x3.heap.size) := by rw [hx6]; exact (Fz.set (Fz.set (Fz.set fv)))
        have hle : w.heap.size ≤ x3.heap.size := by omega
        replace HE : Ext w x6 := by rw [hx6]; exact (((HE.store hle _).store hle _).store hle _)
        clear hle
        replace hlo : x1.heap.size ≤ x6.heap.size := Nat.le_trans hlo hbut.1
        clear bv hbut hx6
        have bv := hbn
        clear hbn
        refine wpE_done ?_
        clear hlo
        go_wp2_with fail
        go_meet
        exact ⟨u2.heap.size, x3.heap.size, a1, d1, n1, c1, m1, k1, a2, d2, n2, c2, m2, k2, rfl, rfl, br, bv, hs1, ht1, hs2, ht2, HE⟩
      refine wpE_l rfl rfl (fun K hK => ?_)
      go_simp
      refine hK.out _ _ ((Below.refl _ _).alloc hlo _) ?_
      clear hK K
      try simp only [PU]
      have gev := hlo
      have l0v := HE.size
      refine absE (fun x3 hx3 => ?_)
      have hx : Ext u2 x3 := by rw [hx3]; exact ((Ext.refl _).alloc _)
      have bv : Bl x3 (u2.heap.size) #[.bool false, .slice none 0 0, .slice none 0 0] := by rw [hx3]; exact (Bl.new (by simp))
      have fv : Fz x3 (u2.heap.size) := by rw [hx3]; exact (Fz.new (by simp))
      replace hlo := Nat.le_trans hlo hx.size
      replace hs1 := hs1.ext hx
      replace ht1 := ht1.ext hx
      replace hs2 := hs2.ext hx
      replace ht2 := ht2.ext hx
      replace HE := HE.trans hx
      clear hx
      clear hx3
      refine wpE_l rfl rfl (fun K hK => ?_)
      go_simp
      refine hK.out _ _ ((Below.refl _ _).alloc hlo _) ?_
      clear hK K
      try simp only [PU]
      have ger := hlo
      have lvr := bv.lt (Nat.succ_pos _)
      have l0r := HE.size
      refine absE (fun x4 hx4 => ?_)
      have hx : Ext x3 x4 := by rw [hx4]; exact ((Ext.refl _).alloc _)
      have br : Bl x4 (x3.heap.size) #[.bool false, .slice none 0 0, .slice none 0 0] := by rw [hx4]; exact (Bl.new (by simp))
      have fr : Fz x4 (x3.heap.size) := by rw [hx4]; exact (Fz.new (by simp))
      replace hlo := Nat.le_trans hlo hx.size
      replace fv := q1f hx fv bv
      replace bv := q1b hx bv
      replace hs1 := hs1.ext hx
      replace ht1 := ht1.ext hx
      replace hs2 := hs2.ext hx
      replace ht2 := ht2.ext hx
      replace HE := HE.trans hx
      clear hx
      clear hx4
      refine wpE_l rfl rfl (fun K hK => ?_)
      go_simp
      have hle : x1.heap.size ≤ x3.heap.size := by omega
      refine hK.out _ _ ((((Below.refl _ _).setCell hle _).setCell hle _).setCell hle _) ?_
      clear hK K hle
      try simp only [PU]
      refine absE (fun x5 hx5 => ?_)
      have hbut : But x4 x5 (x3.heap.size) := by rw [hx5]; exact (But.refl _ _).store.store.store
      have hbn : Bl x5 (x3.heap.size) #[.bool (decide (Z < 0)), .slice a1 n1 c1, .slice d1 m1 k1] := by rw [hx5]; exact (Bl.set (Bl.set (Bl.set br (by simp)) (by simp)) (by simp))
      have hni : ∀ (j : Nat) (x : Int), (#[.bool false, .slice none 0 0, .slice none 0 0] : Array Value)[j]? ≠ some (Value.int .u32 x) := (not_ints3 nb_bool nb_slice nb_slice)
      replace hs1 := hs1.but br hni hbut
      replace ht1 := ht1.but br hni hbut
      replace hs2 := hs2.but br hni hbut
      replace ht2 := ht2.but br hni hbut
      clear hni
      replace fv := But.fz hbut fv bv (Nat.succ_pos _) (by omega)
      replace bv := But.bl hbut bv (Nat.succ_pos _) (by omega)
      replace fr : Fz x5 (x3.heap.size) := by rw [hx5]; exact (Fz.set (Fz.set (Fz.set fr)))
      have hle : w.heap.size ≤ x3.heap.size := by omega
      replace HE : Ext w x5 := by rw [hx5]; exact (((HE.store hle _).store hle _).store hle _)
      clear hle
      replace hlo : x1.heap.size ≤ x5.heap.size := Nat.le_trans hlo hbut.1
      clear br hbut hx5
      have br := hbn
      clear hbn
      refine wpE_b rfl rfl (fun K hK => ?_)
      go_simp
      refine hK.out _ _ ?_
      clear hK K
      try simp only [PU]
      refine absE (fun x6 hx6 => ?_)
      have hbut : But x5 x6 (u2.heap.size) := by rw [hx6]; exact (But.refl _ _).store.store.store
      have hbn : Bl x6 (u2.heap.size) #[.bool (decide (Y < 0)), .slice a2 n2 c2, .slice d2 m2 k2] := by rw [hx6]; exact (Bl.set (Bl.set (Bl.set bv (by simp)) (by simp)) (by simp))
      have hni : ∀ (j : Nat) (x : Int), (#[.bool false, .slice none 0 0, .slice none 0 0] : Array Value)[j]? ≠ some (Value.int .u32 x) := (not_ints3 nb_bool nb_slice nb_slice)
      replace hs1 := hs1.but bv hni hbut
      replace ht1 := ht1.but bv hni hbut
      replace hs2 := hs2.but bv hni hbut
      replace ht2 := ht2.but bv hni hbut
      clear hni
      replace fr := But.fz hbut fr br (Nat.succ_pos _) (by omega)
      replace br := But.bl hbut br (Nat.succ_pos _) (by omega)
      replace fv : Fz x6 (u2.heap.size) := by rw [hx6]; exact (Fz.set (Fz.set (Fz.set fv)))
      have hle : w.heap.size ≤ u2.heap.size := by omega
      replace HE : Ext w x6 := by rw [hx6]; exact (((HE.store hle _).store hle _).store hle _)
      clear hle
      replace hlo : x1.heap.size ≤ x6.heap.size := Nat.le_trans hlo hbut.1
      clear bv hbut hx6
      have bv := hbn
      clear hbn
      refine wpE_done ?_
      clear hlo
      go_wp2_with fail
      go_meet
      exact ⟨x3.heap.size, u2.heap.size, a1, d1, n1, c1, m1, k1, a2, d2, n2, c2, m2, k2, rfl, rfl, br, bv, hs1, ht1, hs2, ht2, HE⟩
    refine wpE_br rfl rfl (fun K hK => ?_) ?_
    · go_simp
      refine hK.out _ _ ((Below.refl _ _).alloc hlo _) ?_
      clear hK K
      try simp only [PU]
      have ger := hlo
      have l0r := HE.size
      refine absE (fun x3 hx3 => ?_)
      have hx : Ext u1 x3 := by rw [hx3]; exact ((Ext.refl _).alloc _)
      have br : Bl x3 (u1.heap.size) #[.bool false, .slice none 0 0, .slice none 0 0] := by rw [hx3]; exact (Bl.new (by simp))
      have fr : Fz x3 (u1.heap.size) := by rw [hx3]; exact (Fz.new (by simp))
      replace hlo := Nat.le_trans hlo hx.size
      replace hs1 := hs1.ext hx
      replace ht1 := ht1.ext hx
      replace HE := HE.trans hx
      clear hx
      clear hx3
      refine wpE_br rfl rfl (fun K hK => ?_) ?_
      · go_simp
        refine (HP2.out _ (HZ'.out.ext HE) (HD'.out.ext HE)).mono ?_
        rintro e u2 ⟨a2, n2, c2, d2, m2, k2, rfl, hs2, ht2, hx⟩
        refine hK.out _ _ (Below.mono hx hlo) ?_
        clear hK K
        try simp only [PU]
        replace hlo := Nat.le_trans hlo hx.size
        replace fr := q1f hx fr br
        replace br := q1b hx br
        replace hs1 := hs1.ext hx
        replace ht1 := ht1.ext hx
        replace HE := HE.trans hx
        clear hx
        replace hs2 : Nc u2 a2 n2 c2 (Y).natAbs := hs2
        replace ht2 : Nc u2 d2 m2 k2 (F) := ht2
        refine wpE_l rfl rfl (fun K hK => ?_)
        go_simp
        refine hK.out _ _ ((Below.refl _ _).alloc hlo _) ?_
        clear hK K
        try simp only [PU]
        have gev := hlo
        have lrv := br.lt (Nat.succ_pos _)
        have l0v := HE.size
        refine absE (fun x4 hx4 => ?_)
        have hx : Ext u2 x4 := by rw [hx4]; exact ((Ext.refl _).alloc _)
        have bv : Bl x4 (u2.heap.size) #[.bool false, .slice none 0 0, .slice none 0 0] := by rw [hx4]; exact (Bl.new (by simp))
        have fv : Fz x4 (u2.heap.size) := by rw [hx4]; exact (Fz.new (by simp))
        replace hlo := Nat.le_trans hlo hx.size
        replace fr := q1f hx fr br
        replace br := q1b hx br
        replace hs1 := hs1.ext hx
        replace ht1 := ht1.ext hx
        replace hs2 := hs2.ext hx
        replace ht2 := ht2.ext hx
        replace HE := HE.trans hx
        clear hx
        clear hx4
        refine wpE_l rfl rfl (fun K hK => ?_)
        go_simp
        have hle : x1.heap.size ≤ u1.heap.size := by omega
        refine hK.out _ _ ((((Below.refl _ _).setCell hle _).setCell hle _).setCell hle _) ?_
        clear hK K hle
        try simp only [PU]
        refine absE (fun x5 hx5 => ?_)
        have hbut : But x4 x5 (u1.heap.size) := by rw [hx5]; exact (But.refl _ _).store.store.store
        have hbn : Bl x5 (u1.heap.size) #[.bool (decide (Z < 0)), .slice a1 n1 c1, .slice d1 m1 k1] := by rw [hx5]; exact (Bl.set (Bl.set (Bl.set br (by simp)) (by simp)) (by simp))
        have hni : ∀ (j : Nat) (x : Int), (#[.bool false, .slice none 0 0, .slice none 0 0] : Array Value)[j]? ≠ some (Value.int .u32 x) := (not_ints3 nb_bool nb_slice nb_slice)
        replace hs1 := hs1.but br hni hbut
        replace ht1 := ht1.but br hni hbut
        replace hs2 := hs2.but br hni hbut
        replace ht2 := ht2.but br hni hbut
        clear hni
        replace fv := But.fz hbut fv bv (Nat.succ_pos _) (by omega)
        replace bv := But.bl hbut bv (Nat.succ_pos _) (by omega)
        replace fr : Fz x5 (u1.heap.size) := by rw [hx5]; exact (Fz.set (Fz.set (Fz.set fr)))
        have hle : w.heap.size ≤ u1.heap.size := by omega
        replace HE : Ext w x5 := by rw [hx5]; exact (((HE.store hle _).store hle _).store hle _)
        clear hle
        replace hlo : x1.heap.size ≤ x5.heap.size := Nat.le_trans hlo hbut.1
        clear br hbut hx5
        have br := hbn
        clear hbn
        refine wpE_b rfl rfl (fun K hK => ?_)
        go_simp
        refine hK.out _ _ ?_
        clear hK K
        try simp only [PU]
        refine absE (fun x6 hx6 => ?_)
        have hbut : But x5 x6 (u2.heap.size) := by rw [hx6]; exact (But.refl _ _).store.store.store
        have hbn : Bl x6 (u2.heap.size) #[.bool (decide (Y < 0)), .slice a2 n2 c2, .slice d2 m2 k2] := by rw [hx6]; exact (Bl.set (Bl.set (Bl.set bv (by simp)) (by simp)) (by simp))
        have hni : ∀ (j : Nat) (x : Int), (#[.bool false, .slice none 0 0, .slice none 0 0] : Array Value)[j]? ≠ some (Value.int .u32 x) := (not_ints3 nb_bool nb_slice nb_slice)
        replace hs1 := hs1.but bv hni hbut
        replace ht1 := ht1.but bv hni hbut
        replace hs2 := hs2.but bv hni hbut
        replace ht2 := ht2.but bv hni hbut
        clear hni
        replace fr := But.fz hbut fr br (Nat.succ_pos _) (by omega)
        replace br := But.bl hbut br (Nat.succ_pos _) (by omega)
        replace fv : Fz x6 (u2.heap.size) := by rw [hx6]; exact (Fz.set (Fz.set (Fz.set fv)))
        have hle : w.heap.size ≤ u2.heap.size := by omega
        replace HE : Ext w x6 := by rw [hx6]; exact (((HE.store hle _).store hle _).store hle _)
        clear hle
        replace hlo : x1.heap.size ≤ x6.heap.size := Nat.le_trans hlo hbut.1
        clear bv hbut hx6
        have bv := hbn
        clear hbn
        refine wpE_done ?_
        clear hlo
        go_wp2_with fail
        go_meet
        exact ⟨u1.heap.size, u2.heap.size, a1, d1, n1, c1, m1, k1, a2, d2, n2, c2, m2, k2, rfl, rfl, br, bv, hs1, ht1, hs2, ht2, HE⟩
      refine wpE_l rfl rfl (fun K hK => ?_)
      go_simp
      refine hK.out _ _ ((Below.refl _ _).alloc hlo _) ?_
      clear hK K
      try simp only [PU]
      have gev := hlo
      have lrv := br.lt (Nat.succ_pos _)
      have l0v := HE.size
      refine absE (fun x4 hx4 => ?_)
      have hx : Ext x3 x4 := by rw [hx4]; exact ((Ext.refl _).alloc _)
      have bv : Bl x4 (x3.heap.size) #[.bool false, .slice none 0 0, .slice none 0 0] := by rw [hx4]; exact (Bl.new (by simp))
      have fv : Fz x4 (x3.heap.size) := by rw [hx4]; exact (Fz.new (by simp))
      replace hlo := Nat.le_trans hlo hx.size
      replace fr := q1f hx fr br
      replace br := q1b hx br
      replace hs1 := hs1.ext hx
      replace ht1 := ht1.ext hx
      replace HE := HE.trans hx
      clear hx
      clear hx4
      refine wpE_l rfl rfl (fun K hK => ?_)
      go_simp
      refine (HP2.out _ (HZ'.out.ext HE) (HD'.out.ext HE)).mono ?_
      rintro e u2 ⟨a2, n2, c2, d2, m2, k2, rfl, hs2, ht2, hx⟩
      refine hK.out _ _ (Below.mono hx hlo) ?_
      clear hK K
      try simp only [PU]
      replace hlo := Nat.le_trans hlo hx.size
      replace fr := q1f hx fr br
      replace br := q1b hx br
      replace fv := q1f hx fv bv
      replace bv := q1b hx bv
      replace hs1 := hs1.ext hx
      replace ht1 := ht1.ext hx
      replace HE := HE.trans hx
      clear hx
      replace hs2 : Nc u2 a2 n2 c2 (Y).natAbs := hs2
      replace ht2 : Nc u2 d2 m2 k2 (F) := ht2
      refine wpE_l rfl rfl (fun K hK => ?_)
      go_simp
      have hle : x1.heap.size ≤ u1.heap.size := by omega
      refine hK.out _ _ ((((Below.refl _ _).setCell hle _).setCell hle _).setCell hle _) ?_
      clear hK K hle
      try simp only [PU]
      refine absE (fun x5 hx5 => ?_)
      have hbut : But u2 x5 (u1.heap.size) := by rw [hx5]; exact (But.refl _ _).store.store.store
      have hbn : Bl x5 (u1.heap.size) #[.bool (decide (Z < 0)), .slice a1 n1 c1, .slice d1 m1 k1] := by rw [hx5]; exact (Bl.set (Bl.set (Bl.set br (by simp)) (by simp)) (by simp))
      have hni : ∀ (j : Nat) (x : Int), (#[.bool false, .slice none 0 0, .slice none 0 0] : Array Value)[j]? ≠ some (Value.int .u32 x) := (not_ints3 nb_bool nb_slice nb_slice)
      replace hs1 := hs1.but br hni hbut
      replace ht1 := ht1.but br hni hbut
      replace hs2 := hs2.but br hni hbut
      replace ht2 := ht2.but br hni hbut
      clear hni
      replace fv := But.fz hbut fv bv (Nat.succ_pos _) (by omega)
      replace bv := But.bl hbut bv (Nat.succ_pos _) (by omega)
      replace fr : Fz x5 (u1.heap.size) := by rw [hx5]; exact (Fz.set (Fz.set (Fz.set fr)))
      have hle : w.heap.size ≤ u1.heap.size := by omega
      replace HE : Ext w x5 := by rw [hx5]; exact (((HE.store hle _).store hle _).store hle _)
      clear hle
      replace hlo : x1.heap.size ≤ x5.heap.size := Nat.le_trans hlo hbut.1
      clear br hbut hx5
      have br := hbn
      clear hbn
      refine wpE_b rfl rfl (fun K hK => ?_)
      go_simp
      refine hK.out _ _ ?_
      clear hK K
      try simp only [PU]
      refine absE (fun x6 hx6 => ?_)
      have hbut : But x5 x6 (x3.heap.size) := by rw [hx6]; exact (But.refl _ _).store.store.store
      have hbn : Bl x6 (x3.heap.size) #[.bool (decide (Y < 0)), .slice a2 n2 c2, .slice d2 m2 k2] := by rw [hx6]; exact (Bl.set (Bl.set (Bl.set bv (by simp)) (by simp)) (by simp))
      have hni : ∀ (j : Nat) (x : Int), (#[.bool false, .slice none 0 0, .slice none 0 0] : Array Value)[j]? ≠ some (Value.int .u32 x) := (not_ints3 nb_bool nb_slice nb_slice)
      replace hs1 := hs1.but bv hni hbut
      replace ht1 := ht1.but bv hni hbut
      replace hs2 := hs2.but bv hni hbut
      replace ht2 := ht2.but bv hni hbut
      clear hni
      replace fr := But.fz hbut fr br (Nat.succ_pos _) (by omega)
      replace br := But.bl hbut br (Nat.succ_pos _) (by omega)
      replace fv : Fz x6 (x3.heap.size) := by rw [hx6]; exact (Fz.set (Fz.set (Fz.set fv)))
      have hle : w.heap.size ≤ x3.heap.size := by omega
      replace HE : Ext w x6 := by rw [hx6]; exact (((HE.store hle _).store hle _).store hle _)
      clear hle
      replace hlo : x1.heap.size ≤ x6.heap.size := Nat.le_trans hlo hbut.1
      clear bv hbut hx6
      have bv := hbn
      clear hbn
      refine wpE_done ?_
      clear hlo
      go_wp2_with fail
      go_meet
      exact ⟨u1.heap.size, x3.heap.size, a1, d1, n1, c1, m1, k1, a2, d2, n2, c2, m2, k2, rfl, rfl, br, bv, hs1, ht1, hs2, ht2, HE⟩
    refine wpE_l rfl rfl (fun K hK => ?_)
    go_simp
    refine hK.out _ _ ((Below.refl _ _).alloc hlo _) ?_
    clear hK K
    try simp only [PU]
    have gev := hlo
    have l0v := HE.size
    refine absE (fun x3 hx3 => ?_)
    have hx : Ext u1 x3 := by rw [hx3]; exact ((Ext.refl _).alloc _)
    have bv : Bl x3 (u1.heap.size) #[.bool false, .slice none 0 0, .slice none 0 0] := by rw [hx3]; exact (Bl.new (by simp))
    have fv : Fz x3 (u1.heap.size) := by rw [hx3]; exact (Fz.new (by simp))
    replace hlo := Nat.le_trans hlo hx.size
    replace hs1 := hs1.ext hx
    replace ht1 := ht1.ext hx
    replace HE := HE.trans hx
    clear hx
    clear hx3
    refine wpE_br rfl rfl (fun K hK => ?_) ?_
    · go_simp
      refine (HP2.out _ (HZ'.out.ext HE) (HD'.out.ext HE)).mono ?_
      rintro e u2 ⟨a2, n2, c2, d2, m2, k2, rfl, hs2, ht2, hx⟩
      refine hK.out _ _ (Below.mono hx hlo) ?_
      clear hK K
      try simp only [PU]
      replace hlo := Nat.le_trans hlo hx.size
      replace fv := q1f hx fv bv
      replace bv := q1b hx bv
      replace hs1 := hs1.ext hx
      replace ht1 := ht1.ext hx
      replace HE := HE.trans hx
      clear hx
      replace hs2 : Nc u2 a2 n2 c2 (Y).natAbs := hs2
      replace ht2 : Nc u2 d2 m2 k2 (F) := ht2
      refine wpE_l rfl rfl (fun K hK => ?_)
      go_simp
      refine hK.out _ _ ((Below.refl _ _).alloc hlo _) ?_
      clear hK K
      try simp only [PU]
      have ger := hlo
      have lvr := bv.lt (Nat.succ_pos _)
      have l0r := HE.size
      refine absE (fun x4 hx4 => ?_)
      have hx : Ext u2 x4 := by rw [hx4]; exact ((Ext.refl _).alloc _)
      have br : Bl x4 (u2.heap.size) #[.bool false, .slice none 0 0, .slice none 0 0] := by rw [hx4]; exact (Bl.new (by simp))
      have fr : Fz x4 (u2.heap.size) := by rw [hx4]; exact (Fz.new (by simp))
      replace hlo := Nat.le_trans hlo hx.size
      replace fv := q1f hx fv bv
      replace bv := q1b hx bv
      replace hs1 := hs1.ext hx
      replace ht1 := ht1.ext hx
      replace hs2 := hs2.ext hx
      replace ht2 := ht2.ext hx
      replace HE := HE.trans hx
      clear hx
      clear hx4
      refine wpE_l rfl rfl (fun K hK => ?_)
      go_simp
      have hle : x1.heap.size ≤ u2.heap.size := by omega
      refine hK.out _ _ ((((Below.refl _ _).setCell hle _).setCell hle _).setCell hle _) ?_
      clear hK K hle
      try simp only [PU]
      refine absE (fun x5 hx5 => ?_)
      have hbut : But x4 x5 (u2.heap.size) := by rw [hx5]; exact (But.refl _ _).store.store.store
      have hbn : Bl x5 (u2.heap.size) #[.bool (decide (Z < 0)), .slice a1 n1 c1, .slice d1 m1 k1] := by rw [hx5]; exact (Bl.set (Bl.set (Bl.set br (by simp)) (by simp)) (by simp))
      have hni : ∀ (j : Nat) (x : Int), (#[.bool false, .slice none 0 0, .slice none 0 0] : Array Value)[j]? ≠ some (Value.int .u32 x) := (not_ints3 nb_bool nb_slice nb_slice)
      replace hs1 := hs1.but br hni hbut
      replace ht1 := ht1.but br hni hbut
      replace hs2 := hs2.but br hni hbut
      replace ht2 := ht2.but br hni hbut
      clear hni
      replace fv := But.fz hbut fv bv (Nat.succ_pos _) (by omega)
      replace bv := But.bl hbut bv (Nat.succ_pos _) (by omega)
      replace fr : Fz x5 (u2.heap.size) := by rw [hx5]; exact (Fz.set (Fz.set (Fz.set fr)))
      have hle : w.heap.size ≤ u2.heap.size := by omega
      replace HE : Ext w x5 := by rw [hx5]; exact (((HE.store hle _).store hle _).store hle _)
      clear hle
      replace hlo : x1.heap.size ≤ x5.heap.size := Nat.le_trans hlo hbut.1
      clear br hbut hx5
      have br := hbn
      clear hbn
      refine wpE_b rfl rfl (fun K hK => ?_)
      go_simp
      refine hK.out _ _ ?_
      clear hK K
      try simp only [PU]
      refine absE (fun x6 hx6 => ?_)
      have hbut : But x5 x6 (u1.heap.size) := by rw [hx6]; exact (But.refl _ _).store.store.store
      have hbn : Bl x6 (u1.heap.size) #[.bool (decide (Y < 0)), .slice a2 n2 c2, .slice d2 m2 k2] := by rw [hx6]; exact (Bl.set (Bl.set (Bl.set bv (by simp)) (by simp)) (by simp))
      have hni : ∀ (j : Nat) (x : Int), (#[.bool false, .slice none 0 0, .slice none 0 0] : Array Value)[j]? ≠ some (Value.int .u32 x) := (not_ints3 nb_bool nb_slice nb_slice)
      replace hs1 := hs1.but bv hni hbut
      replace ht1 := ht1.but bv hni hbut
      replace hs2 := hs2.but bv hni hbut
      replace ht2 := ht2.but bv hni hbut
      clear hni
      replace fr := But.fz hbut fr br (Nat.succ_pos _) (by omega)
      replace br := But.bl hbut br (Nat.succ_pos _) (by omega)
      replace fv : Fz x6 (u1.heap.size) := by rw [hx6]; exact (Fz.set (Fz.set (Fz.set fv)))
      have hle : w.heap.size ≤ u1.heap.size := by omega
      replace HE : Ext w x6 := by rw [hx6]; exact (((HE.store hle _).store hle _).store hle _)
      clear hle
      replace hlo : x1.heap.size ≤ x6.heap.size := Nat.le_trans hlo hbut.1
      clear bv hbut hx6
      have bv := hbn
      clear hbn
      refine wpE_done ?_
      clear hlo
      go_wp2_with fail
      go_meet
      exact ⟨u2.heap.size, u1.heap.size, a1, d1, n1, c1, m1, k1, a2, d2, n2, c2, m2, k2, rfl, rfl, br, bv, hs1, ht1, hs2, ht2, HE⟩
    refine wpE_l rfl rfl (fun K hK => ?_)
    go_simp
    refine hK.out _ _ ((Below.refl _ _).alloc hlo _) ?_
    clear hK K
    try simp only [PU]
    have ger := hlo
    have lvr := bv.lt (Nat.succ_pos _)
    have l0r := HE.size
    refine absE (fun x4 hx4 => ?_)
    have hx : Ext x3 x4 := by rw [hx4]; exact ((Ext.refl _).alloc _)
    have br : Bl x4 (x3.heap.size) #[.bool false, .slice none 0 0, .slice none 0 0] := by rw [hx4]; exact (Bl.new (by simp))
    have fr : Fz x4 (x3.heap.size) := by rw [hx4]; exact (Fz.new (by simp))
    replace hlo := Nat.le_trans hlo hx.size
    replace fv := q1f hx fv bv
    replace bv := q1b hx bv
    replace hs1 := hs1.ext hx
    replace ht1 := ht1.ext hx
    replace HE := HE.trans hx
    clear hx
    clear hx4
    refine wpE_l rfl rfl (fun K hK => ?_)
    go_simp
    refine (HP2.out _ (HZ'.out.ext HE) (HD'.out.ext HE)).mono ?_
    rintro e u2 ⟨a2, n2, c2, d2, m2, k2, rfl, hs2, ht2, hx⟩
    refine hK.out _ _ (Below.mono hx hlo) ?_
    clear hK K
    try simp only [PU]
    replace hlo := Nat.le_trans hlo hx.size
    replace fv := q1f hx fv bv
    replace bv := q1b hx bv
    replace fr := q1f hx fr br
    replace br := q1b hx br
    replace hs1 := hs1.ext hx
    replace ht1 := ht1.ext hx
    replace HE := HE.trans hx
    clear hx
    replace hs2 : Nc u2 a2 n2 c2 (Y).natAbs := hs2
    replace ht2 : Nc u2 d2 m2 k2 (F) := ht2
    refine wpE_l rfl rfl (fun K hK => ?_)
    go_simp
    have hle : x1.heap.size ≤ x3.heap.size := by omega
    refine hK.out _ _ ((((Below.refl _ _).setCell hle _).setCell hle _).setCell hle _) ?_
    clear hK K hle
    try simp only [PU]
    refine absE (fun x5 hx5 => ?_)
    have hbut : But u2 x5 (x3.heap.size) := by rw [hx5]; exact (But.refl _ _).store.store.store
    have hbn : Bl x5 (x3.heap.size) #[.bool (decide (Z < 0)), .slice a1 n1 c1, .slice d1 m1 k1] := by rw [hx5]; exact (Bl.set (Bl.set (Bl.set br (by simp)) (by simp)) (by simp))
    have hni : ∀ (j : Nat) (x : Int), (#[.bool false, .slice none 0 0, .slice none 0 0] : Array Value)[j]? ≠ some (Value.int .u32 x) := (not_ints3 nb_bool nb_slice nb_slice)
    replace hs1 := hs1.but br hni hbut
    replace ht1 := ht1.but br hni hbut
    replace hs2 := hs2.but br hni hbut
    replace ht2 := ht2.but br hni hbut
    clear hni
    replace fv := But.fz hbut fv bv (Nat.succ_pos _) (by omega)
    replace bv := But.bl hbut bv (Nat.succ_pos _) (by omega)
    replace fr : Fz x5 (x3.heap.size) := by rw [hx5]; exact (Fz.set (Fz.set (Fz.set fr)))
    have hle : w.heap.size ≤ x3.heap.size := by omega
    replace HE : Ext w x5 := by rw [hx5]; exact (((HE.store hle _).store hle _).store hle _)
    clear hle
    replace hlo : x1.heap.size ≤ x5.heap.size := Nat.le_trans hlo hbut.1
    clear br hbut hx5
    have br := hbn
    clear hbn
    refine wpE_b rfl rfl (fun K hK => ?_)
    go_simp
    refine hK.out _ _ ?_
    clear hK K
    try simp only [PU]
    refine absE (fun x6 hx6 => ?_)
    have hbut : But x5 x6 (u1.heap.size) := by rw [hx6]; exact (But.refl _ _).store.store.store
    have hbn : Bl x6 (u1.heap.size) #[.bool (decide (Y < 0)), .slice a2 n2 c2, .slice d2 m2 k2] := by rw [hx6]; exact (Bl.set (Bl.set (Bl.set bv (by simp)) (by simp)) (by simp))
    have hni : ∀ (j : Nat) (x : Int), (#[.bool false, .slice none 0 0, .slice none 0 0] : Array Value)[j]? ≠ some (Value.int .u32 x) := (not_ints3 nb_bool nb_slice nb_slice)
    replace hs1 := hs1.but bv hni hbut
    replace ht1 := ht1.but bv hni hbut
    replace hs2 := hs2.but bv hni hbut
    replace ht2 := ht2.but bv hni hbut
    clear hni
    replace fr := But.fz hbut fr br (Nat.succ_pos _) (by omega)
    replace br := But.bl hbut br (Nat.succ_pos _) (by omega)
    replace fv : Fz x6 (u1.heap.size) := by rw [hx6]; exact (Fz.set (Fz.set (Fz.set fv)))
    have hle : w.heap.size ≤ u1.heap.size := by omega
    replace HE : Ext w x6 := by rw [hx6]; exact (((HE.store hle _).store hle _).store hle _)
    clear hle
    replace hlo : x1.heap.size ≤ x6.heap.size := Nat.le_trans hlo hbut.1
    clear bv hbut hx6
    have bv := hbn
    clear hbn
    refine wpE_done ?_
    clear hlo
    go_wp2_with fail
    go_meet
    exact ⟨x3.heap.size, u1.heap.size, a1, d1, n1, c1, m1, k1, a2, d2, n2, c2, m2, k2, rfl, rfl, br, bv, hs1, ht1, hs2, ht2, HE⟩
  refine wpE_br rfl rfl (fun K hK => ?_) ?_
  · go_simp
    refine hK.out _ _ ((Below.refl _ _).alloc hlo _) ?_
    clear hK K
    try simp only [PU]
    have ger := hlo
    have l0r := HE.size
    refine absE (fun x3 hx3 => ?_)
    have hx : Ext x2 x3 := by rw [hx3]; exact ((Ext.refl _).alloc _)
    have br : Bl x3 (x2.heap.size) #[.bool false, .slice none 0 0, .slice none 0 0] := by rw [hx3]; exact (Bl.new (by simp))
    have fr : Fz x3 (x2.heap.size) := by rw [hx3]; exact (Fz.new (by simp))
    replace hlo := Nat.le_trans hlo hx.size
    replace HE := HE.trans hx
    clear hx
    clear hx3
    refine wpE_br rfl rfl (fun K hK => ?_) ?_
    · go_simp
      refine (HP1.out _ (HZ.out.ext HE) (HD.out.ext HE)).mono ?_
      rintro e u1 ⟨a1, n1, c1, d1, m1, k1, rfl, hs1, ht1, hx⟩
      refine hK.out _ _ (Below.mono hx hlo) ?_
      clear hK K
      try simp only [PU]
      replace hlo := Nat.le_trans hlo hx.size
      replace fr := q1f hx fr br
      replace br := q1b hx br
      replace HE := HE.trans hx
      clear hx
      replace hs1 : Nc u1 a1 n1 c1 (Z).natAbs := hs1
      replace ht1 : Nc u1 d1 m1 k1 (E) := ht1
      refine wpE_br rfl rfl (fun K hK => ?_) ?_
      · go_simp
        refine (HP2.out _ (HZ'.out.ext HE) (HD'.out.ext HE)).mono ?_
        rintro e u2 ⟨a2, n2, c2, d2, m2, k2, rfl, hs2, ht2, hx⟩
        refine hK.out _ _ (Below.mono hx hlo) ?_
        clear hK K
        try simp only [PU]
        replace hlo := Nat.le_trans hlo hx.size
        replace fr := q1f hx fr br
        replace br := q1b hx br
        replace hs1 := hs1.ext hx
        replace ht1 := ht1.ext hx
        replace HE := HE.trans hx
        clear hx
        replace hs2 : Nc u2 a2 n2 c2 (Y).natAbs := hs2
        replace ht2 : Nc u2 d2 m2 k2 (F) := ht2
        refine wpE_l rfl rfl (fun K hK => ?_)
        go_simp
        refine hK.out _ _ ((Below.refl _ _).alloc hlo _) ?_
        clear hK K
        try simp only [PU]
        have gev := hlo
        have lrv := br.lt (Nat.succ_pos _)
        have l0v := HE.size
        refine absE (fun x4 hx4 => ?_)
        have hx : Ext u2 x4 := by rw [hx4]; exact ((Ext.refl _).alloc _)
        have bv : Bl x4 (u2.heap.size) #[.bool false, .slice none 0 0, .slice none 0 0] := by rw [hx4]; exact (Bl.new (by simp))
        have fv : Fz x4 (u2.heap.size) := by rw [hx4]; exact (Fz.new (by simp))
        replace hlo := Nat.le_trans hlo hx.size
        replace fr := q1f hx fr br
        replace br := q1b hx br
        replace hs1 := hs1.ext hx
        replace ht1 := ht1.ext hx
        replace hs2 := hs2.ext hx
        replace ht2 := ht2.ext hx
        replace HE := HE.trans hx
        clear hx
        clear hx4
        refine wpE_l rfl rfl (fun K hK => ?_)
        go_simp
        have hle : x1.heap.size ≤ x2.heap.size := by omega
        refine hK.out _ _ ((((Below.refl _ _).setCell hle _).setCell hle _).setCell hle _) ?_
        clear hK K hle
        try simp only [PU]
        refine absE (fun x5 hx5 => ?_)
        have hbut : But x4 x5 (x2.heap.size) := by rw [hx5]; exact (But.refl _ _).store.store.store
        have hbn : Bl x5 (x2.heap.size) #[.bool (decide (Z < 0)), .slice a1 n1 c1, .slice d1 m1 k1] := by rw [hx5]; exact (Bl.set (Bl.set (Bl.set br (by simp)) (by simp)) (by simp))
        have hni : ∀ (j : Nat) (x : Int), (#[.bool false, .slice none 0 0, .slice none 0 0] : Array Value)[j]? ≠ some (Value.int .u32 x) := (not_ints3 nb_bool nb_slice nb_slice)
        replace hs1 := hs1.but br hni hbut
        replace ht1 := ht1.but br hni hbut
        replace hs2 := hs2.but br hni hbut
        replace ht2 := ht2.but br hni hbut
        clear hni
        replace fv := But.fz hbut fv bv (Nat.succ_pos _) (by omega)
        replace bv := But.bl hbut bv (Nat.succ_pos _) (by omega)
        replace fr : Fz x5 (x2.heap.size) := by rw [hx5]; exact (Fz.set (Fz.set (Fz.set fr)))
        have hle : w.heap.size ≤ x2.heap.size := by omega
        replace HE : Ext w x5 := by rw [hx5]; exact (((HE.store hle _).store hle _).store hle _)
        clear hle
        replace hlo : x1.heap.size ≤ x5.heap.size := Nat.le_trans hlo hbut.1
        clear br hbut hx5
        have br := hbn
        clear hbn
        refine wpE_b rfl rfl (fun K hK => ?_)
        go_simp
        refine hK.out _ _ ?_
        clear hK K
        try simp only [PU]
        refine absE (fun x6 hx6 => ?_)
        have hbut : But x5 x6 (u2.heap.size) := by rw [hx6]; exact (But.refl _ _).store.store.store
        have hbn : Bl x6 (u2.heap.size) #[.bool (decide (Y < 0)), .slice a2 n2 c2, .slice d2 m2 k2] := by rw [hx6]; exact (Bl.set (Bl.set (Bl.set bv (by simp)) (by simp)) (by simp))
        have hni : ∀ (j : Nat) (x : Int), (#[.bool false, .slice none 0 0, .slice none 0 0] : Array Value)[j]? ≠ some (Value.int .u32 x) := (not_ints3 nb_bool nb_slice nb_slice)
        replace hs1 := hs1.but bv hni hbut
        replace ht1 := ht1.but bv hni hbut
        replace hs2 := hs2.but bv hni hbut
        replace ht2 := ht2.but bv hni hbut
        clear hni
        replace fr := But.fz hbut fr br (Nat.succ_pos _) (by omega)
        replace br := But.bl hbut br (Nat.succ_pos _) (by omega)
        replace fv : Fz x6 (u2.heap.size) := by rw [hx6]; exact (Fz.set (Fz.set (Fz.set fv)))
        have hle : w.heap.size ≤ u2.heap.size := by omega
        replace HE : Ext w x6 := by rw [hx6]; exact (((HE.store hle _).store hle _).store hle _)
        clear hle
        replace hlo : x1.heap.size ≤ x6.heap.size := Nat.le_trans hlo hbut.1
        clear bv hbut hx6
        have bv := hbn
        clear hbn
        refine wpE_done ?_
        clear hlo
        go_wp2_with fail
        go_meet
        exact ⟨x2.heap.size, u2.heap.size, a1, d1, n1, c1, m1, k1, a2, d2, n2, c2, m2, k2, rfl, rfl, br, bv, hs1, ht1, hs2, ht2, HE⟩
      refine wpE_l rfl rfl (fun K hK => ?_)
      go_simp
      refine hK.out _ _ ((Below.refl _ _).alloc hlo _) ?_
      clear hK K
      try simp only [PU]
      have gev := hlo
      have lrv := br.lt (Nat.succ_pos _)
      have l0v := HE.size
      refine absE (fun x4 hx4 => ?_)
      have hx : Ext u1 x4 := by rw [hx4]; exact ((Ext.refl _).alloc _)
      have bv : Bl x4 (u1.heap.size) #[.bool false, .slice none 0 0, .slice none 0 0] := by rw [hx4]; exact (Bl.new (by simp))
      have fv : Fz x4 (u1.heap.size) := by rw [hx4]; exact (Fz.new (by simp))
      replace hlo := Nat.le_trans hlo hx.size
      replace fr := q1f hx fr br
      replace br := q1b hx br
      replace hs1 := hs1.ext hx
      replace ht1 := ht1.ext hx
      replace HE := HE.trans hx
      clear hx
      clear hx4
      refine wpE_l rfl rfl (fun K hK => ?_)
      go_simp
      refine (HP2.out _ (HZ'.out.ext HE) (HD'.out.ext HE)).mono ?_
      rintro e u2 ⟨a2, n2, c2, d2, m2, k2, rfl, hs2, ht2, hx⟩
      refine hK.out _ _ (Below.mono hx hlo) ?_
      clear hK K
      try simp only [PU]
      replace hlo := Nat.le_trans hlo hx.size
      replace fr := q1f hx fr br
      replace br := q1b hx br
      replace fv := q1f hx fv bv
      replace bv := q1b hx bv
      replace hs1 := hs1.ext hx
      replace ht1 := ht1.ext hx
      replace HE := HE.trans hx
      clear hx
      replace hs2 : Nc u2 a2 n2 c2 (Y).natAbs := hs2
      replace ht2 : Nc u2 d2 m2 k2 (F) := ht2
      refine wpE_l rfl rfl (fun K hK => ?_)
      go_simp
      have hle : x1.heap.size ≤ x2.heap.size := by omega
      refine hK.out _ _ ((((Below.refl _ _).setCell hle _).setCell hle _).setCell hle _) ?_
      clear hK K hle
      try simp only [PU]
      refine absE (fun x5 hx5 => ?_)
      have hbut : But u2 x5 (x2.heap.size) := by rw [hx5]; exact (But.refl _ _).store.store.store
      have hbn : Bl x5 (x2.heap.size) #[.bool (decide (Z < 0)), .slice a1 n1 c1, .slice d1 m1 k1] := by rw [hx5]; exact (Bl.set (Bl.set (Bl.set br (by simp)) (by simp)) (by simp))
      have hni : ∀ (j : Nat) (x : Int), (#[.bool false, .slice none 0 0, .slice none 0 0] : Array Value)[j]? ≠ some (Value.int .u32 x) := (not_ints3 nb_bool nb_slice nb_slice)
      replace hs1 := hs1.but br hni hbut
      replace ht1 := ht1.but br hni hbut
      replace hs2 := hs2.but br hni hbut
      replace ht2 := ht2.but br hni hbut
      clear hni
      replace fv := But.fz hbut fv bv (Nat.succ_pos _) (by omega)
      replace bv := But.bl hbut bv (Nat.succ_pos _) (by omega)
      replace fr : Fz x5 (x2.heap.size) := by rw [hx5]; exact (Fz.set (Fz.set (Fz.set fr)))
      have hle : w.heap.size ≤ x2.heap.size := by omega
      replace HE : Ext w x5 := by rw [hx5]; exact (((HE.store hle _).store hle _).store hle _)
      clear hle
      replace hlo : x1.heap.size ≤ x5.heap.size := Nat.le_trans hlo hbut.1
      clear br hbut hx5
      have br := hbn
      clear hbn
      refine wpE_b rfl rfl (fun K hK => ?_)
      go_simp
      refine hK.out _ _ ?_
      clear hK K
      try simp only [PU]
      refine absE (fun x6 hx6 => ?_)
      have hbut : But x5 x6 (u1.heap.size) := by rw [hx6]; exact (But.refl _ _).store.store.store
      have hbn : Bl x6 (u1.heap.size) #[.bool (decide (Y < 0)), .slice a2 n2 c2, .slice d2 m2 k2] := by rw [hx6]; exact (Bl.set (Bl.set (Bl.set bv (by simp)) (by simp)) (by simp))
      have hni : ∀ (j : Nat) (x : Int), (#[.bool false, .slice none 0 0, .slice none 0 0] : Array Value)[j]? ≠ some (Value.int .u32 x) := (not_ints3 nb_bool nb_slice nb_slice)
      replace hs1 := hs1.but bv hni hbut
      replace ht1 := ht1.but bv hni hbut
      replace hs2 := hs2.but bv hni hbut
      replace ht2 := ht2.but bv hni hbut
      clear hni
      replace fr := But.fz hbut fr br (Nat.succ_pos _) (by omega)
      replace br := But.bl hbut br (Nat.succ_pos _) (by omega)
      replace fv : Fz x6 (u1.heap.size) := by rw [hx6]; exact (Fz.set (Fz.set (Fz.set fv)))
      have hle : w.heap.size ≤ u1.heap.size := by omega
      replace HE : Ext w x6 := by rw [hx6]; exact (((HE.store hle _).store hle _).store hle _)
      clear hle
      replace hlo : x1.heap.size ≤ x6.heap.size := Nat.le_trans hlo hbut.1
      clear bv hbut hx6
      have bv := hbn
      clear hbn
      refine wpE_done ?_
      clear hlo
      go_wp2_with fail
      go_meet
      exact ⟨x2.heap.size, u1.heap.size, a1, d1, n1, c1, m1, k1, a2, d2, n2, c2, m2, k2, rfl, rfl, br, bv, hs1, ht1, hs2, ht2, HE⟩
    refine wpE_l rfl rfl (fun K hK => ?_)
    go_simp
    refine hK.out _ _ ((Below.refl _ _).alloc hlo _) ?_
    clear hK K
    try simp only [PU]
    have gev := hlo
    have lrv := br.lt (Nat.succ_pos _)
    have l0v := HE.size
    refine absE (fun x4 hx4 => ?_)
    have hx : Ext x3 x4 := by rw [hx4]; exact ((Ext.refl _).alloc _)
    have bv : Bl x4 (x3.heap.size) #[.bool false, .slice none 0 0, .slice none 0 0] := by rw [hx4]; exact (Bl.new (by simp))
    have fv : Fz x4 (x3.heap.size) := by rw [hx4]; exact (Fz.new (by simp))
    replace hlo := Nat.le_trans hlo hx.size
    replace fr := q1f hx fr br
    replace br := q1b hx br
    replace HE := HE.trans hx
    clear hx
    clear hx4
    refine wpE_l rfl rfl (fun K hK => ?_)
    go_simp
    refine (HP1.out _ (HZ.out.ext HE) (HD.out.ext HE)).mono ?_
    rintro e u1 ⟨a1, n1, c1, d1, m1, k1, rfl, hs1, ht1, hx⟩
    refine hK.out _ _ (Below.mono hx hlo) ?_
    clear hK K
    try simp only [PU]
    replace hlo := Nat.le_trans hlo hx.size
    replace fr := q1f hx fr br
    replace br := q1b hx br
    replace fv := q1f hx fv bv
    replace bv := q1b hx bv
    replace HE := HE.trans hx
    clear hx
    replace hs1 : Nc u1 a1 n1 c1 (Z).natAbs := hs1
    replace ht1 : Nc u1 d1 m1 k1 (E) := ht1
    refine wpE_l rfl rfl (fun K hK => ?_)
    go_simp
    refine (HP2.out _ (HZ'.out.ext HE) (HD'.out.ext HE)).mono ?_
    rintro e u2 ⟨a2, n2, c2, d2, m2, k2, rfl, hs2, ht2, hx⟩
    refine hK.out _ _ (Below.mono hx hlo) ?_
    clear hK K
    try simp only [PU]
    replace hlo := Nat.le_trans hlo hx.size
    replace fr := q1f hx fr br
    replace br := q1b hx br
    replace fv := q1f hx fv bv
    replace bv := q1b hx bv
    replace hs1 := hs1.ext hx
    replace ht1 := ht1.ext hx
    replace HE := HE.trans hx
    clear hx
    replace hs2 : Nc u2 a2 n2 c2 (Y).natAbs := hs2
    replace ht2 : Nc u2 d2 m2 k2 (F) := ht2
    refine wpE_l rfl rfl (fun K hK => ?_)
    go_simp
    have hle : x1.heap.size ≤ x2.heap.size := by omega
    refine hK.out _ _ ((((Below.refl _ _).setCell hle _).setCell hle _).setCell hle _) ?_
    clear hK K hle
    try simp only [PU]
    refine absE (fun x5 hx5 => ?_)
    have hbut : But u2 x5 (x2.heap.size) := by rw [hx5]; exact (But.refl _ _).store.store.store
    have hbn : Bl x5 (x2.heap.size) #[.bool (decide (Z < 0)), .slice a1 n1 c1, .slice d1 m1 k1] := by rw [hx5]; exact (Bl.set (Bl.set (Bl.set br (by simp)) (by simp)) (by simp))
    have hni : ∀ (j : Nat) (x : Int), (#[.bool false, .slice none 0 0, .slice none 0 0] : Array Value)[j]? ≠ some (Value.int .u32 x) := (not_ints3 nb_bool nb_slice nb_slice)
    replace hs1 := hs1.but br hni hbut
    replace ht1 := ht1.but br hni hbut
    replace hs2 := hs2.but br hni hbut
    replace ht2 := ht2.but br hni hbut
    clear hni
    replace fv := But.fz hbut fv bv (Nat.succ_pos _) (by omega)
    replace bv := But.bl hbut bv (Nat.succ_pos _) (by omega)
    replace fr : Fz x5 (x2.heap.size) := by rw [hx5]; exact (Fz.set (Fz.set (Fz.set fr)))
    have hle : w.heap.size ≤ x2.heap.size := by omega
    replace HE : Ext w x5 := by rw [hx5]; exact (((HE.store hle _).store hle _).store hle _)
    clear hle
    replace hlo : x1.heap.size ≤ x5.heap.size := Nat.le_trans hlo hbut.1
    clear br hbut hx5
    have br := hbn
    clear hbn
    refine wpE_b rfl rfl (fun K hK => ?_)
    go_simp
    refine hK.out _ _ ?_
    clear hK K
    try simp only [PU]
    refine absE (fun x6 hx6 => ?_)
    have hbut : But x5 x6 (x3.heap.size) := by rw [hx6]; exact (But.refl _ _).store.store.store
    have hbn : Bl x6 (x3.heap.size) #[.bool (decide (Y < 0)), .slice a2 n2 c2, .slice d2 m2 k2] := by rw [hx6]; exact (Bl.set (Bl.set (Bl.set bv (by simp)) (by simp)) (by simp))
    have hni : ∀ (j : Nat) (x : Int), (#[.bool false, .slice none 0 0, .slice none 0 0] : Array Value)[j]? ≠ some (Value.int .u32 x) := (not_ints3 nb_bool nb_slice nb_slice)
    replace hs1 := hs1.but bv hni hbut
    replace ht1 := ht1.but bv hni hbut
    replace hs2 := hs2.but bv hni hbut
    replace ht2 := ht2.but bv hni hbut
    clear hni
    replace fr := But.fz hbut fr br (Nat.succ_pos _) (by omega)
    replace br := But.bl hbut br (Nat.succ_pos _) (by omega)
    replace fv : Fz x6 (x3.heap.size) := by rw [hx6]; exact (Fz.set (Fz.set (Fz.set fv)))
    have hle : w.heap.size ≤ x3.heap.size := by omega
    replace HE : Ext w x6 := by rw [hx6]; exact (((HE.store hle _).store hle _).store hle _)
    clear hle
    replace hlo : x1.heap.size ≤ x6.heap.size := Nat.le_trans hlo hbut.1
    clear bv hbut hx6
    have bv := hbn
    clear hbn
    refine wpE_done ?_
    clear hlo
    go_wp2_with fail
    go_meet
    exact ⟨x2.heap.size, x3.heap.size, a1, d1, n1, c1, m1, k1, a2, d2, n2, c2, m2, k2, rfl, rfl, br, bv, hs1, ht1, hs2, ht2, HE⟩
  refine wpE_l rfl rfl (fun K hK => ?_)
  go_simp
  refine hK.out _ _ ((Below.refl _ _).alloc hlo _) ?_
  clear hK K
  try simp only [PU]
  have gev := hlo
  have l0v := HE.size
  refine absE (fun x3 hx3 => ?_)
  have hx : Ext x2 x3 := by rw [hx3]; exact ((Ext.refl _).alloc _)
  have bv : Bl x3 (x2.heap.size) #[.bool false, .slice none 0 0, .slice none 0 0] := by rw [hx3]; exact (Bl.new (by simp))
  have fv : Fz x3 (x2.heap.size) := by rw [hx3]; exact (Fz.new (by simp))
  replace hlo := Nat.le_trans hlo hx.size
  replace HE := HE.trans hx
  clear hx
  clear hx3
  refine wpE_br rfl rfl (fun K hK => ?_) ?_
  · go_simp
    refine (HP1.out _ (HZ.out.ext HE) (HD.out.ext HE)).mono ?_
    rintro e u1 ⟨a1, n1, c1, d1, m1, k1, rfl, hs1, ht1, hx⟩
    refine hK.out _ _ (Below.mono hx hlo) ?_
    clear hK K
    try simp only [PU]
    replace hlo := Nat.le_trans hlo hx.size
    replace fv := q1f hx fv bv
    replace bv := q1b hx bv
    replace HE := HE.trans hx
    clear hx
    replace hs1 : Nc u1 a1 n1 c1 (Z).natAbs := hs1
    replace ht1 : Nc u1 d1 m1 k1 (E) := ht1
    refine wpE_br rfl rfl (fun K hK => ?_) ?_
    · go_simp
      refine (HP2.out _ (HZ'.out.ext HE) (HD'.out.ext HE)).mono ?_
      rintro e u2 ⟨a2, n2, c2, d2, m2, k2, rfl, hs2, ht2, hx⟩
      refine hK.out _ _ (Below.mono hx hlo) ?_
      clear hK K
      try simp only [PU]
      replace hlo := Nat.le_trans hlo hx.size
      replace fv := q1f hx fv bv
      replace bv := q1b hx bv
      replace hs1 := hs1.ext hx
      replace ht1 := ht1.ext hx
      replace HE := HE.trans hx
      clear hx
      replace hs2 : Nc u2 a2 n2 c2 (Y).natAbs := hs2
      replace ht2 : Nc u2 d2 m2 k2 (F) := ht2
      refine wpE_l rfl rfl (fun K hK => ?_)
      go_simp
      refine hK.out _ _ ((Below.refl _ _).alloc hlo _) ?_
      clear hK K
      try simp only [PU]
      have ger := hlo
      have lvr := bv.lt (Nat.succ_pos _)
      have l0r := HE.size
      refine absE (fun x4 hx4 => ?_)
      have hx : Ext u2 x4 := by rw [hx4]; exact ((Ext.refl _).alloc _)
      have br : Bl x4 (u2.heap.size) #[.bool false, .slice none 0 0, .slice none 0 0] := by rw [hx4]; exact (Bl.new (by simp))
      have fr : Fz x4 (u2.heap.size) := by rw [hx4]; exact (Fz.new (by simp))
      replace hlo := Nat.le_trans hlo hx.size
      replace fv := q1f hx fv bv
      replace bv := q1b hx bv
      replace hs1 := hs1.ext hx
      replace ht1 := ht1.ext hx
      replace hs2 := hs2.ext hx
      replace ht2 := ht2.ext hx
      replace HE := HE.trans hx
      clear hx
      clear hx4
      refine wpE_l rfl rfl (fun K hK => ?_)
      go_simp
      have hle : x1.heap.size ≤ u2.heap.size := by omega
      refine hK.out _ _ ((((Below.refl _ _).setCell hle _).setCell hle _).setCell hle _) ?_
      clear hK K hle
      try simp only [PU]
      refine absE (fun x5 hx5 => ?_)
      have hbut : But x4 x5 (u2.heap.size) := by rw [hx5]; exact (But.refl _ _).store.store.store
      have hbn : Bl x5 (u2.heap.size) #[.bool (decide (Z < 0)), .slice a1 n1 c1, .slice d1 m1 k1] := by rw [hx5]; exact (Bl.set (Bl.set (Bl.set br (by simp)) (by simp)) (by simp))
      have hni : ∀ (j : Nat) (x : Int), (#[.bool false, .slice none 0 0, .slice none 0 0] : Array Value)[j]? ≠ some (Value.int .u32 x) := (not_ints3 nb_bool nb_slice nb_slice)
      replace hs1 := hs1.but br hni hbut
      replace ht1 := ht1.but br hni hbut
      replace hs2 := hs2.but br hni hbut
      replace ht2 := ht2.but br hni hbut
      clear hni
      replace fv := But.fz hbut fv bv (Nat.succ_pos _) (by omega)
      replace bv := But.bl hbut bv (Nat.succ_pos _) (by omega)
      replace fr : Fz x5 (u2.heap.size) := by rw [hx5]; exact (Fz.set (Fz.set (Fz.set fr)))
      have hle : w.heap.size ≤ u2.heap.size := by omega
      replace HE : Ext w x5 := by rw [hx5]; exact (((HE.store hle _).store hle _).store hle _)
      clear hle
      replace hlo : x1.heap.size ≤ x5.heap.size := Nat.le_trans hlo hbut.1
      clear br hbut hx5
      have br := hbn
      clear hbn
      refine wpE_b rfl rfl (fun K hK => ?_)
      go_simp
      refine hK.out _ _ ?_
      clear hK K
      try simp only [PU]
      refine absE (fun x6 hx6 => ?_)
      have hbut : But x5 x6 (x2.heap.size) := by rw [hx6]; exact (But.refl _ _).store.store.store
      have hbn : Bl x6 (x2.heap.size) #[.bool (decide (Y < 0)), .slice a2 n2 c2, .slice d2 m2 k2] := by rw [hx6]; exact (Bl.set (Bl.set (Bl.set bv (by simp)) (by simp)) (by simp))
      have hni : ∀ (j : Nat) (x : Int), (#[.bool false, .slice none 0 0, .slice none 0 0] : Array Value)[j]? ≠ some (Value.int .u32 x) := (not_ints3 nb_bool nb_slice nb_slice)
      replace hs1 := hs1.but bv hni hbut
      replace ht1 := ht1.but bv hni hbut
      replace hs2 := hs2.but bv hni hbut
      replace ht2 := ht2.but bv hni hbut
      clear hni
      replace fr := But.fz hbut fr br (Nat.succ_pos _) (by omega)
      replace br := But.bl hbut br (Nat.succ_pos _) (by omega)
      replace fv : Fz x6 (x2.heap.size) := by rw [hx6]; exact (Fz.set (Fz.set (Fz.set fv)))
      have hle : w.heap.size ≤ x2.heap.size := by omega
      replace HE : Ext w x6 := by rw [hx6]; exact (((HE.store hle _).store hle _).store hle _)
      clear hle
      replace hlo : x1.heap.size ≤ x6.heap.size := Nat.le_trans hlo hbut.1
      clear bv hbut hx6
      have bv := hbn
      clear hbn
      refine wpE_done ?_
      clear hlo
      go_wp2_with fail
      go_meet
      exact ⟨u2.heap.size, x2.heap.size, a1, d1, n1, c1, m1, k1, a2, d2, n2, c2, m2, k2, rfl, rfl, br, bv, hs1, ht1, hs2, ht2, HE⟩
    refine wpE_l rfl rfl (fun K hK => ?_)
    go_simp
    refine hK.out _ _ ((Below.refl _ _).alloc hlo _) ?_
    clear hK K
    try simp only [PU]
    have ger := hlo
    have lvr := bv.lt (Nat.succ_pos _)
    have l0r := HE.size
    refine absE (fun x4 hx4 => ?_)
    have hx : Ext u1 x4 := by rw [hx4]; exact ((Ext.refl _).alloc _)
    have br : Bl x4 (u1.heap.size) #[.bool false, .slice none 0 0, .slice none 0 0] := by rw [hx4]; exact (Bl.new (by simp))
    have fr : Fz x4 (u1.heap.size) := by rw [hx4]; exact (Fz.new (by simp))
    replace hlo := Nat.le_trans hlo hx.size
    replace fv := q1f hx fv bv
    replace bv := q1b hx bv
    replace hs1 := hs1.ext hx
    replace ht1 := ht1.ext hx
    replace HE := HE.trans hx
    clear hx
    clear hx4
    refine wpE_l rfl rfl (fun K hK => ?_)
    go_simp
    refine (HP2.out _ (HZ'.out.ext HE) (HD'.out.ext HE)).mono ?_
    rintro e u2 ⟨a2, n2, c2, d2, m2, k2, rfl, hs2, ht2, hx⟩
    refine hK.out _ _ (Below.mono hx hlo) ?_
    clear hK K
    try simp only [PU]
    replace hlo := Nat.le_trans hlo hx.size
    replace fv := q1f hx fv bv
    replace bv := q1b hx bv
    replace fr := q1f hx fr br
    replace br := q1b hx br
    replace hs1 := hs1.ext hx
    replace ht1 := ht1.ext hx
    replace HE := HE.trans hx
    clear hx
    replace hs2 : Nc u2 a2 n2 c2 (Y).natAbs := hs2
    replace ht2 : Nc u2 d2 m2 k2 (F) := ht2
    refine wpE_l rfl rfl (fun K hK => ?_)
    go_simp
    have hle : x1.heap.size ≤ u1.heap.size := by omega
    refine hK.out _ _ ((((Below.refl _ _).setCell hle _).setCell hle _).setCell hle _) ?_
    clear hK K hle
    try simp only [PU]
    refine absE (fun x5 hx5 => ?_)
    have hbut : But u2 x5 (u1.heap.size) := by rw [hx5]; exact (But.refl _ _).store.store.store
    have hbn : Bl x5 (u1.heap.size) #[.bool (decide (Z < 0)), .slice a1 n1 c1, .slice d1 m1 k1] := by rw [hx5]; exact (Bl.set (Bl.set (Bl.set br (by simp)) (by simp)) (by simp))
    have hni : ∀ (j : Nat) (x : Int), (#[.bool false, .slice none 0 0, .slice none 0 0] : Array Value)[j]? ≠ some (Value.int .u32 x) := (not_ints3 nb_bool nb_slice nb_slice)
    replace hs1 := hs1.but br hni hbut
    replace ht1 := ht1.but br hni hbut
    replace hs2 := hs2.but br hni hbut
    replace ht2 := ht2.but br hni hbut
    clear hni
    replace fv := But.fz hbut fv bv (Nat.succ_pos _) (by omega)
    replace bv := But.bl hbut bv (Nat.succ_pos _) (by omega)
    replace fr : Fz x5 (u1.heap.size) := by rw [hx5]; exact (Fz.set (Fz.set (Fz.set fr)))
    have hle : w.heap.size ≤ u1.heap.size := by omega
    replace HE : Ext w x5 := by rw [hx5]; exact (((HE.store hle _).store hle _).store hle _)
    clear hle
    replace hlo : x1.heap.size ≤ x5.heap.size := Nat.le_trans hlo hbut.1
    clear br hbut hx5
    have br := hbn
    clear hbn
    refine wpE_b rfl rfl (fun K hK => ?_)
    go_simp
    refine hK.out _ _ ?_
    clear hK K
    try simp only [PU]
    refine absE (fun x6 hx6 => ?_)
    have hbut : But x5 x6 (x2.heap.size) := by rw [hx6]; exact (But.refl _ _).store.store.store
    have hbn : Bl x6 (x2.heap.size) #[.bool (decide (Y < 0)), .slice a2 n2 c2, .slice d2 m2 k2] := by rw [hx6]; exact (Bl.set (Bl.set (Bl.set bv (by simp)) (by simp)) (by simp))
    have hni : ∀ (j : Nat) (x : Int), (#[.bool false, .slice none 0 0, .slice none 0 0] : Array Value)[j]? ≠ some (Value.int .u32 x) := (not_ints3 nb_bool nb_slice nb_slice)
    replace hs1 := hs1.but bv hni hbut
    replace ht1 := ht1.but bv hni hbut
    replace hs2 := hs2.but bv hni hbut
    replace ht2 := ht2.but bv hni hbut
    clear hni
    replace fr := But.fz hbut fr br (Nat.succ_pos _) (by omega)
    replace br := But.bl hbut br (Nat.succ_pos _) (by omega)
    replace fv : Fz x6 (x2.heap.size) := by rw [hx6]; exact (Fz.set (Fz.set (Fz.set fv)))
    have hle : w.heap.size ≤ x2.heap.size := by omega
    replace HE : Ext w x6 := by rw [hx6]; exact (((HE.store hle _).store hle _).store hle _)
    clear hle
    replace hlo : x1.heap.size ≤ x6.heap.size := Nat.le_trans hlo hbut.1
    clear bv hbut hx6
    have bv := hbn
    clear hbn
    refine wpE_done ?_
    clear hlo
    go_wp2_with fail
    go_meet
    exact ⟨u1.heap.size, x2.heap.size, a1, d1, n1, c1, m1, k1, a2, d2, n2, c2, m2, k2, rfl, rfl, br, bv, hs1, ht1, hs2, ht2, HE⟩
  refine wpE_l rfl rfl (fun K hK => ?_)
  go_simp
  refine hK.out _ _ ((Below.refl _ _).alloc hlo _) ?_
  clear hK K
  try simp only [PU]
  have ger := hlo
  have lvr := bv.lt (Nat.succ_pos _)
  have l0r := HE.size
  refine absE (fun x4 hx4 => ?_)
  have hx : Ext x3 x4 := by rw [hx4]; exact ((Ext.refl _).alloc _)
  have br : Bl x4 (x3.heap.size) #[.bool false, .slice none 0 0, .slice none 0 0] := by rw [hx4]; exact (Bl.new (by simp))
  have fr : Fz x4 (x3.heap.size) := by rw [hx4]; exact (Fz.new (by simp))
  replace hlo := Nat.le_trans hlo hx.size
  replace fv := q1f hx fv bv
  replace bv := q1b hx bv
  replace HE := HE.trans hx
  clear hx
  clear hx4
  refine wpE_l rfl rfl (fun K hK => ?_)
  go_simp
  refine (HP1.out _ (HZ.out.ext HE) (HD.out.ext HE)).mono ?_
  rintro e u1 ⟨a1, n1, c1, d1, m1, k1, rfl, hs1, ht1, hx⟩
  refine hK.out _ _ (Below.mono hx hlo) ?_
  clear hK K
  try simp only [PU]
  replace hlo := Nat.le_trans hlo hx.size
  replace fv := q1f hx fv bv
  replace bv := q1b hx bv
  replace fr := q1f hx fr br
  replace br := q1b hx br
  replace HE := HE.trans hx
  clear hx
  replace hs1 : Nc u1 a1 n1 c1 (Z).natAbs := hs1
  replace ht1 : Nc u1 d1 m1 k1 (E) := ht1
  refine wpE_l rfl rfl (fun K hK => ?_)
  go_simp
  refine (HP2.out _ (HZ'.out.ext HE) (HD'.out.ext HE)).mono ?_
  rintro e u2 ⟨a2, n2, c2, d2, m2, k2, rfl, hs2, ht2, hx⟩
  refine hK.out _ _ (Below.mono hx hlo) ?_
  clear hK K
  try simp only [PU]
  replace hlo := Nat.le_trans hlo hx.size
  replace fv := q1f hx fv bv
  replace bv := q1b hx bv
  replace fr := q1f hx fr br
  replace br := q1b hx br
  replace hs1 := hs1.ext hx
  replace ht1 := ht1.ext hx
  replace HE := HE.trans hx
  clear hx
  replace hs2 : Nc u2 a2 n2 c2 (Y).natAbs := hs2
  replace ht2 : Nc u2 d2 m2 k2 (F) := ht2
  refine wpE_l rfl rfl (fun K hK => ?_)
  go_simp
  have hle : x1.heap.size ≤ x3.heap.size := by omega
  refine hK.out _ _ ((((Below.refl _ _).setCell hle _).setCell hle _).setCell hle _) ?_
  clear hK K hle
  try simp only [PU]
  refine absE (fun x5 hx5 => ?_)
  have hbut : But u2 x5 (x3.heap.size) := by rw [hx5]; exact (But.refl _ _).store.store.store
  have hbn : Bl x5 (x3.heap.size) #[.bool (decide (Z < 0)), .slice a1 n1 c1, .slice d1 m1 k1] := by rw [hx5]; exact (Bl.set (Bl.set (Bl.set br (by simp)) (by simp)) (by simp))
  have hni : ∀ (j : Nat) (x : Int), (#[.bool false, .slice none 0 0, .slice none 0 0] : Array Value)[j]? ≠ some (Value.int .u32 x) := (not_ints3 nb_bool nb_slice nb_slice)
  replace hs1 := hs1.but br hni hbut
  replace ht1 := ht1.but br hni hbut
  replace hs2 := hs2.but br hni hbut
  replace ht2 := ht2.but br hni hbut
  clear hni
  replace fv := But.fz hbut fv bv (Nat.succ_pos _) (by omega)
  replace bv := But.bl hbut bv (Nat.succ_pos _) (by omega)
  replace fr : Fz x5 (x3.heap.size) := by rw [hx5]; exact (Fz.set (Fz.set (Fz.set fr)))
  have hle : w.heap.size ≤ x3.heap.size := by omega
  replace HE : Ext w x5 := by rw [hx5]; exact (((HE.store hle _).store hle _).store hle _)
  clear hle
  replace hlo : x1.heap.size ≤ x5.heap.size := Nat.le_trans hlo hbut.1
  clear br hbut hx5
  have br := hbn
  clear hbn
  refine wpE_b rfl rfl (fun K hK => ?_)
  go_simp
  refine hK.out _ _ ?_
  clear hK K
  try simp only [PU]
  refine absE (fun x6 hx6 => ?_)
  have hbut : But x5 x6 (x2.heap.size) := by rw [hx6]; exact (But.refl _ _).store.store.store
  have hbn : Bl x6 (x2.heap.size) #[.bool (decide (Y < 0)), .slice a2 n2 c2, .slice d2 m2 k2] := by rw [hx6]; exact (Bl.set (Bl.set (Bl.set bv (by simp)) (by simp)) (by simp))
  have hni : ∀ (j : Nat) (x : Int), (#[.bool false, .slice none 0 0, .slice none 0 0] : Array Value)[j]? ≠ some (Value.int .u32 x) := (not_ints3 nb_bool nb_slice nb_slice)
  replace hs1 := hs1.but bv hni hbut
  replace ht1 := ht1.but bv hni hbut
  replace hs2 := hs2.but bv hni hbut
  replace ht2 := ht2.but bv hni hbut
  clear hni
  replace fr := But.fz hbut fr br (Nat.succ_pos _) (by omega)
  replace br := But.bl hbut br (Nat.succ_pos _) (by omega)
  replace fv : Fz x6 (x2.heap.size) := by rw [hx6]; exact (Fz.set (Fz.set (Fz.set fv)))
  have hle : w.heap.size ≤ x2.heap.size := by omega
  replace HE : Ext w x6 := by rw [hx6]; exact (((HE.store hle _).store hle _).store hle _)
  clear hle
  replace hlo : x1.heap.size ≤ x6.heap.size := Nat.le_trans hlo hbut.1
  clear bv hbut hx6
  have bv := hbn
  clear hbn
  refine wpE_done ?_
  clear hlo
  go_wp2_with fail
  go_meet
  exact ⟨x3.heap.size, x2.heap.size, a1, d1, n1, c1, m1, k1, a2, d2, n2, c2, m2, k2, rfl, rfl, br, bv, hs1, ht1, hs2, ht2, HE⟩
 obtain ⟨gr, gv, ar, dr, nr, cr, mr, kr, av, dv, nv, cv, mv, kv, rfl, rfl, br, bv, hsr, htr, hsv, htv, HE⟩ := hcut
 by_cases hss : sz = sy
 · subst hss
   go_wp2_with fail
   refine wp_region_plan (R := Ext) (.q 0 (.q 1 (.q 3 (.q 4 (.l 2 (.l 5 (.q 6 (.q 7 .done)))))))) (by kernel_rfl) (by kernel_rfl) (by kernel_rfl) (by kernel_rfl) Ext.refl (fun _ _ _ => Ext.trans) ?_
   refine absE (fun x1 hx1 => ?_)
   have hx : Ext wc x1 := by rw [hx1]; exact (Ext.refl _).drew
   replace br := q1b hx br
   replace bv := q1b hx bv
   replace hsr := hsr.ext hx
   replace htr := htr.ext hx
   replace hsv := hsv.ext hx
   replace htv := htv.ext hx
   replace HE := HE.trans hx
   clear hx
   clear hx1
   repeat (refine wpE_q (v := ?_) rfl rfl (fun u hu => ?_) ?_; rotate_left 1; (focus (have kr := q1b hu br; have kv := q1b hu bv; go_simp; (try rfl))); simp only [PU])
   refine wpE_l rfl rfl (fun K hK => ?_)
   go_simp
   refine (HS1.out _ _ _ _ _ (hsr.wh (by have := B1.out; omega))).mono ?_
   rintro e u3 ⟨rfl, hx⟩
   refine hK.out _ _ hx ?_
   clear hK K
   try simp only [PU]
   replace br := q1b hx br
   replace bv := q1b hx bv
   replace hsr := hsr.ext hx
   replace htr := htr.ext hx
   replace hsv := hsv.ext hx
   replace htv := htv.ext hx
   replace HE := HE.trans hx
   clear hx
   refine wpE_l rfl rfl (fun K hK => ?_)
   go_simp
   refine (HS2.out _ _ _ _ _ (hsv.wh (by have := B3.out; omega))).mono ?_
   rintro e u4 ⟨rfl, hx⟩
   refine hK.out _ _ hx ?_
   clear hK K
   try simp only [PU]
   replace br := q1b hx br
   replace bv := q1b hx bv
   replace hsr := hsr.ext hx
   replace htr := htr.ext hx
   replace hsv := hsv.ext hx
   replace htv := htv.ext hx
   replace HE := HE.trans hx
   clear hx
   repeat (refine wpE_q (v := ?_) rfl rfl (fun u hu => ?_) ?_; rotate_left 1; (focus (have kr := q1b hu br; have kv := q1b hu bv; go_simp; (try rfl))); simp only [PU])
   refine wpE_done ?_
   go_wp2_with fail
   refine wp_region_plan (R := Ext) (.q 0 (.q 1 (.q 2 (.q 3 (.q 4 (.q 6 (.q 7 (.q 8 (.q 9 (.q 10 (.l 5 (.l 11 (.l 12 (.q 13 .done)))))))))))))) (by kernel_rfl) (by kernel_rfl) (by kernel_rfl) (by kernel_rfl) Ext.refl (fun _ _ _ => Ext.trans) ?_
   refine absE (fun x2 hx2 => ?_)
   have hx : Ext u4 x2 := by rw [hx2]; exact (Ext.refl _).drew
   replace br := q1b hx br
   replace bv := q1b hx bv
   replace hsr := hsr.ext hx
   replace htr := htr.ext hx
   replace hsv := hsv.ext hx
   replace htv := htv.ext hx
   replace HE := HE.trans hx
   clear hx
   clear hx2
   repeat (refine wpE_q (v := ?_) rfl rfl (fun u hu => ?_) ?_; rotate_left 1; (focus (have kr := q1b hu br; have kv := q1b hu bv; go_simp; (try rfl))); simp only [PU])
   refine wpE_l rfl rfl (fun K hK => ?_)
   go_simp
   refine (w_Mul (hsr.wh (by have := B1.out; omega)) (htv.wf (by have := B4.out; omega))).mono ?_
   rintro e u5 ⟨a5, n5, c5, rfl, hs5, hx⟩
   refine hK.out _ _ hx ?_
   clear hK K
   try simp only [PU]
   replace br := q1b hx br
   replace bv := q1b hx bv
   replace hsr := hsr.ext hx
   replace htr := htr.ext hx
   replace hsv := hsv.ext hx
   replace htv := htv.ext hx
   replace HE := HE.trans hx
   clear hx
   replace hs5 : Nc u5 a5 n5 c5 (Z * (F : Int)).natAbs := hs5
   refine wpE_l rfl rfl (fun K hK => ?_)
   go_simp
   refine (w_Mul (hsv.wh (by have := B3.out; omega)) (htr.wf (by have := B2.out; omega))).mono ?_
   rintro e u6 ⟨a6, n6, c6, rfl, hs6, hx⟩
   refine hK.out _ _ hx ?_
   clear hK K
   try simp only [PU]
   replace br := q1b hx br
   replace bv := q1b hx bv
   replace hsr := hsr.ext hx
   replace htr := htr.ext hx
   replace hsv := hsv.ext hx
   replace htv := htv.ext hx
   replace hs5 := hs5.ext hx
   replace HE := HE.trans hx
   clear hx
   replace hs6 : Nc u6 a6 n6 c6 (Y * (E : Int)).natAbs := hs6
   refine wpE_l rfl rfl (fun K hK => ?_)
   go_simp
   refine (w_Cmp_any _ _ a5 a6 n5 c5 n6 c6 (Z * (F : Int)) (Y * (E : Int)) _ (hs5.wh (by have := Q1.out; omega)) (hs6.wh (by have := Q2.out; omega))).mono ?_
   rw [HR.out]
   rintro e u7 ⟨rfl, hx⟩
   refine hK.out _ _ hx ?_
   clear hK K
   try simp only [PU]
   replace br := q1b hx br
   replace bv := q1b hx bv
   replace hsr := hsr.ext hx
   replace htr := htr.ext hx
   replace hsv := hsv.ext hx
   replace htv := htv.ext hx
   replace hs5 := hs5.ext hx
   replace hs6 := hs6.ext hx
   replace HE := HE.trans hx
   clear hx
   repeat (refine wpE_q (v := ?_) rfl rfl (fun u hu => ?_) ?_; rotate_left 1; (focus (have kr := q1b hu br; have kv := q1b hu bv; go_simp; (try rfl))); simp only [PU])
   refine wpE_done ?_
   go_wp2_with fail
   go_ret
   exact ⟨rfl, HE⟩
 by_cases hlt : sz < sy
 · have HR2 : Hid (rr = -1) := hidP (by have := HCS.out hss; rw [if_pos hlt] at this; exact this)
   have hd : decide (sz < sy) = true := decide_eq_true hlt
   have hne : (sz != sy) = true := by simpa using hss
   have hne2 : (sz == sy) = false := by simpa using hss
   clear hss hlt
   go_wp2_with fail
   refine wp_region_plan (R := Ext) (.q 0 (.q 1 (.q 3 (.q 4 (.l 2 (.l 5 (.q 6 (.q 7 .done)))))))) (by kernel_rfl) (by kernel_rfl) (by kernel_rfl) (by kernel_rfl) Ext.refl (fun _ _ _ => Ext.trans) ?_
   refine absE (fun x1 hx1 => ?_)
   have hx : Ext wc x1 := by rw [hx1]; exact (Ext.refl _).drew
   replace br := q1b hx br
   replace bv := q1b hx bv
   replace hsr := hsr.ext hx
   replace htr := htr.ext hx
   replace hsv := hsv.ext hx
   replace htv := htv.ext hx
   replace HE := HE.trans hx
   clear hx
   clear hx1
   repeat (refine wpE_q (v := ?_) rfl rfl (fun u hu => ?_) ?_; rotate_left 1; (focus (have kr := q1b hu br; have kv := q1b hu bv; go_simp; (try rfl))); simp only [PU])
   refine wpE_l rfl rfl (fun K hK => ?_)
   go_simp
   refine (HS1.out _ _ _ _ _ (hsr.wh (by have := B1.out; omega))).mono ?_
   rintro e u3 ⟨rfl, hx⟩
   refine hK.out _ _ hx ?_
   clear hK K
   try simp only [PU]
   replace br := q1b hx br
   replace bv := q1b hx bv
   replace hsr := hsr.ext hx
   replace htr := htr.ext hx
   replace hsv := hsv.ext hx
   replace htv := htv.ext hx
   replace HE := HE.trans hx
   clear hx
   refine wpE_l rfl rfl (fun K hK => ?_)
   go_simp
   refine (HS2.out _ _ _ _ _ (hsv.wh (by have := B3.out; omega))).mono ?_
   rintro e u4 ⟨rfl, hx⟩
   refine hK.out _ _ hx ?_
   clear hK K
   try simp only [PU]
   replace br := q1b hx br
   replace bv := q1b hx bv
   replace hsr := hsr.ext hx
   replace htr := htr.ext hx
   replace hsv := hsv.ext hx
   replace htv := htv.ext hx
   replace HE := HE.trans hx
   clear hx
   repeat (refine wpE_q (v := ?_) rfl rfl (fun u hu => ?_) ?_; rotate_left 1; (focus (have kr := q1b hu br; have kv := q1b hu bv; go_simp; (try rfl))); simp only [PU])
   refine wpE_done ?_
   go_wp2_with fail
   go_ret
   exact ⟨congrArg (fun x => Ending.returned (Value.int .i64 x)) HR2.out.symm, HE⟩
 have HR2 : Hid (rr = 1) := hidP (by have := HCS.out hss; rw [if_neg hlt] at this; exact this)
 have hd : decide (sz < sy) = false := decide_eq_false hlt
 have hne : (sz != sy) = true := by simpa using hss
 have hne2 : (sz == sy) = false := by simpa using hss
 clear hss hlt
 go_wp2_with fail
 refine wp_region_plan (R := Ext) (.q 0 (.q 1 (.q 3 (.q 4 (.l 2 (.l 5 (.q 6 (.q 7 .done)))))))) (by kernel_rfl) (by kernel_rfl) (by kernel_rfl) (by kernel_rfl) Ext.refl (fun _ _ _ => Ext.trans) ?_
 refine absE (fun x1 hx1 => ?_)
 have hx : Ext wc x1 := by rw [hx1]; exact (Ext.refl _).drew
 replace br := q1b hx br
 replace bv := q1b hx bv
 replace hsr := hsr.ext hx
 replace htr := htr.ext hx
 replace hsv := hsv.ext hx
 replace htv := htv.ext hx
 replace HE := HE.trans hx
 clear hx
 clear hx1
 repeat (refine wpE_q (v := ?_) rfl rfl (fun u hu => ?_) ?_; rotate_left 1; (focus (have kr := q1b hu br; have kv := q1b hu bv; go_simp; (try rfl))); simp only [PU])
 refine wpE_l rfl rfl (fun K hK => ?_)
 go_simp
 refine (HS1.out _ _ _ _ _ (hsr.wh (by have := B1.out; omega))).mono ?_
 rintro e u3 ⟨rfl, hx⟩
 refine hK.out _ _ hx ?_
 clear hK K
 try simp only [PU]
 replace br := q1b hx br
 replace bv := q1b hx bv
 replace hsr := hsr.ext hx
 replace htr := htr.ext hx
 replace hsv := hsv.ext hx
 replace htv := htv.ext hx
 replace HE := HE.trans hx
 clear hx
 refine wpE_l rfl rfl (fun K hK => ?_)
 go_simp
 refine (HS2.out _ _ _ _ _ (hsv.wh (by have := B3.out; omega))).mono ?_
 rintro e u4 ⟨rfl, hx⟩
 refine hK.out _ _ hx ?_
 clear hK K
 try simp only [PU]
 replace br := q1b hx br
 replace bv := q1b hx bv
 replace hsr := hsr.ext hx
 replace htr := htr.ext hx
 replace hsv := hsv.ext hx
 replace htv := htv.ext hx
 replace HE := HE.trans hx
 clear hx
 repeat (refine wpE_q (v := ?_) rfl rfl (fun u hu => ?_) ?_; rotate_left 1; (focus (have kr := q1b hu br; have kv := q1b hu bv; go_simp; (try rfl))); simp only [PU])
 refine wpE_done ?_
 go_wp2_with fail
 go_ret
 exact ⟨congrArg (fun x => Ending.returned (Value.int .i64 x)) HR2.out.symm, HE⟩
end
end Go.Proofs.YtgjjalnmigdjgaaGreat
