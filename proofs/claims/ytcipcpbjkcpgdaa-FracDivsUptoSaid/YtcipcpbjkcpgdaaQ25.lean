/- The law of quotients of fractions: its walk. -/
import Derived.Test.YtcipcpbjkcpgdaaQ26
import Derived.Test.YtcipcpbjkcpgdaaQ5
import Derived.Test.YtcipcpbjkcpgdaaQ9
namespace Go.Proofs.Ytcipcpbjkcpgdaa
set_option linter.unusedVariables false
open Go Go.RowKit

theorem mkz_len (z z' : Int) : dl (mkz z z').natAbs ≤ dl z.natAbs := by
  unfold mkz
  split
  · rw [Int.natAbs_zero, dl_zero]; omega
  · unfold rz
    have := mz_abs z z'
    exact Nat.le_trans (dl_mono (Int.natAbs_ediv_le_natAbs _ _)) (by rw [this]; exact Nat.le_refl _)
theorem mkd_len (z z' : Int) : dl (mkd z z') ≤ dl z'.natAbs := by
  unfold mkd
  split
  · rw [dl_zero]; omega
  · unfold rd; exact dl_div _ _

set_option maxRecDepth 100000 in
set_option maxHeartbeats 8000000 in
theorem fracDivs_any (ga : Bool) (aa : Option Addr) (na ca : Nat) (la : List Nat) (da : Option Addr) (ma ka : Nat) (ea : List Nat) (gb : Bool) (ab : Option Addr) (nb cb : Nat) (lb : List Nat) (db : Option Addr) (mb kb : Nat) (eb : List Nat) (ni di : Int) (w : World)
    (hs : Sl w aa na ca (ints .u32 la)) (hl : Ws la) (hn : na ≤ 1048576) (ht : Sl w da ma ka (ints .u32 ea)) (he : Ws ea) (hm : ma ≤ 1048576) (hs' : Sl w ab nb cb (ints .u32 lb)) (hl' : Ws lb) (hn' : nb ≤ 1048576) (ht' : Sl w db mb kb (ints .u32 eb)) (he' : Ws eb) (hm' : mb ≤ 1048576)
    (i1 : -9223372036854775808 ≤ ni) (i2 : ni ≤ 9223372036854775807) (i3 : -9223372036854775808 ≤ di) (i4 : di ≤ 9223372036854775807) :
    Calls Try.prog 16 #[.agg #[.bool ga, .slice aa na ca, .slice da ma ka, .bool gb, .slice ab nb cb, .slice db mb kb, .int .i64 ni, .int .i64 di]] w fun e w' => e = .returned (.bool true) ∧ Ext w w' := by
  obtain ⟨hz, hzd⟩ := wh_of (neg := ga) hs hl (by omega)
  have hd : Nu w da ma ka (val B32 ea) := ⟨⟨ea, ht, he, rfl⟩, by omega⟩
  obtain ⟨hz', hzd'⟩ := wh_of (neg := gb) hs' hl' (by omega)
  have hd' : Nu w db mb kb (val B32 eb) := ⟨⟨eb, ht', he', rfl⟩, by omega⟩
  generalize wz ga (val B32 la) = z at *
  generalize val B32 ea = D at *
  generalize wz gb (val B32 lb) = z' at *
  generalize val B32 eb = D' at *
  have b1 : dl z.natAbs ≤ 1048576 := by omega
  have b2 : dl D ≤ 1048576 := by have := hd.dl; omega
  have b3 : dl z'.natAbs ≤ 1048576 := by omega
  have b4 : dl D' ≤ 1048576 := by have := hd'.dl; omega
  have x1 : dl (pz z D * (pd D' : Int)).natAbs ≤ 1099511627776 := by have := dz_mul (pz z D) (pd D' : Int); rw [Int.natAbs_natCast] at this; have := pz_len z D; have := pd_len D'; omega
  have x2 : dl (pz z' D' * (pd D : Int)).natAbs ≤ 1099511627776 := by have := dz_mul (pz z' D') (pd D : Int); rw [Int.natAbs_natCast] at this; have := pz_len z' D'; have := pd_len D; omega
  have L1 : Hid (dl (mkz (pz z D * pd D') (pz z' D' * pd D)).natAbs ≤ 1099511627776 ∧ dl (mkd (pz z D * pd D') (pz z' D' * pd D)) ≤ 1099511627776) := hidP ⟨Nat.le_trans (mkz_len _ _) x1, Nat.le_trans (mkd_len _ _) x2⟩
  have w1 := wd_int i1 i2
  have w2 := wd_int i3 i4
  have L2 : Hid (dl (mkz ni di).natAbs ≤ 1099511627776 ∧ dl (mkd ni di) ≤ 1099511627776) := hidP ⟨Nat.le_trans (mkz_len _ _) (by omega), Nat.le_trans (mkd_len _ _) (by omega)⟩
  have L3 : Hid (dl (mkz z z').natAbs ≤ 1099511627776 ∧ dl (mkd z z') ≤ 1099511627776) := hidP ⟨Nat.le_trans (mkz_len _ _) (by omega), Nat.le_trans (mkd_len _ _) (by omega)⟩
  have L4 : Hid (dl ni.natAbs ≤ 1099511627776 ∧ dl 1 ≤ 1099511627776 ∧ dl ni.natAbs ≤ 549755813888 ∧ dl di.natAbs ≤ 549755813888) := hidP ⟨by omega, by rw [dl_one]; omega, by omega, by omega⟩
  have L5 : Hid (dl (rz (pz z D) (pd D)).natAbs ≤ 1099511627776 ∧ dl (rd (pz z D) (pd D)) ≤ 1099511627776) := hidP (by
    have := pz_len z D; have := pd_len D
    exact ⟨Nat.le_trans (dl_mono (Int.natAbs_ediv_le_natAbs _ _)) (by omega), Nat.le_trans (dl_div _ _) (by omega)⟩)
  have A1 := hidP (fun u t1 t2 t3 t4 => f_Div ga gb aa da ab db na ca ma ka nb cb mb kb z z' D D' u t1 t2 t3 t4 (by omega) (by omega) (by omega) (by omega))
  have A2 := hidP (fun u t1 t2 t3 t4 => g_Div ga gb aa da ab db na ca ma ka nb cb mb kb z z' D D' u t1 t2 (by omega) t3 t4 (by omega) (by omega) (by omega) (by omega) (by omega))
  have A3 := hidP (fun u => f_Of ni di u i1 i2 i3 i4)
  have A4 := hidP (fun u b1 a1 n1 c1 b2 a2 n2 c2 (t1 : WhIn u b1 a1 n1 c1 ni) (t2 : WhIn u b2 a2 n2 c2 di) => g_Make b1 b2 a1 a2 n1 c1 n2 c2 ni di u t1 t2)
  have A5 := hidP (fun u t1 t2 => f_Make ga gb aa ab na ca nb cb z z' u t1 t2 (by omega) (by omega))
  have A6 := hidP (fun u t1 t2 => g_Make ga gb aa ab na ca nb cb z z' u t1 t2)
  have A7 := hidP (fun u t1 t2 => f_Reduce ga aa da na ca ma ka z D u t1 t2 (by omega) (by omega))
  have A8 := hidP (fun u t1 t2 => g_Reduce ga aa da na ca ma ka z D u t1 t2)
  have IN := hidP (And.intro (And.intro i1 i2) (And.intro i3 i4))
  generalize mkz (pz z D * pd D') (pz z' D' * pd D) = Z1 at *
  generalize mkd (pz z D * pd D') (pz z' D' * pd D) = D1 at *
  generalize mke (pz z' D' * pd D) = E1 at *
  generalize mkz ni di = Z2 at *
  generalize mkd ni di = D2 at *
  generalize mke di = E2 at *
  generalize mkz z z' = Z3 at *
  generalize mkd z z' = D3 at *
  generalize mke z' = E3 at *
  generalize rz (pz z D) (pd D) = Z5 at *
  generalize rd (pz z D) (pd D) = D5 at *
  have HZ := hidP hz; have HD := hidP hd; have HZ' := hidP hz'; have HD' := hidP hd'
  clear hs hl ht he hs' hl' ht' he' hz hd hz' hd' hzd hzd' b1 b2 b3 b4 x1 x2 w1 w2 hn hm hn' hm' i1 i2 i3 i4
  go_enter Try.func16, Try.ntmps16
  go_upto_region 1 with fail
  refine absW (fun x1 hx1 => ?_)
  have hx : Ext w x1 := by rw [hx1]; exact ((Ext.refl _).alloc _)
  have bp : Bl x1 (w.heap.size) #[.bool ga, .slice aa na ca, .slice da ma ka, .bool gb, .slice ab nb cb, .slice db mb kb, .int .i64 ni, .int .i64 di] := by rw [hx1]; exact (Bl.new (by simp))
  have HE := hx
  clear hx
  clear hx1
  go_cut [3, 4, 5, 6] (fun vr vs vn vd wx => ∃ (gr gs : Nat), vr = .pointer (some ⟨gr, 0, none⟩) ∧ vs = .pointer (some ⟨gs, 0, none⟩) ∧ vn = .int .i64 ni ∧ vd = .int .i64 di ∧ Bl wx gr #[.bool ga, .slice aa na ca, .slice da ma ka] ∧ Bl wx gs #[.bool gb, .slice ab nb cb, .slice db mb kb] ∧ Ext x1 wx)
  case first =>
    have HE0 := hidP HE
    clear HE
    have HE := Ext.refl x1
    have lop := bp.lt (Nat.succ_pos _)
    have hlo : x1.heap.size ≤ x1.heap.size := Nat.le_refl _
    refine wp_region_plan (R := Below x1.heap.size) (.q 0 (.q 1 (.q 2 (.q 3 (.q 4 (.q 5 (.q 6 (.q 7 (.br 8 (.l 9 (.l 10 (.l 11 (.q 12 (.q 13 .done))))) (.l 9 (.l 8 (.l 10 (.l 11 (.q 12 (.q 13 .done))))))))))))))) (by kernel_rfl) (by kernel_rfl) (by kernel_rfl) (by kernel_rfl) (Below.refl _) (fun _ _ _ => Below.trans) ?_
    refine absE (fun x2 hx2 => ?_)
    have hx : Ext x1 x2 := by rw [hx2]; exact (Ext.refl _).drew
    replace hlo := Nat.le_trans hlo hx.size
    replace bp := Bl.ext hx bp (Nat.succ_pos _)
    replace HE := HE.trans hx
    clear hx
    clear hx2
    repeat (refine wpE_q (v := ?_) rfl rfl (fun u hu => ?_) ?_; rotate_left 1; (focus (have kp := Bl.low hu bp lop; go_simp; (try rfl))); simp only [Act.put, List.setIfInBounds_toArray, List.set_cons_zero, List.set_cons_succ])
    refine wpE_br rfl rfl (fun K hK => ?_) ?_
    · go_simp
      refine hK.out _ _ ((Below.refl _ _).alloc hlo _) ?_
      clear hK K
      try simp only [Act.put, List.setIfInBounds_toArray, List.set_cons_zero, List.set_cons_succ]
      have ger := hlo
      have lpr := bp.lt (Nat.succ_pos _)
      have l0r := HE.size
      refine absE (fun x3 hx3 => ?_)
      have hx : Ext x2 x3 := by rw [hx3]; exact ((Ext.refl _).alloc _)
      have br : Bl x3 (x2.heap.size) #[.bool false, .slice none 0 0, .slice none 0 0] := by rw [hx3]; exact (Bl.new (by simp))
      have fr : Fz x3 (x2.heap.size) := by rw [hx3]; exact (Fz.new (by simp))
      replace hlo := Nat.le_trans hlo hx.size
      replace bp := Bl.ext hx bp (Nat.succ_pos _)
      replace HE := HE.trans hx
      clear hx
      clear hx3
      refine wpE_l rfl rfl (fun K hK => ?_)
      go_simp
      refine hK.out _ _ ((Below.refl _ _).alloc hlo _) ?_
      clear hK K
      try simp only [Act.put, List.setIfInBounds_toArray, List.set_cons_zero, List.set_cons_succ]
      have ges := hlo
      have lps := bp.lt (Nat.succ_pos _)
      have lrs := br.lt (Nat.succ_pos _)
      have l0s := HE.size
      refine absE (fun x4 hx4 => ?_)
      have hx : Ext x3 x4 := by rw [hx4]; exact ((Ext.refl _).alloc _)
      have bs : Bl x4 (x3.heap.size) #[.bool false, .slice none 0 0, .slice none 0 0] := by rw [hx4]; exact (Bl.new (by simp))
      have fs : Fz x4 (x3.heap.size) := by rw [hx4]; exact (Fz.new (by simp))
      replace hlo := Nat.le_trans hlo hx.size
      replace bp := Bl.ext hx bp (Nat.succ_pos _)
      replace fr := Fz.ext hx fr br (Nat.succ_pos _)
      replace br := Bl.ext hx br (Nat.succ_pos _)
      replace HE := HE.trans hx
      clear hx
      clear hx4
      refine wpE_l rfl rfl (fun K hK => ?_)
      go_simp
      refine hK.out _ _ ((((Below.refl _ _).setCell (by show x1.heap.size ≤ x2.heap.size; omega) _).setCell (by show x1.heap.size ≤ x2.heap.size; omega) _).setCell (by show x1.heap.size ≤ x2.heap.size; omega) _) ?_
      clear hK K
      try simp only [Act.put, List.setIfInBounds_toArray, List.set_cons_zero, List.set_cons_succ]
      refine absE (fun x5 hx5 => ?_)
      have hbut : But x4 x5 (x2.heap.size) := by rw [hx5]; exact (But.refl _ _).store.store.store
      have hbn : Bl x5 (x2.heap.size) #[.bool ga, .slice aa na ca, .slice da ma ka] := by rw [hx5]; exact (Bl.set (Bl.set (Bl.set br (by simp)) (by simp)) (by simp))
      replace bp := But.bl hbut bp (Nat.succ_pos _) (by omega)
      replace fs := But.fz hbut fs bs (Nat.succ_pos _) (by omega)
      replace bs := But.bl hbut bs (Nat.succ_pos _) (by omega)
      replace fr : Fz x5 (x2.heap.size) := by rw [hx5]; exact (Fz.set (Fz.set (Fz.set fr)))
      replace HE : Ext x1 x5 := by rw [hx5]; exact (((HE.store (by show x1.heap.size ≤ x2.heap.size; omega) _).store (by show x1.heap.size ≤ x2.heap.size; omega) _).store (by show x1.heap.size ≤ x2.heap.size; omega) _)
      replace hlo : x1.heap.size ≤ x5.heap.size := Nat.le_trans hlo hbut.1
      clear br hbut hx5
      have br := hbn
      clear hbn
      refine wpE_l rfl rfl (fun K hK => ?_)
      go_simp
      refine hK.out _ _ ((((Below.refl _ _).setCell (by show x1.heap.size ≤ x3.heap.size; omega) _).setCell (by show x1.heap.size ≤ x3.heap.size; omega) _).setCell (by show x1.heap.size ≤ x3.heap.size; omega) _) ?_
      clear hK K
      try simp only [Act.put, List.setIfInBounds_toArray, List.set_cons_zero, List.set_cons_succ]
      refine absE (fun x6 hx6 => ?_)
      have hbut : But x5 x6 (x3.heap.size) := by rw [hx6]; exact (But.refl _ _).store.store.store
      have hbn : Bl x6 (x3.heap.size) #[.bool gb, .slice ab nb cb, .slice db mb kb] := by rw [hx6]; exact (Bl.set (Bl.set (Bl.set bs (by simp)) (by simp)) (by simp))
      replace bp := But.bl hbut bp (Nat.succ_pos _) (by omega)
      replace fr := But.fz hbut fr br (Nat.succ_pos _) (by omega)
      replace br := But.bl hbut br (Nat.succ_pos _) (by omega)
      replace fs : Fz x6 (x3.heap.size) := by rw [hx6]; exact (Fz.set (Fz.set (Fz.set fs)))
      replace HE : Ext x1 x6 := by rw [hx6]; exact (((HE.store (by show x1.heap.size ≤ x3.heap.size; omega) _).store (by show x1.heap.size ≤ x3.heap.size; omega) _).store (by show x1.heap.size ≤ x3.heap.size; omega) _)
      replace hlo : x1.heap.size ≤ x6.heap.size := Nat.le_trans hlo hbut.1
      clear bs hbut hx6
      have bs := hbn
      clear hbn
      repeat (refine wpE_q (v := ?_) rfl rfl (fun u hu => ?_) ?_; rotate_left 1; (focus (have kp := Bl.low hu bp lop; go_simp; (try rfl))); simp only [Act.put, List.setIfInBounds_toArray, List.set_cons_zero, List.set_cons_succ])
      refine wpE_done ?_
      clear hlo
      go_wp2_with fail
      go_meet
      exact ⟨x2.heap.size, x3.heap.size, rfl, rfl, rfl, rfl, br, bs, HE⟩
    · refine wpE_l rfl rfl (fun K hK => ?_)
      go_simp
      refine hK.out _ _ ((Below.refl _ _).alloc hlo _) ?_
      clear hK K
      try simp only [Act.put, List.setIfInBounds_toArray, List.set_cons_zero, List.set_cons_succ]
      have ges := hlo
      have lps := bp.lt (Nat.succ_pos _)
      have l0s := HE.size
      refine absE (fun x3 hx3 => ?_)
      have hx : Ext x2 x3 := by rw [hx3]; exact ((Ext.refl _).alloc _)
      have bs : Bl x3 (x2.heap.size) #[.bool false, .slice none 0 0, .slice none 0 0] := by rw [hx3]; exact (Bl.new (by simp))
      have fs : Fz x3 (x2.heap.size) := by rw [hx3]; exact (Fz.new (by simp))
      replace hlo := Nat.le_trans hlo hx.size
      replace bp := Bl.ext hx bp (Nat.succ_pos _)
      replace HE := HE.trans hx
      clear hx
      clear hx3
      refine wpE_l rfl rfl (fun K hK => ?_)
      go_simp
      refine hK.out _ _ ((Below.refl _ _).alloc hlo _) ?_
      clear hK K
      try simp only [Act.put, List.setIfInBounds_toArray, List.set_cons_zero, List.set_cons_succ]
      have ger := hlo
      have lpr := bp.lt (Nat.succ_pos _)
      have lsr := bs.lt (Nat.succ_pos _)
      have l0r := HE.size
      refine absE (fun x4 hx4 => ?_)
      have hx : Ext x3 x4 := by rw [hx4]; exact ((Ext.refl _).alloc _)
      have br : Bl x4 (x3.heap.size) #[.bool false, .slice none 0 0, .slice none 0 0] := by rw [hx4]; exact (Bl.new (by simp))
      have fr : Fz x4 (x3.heap.size) := by rw [hx4]; exact (Fz.new (by simp))
      replace hlo := Nat.le_trans hlo hx.size
      replace bp := Bl.ext hx bp (Nat.succ_pos _)
      replace fs := Fz.ext hx fs bs (Nat.succ_pos _)
      replace bs := Bl.ext hx bs (Nat.succ_pos _)
      replace HE := HE.trans hx
      clear hx
      clear hx4
      refine wpE_l rfl rfl (fun K hK => ?_)
      go_simp
      refine hK.out _ _ ((((Below.refl _ _).setCell (by show x1.heap.size ≤ x3.heap.size; omega) _).setCell (by show x1.heap.size ≤ x3.heap.size; omega) _).setCell (by show x1.heap.size ≤ x3.heap.size; omega) _) ?_
      clear hK K
      try simp only [Act.put, List.setIfInBounds_toArray, List.set_cons_zero, List.set_cons_succ]
      refine absE (fun x5 hx5 => ?_)
      have hbut : But x4 x5 (x3.heap.size) := by rw [hx5]; exact (But.refl _ _).store.store.store
      have hbn : Bl x5 (x3.heap.size) #[.bool ga, .slice aa na ca, .slice da ma ka] := by rw [hx5]; exact (Bl.set (Bl.set (Bl.set br (by simp)) (by simp)) (by simp))
      replace bp := But.bl hbut bp (Nat.succ_pos _) (by omega)
      replace fs := But.fz hbut fs bs (Nat.succ_pos _) (by omega)
      replace bs := But.bl hbut bs (Nat.succ_pos _) (by omega)
      replace fr : Fz x5 (x3.heap.size) := by rw [hx5]; exact (Fz.set (Fz.set (Fz.set fr)))
      replace HE : Ext x1 x5 := by rw [hx5]; exact (((HE.store (by show x1.heap.size ≤ x3.heap.size; omega) _).store (by show x1.heap.size ≤ x3.heap.size; omega) _).store (by show x1.heap.size ≤ x3.heap.size; omega) _)
      replace hlo : x1.heap.size ≤ x5.heap.size := Nat.le_trans hlo hbut.1
      clear br hbut hx5
      have br := hbn
      clear hbn
      refine wpE_l rfl rfl (fun K hK => ?_)
      go_simp
      refine hK.out _ _ ((((Below.refl _ _).setCell (by show x1.heap.size ≤ x2.heap.size; omega) _).setCell (by show x1.heap.size ≤ x2.heap.size; omega) _).setCell (by show x1.heap.size ≤ x2.heap.size; omega) _) ?_
      clear hK K
      try simp only [Act.put, List.setIfInBounds_toArray, List.set_cons_zero, List.set_cons_succ]
      refine absE (fun x6 hx6 => ?_)
      have hbut : But x5 x6 (x2.heap.size) := by rw [hx6]; exact (But.refl _ _).store.store.store
      have hbn : Bl x6 (x2.heap.size) #[.bool gb, .slice ab nb cb, .slice db mb kb] := by rw [hx6]; exact (Bl.set (Bl.set (Bl.set bs (by simp)) (by simp)) (by simp))
      replace bp := But.bl hbut bp (Nat.succ_pos _) (by omega)
      replace fr := But.fz hbut fr br (Nat.succ_pos _) (by omega)
      replace br := But.bl hbut br (Nat.succ_pos _) (by omega)
      replace fs : Fz x6 (x2.heap.size) := by rw [hx6]; exact (Fz.set (Fz.set (Fz.set fs)))
      replace HE : Ext x1 x6 := by rw [hx6]; exact (((HE.store (by show x1.heap.size ≤ x2.heap.size; omega) _).store (by show x1.heap.size ≤ x2.heap.size; omega) _).store (by show x1.heap.size ≤ x2.heap.size; omega) _)
      replace hlo : x1.heap.size ≤ x6.heap.size := Nat.le_trans hlo hbut.1
      clear bs hbut hx6
      have bs := hbn
      clear hbn
      repeat (refine wpE_q (v := ?_) rfl rfl (fun u hu => ?_) ?_; rotate_left 1; (focus (have kp := Bl.low hu bp lop; go_simp; (try rfl))); simp only [Act.put, List.setIfInBounds_toArray, List.set_cons_zero, List.set_cons_succ])
      refine wpE_done ?_
      clear hlo
      go_wp2_with fail
      go_meet
      exact ⟨x3.heap.size, x2.heap.size, rfl, rfl, rfl, rfl, br, bs, HE⟩
  case rest =>
    obtain ⟨gr, gs, rfl, rfl, rfl, rfl, br, bs, hx⟩ := hcut
    replace bp := Bl.ext hx bp (Nat.succ_pos _)
    replace HE := HE.trans hx
    clear hx
    go_wp2_with fail
    refine (A1.out _ (HZ.out.ext HE) (HD.out.ext HE) (HZ'.out.ext HE) (HD'.out.ext HE)).mono ?_
    rintro e u1 ⟨a1, n1, c1, d1, m1, k1, rfl, hs1, ht1, hx⟩
    replace bp := Bl.ext hx bp (Nat.succ_pos _)
    replace br := Bl.ext hx br (Nat.succ_pos _)
    replace bs := Bl.ext hx bs (Nat.succ_pos _)
    replace HE := HE.trans hx
    clear hx
    replace hs1 : Nc u1 a1 n1 c1 (Z1).natAbs := hs1
    replace ht1 : Nc u1 d1 m1 k1 (D1) := ht1
    go_upto_region 3 with fail
    have lp1 := bp.lt (Nat.succ_pos _)
    have lr1 := br.lt (Nat.succ_pos _)
    have ls1 := bs.lt (Nat.succ_pos _)
    refine absW (fun x2 hx2 => ?_)
    have hx : Ext u1 x2 := by rw [hx2]; exact ((Ext.refl _).alloc _)
    have bt : Bl x2 (u1.heap.size) #[.bool (decide (Z1 < 0)), .slice a1 n1 c1, .slice d1 m1 k1] := by rw [hx2]; exact (Bl.new (by simp))
    replace bp := Bl.ext hx bp (Nat.succ_pos _)
    replace br := Bl.ext hx br (Nat.succ_pos _)
    replace bs := Bl.ext hx bs (Nat.succ_pos _)
    replace hs1 := hs1.ext hx
    replace ht1 := ht1.ext hx
    replace HE := HE.trans hx
    clear hx
    clear hx2
    go_wp2_with fail
    refine (A2.out _ (HZ.out.ext HE) (HD.out.ext HE) (HZ'.out.ext HE) (HD'.out.ext HE)).mono ?_
    rintro e u2 ⟨a2, n2, c2, d2, m2, k2, rfl, hs2, ht2, hx⟩
    replace bp := Bl.ext hx bp (Nat.succ_pos _)
    replace br := Bl.ext hx br (Nat.succ_pos _)
    replace bs := Bl.ext hx bs (Nat.succ_pos _)
    replace bt := Bl.ext hx bt (Nat.succ_pos _)
    replace hs1 := hs1.ext hx
    replace ht1 := ht1.ext hx
    replace HE := HE.trans hx
    clear hx
    replace hs2 : Nc u2 a2 n2 c2 (Z1).natAbs := hs2
    replace ht2 : Nc u2 d2 m2 k2 (D1) := ht2
    go_upto_region 4 with fail
    have lp2 := bp.lt (Nat.succ_pos _)
    have lr2 := br.lt (Nat.succ_pos _)
    have ls2 := bs.lt (Nat.succ_pos _)
    have lt2 := bt.lt (Nat.succ_pos _)
    refine absW (fun x3 hx3 => ?_)
    have hx : Ext u2 x3 := by rw [hx3]; exact ((Ext.refl _).alloc _)
    have bu : Bl x3 (u2.heap.size) #[.bool (decide (Z1 < 0)), .slice a2 n2 c2, .slice d2 m2 k2] := by rw [hx3]; exact (Bl.new (by simp))
    replace bp := Bl.ext hx bp (Nat.succ_pos _)
    replace br := Bl.ext hx br (Nat.succ_pos _)
    replace bs := Bl.ext hx bs (Nat.succ_pos _)
    replace bt := Bl.ext hx bt (Nat.succ_pos _)
    replace hs1 := hs1.ext hx
    replace ht1 := ht1.ext hx
    replace hs2 := hs2.ext hx
    replace ht2 := ht2.ext hx
    replace HE := HE.trans hx
    clear hx
    clear hx3
    go_wp2_with fail
    refine (A3.out _).mono ?_
    rintro e u3 ⟨a3, n3, c3, d3, m3, k3, rfl, hs3, ht3, hx⟩
    replace bp := Bl.ext hx bp (Nat.succ_pos _)
    replace br := Bl.ext hx br (Nat.succ_pos _)
    replace bs := Bl.ext hx bs (Nat.succ_pos _)
    replace bt := Bl.ext hx bt (Nat.succ_pos _)
    replace bu := Bl.ext hx bu (Nat.succ_pos _)
    replace hs1 := hs1.ext hx
    replace ht1 := ht1.ext hx
    replace hs2 := hs2.ext hx
    replace ht2 := ht2.ext hx
    replace HE := HE.trans hx
    clear hx
    replace hs3 : Nc u3 a3 n3 c3 (Z2).natAbs := hs3
    replace ht3 : Nc u3 d3 m3 k3 (D2) := ht3
    go_upto_region 5 with fail
    have lp3 := bp.lt (Nat.succ_pos _)
    have lr3 := br.lt (Nat.succ_pos _)
    have ls3 := bs.lt (Nat.succ_pos _)
    have lt3 := bt.lt (Nat.succ_pos _)
    have lu3 := bu.lt (Nat.succ_pos _)
    refine absW (fun x4 hx4 => ?_)
    have hx : Ext u3 x4 := by rw [hx4]; exact ((Ext.refl _).alloc _)
    have bv : Bl x4 (u3.heap.size) #[.bool (decide (Z2 < 0)), .slice a3 n3 c3, .slice d3 m3 k3] := by rw [hx4]; exact (Bl.new (by simp))
    replace bp := Bl.ext hx bp (Nat.succ_pos _)
    replace br := Bl.ext hx br (Nat.succ_pos _)
    replace bs := Bl.ext hx bs (Nat.succ_pos _)
    replace bt := Bl.ext hx bt (Nat.succ_pos _)
    replace bu := Bl.ext hx bu (Nat.succ_pos _)
    replace hs1 := hs1.ext hx
    replace ht1 := ht1.ext hx
    replace hs2 := hs2.ext hx
    replace ht2 := ht2.ext hx
    replace hs3 := hs3.ext hx
    replace ht3 := ht3.ext hx
    replace HE := HE.trans hx
    clear hx
    clear hx4
    go_wp2_with fail
    refine (r02_Of_any ni _ IN.out.1.1 IN.out.1.2).mono ?_
    rintro e uo1 ⟨ao1, no1, co1, rfl, hso1, hx⟩
    replace bp := Bl.ext hx bp (Nat.succ_pos _)
    replace br := Bl.ext hx br (Nat.succ_pos _)
    replace bs := Bl.ext hx bs (Nat.succ_pos _)
    replace bt := Bl.ext hx bt (Nat.succ_pos _)
    replace bu := Bl.ext hx bu (Nat.succ_pos _)
    replace bv := Bl.ext hx bv (Nat.succ_pos _)
    replace hs1 := hs1.ext hx
    replace ht1 := ht1.ext hx
    replace hs2 := hs2.ext hx
    replace ht2 := ht2.ext hx
    replace hs3 := hs3.ext hx
    replace ht3 := ht3.ext hx
    replace HE := HE.trans hx
    clear hx
    replace hso1 : Nc uo1 ao1 no1 co1 (ni).natAbs := hso1
    go_wp2_with fail
    refine (r02_Of_any di _ IN.out.2.1 IN.out.2.2).mono ?_
    rintro e uo2 ⟨ao2, no2, co2, rfl, hso2, hx⟩
    replace bp := Bl.ext hx bp (Nat.succ_pos _)
    replace br := Bl.ext hx br (Nat.succ_pos _)
    replace bs := Bl.ext hx bs (Nat.succ_pos _)
    replace bt := Bl.ext hx bt (Nat.succ_pos _)
    replace bu := Bl.ext hx bu (Nat.succ_pos _)
    replace bv := Bl.ext hx bv (Nat.succ_pos _)
    replace hs1 := hs1.ext hx
    replace ht1 := ht1.ext hx
    replace hs2 := hs2.ext hx
    replace ht2 := ht2.ext hx
    replace hs3 := hs3.ext hx
    replace ht3 := ht3.ext hx
    replace hso1 := hso1.ext hx
    replace HE := HE.trans hx
    clear hx
    replace hso2 : Nc uo2 ao2 no2 co2 (di).natAbs := hso2
    go_wp2_with fail
    refine (A4.out _ _ _ _ _ _ _ _ _ (hso1.wh L4.out.2.2.1) (hso2.wh L4.out.2.2.2)).mono ?_
    rintro e u4 ⟨a4, n4, c4, d4, m4, k4, rfl, hs4, ht4, hx⟩
    replace bp := Bl.ext hx bp (Nat.succ_pos _)
    replace br := Bl.ext hx br (Nat.succ_pos _)
    replace bs := Bl.ext hx bs (Nat.succ_pos _)
    replace bt := Bl.ext hx bt (Nat.succ_pos _)
    replace bu := Bl.ext hx bu (Nat.succ_pos _)
    replace bv := Bl.ext hx bv (Nat.succ_pos _)
    replace hs1 := hs1.ext hx
    replace ht1 := ht1.ext hx
    replace hs2 := hs2.ext hx
    replace ht2 := ht2.ext hx
    replace hs3 := hs3.ext hx
    replace ht3 := ht3.ext hx
    replace hso1 := hso1.ext hx
    replace hso2 := hso2.ext hx
    replace HE := HE.trans hx
    clear hx
    replace hs4 : Nc u4 a4 n4 c4 (Z2).natAbs := hs4
    replace ht4 : Nc u4 d4 m4 k4 (D2) := ht4
    go_upto_region 6 with fail
    have lp4 := bp.lt (Nat.succ_pos _)
    have lr4 := br.lt (Nat.succ_pos _)
    have ls4 := bs.lt (Nat.succ_pos _)
    have lt4 := bt.lt (Nat.succ_pos _)
    have lu4 := bu.lt (Nat.succ_pos _)
    have lv4 := bv.lt (Nat.succ_pos _)
    refine absW (fun x5 hx5 => ?_)
    have hx : Ext u4 x5 := by rw [hx5]; exact ((Ext.refl _).alloc _)
    have bx : Bl x5 (u4.heap.size) #[.bool (decide (Z2 < 0)), .slice a4 n4 c4, .slice d4 m4 k4] := by rw [hx5]; exact (Bl.new (by simp))
    replace bp := Bl.ext hx bp (Nat.succ_pos _)
    replace br := Bl.ext hx br (Nat.succ_pos _)
    replace bs := Bl.ext hx bs (Nat.succ_pos _)
    replace bt := Bl.ext hx bt (Nat.succ_pos _)
    replace bu := Bl.ext hx bu (Nat.succ_pos _)
    replace bv := Bl.ext hx bv (Nat.succ_pos _)
    replace hs1 := hs1.ext hx
    replace ht1 := ht1.ext hx
    replace hs2 := hs2.ext hx
    replace ht2 := ht2.ext hx
    replace hs3 := hs3.ext hx
    replace ht3 := ht3.ext hx
    replace hso1 := hso1.ext hx
    replace hso2 := hso2.ext hx
    replace hs4 := hs4.ext hx
    replace ht4 := ht4.ext hx
    replace HE := HE.trans hx
    clear hx
    clear hx5
    clear hso1 hso2
    go_wp2_with fail
    refine (A5.out _ (HZ.out.ext HE) (HZ'.out.ext HE)).mono ?_
    rintro e u5 ⟨a5, n5, c5, d5, m5, k5, rfl, hs5, ht5, hx⟩
    replace bp := Bl.ext hx bp (Nat.succ_pos _)
    replace br := Bl.ext hx br (Nat.succ_pos _)
    replace bs := Bl.ext hx bs (Nat.succ_pos _)
    replace bt := Bl.ext hx bt (Nat.succ_pos _)
    replace bu := Bl.ext hx bu (Nat.succ_pos _)
    replace bv := Bl.ext hx bv (Nat.succ_pos _)
    replace bx := Bl.ext hx bx (Nat.succ_pos _)
    replace hs1 := hs1.ext hx
    replace ht1 := ht1.ext hx
    replace hs2 := hs2.ext hx
    replace ht2 := ht2.ext hx
    replace hs3 := hs3.ext hx
    replace ht3 := ht3.ext hx
    replace hs4 := hs4.ext hx
    replace ht4 := ht4.ext hx
    replace HE := HE.trans hx
    clear hx
    replace hs5 : Nc u5 a5 n5 c5 (Z3).natAbs := hs5
    replace ht5 : Nc u5 d5 m5 k5 (D3) := ht5
    go_upto_region 7 with fail
    have lp5 := bp.lt (Nat.succ_pos _)
    have lr5 := br.lt (Nat.succ_pos _)
    have ls5 := bs.lt (Nat.succ_pos _)
    have lt5 := bt.lt (Nat.succ_pos _)
    have lu5 := bu.lt (Nat.succ_pos _)
    have lv5 := bv.lt (Nat.succ_pos _)
    have lx5 := bx.lt (Nat.succ_pos _)
    refine absW (fun x6 hx6 => ?_)
    have hx : Ext u5 x6 := by rw [hx6]; exact ((Ext.refl _).alloc _)
    have bg : Bl x6 (u5.heap.size) #[.bool (decide (Z3 < 0)), .slice a5 n5 c5, .slice d5 m5 k5] := by rw [hx6]; exact (Bl.new (by simp))
    replace bp := Bl.ext hx bp (Nat.succ_pos _)
    replace br := Bl.ext hx br (Nat.succ_pos _)
    replace bs := Bl.ext hx bs (Nat.succ_pos _)
    replace bt := Bl.ext hx bt (Nat.succ_pos _)
    replace bu := Bl.ext hx bu (Nat.succ_pos _)
    replace bv := Bl.ext hx bv (Nat.succ_pos _)
    replace bx := Bl.ext hx bx (Nat.succ_pos _)
    replace hs1 := hs1.ext hx
    replace ht1 := ht1.ext hx
    replace hs2 := hs2.ext hx
    replace ht2 := ht2.ext hx
    replace hs3 := hs3.ext hx
    replace ht3 := ht3.ext hx
    replace hs4 := hs4.ext hx
    replace ht4 := ht4.ext hx
    replace hs5 := hs5.ext hx
    replace ht5 := ht5.ext hx
    replace HE := HE.trans hx
    clear hx
    clear hx6
    go_wp2_with fail
    refine (A6.out _ (HZ.out.ext HE) (HZ'.out.ext HE)).mono ?_
    rintro e u6 ⟨a6, n6, c6, d6, m6, k6, rfl, hs6, ht6, hx⟩
    replace bp := Bl.ext hx bp (Nat.succ_pos _)
    replace br := Bl.ext hx br (Nat.succ_pos _)
    replace bs := Bl.ext hx bs (Nat.succ_pos _)
    replace bt := Bl.ext hx bt (Nat.succ_pos _)
    replace bu := Bl.ext hx bu (Nat.succ_pos _)
    replace bv := Bl.ext hx bv (Nat.succ_pos _)
    replace bx := Bl.ext hx bx (Nat.succ_pos _)
    replace bg := Bl.ext hx bg (Nat.succ_pos _)
    replace hs1 := hs1.ext hx
    replace ht1 := ht1.ext hx
    replace hs2 := hs2.ext hx
    replace ht2 := ht2.ext hx
    replace hs3 := hs3.ext hx
    replace ht3 := ht3.ext hx
    replace hs4 := hs4.ext hx
    replace ht4 := ht4.ext hx
    replace hs5 := hs5.ext hx
    replace ht5 := ht5.ext hx
    replace HE := HE.trans hx
    clear hx
    replace hs6 : Nc u6 a6 n6 c6 (Z3).natAbs := hs6
    replace ht6 : Nc u6 d6 m6 k6 (D3) := ht6
    go_upto_region 8 with fail
    have lp6 := bp.lt (Nat.succ_pos _)
    have lr6 := br.lt (Nat.succ_pos _)
    have ls6 := bs.lt (Nat.succ_pos _)
    have lt6 := bt.lt (Nat.succ_pos _)
    have lu6 := bu.lt (Nat.succ_pos _)
    have lv6 := bv.lt (Nat.succ_pos _)
    have lx6 := bx.lt (Nat.succ_pos _)
    have lg6 := bg.lt (Nat.succ_pos _)
    refine absW (fun x7 hx7 => ?_)
    have hx : Ext u6 x7 := by rw [hx7]; exact ((Ext.refl _).alloc _)
    have bh : Bl x7 (u6.heap.size) #[.bool (decide (Z3 < 0)), .slice a6 n6 c6, .slice d6 m6 k6] := by rw [hx7]; exact (Bl.new (by simp))
    replace bp := Bl.ext hx bp (Nat.succ_pos _)
    replace br := Bl.ext hx br (Nat.succ_pos _)
    replace bs := Bl.ext hx bs (Nat.succ_pos _)
    replace bt := Bl.ext hx bt (Nat.succ_pos _)
    replace bu := Bl.ext hx bu (Nat.succ_pos _)
    replace bv := Bl.ext hx bv (Nat.succ_pos _)
    replace bx := Bl.ext hx bx (Nat.succ_pos _)
    replace bg := Bl.ext hx bg (Nat.succ_pos _)
    replace hs1 := hs1.ext hx
    replace ht1 := ht1.ext hx
    replace hs2 := hs2.ext hx
    replace ht2 := ht2.ext hx
    replace hs3 := hs3.ext hx
    replace ht3 := ht3.ext hx
    replace hs4 := hs4.ext hx
    replace ht4 := ht4.ext hx
    replace hs5 := hs5.ext hx
    replace ht5 := ht5.ext hx
    replace hs6 := hs6.ext hx
    replace ht6 := ht6.ext hx
    replace HE := HE.trans hx
    clear hx
    clear hx7
    refine wp_region_plan (R := Ext) (.q 0 (.q 1 (.l 2 (.q 3 (.q 4 (.q 5 (.q 6 (.q 7 (.q 8 (.q 9 (.q 10 (.l 11 (.q 12 (.q 13 (.q 14 (.q 15 (.q 16 (.q 17 (.q 18 (.q 19 (.q 20 (.l 21 (.q 22 (.q 23 (.q 24 (.q 25 (.q 26 (.q 27 (.q 28 (.q 29 (.q 31 (.l 30 (.l 32 (.l 33 (.q 34 (.q 35 (.q 36 (.q 38 (.l 37 (.l 39 (.l 40 (.q 41 (.q 42 (.l 43 (.q 44 (.q 45 .done)))))))))))))))))))))))))))))))))))))))))))))) (by kernel_rfl) (by kernel_rfl) (by kernel_rfl) (by kernel_rfl) Ext.refl (fun _ _ _ => Ext.trans) ?_
    refine absE (fun x8 hx8 => ?_)
    have hx : Ext x7 x8 := by rw [hx8]; exact (Ext.refl _).drew
    replace bp := Bl.ext hx bp (Nat.succ_pos _)
    replace br := Bl.ext hx br (Nat.succ_pos _)
    replace bs := Bl.ext hx bs (Nat.succ_pos _)
    replace bt := Bl.ext hx bt (Nat.succ_pos _)
    replace bu := Bl.ext hx bu (Nat.succ_pos _)
    replace bv := Bl.ext hx bv (Nat.succ_pos _)
    replace bx := Bl.ext hx bx (Nat.succ_pos _)
    replace bg := Bl.ext hx bg (Nat.succ_pos _)
    replace bh := Bl.ext hx bh (Nat.succ_pos _)
    replace hs1 := hs1.ext hx
    replace ht1 := ht1.ext hx
    replace hs2 := hs2.ext hx
    replace ht2 := ht2.ext hx
    replace hs3 := hs3.ext hx
    replace ht3 := ht3.ext hx
    replace hs4 := hs4.ext hx
    replace ht4 := ht4.ext hx
    replace hs5 := hs5.ext hx
    replace ht5 := ht5.ext hx
    replace hs6 := hs6.ext hx
    replace ht6 := ht6.ext hx
    replace HE := HE.trans hx
    clear hx
    clear hx8
    repeat (refine wpE_q (v := ?_) rfl rfl (fun u hu => ?_) ?_; rotate_left 1; (focus (have kp := Bl.ext hu bp (Nat.succ_pos _); have kr := Bl.ext hu br (Nat.succ_pos _); have ks := Bl.ext hu bs (Nat.succ_pos _); have kt := Bl.ext hu bt (Nat.succ_pos _); have ku := Bl.ext hu bu (Nat.succ_pos _); have kv := Bl.ext hu bv (Nat.succ_pos _); have kx := Bl.ext hu bx (Nat.succ_pos _); have kg := Bl.ext hu bg (Nat.succ_pos _); have kh := Bl.ext hu bh (Nat.succ_pos _); go_simp; (try rfl))); simp only [Act.put, List.setIfInBounds_toArray, List.set_cons_zero, List.set_cons_succ])
    refine wpE_l rfl rfl (fun K hK => ?_)
    go_simp
    refine (g_Same hs1 hs2 ht1 ht2 L1.out.1 L1.out.2).mono ?_
    rintro e us1 ⟨rfl, hx⟩
    refine hK.out _ _ hx ?_
    clear hK K
    try simp only [Act.put, List.setIfInBounds_toArray, List.set_cons_zero, List.set_cons_succ]
    replace bp := Bl.ext hx bp (Nat.succ_pos _)
    replace br := Bl.ext hx br (Nat.succ_pos _)
    replace bs := Bl.ext hx bs (Nat.succ_pos _)
    replace bt := Bl.ext hx bt (Nat.succ_pos _)
    replace bu := Bl.ext hx bu (Nat.succ_pos _)
    replace bv := Bl.ext hx bv (Nat.succ_pos _)
    replace bx := Bl.ext hx bx (Nat.succ_pos _)
    replace bg := Bl.ext hx bg (Nat.succ_pos _)
    replace bh := Bl.ext hx bh (Nat.succ_pos _)
    replace hs1 := hs1.ext hx
    replace ht1 := ht1.ext hx
    replace hs2 := hs2.ext hx
    replace ht2 := ht2.ext hx
    replace hs3 := hs3.ext hx
    replace ht3 := ht3.ext hx
    replace hs4 := hs4.ext hx
    replace ht4 := ht4.ext hx
    replace hs5 := hs5.ext hx
    replace ht5 := ht5.ext hx
    replace hs6 := hs6.ext hx
    replace ht6 := ht6.ext hx
    replace HE := HE.trans hx
    clear hx
    repeat (refine wpE_q (v := ?_) rfl rfl (fun u hu => ?_) ?_; rotate_left 1; (focus (have kp := Bl.ext hu bp (Nat.succ_pos _); have kr := Bl.ext hu br (Nat.succ_pos _); have ks := Bl.ext hu bs (Nat.succ_pos _); have kt := Bl.ext hu bt (Nat.succ_pos _); have ku := Bl.ext hu bu (Nat.succ_pos _); have kv := Bl.ext hu bv (Nat.succ_pos _); have kx := Bl.ext hu bx (Nat.succ_pos _); have kg := Bl.ext hu bg (Nat.succ_pos _); have kh := Bl.ext hu bh (Nat.succ_pos _); go_simp; (try rfl))); simp only [Act.put, List.setIfInBounds_toArray, List.set_cons_zero, List.set_cons_succ])
    refine wpE_l rfl rfl (fun K hK => ?_)
    go_simp
    refine (g_Same hs3 hs4 ht3 ht4 L2.out.1 L2.out.2).mono ?_
    rintro e us3 ⟨rfl, hx⟩
    refine hK.out _ _ hx ?_
    clear hK K
    try simp only [Act.put, List.setIfInBounds_toArray, List.set_cons_zero, List.set_cons_succ]
    replace bp := Bl.ext hx bp (Nat.succ_pos _)
    replace br := Bl.ext hx br (Nat.succ_pos _)
    replace bs := Bl.ext hx bs (Nat.succ_pos _)
    replace bt := Bl.ext hx bt (Nat.succ_pos _)
    replace bu := Bl.ext hx bu (Nat.succ_pos _)
    replace bv := Bl.ext hx bv (Nat.succ_pos _)
    replace bx := Bl.ext hx bx (Nat.succ_pos _)
    replace bg := Bl.ext hx bg (Nat.succ_pos _)
    replace bh := Bl.ext hx bh (Nat.succ_pos _)
    replace hs1 := hs1.ext hx
    replace ht1 := ht1.ext hx
    replace hs2 := hs2.ext hx
    replace ht2 := ht2.ext hx
    replace hs3 := hs3.ext hx
    replace ht3 := ht3.ext hx
    replace hs4 := hs4.ext hx
    replace ht4 := ht4.ext hx
    replace hs5 := hs5.ext hx
    replace ht5 := ht5.ext hx
    replace hs6 := hs6.ext hx
    replace ht6 := ht6.ext hx
    replace HE := HE.trans hx
    clear hx
    repeat (refine wpE_q (v := ?_) rfl rfl (fun u hu => ?_) ?_; rotate_left 1; (focus (have kp := Bl.ext hu bp (Nat.succ_pos _); have kr := Bl.ext hu br (Nat.succ_pos _); have ks := Bl.ext hu bs (Nat.succ_pos _); have kt := Bl.ext hu bt (Nat.succ_pos _); have ku := Bl.ext hu bu (Nat.succ_pos _); have kv := Bl.ext hu bv (Nat.succ_pos _); have kx := Bl.ext hu bx (Nat.succ_pos _); have kg := Bl.ext hu bg (Nat.succ_pos _); have kh := Bl.ext hu bh (Nat.succ_pos _); go_simp; (try rfl))); simp only [Act.put, List.setIfInBounds_toArray, List.set_cons_zero, List.set_cons_succ])
    refine wpE_l rfl rfl (fun K hK => ?_)
    go_simp
    refine (g_Same hs5 hs6 ht5 ht6 L3.out.1 L3.out.2).mono ?_
    rintro e us5 ⟨rfl, hx⟩
    refine hK.out _ _ hx ?_
    clear hK K
    try simp only [Act.put, List.setIfInBounds_toArray, List.set_cons_zero, List.set_cons_succ]
    replace bp := Bl.ext hx bp (Nat.succ_pos _)
    replace br := Bl.ext hx br (Nat.succ_pos _)
    replace bs := Bl.ext hx bs (Nat.succ_pos _)
    replace bt := Bl.ext hx bt (Nat.succ_pos _)
    replace bu := Bl.ext hx bu (Nat.succ_pos _)
    replace bv := Bl.ext hx bv (Nat.succ_pos _)
    replace bx := Bl.ext hx bx (Nat.succ_pos _)
    replace bg := Bl.ext hx bg (Nat.succ_pos _)
    replace bh := Bl.ext hx bh (Nat.succ_pos _)
    replace hs1 := hs1.ext hx
    replace ht1 := ht1.ext hx
    replace hs2 := hs2.ext hx
    replace ht2 := ht2.ext hx
    replace hs3 := hs3.ext hx
    replace ht3 := ht3.ext hx
    replace hs4 := hs4.ext hx
    replace ht4 := ht4.ext hx
    replace hs5 := hs5.ext hx
    replace ht5 := ht5.ext hx
    replace hs6 := hs6.ext hx
    replace ht6 := ht6.ext hx
    replace HE := HE.trans hx
    clear hx
    repeat (refine wpE_q (v := ?_) rfl rfl (fun u hu => ?_) ?_; rotate_left 1; (focus (have kp := Bl.ext hu bp (Nat.succ_pos _); have kr := Bl.ext hu br (Nat.succ_pos _); have ks := Bl.ext hu bs (Nat.succ_pos _); have kt := Bl.ext hu bt (Nat.succ_pos _); have ku := Bl.ext hu bu (Nat.succ_pos _); have kv := Bl.ext hu bv (Nat.succ_pos _); have kx := Bl.ext hu bx (Nat.succ_pos _); have kg := Bl.ext hu bg (Nat.succ_pos _); have kh := Bl.ext hu bh (Nat.succ_pos _); go_simp; (try rfl))); simp only [Act.put, List.setIfInBounds_toArray, List.set_cons_zero, List.set_cons_succ])
    refine wpE_l rfl rfl (fun K hK => ?_)
    go_simp
    refine (f_Int ni _ IN.out.1.1 IN.out.1.2).mono ?_
    rintro e u7 ⟨a7, n7, c7, d7, m7, k7, rfl, hs7, ht7, hx⟩
    refine hK.out _ _ hx ?_
    clear hK K
    try simp only [Act.put, List.setIfInBounds_toArray, List.set_cons_zero, List.set_cons_succ]
    replace bp := Bl.ext hx bp (Nat.succ_pos _)
    replace br := Bl.ext hx br (Nat.succ_pos _)
    replace bs := Bl.ext hx bs (Nat.succ_pos _)
    replace bt := Bl.ext hx bt (Nat.succ_pos _)
    replace bu := Bl.ext hx bu (Nat.succ_pos _)
    replace bv := Bl.ext hx bv (Nat.succ_pos _)
    replace bx := Bl.ext hx bx (Nat.succ_pos _)
    replace bg := Bl.ext hx bg (Nat.succ_pos _)
    replace bh := Bl.ext hx bh (Nat.succ_pos _)
    replace hs1 := hs1.ext hx
    replace ht1 := ht1.ext hx
    replace hs2 := hs2.ext hx
    replace ht2 := ht2.ext hx
    replace hs3 := hs3.ext hx
    replace ht3 := ht3.ext hx
    replace hs4 := hs4.ext hx
    replace ht4 := ht4.ext hx
    replace hs5 := hs5.ext hx
    replace ht5 := ht5.ext hx
    replace hs6 := hs6.ext hx
    replace ht6 := ht6.ext hx
    replace HE := HE.trans hx
    clear hx
    replace hs7 : Nc u7 a7 n7 c7 (ni).natAbs := hs7
    replace ht7 : Nc u7 d7 m7 k7 (1) := ht7
    refine wpE_l rfl rfl (fun K hK => ?_)
    go_simp
    refine (g_Int ni _ IN.out.1.1 IN.out.1.2).mono ?_
    rintro e u8 ⟨a8, n8, c8, d8, m8, k8, rfl, hs8, ht8, hx⟩
    refine hK.out _ _ hx ?_
    clear hK K
    try simp only [Act.put, List.setIfInBounds_toArray, List.set_cons_zero, List.set_cons_succ]
    replace bp := Bl.ext hx bp (Nat.succ_pos _)
    replace br := Bl.ext hx br (Nat.succ_pos _)
    replace bs := Bl.ext hx bs (Nat.succ_pos _)
    replace bt := Bl.ext hx bt (Nat.succ_pos _)
    replace bu := Bl.ext hx bu (Nat.succ_pos _)
    replace bv := Bl.ext hx bv (Nat.succ_pos _)
    replace bx := Bl.ext hx bx (Nat.succ_pos _)
    replace bg := Bl.ext hx bg (Nat.succ_pos _)
    replace bh := Bl.ext hx bh (Nat.succ_pos _)
    replace hs1 := hs1.ext hx
    replace ht1 := ht1.ext hx
    replace hs2 := hs2.ext hx
    replace ht2 := ht2.ext hx
    replace hs3 := hs3.ext hx
    replace ht3 := ht3.ext hx
    replace hs4 := hs4.ext hx
    replace ht4 := ht4.ext hx
    replace hs5 := hs5.ext hx
    replace ht5 := ht5.ext hx
    replace hs6 := hs6.ext hx
    replace ht6 := ht6.ext hx
    replace hs7 := hs7.ext hx
    replace ht7 := ht7.ext hx
    replace HE := HE.trans hx
    clear hx
    replace hs8 : Nc u8 a8 n8 c8 (ni).natAbs := hs8
    replace ht8 : Nc u8 d8 m8 k8 (1) := ht8
    refine wpE_l rfl rfl (fun K hK => ?_)
    go_simp
    refine (g_Same hs7 hs8 ht7 ht8 L4.out.1 L4.out.2.1).mono ?_
    rintro e us7 ⟨rfl, hx⟩
    refine hK.out _ _ hx ?_
    clear hK K
    try simp only [Act.put, List.setIfInBounds_toArray, List.set_cons_zero, List.set_cons_succ]
    replace bp := Bl.ext hx bp (Nat.succ_pos _)
    replace br := Bl.ext hx br (Nat.succ_pos _)
    replace bs := Bl.ext hx bs (Nat.succ_pos _)
    replace bt := Bl.ext hx bt (Nat.succ_pos _)
    replace bu := Bl.ext hx bu (Nat.succ_pos _)
    replace bv := Bl.ext hx bv (Nat.succ_pos _)
    replace bx := Bl.ext hx bx (Nat.succ_pos _)
    replace bg := Bl.ext hx bg (Nat.succ_pos _)
    replace bh := Bl.ext hx bh (Nat.succ_pos _)
    replace hs1 := hs1.ext hx
    replace ht1 := ht1.ext hx
    replace hs2 := hs2.ext hx
    replace ht2 := ht2.ext hx
    replace hs3 := hs3.ext hx
    replace ht3 := ht3.ext hx
    replace hs4 := hs4.ext hx
    replace ht4 := ht4.ext hx
    replace hs5 := hs5.ext hx
    replace ht5 := ht5.ext hx
    replace hs6 := hs6.ext hx
    replace ht6 := ht6.ext hx
    replace hs7 := hs7.ext hx
    replace ht7 := ht7.ext hx
    replace hs8 := hs8.ext hx
    replace ht8 := ht8.ext hx
    replace HE := HE.trans hx
    clear hx
    repeat (refine wpE_q (v := ?_) rfl rfl (fun u hu => ?_) ?_; rotate_left 1; (focus (have kp := Bl.ext hu bp (Nat.succ_pos _); have kr := Bl.ext hu br (Nat.succ_pos _); have ks := Bl.ext hu bs (Nat.succ_pos _); have kt := Bl.ext hu bt (Nat.succ_pos _); have ku := Bl.ext hu bu (Nat.succ_pos _); have kv := Bl.ext hu bv (Nat.succ_pos _); have kx := Bl.ext hu bx (Nat.succ_pos _); have kg := Bl.ext hu bg (Nat.succ_pos _); have kh := Bl.ext hu bh (Nat.succ_pos _); go_simp; (try rfl))); simp only [Act.put, List.setIfInBounds_toArray, List.set_cons_zero, List.set_cons_succ])
    refine wpE_l rfl rfl (fun K hK => ?_)
    go_simp
    refine (A7.out _ (HZ.out.ext HE) (HD.out.ext HE)).mono ?_
    rintro e u9 ⟨a9, n9, c9, d9, m9, k9, rfl, hs9, ht9, hx⟩
    refine hK.out _ _ hx ?_
    clear hK K
    try simp only [Act.put, List.setIfInBounds_toArray, List.set_cons_zero, List.set_cons_succ]
    replace bp := Bl.ext hx bp (Nat.succ_pos _)
    replace br := Bl.ext hx br (Nat.succ_pos _)
    replace bs := Bl.ext hx bs (Nat.succ_pos _)
    replace bt := Bl.ext hx bt (Nat.succ_pos _)
    replace bu := Bl.ext hx bu (Nat.succ_pos _)
    replace bv := Bl.ext hx bv (Nat.succ_pos _)
    replace bx := Bl.ext hx bx (Nat.succ_pos _)
    replace bg := Bl.ext hx bg (Nat.succ_pos _)
    replace bh := Bl.ext hx bh (Nat.succ_pos _)
    replace hs1 := hs1.ext hx
    replace ht1 := ht1.ext hx
    replace hs2 := hs2.ext hx
    replace ht2 := ht2.ext hx
    replace hs3 := hs3.ext hx
    replace ht3 := ht3.ext hx
    replace hs4 := hs4.ext hx
    replace ht4 := ht4.ext hx
    replace hs5 := hs5.ext hx
    replace ht5 := ht5.ext hx
    replace hs6 := hs6.ext hx
    replace ht6 := ht6.ext hx
    replace hs7 := hs7.ext hx
    replace ht7 := ht7.ext hx
    replace hs8 := hs8.ext hx
    replace ht8 := ht8.ext hx
    replace HE := HE.trans hx
    clear hx
    replace hs9 : Nc u9 a9 n9 c9 (Z5).natAbs := hs9
    replace ht9 : Nc u9 d9 m9 k9 (D5) := ht9
    refine wpE_l rfl rfl (fun K hK => ?_)
    go_simp
    refine (A8.out _ (HZ.out.ext HE) (HD.out.ext HE)).mono ?_
    rintro e u10 ⟨a10, n10, c10, d10, m10, k10, rfl, hs10, ht10, hx⟩
    refine hK.out _ _ hx ?_
    clear hK K
    try simp only [Act.put, List.setIfInBounds_toArray, List.set_cons_zero, List.set_cons_succ]
    replace bp := Bl.ext hx bp (Nat.succ_pos _)
    replace br := Bl.ext hx br (Nat.succ_pos _)
    replace bs := Bl.ext hx bs (Nat.succ_pos _)
    replace bt := Bl.ext hx bt (Nat.succ_pos _)
    replace bu := Bl.ext hx bu (Nat.succ_pos _)
    replace bv := Bl.ext hx bv (Nat.succ_pos _)
    replace bx := Bl.ext hx bx (Nat.succ_pos _)
    replace bg := Bl.ext hx bg (Nat.succ_pos _)
    replace bh := Bl.ext hx bh (Nat.succ_pos _)
    replace hs1 := hs1.ext hx
    replace ht1 := ht1.ext hx
    replace hs2 := hs2.ext hx
    replace ht2 := ht2.ext hx
    replace hs3 := hs3.ext hx
    replace ht3 := ht3.ext hx
    replace hs4 := hs4.ext hx
    replace ht4 := ht4.ext hx
    replace hs5 := hs5.ext hx
    replace ht5 := ht5.ext hx
    replace hs6 := hs6.ext hx
    replace ht6 := ht6.ext hx
    replace hs7 := hs7.ext hx
    replace ht7 := ht7.ext hx
    replace hs8 := hs8.ext hx
    replace ht8 := ht8.ext hx
    replace hs9 := hs9.ext hx
    replace ht9 := ht9.ext hx
    replace HE := HE.trans hx
    clear hx
    replace hs10 : Nc u10 a10 n10 c10 (Z5).natAbs := hs10
    replace ht10 : Nc u10 d10 m10 k10 (D5) := ht10
    refine wpE_l rfl rfl (fun K hK => ?_)
    go_simp
    refine (g_Same hs9 hs10 ht9 ht10 L5.out.1 L5.out.2).mono ?_
    rintro e us9 ⟨rfl, hx⟩
    refine hK.out _ _ hx ?_
    clear hK K
    try simp only [Act.put, List.setIfInBounds_toArray, List.set_cons_zero, List.set_cons_succ]
    replace bp := Bl.ext hx bp (Nat.succ_pos _)
    replace br := Bl.ext hx br (Nat.succ_pos _)
    replace bs := Bl.ext hx bs (Nat.succ_pos _)
    replace bt := Bl.ext hx bt (Nat.succ_pos _)
    replace bu := Bl.ext hx bu (Nat.succ_pos _)
    replace bv := Bl.ext hx bv (Nat.succ_pos _)
    replace bx := Bl.ext hx bx (Nat.succ_pos _)
    replace bg := Bl.ext hx bg (Nat.succ_pos _)
    replace bh := Bl.ext hx bh (Nat.succ_pos _)
    replace hs1 := hs1.ext hx
    replace ht1 := ht1.ext hx
    replace hs2 := hs2.ext hx
    replace ht2 := ht2.ext hx
    replace hs3 := hs3.ext hx
    replace ht3 := ht3.ext hx
    replace hs4 := hs4.ext hx
    replace ht4 := ht4.ext hx
    replace hs5 := hs5.ext hx
    replace ht5 := ht5.ext hx
    replace hs6 := hs6.ext hx
    replace ht6 := ht6.ext hx
    replace hs7 := hs7.ext hx
    replace ht7 := ht7.ext hx
    replace hs8 := hs8.ext hx
    replace ht8 := ht8.ext hx
    replace hs9 := hs9.ext hx
    replace ht9 := ht9.ext hx
    replace hs10 := hs10.ext hx
    replace ht10 := ht10.ext hx
    replace HE := HE.trans hx
    clear hx
    repeat (refine wpE_q (v := ?_) rfl rfl (fun u hu => ?_) ?_; rotate_left 1; (focus (have kp := Bl.ext hu bp (Nat.succ_pos _); have kr := Bl.ext hu br (Nat.succ_pos _); have ks := Bl.ext hu bs (Nat.succ_pos _); have kt := Bl.ext hu bt (Nat.succ_pos _); have ku := Bl.ext hu bu (Nat.succ_pos _); have kv := Bl.ext hu bv (Nat.succ_pos _); have kx := Bl.ext hu bx (Nat.succ_pos _); have kg := Bl.ext hu bg (Nat.succ_pos _); have kh := Bl.ext hu bh (Nat.succ_pos _); go_simp; (try rfl))); simp only [Act.put, List.setIfInBounds_toArray, List.set_cons_zero, List.set_cons_succ])
    refine wpE_l rfl rfl (fun K hK => ?_)
    go_simp
    refine (fr_lives _).mono ?_
    rintro e ul ⟨rfl, hx⟩
    refine hK.out _ _ hx ?_
    clear hK K
    try simp only [Act.put, List.setIfInBounds_toArray, List.set_cons_zero, List.set_cons_succ]
    replace bp := Bl.ext hx bp (Nat.succ_pos _)
    replace br := Bl.ext hx br (Nat.succ_pos _)
    replace bs := Bl.ext hx bs (Nat.succ_pos _)
    replace bt := Bl.ext hx bt (Nat.succ_pos _)
    replace bu := Bl.ext hx bu (Nat.succ_pos _)
    replace bv := Bl.ext hx bv (Nat.succ_pos _)
    replace bx := Bl.ext hx bx (Nat.succ_pos _)
    replace bg := Bl.ext hx bg (Nat.succ_pos _)
    replace bh := Bl.ext hx bh (Nat.succ_pos _)
    replace hs1 := hs1.ext hx
    replace ht1 := ht1.ext hx
    replace hs2 := hs2.ext hx
    replace ht2 := ht2.ext hx
    replace hs3 := hs3.ext hx
    replace ht3 := ht3.ext hx
    replace hs4 := hs4.ext hx
    replace ht4 := ht4.ext hx
    replace hs5 := hs5.ext hx
    replace ht5 := ht5.ext hx
    replace hs6 := hs6.ext hx
    replace ht6 := ht6.ext hx
    replace hs7 := hs7.ext hx
    replace ht7 := ht7.ext hx
    replace hs8 := hs8.ext hx
    replace ht8 := ht8.ext hx
    replace hs9 := hs9.ext hx
    replace ht9 := ht9.ext hx
    replace hs10 := hs10.ext hx
    replace ht10 := ht10.ext hx
    replace HE := HE.trans hx
    clear hx
    repeat (refine wpE_q (v := ?_) rfl rfl (fun u hu => ?_) ?_; rotate_left 1; (focus (have kp := Bl.ext hu bp (Nat.succ_pos _); have kr := Bl.ext hu br (Nat.succ_pos _); have ks := Bl.ext hu bs (Nat.succ_pos _); have kt := Bl.ext hu bt (Nat.succ_pos _); have ku := Bl.ext hu bu (Nat.succ_pos _); have kv := Bl.ext hu bv (Nat.succ_pos _); have kx := Bl.ext hu bx (Nat.succ_pos _); have kg := Bl.ext hu bg (Nat.succ_pos _); have kh := Bl.ext hu bh (Nat.succ_pos _); go_simp; (try rfl))); simp only [Act.put, List.setIfInBounds_toArray, List.set_cons_zero, List.set_cons_succ])
    refine wpE_done ?_
    go_wp2_with fail
    go_ret
    exact ⟨rfl, HE⟩

end Go.Proofs.Ytcipcpbjkcpgdaa
