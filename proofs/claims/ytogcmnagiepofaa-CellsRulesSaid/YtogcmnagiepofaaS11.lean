/- Sets of cells: one cell more; what is near, in the document's way. -/
import Derived.Test.YtogcmnagiepofaaS10
import Derived.Test.YtogcmnagiepofaaS4
namespace Go.Proofs.Ytogcmnagiepofaa
set_option linter.unusedVariables false
set_option linter.unusedSimpArgs false
open Go Go.RowKit

/-- A set with a cell. -/
def withB (x y : Int) (n : Nat) (l : List Bool) (i j : Int) : (Int × Int × List Bool) × Int :=
  if mayR x y n = true ∧ 0 ≤ i ∧ i < x ∧ 0 ≤ j ∧ j < y then ((x, y, l.set (j * x + i).toNat true), 0) else ((0, 0, []), 2)
theorem addr_add_none (b off j : Nat) : (⟨b, off, none⟩ : Addr).add j = ⟨b, off + j, none⟩ := by
  unfold Addr.add
  by_cases hz : j = 0
  · subst hz; simp
  · simp [hz]
theorem bools_one (l : List Bool) : ∀ u ∈ bools l, u.oneCell' = true := by
  intro u hu
  unfold bools at hu
  rw [List.mem_map] at hu
  obtain ⟨x, _, rfl⟩ := hu
  rfl

set_option maxRecDepth 100000 in
set_option maxHeartbeats 8000000 in
theorem s_CloneB (g off n c : Nat) (l : List Bool) (w : World) (h : SlB w (some ⟨g, off, none⟩) n c l) (hn : 0 < n) (hn4 : n ≤ 4096) :
    Calls Try.prog 103 #[.slice (some ⟨g, off, none⟩) n c] w fun e w' => ∃ g2 c2, e = .returned (.slice (some ⟨g2, 0, none⟩) n c2) ∧ HoldC w' g2 (bools l) ∧ n ≤ c2 ∧ c2 ≤ maxLen ∧ w.heap.size ≤ g2 ∧ Ext w w' := by
  have HL := hidP h.len
  obtain ⟨g', off', hga, hcell⟩ := h.2.2.2 hn
  cases hga
  have HC := hidP hcell
  have hB0 : (w.alloc (.cells #[] 4)).ownsRow w.heap.size 4 1 (.slice (some ⟨w.heap.size, 0, none⟩) 0 0) 0 (bools []) := by
    have := World.ownsRow_lit (base := w.heap.size) (e := 4) (size := 1) w #[] 0 (Nat.le_refl _) (Nat.zero_le _) rfl
    exact this
  have hnil : ∀ w, (binOp .eql 42 (.slice (some ⟨g, off, none⟩) n c) (.slice none 0 0)).run Try.prog w = .ok (.bool false) w := fun w => by rfl
  clear h hcell
  go_enter Try.func103, Try.ntmps103
  go_wp2_with (first | (at_builtin; go_loud (refine wpList_plain rfl fun _ hk => ?_; refine wp_appB (ad := ⟨g, off, none⟩) (m := n) (c := c) T_bool _ _ rfl hB0 (by simp) (bools l) rfl rfl (by rw [bools_len, HL.out]; omega) (fun t u ht => by rw [addr_add_none]; exact ((Ext.refl w).alloc _).cell' (HC.out t u ht)) (bools_one l) (by omega) (by omega) ?_; intro v2 w2 hown2 hlow; refine hk _ _ ?_)))
  rw [Nat.zero_add] at hown2
  have hx : Ext w w2 := Below.trans ((Ext.refl w).alloc _) hlow
  obtain ⟨a2, c2, rfl, hs2⟩ := SlK.of_owns hown2
  obtain ⟨g2, rfl, hg2⟩ := RowB.open hown2 hn
  have hh := HoldC.of_row hown2
  rw [show bools [] ++ bools l = bools l from rfl] at hh
  have hh2 := hs2.2
  have HH := hidP hh
  clear hh hown2 hs2
  go_wp2_with fail
  go_ret
  exact ⟨g2, c2, rfl, HH.out, hh2.1, hh2.2.1, hg2, hx⟩

set_option maxRecDepth 100000 in
set_option maxHeartbeats 8000000 in
theorem c_With (x y : Int) (a : Option Addr) (n c : Nat) (l : List Bool) (i j : Int) (w : World) (h : SlB w a n c l) :
    Calls Try.prog 47 #[rst x y a n c, .int .i64 i, .int .i64 j] w (RetBE w (withB x y n l i j)) := by
  have HL := hidP h.len
  have H := hidP h
  clear h
  have HM := hidP (fun u => c_May x y a n c u)
  have HIN := hidP (@at_in x y i j n)
  have HW := hidP (fun u => c_within x y a n c i j u)
  by_cases hok : mayR x y n = true ∧ 0 ≤ i ∧ i < x ∧ 0 ≤ j ∧ j < y
  · have hR : withB x y n l i j = ((x, y, l.set (j * x + i).toNat true), 0) := if_pos hok
    obtain ⟨hm, hi1, hi2, hj1, hj2⟩ := hok
    obtain ⟨hb1, hb2, hb3⟩ := HIN.out hm hi1 hi2 hj1 hj2
    rw [hm] at HM
    rw [decide_eq_true ⟨hi1, hi2, hj1, hj2⟩] at HW
    obtain ⟨m1, m2, m3, m4, m5⟩ := of_decide_eq_true hm
    have hbx := mul_box m1 m2 m3 m4
    have hn4 : n ≤ 4096 := by omega
    obtain ⟨k, hk⟩ : ∃ k : Nat, j * x + i = (k : Int) := ⟨(j * x + i).toNat, by omega⟩
    rw [hk, Int.toNat_natCast] at hR
    have hkn : k < n := by omega
    have HR := hidP hR
    clear hm HIN hR m5 hbx
    obtain ⟨g, off, rfl, hc0⟩ := H.out.at (by omega)
    have HCL := hidP (fun u (t : SlB u (some ⟨g, off, none⟩) n c l) => s_CloneB g off n c l u t (by omega) hn4)
    have hx0 : 0 ≤ x := by omega
    clear hc0
    generalize withB x y n l i j = rr at *
    go_enter Try.func47, Try.ntmps47
    go_wp2_with fail
    refine absC (fun x1 hx1 => ?_)
    have hx : Ext w x1 := by rw [hx1]; exact (((Ext.refl _).alloc _).alloc _)
    have bp : Bl x1 (w.heap.size) #[.int .i64 x, .int .i64 y, .slice (some ⟨g, off, none⟩) n c] := by rw [hx1]; exact ((Bl.new (by simp)).alloc (by simp))
    have bs : Bl x1 (w.heap.size + 1) #[.int .i64 0, .int .i64 0, .slice none 0 0] := by rw [hx1]; exact (Bl.new (by simp))
    have fs : Fz x1 (w.heap.size + 1) := by rw [hx1]; exact (Fz.new (by simp))
    have HE := hx
    clear hx
    clear hx1
    refine (HM.out _).mono ?_
    rintro e u1 ⟨rfl, hx⟩
    replace bp := Bl.ext hx bp (Nat.succ_pos _)
    replace fs := Fz.ext hx fs bs (Nat.succ_pos _)
    replace bs := Bl.ext hx bs (Nat.succ_pos _)
    replace HE := HE.trans hx
    clear hx
    go_wp2_with fail
    refine (HW.out _).mono ?_
    rintro e u2 ⟨rfl, hx⟩
    replace bp := Bl.ext hx bp (Nat.succ_pos _)
    replace fs := Fz.ext hx fs bs (Nat.succ_pos _)
    replace bs := Bl.ext hx bs (Nat.succ_pos _)
    replace HE := HE.trans hx
    clear hx
    go_wp2_with fail
    have los := bs.lt (Nat.succ_pos _)
    have lop := bp.lt (Nat.succ_pos _)
    have lop := bp.lt (Nat.succ_pos _)
    have los := bs.lt (Nat.succ_pos _)
    have hlo : u2.heap.size ≤ u2.heap.size := Nat.le_refl _
    refine wp_region_plan (R := Below u2.heap.size) (.q 0 (.q 1 (.q 2 (.q 3 (.q 4 (.q 5 (.br 6 (.q 7 (.l 8 (.b 9 .done))) (.l 8 (.l 6 (.q 7 (.b 9 .done))))))))))) (by kernel_rfl) (by kernel_rfl) (by kernel_rfl) (by kernel_rfl) (Below.refl _) (fun _ _ _ => Below.trans) ?_
    refine absE (fun x2 hx2 => ?_)
    have hx : Ext u2 x2 := by rw [hx2]; exact (Ext.refl _).drew
    replace hlo := Nat.le_trans hlo hx.size
    replace bp := Bl.ext hx bp (Nat.succ_pos _)
    replace fs := Fz.ext hx fs bs (Nat.succ_pos _)
    replace bs := Bl.ext hx bs (Nat.succ_pos _)
    replace HE := HE.trans hx
    clear hx
    clear hx2
    repeat (refine wpE_q (v := ?_) rfl rfl (fun u hu => ?_) ?_; rotate_left 1; (focus (have kp := Bl.lowB hu bp lop; have ks := Bl.lowB hu bs los; go_simp; (try rfl))); simp only [Act.put, List.setIfInBounds_toArray, List.set_cons_zero, List.set_cons_succ])
    refine wpE_br rfl rfl (fun K hK => ?_) ?_
    · go_simp
      have lsg := bs.lt (Nat.succ_pos _)
      refine (HCL.out _ (H.out.ext HE)).mono ?_
      rintro e u3 ⟨g2, c2, rfl, hh, hc1, hc2, hge, hx⟩
      refine hK.out _ _ (Below.mono hx hlo) ?_
      clear hK K
      try simp only [Act.put, List.setIfInBounds_toArray, List.set_cons_zero, List.set_cons_succ]
      replace hlo := Nat.le_trans hlo hx.size
      replace bp := Bl.ext hx bp (Nat.succ_pos _)
      replace fs := Fz.ext hx fs bs (Nat.succ_pos _)
      replace bs := Bl.ext hx bs (Nat.succ_pos _)
      replace HE := HE.trans hx
      clear hx
      have hgu := cell_lt (hh k (.bool (l[k]'(by rw [HL.out]; exact hkn))) (bools_get l k (by rw [HL.out]; exact hkn))).1
      repeat (refine wpE_q (v := ?_) rfl rfl (fun u hu => ?_) ?_; rotate_left 1; (focus (have kp := Bl.lowB hu bp lop; have ks := Bl.lowB hu bs los; go_simp; (try rfl))); simp only [Act.put, List.setIfInBounds_toArray, List.set_cons_zero, List.set_cons_succ])
      refine wpE_l rfl rfl (fun K hK => ?_)
      go_simp
      refine hK.out _ _ ((Below.refl _ _).alloc hlo _) ?_
      clear hK K
      try simp only [Act.put, List.setIfInBounds_toArray, List.set_cons_zero, List.set_cons_succ]
      have get := hlo
      have lpt := bp.lt (Nat.succ_pos _)
      have lst := bs.lt (Nat.succ_pos _)
      have l0t := HE.size
      refine absE (fun x3 hx3 => ?_)
      have hx : Ext u3 x3 := by rw [hx3]; exact ((Ext.refl _).alloc _)
      have bt : Bl x3 (u3.heap.size) #[.int .i64 0, .int .i64 0, .slice none 0 0] := by rw [hx3]; exact (Bl.new (by simp))
      have ft : Fz x3 (u3.heap.size) := by rw [hx3]; exact (Fz.new (by simp))
      replace hlo := Nat.le_trans hlo hx.size
      replace bp := Bl.ext hx bp (Nat.succ_pos _)
      replace fs := Fz.ext hx fs bs (Nat.succ_pos _)
      replace bs := Bl.ext hx bs (Nat.succ_pos _)
      replace hh := hh.ext hx
      replace HE := HE.trans hx
      clear hx
      clear hx3
      refine wpE_b rfl rfl (fun K hK => ?_)
      go_simp
      refine hK.out _ _ ?_
      clear hK K
      try simp only [Act.put, List.setIfInBounds_toArray, List.set_cons_zero, List.set_cons_succ]
      refine absE (fun x8 hx8 => ?_)
      have hbut8 : But x3 x8 (u3.heap.size) := by rw [hx8]; exact ((But.refl _ _).store.store.store)
      have hbn : Bl x8 (u3.heap.size) #[.int .i64 x, .int .i64 y, .slice (some ⟨g2, 0, none⟩) n c2] := by rw [hx8]; exact (((bt.set (by simp)).set (by simp)).set (by simp))
      have hne8 : g2 ≠ u3.heap.size := by omega
      replace hh := hh.but hbut8 hne8
      clear hne8
      replace bp := hbut8.bl bp (Nat.succ_pos _) (by omega)
      replace fs := hbut8.fz fs bs (Nat.succ_pos _) (by omega)
      replace bs := hbut8.bl bs (Nat.succ_pos _) (by omega)
      replace HE : Ext w x8 := by rw [hx8]; exact ((HE.store (by show w.heap.size ≤ u3.heap.size; omega) _).store (by show w.heap.size ≤ u3.heap.size; omega) _).store (by show w.heap.size ≤ u3.heap.size; omega) _
      clear bt hx8 hbut8
      have bt := hbn
      clear hbn
      refine wpE_done ?_
      clear hlo
      have hlen : (bools l).length = n := by rw [bools_len, HL.out]
      have hne : g2 ≠ u3.heap.size := by omega
      have hg2w : w.heap.size + 1 < g2 := by omega
      have hset := hh.set k (.bool true)
      rw [bools_set] at hset
      have HSET := hidP hset
      obtain ⟨ck1, ck2⟩ := hh k (.bool (l[k]'(by rw [HL.out]; exact hkn))) (bools_get l k (by rw [HL.out]; exact hkn))
      have hbut : But x8 (x8.setCell ⟨g2, k, none⟩ (.bool true)) g2 := (But.refl _ _).store
      clear hset hh
      go_upto_region 5 with fail
      refine absW (fun x9 hx9 => ?_)
      rw [← hx9] at HSET hbut
      have HE9 : Ext w x9 := by rw [hx9]; exact HE.store (by show w.heap.size ≤ g2; omega) _
      clear hx9
      replace bt := hbut.bl bt (Nat.succ_pos _) (by omega)
      replace bs2 := hbut.bl bs (Nat.succ_pos _) (by omega)
      replace fs := hbut.fz fs bs (Nat.succ_pos _) (by omega)
      replace bs := bs2
      have hrow := HSET.out.row (n := n) (c := c2) (by rw [bools_len, List.length_set, HL.out]) hc1 hc2
      replace HE := HE9
      go_wp2_with fail
      refine absB (fun ue hue => ?_)
      have hbs : Bl ue (w.heap.size + 1) #[.int .i64 x, .int .i64 y, .slice (some ⟨g2, 0, none⟩) n c2] := by rw [hue]; exact (((bs.set (by simp)).set (by simp)).set (by simp))
      have hnc : ∀ {aa : Option Addr} {nn cc : Nat} {ll : List Bool}, SlB x9 aa nn cc ll → SlB ue aa nn cc ll := fun h => by
        rw [hue]
        exact h.but bs (not_bools) ((But.refl _ _).store.store.store)
      have heu : Ext w ue := by rw [hue]; exact ((HE.store (by show w.heap.size ≤ w.heap.size + 1; omega) _).store (by show w.heap.size ≤ w.heap.size + 1; omega) _).store (by show w.heap.size ≤ w.heap.size + 1; omega) _
      clear hue
      refine bodyPost_cells_tmp2 rfl rfl Try.underlying44 rfl (by kernel_rfl) (blk_three hbs) rfl rfl ?_
      rw [HR.out]
      exact ⟨_, _, _, rfl, hnc hrow, heu⟩
    · refine wpE_l rfl rfl (fun K hK => ?_)
      go_simp
      refine hK.out _ _ ((Below.refl _ _).alloc hlo _) ?_
      clear hK K
      try simp only [Act.put, List.setIfInBounds_toArray, List.set_cons_zero, List.set_cons_succ]
      have get := hlo
      have lpt := bp.lt (Nat.succ_pos _)
      have lst := bs.lt (Nat.succ_pos _)
      have l0t := HE.size
      refine absE (fun x3 hx3 => ?_)
      have hx : Ext x2 x3 := by rw [hx3]; exact ((Ext.refl _).alloc _)
      have bt : Bl x3 (x2.heap.size) #[.int .i64 0, .int .i64 0, .slice none 0 0] := by rw [hx3]; exact (Bl.new (by simp))
      have ft : Fz x3 (x2.heap.size) := by rw [hx3]; exact (Fz.new (by simp))
      replace hlo := Nat.le_trans hlo hx.size
      replace bp := Bl.ext hx bp (Nat.succ_pos _)
      replace fs := Fz.ext hx fs bs (Nat.succ_pos _)
      replace bs := Bl.ext hx bs (Nat.succ_pos _)
      replace HE := HE.trans hx
      clear hx
      clear hx3
      refine wpE_l rfl rfl (fun K hK => ?_)
      go_simp
      have lsg := bs.lt (Nat.succ_pos _)
      have ltg := bt.lt (Nat.succ_pos _)
      refine (HCL.out _ (H.out.ext HE)).mono ?_
      rintro e u3 ⟨g2, c2, rfl, hh, hc1, hc2, hge, hx⟩
      refine hK.out _ _ (Below.mono hx hlo) ?_
      clear hK K
      try simp only [Act.put, List.setIfInBounds_toArray, List.set_cons_zero, List.set_cons_succ]
      replace hlo := Nat.le_trans hlo hx.size
      replace bp := Bl.ext hx bp (Nat.succ_pos _)
      replace fs := Fz.ext hx fs bs (Nat.succ_pos _)
      replace bs := Bl.ext hx bs (Nat.succ_pos _)
      replace ft := Fz.ext hx ft bt (Nat.succ_pos _)
      replace bt := Bl.ext hx bt (Nat.succ_pos _)
      replace HE := HE.trans hx
      clear hx
      have hgu := cell_lt (hh k (.bool (l[k]'(by rw [HL.out]; exact hkn))) (bools_get l k (by rw [HL.out]; exact hkn))).1
      repeat (refine wpE_q (v := ?_) rfl rfl (fun u hu => ?_) ?_; rotate_left 1; (focus (have kp := Bl.lowB hu bp lop; have ks := Bl.lowB hu bs los; go_simp; (try rfl))); simp only [Act.put, List.setIfInBounds_toArray, List.set_cons_zero, List.set_cons_succ])
      refine wpE_b rfl rfl (fun K hK => ?_)
      go_simp
      refine hK.out _ _ ?_
      clear hK K
      try simp only [Act.put, List.setIfInBounds_toArray, List.set_cons_zero, List.set_cons_succ]
      refine absE (fun x8 hx8 => ?_)
      have hbut8 : But u3 x8 (x2.heap.size) := by rw [hx8]; exact ((But.refl _ _).store.store.store)
      have hbn : Bl x8 (x2.heap.size) #[.int .i64 x, .int .i64 y, .slice (some ⟨g2, 0, none⟩) n c2] := by rw [hx8]; exact (((bt.set (by simp)).set (by simp)).set (by simp))
      have hne8 : g2 ≠ x2.heap.size := by omega
      replace hh := hh.but hbut8 hne8
      clear hne8
      replace bp := hbut8.bl bp (Nat.succ_pos _) (by omega)
      replace fs := hbut8.fz fs bs (Nat.succ_pos _) (by omega)
      replace bs := hbut8.bl bs (Nat.succ_pos _) (by omega)
      replace HE : Ext w x8 := by rw [hx8]; exact ((HE.store (by show w.heap.size ≤ x2.heap.size; omega) _).store (by show w.heap.size ≤ x2.heap.size; omega) _).store (by show w.heap.size ≤ x2.heap.size; omega) _
      clear bt hx8 hbut8
      have bt := hbn
      clear hbn
      refine wpE_done ?_
      clear hlo
      have hlen : (bools l).length = n := by rw [bools_len, HL.out]
      have hne : g2 ≠ x2.heap.size := by omega
      have hg2w : w.heap.size + 1 < g2 := by omega
      have hset := hh.set k (.bool true)
      rw [bools_set] at hset
      have HSET := hidP hset
      obtain ⟨ck1, ck2⟩ := hh k (.bool (l[k]'(by rw [HL.out]; exact hkn))) (bools_get l k (by rw [HL.out]; exact hkn))
      have hbut : But x8 (x8.setCell ⟨g2, k, none⟩ (.bool true)) g2 := (But.refl _ _).store
      clear hset hh
      go_upto_region 5 with fail
      refine absW (fun x9 hx9 => ?_)
      rw [← hx9] at HSET hbut
      have HE9 : Ext w x9 := by rw [hx9]; exact HE.store (by show w.heap.size ≤ g2; omega) _
      clear hx9
      replace bt := hbut.bl bt (Nat.succ_pos _) (by omega)
      replace bs2 := hbut.bl bs (Nat.succ_pos _) (by omega)
      replace fs := hbut.fz fs bs (Nat.succ_pos _) (by omega)
      replace bs := bs2
      have hrow := HSET.out.row (n := n) (c := c2) (by rw [bools_len, List.length_set, HL.out]) hc1 hc2
      replace HE := HE9
      go_wp2_with fail
      refine absB (fun ue hue => ?_)
      have hbs : Bl ue (w.heap.size + 1) #[.int .i64 x, .int .i64 y, .slice (some ⟨g2, 0, none⟩) n c2] := by rw [hue]; exact (((bs.set (by simp)).set (by simp)).set (by simp))
      have hnc : ∀ {aa : Option Addr} {nn cc : Nat} {ll : List Bool}, SlB x9 aa nn cc ll → SlB ue aa nn cc ll := fun h => by
        rw [hue]
        exact h.but bs (not_bools) ((But.refl _ _).store.store.store)
      have heu : Ext w ue := by rw [hue]; exact ((HE.store (by show w.heap.size ≤ w.heap.size + 1; omega) _).store (by show w.heap.size ≤ w.heap.size + 1; omega) _).store (by show w.heap.size ≤ w.heap.size + 1; omega) _
      clear hue
      refine bodyPost_cells_tmp2 rfl rfl Try.underlying44 rfl (by kernel_rfl) (blk_three hbs) rfl rfl ?_
      rw [HR.out]
      exact ⟨_, _, _, rfl, hnc hrow, heu⟩
  · have HR : Hid (withB x y n l i j = ((0, 0, []), 2)) := hidP (if_neg hok)
    generalize withB x y n l i j = rr at *
    clear HIN H HL
    cases hm : mayR x y n
    · rw [hm] at HM
      clear hok hm
      go_enter Try.func47, Try.ntmps47
      go_wp2_with fail
      refine absC (fun x1 hx1 => ?_)
      have hx : Ext w x1 := by rw [hx1]; exact (((Ext.refl _).alloc _).alloc _)
      have bp : Bl x1 (w.heap.size) #[.int .i64 x, .int .i64 y, .slice a n c] := by rw [hx1]; exact ((Bl.new (by simp)).alloc (by simp))
      have bs : Bl x1 (w.heap.size + 1) #[.int .i64 0, .int .i64 0, .slice none 0 0] := by rw [hx1]; exact (Bl.new (by simp))
      have fs : Fz x1 (w.heap.size + 1) := by rw [hx1]; exact (Fz.new (by simp))
      have HE := hx
      clear hx
      clear hx1
      refine (HM.out _).mono ?_
      rintro e u1 ⟨rfl, hx⟩
      replace bp := Bl.ext hx bp (Nat.succ_pos _)
      replace fs := Fz.ext hx fs bs (Nat.succ_pos _)
      replace bs := Bl.ext hx bs (Nat.succ_pos _)
      replace HE := HE.trans hx
      clear hx
      go_wp2_with fail
      refine absB (fun ue hue => ?_)
      have hbs : Bl ue (w.heap.size + 1) #[.int .i64 0, .int .i64 0, .slice none 0 0] := by rw [hue]; exact (((bs.set (by simp)).set (by simp)).set (by simp))
      have hnc : ∀ {aa : Option Addr} {nn cc : Nat} {ll : List Bool}, SlB u1 aa nn cc ll → SlB ue aa nn cc ll := fun h => by
        rw [hue]
        exact h.but bs (not_bools) ((But.refl _ _).store.store.store)
      have heu : Ext w ue := by rw [hue]; exact ((HE.store (by show w.heap.size ≤ w.heap.size + 1; omega) _).store (by show w.heap.size ≤ w.heap.size + 1; omega) _).store (by show w.heap.size ≤ w.heap.size + 1; omega) _
      clear hue
      refine bodyPost_cells_tmp2 rfl rfl Try.underlying44 rfl (by kernel_rfl) (blk_three hbs) rfl rfl ?_
      rw [HR.out]
      exact ⟨none, 0, 0, rfl, SlK.nil 1 _, heu⟩
    · rw [hm] at HM
      rw [decide_eq_false (fun h => hok ⟨hm, h⟩)] at HW
      clear hok hm
      go_enter Try.func47, Try.ntmps47
      go_wp2_with fail
      refine absC (fun x1 hx1 => ?_)
      have hx : Ext w x1 := by rw [hx1]; exact (((Ext.refl _).alloc _).alloc _)
      have bp : Bl x1 (w.heap.size) #[.int .i64 x, .int .i64 y, .slice a n c] := by rw [hx1]; exact ((Bl.new (by simp)).alloc (by simp))
      have bs : Bl x1 (w.heap.size + 1) #[.int .i64 0, .int .i64 0, .slice none 0 0] := by rw [hx1]; exact (Bl.new (by simp))
      have fs : Fz x1 (w.heap.size + 1) := by rw [hx1]; exact (Fz.new (by simp))
      have HE := hx
      clear hx
      clear hx1
      refine (HM.out _).mono ?_
      rintro e u1 ⟨rfl, hx⟩
      replace bp := Bl.ext hx bp (Nat.succ_pos _)
      replace fs := Fz.ext hx fs bs (Nat.succ_pos _)
      replace bs := Bl.ext hx bs (Nat.succ_pos _)
      replace HE := HE.trans hx
      clear hx
      go_wp2_with fail
      refine (HW.out _).mono ?_
      rintro e u2 ⟨rfl, hx⟩
      replace bp := Bl.ext hx bp (Nat.succ_pos _)
      replace fs := Fz.ext hx fs bs (Nat.succ_pos _)
      replace bs := Bl.ext hx bs (Nat.succ_pos _)
      replace HE := HE.trans hx
      clear hx
      go_wp2_with fail
      refine absB (fun ue hue => ?_)
      have hbs : Bl ue (w.heap.size + 1) #[.int .i64 0, .int .i64 0, .slice none 0 0] := by rw [hue]; exact (((bs.set (by simp)).set (by simp)).set (by simp))
      have hnc : ∀ {aa : Option Addr} {nn cc : Nat} {ll : List Bool}, SlB u2 aa nn cc ll → SlB ue aa nn cc ll := fun h => by
        rw [hue]
        exact h.but bs (not_bools) ((But.refl _ _).store.store.store)
      have heu : Ext w ue := by rw [hue]; exact ((HE.store (by show w.heap.size ≤ w.heap.size + 1; omega) _).store (by show w.heap.size ≤ w.heap.size + 1; omega) _).store (by show w.heap.size ≤ w.heap.size + 1; omega) _
      clear hue
      refine bodyPost_cells_tmp2 rfl rfl Try.underlying44 rfl (by kernel_rfl) (blk_three hbs) rfl rfl ?_
      rw [HR.out]
      exact ⟨none, 0, 0, rfl, SlK.nil 1 _, heu⟩

set_option maxRecDepth 100000 in
set_option maxHeartbeats 8000000 in
theorem e_With (x y : Int) (a : Option Addr) (n c : Nat) (l : List Bool) (i j : Int) (w : World) (h : SlB w a n c l) :
    Calls Try.prog 48 #[rst x y a n c, .int .i64 i, .int .i64 j] w (RetBE w (withB x y n l i j)) := by
  have HL := hidP h.len
  have H := hidP h
  clear h
  have HM := hidP (fun u => e_May x y a n c u)
  have HIN := hidP (@at_in x y i j n)
  by_cases hok : mayR x y n = true ∧ 0 ≤ i ∧ i < x ∧ 0 ≤ j ∧ j < y
  · have hR : withB x y n l i j = ((x, y, l.set (j * x + i).toNat true), 0) := if_pos hok
    obtain ⟨hm, hi1, hi2, hj1, hj2⟩ := hok
    obtain ⟨hb1, hb2, hb3⟩ := HIN.out hm hi1 hi2 hj1 hj2
    rw [hm] at HM
    obtain ⟨m1, m2, m3, m4, m5⟩ := of_decide_eq_true hm
    have hbx := mul_box m1 m2 m3 m4
    have hn4 : n ≤ 4096 := by omega
    obtain ⟨k, hk⟩ : ∃ k : Nat, j * x + i = (k : Int) := ⟨(j * x + i).toNat, by omega⟩
    rw [hk, Int.toNat_natCast] at hR
    have hkn : k < n := by omega
    have HR := hidP hR
    clear hm HIN hR m5 hbx
    have hx0 : 0 ≤ x := by omega
    have hcm : i + x * j = (k : Int) := by rw [Int.add_comm, Int.mul_comm x j]; exact hk
    have hxj : 0 ≤ x * j := Int.mul_nonneg hx0 hj1
    have HWR : Hid (IntKind.i64.wrap (i + IntKind.i64.wrap (x * j)) = (k : Int)) := hidP (by
      rw [IntWalk.i64_in (x * j) (by omega), IntWalk.i64_in _ (by omega), hcm])
    have HZ0 : (l.set k true).length = n := by rw [List.length_set]; exact HL.out
    have HZ : Hid (∀ t (ht : t < n), ∃ h : t < (l.set k true).length, (l.set k true)[t] = (if k = t then true else l[t]'(by rw [HL.out]; exact ht))) := hidP (fun t ht => ⟨by omega, by rw [List.getElem_set]⟩)
    generalize l.set k true = R at *
    generalize withB x y n l i j = rr at *
    clear hcm hxj hk hb1 hb2 hb3
    go_enter Try.func48, Try.ntmps48
    go_wp2_with fail
    refine absC (fun x1 hx1 => ?_)
    have hx : Ext w x1 := by rw [hx1]; exact (((Ext.refl _).alloc _).alloc _)
    have bp : Bl x1 (w.heap.size) #[.int .i64 x, .int .i64 y, .slice a n c] := by rw [hx1]; exact ((Bl.new (by simp)).alloc (by simp))
    have bs : Bl x1 (w.heap.size + 1) #[.int .i64 0, .int .i64 0, .slice none 0 0] := by rw [hx1]; exact (Bl.new (by simp))
    have fs : Fz x1 (w.heap.size + 1) := by rw [hx1]; exact (Fz.new (by simp))
    have HE := hx
    clear hx
    clear hx1
    refine (HM.out _).mono ?_
    rintro e u1 ⟨rfl, hx⟩
    replace bp := Bl.ext hx bp (Nat.succ_pos _)
    replace fs := Fz.ext hx fs bs (Nat.succ_pos _)
    replace bs := Bl.ext hx bs (Nat.succ_pos _)
    replace HE := HE.trans hx
    clear hx
    have lpx := bp.lt (Nat.succ_pos _); have lsx := bs.lt (Nat.succ_pos _)
    go_upto_region 4 with fail
    refine absW (fun x2 hx2 => ?_)
    have hx : Ext u1 x2 := by rw [hx2]; exact ((Ext.refl _).alloc _)
    have bt : Bl x2 (u1.heap.size) #[.int .i64 x, .int .i64 y, .slice none 0 0] := by rw [hx2]; exact (Bl.new (by simp))
    have ft : Fz x2 (u1.heap.size) := by rw [hx2]; exact (Fz.new (by simp))
    replace bp := Bl.ext hx bp (Nat.succ_pos _)
    replace fs := Fz.ext hx fs bs (Nat.succ_pos _)
    replace bs := Bl.ext hx bs (Nat.succ_pos _)
    replace HE := HE.trans hx
    clear hx
    clear hx2
    generalize u1.heap.size = ga at *
    have hB : ga + 1 ≤ x2.heap.size := by have := bt.lt (Nat.succ_pos _); omega
    have hz0 : x2.ownsRow (ga + 1) 4 1 (.slice none 0 0) 0 (bools (R.take 0)) := World.ownsRow_nil _ _ _ _
    go_wp2_with fail
    go_loopw [9] (fun iv wr => ∃ (t : Nat) (v : Value), t ≤ n ∧ iv = .int .i64 (t : Int) ∧ wr.ownsRow (ga + 1) 4 1 v t (bools (R.take t)) ∧ Bl wr ga #[.int .i64 x, .int .i64 y, v] ∧ Fz wr ga ∧ Bl wr w.heap.size #[.int .i64 x, .int .i64 y, .slice a n c] ∧ Bl wr (w.heap.size + 1) #[.int .i64 0, .int .i64 0, .slice none 0 0] ∧ Fz wr (w.heap.size + 1) ∧ ga + 1 ≤ wr.heap.size ∧ Ext w wr) (fun iv _ => n - (intOf iv).toNat)
    case atStart => exact ⟨0, _, by omega, rfl, hz0, bt, ft, bp, bs, fs, hB, HE⟩
    case round =>
      clear hz0 bt ft bp bs fs hB HE
      obtain ⟨t, v, ht, rfl, hown, bt, ft, bp, bs, fs, hB, HE⟩ := hrel
      by_cases hlt : t < n
      · have hlt0 := hlt
        obtain ⟨g, off, rfl, hc⟩ := H.out.at (by omega)
        have h0 := hc t (by rw [HL.out]; exact hlt)
        have hgl := cell_lt h0
        replace h0 := HE.cell' h0
        obtain ⟨hjR, hz⟩ := HZ.out t hlt
        have hst := List.take_succ_eq_append_getElem hjR
        rw [hz] at hst
        have hst2 := congrArg bools hst
        rw [bools_append] at hst2
        clear hc hz hst
        generalize l[t]'(by rw [HL.out]; exact hlt) = p at *
        cases p
        · by_cases hkt : k = t
          · rw [if_pos hkt] at hst2
            have HST : Hid (bools (R.take (t + 1)) = bools (R.take t) ++ [.bool true]) := hidP hst2
            have E1 : Hid (((t : Int) == (k : Int)) = true) := hidP (by simp; omega)
            have E2 : Hid ((t == k) = true) := hidP (by simp; omega)
            clear hst2 hkt
            go_wp2_with fail
            refine wp_region_plan (R := Below (ga + 1)) (.q 0 (.q 1 (.q 2 (.q 3 (.q 4 (.q 5 (.q 6 (.q 7 (.q 8 (.q 9 (.q 10 (.q 11 (.q 12 (.q 13 (.q 14 (.q 15 (.q 16 (.l 17 (.l 18 (.q 19 (.b 20 .done))))))))))))))))))))) (by kernel_rfl) (by kernel_rfl) (by kernel_rfl) (by kernel_rfl) (Below.refl _) (fun _ _ _ => Below.trans) ?_
            refine absE (fun x3 hx3 => ?_)
            have hx : Ext wr x3 := by rw [hx3]; exact (Ext.refl _).drew
            replace hown : x3.ownsRow (ga + 1) 4 1 v t (bools (R.take t)) := by rw [hx3]; exact hown.drew
            replace ft := Fz.ext hx ft bt (Nat.succ_pos _)
            replace bt := Bl.ext hx bt (Nat.succ_pos _)
            replace bp := Bl.ext hx bp (Nat.succ_pos _)
            replace fs := Fz.ext hx fs bs (Nat.succ_pos _)
            replace bs := Bl.ext hx bs (Nat.succ_pos _)
            replace h0 := hx.cell' h0
            replace hB := Nat.le_trans hB hx.size
            replace HE := HE.trans hx
            clear hx hx3
            repeat (first | (refine wpE_q (v := ?_) rfl rfl (fun u hu => ?_) ?_; rotate_left 1; (focus (have kt := Bl.lowB hu bt (by omega); have kp := Bl.lowB hu bp (by omega); have kh0 := low_cell hu h0 (by omega); have wq := HWR.out; have e1 := E1.out; have e2 := E2.out; go_simp; (try rfl))); simp only [Act.put, List.setIfInBounds_toArray, List.set_cons_zero, List.set_cons_succ]) | (refine wpE_qs rfl rfl ?_; simp only [Act.put, List.setIfInBounds_toArray, List.set_cons_zero, List.set_cons_succ]))
            refine wpE_l rfl rfl (fun K hK => ?_)
            go_simp
            refine hK.out _ _ ((Below.refl _ _).alloc hB _) ?_
            clear hK K
            try simp only [Act.put, List.setIfInBounds_toArray, List.set_cons_zero, List.set_cons_succ]
            refine wpE_l rfl rfl (fun K hK => ?_)
            refine wp_appB (ad := ⟨x3.heap.size, 0, none⟩) (m := 1) T_bool _ _ rfl (hown.alloc _) (Nat.le_trans hB (by simp)) [.bool true] rfl rfl rfl (cell_one_new _ _ _) (ends_bool _) (by omega) (by omega) ?_
            intro v2 w2 hown2 hlow0
            refine hK.out _ _ hlow0 ?_
            clear hK K
            try simp only [Act.put, List.setIfInBounds_toArray, List.set_cons_zero, List.set_cons_succ]
            have hlow : Below (ga + 1) x3 w2 := Below.trans ((Below.refl _ _).alloc hB _) hlow0
            clear hlow0
            obtain ⟨a2, c2, rfl, hs2⟩ := SlK.of_owns hown2
            have ft2 := Fz.lowB hlow ft (by omega)
            have bt2 := Bl.lowB hlow bt (by omega)
            have bp2 := Bl.lowB hlow bp (by omega)
            have fs2 := Fz.lowB hlow fs (by omega)
            have bs2 := Bl.lowB hlow bs (by omega)
            repeat (refine wpE_q (v := ?_) rfl rfl (fun u hu => ?_) ?_; rotate_left 1; (focus (have kt := Bl.lowB hu bt2 (by omega); go_simp; (try rfl))); simp only [Act.put, List.setIfInBounds_toArray, List.set_cons_zero, List.set_cons_succ])
            refine wpE_b rfl rfl (fun K hK => ?_)
            go_simp
            refine hK.out _ _ ?_
            clear hK K
            try simp only [Act.put, List.setIfInBounds_toArray, List.set_cons_zero, List.set_cons_succ]
            refine wpE_done ?_
            go_wp2_with fail
            have hb2 : But w2 (w2.setCell ⟨ga, 2, none⟩ (.slice a2 (t + 1) c2)) ga := (But.refl _ _).store
            go_roundw
            case rel =>
              refine ⟨t + 1, _, by omega, by go_num, ?_, bt2.set (by simp), ft2.set, hb2.bl bp2 (Nat.succ_pos _) (by omega), hb2.bl bs2 (Nat.succ_pos _) (by omega), hb2.fz fs2 bs2 (Nat.succ_pos _) (by omega), Nat.le_trans (Nat.le_trans hB hlow.size) hb2.1, (Below.trans HE (hlow.mono (by omega))).setCell (by show w.heap.size ≤ ga; omega) _⟩
              rw [HST.out]
              exact hb2.rowB hown2 (by omega)
            case measure => simp only [intOf]; omega
          · rw [if_neg hkt] at hst2
            have HST : Hid (bools (R.take (t + 1)) = bools (R.take t) ++ [.bool false]) := hidP hst2
            have E1 : Hid (((t : Int) == (k : Int)) = false) := hidP (by simp; omega)
            have E2 : Hid ((t == k) = false) := hidP (by simp; omega)
            clear hst2 hkt
            go_wp2_with fail
            refine wp_region_plan (R := Below (ga + 1)) (.q 0 (.q 1 (.q 2 (.q 3 (.q 4 (.q 5 (.q 6 (.q 7 (.q 8 (.q 9 (.q 10 (.q 11 (.q 12 (.q 13 (.q 14 (.q 15 (.q 16 (.l 17 (.l 18 (.q 19 (.b 20 .done))))))))))))))))))))) (by kernel_rfl) (by kernel_rfl) (by kernel_rfl) (by kernel_rfl) (Below.refl _) (fun _ _ _ => Below.trans) ?_
            refine absE (fun x3 hx3 => ?_)
            have hx : Ext wr x3 := by rw [hx3]; exact (Ext.refl _).drew
            replace hown : x3.ownsRow (ga + 1) 4 1 v t (bools (R.take t)) := by rw [hx3]; exact hown.drew
            replace ft := Fz.ext hx ft bt (Nat.succ_pos _)
            replace bt := Bl.ext hx bt (Nat.succ_pos _)
            replace bp := Bl.ext hx bp (Nat.succ_pos _)
            replace fs := Fz.ext hx fs bs (Nat.succ_pos _)
            replace bs := Bl.ext hx bs (Nat.succ_pos _)
            replace h0 := hx.cell' h0
            replace hB := Nat.le_trans hB hx.size
            replace HE := HE.trans hx
            clear hx hx3
            repeat (first | (refine wpE_q (v := ?_) rfl rfl (fun u hu => ?_) ?_; rotate_left 1; (focus (have kt := Bl.lowB hu bt (by omega); have kp := Bl.lowB hu bp (by omega); have kh0 := low_cell hu h0 (by omega); have wq := HWR.out; have e1 := E1.out; have e2 := E2.out; go_simp; (try rfl))); simp only [Act.put, List.setIfInBounds_toArray, List.set_cons_zero, List.set_cons_succ]) | (refine wpE_qs rfl rfl ?_; simp only [Act.put, List.setIfInBounds_toArray, List.set_cons_zero, List.set_cons_succ]))
            refine wpE_l rfl rfl (fun K hK => ?_)
            go_simp
            refine hK.out _ _ ((Below.refl _ _).alloc hB _) ?_
            clear hK K
            try simp only [Act.put, List.setIfInBounds_toArray, List.set_cons_zero, List.set_cons_succ]
            refine wpE_l rfl rfl (fun K hK => ?_)
            refine wp_appB (ad := ⟨x3.heap.size, 0, none⟩) (m := 1) T_bool _ _ rfl (hown.alloc _) (Nat.le_trans hB (by simp)) [.bool false] rfl rfl rfl (cell_one_new _ _ _) (ends_bool _) (by omega) (by omega) ?_
            intro v2 w2 hown2 hlow0
            refine hK.out _ _ hlow0 ?_
            clear hK K
            try simp only [Act.put, List.setIfInBounds_toArray, List.set_cons_zero, List.set_cons_succ]
            have hlow : Below (ga + 1) x3 w2 := Below.trans ((Below.refl _ _).alloc hB _) hlow0
            clear hlow0
            obtain ⟨a2, c2, rfl, hs2⟩ := SlK.of_owns hown2
            have ft2 := Fz.lowB hlow ft (by omega)
            have bt2 := Bl.lowB hlow bt (by omega)
            have bp2 := Bl.lowB hlow bp (by omega)
            have fs2 := Fz.lowB hlow fs (by omega)
            have bs2 := Bl.lowB hlow bs (by omega)
            repeat (refine wpE_q (v := ?_) rfl rfl (fun u hu => ?_) ?_; rotate_left 1; (focus (have kt := Bl.lowB hu bt2 (by omega); go_simp; (try rfl))); simp only [Act.put, List.setIfInBounds_toArray, List.set_cons_zero, List.set_cons_succ])
            refine wpE_b rfl rfl (fun K hK => ?_)
            go_simp
            refine hK.out _ _ ?_
            clear hK K
            try simp only [Act.put, List.setIfInBounds_toArray, List.set_cons_zero, List.set_cons_succ]
            refine wpE_done ?_
            go_wp2_with fail
            have hb2 : But w2 (w2.setCell ⟨ga, 2, none⟩ (.slice a2 (t + 1) c2)) ga := (But.refl _ _).store
            go_roundw
            case rel =>
              refine ⟨t + 1, _, by omega, by go_num, ?_, bt2.set (by simp), ft2.set, hb2.bl bp2 (Nat.succ_pos _) (by omega), hb2.bl bs2 (Nat.succ_pos _) (by omega), hb2.fz fs2 bs2 (Nat.succ_pos _) (by omega), Nat.le_trans (Nat.le_trans hB hlow.size) hb2.1, (Below.trans HE (hlow.mono (by omega))).setCell (by show w.heap.size ≤ ga; omega) _⟩
              rw [HST.out]
              exact hb2.rowB hown2 (by omega)
            case measure => simp only [intOf]; omega
        · have HST : Hid (bools (R.take (t + 1)) = bools (R.take t) ++ [.bool true]) := hidP (by rw [hst2]; by_cases hkt : k = t <;> simp [hkt, bools])
          clear hst2
          go_wp2_with fail
          refine wp_region_plan (R := Below (ga + 1)) (.q 0 (.q 1 (.q 2 (.q 3 (.q 4 (.q 5 (.q 6 (.q 7 (.q 8 (.q 9 (.q 10 (.q 11 (.q 12 (.q 13 (.q 14 (.q 15 (.q 16 (.l 17 (.l 18 (.q 19 (.b 20 .done))))))))))))))))))))) (by kernel_rfl) (by kernel_rfl) (by kernel_rfl) (by kernel_rfl) (Below.refl _) (fun _ _ _ => Below.trans) ?_
          refine absE (fun x3 hx3 => ?_)
          have hx : Ext wr x3 := by rw [hx3]; exact (Ext.refl _).drew
          replace hown : x3.ownsRow (ga + 1) 4 1 v t (bools (R.take t)) := by rw [hx3]; exact hown.drew
          replace ft := Fz.ext hx ft bt (Nat.succ_pos _)
          replace bt := Bl.ext hx bt (Nat.succ_pos _)
          replace bp := Bl.ext hx bp (Nat.succ_pos _)
          replace fs := Fz.ext hx fs bs (Nat.succ_pos _)
          replace bs := Bl.ext hx bs (Nat.succ_pos _)
          replace h0 := hx.cell' h0
          replace hB := Nat.le_trans hB hx.size
          replace HE := HE.trans hx
          clear hx hx3
          repeat (first | (refine wpE_q (v := ?_) rfl rfl (fun u hu => ?_) ?_; rotate_left 1; (focus (have kt := Bl.lowB hu bt (by omega); have kp := Bl.lowB hu bp (by omega); have kh0 := low_cell hu h0 (by omega); go_simp; (try rfl))); simp only [Act.put, List.setIfInBounds_toArray, List.set_cons_zero, List.set_cons_succ]) | (refine wpE_qs rfl rfl ?_; simp only [Act.put, List.setIfInBounds_toArray, List.set_cons_zero, List.set_cons_succ]))
          refine wpE_l rfl rfl (fun K hK => ?_)
          go_simp
          refine hK.out _ _ ((Below.refl _ _).alloc hB _) ?_
          clear hK K
          try simp only [Act.put, List.setIfInBounds_toArray, List.set_cons_zero, List.set_cons_succ]
          refine wpE_l rfl rfl (fun K hK => ?_)
          refine wp_appB (ad := ⟨x3.heap.size, 0, none⟩) (m := 1) T_bool _ _ rfl (hown.alloc _) (Nat.le_trans hB (by simp)) [.bool true] rfl rfl rfl (cell_one_new _ _ _) (ends_bool _) (by omega) (by omega) ?_
          intro v2 w2 hown2 hlow0
          refine hK.out _ _ hlow0 ?_
          clear hK K
          try simp only [Act.put, List.setIfInBounds_toArray, List.set_cons_zero, List.set_cons_succ]
          have hlow : Below (ga + 1) x3 w2 := Below.trans ((Below.refl _ _).alloc hB _) hlow0
          clear hlow0
          obtain ⟨a2, c2, rfl, hs2⟩ := SlK.of_owns hown2
          have ft2 := Fz.lowB hlow ft (by omega)
          have bt2 := Bl.lowB hlow bt (by omega)
          have bp2 := Bl.lowB hlow bp (by omega)
          have fs2 := Fz.lowB hlow fs (by omega)
          have bs2 := Bl.lowB hlow bs (by omega)
          repeat (refine wpE_q (v := ?_) rfl rfl (fun u hu => ?_) ?_; rotate_left 1; (focus (have kt := Bl.lowB hu bt2 (by omega); go_simp; (try rfl))); simp only [Act.put, List.setIfInBounds_toArray, List.set_cons_zero, List.set_cons_succ])
          refine wpE_b rfl rfl (fun K hK => ?_)
          go_simp
          refine hK.out _ _ ?_
          clear hK K
          try simp only [Act.put, List.setIfInBounds_toArray, List.set_cons_zero, List.set_cons_succ]
          refine wpE_done ?_
          go_wp2_with fail
          have hb2 : But w2 (w2.setCell ⟨ga, 2, none⟩ (.slice a2 (t + 1) c2)) ga := (But.refl _ _).store
          go_roundw
          case rel =>
            refine ⟨t + 1, _, by omega, by go_num, ?_, bt2.set (by simp), ft2.set, hb2.bl bp2 (Nat.succ_pos _) (by omega), hb2.bl bs2 (Nat.succ_pos _) (by omega), hb2.fz fs2 bs2 (Nat.succ_pos _) (by omega), Nat.le_trans (Nat.le_trans hB hlow.size) hb2.1, (Below.trans HE (hlow.mono (by omega))).setCell (by show w.heap.size ≤ ga; omega) _⟩
            rw [HST.out]
            exact hb2.rowB hown2 (by omega)
          case measure => simp only [intOf]; omega
      · obtain rfl : t = n := by omega
        obtain ⟨a2, c2, rfl, hs2⟩ := SlK.of_owns hown
        rw [List.take_of_length_le (by omega)] at hs2
        have HSR : Hid (SlB wr a2 t c2 R) := hidP hs2
        clear hs2 hown
        go_wp2_with fail
        refine absB (fun ue hue => ?_)
        have hbs : Bl ue (w.heap.size + 1) #[.int .i64 x, .int .i64 y, .slice a2 t c2] := by rw [hue]; exact (((bs.set (by simp)).set (by simp)).set (by simp))
        have hnc : ∀ {aa : Option Addr} {nn cc : Nat} {ll : List Bool}, SlB wr aa nn cc ll → SlB ue aa nn cc ll := fun h => by
          rw [hue]
          exact h.but bs (not_bools) ((But.refl _ _).store.store.store)
        have heu : Ext w ue := by rw [hue]; exact ((HE.store (by show w.heap.size ≤ w.heap.size + 1; omega) _).store (by show w.heap.size ≤ w.heap.size + 1; omega) _).store (by show w.heap.size ≤ w.heap.size + 1; omega) _
        clear hue
        refine bodyPost_cells_tmp2 rfl rfl Try.underlying44 rfl (by kernel_rfl) (blk_three hbs) rfl rfl ?_
        rw [HR.out]
        exact ⟨_, _, _, rfl, hnc HSR.out, heu⟩
  · have HR : Hid (withB x y n l i j = ((0, 0, []), 2)) := hidP (if_neg hok)
    generalize withB x y n l i j = rr at *
    clear HIN H HL
    cases hm : mayR x y n
    · rw [hm] at HM
      clear hok hm
      go_enter Try.func48, Try.ntmps48
      go_wp2_with fail
      refine absC (fun x1 hx1 => ?_)
      have hx : Ext w x1 := by rw [hx1]; exact (((Ext.refl _).alloc _).alloc _)
      have bp : Bl x1 (w.heap.size) #[.int .i64 x, .int .i64 y, .slice a n c] := by rw [hx1]; exact ((Bl.new (by simp)).alloc (by simp))
      have bs : Bl x1 (w.heap.size + 1) #[.int .i64 0, .int .i64 0, .slice none 0 0] := by rw [hx1]; exact (Bl.new (by simp))
      have fs : Fz x1 (w.heap.size + 1) := by rw [hx1]; exact (Fz.new (by simp))
      have HE := hx
      clear hx
      clear hx1
      refine (HM.out _).mono ?_
      rintro e u1 ⟨rfl, hx⟩
      replace bp := Bl.ext hx bp (Nat.succ_pos _)
      replace fs := Fz.ext hx fs bs (Nat.succ_pos _)
      replace bs := Bl.ext hx bs (Nat.succ_pos _)
      replace HE := HE.trans hx
      clear hx
      go_wp2_with fail
      refine absB (fun ue hue => ?_)
      have hbs : Bl ue (w.heap.size + 1) #[.int .i64 0, .int .i64 0, .slice none 0 0] := by rw [hue]; exact (((bs.set (by simp)).set (by simp)).set (by simp))
      have hnc : ∀ {aa : Option Addr} {nn cc : Nat} {ll : List Bool}, SlB u1 aa nn cc ll → SlB ue aa nn cc ll := fun h => by
        rw [hue]
        exact h.but bs (not_bools) ((But.refl _ _).store.store.store)
      have heu : Ext w ue := by rw [hue]; exact ((HE.store (by show w.heap.size ≤ w.heap.size + 1; omega) _).store (by show w.heap.size ≤ w.heap.size + 1; omega) _).store (by show w.heap.size ≤ w.heap.size + 1; omega) _
      clear hue
      refine bodyPost_cells_tmp2 rfl rfl Try.underlying44 rfl (by kernel_rfl) (blk_three hbs) rfl rfl ?_
      rw [HR.out]
      exact ⟨none, 0, 0, rfl, SlK.nil 1 _, heu⟩
    · rw [hm] at HM
      have hcs : i < 0 ∨ (0 ≤ i ∧ j < 0) ∨ (0 ≤ i ∧ 0 ≤ j ∧ x ≤ i) ∨ (0 ≤ i ∧ 0 ≤ j ∧ i < x ∧ y ≤ j) := by
        have : ¬ (0 ≤ i ∧ i < x ∧ 0 ≤ j ∧ j < y) := fun h => hok ⟨hm, h⟩
        omega
      clear hok hm
      rcases hcs with hc0 | ⟨hc0, hc1⟩ | ⟨hc0, hc1, hc2⟩ | ⟨hc0, hc1, hc2, hc3⟩
      all_goals (
        go_enter Try.func48, Try.ntmps48
        go_wp2_with fail
        refine absC (fun x1 hx1 => ?_)
        have hx : Ext w x1 := by rw [hx1]; exact (((Ext.refl _).alloc _).alloc _)
        have bp : Bl x1 (w.heap.size) #[.int .i64 x, .int .i64 y, .slice a n c] := by rw [hx1]; exact ((Bl.new (by simp)).alloc (by simp))
        have bs : Bl x1 (w.heap.size + 1) #[.int .i64 0, .int .i64 0, .slice none 0 0] := by rw [hx1]; exact (Bl.new (by simp))
        have fs : Fz x1 (w.heap.size + 1) := by rw [hx1]; exact (Fz.new (by simp))
        have HE := hx
        clear hx
        clear hx1
        refine (HM.out _).mono ?_
        rintro e u1 ⟨rfl, hx⟩
        replace bp := Bl.ext hx bp (Nat.succ_pos _)
        replace fs := Fz.ext hx fs bs (Nat.succ_pos _)
        replace bs := Bl.ext hx bs (Nat.succ_pos _)
        replace HE := HE.trans hx
        clear hx
        go_wp2_with fail
        refine absB (fun ue hue => ?_)
        have hbs : Bl ue (w.heap.size + 1) #[.int .i64 0, .int .i64 0, .slice none 0 0] := by rw [hue]; exact (((bs.set (by simp)).set (by simp)).set (by simp))
        have hnc : ∀ {aa : Option Addr} {nn cc : Nat} {ll : List Bool}, SlB u1 aa nn cc ll → SlB ue aa nn cc ll := fun h => by
          rw [hue]
          exact h.but bs (not_bools) ((But.refl _ _).store.store.store)
        have heu : Ext w ue := by rw [hue]; exact ((HE.store (by show w.heap.size ≤ w.heap.size + 1; omega) _).store (by show w.heap.size ≤ w.heap.size + 1; omega) _).store (by show w.heap.size ≤ w.heap.size + 1; omega) _
        clear hue
        refine bodyPost_cells_tmp2 rfl rfl Try.underlying44 rfl (by kernel_rfl) (blk_three hbs) rfl rfl ?_
        rw [HR.out]
        exact ⟨none, 0, 0, rfl, SlK.nil 1 _, heu⟩)

end Go.Proofs.Ytogcmnagiepofaa
