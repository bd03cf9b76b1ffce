/- Gauge: areas. -/
import Derived.Test.YtogcmnagiepofaaGP
import Derived.IntWalk
namespace Go.Proofs.Ytogcmnagiepofaa
set_option linter.unusedVariables false
open Go Go.RowKit

theorem twI_yes {l : List Pt} (h : fitL l = true) : twI l = twL l := if_pos h
theorem twI_no {l : List Pt} (h : fitL l = false) : twI l = 0 := if_neg (by rw [h]; exact Bool.false_ne_true)
theorem prod_bd {a b : Int} (h1 : -8388607 ≤ a ∧ a ≤ 8388607) (h2 : -8388607 ≤ b ∧ b ≤ 8388607) : -70368727400449 ≤ a * b ∧ a * b ≤ 70368727400449 := by
  have := mul_bd (a := a) (b := b) (A := 8388607) (B := 8388607) (by omega) (by omega)
  omega
theorem prod_bd2 {a b : Int} (h1 : -16777214 ≤ a ∧ a ≤ 16777214) (h2 : -16777214 ≤ b ∧ b ≤ 16777214) : -281474909601796 ≤ a * b ∧ a * b ≤ 281474909601796 := by
  have := mul_bd (a := a) (b := b) (A := 16777214) (B := 16777214) (by omega) (by omega)
  omega

set_option maxRecDepth 100000 in
set_option maxHeartbeats 4000000 in
theorem g_Twice (a : Option Addr) (n cap : Nat) (l : List Pt) (w : World) (h : SlP w a n cap l) (hn : n ≤ 10000) :
    Calls Try.prog 27 #[.slice a n cap] w fun e w' => e = .returned (.int .i64 (twI l)) ∧ Ext w w' := by
  have H := hidP h
  have HLN := hidP h.len
  have hft := g_fits a n cap l w h
  clear h
  cases hfl : fitL l
  · have HR := hidP (twI_no hfl)
    rw [hfl] at hft
    have HF := hidP hft
    clear hft hfl
    go_enter Try.func27, Try.ntmps27
    go_wp2_with fail
    refine HF.out.mono ?_
    rintro e u1 ⟨rfl, hx⟩
    go_wp2_with fail
    go_ret
    exact ⟨congrArg (fun x => Ending.returned (Value.int .i64 x)) HR.out.symm, hx⟩
  · have HR := hidP (twI_yes hfl)
    have HEN := hidP (twS_end l)
    rw [hfl] at hft
    have HF := hidP hft
    have HFL := hidP hfl
    clear hft hfl
    go_enter Try.func27, Try.ntmps27
    go_wp2_with fail
    refine HF.out.mono ?_
    rintro e u1 ⟨rfl, HE⟩
    go_wp2_with fail
    go_loopw [3, 12] (fun sv iv wr => ∃ (j : Nat) (s : Int), j ≤ n ∧ iv = .int .i64 (j : Int) ∧ sv = .int .i64 s ∧ Hid (twS l j = s) ∧ Ext w wr) (fun _ iv _ => n - (intOf iv).toNat)
    case atStart => exact ⟨0, 0, by omega, rfl, rfl, hidP rfl, HE⟩
    case round =>
      clear HE
      obtain ⟨j, s, hj, rfl, rfl, HS, HE⟩ := hrel
      have hsb := twS_bd HFL.out j
      rw [HS.out] at hsb
      have s1 : -1407374548008980000 ≤ s := by omega
      have s2 : s ≤ 1407374548008980000 := by omega
      clear hsb
      by_cases hlt : j < n
      · obtain ⟨g, off, rfl, hc⟩ := (H.out.ext HE).at (by omega)
        have hk : (j + 1) % n < n := Nat.mod_lt _ (by omega)
        have htm : ((j : Int) + 1).tmod (n : Int) = (((j + 1) % n : Nat) : Int) := by
          rw [Int.tmod_eq_emod_of_nonneg (by omega)]; simp
        obtain ⟨h1, h2⟩ := hc j (by rw [HLN.out]; exact hlt)
        obtain ⟨h3, h4⟩ := hc ((j + 1) % n) (by rw [HLN.out]; exact hk)
        have hp := fitP_iff.1 (fitL_at HFL.out j (by rw [HLN.out]; exact hlt))
        have hq := fitP_iff.1 (fitL_at HFL.out ((j + 1) % n) (by rw [HLN.out]; exact hk))
        have hst : twS l (j + 1) = s + cr (l[j]'(by rw [HLN.out]; exact hlt)) (l[(j + 1) % n]'(by rw [HLN.out]; exact hk)) := by
          show twS l j + cr _ _ = _
          rw [HS.out, show (j + 1) % l.length = (j + 1) % n by rw [HLN.out], List.getD_eq_getElem?_getD, List.getD_eq_getElem?_getD, List.getElem?_eq_getElem (by rw [HLN.out]; exact hlt), List.getElem?_eq_getElem (by rw [HLN.out]; exact hk)]
          rfl
        unfold cr at hst
        clear hc
        generalize (j + 1) % n = k at *
        generalize (l[j]'(by rw [HLN.out]; exact hlt)).1 = px at *
        generalize (l[j]'(by rw [HLN.out]; exact hlt)).2 = py at *
        generalize (l[k]'(by rw [HLN.out]; exact hk)).1 = qx at *
        generalize (l[k]'(by rw [HLN.out]; exact hk)).2 = qy at *
        have m1 := prod_bd hp.1 hq.2
        have m2 := prod_bd hq.1 hp.2
        obtain ⟨m3, m4⟩ := m1
        obtain ⟨m5, m6⟩ := m2
        have HST := hidP hst
        have HTM := hidP htm
        have hnz : ¬ n = 0 := by omega
        clear hst htm hp hq HS
        go_wp2_with fail
        have HW0 := hidP (IntWalk.i64_in ((j : Int) + 1) (by omega))
        have loh1 := cell_lt h1
        have loh2 := cell_lt h2
        have loh3 := cell_lt h3
        have loh4 := cell_lt h4
        have hlo : wr.heap.size ≤ wr.heap.size := Nat.le_refl _
        refine wp_region_plan (R := Below wr.heap.size) (.q 0 (.q 1 (.q 2 (.q 3 (.q 4 (.q 5 (.q 6 (.q 7 (.q 8 (.q 9 (.q 10 (.q 11 (.br 12 (.l 13 (.l 14 (.b 15 .done))) (.l 13 (.l 12 (.l 14 (.b 15 .done))))))))))))))))) (by kernel_rfl) (by kernel_rfl) (by kernel_rfl) (by kernel_rfl) (Below.refl _) (fun _ _ _ => Below.trans) ?_
        refine absE (fun x1 hx1 => ?_)
        have hx : Ext wr x1 := by rw [hx1]; exact (Ext.refl _).drew
        replace hlo := Nat.le_trans hlo hx.size
        replace h1 := hx.cell' h1
        replace h2 := hx.cell' h2
        replace h3 := hx.cell' h3
        replace h4 := hx.cell' h4
        replace HE := HE.trans hx
        clear hx
        clear hx1
        repeat (refine wpE_q (v := ?_) rfl rfl (fun u hu => ?_) ?_; rotate_left 1; (focus (have kh1 := low_cell hu h1 loh1; have kh2 := low_cell hu h2 loh2; have kh3 := low_cell hu h3 loh3; have kh4 := low_cell hu h4 loh4; have wq0 := HW0.out; have tq := HTM.out; go_simp; (try rfl))); simp only [Act.put, List.setIfInBounds_toArray, List.set_cons_zero, List.set_cons_succ])
        refine wpE_br rfl rfl (fun K hK => ?_) ?_
        · go_simp
          refine hK.out _ _ ((Below.refl _ _).alloc hlo _) ?_
          clear hK K
          try simp only [Act.put, List.setIfInBounds_toArray, List.set_cons_zero, List.set_cons_succ]
          have gep := hlo
          have lh1p := cell_lt h1
          have lh2p := cell_lt h2
          have lh3p := cell_lt h3
          have lh4p := cell_lt h4
          have l0p := HE.size
          refine absE (fun x2 hx2 => ?_)
          have hx : Ext x1 x2 := by rw [hx2]; exact ((Ext.refl _).alloc _)
          have bp : Bl x2 (x1.heap.size) #[.int .i64 0, .int .i64 0] := by rw [hx2]; exact (Bl.new (by simp))
          have fp : Fz x2 (x1.heap.size) := by rw [hx2]; exact (Fz.new (by simp))
          replace hlo := Nat.le_trans hlo hx.size
          replace h1 := hx.cell' h1
          replace h2 := hx.cell' h2
          replace h3 := hx.cell' h3
          replace h4 := hx.cell' h4
          replace HE := HE.trans hx
          clear hx
          clear hx2
          refine wpE_l rfl rfl (fun K hK => ?_)
          go_simp
          refine hK.out _ _ ((Below.refl _ _).alloc hlo _) ?_
          clear hK K
          try simp only [Act.put, List.setIfInBounds_toArray, List.set_cons_zero, List.set_cons_succ]
          have geq := hlo
          have lpq := bp.lt (Nat.succ_pos _)
          have lh1q := cell_lt h1
          have lh2q := cell_lt h2
          have lh3q := cell_lt h3
          have lh4q := cell_lt h4
          have l0q := HE.size
          refine absE (fun x3 hx3 => ?_)
          have hx : Ext x2 x3 := by rw [hx3]; exact ((Ext.refl _).alloc _)
          have bq : Bl x3 (x2.heap.size) #[.int .i64 0, .int .i64 0] := by rw [hx3]; exact (Bl.new (by simp))
          have fq : Fz x3 (x2.heap.size) := by rw [hx3]; exact (Fz.new (by simp))
          replace hlo := Nat.le_trans hlo hx.size
          replace fp := Fz.ext hx fp bp (Nat.succ_pos _)
          replace bp := Bl.ext hx bp (Nat.succ_pos _)
          replace h1 := hx.cell' h1
          replace h2 := hx.cell' h2
          replace h3 := hx.cell' h3
          replace h4 := hx.cell' h4
          replace HE := HE.trans hx
          clear hx
          clear hx3
          refine wpE_l rfl rfl (fun K hK => ?_)
          go_simp
          refine hK.out _ _ (((Below.refl _ _).setCell (by show wr.heap.size ≤ x1.heap.size; omega) _).setCell (by show wr.heap.size ≤ x1.heap.size; omega) _) ?_
          clear hK K
          try simp only [Act.put, List.setIfInBounds_toArray, List.set_cons_zero, List.set_cons_succ]
          refine absE (fun x4 hx4 => ?_)
          have hbut : But x3 x4 (x1.heap.size) := by rw [hx4]; exact (But.refl _ _).store.store
          have hbn : Bl x4 (x1.heap.size) #[.int .i64 px, .int .i64 py] := by rw [hx4]; exact (Bl.set (Bl.set bp (by simp)) (by simp))
          replace h1 := But.cell hbut h1 (by show g ≠ _; omega)
          replace h2 := But.cell hbut h2 (by show g ≠ _; omega)
          replace h3 := But.cell hbut h3 (by show g ≠ _; omega)
          replace h4 := But.cell hbut h4 (by show g ≠ _; omega)
          replace fq := But.fz hbut fq bq (Nat.succ_pos _) (by omega)
          replace bq := But.bl hbut bq (Nat.succ_pos _) (by omega)
          replace fp : Fz x4 (x1.heap.size) := by rw [hx4]; exact (Fz.set (Fz.set fp))
          replace HE : Ext w x4 := by rw [hx4]; exact ((HE.store (by show w.heap.size ≤ x1.heap.size; omega) _).store (by show w.heap.size ≤ x1.heap.size; omega) _)
          replace hlo : wr.heap.size ≤ x4.heap.size := Nat.le_trans hlo hbut.1
          clear bp hbut hx4
          have bp := hbn
          clear hbn
          refine wpE_b rfl rfl (fun K hK => ?_)
          go_simp
          refine hK.out _ _ ?_
          clear hK K
          try simp only [Act.put, List.setIfInBounds_toArray, List.set_cons_zero, List.set_cons_succ]
          refine absE (fun x5 hx5 => ?_)
          have hbut : But x4 x5 (x2.heap.size) := by rw [hx5]; exact (But.refl _ _).store.store
          have hbn : Bl x5 (x2.heap.size) #[.int .i64 qx, .int .i64 qy] := by rw [hx5]; exact (Bl.set (Bl.set bq (by simp)) (by simp))
          replace h1 := But.cell hbut h1 (by show g ≠ _; omega)
          replace h2 := But.cell hbut h2 (by show g ≠ _; omega)
          replace h3 := But.cell hbut h3 (by show g ≠ _; omega)
          replace h4 := But.cell hbut h4 (by show g ≠ _; omega)
          replace fp := But.fz hbut fp bp (Nat.succ_pos _) (by omega)
          replace bp := But.bl hbut bp (Nat.succ_pos _) (by omega)
          replace fq : Fz x5 (x2.heap.size) := by rw [hx5]; exact (Fz.set (Fz.set fq))
          replace HE : Ext w x5 := by rw [hx5]; exact ((HE.store (by show w.heap.size ≤ x2.heap.size; omega) _).store (by show w.heap.size ≤ x2.heap.size; omega) _)
          replace hlo : wr.heap.size ≤ x5.heap.size := Nat.le_trans hlo hbut.1
          clear bq hbut hx5
          have bq := hbn
          clear hbn
          refine wpE_done ?_
          clear hlo
          go_wp2_with fail
          go_roundw
          case rel => exact ⟨j + 1, _, by omega, by go_num, rfl, HST, HE⟩
          case measure => simp only [intOf]; omega
        · refine wpE_l rfl rfl (fun K hK => ?_)
          go_simp
          refine hK.out _ _ ((Below.refl _ _).alloc hlo _) ?_
          clear hK K
          try simp only [Act.put, List.setIfInBounds_toArray, List.set_cons_zero, List.set_cons_succ]
          have geq := hlo
          have lh1q := cell_lt h1
          have lh2q := cell_lt h2
          have lh3q := cell_lt h3
          have lh4q := cell_lt h4
          have l0q := HE.size
          refine absE (fun x2 hx2 => ?_)
          have hx : Ext x1 x2 := by rw [hx2]; exact ((Ext.refl _).alloc _)
          have bq : Bl x2 (x1.heap.size) #[.int .i64 0, .int .i64 0] := by rw [hx2]; exact (Bl.new (by simp))
          have fq : Fz x2 (x1.heap.size) := by rw [hx2]; exact (Fz.new (by simp))
          replace hlo := Nat.le_trans hlo hx.size
          replace h1 := hx.cell' h1
          replace h2 := hx.cell' h2
          replace h3 := hx.cell' h3
          replace h4 := hx.cell' h4
          replace HE := HE.trans hx
          clear hx
          clear hx2
          refine wpE_l rfl rfl (fun K hK => ?_)
          go_simp
          refine hK.out _ _ ((Below.refl _ _).alloc hlo _) ?_
          clear hK K
          try simp only [Act.put, List.setIfInBounds_toArray, List.set_cons_zero, List.set_cons_succ]
          have gep := hlo
          have lqp := bq.lt (Nat.succ_pos _)
          have lh1p := cell_lt h1
          have lh2p := cell_lt h2
          have lh3p := cell_lt h3
          have lh4p := cell_lt h4
          have l0p := HE.size
          refine absE (fun x3 hx3 => ?_)
          have hx : Ext x2 x3 := by rw [hx3]; exact ((Ext.refl _).alloc _)
          have bp : Bl x3 (x2.heap.size) #[.int .i64 0, .int .i64 0] := by rw [hx3]; exact (Bl.new (by simp))
          have fp : Fz x3 (x2.heap.size) := by rw [hx3]; exact (Fz.new (by simp))
          replace hlo := Nat.le_trans hlo hx.size
          replace fq := Fz.ext hx fq bq (Nat.succ_pos _)
          replace bq := Bl.ext hx bq (Nat.succ_pos _)
          replace h1 := hx.cell' h1
          replace h2 := hx.cell' h2
          replace h3 := hx.cell' h3
          replace h4 := hx.cell' h4
          replace HE := HE.trans hx
          clear hx
          clear hx3
          refine wpE_l rfl rfl (fun K hK => ?_)
          go_simp
          refine hK.out _ _ (((Below.refl _ _).setCell (by show wr.heap.size ≤ x2.heap.size; omega) _).setCell (by show wr.heap.size ≤ x2.heap.size; omega) _) ?_
          clear hK K
          try simp only [Act.put, List.setIfInBounds_toArray, List.set_cons_zero, List.set_cons_succ]
          refine absE (fun x4 hx4 => ?_)
          have hbut : But x3 x4 (x2.heap.size) := by rw [hx4]; exact (But.refl _ _).store.store
          have hbn : Bl x4 (x2.heap.size) #[.int .i64 px, .int .i64 py] := by rw [hx4]; exact (Bl.set (Bl.set bp (by simp)) (by simp))
          replace h1 := But.cell hbut h1 (by show g ≠ _; omega)
          replace h2 := But.cell hbut h2 (by show g ≠ _; omega)
          replace h3 := But.cell hbut h3 (by show g ≠ _; omega)
          replace h4 := But.cell hbut h4 (by show g ≠ _; omega)
          replace fq := But.fz hbut fq bq (Nat.succ_pos _) (by omega)
          replace bq := But.bl hbut bq (Nat.succ_pos _) (by omega)
          replace fp : Fz x4 (x2.heap.size) := by rw [hx4]; exact (Fz.set (Fz.set fp))
          replace HE : Ext w x4 := by rw [hx4]; exact ((HE.store (by show w.heap.size ≤ x2.heap.size; omega) _).store (by show w.heap.size ≤ x2.heap.size; omega) _)
          replace hlo : wr.heap.size ≤ x4.heap.size := Nat.le_trans hlo hbut.1
          clear bp hbut hx4
          have bp := hbn
          clear hbn
          refine wpE_b rfl rfl (fun K hK => ?_)
          go_simp
          refine hK.out _ _ ?_
          clear hK K
          try simp only [Act.put, List.setIfInBounds_toArray, List.set_cons_zero, List.set_cons_succ]
          refine absE (fun x5 hx5 => ?_)
          have hbut : But x4 x5 (x1.heap.size) := by rw [hx5]; exact (But.refl _ _).store.store
          have hbn : Bl x5 (x1.heap.size) #[.int .i64 qx, .int .i64 qy] := by rw [hx5]; exact (Bl.set (Bl.set bq (by simp)) (by simp))
          replace h1 := But.cell hbut h1 (by show g ≠ _; omega)
          replace h2 := But.cell hbut h2 (by show g ≠ _; omega)
          replace h3 := But.cell hbut h3 (by show g ≠ _; omega)
          replace h4 := But.cell hbut h4 (by show g ≠ _; omega)
          replace fp := But.fz hbut fp bp (Nat.succ_pos _) (by omega)
          replace bp := But.bl hbut bp (Nat.succ_pos _) (by omega)
          replace fq : Fz x5 (x1.heap.size) := by rw [hx5]; exact (Fz.set (Fz.set fq))
          replace HE : Ext w x5 := by rw [hx5]; exact ((HE.store (by show w.heap.size ≤ x1.heap.size; omega) _).store (by show w.heap.size ≤ x1.heap.size; omega) _)
          replace hlo : wr.heap.size ≤ x5.heap.size := Nat.le_trans hlo hbut.1
          clear bq hbut hx5
          have bq := hbn
          clear hbn
          refine wpE_done ?_
          clear hlo
          go_wp2_with fail
          go_roundw
          case rel => exact ⟨j + 1, _, by omega, by go_num, rfl, HST, HE⟩
          case measure => simp only [intOf]; omega
      · obtain rfl : j = n := by omega
        have HRR : Hid (twI l = s) := hidP (by rw [HR.out, ← HEN.out, HLN.out]; exact HS.out)
        clear HS
        go_wp2_with fail
        go_ret
        exact ⟨congrArg (fun x => Ending.returned (Value.int .i64 x)) HRR.out.symm, HE⟩

end Go.Proofs.Ytogcmnagiepofaa
