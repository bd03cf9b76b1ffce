/- Gauge: how long lines are, in the document. -/
import Derived.Test.YtogcmnagiepofaaG15
namespace Go.Proofs.Ytogcmnagiepofaa
set_option linter.unusedVariables false
open Go Go.RowKit

theorem path_bd' (l : List Pt) (j : Nat) (hj : j ≤ 10000) : 0 ≤ path lenP (l.take j) ∧ path lenP (l.take j) ≤ 335544310000 := by
  have h1 := path_len_bd (l.take j)
  have h3 : (l.take j).length ≤ j := List.length_take_le _ _
  omega
set_option maxRecDepth 100000 in
set_option maxHeartbeats 8000000 in
theorem d_Long (a : Option Addr) (n cap : Nat) (l : List Pt) (c : Bool) (w : World) (h : SlP w a n cap l) (hn : n ≤ 10000) :
    Calls Try.prog 32 #[.agg #[.slice a n cap, .bool c]] w fun e w' => e = .returned (.int .i64 (longL l c)) ∧ Ext w w' := by
  have H := hidP h
  have HLN := hidP h.len
  have hft := fun u (t : SlP u a n cap l) => d_fits a n cap l u t
  clear h
  cases hfl : fitL l
  · have HR := hidP (longL_no (c := c) hfl)
    rw [hfl] at hft
    have HF := hidP hft
    clear hft hfl
    go_enter Try.func32, Try.ntmps32
    go_wp2_with fail
    refine absC (fun x1 hx1 => ?_)
    have hx : Ext w x1 := by rw [hx1]; exact ((Ext.refl _).alloc _)
    have bp : Bl x1 (w.heap.size) #[.slice a n cap, .bool c] := by rw [hx1]; exact (Bl.new (by simp))
    have HE := hx
    clear hx
    clear hx1
    refine (HF.out _ (H.out.ext HE)).mono ?_
    rintro e u1 ⟨rfl, hx⟩
    replace bp := Bl.ext hx bp (Nat.succ_pos _)
    replace HE := HE.trans hx
    clear hx
    go_wp2_with fail
    go_ret
    exact ⟨congrArg (fun x => Ending.returned (Value.int .i64 x)) HR.out.symm, HE⟩
  · have HR := hidP (longL_yes (c := c) hfl)
    rw [hfl] at hft
    have HF := hidP hft
    have HFL := hidP hfl
    clear hft hfl
    go_enter Try.func32, Try.ntmps32
    go_wp2_with fail
    refine absC (fun x1 hx1 => ?_)
    have hx : Ext w x1 := by rw [hx1]; exact ((Ext.refl _).alloc _)
    have bp : Bl x1 (w.heap.size) #[.slice a n cap, .bool c] := by rw [hx1]; exact (Bl.new (by simp))
    have HE := hx
    clear hx
    clear hx1
    refine (HF.out _ (H.out.ext HE)).mono ?_
    rintro e u1 ⟨rfl, hx⟩
    replace bp := Bl.ext hx bp (Nat.succ_pos _)
    replace HE := HE.trans hx
    clear hx
    go_wp2_with fail
    go_loopw [3, 4] (fun sv iv wr => ∃ (j : Nat) (s : Int), j ≤ n - 1 ∧ iv = .int .i64 (j : Int) ∧ sv = .int .i64 s ∧ Hid (path lenP (l.take (j + 1)) = s) ∧ Bl wr w.heap.size #[.slice a n cap, .bool c] ∧ Ext w wr) (fun _ iv _ => n - (intOf iv).toNat)
    case atStart => exact ⟨0, 0, by omega, rfl, rfl, hidP (by cases l <;> rfl), bp, HE⟩
    case round =>
      clear HE bp
      obtain ⟨j, s, hj, rfl, rfl, HS, bp, HE⟩ := hrel
      have hsb := path_bd' l (j + 1) (by omega)
      rw [HS.out] at hsb
      obtain ⟨s1, s2⟩ := hsb
      have lpw := bp.lt (Nat.succ_pos _)
      by_cases hlt : j + 1 < n
      · obtain ⟨g, off, rfl, hc⟩ := (H.out.ext HE).at (by omega)
        have hjl : j + 1 < l.length := by rw [HLN.out]; exact hlt
        have hkl : j < l.length := by omega
        obtain ⟨h1, h2⟩ := hc j hkl
        obtain ⟨h3, h4⟩ := hc (j + 1) hjl
        have HS1 : Hid (path lenP (l.take (j + 1 + 1)) = s + lenP l[j] l[j + 1]) := hidP (by rw [path_take lenP l j hjl, HS.out])
        clear hc
        have hlb := lenI_bd l[j].1 l[j].2 l[j + 1].1 l[j + 1].2
        unfold lenP at HS1
        generalize l[j].1 = qx at *
        generalize l[j].2 = qy at *
        generalize l[j + 1].1 = px at *
        generalize l[j + 1].2 = py at *
        have HLE := hidP (fun u => d_Len qx qy px py u)
        generalize lenI qx qy px py = ln at *
        obtain ⟨k, hk9⟩ : ∃ k, k = j + 1 := ⟨_, rfl⟩
        rw [← hk9] at h3 h4
        have HWM : Hid (IntKind.i64.wrap ((j : Int) + 1) = (k : Int)) := hidP (by rw [IntWalk.i64_in _ (by omega)]; omega)
        have HW0 := hidP (IntWalk.i64_in (s + (ln : Int)) (by omega))
        have hj1 : k < n := by omega
        have hj2 : j < n := by omega
        have HJ9 := hidP hk9
        clear HS hk9 hjl hkl hj
        go_wp2_with fail
        refine wp_region_plan (R := Ext) (.q 0 (.q 1 (.q 2 (.q 3 (.q 4 (.q 5 (.q 6 (.q 7 (.q 8 (.q 9 (.q 10 (.q 11 (.l 12 (.q 13 (.q 14 .done))))))))))))))) (by kernel_rfl) (by kernel_rfl) (by kernel_rfl) (by kernel_rfl) Ext.refl (fun _ _ _ => Ext.trans) ?_
        refine absE (fun x1 hx1 => ?_)
        have hx : Ext wr x1 := by rw [hx1]; exact (Ext.refl _).drew
        replace bp := Bl.ext hx bp (Nat.succ_pos _)
        replace h1 := hx.cell' h1
        replace h2 := hx.cell' h2
        replace h3 := hx.cell' h3
        replace h4 := hx.cell' h4
        replace HE := HE.trans hx
        clear hx
        clear hx1
        repeat (refine wpE_q (v := ?_) rfl rfl (fun u hu => ?_) ?_; rotate_left 1; (focus (have kp := Bl.ext hu bp (Nat.succ_pos _); have kh1 := hu.cell' h1; have kh2 := hu.cell' h2; have kh3 := hu.cell' h3; have kh4 := hu.cell' h4; have wqm := HWM.out; have wq0 := HW0.out; go_simp; (try rfl))); simp only [Act.put, List.setIfInBounds_toArray, List.set_cons_zero, List.set_cons_succ])
        refine wpE_l rfl rfl (fun K hK => ?_)
        go_simp
        refine (HLE.out _).mono ?_
        rintro e u5 ⟨rfl, hx⟩
        refine hK.out _ _ hx ?_
        clear hK K
        try simp only [Act.put, List.setIfInBounds_toArray, List.set_cons_zero, List.set_cons_succ]
        replace bp := Bl.ext hx bp (Nat.succ_pos _)
        replace h1 := hx.cell' h1
        replace h2 := hx.cell' h2
        replace h3 := hx.cell' h3
        replace h4 := hx.cell' h4
        replace HE := HE.trans hx
        clear hx
        repeat (refine wpE_q (v := ?_) rfl rfl (fun u hu => ?_) ?_; rotate_left 1; (focus (have kp := Bl.ext hu bp (Nat.succ_pos _); have kh1 := hu.cell' h1; have kh2 := hu.cell' h2; have kh3 := hu.cell' h3; have kh4 := hu.cell' h4; have wqm := HWM.out; have wq0 := HW0.out; go_simp; (try rfl))); simp only [Act.put, List.setIfInBounds_toArray, List.set_cons_zero, List.set_cons_succ])
        refine wpE_done ?_
        go_wp2_with fail
        go_roundw
        case rel => exact ⟨j + 1, _, by omega, by go_num, rfl, HS1, bp, HE⟩
        case measure => simp only [intOf]; omega
      · have hd : decide (j + 1 < n) = false := decide_eq_false hlt
        have hpt : path lenP l = s := by rw [← HS.out, List.take_of_length_le (by rw [HLN.out]; omega)]
        cases hcc : c
        · subst hcc
          have HRR : Hid (longL l false = s) := hidP (by rw [HR.out, backL_off, hpt, Int.add_zero])
          clear HS hpt
          go_wp2_with fail
          go_ret
          exact ⟨congrArg (fun x => Ending.returned (Value.int .i64 x)) HRR.out.symm, HE⟩
        · subst hcc
          by_cases hn0 : n = 0
          · subst hn0
            have hl0 : l = [] := List.length_eq_zero_iff.1 HLN.out
            have HRR : Hid (longL l true = s) := hidP (by rw [HR.out, hpt, hl0]; exact Int.add_zero _)
            clear HS hpt hl0
            go_wp2_with fail
            go_ret
            exact ⟨congrArg (fun x => Ending.returned (Value.int .i64 x)) HRR.out.symm, HE⟩
          · obtain ⟨g, off, rfl, hc⟩ := (H.out.ext HE).at (by omega)
            have hjl : 0 < l.length := by rw [HLN.out]; omega
            have hml : l.length - 1 < l.length := by omega
            have HRR : Hid (longL l true = s + lenP (l[l.length - 1]'hml) l[0]) := hidP (by rw [HR.out, backL_at hjl, hpt])
            obtain ⟨h3, h4⟩ := hc (l.length - 1) hml
            obtain ⟨h1, h2⟩ := hc 0 hjl
            rw [Nat.zero_mul, Nat.add_zero] at h1 h2
            clear hc
            have hlb := lenI_bd (l[l.length - 1]'hml).1 (l[l.length - 1]'hml).2 l[0].1 l[0].2
            unfold lenP at HRR
            have hmn : l.length - 1 < n := by rw [← HLN.out]; exact hml
            have hwm : ((l.length - 1 : Nat) : Int) = (n : Int) - 1 := by have := HLN.out; omega
            generalize (l[l.length - 1]'hml).1 = qx at *
            generalize (l[l.length - 1]'hml).2 = qy at *
            generalize l.length - 1 = m at *
            generalize l[0].1 = px at *
            generalize l[0].2 = py at *
            have HWM : Hid (IntKind.i64.wrap ((n : Int) - 1) = (m : Int)) := hidP (by rw [IntWalk.i64_in _ (by omega)]; omega)
            have HLE := hidP (fun u => d_Len qx qy px py u)
            generalize lenI qx qy px py = ln at *
            have HW0 := hidP (IntWalk.i64_in (s + (ln : Int)) (by omega))
            have hnp : 0 < n := by omega
            have hnd : decide ((0 : Int) < (n : Int)) = true := decide_eq_true (by omega)
            have HN0 := hidP hn0
            clear HS hwm hpt hn0 hjl hml
            go_wp2_with fail
            refine wp_region_plan (R := Ext) (.q 0 (.q 1 (.q 2 (.q 3 (.q 4 (.q 5 (.q 6 (.q 7 (.q 8 (.q 9 (.q 10 (.q 11 (.q 12 (.l 13 (.q 14 (.q 15 .done)))))))))))))))) (by kernel_rfl) (by kernel_rfl) (by kernel_rfl) (by kernel_rfl) Ext.refl (fun _ _ _ => Ext.trans) ?_
            refine absE (fun x1 hx1 => ?_)
            have hx : Ext wr x1 := by rw [hx1]; exact (Ext.refl _).drew
            replace bp := Bl.ext hx bp (Nat.succ_pos _)
            replace h1 := hx.cell' h1
            replace h2 := hx.cell' h2
            replace h3 := hx.cell' h3
            replace h4 := hx.cell' h4
            replace HE := HE.trans hx
            clear hx
            clear hx1
            repeat (refine wpE_q (v := ?_) rfl rfl (fun u hu => ?_) ?_; rotate_left 1; (focus (have kp := Bl.ext hu bp (Nat.succ_pos _); have kh1 := hu.cell' h1; have kh2 := hu.cell' h2; have kh3 := hu.cell' h3; have kh4 := hu.cell' h4; have wqm := HWM.out; have wq0 := HW0.out; go_simp; (try rfl))); simp only [Act.put, List.setIfInBounds_toArray, List.set_cons_zero, List.set_cons_succ])
            refine wpE_l rfl rfl (fun K hK => ?_)
            go_simp
            refine (HLE.out _).mono ?_
            rintro e u5 ⟨rfl, hx⟩
            refine hK.out _ _ hx ?_
            clear hK K
            try simp only [Act.put, List.setIfInBounds_toArray, List.set_cons_zero, List.set_cons_succ]
            replace bp := Bl.ext hx bp (Nat.succ_pos _)
            replace h1 := hx.cell' h1
            replace h2 := hx.cell' h2
            replace h3 := hx.cell' h3
            replace h4 := hx.cell' h4
            replace HE := HE.trans hx
            clear hx
            repeat (refine wpE_q (v := ?_) rfl rfl (fun u hu => ?_) ?_; rotate_left 1; (focus (have kp := Bl.ext hu bp (Nat.succ_pos _); have kh1 := hu.cell' h1; have kh2 := hu.cell' h2; have kh3 := hu.cell' h3; have kh4 := hu.cell' h4; have wqm := HWM.out; have wq0 := HW0.out; go_simp; (try rfl))); simp only [Act.put, List.setIfInBounds_toArray, List.set_cons_zero, List.set_cons_succ])
            refine wpE_done ?_
            go_wp2_with fail
            go_ret
            exact ⟨congrArg (fun x => Ending.returned (Value.int .i64 x)) HRR.out.symm, HE⟩

end Go.Proofs.Ytogcmnagiepofaa
