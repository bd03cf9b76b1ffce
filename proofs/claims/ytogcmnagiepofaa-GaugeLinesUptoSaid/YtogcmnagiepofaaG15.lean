/- Gauge: how long lines are. -/
import Derived.Test.YtogcmnagiepofaaG12
namespace Go.Proofs.Ytogcmnagiepofaa
set_option linter.unusedVariables false
open Go Go.RowKit

/-- The way back to the first point. -/
def backL (l : List Pt) (c : Bool) : Int := if h : l = [] then 0 else if c = true then lenP (l.getLast h) (l.head h) else 0
theorem longL_yes {l : List Pt} {c : Bool} (h : fitL l = true) : longL l c = path lenP l + backL l c := if_pos h
theorem longL_no {l : List Pt} {c : Bool} (h : fitL l = false) : longL l c = 0 := if_neg (by rw [h]; exact Bool.false_ne_true)
theorem backL_bd (l : List Pt) (c : Bool) : 0 ≤ backL l c ∧ backL l c ≤ 33554431 := by
  unfold backL
  split
  · omega
  · split
    · exact lenP_bd _ _
    · omega
theorem backL_at {l : List Pt} (h : 0 < l.length) : backL l true = lenP (l[l.length - 1]'(by omega)) l[0] := by
  unfold backL
  have h0 : l ≠ [] := by intro h2; rw [h2] at h; simp at h
  rw [dif_neg h0, if_pos rfl, List.getLast_eq_getElem, List.head_eq_getElem]
theorem backL_off (l : List Pt) : backL l false = 0 := by
  unfold backL
  split
  · rfl
  · rfl
/-- The program's sum so far. -/
def lgS (l : List Pt) (c : Bool) (j : Nat) : Int := if j = 0 then 0 else path lenP (l.take j) + backL l c
theorem lgS_bd {l : List Pt} {c : Bool} {j : Nat} (hj : j ≤ 10000) : 0 ≤ lgS l c j ∧ lgS l c j ≤ 335577864431 := by
  unfold lgS
  split
  · omega
  · have h1 := path_len_bd (l.take j)
    have h2 := backL_bd l c
    have h3 : (l.take j).length ≤ j := List.length_take_le _ _
    omega
theorem lgS_succ {l : List Pt} {c : Bool} {k : Nat} (h : k + 1 < l.length) : lgS l c (k + 1 + 1) = lgS l c (k + 1) + lenP l[k] l[k + 1] := by
  unfold lgS
  rw [if_neg (by omega), if_neg (by omega), path_take lenP l k h]
  omega
theorem lgS_one {l : List Pt} {c : Bool} (h : 0 < l.length) : lgS l c 1 = backL l c := by
  unfold lgS
  rw [if_neg (by omega)]
  have : path lenP (l.take 1) = 0 := by
    match l, h with
    | a :: r, _ => rfl
  rw [this]; omega
theorem lgS_end (l : List Pt) (c : Bool) : lgS l c l.length = path lenP l + backL l c := by
  unfold lgS
  split
  · next h =>
    have : l = [] := List.length_eq_zero_iff.1 h
    subst this
    rfl
  · rw [List.take_of_length_le (Nat.le_refl _)]

set_option maxRecDepth 100000 in
set_option maxHeartbeats 8000000 in
theorem g_Long (a : Option Addr) (n cap : Nat) (l : List Pt) (c : Bool) (w : World) (h : SlP w a n cap l) (hn : n ≤ 10000) :
    Calls Try.prog 31 #[.agg #[.slice a n cap, .bool c]] w fun e w' => e = .returned (.int .i64 (longL l c)) ∧ Ext w w' := by
  have H := hidP h
  have HLN := hidP h.len
  have hft := fun u (t : SlP u a n cap l) => g_fits a n cap l u t
  clear h
  cases hfl : fitL l
  · have HR := hidP (longL_no (c := c) hfl)
    rw [hfl] at hft
    have HF := hidP hft
    clear hft hfl
    go_enter Try.func31, Try.ntmps31
    go_wp2_with fail
    refine absC (fun x1 hx1 => ?_)
    have hx : Ext w x1 := by rw [hx1]; exact ((Ext.refl _).alloc _)
    have bp : Bl x1 (w.heap.size) #[.slice a n cap, .bool c] := by rw [hx1]; exact (Bl.new (by simp))
    have HE := hx
    clear hx
    clear hx1
    refine (HF.out _ (H.out.ext HE)).mono ?_
    rintro e u1 ⟨rfl, hx⟩
    replace bp := Bl.ext hx bp (Nat.succ_pos _)
    replace HE := HE.trans hx
    clear hx
    go_wp2_with fail
    go_ret
    exact ⟨congrArg (fun x => Ending.returned (Value.int .i64 x)) HR.out.symm, HE⟩
  · have HR := hidP (longL_yes (c := c) hfl)
    have HEN := hidP (lgS_end l c)
    rw [hfl] at hft
    have HF := hidP hft
    have HFL := hidP hfl
    clear hft hfl
    go_enter Try.func31, Try.ntmps31
    go_wp2_with fail
    refine absC (fun x1 hx1 => ?_)
    have hx : Ext w x1 := by rw [hx1]; exact ((Ext.refl _).alloc _)
    have bp : Bl x1 (w.heap.size) #[.slice a n cap, .bool c] := by rw [hx1]; exact (Bl.new (by simp))
    have HE := hx
    clear hx
    clear hx1
    refine (HF.out _ (H.out.ext HE)).mono ?_
    rintro e u1 ⟨rfl, hx⟩
    replace bp := Bl.ext hx bp (Nat.succ_pos _)
    replace HE := HE.trans hx
    clear hx
    go_wp2_with fail
    go_loopw [3, 13] (fun sv iv wr => ∃ (j : Nat) (s : Int), j ≤ n ∧ iv = .int .i64 (j : Int) ∧ sv = .int .i64 s ∧ Hid (lgS l c j = s) ∧ Bl wr w.heap.size #[.slice a n cap, .bool c] ∧ Ext w wr) (fun _ iv _ => n - (intOf iv).toNat)
    case atStart => exact ⟨0, 0, by omega, rfl, rfl, hidP rfl, bp, HE⟩
    case round =>
      clear HE bp
      obtain ⟨j, s, hj, rfl, rfl, HS, bp, HE⟩ := hrel
      have hsb := lgS_bd (l := l) (c := c) (j := j) (by omega)
      rw [HS.out] at hsb
      obtain ⟨s1, s2⟩ := hsb
      by_cases hlt : j < n
      · obtain ⟨g, off, rfl, hc⟩ := (H.out.ext HE).at (by omega)
        have hjl : j < l.length := by rw [HLN.out]; exact hlt
        obtain ⟨h1, h2⟩ := hc j hjl
        have lpw := bp.lt (Nat.succ_pos _)
        by_cases hj0 : j = 0
        · subst hj0
          have hs0 : s = 0 := HS.out.symm
          subst hs0
          rw [Nat.zero_mul, Nat.add_zero] at h1 h2
          cases hcc : c
          · subst hcc
            have HS1 : Hid (lgS l false 1 = 0) := hidP (by rw [lgS_one hjl, backL_off])
            clear hc
            generalize l[0].1 = px at *
            generalize l[0].2 = py at *
            clear HS
            go_upto_region 11 with fail
            refine absW (fun x1 hx1 => ?_)
            have hx : Ext wr x1 := by rw [hx1]; exact ((Ext.refl _).alloc _)
            have bx : Bl x1 (wr.heap.size) #[.int .i64 px, .int .i64 py] := by rw [hx1]; exact (Bl.new (by simp))
            replace bp := Bl.ext hx bp (Nat.succ_pos _)
            replace HE := HE.trans hx
            clear hx
            clear hx1
            go_wp2_with fail
            go_roundw
            case rel => exact ⟨1, 0, by omega, rfl, rfl, HS1, bp, HE⟩
            case measure => simp only [intOf]; omega
          · subst hcc
            have hml : l.length - 1 < l.length := by omega
            have HS1 : Hid (lgS l true 1 = lenP (l[l.length - 1]'hml) l[0]) := hidP (by rw [lgS_one hjl, backL_at hjl])
            obtain ⟨h3, h4⟩ := hc (l.length - 1) hml
            clear hc
            have hlb := lenI_bd (l[l.length - 1]'hml).1 (l[l.length - 1]'hml).2 l[0].1 l[0].2
            unfold lenP at HS1
            have hmn : l.length - 1 < n := by rw [← HLN.out]; exact hml
            have hwm : ((l.length - 1 : Nat) : Int) = (n : Int) - 1 := by have := HLN.out; omega
            generalize (l[l.length - 1]'hml).1 = qx at *
            generalize (l[l.length - 1]'hml).2 = qy at *
            generalize l.length - 1 = m at *
            generalize l[0].1 = px at *
            generalize l[0].2 = py at *
            have HWM : Hid (IntKind.i64.wrap ((n : Int) - 1) = (m : Int)) := hidP (by rw [IntWalk.i64_in _ (by omega)]; omega)
            have HLE := hidP (fun u => g_Len qx qy px py u)
            generalize lenI qx qy px py = ln at *
            have HW0 := hidP (IntWalk.i64_in (ln : Int) (by omega))
            clear HS hwm
            go_wp2_with fail
            refine absW (fun x1 hx1 => ?_)
            have hx : Ext wr x1 := by rw [hx1]; exact ((Ext.refl _).alloc _)
            have bx : Bl x1 (wr.heap.size) #[.int .i64 px, .int .i64 py] := by rw [hx1]; exact (Bl.new (by simp))
            replace bp := Bl.ext hx bp (Nat.succ_pos _)
            replace h3 := hx.cell' h3
            replace h4 := hx.cell' h4
            replace HE := HE.trans hx
            clear hx
            clear hx1
            refine wp_region_plan (R := Ext) (.q 0 (.q 1 (.q 2 (.q 3 (.q 4 (.q 5 (.q 6 (.q 7 (.q 8 (.q 9 (.l 10 (.q 11 (.q 12 .done))))))))))))) (by kernel_rfl) (by kernel_rfl) (by kernel_rfl) (by kernel_rfl) Ext.refl (fun _ _ _ => Ext.trans) ?_
            refine absE (fun x2 hx2 => ?_)
            have hx : Ext x1 x2 := by rw [hx2]; exact (Ext.refl _).drew
            replace bp := Bl.ext hx bp (Nat.succ_pos _)
            replace bx := Bl.ext hx bx (Nat.succ_pos _)
            replace h3 := hx.cell' h3
            replace h4 := hx.cell' h4
            replace HE := HE.trans hx
            clear hx
            clear hx2
            repeat (refine wpE_q (v := ?_) rfl rfl (fun u hu => ?_) ?_; rotate_left 1; (focus (have kp := Bl.ext hu bp (Nat.succ_pos _); have kx := Bl.ext hu bx (Nat.succ_pos _); have kh3 := hu.cell' h3; have kh4 := hu.cell' h4; have wqm := HWM.out; have wq0 := HW0.out; go_simp; (try rfl))); simp only [Act.put, List.setIfInBounds_toArray, List.set_cons_zero, List.set_cons_succ])
            refine wpE_l rfl rfl (fun K hK => ?_)
            go_simp
            refine (HLE.out _).mono ?_
            rintro e u5 ⟨rfl, hx⟩
            refine hK.out _ _ hx ?_
            clear hK K
            try simp only [Act.put, List.setIfInBounds_toArray, List.set_cons_zero, List.set_cons_succ]
            replace bp := Bl.ext hx bp (Nat.succ_pos _)
            replace bx := Bl.ext hx bx (Nat.succ_pos _)
            replace h3 := hx.cell' h3
            replace h4 := hx.cell' h4
            replace HE := HE.trans hx
            clear hx
            repeat (refine wpE_q (v := ?_) rfl rfl (fun u hu => ?_) ?_; rotate_left 1; (focus (have kp := Bl.ext hu bp (Nat.succ_pos _); have kx := Bl.ext hu bx (Nat.succ_pos _); have kh3 := hu.cell' h3; have kh4 := hu.cell' h4; have wqm := HWM.out; have wq0 := HW0.out; go_simp; (try rfl))); simp only [Act.put, List.setIfInBounds_toArray, List.set_cons_zero, List.set_cons_succ])
            refine wpE_done ?_
            go_wp2_with fail
            go_roundw
            case rel => exact ⟨1, _, by omega, rfl, rfl, HS1, bp, HE⟩
            case measure => simp only [intOf]; omega
        · obtain ⟨k, hk⟩ : ∃ k, j = k + 1 := ⟨j - 1, by omega⟩
          subst hk
          have hkl : k < l.length := by omega
          have HS1 : Hid (lgS l c (k + 1 + 1) = s + lenP l[k] l[k + 1]) := hidP (by rw [lgS_succ hjl, HS.out])
          obtain ⟨h3, h4⟩ := hc k hkl
          clear hc
          have hlb := lenI_bd l[k].1 l[k].2 l[k + 1].1 l[k + 1].2
          unfold lenP at HS1
          generalize l[k].1 = qx at *
          generalize l[k].2 = qy at *
          generalize l[k + 1].1 = px at *
          generalize l[k + 1].2 = py at *
          have HLE := hidP (fun u => g_Len qx qy px py u)
          generalize lenI qx qy px py = ln at *
          have hkn : k < n := by omega
          obtain ⟨j, hj9⟩ : ∃ j, j = k + 1 := ⟨_, rfl⟩
          rw [← hj9] at h1 h2
          rw [← hj9]
          have HWM : Hid (IntKind.i64.wrap ((j : Int) - 1) = (k : Int)) := hidP (by rw [IntWalk.i64_in _ (by omega)]; omega)
          have HW0 := hidP (IntWalk.i64_in (s + (ln : Int)) (by omega))
          have hj1 : 0 < j := by omega
          have hj2 : j < n := by omega
          have hjd : decide ((0 : Int) < (j : Int)) = true := decide_eq_true (by omega)
          rw [← hj9] at HS1
          have HJ9 := hidP hj9
          clear HS hj9 hj0 hlt hjl hj
          go_wp2_with fail
          refine absW (fun x1 hx1 => ?_)
          have hx : Ext wr x1 := by rw [hx1]; exact ((Ext.refl _).alloc _)
          have bx : Bl x1 (wr.heap.size) #[.int .i64 px, .int .i64 py] := by rw [hx1]; exact (Bl.new (by simp))
          replace bp := Bl.ext hx bp (Nat.succ_pos _)
          replace h3 := hx.cell' h3
          replace h4 := hx.cell' h4
          replace HE := HE.trans hx
          clear hx
          clear hx1
          refine wp_region_plan (R := Ext) (.q 0 (.q 1 (.q 2 (.q 3 (.q 4 (.q 5 (.q 6 (.q 7 (.l 8 (.q 9 (.q 10 .done))))))))))) (by kernel_rfl) (by kernel_rfl) (by kernel_rfl) (by kernel_rfl) Ext.refl (fun _ _ _ => Ext.trans) ?_
          refine absE (fun x2 hx2 => ?_)
          have hx : Ext x1 x2 := by rw [hx2]; exact (Ext.refl _).drew
          replace bp := Bl.ext hx bp (Nat.succ_pos _)
          replace bx := Bl.ext hx bx (Nat.succ_pos _)
          replace h3 := hx.cell' h3
          replace h4 := hx.cell' h4
          replace HE := HE.trans hx
          clear hx
          clear hx2
          repeat (refine wpE_q (v := ?_) rfl rfl (fun u hu => ?_) ?_; rotate_left 1; (focus (have kp := Bl.ext hu bp (Nat.succ_pos _); have kx := Bl.ext hu bx (Nat.succ_pos _); have kh3 := hu.cell' h3; have kh4 := hu.cell' h4; have wqm := HWM.out; have wq0 := HW0.out; go_simp; (try rfl))); simp only [Act.put, List.setIfInBounds_toArray, List.set_cons_zero, List.set_cons_succ])
          refine wpE_l rfl rfl (fun K hK => ?_)
          go_simp
          refine (HLE.out _).mono ?_
          rintro e u5 ⟨rfl, hx⟩
          refine hK.out _ _ hx ?_
          clear hK K
          try simp only [Act.put, List.setIfInBounds_toArray, List.set_cons_zero, List.set_cons_succ]
          replace bp := Bl.ext hx bp (Nat.succ_pos _)
          replace bx := Bl.ext hx bx (Nat.succ_pos _)
          replace h3 := hx.cell' h3
          replace h4 := hx.cell' h4
          replace HE := HE.trans hx
          clear hx
          repeat (refine wpE_q (v := ?_) rfl rfl (fun u hu => ?_) ?_; rotate_left 1; (focus (have kp := Bl.ext hu bp (Nat.succ_pos _); have kx := Bl.ext hu bx (Nat.succ_pos _); have kh3 := hu.cell' h3; have kh4 := hu.cell' h4; have wqm := HWM.out; have wq0 := HW0.out; go_simp; (try rfl))); simp only [Act.put, List.setIfInBounds_toArray, List.set_cons_zero, List.set_cons_succ])
          refine wpE_done ?_
          go_wp2_with fail
          go_roundw
          case rel => exact ⟨j + 1, _, by omega, by go_num, rfl, HS1, bp, HE⟩
          case measure => simp only [intOf]; omega
      · obtain rfl : j = n := by omega
        have HRR : Hid (longL l c = s) := hidP (by rw [HR.out, ← HEN.out, HLN.out]; exact HS.out)
        clear HS
        go_wp2_with fail
        go_ret
        exact ⟨congrArg (fun x => Ending.returned (Value.int .i64 x)) HRR.out.symm, HE⟩

end Go.Proofs.Ytogcmnagiepofaa
