/- Gauge: the document's areas. -/
import Derived.Test.YtogcmnagiepofaaG10
namespace Go.Proofs.Ytogcmnagiepofaa
set_option linter.unusedVariables false
open Go Go.RowKit

set_option maxRecDepth 100000 in
set_option maxHeartbeats 4000000 in
theorem d_Twice (a : Option Addr) (n cap : Nat) (l : List Pt) (w : World) (h : SlP w a n cap l) (hn : n ≤ 10000) :
    Calls Try.prog 33 #[.slice a n cap] w fun e w' => e = .returned (.int .i64 (twI l)) ∧ Ext w w' := by
  have H := hidP h
  have HLN := hidP h.len
  have hft := d_fits a n cap l w h
  clear h
  cases hfl : fitL l
  · have HR := hidP (twI_no hfl)
    rw [hfl] at hft
    have HF := hidP hft
    clear hft hfl
    go_enter Try.func33, Try.ntmps33
    go_wp2_with fail
    refine HF.out.mono ?_
    rintro e u1 ⟨rfl, hx⟩
    go_wp2_with fail
    go_ret
    exact ⟨congrArg (fun x => Ending.returned (Value.int .i64 x)) HR.out.symm, hx⟩
  · have HR := hidP (twI_yes hfl)
    have HEN := hidP (trS_end l)
    rw [hfl] at hft
    have HF := hidP hft
    have HFL := hidP hfl
    clear hft hfl
    go_enter Try.func33, Try.ntmps33
    go_wp2_with fail
    refine HF.out.mono ?_
    rintro e u1 ⟨rfl, HE⟩
    go_wp2_with fail
    go_loopw [3, 4] (fun sv iv wr => ∃ (i : Nat) (s : Int), 1 ≤ i ∧ i - 1 ≤ n - 2 ∧ iv = .int .i64 (i : Int) ∧ sv = .int .i64 s ∧ Hid (trS l (i - 1) = s) ∧ Ext w wr) (fun _ iv _ => n + 1 - (intOf iv).toNat)
    case atStart => exact ⟨1, 0, by omega, by omega, rfl, rfl, hidP rfl, HE⟩
    case round =>
      clear HE
      obtain ⟨i, s, hi1, hi2, rfl, rfl, HS, HE⟩ := hrel
      have hsb := trS_bd HFL.out (i - 1)
      rw [HS.out] at hsb
      have s1 : -5629498192035920000 ≤ s := by omega
      have s2 : s ≤ 5629498192035920000 := by omega
      clear hsb
      by_cases hlt : i + 1 < n
      · obtain ⟨g, off, rfl, hc⟩ := (H.out.ext HE).at (by omega)
        have hb0 : 0 < l.length := by rw [HLN.out]; omega
        have hb1 : i < l.length := by rw [HLN.out]; omega
        have hb2 : i + 1 < l.length := by rw [HLN.out]; omega
        obtain ⟨h1, h2⟩ := hc 0 hb0
        obtain ⟨h3, h4⟩ := hc i hb1
        obtain ⟨h5, h6⟩ := hc (i + 1) hb2
        rw [Nat.zero_mul, Nat.add_zero] at h1 h2
        have ho := fitP_iff.1 (fitL_at HFL.out 0 hb0)
        have hp := fitP_iff.1 (fitL_at HFL.out i hb1)
        have hq := fitP_iff.1 (fitL_at HFL.out (i + 1) hb2)
        have hst : trS l (i + 1 - 1) = s + tri l[0] l[i] l[i + 1] := by
          obtain ⟨k, rfl⟩ : ∃ k, i = k + 1 := ⟨i - 1, by omega⟩
          show trS l k + tri _ _ _ = _
          have e : trS l k = s := HS.out
          rw [e, List.getD_eq_getElem?_getD, List.getD_eq_getElem?_getD, List.getD_eq_getElem?_getD, List.getElem?_eq_getElem hb0, List.getElem?_eq_getElem hb1, List.getElem?_eq_getElem hb2]
          rfl
        unfold tri at hst
        clear hc
        generalize l[0].1 = ox at *
        generalize l[0].2 = oy at *
        generalize l[i].1 = px at *
        generalize l[i].2 = py at *
        generalize l[i + 1].1 = qx at *
        generalize l[i + 1].2 = qy at *
        obtain ⟨j, hj⟩ : ∃ j, j = i + 1 := ⟨_, rfl⟩
        rw [← hj] at h5 h6
        have hn0 : 0 < n := by omega
        have hni : i < n := by omega
        have hnj : j < n := by omega
        have HJ := hidP hj
        have HWJ : Hid (IntKind.i64.wrap ((i : Int) + 1) = (j : Int)) := hidP (by rw [IntWalk.i64_in _ (by omega)]; omega)
        clear hj
        have m1 := prod_bd2 (a := px - ox) (b := qy - oy) (by omega) (by omega)
        have m2 := prod_bd2 (a := py - oy) (b := qx - ox) (by omega) (by omega)
        obtain ⟨m3, m4⟩ := m1
        obtain ⟨m5, m6⟩ := m2
        obtain ⟨⟨o1, o2⟩, o3, o4⟩ := ho
        obtain ⟨⟨p1, p2⟩, p3, p4⟩ := hp
        obtain ⟨⟨q1, q2⟩, q3, q4⟩ := hq
        have HST := hidP hst
        clear hst HS hb0 hb1 hb2
        go_wp2_with fail
        have HW0 := hidP (IntWalk.i64_in (px - ox) (by omega))
        have HW1 := hidP (IntWalk.i64_in (qy - oy) (by omega))
        have HW2 := hidP (IntWalk.i64_in ((px - ox) * (qy - oy)) (by omega))
        have HW3 := hidP (IntWalk.i64_in (py - oy) (by omega))
        have HW4 := hidP (IntWalk.i64_in (qx - ox) (by omega))
        have HW5 := hidP (IntWalk.i64_in ((py - oy) * (qx - ox)) (by omega))
        have HW6 := hidP (IntWalk.i64_in ((px - ox) * (qy - oy) - (py - oy) * (qx - ox)) (by omega))
        have HW7 := hidP (IntWalk.i64_in (s + ((px - ox) * (qy - oy) - (py - oy) * (qx - ox))) (by omega))
        refine wp_region_plan (R := Ext) (.q 0 (.q 1 (.q 2 (.q 3 (.q 4 (.q 5 (.q 6 (.q 7 (.q 8 (.q 9 (.q 10 (.q 11 (.q 12 (.q 13 (.q 14 (.q 15 (.q 16 (.q 17 (.q 18 (.q 19 (.q 20 (.q 21 (.q 22 (.q 23 (.q 24 (.q 25 (.q 26 (.q 27 (.q 28 (.q 29 (.q 30 (.q 31 (.q 32 (.q 33 (.q 34 (.q 35 (.q 36 (.q 37 (.q 38 (.q 39 (.q 40 (.q 41 (.q 42 (.q 43 (.q 44 (.q 45 (.q 46 (.q 47 .done)))))))))))))))))))))))))))))))))))))))))))))))) (by kernel_rfl) (by kernel_rfl) (by kernel_rfl) (by kernel_rfl) Ext.refl (fun _ _ _ => Ext.trans) ?_
        refine absE (fun x1 hx1 => ?_)
        have hx : Ext wr x1 := by rw [hx1]; exact (Ext.refl _).drew
        replace h1 := hx.cell' h1
        replace h2 := hx.cell' h2
        replace h3 := hx.cell' h3
        replace h4 := hx.cell' h4
        replace h5 := hx.cell' h5
        replace h6 := hx.cell' h6
        replace HE := HE.trans hx
        clear hx
        clear hx1
        repeat (refine wpE_q (v := ?_) rfl rfl (fun u hu => ?_) ?_; rotate_left 1; (focus (have kh1 := hu.cell' h1; have kh2 := hu.cell' h2; have kh3 := hu.cell' h3; have kh4 := hu.cell' h4; have kh5 := hu.cell' h5; have kh6 := hu.cell' h6; have wqj := HWJ.out; have wq0 := HW0.out; have wq1 := HW1.out; have wq2 := HW2.out; have wq3 := HW3.out; have wq4 := HW4.out; have wq5 := HW5.out; have wq6 := HW6.out; have wq7 := HW7.out; go_simp; (try rfl))); simp only [Act.put, List.setIfInBounds_toArray, List.set_cons_zero, List.set_cons_succ])
        refine wpE_done ?_
        go_wp2_with fail
        go_roundw
        case rel => exact ⟨i + 1, _, by omega, by omega, by go_num, rfl, HST, HE⟩
        case measure => simp only [intOf]; omega
      · have HRR : Hid (twI l = s) := hidP (by
          have e : i - 1 = l.length - 2 := by rw [HLN.out]; omega
          rw [HR.out, ← HEN.out, ← e]; exact HS.out)
        clear HS
        have hd : decide (i + 1 < n) = false := decide_eq_false hlt
        go_wp2_with fail
        go_ret
        exact ⟨congrArg (fun x => Ending.returned (Value.int .i64 x)) HRR.out.symm, HE⟩

end Go.Proofs.Ytogcmnagiepofaa
