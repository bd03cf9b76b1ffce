/- Gauge: rows of points that fit. -/
import Derived.Test.YtogcmnagiepofaaG4
import Derived.Test.YtogcmnagiepofaaPT
namespace Go.Proofs.Ytogcmnagiepofaa
set_option linter.unusedVariables false
open Go Go.RowKit

/-- Do all points fit? -/
def fitL (l : List (Int × Int)) : Bool := l.all fun p => fitP p.1 p.2
theorem fitL_take {l : List (Int × Int)} {j : Nat} (h : j < l.length) (h1 : fitL (l.take j) = true) (h2 : fitP l[j].1 l[j].2 = true) : fitL (l.take (j + 1)) = true := by
  unfold fitL at *
  rw [List.take_succ_eq_append_getElem h, List.all_append, h1]
  simp [h2]
theorem fitL_no {l : List (Int × Int)} {j : Nat} (h : j < l.length) (h2 : fitP l[j].1 l[j].2 = false) : fitL l = false := by
  unfold fitL
  rw [List.all_eq_false]
  exact ⟨l[j], List.getElem_mem h, by rw [h2]; exact Bool.false_ne_true⟩
theorem fitL_at {l : List (Int × Int)} (h : fitL l = true) (j : Nat) (hj : j < l.length) : fitP l[j].1 l[j].2 = true := by
  unfold fitL at h
  exact List.all_eq_true.1 h l[j] (List.getElem_mem hj)
theorem maxLen_le : maxLen ≤ 9223372036854775807 := by unfold maxLen; omega

set_option maxRecDepth 100000 in
set_option maxHeartbeats 4000000 in
theorem g_fits (a : Option Addr) (n cap : Nat) (l : List (Int × Int)) (w : World) (h : SlP w a n cap l) :
    Calls Try.prog 93 #[.slice a n cap] w fun e w' => e = .returned (.bool (fitL l)) ∧ Ext w w' := by
  have H := hidP h
  have HLN := hidP h.len
  have hcap : n ≤ maxLen := Nat.le_trans h.2.1 h.2.2.1
  unfold maxLen at hcap
  have HF := hidP (fun (j : Nat) (h : j < l.length) => fitL_no h); have HT := hidP (fun (j : Nat) (h : j < l.length) => fitL_take h)
  have HE0 : Hid (fitL (l.take 0) = true) := hidP (by simp [fitL])
  clear h
  go_enter Try.func93, Try.ntmps93
  go_wp2_with fail
  go_loopw [7] (fun iv wr => ∃ j : Nat, j ≤ n ∧ iv = .int .i64 (j : Int) ∧ Hid (fitL (l.take j) = true) ∧ Ext w wr) (fun iv _ => n - (intOf iv).toNat)
  case atStart => exact ⟨0, by omega, rfl, HE0, Ext.refl _⟩
  case round =>
    clear HE0
    obtain ⟨j, hj, rfl, HJ, HE⟩ := hrel
    by_cases hlt : j < n
    · obtain ⟨g, off, rfl, hc⟩ := (H.out.ext HE).at (by omega)
      obtain ⟨h1, h2⟩ := hc j (by rw [HLN.out]; exact hlt)
      have HF1 := hidP (HF.out j (by rw [HLN.out]; exact hlt))
      have HT1 := hidP (HT.out j (by rw [HLN.out]; exact hlt) HJ.out)
      have hfit := fun u => a_Fits (l[j]'(by rw [HLN.out]; exact hlt)).1 (l[j]'(by rw [HLN.out]; exact hlt)).2 u
      clear hc
      generalize (l[j]'(by rw [HLN.out]; exact hlt)).1 = px at *
      generalize (l[j]'(by rw [HLN.out]; exact hlt)).2 = py at *
      cases hfp : fitP px py
      · have HR := hidP (HF1.out hfp)
        rw [hfp] at hfit
        have HFIT := hidP hfit
        clear hfit hfp HF1 HT1
        go_wp2_with fail
        refine (HFIT.out _).mono ?_
        rintro e u1 ⟨rfl, hx⟩
        have HX := HE.trans (((Ext.refl _).alloc _).trans hx)
        clear hx
        go_wp2_with fail
        go_ret
        exact ⟨congrArg (fun x => Ending.returned (Value.bool x)) HR.out.symm, HX⟩
      · have HR := hidP (HT1.out hfp)
        rw [hfp] at hfit
        have HFIT := hidP hfit
        clear hfit hfp HF1 HT1
        go_wp2_with fail
        refine (HFIT.out _).mono ?_
        rintro e u1 ⟨rfl, hx⟩
        have HX := HE.trans (((Ext.refl _).alloc _).trans hx)
        clear hx
        go_wp2_with fail
        go_roundw
        case rel => exact ⟨j + 1, by omega, by go_num, HR, HX⟩
        case measure => simp only [intOf]; omega
    · obtain rfl : j = n := by omega
      have HR : Hid (fitL l = true) := hidP (by have := HJ.out; rwa [List.take_of_length_le (by rw [HLN.out]; omega)] at this)
      clear HJ HF HT
      go_wp2_with fail
      go_ret
      exact ⟨congrArg (fun x => Ending.returned (Value.bool x)) HR.out.symm, HE⟩

set_option maxRecDepth 100000 in
set_option maxHeartbeats 4000000 in
theorem d_fits (a : Option Addr) (n cap : Nat) (l : List (Int × Int)) (w : World) (h : SlP w a n cap l) :
    Calls Try.prog 94 #[.slice a n cap] w fun e w' => e = .returned (.bool (fitL l)) ∧ Ext w w' := by
  have H := hidP h
  have HLN := hidP h.len
  have hcap : n ≤ maxLen := Nat.le_trans h.2.1 h.2.2.1
  unfold maxLen at hcap
  have HF := hidP (fun (j : Nat) (h : j < l.length) => fitL_no h); have HT := hidP (fun (j : Nat) (h : j < l.length) => fitL_take h)
  have HE0 : Hid (fitL (l.take 0) = true) := hidP (by simp [fitL])
  clear h
  go_enter Try.func94, Try.ntmps94
  go_wp2_with fail
  go_loopw [3] (fun iv wr => ∃ j : Nat, j ≤ n ∧ iv = .int .i64 (j : Int) ∧ Hid (fitL (l.take j) = true) ∧ Ext w wr) (fun iv _ => n - (intOf iv).toNat)
  case atStart => exact ⟨0, by omega, rfl, HE0, Ext.refl _⟩
  case round =>
    clear HE0
    obtain ⟨j, hj, rfl, HJ, HE⟩ := hrel
    by_cases hlt : j < n
    · obtain ⟨g, off, rfl, hc⟩ := (H.out.ext HE).at (by omega)
      obtain ⟨h1, h2⟩ := hc j (by rw [HLN.out]; exact hlt)
      have HF1 := hidP (HF.out j (by rw [HLN.out]; exact hlt))
      have HT1 := hidP (HT.out j (by rw [HLN.out]; exact hlt) HJ.out)
      have hfit := fun u => d_Fits (l[j]'(by rw [HLN.out]; exact hlt)).1 (l[j]'(by rw [HLN.out]; exact hlt)).2 u
      clear hc
      generalize (l[j]'(by rw [HLN.out]; exact hlt)).1 = px at *
      generalize (l[j]'(by rw [HLN.out]; exact hlt)).2 = py at *
      cases hfp : fitP px py
      · have HR := hidP (HF1.out hfp)
        rw [hfp] at hfit
        have HFIT := hidP hfit
        clear hfit hfp HF1 HT1
        go_wp2_with fail
        refine (HFIT.out _).mono ?_
        rintro e u1 ⟨rfl, hx⟩
        have HX := HE.trans (hx)
        clear hx
        go_wp2_with fail
        go_ret
        exact ⟨congrArg (fun x => Ending.returned (Value.bool x)) HR.out.symm, HX⟩
      · have HR := hidP (HT1.out hfp)
        rw [hfp] at hfit
        have HFIT := hidP hfit
        clear hfit hfp HF1 HT1
        go_wp2_with fail
        refine (HFIT.out _).mono ?_
        rintro e u1 ⟨rfl, hx⟩
        have HX := HE.trans (hx)
        clear hx
        go_wp2_with fail
        go_roundw
        case rel => exact ⟨j + 1, by omega, by go_num, HR, HX⟩
        case measure => simp only [intOf]; omega
    · obtain rfl : j = n := by omega
      have HR : Hid (fitL l = true) := hidP (by have := HJ.out; rwa [List.take_of_length_le (by rw [HLN.out]; omega)] at this)
      clear HJ HF HT
      go_wp2_with fail
      go_ret
      exact ⟨congrArg (fun x => Ending.returned (Value.bool x)) HR.out.symm, HE⟩

end Go.Proofs.Ytogcmnagiepofaa
