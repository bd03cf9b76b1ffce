/- Gauge: points against the clock. -/
import Derived.Test.YtogcmnagiepofaaG11
namespace Go.Proofs.Ytogcmnagiepofaa
set_option linter.unusedVariables false
open Go Go.RowKit

theorem ownsRow_extK {K : Nat} {W w u : World} {e : TypeId} {v : Value} {n : Nat} {xs : List Value} (h : w.ownsRow W.heap.size e K v n xs) (he : Ext w u) : u.ownsRow W.heap.size e K v n xs := by
  obtain ⟨h1, h2⟩ := h
  refine ⟨h1, ?_⟩
  rcases h2 with h2 | ⟨g, cap, cur, hv, hg, hh, hn, hm, hs, hx⟩
  · exact .inl h2
  · have hlt : g < w.heap.size := by
      rcases Nat.lt_or_ge g w.heap.size with h | h
      · exact h
      · rw [Array.getElem?_eq_none h] at hh; cases hh
    exact .inr ⟨g, cap, cur, hv, hg, by rw [he.block g hlt]; exact hh, hn, hm, hs, hx⟩
theorem slk_cut {K : Nat} {w : World} {a : Option Addr} {n cap : Nat} {xs : List Value} (h : SlK K w a n cap xs) : SlK K w a n n xs := ⟨h.1, Nat.le_refl _, Nat.le_trans h.2.1 h.2.2.1, h.2.2.2⟩

set_option maxRecDepth 100000 in
set_option maxHeartbeats 4000000 in
theorem g_Round (a : Option Addr) (n cap : Nat) (l : List Pt) (w : World) (h : SlP w a n cap l) (hn : n ≤ 10000) :
    Calls Try.prog 28 #[.slice a n cap] w (RetP w (roundL l)) := by
  have H := hidP h
  have HLN := hidP h.len
  have HRL : Hid ((roundL l).length = n) := hidP (by unfold roundL; split <;> simp [h.len])
  have hft := fun u (t : SlP u a n cap l) => g_Twice a n cap l u t hn
  clear h
  by_cases hb : twI l < 0
  · have hdb : decide (twI l < 0) = true := decide_eq_true hb
    have HRE : Hid (∀ j (hj : j < n), (roundL l)[j]'(by rw [HRL.out]; exact hj) = l[n - 1 - j]'(by rw [HLN.out]; omega)) := hidP (fun j hj => by
      unfold roundL
      simp only [if_pos hb]
      rw [List.getElem_reverse]; congr 1; rw [HLN.out])
    generalize twI l = tw at *
    have HF := hidP hft
    have HBB := hidP hb
    clear hft hb
    generalize roundL l = R at *
    go_enter Try.func28, Try.ntmps28
    go_wp2_with (first | (at_make; refine wpList_make0K (W := w) (n := n) T_pt rfl _ _ rfl rfl rfl (Ext.refl _) (by omega) (by omega) ?_; intro w0 hown0 he0) | fail)
    refine (HF.out _ (H.out.ext he0)).mono ?_
    rintro e u1 ⟨rfl, hx1⟩
    have hown1 := ownsRow_extK hown0 hx1
    have HE1 := he0.trans hx1
    clear hown0 he0 hx1
    go_wp2_with fail
    go_loopw [3, 14] (fun vv iv wr => ∃ j : Nat, j ≤ n ∧ iv = .int .i64 (j : Int) ∧ wr.ownsRow w.heap.size 26 2 vv j (pts (R.take j)) ∧ Ext w wr) (fun _ iv _ => n - (intOf iv).toNat)
    case atStart => exact ⟨0, by omega, rfl, by simpa [pts] using hown1, HE1⟩
    case round =>
      clear hown1 HE1
      obtain ⟨j, hj, rfl, hown, HE⟩ := hrel
      by_cases hlt : j < n
      · obtain ⟨g, off, rfl, hc⟩ := (H.out.ext HE).at (by omega)
        have hk : n - 1 - j < l.length := by rw [HLN.out]; omega
        obtain ⟨h1, h2⟩ := hc (n - 1 - j) hk
        have HT : Hid (R.take (j + 1) = R.take j ++ [l[n - 1 - j]]) := hidP (by rw [List.take_succ_eq_append_getElem (by rw [HRL.out]; exact hlt), HRE.out j hlt])
        clear hc
        generalize hpp : l[n - 1 - j] = pp at *
        obtain ⟨px, py⟩ := pp
        have HPP := hidP hpp
        clear hpp
        simp only at h1 h2
        have hi1 : (0 : Int) ≤ (n : Int) - 1 - (j : Int) := by omega
        have hi2 : (n : Int) - 1 - (j : Int) < (n : Int) := by omega
        go_wp2_with (at_builtin; refine wpList_appK T_pt rfl _ _ rfl hown HE #[.int .i64 px, .int .i64 py] rfl (ends_pt _ _) rfl rfl (by omega) (by omega) ?_; intro v' w' hown' he')
        go_roundw
        case rel => exact ⟨j + 1, by omega, by go_num, by rw [HT.out, pts_append]; exact hown', he'⟩
        case measure => simp only [intOf]; omega
      · obtain rfl : j = n := by omega
        have HTT : Hid (R.take j = R) := hidP (List.take_of_length_le (by rw [HRL.out]; omega))
        obtain ⟨a5, cap5, rfl, hsl⟩ := SlK.of_owns hown
        rw [HTT.out] at hsl
        have HSL := hidP hsl
        have hcap5 : j ≤ cap5 := hsl.2.1
        have hcm : cap5 ≤ maxLen := hsl.2.2.1
        unfold maxLen at hcm
        clear hsl hown
        go_wp2_with fail
        go_ret
        exact ⟨_, _, _, rfl, slk_cut HSL.out, HE⟩
  · have hdb : decide (twI l < 0) = false := decide_eq_false hb
    have HRE : Hid (∀ j (hj : j < n), (roundL l)[j]'(by rw [HRL.out]; exact hj) = l[j]'(by rw [HLN.out]; omega)) := hidP (fun j hj => by
      unfold roundL
      simp only [if_neg hb]
      skip)
    generalize twI l = tw at *
    have HF := hidP hft
    have HBB := hidP hb
    clear hft hb
    generalize roundL l = R at *
    go_enter Try.func28, Try.ntmps28
    go_wp2_with (first | (at_make; refine wpList_make0K (W := w) (n := n) T_pt rfl _ _ rfl rfl rfl (Ext.refl _) (by omega) (by omega) ?_; intro w0 hown0 he0) | fail)
    refine (HF.out _ (H.out.ext he0)).mono ?_
    rintro e u1 ⟨rfl, hx1⟩
    have hown1 := ownsRow_extK hown0 hx1
    have HE1 := he0.trans hx1
    clear hown0 he0 hx1
    go_wp2_with fail
    go_loopw [3, 14] (fun vv iv wr => ∃ j : Nat, j ≤ n ∧ iv = .int .i64 (j : Int) ∧ wr.ownsRow w.heap.size 26 2 vv j (pts (R.take j)) ∧ Ext w wr) (fun _ iv _ => n - (intOf iv).toNat)
    case atStart => exact ⟨0, by omega, rfl, by simpa [pts] using hown1, HE1⟩
    case round =>
      clear hown1 HE1
      obtain ⟨j, hj, rfl, hown, HE⟩ := hrel
      by_cases hlt : j < n
      · obtain ⟨g, off, rfl, hc⟩ := (H.out.ext HE).at (by omega)
        have hk : j < l.length := by rw [HLN.out]; exact hlt
        obtain ⟨h1, h2⟩ := hc j hk
        have HT : Hid (R.take (j + 1) = R.take j ++ [l[j]]) := hidP (by rw [List.take_succ_eq_append_getElem (by rw [HRL.out]; exact hlt), HRE.out j hlt])
        clear hc
        generalize hpp : l[j] = pp at *
        obtain ⟨px, py⟩ := pp
        have HPP := hidP hpp
        clear hpp
        simp only at h1 h2
        go_wp2_with (at_builtin; refine wpList_appK T_pt rfl _ _ rfl hown HE #[.int .i64 px, .int .i64 py] rfl (ends_pt _ _) rfl rfl (by omega) (by omega) ?_; intro v' w' hown' he')
        go_roundw
        case rel => exact ⟨j + 1, by omega, by go_num, by rw [HT.out, pts_append]; exact hown', he'⟩
        case measure => simp only [intOf]; omega
      · obtain rfl : j = n := by omega
        have HTT : Hid (R.take j = R) := hidP (List.take_of_length_le (by rw [HRL.out]; omega))
        obtain ⟨a5, cap5, rfl, hsl⟩ := SlK.of_owns hown
        rw [HTT.out] at hsl
        have HSL := hidP hsl
        have hcap5 : j ≤ cap5 := hsl.2.1
        have hcm : cap5 ≤ maxLen := hsl.2.2.1
        unfold maxLen at hcm
        clear hsl hown
        go_wp2_with fail
        go_ret
        exact ⟨_, _, _, rfl, slk_cut HSL.out, HE⟩

set_option maxRecDepth 100000 in
set_option maxHeartbeats 4000000 in
theorem d_Round (a : Option Addr) (n cap : Nat) (l : List Pt) (w : World) (h : SlP w a n cap l) (hn : n ≤ 10000) :
    Calls Try.prog 35 #[.slice a n cap] w (RetP w (roundL l)) := by
  have H := hidP h
  have HLN := hidP h.len
  have HRL : Hid ((roundL l).length = n) := hidP (by unfold roundL; split <;> simp [h.len])
  have hft := fun u (t : SlP u a n cap l) => d_Twice a n cap l u t hn
  clear h
  by_cases hb : twI l < 0
  · have hdb : decide (twI l < 0) = true := decide_eq_true hb
    have HRE : Hid (∀ j (hj : j < n), (roundL l)[j]'(by rw [HRL.out]; exact hj) = l[n - 1 - j]'(by rw [HLN.out]; omega)) := hidP (fun j hj => by
      unfold roundL
      simp only [if_pos hb]
      rw [List.getElem_reverse]; congr 1; rw [HLN.out])
    generalize twI l = tw at *
    have HF := hidP hft
    have HBB := hidP hb
    clear hft hb
    generalize roundL l = R at *
    go_enter Try.func35, Try.ntmps35
    go_wp2_with fail
    go_loopw [3, 4] (fun vv iv wr => ∃ j : Nat, j ≤ n ∧ iv = .int .i64 (j : Int) ∧ wr.ownsRow w.heap.size 26 2 vv j (pts (R.take j)) ∧ Ext w wr) (fun _ iv _ => n - (intOf iv).toNat)
    case atStart => exact ⟨0, by omega, rfl, by simpa [pts] using (World.ownsRow_nil _ _ _ _), (Ext.refl _)⟩
    case round =>
      obtain ⟨j, hj, rfl, hown, HE⟩ := hrel
      by_cases hlt : j < n
      · obtain ⟨g, off, rfl, hc⟩ := (H.out.ext HE).at (by omega)
        have hk : n - 1 - j < l.length := by rw [HLN.out]; omega
        obtain ⟨h1, h2⟩ := hc (n - 1 - j) hk
        have HT : Hid (R.take (j + 1) = R.take j ++ [l[n - 1 - j]]) := hidP (by rw [List.take_succ_eq_append_getElem (by rw [HRL.out]; exact hlt), HRE.out j hlt])
        clear hc
        generalize hpp : l[n - 1 - j] = pp at *
        obtain ⟨px, py⟩ := pp
        have HPP := hidP hpp
        clear hpp
        simp only at h1 h2
        have hi1 : (0 : Int) ≤ (n : Int) - 1 - (j : Int) := by omega
        have hi2 : (n : Int) - 1 - (j : Int) < (n : Int) := by omega
        go_wp2_with fail
        refine (HF.out _ (H.out.ext HE)).mono ?_
        rintro e u1 ⟨rfl, hx1⟩
        replace hown := ownsRow_extK hown hx1
        replace h1 := hx1.cell' h1
        replace h2 := hx1.cell' h2
        replace HE := HE.trans hx1
        clear hx1
        go_wp2_with (at_builtin; refine wpList_appK T_pt rfl _ _ rfl hown HE #[.int .i64 px, .int .i64 py] rfl (ends_pt _ _) rfl rfl (by omega) (by omega) ?_; intro v' w' hown' he')
        go_roundw
        case rel => exact ⟨j + 1, by omega, by go_num, by rw [HT.out, pts_append]; exact hown', he'⟩
        case measure => simp only [intOf]; omega
      · obtain rfl : j = n := by omega
        have HTT : Hid (R.take j = R) := hidP (List.take_of_length_le (by rw [HRL.out]; omega))
        obtain ⟨a5, cap5, rfl, hsl⟩ := SlK.of_owns hown
        rw [HTT.out] at hsl
        have HSL := hidP hsl
        have hcap5 : j ≤ cap5 := hsl.2.1
        have hcm : cap5 ≤ maxLen := hsl.2.2.1
        unfold maxLen at hcm
        clear hsl hown
        go_wp2_with fail
        go_ret
        exact ⟨_, _, _, rfl, HSL.out, HE⟩
  · have hdb : decide (twI l < 0) = false := decide_eq_false hb
    have HRE : Hid (∀ j (hj : j < n), (roundL l)[j]'(by rw [HRL.out]; exact hj) = l[j]'(by rw [HLN.out]; omega)) := hidP (fun j hj => by
      unfold roundL
      simp only [if_neg hb]
      skip)
    generalize twI l = tw at *
    have HF := hidP hft
    have HBB := hidP hb
    clear hft hb
    generalize roundL l = R at *
    go_enter Try.func35, Try.ntmps35
    go_wp2_with fail
    go_loopw [3, 4] (fun vv iv wr => ∃ j : Nat, j ≤ n ∧ iv = .int .i64 (j : Int) ∧ wr.ownsRow w.heap.size 26 2 vv j (pts (R.take j)) ∧ Ext w wr) (fun _ iv _ => n - (intOf iv).toNat)
    case atStart => exact ⟨0, by omega, rfl, by simpa [pts] using (World.ownsRow_nil _ _ _ _), (Ext.refl _)⟩
    case round =>
      obtain ⟨j, hj, rfl, hown, HE⟩ := hrel
      by_cases hlt : j < n
      · obtain ⟨g, off, rfl, hc⟩ := (H.out.ext HE).at (by omega)
        have hk : j < l.length := by rw [HLN.out]; exact hlt
        obtain ⟨h1, h2⟩ := hc j hk
        have HT : Hid (R.take (j + 1) = R.take j ++ [l[j]]) := hidP (by rw [List.take_succ_eq_append_getElem (by rw [HRL.out]; exact hlt), HRE.out j hlt])
        clear hc
        generalize hpp : l[j] = pp at *
        obtain ⟨px, py⟩ := pp
        have HPP := hidP hpp
        clear hpp
        simp only at h1 h2
        go_wp2_with fail
        refine (HF.out _ (H.out.ext HE)).mono ?_
        rintro e u1 ⟨rfl, hx1⟩
        replace hown := ownsRow_extK hown hx1
        replace h1 := hx1.cell' h1
        replace h2 := hx1.cell' h2
        replace HE := HE.trans hx1
        clear hx1
        go_wp2_with (at_builtin; refine wpList_appK T_pt rfl _ _ rfl hown HE #[.int .i64 px, .int .i64 py] rfl (ends_pt _ _) rfl rfl (by omega) (by omega) ?_; intro v' w' hown' he')
        go_roundw
        case rel => exact ⟨j + 1, by omega, by go_num, by rw [HT.out, pts_append]; exact hown', he'⟩
        case measure => simp only [intOf]; omega
      · obtain rfl : j = n := by omega
        have HTT : Hid (R.take j = R) := hidP (List.take_of_length_le (by rw [HRL.out]; omega))
        obtain ⟨a5, cap5, rfl, hsl⟩ := SlK.of_owns hown
        rw [HTT.out] at hsl
        have HSL := hidP hsl
        have hcap5 : j ≤ cap5 := hsl.2.1
        have hcm : cap5 ≤ maxLen := hsl.2.2.1
        unfold maxLen at hcm
        clear hsl hown
        go_wp2_with fail
        go_ret
        exact ⟨_, _, _, rfl, HSL.out, HE⟩

end Go.Proofs.Ytogcmnagiepofaa
