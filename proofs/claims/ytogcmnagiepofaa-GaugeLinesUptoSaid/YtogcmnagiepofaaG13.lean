/- The law of turns of areas: its walk. -/
import Derived.Test.YtogcmnagiepofaaG12
import Derived.Test.YtogcmnagiepofaaG5
namespace Go.Proofs.Ytogcmnagiepofaa
set_option linter.unusedVariables false
open Go Go.RowKit

theorem lenI_symm (x y x' y' : Int) : lenI x' y' x y = lenI x y x' y' := by
  unfold lenI
  rw [Bool.and_comm, sq_neg x x', sq_neg y y']
theorem ah_zero {x y x' y' : Int} (h : lenI x y x' y' ≠ 0) : ahX x y x' y' 0 = x ∧ ahY x y x' y' 0 = y := by
  unfold ahX ahY
  rw [if_neg (by omega), if_neg (by omega), Int.mul_zero, Int.mul_zero, near_zero (by omega)]
  omega
theorem ga_few (a : Option Addr) (n cap : Nat) (w : World) : Calls Try.prog 26 #[.slice a n cap] w fun e w' => e = .returned (.bool (decide (n ≤ 10000))) ∧ Ext w w' := by
  by_cases h : n ≤ 10000
  · have hd : decide ((n : Int) ≤ 10000) = true := decide_eq_true (by omega)
    rw [decide_eq_true h]
    go_enter Try.func26, Try.ntmps26
    go_wp2
    go_ret
    exact ⟨rfl, Ext.refl _⟩
  · have hd : decide ((n : Int) ≤ 10000) = false := decide_eq_false (by omega)
    have hd2 : decide (n ≤ 10000) = false := decide_eq_false h
    have HD := hidP hd2
    rw [hd2]
    go_enter Try.func26, Try.ntmps26
    go_wp2
    go_ret
    exact ⟨rfl, Ext.refl _⟩

set_option maxRecDepth 100000 in
set_option maxHeartbeats 8000000 in
theorem gaugeTurns_any (a : Option Addr) (n cap : Nat) (l : List Pt) (x y x' y' : Int) (w : World) (hs : SlP w a n cap l) (hw : ∀ p ∈ l, True) (hn : n ≤ 1048576) (i0 : -9223372036854775808 ≤ x) (j0 : x ≤ 9223372036854775807) (i1 : -9223372036854775808 ≤ y) (j1 : y ≤ 9223372036854775807) (i2 : -9223372036854775808 ≤ x') (j2 : x' ≤ 9223372036854775807) (i3 : -9223372036854775808 ≤ y') (j3 : y' ≤ 9223372036854775807) :
    Calls Try.prog 5 #[.slice a n cap, .agg #[.int .i64 x, .int .i64 y], .agg #[.int .i64 x', .int .i64 y']] w fun e w' => e = .returned (.bool true) ∧ Ext w w' := by
  have H := hidP hs
  have HLN := hidP hs.len
  have hcap : cap ≤ maxLen := hs.2.2.1
  have hnc : n ≤ cap := hs.2.1
  unfold maxLen at hcap
  have HRL : Hid (l.reverse.length = n) := hidP (by rw [List.length_reverse]; exact hs.len)
  have HRE : Hid (∀ j (hj : j < n), l.reverse[j]'(by rw [HRL.out]; exact hj) = l[n - 1 - j]'(by rw [HLN.out]; omega)) := hidP (fun j hj => by
    rw [List.getElem_reverse]; congr 1; rw [HLN.out])
  have A1 := hidP (fun (u : World) (a : Option Addr) (n cap : Nat) (t : SlP u a n cap l.reverse) (h : n ≤ 10000) => g_Twice a n cap l.reverse u t h)
  have htr := twI_rev l
  have hrp := round_pos l
  have A2 := hidP (fun (u : World) (t : SlP u a n cap l) (h : n ≤ 10000) => g_Twice a n cap l u t h)
  have A3 := hidP (fun (u : World) (t : SlP u a n cap l) (h : n ≤ 10000) => g_Round a n cap l u t h)
  have A4 := hidP (fun (u : World) (a : Option Addr) (n cap : Nat) (t : SlP u a n cap (roundL l)) (h : n ≤ 10000) => g_Twice a n cap (roundL l) u t h)
  have HRN : Hid ((roundL l).length = n) := hidP (by unfold roundL; split <;> simp [hs.len])
  have htb : -9223372036854775807 ≤ twI l ∧ twI l ≤ 9223372036854775807 ∨ ¬ n ≤ 10000 := by
    by_cases h : n ≤ 10000
    · left
      unfold twI
      split
      · next hf =>
        have := twS_bd hf l.length
        rw [twS_end, hs.len] at this
        omega
      · omega
    · exact .inr h
  have a1 := A1.out
  rw [htr] at a1
  clear A1
  have A1 := hidP a1
  clear a1
  generalize twI (roundL l) = tr at *
  generalize twI l = tw at *
  generalize l.reverse = R at *
  have HL1 := hidP (fun u => g_Len x y x' y' u)
  have hl2 := fun u => g_Len x' y' x y u
  rw [lenI_symm] at hl2
  have HL2 := hidP hl2
  have hah := fun u => g_Ahead x y x' y' 0 u (by omega) (by omega)
  have ha0 := @ah_zero x y x' y'
  have hlb := lenI_bd x y x' y'
  generalize lenI x y x' y' = ln at *
  have HA0 := hidP ha0
  have HAH := hidP hah
  clear hs hl2 htr hah ha0 hw
  go_enter Try.func5, Try.ntmps5
  go_wp2_with fail
  refine absW (fun x1 hx1 => ?_)
  have hx : Ext w x1 := by rw [hx1]; exact (((Ext.refl _).alloc _).alloc _)
  have bp : Bl x1 (w.heap.size) #[.int .i64 x, .int .i64 y] := by rw [hx1]; exact ((Bl.new (by simp)).alloc (by simp))
  have bq : Bl x1 (w.heap.size + 1) #[.int .i64 x', .int .i64 y'] := by rw [hx1]; exact (Bl.new (by simp))
  have HE := hx
  clear hx
  clear hx1
  go_loopw [7, 8] (fun vv iv wr => ∃ k : Nat, k ≤ n ∧ iv = .int .i64 ((k : Int) - 1) ∧ wr.ownsRow x1.heap.size 26 2 vv (n - k) (pts (R.take (n - k))) ∧ Ext x1 wr) (fun _ iv _ => (intOf iv + 1).toNat)
  case atStart => exact ⟨n, by omega, rfl, by rw [Nat.sub_self]; simpa [pts] using (World.ownsRow_nil _ _ _ _), Ext.refl _⟩
  case round =>
    obtain ⟨k, hk, rfl, hown, hx⟩ := hrel
    by_cases h0 : 0 < k
    · obtain ⟨j, rfl⟩ : ∃ j, k = j + 1 := ⟨k - 1, by omega⟩
      have e0 : ((j + 1 : Nat) : Int) - 1 = (j : Int) := by omega
      rw [e0]
      clear e0
      obtain ⟨g, off, rfl, hc⟩ := ((H.out.ext HE).ext hx).at (by omega)
      have hj : j < l.length := by rw [HLN.out]; omega
      obtain ⟨h1, h2⟩ := hc j hj
      have HT : Hid (R.take (n - j) = R.take (n - (j + 1)) ++ [l[j]]) := hidP (by
        have hlt : n - (j + 1) < R.length := by rw [HRL.out]; omega
        have e1 : n - j = n - (j + 1) + 1 := by omega
        rw [e1, List.take_succ_eq_append_getElem hlt]
        congr 2
        rw [HRE.out (n - (j + 1)) (by omega)]
        congr 1
        omega)
      have hnj : n - (j + 1) + 1 = n - j := by omega
      have HNJ := hidP hnj
      clear hc hnj
      generalize hpp : l[j] = pp at *
      obtain ⟨px, py⟩ := pp
      have HPP := hidP hpp
      clear hpp
      simp only at h1 h2
      have hjn : j < n := by omega
      generalize hm : n - (j + 1) = m at *
      have HM := hidP hm
      have hmb : m ≤ 1048576 := by omega
      clear hm
      go_wp2_with (at_builtin; refine wpList_appK T_pt rfl _ _ rfl hown hx #[.int .i64 px, .int .i64 py] rfl (ends_pt _ _) rfl rfl (by omega) (by omega) ?_; intro v' w' hown' he')
      go_roundw
      case rel => exact ⟨j, by omega, rfl, by rw [← HNJ.out, HM.out] at *; rw [HT.out, pts_append]; exact hown', he'⟩
      case measure => simp only [intOf]; omega
    · obtain rfl : k = 0 := by omega
      rw [Nat.sub_zero, List.take_of_length_le (by rw [HRL.out]; exact Nat.le_refl _)] at hown
      have e0 : ((0 : Nat) : Int) - 1 = -1 := rfl
      rw [e0]
      clear e0
      replace bp := Bl.ext hx bp (Nat.succ_pos _)
      replace bq := Bl.ext hx bq (Nat.succ_pos _)
      replace HE := HE.trans hx
      obtain ⟨ab, cb, rfl, hsl⟩ := SlK.of_owns hown
      have HSL : Hid (SlP wr ab n cb R) := hidP hsl
      clear hsl hown hx
      by_cases hz : ln = 0
      · subst hz
        by_cases hfew : n ≤ 10000
        · have HFEW : Hid (decide (n ≤ 10000) = true) := hidP (decide_eq_true hfew)
          have htb2 : -9223372036854775807 ≤ tw ∧ tw ≤ 9223372036854775807 := by omega
          obtain ⟨tb1, tb2⟩ := htb2
          clear htb
          have HSL2 := HSL.out
          go_wp2_with fail
          refine (ga_few a n cap _).mono ?_
          rw [HFEW.out]
          rintro e u10 ⟨rfl, hx⟩
          replace bp := Bl.ext hx bp (Nat.succ_pos _)
          replace bq := Bl.ext hx bq (Nat.succ_pos _)
          replace HSL2 := HSL2.ext hx
          replace HE := HE.trans hx
          clear hx
          go_wp2_with fail
          refine (A1.out _ _ _ _ HSL2 hfew).mono ?_
          rintro e u11 ⟨rfl, hx⟩
          replace bp := Bl.ext hx bp (Nat.succ_pos _)
          replace bq := Bl.ext hx bq (Nat.succ_pos _)
          replace HSL2 := HSL2.ext hx
          replace HE := HE.trans hx
          clear hx
          go_wp2_with fail
          refine (A2.out _ (H.out.ext HE) hfew).mono ?_
          rintro e u12 ⟨rfl, hx⟩
          replace bp := Bl.ext hx bp (Nat.succ_pos _)
          replace bq := Bl.ext hx bq (Nat.succ_pos _)
          replace HSL2 := HSL2.ext hx
          replace HE := HE.trans hx
          clear hx
          go_wp2_with fail
          refine (A3.out _ (H.out.ext HE) hfew).mono ?_
          rintro e u13 ⟨a13, n13, c13, rfl, hs13, hx⟩
          replace bp := Bl.ext hx bp (Nat.succ_pos _)
          replace bq := Bl.ext hx bq (Nat.succ_pos _)
          replace HSL2 := HSL2.ext hx
          replace HE := HE.trans hx
          clear hx
          have hn13 : n13 ≤ 10000 := by have := hs13.len; have := HRN.out; omega
          go_wp2_with fail
          refine (A4.out _ _ _ _ hs13 hn13).mono ?_
          rintro e u14 ⟨rfl, hx⟩
          replace bp := Bl.ext hx bp (Nat.succ_pos _)
          replace bq := Bl.ext hx bq (Nat.succ_pos _)
          replace HSL2 := HSL2.ext hx
          replace hs13 := hs13.ext hx
          replace HE := HE.trans hx
          clear hx
          clear hs13
          clear HSL2
          go_wp2_with fail
          refine (HL1.out _).mono ?_
          rintro e u15 ⟨rfl, hx⟩
          replace bp := Bl.ext hx bp (Nat.succ_pos _)
          replace bq := Bl.ext hx bq (Nat.succ_pos _)
          replace HE := HE.trans hx
          clear hx
          go_wp2_with fail
          refine wp_region_plan (R := Ext) (.q 0 (.q 1 (.q 2 (.q 3 (.q 4 (.q 6 (.l 5 (.q 7 (.q 8 (.q 9 (.q 10 (.q 11 (.q 13 (.l 12 (.q 14 (.q 15 (.q 16 (.l 17 (.q 18 (.q 19 .done)))))))))))))))))))) (by kernel_rfl) (by kernel_rfl) (by kernel_rfl) (by kernel_rfl) Ext.refl (fun _ _ _ => Ext.trans) ?_
          refine absE (fun x1 hx1 => ?_)
          have hx : Ext u15 x1 := by rw [hx1]; exact (Ext.refl _).drew
          replace bp := Bl.ext hx bp (Nat.succ_pos _)
          replace bq := Bl.ext hx bq (Nat.succ_pos _)
          replace HE := HE.trans hx
          clear hx
          clear hx1
          repeat (first | (refine wpE_q (v := ?_) rfl rfl (fun u hu => ?_) ?_; rotate_left 1; (focus (have kp := Bl.ext hu bp (Nat.succ_pos _); have kq := Bl.ext hu bq (Nat.succ_pos _); go_simp; (try rfl))); simp only [Act.put, List.setIfInBounds_toArray, List.set_cons_zero, List.set_cons_succ]) | (refine wpE_qs rfl rfl ?_; simp only [Act.put, List.setIfInBounds_toArray, List.set_cons_zero, List.set_cons_succ]))
          refine wpE_ls (Ext.refl _) rfl rfl ?_
          simp only [Act.put, List.setIfInBounds_toArray, List.set_cons_zero, List.set_cons_succ]
          repeat (first | (refine wpE_q (v := ?_) rfl rfl (fun u hu => ?_) ?_; rotate_left 1; (focus (have kp := Bl.ext hu bp (Nat.succ_pos _); have kq := Bl.ext hu bq (Nat.succ_pos _); go_simp; (try rfl))); simp only [Act.put, List.setIfInBounds_toArray, List.set_cons_zero, List.set_cons_succ]) | (refine wpE_qs rfl rfl ?_; simp only [Act.put, List.setIfInBounds_toArray, List.set_cons_zero, List.set_cons_succ]))
          refine wpE_l rfl rfl (fun K hK => ?_)
          go_simp
          refine (HL2.out _).mono ?_
          rintro e u22 ⟨rfl, hx⟩
          refine hK.out _ _ hx ?_
          clear hK K
          try simp only [Act.put, List.setIfInBounds_toArray, List.set_cons_zero, List.set_cons_succ]
          replace bp := Bl.ext hx bp (Nat.succ_pos _)
          replace bq := Bl.ext hx bq (Nat.succ_pos _)
          replace HE := HE.trans hx
          clear hx
          repeat (first | (refine wpE_q (v := ?_) rfl rfl (fun u hu => ?_) ?_; rotate_left 1; (focus (have kp := Bl.ext hu bp (Nat.succ_pos _); have kq := Bl.ext hu bq (Nat.succ_pos _); go_simp; (try rfl))); simp only [Act.put, List.setIfInBounds_toArray, List.set_cons_zero, List.set_cons_succ]) | (refine wpE_qs rfl rfl ?_; simp only [Act.put, List.setIfInBounds_toArray, List.set_cons_zero, List.set_cons_succ]))
          refine wpE_l rfl rfl (fun K hK => ?_)
          go_simp
          refine (ga_lives _).mono ?_
          rintro e u23 ⟨rfl, hx⟩
          refine hK.out _ _ hx ?_
          clear hK K
          try simp only [Act.put, List.setIfInBounds_toArray, List.set_cons_zero, List.set_cons_succ]
          replace bp := Bl.ext hx bp (Nat.succ_pos _)
          replace bq := Bl.ext hx bq (Nat.succ_pos _)
          replace HE := HE.trans hx
          clear hx
          repeat (first | (refine wpE_q (v := ?_) rfl rfl (fun u hu => ?_) ?_; rotate_left 1; (focus (have kp := Bl.ext hu bp (Nat.succ_pos _); have kq := Bl.ext hu bq (Nat.succ_pos _); go_simp; (try rfl))); simp only [Act.put, List.setIfInBounds_toArray, List.set_cons_zero, List.set_cons_succ]) | (refine wpE_qs rfl rfl ?_; simp only [Act.put, List.setIfInBounds_toArray, List.set_cons_zero, List.set_cons_succ]))
          refine wpE_done ?_
          go_wp2_with fail
          go_ret
          exact ⟨rfl, HE⟩
        · have HFEW : Hid (decide (n ≤ 10000) = false) := hidP (decide_eq_false hfew)
          clear htb hfew
          have HSL2 := HSL.out
          go_wp2_with fail
          refine (ga_few a n cap _).mono ?_
          rw [HFEW.out]
          rintro e u10 ⟨rfl, hx⟩
          replace bp := Bl.ext hx bp (Nat.succ_pos _)
          replace bq := Bl.ext hx bq (Nat.succ_pos _)
          replace HSL2 := HSL2.ext hx
          replace HE := HE.trans hx
          clear hx
          clear HSL2
          go_wp2_with fail
          refine (HL1.out _).mono ?_
          rintro e u15 ⟨rfl, hx⟩
          replace bp := Bl.ext hx bp (Nat.succ_pos _)
          replace bq := Bl.ext hx bq (Nat.succ_pos _)
          replace HE := HE.trans hx
          clear hx
          go_wp2_with fail
          refine wp_region_plan (R := Ext) (.q 0 (.q 1 (.q 2 (.q 3 (.q 4 (.q 6 (.l 5 (.q 7 (.q 8 (.q 9 (.q 10 (.q 11 (.q 13 (.l 12 (.q 14 (.q 15 (.q 16 (.l 17 (.q 18 (.q 19 .done)))))))))))))))))))) (by kernel_rfl) (by kernel_rfl) (by kernel_rfl) (by kernel_rfl) Ext.refl (fun _ _ _ => Ext.trans) ?_
          refine absE (fun x1 hx1 => ?_)
          have hx : Ext u15 x1 := by rw [hx1]; exact (Ext.refl _).drew
          replace bp := Bl.ext hx bp (Nat.succ_pos _)
          replace bq := Bl.ext hx bq (Nat.succ_pos _)
          replace HE := HE.trans hx
          clear hx
          clear hx1
          repeat (first | (refine wpE_q (v := ?_) rfl rfl (fun u hu => ?_) ?_; rotate_left 1; (focus (have kp := Bl.ext hu bp (Nat.succ_pos _); have kq := Bl.ext hu bq (Nat.succ_pos _); go_simp; (try rfl))); simp only [Act.put, List.setIfInBounds_toArray, List.set_cons_zero, List.set_cons_succ]) | (refine wpE_qs rfl rfl ?_; simp only [Act.put, List.setIfInBounds_toArray, List.set_cons_zero, List.set_cons_succ]))
          refine wpE_ls (Ext.refl _) rfl rfl ?_
          simp only [Act.put, List.setIfInBounds_toArray, List.set_cons_zero, List.set_cons_succ]
          repeat (first | (refine wpE_q (v := ?_) rfl rfl (fun u hu => ?_) ?_; rotate_left 1; (focus (have kp := Bl.ext hu bp (Nat.succ_pos _); have kq := Bl.ext hu bq (Nat.succ_pos _); go_simp; (try rfl))); simp only [Act.put, List.setIfInBounds_toArray, List.set_cons_zero, List.set_cons_succ]) | (refine wpE_qs rfl rfl ?_; simp only [Act.put, List.setIfInBounds_toArray, List.set_cons_zero, List.set_cons_succ]))
          refine wpE_l rfl rfl (fun K hK => ?_)
          go_simp
          refine (HL2.out _).mono ?_
          rintro e u22 ⟨rfl, hx⟩
          refine hK.out _ _ hx ?_
          clear hK K
          try simp only [Act.put, List.setIfInBounds_toArray, List.set_cons_zero, List.set_cons_succ]
          replace bp := Bl.ext hx bp (Nat.succ_pos _)
          replace bq := Bl.ext hx bq (Nat.succ_pos _)
          replace HE := HE.trans hx
          clear hx
          repeat (first | (refine wpE_q (v := ?_) rfl rfl (fun u hu => ?_) ?_; rotate_left 1; (focus (have kp := Bl.ext hu bp (Nat.succ_pos _); have kq := Bl.ext hu bq (Nat.succ_pos _); go_simp; (try rfl))); simp only [Act.put, List.setIfInBounds_toArray, List.set_cons_zero, List.set_cons_succ]) | (refine wpE_qs rfl rfl ?_; simp only [Act.put, List.setIfInBounds_toArray, List.set_cons_zero, List.set_cons_succ]))
          refine wpE_l rfl rfl (fun K hK => ?_)
          go_simp
          refine (ga_lives _).mono ?_
          rintro e u23 ⟨rfl, hx⟩
          refine hK.out _ _ hx ?_
          clear hK K
          try simp only [Act.put, List.setIfInBounds_toArray, List.set_cons_zero, List.set_cons_succ]
          replace bp := Bl.ext hx bp (Nat.succ_pos _)
          replace bq := Bl.ext hx bq (Nat.succ_pos _)
          replace HE := HE.trans hx
          clear hx
          repeat (first | (refine wpE_q (v := ?_) rfl rfl (fun u hu => ?_) ?_; rotate_left 1; (focus (have kp := Bl.ext hu bp (Nat.succ_pos _); have kq := Bl.ext hu bq (Nat.succ_pos _); go_simp; (try rfl))); simp only [Act.put, List.setIfInBounds_toArray, List.set_cons_zero, List.set_cons_succ]) | (refine wpE_qs rfl rfl ?_; simp only [Act.put, List.setIfInBounds_toArray, List.set_cons_zero, List.set_cons_succ]))
          refine wpE_done ?_
          go_wp2_with fail
          go_ret
          exact ⟨rfl, HE⟩
      · have HLN0 := hidP hz
        have hzz : ((ln : Int) == 0) = false := by simp; omega
        clear hz
        by_cases hfew : n ≤ 10000
        · have HFEW : Hid (decide (n ≤ 10000) = true) := hidP (decide_eq_true hfew)
          have htb2 : -9223372036854775807 ≤ tw ∧ tw ≤ 9223372036854775807 := by omega
          obtain ⟨tb1, tb2⟩ := htb2
          clear htb
          have HSL2 := HSL.out
          go_wp2_with fail
          refine (ga_few a n cap _).mono ?_
          rw [HFEW.out]
          rintro e u10 ⟨rfl, hx⟩
          replace bp := Bl.ext hx bp (Nat.succ_pos _)
          replace bq := Bl.ext hx bq (Nat.succ_pos _)
          replace HSL2 := HSL2.ext hx
          replace HE := HE.trans hx
          clear hx
          go_wp2_with fail
          refine (A1.out _ _ _ _ HSL2 hfew).mono ?_
          rintro e u11 ⟨rfl, hx⟩
          replace bp := Bl.ext hx bp (Nat.succ_pos _)
          replace bq := Bl.ext hx bq (Nat.succ_pos _)
          replace HSL2 := HSL2.ext hx
          replace HE := HE.trans hx
          clear hx
          go_wp2_with fail
          refine (A2.out _ (H.out.ext HE) hfew).mono ?_
          rintro e u12 ⟨rfl, hx⟩
          replace bp := Bl.ext hx bp (Nat.succ_pos _)
          replace bq := Bl.ext hx bq (Nat.succ_pos _)
          replace HSL2 := HSL2.ext hx
          replace HE := HE.trans hx
          clear hx
          go_wp2_with fail
          refine (A3.out _ (H.out.ext HE) hfew).mono ?_
          rintro e u13 ⟨a13, n13, c13, rfl, hs13, hx⟩
          replace bp := Bl.ext hx bp (Nat.succ_pos _)
          replace bq := Bl.ext hx bq (Nat.succ_pos _)
          replace HSL2 := HSL2.ext hx
          replace HE := HE.trans hx
          clear hx
          have hn13 : n13 ≤ 10000 := by have := hs13.len; have := HRN.out; omega
          go_wp2_with fail
          refine (A4.out _ _ _ _ hs13 hn13).mono ?_
          rintro e u14 ⟨rfl, hx⟩
          replace bp := Bl.ext hx bp (Nat.succ_pos _)
          replace bq := Bl.ext hx bq (Nat.succ_pos _)
          replace HSL2 := HSL2.ext hx
          replace hs13 := hs13.ext hx
          replace HE := HE.trans hx
          clear hx
          clear hs13
          clear HSL2
          go_wp2_with fail
          refine (HL1.out _).mono ?_
          rintro e u15 ⟨rfl, hx⟩
          replace bp := Bl.ext hx bp (Nat.succ_pos _)
          replace bq := Bl.ext hx bq (Nat.succ_pos _)
          replace HE := HE.trans hx
          clear hx
          go_wp2_with fail
          refine wp_region_plan (R := Ext) (.q 0 (.q 1 (.q 2 (.q 3 (.q 4 (.q 6 (.l 5 (.q 7 (.q 8 (.q 9 (.q 10 (.q 11 (.q 13 (.l 12 (.q 14 (.q 15 (.q 16 (.l 17 (.q 18 (.q 19 .done)))))))))))))))))))) (by kernel_rfl) (by kernel_rfl) (by kernel_rfl) (by kernel_rfl) Ext.refl (fun _ _ _ => Ext.trans) ?_
          refine absE (fun x1 hx1 => ?_)
          have hx : Ext u15 x1 := by rw [hx1]; exact (Ext.refl _).drew
          replace bp := Bl.ext hx bp (Nat.succ_pos _)
          replace bq := Bl.ext hx bq (Nat.succ_pos _)
          replace HE := HE.trans hx
          clear hx
          clear hx1
          repeat (refine wpE_q (v := ?_) rfl rfl (fun u hu => ?_) ?_; rotate_left 1; (focus (have kp := Bl.ext hu bp (Nat.succ_pos _); have kq := Bl.ext hu bq (Nat.succ_pos _); go_simp; (try rfl))); simp only [Act.put, List.setIfInBounds_toArray, List.set_cons_zero, List.set_cons_succ])
          refine wpE_l rfl rfl (fun K hK => ?_)
          go_simp
          refine (HAH.out _).mono ?_
          rw [(HA0.out HLN0.out).1, (HA0.out HLN0.out).2]
          rintro e u21 ⟨rfl, hx⟩
          refine hK.out _ _ hx ?_
          clear hK K
          try simp only [Act.put, List.setIfInBounds_toArray, List.set_cons_zero, List.set_cons_succ]
          replace bp := Bl.ext hx bp (Nat.succ_pos _)
          replace bq := Bl.ext hx bq (Nat.succ_pos _)
          replace HE := HE.trans hx
          clear hx
          repeat (refine wpE_q (v := ?_) rfl rfl (fun u hu => ?_) ?_; rotate_left 1; (focus (have kp := Bl.ext hu bp (Nat.succ_pos _); have kq := Bl.ext hu bq (Nat.succ_pos _); go_simp; (try rfl))); simp only [Act.put, List.setIfInBounds_toArray, List.set_cons_zero, List.set_cons_succ])
          refine wpE_l rfl rfl (fun K hK => ?_)
          go_simp
          refine (HL2.out _).mono ?_
          rintro e u22 ⟨rfl, hx⟩
          refine hK.out _ _ hx ?_
          clear hK K
          try simp only [Act.put, List.setIfInBounds_toArray, List.set_cons_zero, List.set_cons_succ]
          replace bp := Bl.ext hx bp (Nat.succ_pos _)
          replace bq := Bl.ext hx bq (Nat.succ_pos _)
          replace HE := HE.trans hx
          clear hx
          repeat (refine wpE_q (v := ?_) rfl rfl (fun u hu => ?_) ?_; rotate_left 1; (focus (have kp := Bl.ext hu bp (Nat.succ_pos _); have kq := Bl.ext hu bq (Nat.succ_pos _); go_simp; (try rfl))); simp only [Act.put, List.setIfInBounds_toArray, List.set_cons_zero, List.set_cons_succ])
          refine wpE_l rfl rfl (fun K hK => ?_)
          go_simp
          refine (ga_lives _).mono ?_
          rintro e u23 ⟨rfl, hx⟩
          refine hK.out _ _ hx ?_
          clear hK K
          try simp only [Act.put, List.setIfInBounds_toArray, List.set_cons_zero, List.set_cons_succ]
          replace bp := Bl.ext hx bp (Nat.succ_pos _)
          replace bq := Bl.ext hx bq (Nat.succ_pos _)
          replace HE := HE.trans hx
          clear hx
          repeat (refine wpE_q (v := ?_) rfl rfl (fun u hu => ?_) ?_; rotate_left 1; (focus (have kp := Bl.ext hu bp (Nat.succ_pos _); have kq := Bl.ext hu bq (Nat.succ_pos _); go_simp; (try rfl))); simp only [Act.put, List.setIfInBounds_toArray, List.set_cons_zero, List.set_cons_succ])
          refine wpE_done ?_
          go_wp2_with fail
          go_ret
          exact ⟨rfl, HE⟩
        · have HFEW : Hid (decide (n ≤ 10000) = false) := hidP (decide_eq_false hfew)
          clear htb hfew
          have HSL2 := HSL.out
          go_wp2_with fail
          refine (ga_few a n cap _).mono ?_
          rw [HFEW.out]
          rintro e u10 ⟨rfl, hx⟩
          replace bp := Bl.ext hx bp (Nat.succ_pos _)
          replace bq := Bl.ext hx bq (Nat.succ_pos _)
          replace HSL2 := HSL2.ext hx
          replace HE := HE.trans hx
          clear hx
          clear HSL2
          go_wp2_with fail
          refine (HL1.out _).mono ?_
          rintro e u15 ⟨rfl, hx⟩
          replace bp := Bl.ext hx bp (Nat.succ_pos _)
          replace bq := Bl.ext hx bq (Nat.succ_pos _)
          replace HE := HE.trans hx
          clear hx
          go_wp2_with fail
          refine wp_region_plan (R := Ext) (.q 0 (.q 1 (.q 2 (.q 3 (.q 4 (.q 6 (.l 5 (.q 7 (.q 8 (.q 9 (.q 10 (.q 11 (.q 13 (.l 12 (.q 14 (.q 15 (.q 16 (.l 17 (.q 18 (.q 19 .done)))))))))))))))))))) (by kernel_rfl) (by kernel_rfl) (by kernel_rfl) (by kernel_rfl) Ext.refl (fun _ _ _ => Ext.trans) ?_
          refine absE (fun x1 hx1 => ?_)
          have hx : Ext u15 x1 := by rw [hx1]; exact (Ext.refl _).drew
          replace bp := Bl.ext hx bp (Nat.succ_pos _)
          replace bq := Bl.ext hx bq (Nat.succ_pos _)
          replace HE := HE.trans hx
          clear hx
          clear hx1
          repeat (refine wpE_q (v := ?_) rfl rfl (fun u hu => ?_) ?_; rotate_left 1; (focus (have kp := Bl.ext hu bp (Nat.succ_pos _); have kq := Bl.ext hu bq (Nat.succ_pos _); go_simp; (try rfl))); simp only [Act.put, List.setIfInBounds_toArray, List.set_cons_zero, List.set_cons_succ])
          refine wpE_l rfl rfl (fun K hK => ?_)
          go_simp
          refine (HAH.out _).mono ?_
          rw [(HA0.out HLN0.out).1, (HA0.out HLN0.out).2]
          rintro e u21 ⟨rfl, hx⟩
          refine hK.out _ _ hx ?_
          clear hK K
          try simp only [Act.put, List.setIfInBounds_toArray, List.set_cons_zero, List.set_cons_succ]
          replace bp := Bl.ext hx bp (Nat.succ_pos _)
          replace bq := Bl.ext hx bq (Nat.succ_pos _)
          replace HE := HE.trans hx
          clear hx
          repeat (refine wpE_q (v := ?_) rfl rfl (fun u hu => ?_) ?_; rotate_left 1; (focus (have kp := Bl.ext hu bp (Nat.succ_pos _); have kq := Bl.ext hu bq (Nat.succ_pos _); go_simp; (try rfl))); simp only [Act.put, List.setIfInBounds_toArray, List.set_cons_zero, List.set_cons_succ])
          refine wpE_l rfl rfl (fun K hK => ?_)
          go_simp
          refine (HL2.out _).mono ?_
          rintro e u22 ⟨rfl, hx⟩
          refine hK.out _ _ hx ?_
          clear hK K
          try simp only [Act.put, List.setIfInBounds_toArray, List.set_cons_zero, List.set_cons_succ]
          replace bp := Bl.ext hx bp (Nat.succ_pos _)
          replace bq := Bl.ext hx bq (Nat.succ_pos _)
          replace HE := HE.trans hx
          clear hx
          repeat (refine wpE_q (v := ?_) rfl rfl (fun u hu => ?_) ?_; rotate_left 1; (focus (have kp := Bl.ext hu bp (Nat.succ_pos _); have kq := Bl.ext hu bq (Nat.succ_pos _); go_simp; (try rfl))); simp only [Act.put, List.setIfInBounds_toArray, List.set_cons_zero, List.set_cons_succ])
          refine wpE_l rfl rfl (fun K hK => ?_)
          go_simp
          refine (ga_lives _).mono ?_
          rintro e u23 ⟨rfl, hx⟩
          refine hK.out _ _ hx ?_
          clear hK K
          try simp only [Act.put, List.setIfInBounds_toArray, List.set_cons_zero, List.set_cons_succ]
          replace bp := Bl.ext hx bp (Nat.succ_pos _)
          replace bq := Bl.ext hx bq (Nat.succ_pos _)
          replace HE := HE.trans hx
          clear hx
          repeat (refine wpE_q (v := ?_) rfl rfl (fun u hu => ?_) ?_; rotate_left 1; (focus (have kp := Bl.ext hu bp (Nat.succ_pos _); have kq := Bl.ext hu bq (Nat.succ_pos _); go_simp; (try rfl))); simp only [Act.put, List.setIfInBounds_toArray, List.set_cons_zero, List.set_cons_succ])
          refine wpE_done ?_
          go_wp2_with fail
          go_ret
          exact ⟨rfl, HE⟩

end Go.Proofs.Ytogcmnagiepofaa
