/- The law of words as numbers: its walk. -/
import Derived.Test.YtbhjookpdmfdnaaDoorE9
import Derived.Test.YtbhjookpdmfdnaaDoorD4
namespace Go.Proofs.YtbhjookpdmfdnaaDoor
set_option linter.unusedVariables false
open Go Go.RowKit

/-- The letters of digits. -/
def letL (m : Nat) : List Nat := (decD m).map (48 + ·)
theorem letL_small {m : Nat} (h : m < 10) : letL m = [48 + m] := by unfold letL; rw [decD_small h]; rfl
theorem letL_step {m : Nat} (h : 10 ≤ m) : letL m = letL (m / 10) ++ [48 + m % 10] := by unfold letL; rw [decD_step h]; simp
theorem letL_val (m : Nat) : dval (letL m) = m := by
  induction m using Nat.strongRecOn with
  | ind m ih =>
    by_cases h : m < 10
    · rw [letL_small h]; simp [dval]
    · rw [letL_step (by omega), dval_snoc, ih (m / 10) (by omega)]
      omega
theorem letL_head (m : Nat) : ∃ c r, letL m = c :: r ∧ (m ≠ 0 → c ≠ 48) := by
  induction m using Nat.strongRecOn with
  | ind m ih =>
    by_cases h : m < 10
    · exact ⟨48 + m, [], letL_small h, by omega⟩
    · obtain ⟨c, r, h1, h2⟩ := ih (m / 10) (by omega)
      exact ⟨c, r ++ [48 + m % 10], by rw [letL_step (by omega), h1]; rfl, fun _ => h2 (by omega)⟩
theorem letL_digits (m : Nat) : ∀ c ∈ letL m, 48 ≤ c ∧ c ≤ 57 := by
  intro c hc
  simp only [letL, List.mem_map] at hc
  obtain ⟨d, hd, rfl⟩ := hc
  have := decD_le m d hd
  omega
theorem letL_plain (m : Nat) : PlainL (letL m) := by
  obtain ⟨c, r, h1, h2⟩ := letL_head m
  refine ⟨by rw [h1]; simp, fun h => ?_, letL_digits m⟩
  by_cases hm : m = 0
  · subst hm; rw [letL_small (by omega)]; simp
  · rw [h1] at h; simp at h; exact absurd h (h2 hm)

theorem readL_num (n : Int) (h1 : -9223372036854775808 ≤ n) (h2 : n ≤ 9223372036854775807) : readL (numL n) (-9223372036854775808) 9223372036854775807 = (n, 0) := by
  have hL : numL n = (if n < 0 then [45] else []) ++ letL n.natAbs := rfl
  rw [readL_eq]
  by_cases hn : n < 0
  · rw [if_pos hn] at hL
    have hng : isNeg (numL n) = true := by rw [hL]; rfl
    have hb : behind (numL n) = letL n.natAbs := by unfold behind; rw [hng, hL]; rfl
    have hD : DigL (numL n) := ⟨by rw [hb]; exact letL_plain _, fun h => by
      have h3 := h.2
      rw [hb] at h3
      have := letL_val n.natAbs
      rw [h3] at this
      simp [dval] at this
      omega⟩
    have hz : wz (isNeg (numL n)) (dval (behind (numL n))) = n := by rw [hng, hb, letL_val]; unfold wz; simp; omega
    rw [if_pos hD, hz, if_pos ⟨⟨h1, h2⟩, h1, h2⟩]
  · rw [if_neg hn] at hL
    obtain ⟨c, r, h3, _⟩ := letL_head n.natAbs
    have hc := letL_digits n.natAbs c (by rw [h3]; simp)
    have hng : isNeg (numL n) = false := by
      rw [hL]
      unfold isNeg
      rw [List.nil_append, h3]
      simp
      omega
    have hb : behind (numL n) = letL n.natAbs := by unfold behind; rw [hng, hL]; rfl
    have hD : DigL (numL n) := ⟨by rw [hb]; exact letL_plain _, fun h => by rw [hng] at h; cases h.1⟩
    have hz : wz (isNeg (numL n)) (dval (behind (numL n))) = n := by rw [hng, hb, letL_val]; unfold wz; simp; omega
    rw [if_pos hD, hz, if_pos ⟨⟨h1, h2⟩, h1, h2⟩]

theorem numL_len (n : Int) (h1 : -9223372036854775808 ≤ n) (h2 : n ≤ 9223372036854775807) : (numL n).length ≤ 21 := by
  have := decD_len (m := n.natAbs) (by omega)
  unfold numL
  split <;> simp <;> omega

set_option maxRecDepth 100000 in
set_option maxHeartbeats 4000000 in
theorem figureReads_any (s : ByteArray) (n lo hi : Int) (w : World) (hn : s.size ≤ 9223372036854775807) (h1 : -9223372036854775808 ≤ n) (h2 : n ≤ 9223372036854775807) (hF : Tab w) :
    Calls Tryd.prog 3 #[.string s, .int .i64 n, .agg #[.int .i64 lo, .int .i64 hi]] w fun e w' => e = .returned (.bool true) ∧ Ext w w' := by
  have hT : readL (natsOf (textZ n)) (-9223372036854775808) 9223372036854775807 = (n, 0) := by
    rw [textZ_eq, natsOf_bytesOf _ (numL_le n)]
    exact readL_num n h1 h2
  have hTs : (textZ n).size ≤ 9223372036854775807 := by
    rw [textZ_eq, bytesOf_size]
    have := numL_len n h1 h2
    omega
  have HN1 := fun w => f_Num_any n w h1 h2
  have HN2 := fun w => r07_Num_any n w h1 h2
  generalize textZ n = tz at *
  have HR1 := fun w => f_Read_any s lo hi w hn
  have HR2 := fun w => r07_Read_any s lo hi w hn
  generalize readL (natsOf s) lo hi = RR at *
  obtain ⟨rx, rc⟩ := RR
  have A1 := hidP HN1; have A2 := hidP HN2; have A3 := hidP HR1; have A4 := hidP HR2
  have HT := hidP hT; have HF := hidP hF
  clear HN1 HN2 HR1 HR2 hT hF
  go_enter Tryd.func3, Tryd.ntmps3
  go_wp2_with fail
  refine (A3.out _).mono ?_
  rintro e w1 ⟨rfl, he1⟩
  have c0 := he1.cell' (p := ⟨w.heap.size, 0, none⟩) (v := .int .i64 lo) (by go_simp; try rfl)
  have c1 := he1.cell' (p := ⟨w.heap.size, 1, none⟩) (v := .int .i64 hi) (by go_simp; try rfl)
  have HE : Ext w w1 := ((Ext.refl _).alloc _).trans he1
  clear he1
  simp only []
  go_wp2_with fail
  refine (A4.out _).mono ?_
  rintro e w2 ⟨rfl, he1⟩
  replace HE := HE.trans he1
  clear he1 c0 c1
  simp only []
  go_wp2_with fail
  refine (A1.out _).mono ?_
  rintro e w3 ⟨rfl, he1⟩
  replace HE := HE.trans he1
  clear he1
  go_wp2_with fail
  refine (f_Read_any tz (-9223372036854775808) 9223372036854775807 _ hTs).mono ?_
  rw [HT.out]
  rintro e w4 ⟨rfl, he1⟩
  replace HE := HE.trans he1
  clear he1
  simp only []
  go_wp2_with fail
  refine (A1.out _).mono ?_
  rintro e w5 ⟨rfl, he1⟩
  replace HE := HE.trans he1
  clear he1
  go_wp2_with fail
  refine (A2.out _).mono ?_
  rintro e w6 ⟨rfl, he1⟩
  replace HE := HE.trans he1
  clear he1
  go_wp2_with fail
  refine (f_lives_any _ (HF.out.ext HE)).mono ?_
  rintro e w7 ⟨rfl, he1⟩
  go_wp2_with fail
  go_ret
  exact ⟨rfl, HE.trans he1⟩

end Go.Proofs.YtbhjookpdmfdnaaDoor
