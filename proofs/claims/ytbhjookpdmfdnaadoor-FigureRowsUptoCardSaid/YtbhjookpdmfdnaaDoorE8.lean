/- Words as numbers: the document's Read. -/
import Derived.Test.YtbhjookpdmfdnaaDoorE7
namespace Go.Proofs.YtbhjookpdmfdnaaDoor
set_option linter.unusedVariables false
open Go Go.RowKit

theorem dval_pow (l : List Nat) : ∀ a, a * 10 ^ l.length ≤ l.foldl (fun a c => 10 * a + (c - 48)) a := by
  induction l with
  | nil => intro a; simp
  | cons c r ih =>
    intro a
    refine Nat.le_trans ?_ (ih (10 * a + (c - 48)))
    simp only [List.length_cons, Nat.pow_succ]
    have : a * (10 ^ r.length * 10) = (10 * a) * 10 ^ r.length := by rw [Nat.mul_comm (10 ^ r.length) 10, ← Nat.mul_assoc, Nat.mul_comm a 10]
    rw [this]
    exact Nat.mul_le_mul_right _ (by omega)
theorem plain_big {l : List Nat} (h : PlainL l) (hl : 20 ≤ l.length) : 10000000000000000000 ≤ dval l := by
  cases l with
  | nil => simp at hl
  | cons c r =>
    have h1 : c ≠ 48 := fun hc => by have := h.2.1 hc; simp at hl this; subst this; simp at hl
    have h2 := h.2.2 c (by simp)
    have h3 := dval_pow r (c - 48)
    have h4 : dval (c :: r) = r.foldl (fun a c => 10 * a + (c - 48)) (c - 48) := by simp [dval]
    rw [h4]
    refine Nat.le_trans ?_ h3
    have h5 : 10 ^ 19 ≤ 10 ^ r.length := Nat.pow_le_pow_right (by decide) (by simp at hl; omega)
    have h6 : 1 * 10 ^ r.length ≤ (c - 48) * 10 ^ r.length := Nat.mul_le_mul_right _ (by omega)
    have h7 : (10 : Nat) ^ 19 = 10000000000000000000 := by decide
    omega
theorem plain_zero {l : List Nat} (h : PlainL l) (h0 : dval l = 0) : l = [48] := by
  cases l with
  | nil => exact absurd rfl h.1
  | cons c r =>
    have h2 := h.2.2 c (by simp)
    have h3 := dval_pow r (c - 48)
    have h4 : dval (c :: r) = r.foldl (fun a c => 10 * a + (c - 48)) (c - 48) := by simp [dval]
    rw [h4] at h0
    rw [h0] at h3
    have h5 : 1 ≤ 10 ^ r.length := Nat.pow_pos (by decide)
    have h6 : c - 48 = 0 := by
      rcases Nat.eq_zero_or_pos (c - 48) with h | h
      · exact h
      · have : 1 * 1 ≤ (c - 48) * 10 ^ r.length := Nat.mul_le_mul h h5
        omega
    have h7 : c = 48 := by omega
    have h8 := h.2.1 (by simpa using h7)
    simp at h8
    rw [h7, h8]

theorem readL_eq (l : List Nat) (lo hi : Int) :
    readL l lo hi = if DigL l then (if (-9223372036854775808 ≤ wz (isNeg l) (dval (behind l)) ∧ wz (isNeg l) (dval (behind l)) ≤ 9223372036854775807) ∧ lo ≤ wz (isNeg l) (dval (behind l)) ∧ wz (isNeg l) (dval (behind l)) ≤ hi then (wz (isNeg l) (dval (behind l)), 0) else (0, 4)) else (0, 3) := by
  unfold readL DigL behind isNeg wz
  by_cases hn : l.getD 0 0 = 45
  · simp only [hn, if_true, decide_true, true_and]
    by_cases hp : PlainL (l.drop 1)
    · by_cases h48 : l.drop 1 = [48]
      · simp [h48]
      · have e : (dval (l.drop 1) ≤ 9223372036854775808 ∧ lo ≤ -(dval (l.drop 1) : Int) ∧ -(dval (l.drop 1) : Int) ≤ hi) ↔ ((-9223372036854775808 ≤ -(dval (l.drop 1) : Int) ∧ -(dval (l.drop 1) : Int) ≤ 9223372036854775807) ∧ lo ≤ -(dval (l.drop 1) : Int) ∧ -(dval (l.drop 1) : Int) ≤ hi) := by omega
        rw [if_neg (by intro h; rcases h with h | h; exact h hp; exact h48 h), if_pos (show PlainL (l.drop 1) ∧ ¬ l.drop 1 = [48] from ⟨hp, h48⟩)]
        by_cases hc : dval (l.drop 1) ≤ 9223372036854775808 ∧ lo ≤ -(dval (l.drop 1) : Int) ∧ -(dval (l.drop 1) : Int) ≤ hi
        · rw [if_pos hc, if_pos (e.1 hc)]
        · rw [if_neg hc, if_neg (fun h => hc (e.2 h))]
    · rw [if_pos (.inl hp), if_neg (fun h => hp h.1)]
  · simp only [hn, if_false, decide_false, false_and, or_false, Bool.false_eq_true, not_false_eq_true, and_true]
    by_cases hp : PlainL l
    · have e : (dval l < 9223372036854775808 ∧ lo ≤ (dval l : Int) ∧ (dval l : Int) ≤ hi) ↔ ((-9223372036854775808 ≤ (dval l : Int) ∧ (dval l : Int) ≤ 9223372036854775807) ∧ lo ≤ (dval l : Int) ∧ (dval l : Int) ≤ hi) := by omega
      rw [if_neg (fun h => h hp), if_pos hp]
      by_cases hc : dval l < 9223372036854775808 ∧ lo ≤ (dval l : Int) ∧ (dval l : Int) ≤ hi
      · rw [if_pos hc, if_pos (e.1 hc)]
      · rw [if_neg hc, if_neg (fun h => hc (e.2 h))]
    · rw [if_pos hp, if_neg hp]

theorem behind_len (l : List Nat) : l.length ≤ (behind l).length + 1 := by
  unfold behind
  split
  · simp; omega
  · omega
theorem behind_le (l : List Nat) : (behind l).length ≤ l.length := by
  unfold behind
  split
  · simp
  · omega

set_option maxRecDepth 100000 in
set_option maxHeartbeats 2000000 in
theorem r07_Read_any (s : ByteArray) (lo hi : Int) (w : World) (hn : s.size ≤ 9223372036854775807) :
    Calls Tryd.prog 8 #[.string s, .int .i64 lo, .int .i64 hi] w fun e w' => e = .returned (.tuple #[.int .i64 (readL (natsOf s) lo hi).1, .int .i64 ((readL (natsOf s) lo hi).2 : Nat)]) ∧ Ext w w' := by
  have hR := readL_eq (natsOf s) lo hi
  generalize readL (natsOf s) lo hi = RR at *
  have HR := hidP hR; clear hR
  by_cases hd : DigL (natsOf s)
  · have HD := hidP hd; clear hd
    by_cases hlen : 20 < s.size
    · have HQ : Hid (RR = (0, 4)) := hidP (by
        rw [HR.out, if_pos HD.out, if_neg]
        intro h
        have h1 := behind_len (natsOf s)
        rw [natsOf_len] at h1
        have h2 := plain_big HD.out.1 (by omega)
        have h3 := h.1
        unfold wz at h3
        split at h3 <;> omega)
      go_enter Tryd.func8, Tryd.ntmps8
      go_wp2_with fail
      refine (r07_digits_any s _ hn).mono ?_
      rw [decide_eq_true HD.out]
      rintro e w1 ⟨rfl, rfl⟩
      go_wp2_with fail
      go_ret2
      exact ⟨by rw [HQ.out]; rfl, Ext.refl _⟩
    · have hw : whParse (natsOf s) = (0, wz (isNeg (natsOf s)) (dval (behind (natsOf s)))) := by
        unfold whParse
        have h1 := behind_le (natsOf s)
        rw [natsOf_len] at h1
        rw [if_neg (by omega), if_neg (fun h => h HD.out.1), if_neg]
        rintro ⟨h2, h3⟩
        exact HD.out.2 ⟨h2, plain_zero HD.out.1 h3⟩
      have hlt : (wz (isNeg (natsOf s)) (dval (behind (natsOf s)))).natAbs < B32 ^ 20 := by
        have h1 := behind_le (natsOf s)
        rw [natsOf_len] at h1
        have h2 := dval_lt (behind (natsOf s)) (fun c hc => (HD.out.1.2.2 c hc).2)
        have h3 : B32 ^ (behind (natsOf s)).length ≤ B32 ^ 20 := Nat.pow_le_pow_right (by decide) (by omega)
        have h4 : (wz (isNeg (natsOf s)) (dval (behind (natsOf s)))).natAbs = dval (behind (natsOf s)) := by unfold wz; split <;> omega
        omega
      have hR2 := HR.out
      rw [if_pos HD.out] at hR2
      generalize wz (isNeg (natsOf s)) (dval (behind (natsOf s))) = z at *
      have HW := hidP hw; have HR2 := hidP hR2
      have hzl := natAbs_len hlt
      have HZL := hidP hzl
      clear hw hR2 hlt hzl HR
      go_enter Tryd.func8, Tryd.ntmps8
      go_wp2_with fail
      refine (r07_digits_any s _ hn).mono ?_
      rw [decide_eq_true HD.out]
      rintro e w1 ⟨rfl, rfl⟩
      go_wp2_with fail
      refine (r02_Parse_any s _).mono ?_
      rw [HW.out]
      rintro e w1 ⟨a1, n1, cap1, rfl, hs1, he1⟩
      have hn1 : n1 ≤ 20 := by have h5 : (dig B32 z.natAbs).length = n1 := hs1.int_len; have h6 := HZL.out; omega
      have hwi : WhIn w1 (decide (z < 0)) a1 n1 cap1 z := ⟨⟨_, hs1, Ws.dig _, by rw [val_dig B32_two]; exact wz_canon z⟩, by omega⟩
      have HWI := hidP hwi
      clear hs1 hwi
      simp only []
      generalize decide (z < 0) = nb at *
      go_wp2_with fail
      refine (r02_Int_any nb a1 n1 cap1 z _ (HWI.out.ext ((Ext.refl _).alloc _)) (by omega)).mono ?_
      by_cases hz : -9223372036854775808 ≤ z ∧ z ≤ 9223372036854775807
      · rw [show intR z = .tuple #[.int .i64 z, .bool true] from if_pos hz]
        rintro e w2 ⟨rfl, he2⟩
        have HE := he1.trans (((Ext.refl _).alloc _).trans he2)
        by_cases hb : lo ≤ z ∧ z ≤ hi
        · have HQ : Hid (RR = (z, 0)) := hidP (by rw [HR2.out, if_pos ⟨hz, hb⟩])
          obtain ⟨hb1, hb2⟩ := hb
          go_wp2_with fail
          go_ret2
          exact ⟨by rw [HQ.out]; rfl, HE⟩
        · have HQ : Hid (RR = (0, 4)) := hidP (by rw [HR2.out, if_neg (fun h => hb h.2)])
          rcases (by omega : z < lo ∨ (lo ≤ z ∧ hi < z)) with hc | ⟨hc, hc'⟩
          · go_wp2_with fail
            go_ret2
            exact ⟨by rw [HQ.out]; rfl, HE⟩
          · go_wp2_with fail
            go_ret2
            exact ⟨by rw [HQ.out]; rfl, HE⟩
      · rw [show intR z = .tuple #[.int .i64 0, .bool false] from if_neg hz]
        rintro e w2 ⟨rfl, he2⟩
        have HE := he1.trans (((Ext.refl _).alloc _).trans he2)
        have HQ : Hid (RR = (0, 4)) := hidP (by rw [HR2.out, if_neg (fun h => hz h.1)])
        clear hz
        go_wp2_with fail
        go_ret2
        exact ⟨by rw [HQ.out]; rfl, HE⟩
  · have HQ : Hid (RR = (0, 3)) := hidP (by rw [HR.out, if_neg hd])
    have HD := hidP hd; clear hd
    go_enter Tryd.func8, Tryd.ntmps8
    go_wp2_with fail
    refine (r07_digits_any s _ hn).mono ?_
    rw [decide_eq_false HD.out]
    rintro e w1 ⟨rfl, rfl⟩
    go_wp2_with fail
    go_ret2
    exact ⟨by rw [HQ.out]; rfl, Ext.refl _⟩

end Go.Proofs.YtbhjookpdmfdnaaDoor
