/- Words as numbers: the document's digits, Num and Read. -/
import Derived.Test.YtbhjookpdmfdnaaDoorE6
namespace Go.Proofs.YtbhjookpdmfdnaaDoor
set_option linter.unusedVariables false
open Go Go.RowKit

theorem decD_len {m : Nat} (h : m < 100000000000000000000) : (decD m).length ≤ 20 := by
  unfold decD
  split
  · simp
  · rw [List.length_reverse]
    exact dig_len_le (by decide) (Nat.lt_of_lt_of_le h (by decide))

set_option maxRecDepth 100000 in
set_option maxHeartbeats 1000000 in
theorem r07_Num_any (n : Int) (w : World) (h1 : -9223372036854775808 ≤ n) (h2 : n ≤ 9223372036854775807) :
    Calls Tryd.prog 10 #[.int .i64 n] w fun e w' => e = .returned (.string (textZ n)) ∧ Ext w w' := by
  have hl : (dig B32 n.natAbs).length ≤ 549755813888 := by
    have : (dig B32 n.natAbs).length ≤ 2 := natAbs_len (by unfold B32; omega)
    omega
  have HL := hidP hl; clear hl
  have hd : (decD n.natAbs).length ≤ 35184372088832 := by have := decD_len (m := n.natAbs) (by omega); omega
  have HD := hidP hd; clear hd
  go_enter Tryd.func10, Tryd.ntmps10
  go_wp2_with fail
  refine (r02_Of_any n _ h1 h2).mono ?_
  rintro e w1 hh
  obtain ⟨a1, n1, cap1, rfl, hw1, hs1, he1⟩ := hh.whIn HL.out
  clear hh hs1
  generalize decide (n < 0) = nb at *
  go_wp2_with fail
  refine (r02_Text_any nb a1 n1 cap1 n _ hw1 HD.out).mono ?_
  rintro e w2 ⟨rfl, he2⟩
  go_wp2_with fail
  go_ret
  exact ⟨rfl, he1.trans he2⟩

/-- Does a word look like a number's? -/
def DigL (l : List Nat) : Prop := PlainL (behind l) ∧ ¬ (isNeg l = true ∧ behind l = [48])
instance (l : List Nat) : Decidable (DigL l) := by unfold DigL; infer_instance

set_option maxRecDepth 100000 in
set_option maxHeartbeats 2000000 in
theorem r07_digits_any (s : ByteArray) (w : World) (hn : s.size ≤ 9223372036854775807) :
    Calls Tryd.prog 27 #[.string s] w fun e w' => e = .returned (.bool (decide (DigL (natsOf s)))) ∧ w = w' := by
  have hat0 := natsOf_at s
  by_cases h0 : s.size = 0
  · obtain rfl := size_zero h0
    have HR : Hid (decide (DigL (natsOf ⟨#[]⟩)) = false) := hidP (by decide)
    go_enter Tryd.func27, Tryd.ntmps27
    go_wp2
    go_ret
    exact ⟨by rw [HR.out]; rfl, rfl⟩
  have h00 : 0 < s.size := by omega
  have hne : s.toList.isEmpty = false := by
    rw [toList_data]
    cases hd : s.data.toList with
    | nil => have : s.data.toList.length = 0 := by rw [hd]; rfl
             have h2 : s.size = s.data.toList.length := rfl
             omega
    | cons x r => rfl
  have ha0 := hat0 0 h00
  clear hat0
  by_cases hz : s[0].toNat = 45
  · have z3 : ((s[0].toNat : Int) == 45) = true := by simp; omega
    have hng : isNeg (natsOf s) = true := by unfold isNeg; rw [ha0]; simpa using hz
    have hds : behind (natsOf s) = natsOf (s.extract 1 s.size) := by unfold behind; rw [hng, natsOf_drop1]; rfl
    by_cases hm : natsOf s = [45, 48]
    · have HR : Hid (decide (DigL (natsOf s)) = false) := hidP (by rw [hm]; decide)
      have hq : (s.toList == [45, 48]) = true := by rw [eq_str]; simpa using hm
      clear hm hng hds ha0
      go_enter Tryd.func27, Tryd.ntmps27
      go_wp2
      go_ret
      exact ⟨by rw [HR.out]; rfl, rfl⟩
    have hq : (s.toList == [45, 48]) = false := by rw [eq_str]; simpa using hm
    have h48 : natsOf (s.extract 1 s.size) ≠ [48] := fun h => hm (by
      have h3 : natsOf s = (natsOf s).getD 0 0 :: (natsOf s).drop 1 := by
        have hl := natsOf_len s
        cases hn : natsOf s with
        | nil => rw [hn] at hl; simp at hl; omega
        | cons x r => rfl
      rw [h3, ha0, hz, ← natsOf_drop1, h])
    have hDf : ¬ PlainL (natsOf (s.extract 1 s.size)) → decide (DigL (natsOf s)) = false := fun h => decide_eq_false (fun hh => h (by have := hh.1; rw [hds] at this; exact this))
    have hDt : PlainL (natsOf (s.extract 1 s.size)) → decide (DigL (natsOf s)) = true := fun h => decide_eq_true ⟨by rw [hds]; exact h, fun hh => h48 (by rw [← hds]; exact hh.2)⟩
    have hsz : (s.extract 1 s.size).size ≤ 9223372036854775807 := by rw [← natsOf_len, natsOf_drop1]; have := natsOf_len s; simp; omega
    have HDF := hidP hDf; have HDT := hidP hDt
    clear hDf hDt h48 hm hng hds ha0
    generalize decide (DigL (natsOf s)) = DD at *
    go_enter Tryd.func27, Tryd.ntmps27
    go_upto_region 5 with fail
    generalize s.extract 1 s.size = s1 at *
    have hlen := natsOf_len s1
    have hat := natsOf_at s1
    by_cases t0 : s1.size = 0
    · obtain rfl := size_zero t0
      have HQ : Hid (DD = false) := hidP (HDF.out (fun h => h.1 rfl))
      clear hat hlen
      go_wp2_with fail
      go_ret
      exact ⟨by rw [HQ.out]; rfl, rfl⟩
    have t00 : 0 < s1.size := by omega
    have tne : s1.toList.isEmpty = false := by
      rw [toList_data]
      cases hd : s1.data.toList with
      | nil => have : s1.data.toList.length = 0 := by rw [hd]; rfl
               have h2 : s1.size = s1.data.toList.length := rfl
               omega
      | cons x r => rfl
    have hb0 := hat 0 t00
    by_cases hz2 : s1[0].toNat = 48 ∧ 1 < s1.size
    · have HQ : Hid (DD = false) := hidP (HDF.out (fun h => by have := h.2.1 (by rw [hb0]; exact hz2.1); omega))
      obtain ⟨z1, z2⟩ := hz2
      have z4 : ((s1[0].toNat : Int) == 48) = true := by simp; omega
      clear hat hlen hb0
      go_wp2_with fail
      go_ret
      exact ⟨by rw [HQ.out]; rfl, rfl⟩
    have HZ : Hid ((natsOf s1).getD 0 0 = 48 → (natsOf s1).length ≤ 1) := hidP (fun h => by rw [hb0] at h; have : ¬ 1 < s1.size := fun h2 => hz2 ⟨h, h2⟩; omega)
    have HAT := hidP hat; clear hat
    have HLEN := hidP hlen; clear hlen
    clear hb0
    go_wp2_with fail
    all_goals (
      go_loop [3] (fun i => ∃ k : Nat, k ≤ s1.size ∧ i = .int .i64 (k : Int) ∧ ∀ i, i < k → 48 ≤ (natsOf s1).getD i 0 ∧ (natsOf s1).getD i 0 ≤ 57) (fun i => s1.size - (intOf i).toNat)
      case atStart => exact ⟨0, by omega, rfl, fun i hi => by omega⟩
      case round =>
        obtain ⟨k, hk, rfl, hall⟩ := hrel
        have HALL := hidP hall; clear hall
        by_cases hlt : k < s1.size
        · have hc := HAT.out k hlt
          have HC := hidP hc; clear hc
          have hki : (k : Int) < (s1.size : Int) := by omega
          have hmm : s1[k].toNat ∈ natsOf s1 := by
            rw [← HC.out, List.getD_eq_getElem?_getD, List.getElem?_eq_getElem (by rw [HLEN.out]; exact hlt)]
            exact List.getElem_mem _
          have HM := hidP hmm; clear hmm
          rcases (by omega : s1[k].toNat < 48 ∨ 57 < s1[k].toNat ∨ (48 ≤ s1[k].toNat ∧ s1[k].toNat ≤ 57)) with h | h | ⟨h, h'⟩
          · have HQ : Hid (DD = false) := hidP (HDF.out (fun hh => by have := hh.2.2 _ HM.out; omega))
            go_wp2_with fail
            go_ret
            exact ⟨by rw [HQ.out]; rfl, rfl⟩
          · have HQ : Hid (DD = false) := hidP (HDF.out (fun hh => by have := hh.2.2 _ HM.out; omega))
            go_wp2_with fail
            go_ret
            exact ⟨by rw [HQ.out]; rfl, rfl⟩
          · go_wp2_with fail
            go_round
            case rel =>
              refine ⟨k + 1, by omega, by go_num, fun i hi => ?_⟩
              by_cases hip : i = k
              · subst hip; rw [HC.out]; omega
              · exact HALL.out i (by omega)
            case measure => simp [intOf]; omega
        · have hq : s1.size ≤ k := by omega
          have HQ : Hid (DD = true) := hidP (HDT.out (by
            refine ⟨fun h => by have := HLEN.out; rw [h] at this; simp at this; omega, HZ.out, fun c hc => ?_⟩
            obtain ⟨i, hi, rfl⟩ := List.mem_iff_getElem.1 hc
            have := HALL.out i (by rw [HLEN.out] at hi; omega)
            rw [List.getD_eq_getElem?_getD, List.getElem?_eq_getElem hi] at this
            exact this))
          go_wp2_with fail
          go_ret
          exact ⟨by rw [HQ.out]; rfl, rfl⟩)
  · have z3 : ((s[0].toNat : Int) == 45) = false := by simp; omega
    have hng : isNeg (natsOf s) = false := by unfold isNeg; rw [ha0]; simpa using hz
    have hds : behind (natsOf s) = natsOf s := by unfold behind; rw [hng]; rfl
    have hDf : ¬ PlainL (natsOf s) → decide (DigL (natsOf s)) = false := fun h => decide_eq_false (fun hh => h (by have := hh.1; rw [hds] at this; exact this))
    have hDt : PlainL (natsOf s) → decide (DigL (natsOf s)) = true := fun h => decide_eq_true ⟨by rw [hds]; exact h, fun hh => by rw [hng] at hh; cases hh.1⟩
    have HDF := hidP hDf; have HDT := hidP hDt
    clear hDf hDt hng hds ha0
    generalize decide (DigL (natsOf s)) = DD at *
    go_enter Tryd.func27, Tryd.ntmps27
    go_upto_region 5 with fail
    have hlen := natsOf_len s
    have hat := natsOf_at s
    by_cases t0 : s.size = 0
    · obtain rfl := size_zero t0
      have HQ : Hid (DD = false) := hidP (HDF.out (fun h => h.1 rfl))
      clear hat hlen
      go_wp2_with fail
      go_ret
      exact ⟨by rw [HQ.out]; rfl, rfl⟩
    have t00 : 0 < s.size := by omega
    have tne : s.toList.isEmpty = false := by
      rw [toList_data]
      cases hd : s.data.toList with
      | nil => have : s.data.toList.length = 0 := by rw [hd]; rfl
               have h2 : s.size = s.data.toList.length := rfl
               omega
      | cons x r => rfl
    have hb0 := hat 0 t00
    by_cases hz2 : s[0].toNat = 48 ∧ 1 < s.size
    · have HQ : Hid (DD = false) := hidP (HDF.out (fun h => by have := h.2.1 (by rw [hb0]; exact hz2.1); omega))
      obtain ⟨z1, z2⟩ := hz2
      have z4 : ((s[0].toNat : Int) == 48) = true := by simp; omega
      clear hat hlen hb0
      go_wp2_with fail
      go_ret
      exact ⟨by rw [HQ.out]; rfl, rfl⟩
    have HZ : Hid ((natsOf s).getD 0 0 = 48 → (natsOf s).length ≤ 1) := hidP (fun h => by rw [hb0] at h; have : ¬ 1 < s.size := fun h2 => hz2 ⟨h, h2⟩; omega)
    have HAT := hidP hat; clear hat
    have HLEN := hidP hlen; clear hlen
    clear hb0
    go_wp2_with fail
    all_goals (
      go_loop [3] (fun i => ∃ k : Nat, k ≤ s.size ∧ i = .int .i64 (k : Int) ∧ ∀ i, i < k → 48 ≤ (natsOf s).getD i 0 ∧ (natsOf s).getD i 0 ≤ 57) (fun i => s.size - (intOf i).toNat)
      case atStart => exact ⟨0, by omega, rfl, fun i hi => by omega⟩
      case round =>
        obtain ⟨k, hk, rfl, hall⟩ := hrel
        have HALL := hidP hall; clear hall
        by_cases hlt : k < s.size
        · have hc := HAT.out k hlt
          have HC := hidP hc; clear hc
          have hki : (k : Int) < (s.size : Int) := by omega
          have hmm : s[k].toNat ∈ natsOf s := by
            rw [← HC.out, List.getD_eq_getElem?_getD, List.getElem?_eq_getElem (by rw [HLEN.out]; exact hlt)]
            exact List.getElem_mem _
          have HM := hidP hmm; clear hmm
          rcases (by omega : s[k].toNat < 48 ∨ 57 < s[k].toNat ∨ (48 ≤ s[k].toNat ∧ s[k].toNat ≤ 57)) with h | h | ⟨h, h'⟩
          · have HQ : Hid (DD = false) := hidP (HDF.out (fun hh => by have := hh.2.2 _ HM.out; omega))
            go_wp2_with fail
            go_ret
            exact ⟨by rw [HQ.out]; rfl, rfl⟩
          · have HQ : Hid (DD = false) := hidP (HDF.out (fun hh => by have := hh.2.2 _ HM.out; omega))
            go_wp2_with fail
            go_ret
            exact ⟨by rw [HQ.out]; rfl, rfl⟩
          · go_wp2_with fail
            go_round
            case rel =>
              refine ⟨k + 1, by omega, by go_num, fun i hi => ?_⟩
              by_cases hip : i = k
              · subst hip; rw [HC.out]; omega
              · exact HALL.out i (by omega)
            case measure => simp [intOf]; omega
        · have hq : s.size ≤ k := by omega
          have HQ : Hid (DD = true) := hidP (HDT.out (by
            refine ⟨fun h => by have := HLEN.out; rw [h] at this; simp at this; omega, HZ.out, fun c hc => ?_⟩
            obtain ⟨i, hi, rfl⟩ := List.mem_iff_getElem.1 hc
            have := HALL.out i (by rw [HLEN.out] at hi; omega)
            rw [List.getD_eq_getElem?_getD, List.getElem?_eq_getElem hi] at this
            exact this))
          go_wp2_with fail
          go_ret
          exact ⟨by rw [HQ.out]; rfl, rfl⟩)

end Go.Proofs.YtbhjookpdmfdnaaDoor
