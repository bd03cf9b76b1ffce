/- There and back: the walk. -/
import Derived.Test.YtlhaepcnhkaclaaDoorX15
namespace Go.Proofs.YtlhaepcnhkaclaaDoor
set_option linter.unusedVariables false
set_option linter.unusedSimpArgs false
open Go Go.RowKit

theorem join_small : ∀ (ll : List (List (List Nat))) (i : Nat) (out c : List Nat), joinF ll i out = (c, 0, 0) → ∀ ps ∈ ll, longL ps ≤ 4096
  | [], _, _, _, _, _, hp => absurd hp (by simp)
  | ps :: r, i, out, c, h, q, hq => by
    unfold joinF at h
    by_cases h1 : rightL (i + 1) ps = 0
    · rw [if_pos h1] at h
      rcases List.mem_cons.1 hq with rfl | hq
      · exact (right_lim h1).2
      · exact join_small r _ _ _ h q hq
    · rw [if_neg h1] at h
      simp only [Prod.mk.injEq] at h
      omega
theorem small_sum {ps : List (List Nat)} (h : longL ps ≤ 4096) : ps.length + sumL ps ≤ 4611686018427387904 := by
  unfold longL at h
  unfold sumL
  omega
theorem word_byte {ps : List (List Nat)} (h : ps.all wordL = true) : ∀ p ∈ ps, ∀ x ∈ p, x ≤ 255 := fun p hp x hx => by
  have := (word_no (List.all_eq_true.1 h p hp)).2 x hx
  omega

theorem linesF_k : ∀ (L : List (List Nat × Bool)) (acc r : List (List (List Nat))) (k : Nat), linesF L acc = (r, k, 0) → k = 0
  | [], acc, r, k, h => by simp only [linesF, Prod.mk.injEq] at h; omega
  | x :: t, acc, r, k, h => by
    unfold linesF at h
    by_cases h1 : (oneL (acc.length + 1) x.1 x.2).1 = 0
    · rw [if_pos h1] at h
      exact linesF_k t _ r k h
    · rw [if_neg h1] at h
      simp only [Prod.mk.injEq] at h
      omega
theorem joinF_k : ∀ (L : List (List (List Nat))) (i : Nat) (out r : List Nat) (k : Nat), joinF L i out = (r, k, 0) → k = 0
  | [], i, out, r, k, h => by simp only [joinF, Prod.mk.injEq] at h; omega
  | x :: t, i, out, r, k, h => by
    unfold joinF at h
    by_cases h1 : rightL (i + 1) x = 0
    · rw [if_pos h1] at h
      exact joinF_k t _ _ r k h
    · rw [if_neg h1] at h
      simp only [Prod.mk.injEq] at h
      omega
theorem join_byte : ∀ (ll : List (List (List Nat))) (i : Nat) (out c : List Nat), (∀ x ∈ out, x ≤ 255) → joinF ll i out = (c, 0, 0) → ∀ x ∈ c, x ≤ 255
  | [], i, out, c, ho, h => by simp only [joinF, Prod.mk.injEq, and_true] at h; subst h; exact ho
  | ps :: r, i, out, c, ho, h => by
    have hw := join_ok _ _ _ _ h ps List.mem_cons_self
    unfold joinF at h
    by_cases h1 : rightL (i + 1) ps = 0
    · rw [if_pos h1] at h
      refine join_byte r _ _ c (fun x hx => ?_) h
      rcases List.mem_append.1 hx with hx | hx
      · exact ho x hx
      · rcases List.mem_append.1 hx with hx | hx
        · have hb := word_byte hw
          cases ps with
          | nil => simp [joinW] at hx
          | cons p q =>
            unfold joinW at hx
            rcases List.mem_append.1 hx with hx | hx
            · exact hb p List.mem_cons_self x hx
            · obtain ⟨z, hz, hx⟩ := List.mem_flatMap.1 hx
              rcases List.mem_cons.1 hx with hx | hx
              · omega
              · exact hb z (List.mem_cons_of_mem _ hz) x hx
        · simp at hx; omega
    · rw [if_neg h1] at h
      simp only [Prod.mk.injEq] at h
      omega

theorem join_count : ∀ (ll : List (List (List Nat))) (i : Nat) (out c : List Nat), joinF ll i out = (c, 0, 0) → ll.length ≤ 1000 - i
  | [], _, _, _, _ => Nat.zero_le _
  | ps :: r, i, out, c, h => by
    unfold joinF at h
    by_cases h1 : rightL (i + 1) ps = 0
    · rw [if_pos h1] at h
      have h2 := (right_lim h1).1
      have := join_count r _ _ _ h
      simp only [List.length_cons]
      omega
    · rw [if_neg h1] at h
      simp only [Prod.mk.injEq] at h
      omega

set_option maxRecDepth 100000 in
set_option maxHeartbeats 8000000 in
theorem lexBack_any (a a0 : Option Addr) (n c n0 c0 : Nat) (l : List Nat) (ll : List (List (List Nat))) (w : World) (h : Sl w a n c (ints .u8 l)) (hl : ∀ x ∈ l, x ≤ 255) (hn : n ≤ 9223372036854775807) (h0 : SlSS w a0 n0 c0 ll) (hn0 : n0 ≤ 9223372036854775806) (hb : ∀ ps ∈ ll, ps.length + sumL ps ≤ 4611686018427387904) (hle : ∀ ps ∈ ll, ∀ p ∈ ps, ∀ x ∈ p, x ≤ 255) :
    Calls Tryd.prog 4 #[.slice a n c, .slice a0 n0 c0] w fun e w' => e = .returned (.bool true) ∧ Ext w w' := by
  have A1 := hidP (x_Lines a n c l w h hl (by omega))
  have HLB := hidP hl
  have H := hidP h
  have H0 := hidP h0
  have AJ := hidP (fun (u : World) (t : SlSS u a0 n0 c0 ll) => x_Join a0 n0 c0 ll u t hn0 hb hle)
  have HB1 : Hid (∀ r, linesF (linesP l) [] = (r, 0, 0) → joinF r 0 [] = (l, 0, 0)) := hidP (fun r => back_1)
  have HB2 : Hid (∀ r, joinF ll 0 [] = (r, 0, 0) → linesF (linesP r) [] = (ll, 0, 0)) := hidP (fun r => back_2)
  have HK1 : Hid (∀ r k, linesF (linesP l) [] = (r, k, 0) → k = 0) := hidP (fun r k => linesF_k _ _ r k)
  have HK2 : Hid (∀ r k, joinF ll 0 [] = (r, k, 0) → k = 0) := hidP (fun r k => joinF_k _ _ _ r k)
  have HC2 : Hid (∀ r, joinF ll 0 [] = (r, 0, 0) → ∀ x ∈ r, x ≤ 255) := hidP (fun r => join_byte _ _ _ r (by simp))
  generalize linesF (linesP l) [] = r at *
  generalize joinF ll 0 [] = r0 at *
  obtain ⟨m, k, er⟩ := r
  obtain ⟨c2, k2, er2⟩ := r0
  clear h hl h0 hb hle
  go_enter Tryd.func4, Tryd.ntmps4
  go_wp2_with fail
  refine A1.out.mono ?_
  rintro e u1 ⟨a1, n1, c1, rfl, hs1, hx1⟩
  have HS1 := hidP hs1
  clear hs1
  by_cases he : er = 0
  · subst he
    have HK := HK1.out _ _ rfl
    have HM := hidP (HB1.out m (by rw [HK]))
    have hn1 : n1 ≤ 9223372036854775806 := by have e1 := HS1.out.len; have e2 := join_count _ _ _ _ HM.out; simp only at e1; omega
    have HJ := hidP (x_Join a1 n1 c1 m u1 HS1.out hn1 (fun ps hp => small_sum (join_small _ _ _ _ HM.out ps hp)) (fun ps hp => word_byte (join_ok _ _ _ _ HM.out ps hp)))
    rw [HM.out] at HJ
    go_wp2_with fail
    refine HJ.out.mono ?_
    rintro e u2 ⟨a2, n2, c2', rfl, hs2, hx2⟩
    have HS2 := hidP hs2
    clear hs2
    have hst1 := str_of HS2.out HLB.out
    have hst2 := str_of (H.out.ext (hx1.trans hx2)) HLB.out
    simp only at hst1
    generalize bytesOf l = bl at *
    go_wp2_with fail
    refine (AJ.out _ (H0.out.ext (hx1.trans hx2))).mono ?_
    rintro e u3 ⟨a3, n3, c3, rfl, hs3, hx3⟩
    have HE3 := (hx1.trans hx2).trans hx3
    have HS3 := hidP hs3
    clear hs3
    by_cases hf : er2 = 0
    · subst hf
      have HKK := HK2.out _ _ rfl
      have HBB := hidP (HB2.out c2 (by rw [HKK]))
      have HL0 := hidP (x_Lines a3 n3 c3 c2 u3 HS3.out (HC2.out _ (by rw [HKK])) (by have q2 := HS3.out.2.1; have q3 := HS3.out.2.2.1; unfold maxLen at q3; omega))
      rw [HBB.out] at HL0
      go_wp2_with fail
      refine HL0.out.mono ?_
      rintro e u4 ⟨a4, n4, c4, rfl, hs4, hx4⟩
      have HE4 := HE3.trans hx4
      have HS4 := hidP hs4
      have HA4 := hidP (d_Same6 _ _ _ _ _ _ _ u4 HS4.out (H0.out.ext HE4) (by have e1 := HS4.out.len; have e2 := H0.out.len; simp only at e1; omega))
      clear hs4
      go_wp2_with fail
      refine HA4.out.mono ?_
      rintro e u5 ⟨rfl, hx5⟩
      have HE5 := HE4.trans hx5
      go_wp2_with fail
      refine (lex_lives _).mono ?_
      rintro e u6 ⟨rfl, hx6⟩
      go_wp2_with fail
      go_ret
      exact ⟨rfl, HE5.trans hx6⟩
    · have hne3 : ((er2 : Int) == 0) = false := by simp; omega
      go_wp2_with fail
      refine (lex_lives _).mono ?_
      rintro e u6 ⟨rfl, hx6⟩
      go_wp2_with fail
      go_ret
      exact ⟨rfl, HE3.trans hx6⟩
  · have hne2 : ((er : Int) == 0) = false := by simp; omega
    go_wp2_with fail
    refine (AJ.out _ (H0.out.ext hx1)).mono ?_
    rintro e u3 ⟨a3, n3, c3, rfl, hs3, hx3⟩
    have HE3 := (hx1).trans hx3
    have HS3 := hidP hs3
    clear hs3
    by_cases hf : er2 = 0
    · subst hf
      have HKK := HK2.out _ _ rfl
      have HBB := hidP (HB2.out c2 (by rw [HKK]))
      have HL0 := hidP (x_Lines a3 n3 c3 c2 u3 HS3.out (HC2.out _ (by rw [HKK])) (by have q2 := HS3.out.2.1; have q3 := HS3.out.2.2.1; unfold maxLen at q3; omega))
      rw [HBB.out] at HL0
      go_wp2_with fail
      refine HL0.out.mono ?_
      rintro e u4 ⟨a4, n4, c4, rfl, hs4, hx4⟩
      have HE4 := HE3.trans hx4
      have HS4 := hidP hs4
      have HA4 := hidP (d_Same6 _ _ _ _ _ _ _ u4 HS4.out (H0.out.ext HE4) (by have e1 := HS4.out.len; have e2 := H0.out.len; simp only at e1; omega))
      clear hs4
      go_wp2_with fail
      refine HA4.out.mono ?_
      rintro e u5 ⟨rfl, hx5⟩
      have HE5 := HE4.trans hx5
      go_wp2_with fail
      refine (lex_lives _).mono ?_
      rintro e u6 ⟨rfl, hx6⟩
      go_wp2_with fail
      go_ret
      exact ⟨rfl, HE5.trans hx6⟩
    · have hne3 : ((er2 : Int) == 0) = false := by simp; omega
      go_wp2_with fail
      refine (lex_lives _).mono ?_
      rintro e u6 ⟨rfl, hx6⟩
      go_wp2_with fail
      go_ret
      exact ⟨rfl, HE3.trans hx6⟩

end Go.Proofs.YtlhaepcnhkaclaaDoor
