/- The document's numbers (frisketref01): quotients and rests, bit by bit. -/
import Derived.Test.YtcipcpbjkcpgdaaA8
import Derived.Deep.DeepCutAuto
namespace Go.Proofs.Ytcipcpbjkcpgdaa
set_option linter.unusedVariables false
open Go Go.RowKit

/-- Behind a piece of code all ways meet again. -/
theorem wp_cutAt {P : Program} {c : Code} {Q : Exit → Act → World → Prop} {a : Act} {w : World} (Φ : Act → Act → World → Prop)
    (h1 : c.wp P (fun e a' w' => e = .normal ∧ Φ a a' w') a w) (h2 : ∀ a' w', Φ a a' w' → Q .normal a' w') : c.wp P Q a w :=
  Code.wp_mono (fun e a' w' ⟨he, h⟩ => he ▸ h2 a' w' h) h1

theorem Row.other {w : World} {B e n : Nat} {g cap : Nat} {xs : List Value} (h : w.ownsRow B e 1 (.slice (some ⟨g, 0, none⟩) n cap) n xs) {p : Addr} (hp : p.block ≠ g) (u : Value) :
    (w.setCell p u).ownsRow B e 1 (.slice (some ⟨g, 0, none⟩) n cap) n xs :=
  World.ownsRow.kept h ⟨rfl, rfl, rfl, by simp, fun k _ hk => heap_setCell_other w p k u (fun e => hk (by rw [e]))⟩ (.inr (by simp [Value.ownBlock]; omega))

theorem Row.ext {w u : World} {B e n : Nat} {v : Value} {xs : List Value} (h : w.ownsRow B e 1 v n xs) (he : Ext w u) : u.ownsRow B e 1 v n xs :=
  World.ownsRow.kept (row := none) h ⟨he.os, he.tape, he.output, he.size, fun k hk _ => he.block k hk⟩ (by cases v.ownBlock <;> simp)
theorem div_half (V i : Nat) : V / 2 ^ i = 2 * (V / 2 ^ (i + 1)) + V / 2 ^ i % 2 := by
  rw [Nat.pow_succ, ← Nat.div_div_eq_div_mul]; omega
theorem digit_room {V q j t : Nat} (ht : t < 16) (h : V = 2 ^ (16 * j + t + 1) * q) : V / B16 ^ j % B16 + 2 ^ t < B16 := by
  have e1 : (2 : Nat) ^ (16 * j + t + 1) = B16 ^ j * 2 ^ (t + 1) := by
    rw [Nat.add_assoc, Nat.pow_add, Nat.pow_mul]; rfl
  have e2 : V / B16 ^ j = 2 ^ (t + 1) * q := by
    rw [h, e1, Nat.mul_assoc, Nat.mul_div_cancel_left _ (Nat.pow_pos (by decide))]
  have e3 : B16 = 2 ^ (t + 1) * 2 ^ (15 - t) := by rw [← Nat.pow_add, show t + 1 + (15 - t) = 16 by omega]; rfl
  rw [e2]
  have e4 : (2 ^ (t + 1) * q) % B16 = 2 ^ (t + 1) * (q % 2 ^ (15 - t)) := by
    rw [e3, Nat.mul_mod_mul_left]
  rw [e4]
  have h1 : q % 2 ^ (15 - t) + 1 ≤ 2 ^ (15 - t) := Nat.mod_lt _ (Nat.two_pow_pos _)
  have h2 : 2 ^ (t + 1) * (q % 2 ^ (15 - t) + 1) ≤ B16 := by rw [e3]; exact Nat.mul_le_mul_left _ h1
  have h3 : (2 : Nat) ^ t < 2 ^ (t + 1) := Nat.pow_lt_pow_right (by decide) (by omega)
  rw [Nat.mul_add] at h2
  omega
theorem mul2_lt {q VY r : Nat} : 2 * (q * VY + r) = (2 * q) * VY + 2 * r := by rw [Nat.mul_add, Nat.mul_assoc]

/-- The quotient's and the rest's words. -/
def RetDiv (w : World) (x y : Nat) (e : Ending) (w' : World) : Prop :=
  ∃ a n cap a' n' cap', e = .returned (.tuple #[.slice a n cap, .slice a' n' cap', .bool (decide (y ≠ 0))]) ∧ Sl w' a n cap (ints .u32 (if y = 0 then [] else dig B32 (x / y))) ∧ Sl w' a' n' cap' (ints .u32 (if y = 0 then [] else dig B32 (x % y))) ∧ Ext w w'

set_option maxRecDepth 100000 in
set_option maxHeartbeats 2000000 in
theorem r01_Div_any (a a' : Option Addr) (n cap n' cap' : Nat) (x y : List Nat) (w : World) (hs : Sl w a n cap (ints .u32 x)) (hs' : Sl w a' n' cap' (ints .u32 y)) (hx : Ws x) (hy : Ws y)
    (hn : n ≤ 1099511627776) (hn' : n' ≤ 1099511627776) :
    Calls Try.prog 44 #[.slice a n cap, .slice a' n' cap'] w (RetDiv w (val B32 x) (val B32 y)) := by
  go_enter Try.func44, Try.ntmps44
  go_wp2_with fail
  refine (r01_half_any a n cap x _ hs hx hn).mono ?_
  rintro e w1 ⟨a1, n1, cap1, rfl, hs1, he1⟩
  go_wp2_with fail
  refine (r01_half_any a' n' cap' y _ (hs'.ext he1) hy hn').mono ?_
  rintro e w2 ⟨a2, n2, cap2, rfl, hs2, he2⟩
  have hn1 := half_len hs hx hs1
  have hn2 := half_len hs' hy hs2
  have hs1' := hs1.ext he2
  have he12 := he1.trans he2
  have hm1 := hs1.2.2.1
  have hm2 := hs2.2.2.1
  unfold maxLen at hm1 hm2
  have hl1 := hs1'.int_len
  have hl2 := hs2.int_len
  clear hs1 he1 he2
  have HVX : Hid (val B16 (dig B16 (val B32 x)) = val B32 x) := hidP (val_dig B16_two _)
  have HVY : Hid (val B16 (dig B16 (val B32 y)) = val B32 y) := hidP (val_dig B16_two _)
  have hCY := canon_dig B16_two (val B32 y)
  have hXH : Hs (dig B16 (val B32 x)) := Hs.dig _
  generalize dig B16 (val B32 x) = X at *
  generalize dig B16 (val B32 y) = Y at *
  have hYH : Hs Y := hCY.1
  by_cases hn0 : n2 = 0
  · have HY0 : Hid (val B32 y = 0) := hidP (by
      rw [← HVY.out]
      have : Y = [] := by cases Y with | nil => rfl | cons a b => simp at hl2; omega
      rw [this]; rfl)
    have hb : ((n2 : Int) == 0) = true := by simp [hn0]
    go_wp2
    go_ret3
    exact ⟨none, 0, 0, none, 0, 0, by rw [HY0.out]; rfl, by rw [if_pos HY0.out]; exact Sl.nil _, by rw [if_pos HY0.out]; exact Sl.nil _, he12⟩
  have HY0 : Hid (val B32 y ≠ 0) := hidP (by
    rw [← HVY.out]
    exact val_pos B16_two Y hCY.2 (by intro h; rw [h] at hl2; simp at hl2; omega))
  have hb : ((n2 : Int) == 0) = false := by simp [hn0]
  by_cases h4 : n1 ≤ 4 ∧ n2 ≤ 4
  · obtain ⟨h41, h42⟩ := h4
    go_wp2_with fail
    refine (r01_small_any a1 n1 cap1 X _ hs1' hXH h41).mono ?_
    rw [HVX.out]; rintro e w' ⟨rfl, rfl⟩
    go_wp2_with fail
    refine (r01_small_any a2 n2 cap2 Y _ hs2 hYH h42).mono ?_
    rw [HVY.out]; rintro e w' ⟨rfl, rfl⟩
    go_wp2_with fail
    have hbX : val B32 x ≤ 18446744073709551615 := by
      rw [← HVX.out]
      have h1 := val_lt (B := B16) (by decide) X hXH
      have h2 : B16 ^ X.length ≤ B16 ^ 4 := Nat.pow_le_pow_right (by decide) (by omega)
      have h3 : B16 ^ 4 = 18446744073709551616 := by decide
      omega
    have hbY : val B32 y ≤ 18446744073709551615 := by
      rw [← HVY.out]
      have h1 := val_lt (B := B16) (by decide) Y hYH
      have h2 : B16 ^ Y.length ≤ B16 ^ 4 := Nat.pow_le_pow_right (by decide) (by omega)
      have h3 : B16 ^ 4 = 18446744073709551616 := by decide
      omega
    have hyp := HY0.out
    generalize val B32 x = VX at *
    generalize val B32 y = VY at *
    have hyp1 : 1 ≤ VY := by omega
    have hyz : ((VY : Int) == 0) = false := by simp; omega
    have hQb : VX / VY ≤ 18446744073709551615 := Nat.le_trans (Nat.div_le_self _ _) hbX
    have hRb : VX % VY ≤ 18446744073709551615 := Nat.le_trans (Nat.mod_le _ _) hbX
    have hw1 : IntKind.u64.wrap ((VX : Int) / (VY : Int)) = ((VX / VY : Nat) : Int) := by
      rw [← Int.natCast_ediv]
      generalize VX / VY = q at *
      exact IntWalk.u64_in _ (by omega)
    have hw2 : (VX : Int).tmod (VY : Int) = ((VX % VY : Nat) : Int) := by rw [IntWalk.rem_in _ _ (by omega)]; rfl
    have HFIN : Hid (∀ w4 a5 n5 cap5 a6 n6 cap6, Sl w4 a5 n5 cap5 (ints .u32 (dig B32 (VX / VY))) → Sl w4 a6 n6 cap6 (ints .u32 (dig B32 (VX % VY))) → Ext w w4 → RetDiv w VX VY (.returned (.tuple #[.slice a5 n5 cap5, .slice a6 n6 cap6, .bool true])) w4) := hidP (by
      intro w4 a5 n5 cap5 a6 n6 cap6 h1 h2 h3
      exact ⟨a5, n5, cap5, a6, n6, cap6, by simp [hyp], by rw [if_neg hyp]; exact h1, by rw [if_neg hyp]; exact h2, h3⟩)
    refine wp_region_plan (R := Ext) (.q 0 (.q 1 (.q 2 (.q 4 (.q 5 (.q 6 (.l 3 (.l 7 (.q 8 (.q 9 (.q 10 .done))))))))))) (by kernel_rfl) (by kernel_rfl) (by kernel_rfl) (by kernel_rfl) Ext.refl (fun _ _ _ => Ext.trans) ?_
    have he12' := he12.drew
    generalize w2.drew = w3 at *
    repeat (refine wpE_q (v := ?_) rfl rfl (fun u hu => ?_) ?_; rotate_left 1; (focus (go_simp; (try go_bits); (try rfl))); simp only [Act.put, List.setIfInBounds_toArray, List.set_cons_zero, List.set_cons_succ])
    refine wpE_l rfl rfl (fun K hK => ?_)
    go_simp
    refine (r01_Of_any (VX / VY) hQb _).mono ?_
    rintro e w4 ⟨a5, n5, cap5, rfl, hs5, he5⟩
    refine hK.out _ _ he5 ?_
    clear hK K
    try simp only [Act.put, List.setIfInBounds_toArray, List.set_cons_zero, List.set_cons_succ]
    refine wpE_l rfl rfl (fun K hK => ?_)
    go_simp
    refine (r01_Of_any (VX % VY) hRb _).mono ?_
    rintro e w5 ⟨a6, n6, cap6, rfl, hs6, he6⟩
    refine hK.out _ _ he6 ?_
    clear hK K
    try simp only [Act.put, List.setIfInBounds_toArray, List.set_cons_zero, List.set_cons_succ]
    repeat (refine wpE_q (v := ?_) rfl rfl (fun u hu => ?_) ?_; rotate_left 1; (focus (go_simp; (try go_bits); (try rfl))); simp only [Act.put, List.setIfInBounds_toArray, List.set_cons_zero, List.set_cons_succ])
    refine wpE_done ?_
    go_wp2
    go_ret3
    exact HFIN.out _ _ _ _ _ _ _ (hs5.ext he6) hs6 (he12'.trans (he5.trans he6))
  · have hyp := HY0.out
    have HFIN : Hid (∀ w4 a5 n5 cap5 a6 n6 cap6, Sl w4 a5 n5 cap5 (ints .u32 (dig B32 (val B32 x / val B32 y))) → Sl w4 a6 n6 cap6 (ints .u32 (dig B32 (val B32 x % val B32 y))) → Ext w w4 → RetDiv w (val B32 x) (val B32 y) (.returned (.tuple #[.slice a5 n5 cap5, .slice a6 n6 cap6, .bool true])) w4) := hidP (by
      intro w4 a5 n5 cap5 a6 n6 cap6 h1 h2 h3
      exact ⟨a5, n5, cap5, a6, n6, cap6, by simp [hyp], by rw [if_neg hyp]; exact h1, by rw [if_neg hyp]; exact h2, h3⟩)
    clear hyp
    generalize val B32 x = VX at *
    generalize val B32 y = VY at *
    have h5 : ¬ n1 ≤ 4 ∨ (n1 ≤ 4 ∧ ¬ n2 ≤ 4) := by omega
    clear h4
    rcases h5 with h5 | ⟨h5, h5'⟩
    all_goals
      go_upto_region 7 with fail
      go_cut [11, 12] (fun vq vr wx => ∃ gq gr : Nat, vq = .slice (some ⟨gq, 0, none⟩) n1 n1 ∧ vr = .slice (some ⟨gr, 0, none⟩) (n2 + 1) (n2 + 1) ∧ gq ≠ gr ∧ w2.heap.size ≤ gq ∧ w2.heap.size ≤ gr ∧ Ext w2 wx ∧
        wx.ownsRow w2.heap.size 32 1 (.slice (some ⟨gq, 0, none⟩) n1 n1) n1 (ints .u64 (List.replicate n1 0)) ∧ wx.ownsRow w2.heap.size 32 1 (.slice (some ⟨gr, 0, none⟩) (n2 + 1) (n2 + 1)) (n2 + 1) (ints .u64 (List.replicate (n2 + 1) 0)))
      case first =>
        refine wp_region_plan (R := Ext) (.q 0 (.q 1 (.q 3 (.q 4 (.q 5 (.br 2 (.q 7 (.l 6 (.q 8 .done))) (.l 6 (.l 2 (.q 7 (.q 8 .done)))))))))) (by kernel_rfl) (by kernel_rfl) (by kernel_rfl) (by kernel_rfl) Ext.refl (fun _ _ _ => Ext.trans) ?_
        have hed : Ext w2 w2.drew := (Ext.refl _).drew
        generalize w2.drew = w3 at *
        repeat (refine wpE_q (v := ?_) rfl rfl (fun u hu => ?_) ?_; rotate_left 1; (focus (go_simp; (try go_bits); (try rfl))); simp only [Act.put, List.setIfInBounds_toArray, List.set_cons_zero, List.set_cons_succ])
        refine wpE_br rfl rfl (fun K hK => ?_) ?_
        · refine wp_make (W := w2) (n := n1) T_u64 _ _ rfl rfl rfl hed (by omega) (by omega) rfl ?_
          intro w4 hq he4 hz4
          refine hK.out _ _ he4 ?_
          clear hK K
          try simp only [Act.put, List.setIfInBounds_toArray, List.set_cons_zero, List.set_cons_succ]
          repeat (refine wpE_q (v := ?_) rfl rfl (fun u hu => ?_) ?_; rotate_left 1; (focus (go_simp; (try go_bits); (try rfl))); simp only [Act.put, List.setIfInBounds_toArray, List.set_cons_zero, List.set_cons_succ])
          refine wpE_l rfl rfl (fun K hK => ?_)
          refine wp_make (W := w2) (n := n2 + 1) T_u64 _ _ rfl rfl rfl (hed.trans he4) (by omega) (by omega) rfl ?_
          intro w5 hr he5 hz5
          refine hK.out _ _ he5 ?_
          clear hK K
          try simp only [Act.put, List.setIfInBounds_toArray, List.set_cons_zero, List.set_cons_succ]
          repeat (refine wpE_q (v := ?_) rfl rfl (fun u hu => ?_) ?_; rotate_left 1; (focus (go_simp; (try go_bits); (try rfl))); simp only [Act.put, List.setIfInBounds_toArray, List.set_cons_zero, List.set_cons_succ])
          refine wpE_done ?_
          go_wp2_with fail
          go_meet
          rw [hz4] at hr
          exact ⟨w3.heap.size, w3.heap.size + 1, rfl, rfl, by omega, hed.size, by have := hed.size; omega, hed.trans (he4.trans he5), by rw [← replicate_ints]; exact Row.ext hq he5, by rw [← replicate_ints]; exact hr⟩
        · refine wpE_l rfl rfl (fun K hK => ?_)
          refine wp_make (W := w2) (n := n2 + 1) T_u64 _ _ rfl rfl rfl hed (by omega) (by omega) rfl ?_
          intro w4 hr he4 hz4
          refine hK.out _ _ he4 ?_
          clear hK K
          try simp only [Act.put, List.setIfInBounds_toArray, List.set_cons_zero, List.set_cons_succ]
          repeat (refine wpE_q (v := ?_) rfl rfl (fun u hu => ?_) ?_; rotate_left 1; (focus (go_simp; (try go_bits); (try rfl))); simp only [Act.put, List.setIfInBounds_toArray, List.set_cons_zero, List.set_cons_succ])
          refine wpE_l rfl rfl (fun K hK => ?_)
          refine wp_make (W := w2) (n := n1) T_u64 _ _ rfl rfl rfl (hed.trans he4) (by omega) (by omega) rfl ?_
          intro w5 hq he5 hz5
          refine hK.out _ _ he5 ?_
          clear hK K
          try simp only [Act.put, List.setIfInBounds_toArray, List.set_cons_zero, List.set_cons_succ]
          repeat (refine wpE_q (v := ?_) rfl rfl (fun u hu => ?_) ?_; rotate_left 1; (focus (go_simp; (try go_bits); (try rfl))); simp only [Act.put, List.setIfInBounds_toArray, List.set_cons_zero, List.set_cons_succ])
          refine wpE_done ?_
          go_wp2_with fail
          go_meet
          rw [hz4] at hq
          exact ⟨w3.heap.size + 1, w3.heap.size, rfl, rfl, by omega, by have := hed.size; omega, hed.size, hed.trans (he4.trans he5), by rw [← replicate_ints]; exact hq, by rw [← replicate_ints]; exact Row.ext hr he5⟩
      case rest =>
        obtain ⟨gq, gr, rfl, rfl, hne, hgq, hgr, he3, hq, hr⟩ := hcut
        have hbY : Hid (VY < B16 ^ n2) := hidP (by rw [← HVY.out, ← hl2]; exact val_lt (by decide) Y hYH)
        generalize hL : n2 + 1 = L at *
        have HL := hidP hL; clear hL
        have hLb : L ≤ 4398046511105 := by have := HL.out; omega
        go_wp2_with fail
        go_loopw [13] (fun iv wr => ∃ (k q : Nat) (D E : List Nat), k ≤ 16 * n1 ∧ iv = .int .i64 ((k : Int) - 1) ∧ Ext w2 wr ∧
          wr.ownsRow w2.heap.size 32 1 (.slice (some ⟨gq, 0, none⟩) n1 n1) n1 (ints .u64 D) ∧ wr.ownsRow w2.heap.size 32 1 (.slice (some ⟨gr, 0, none⟩) L L) L (ints .u64 E) ∧ Hs D ∧ Hs E ∧
          val B16 E < VY ∧ val B16 D = 2 ^ k * q ∧ VX / 2 ^ k = q * VY + val B16 E) (fun iv _ => (intOf iv + 1).toNat)
        case atStart =>
          refine ⟨16 * n1, 0, _, _, by omega, by go_num, he3, hq, hr, (by intro d hd; simp at hd; rw [hd.2]; decide), (by intro d hd; simp at hd; rw [hd.2]; decide), ?_, by simp [val_replicate], ?_⟩
          · rw [val_replicate]; have := HY0.out; omega
          · have h1 := val_lt (B := B16) (by decide) X hXH
            rw [HVX.out, hl1] at h1
            have e : (2 : Nat) ^ (16 * n1) = B16 ^ n1 := by rw [Nat.pow_mul]; rfl
            rw [e, Nat.div_eq_of_lt h1, val_replicate]; simp
        case round =>
          clear hq hr he3
          obtain ⟨k, q, D, E, hk, rfl, he, hq, hr, hD, hE, hlt, hvd, hvx⟩ := hrel
          have HLT := hidP hlt; have HVD := hidP hvd; have HVR := hidP hvx; clear hlt hvd hvx
          have hsx := hs1'.ext he
          have hsy := hs2.ext he
          by_cases h0 : 0 < k
          · obtain ⟨i, rfl⟩ : ∃ i, k = i + 1 := ⟨k - 1, by omega⟩
            have e1 : ((i + 1 : Nat) : Int) - 1 = (i : Int) := by omega
            rw [e1]
            clear e1
            have HH : Hid (VX / 2 ^ i = 2 * (VX / 2 ^ (i + 1)) + VX / 2 ^ i % 2) := hidP (div_half VX i)
            have hbt : VX / 2 ^ i % 2 ≤ 1 := by have : VX / 2 ^ i % 2 < 2 := Nat.mod_lt _ (by decide); exact Nat.le_of_lt_succ this
            go_wp2_with fail
            refine (r01_bit_any a1 n1 cap1 X i _ hsx hXH (by omega) (by omega)).mono ?_
            rw [HVX.out]
            generalize VX / 2 ^ i % 2 = bt at *
            rintro e w' ⟨rfl, rfl⟩
            obtain ⟨wo, rfl⟩ : ∃ wo : World, wo = wr := ⟨_, rfl⟩
            go_wp2_with fail
            have hEl := Row.len hr
            go_loopw [14, 15] (fun c kv wr => ∃ (kk cc : Nat) (F : List Nat), kk ≤ L ∧ kv = .int .i64 kk ∧ c = .int .u64 cc ∧ cc ≤ 1 ∧ Ext w2 wr ∧
              wr.ownsRow w2.heap.size 32 1 (.slice (some ⟨gq, 0, none⟩) n1 n1) n1 (ints .u64 D) ∧ wr.ownsRow w2.heap.size 32 1 (.slice (some ⟨gr, 0, none⟩) L L) L (ints .u64 F) ∧ Hs F ∧
              (∀ j, kk ≤ j → F.getD j 0 = E.getD j 0) ∧ val B16 F + B16 ^ kk * cc = val B16 E + val B16 (E.take kk) + bt) (fun _ kv _ => L - (intOf kv).toNat)
            case atStart => exact ⟨0, bt, E, by omega, rfl, rfl, hbt, he, hq, hr, hE, fun _ _ => rfl, by simp [val]⟩
            case round =>
              clear hq hr he hsx hsy
              obtain ⟨kk, cc, F, hkk, rfl, rfl, hcc, he, hq, hr, hF, hsame, hv⟩ := hrel
              have HV := hidP hv; have HSA := hidP hsame; clear hv hsame
              have hFl := Row.len hr
              by_cases h1 : kk < L
              · have hik : kk < F.length := by omega
                have hcF := Row.cell hr kk hik
                have hfr := Row.free hr kk
                have hFk := hF.at kk hik
                have hst := fun v => Row.store hr kk v
                have hoq := fun v => Row.other hq (p := ⟨gr, kk, none⟩) (by simpa using Ne.symm hne) v
                have HS := fun v => val_set B16 F kk v hik
                have HEK : Hid (E.getD kk 0 = F[kk]) := hidP (by rw [← HSA.out kk (Nat.le_refl _), List.getD_eq_getElem?_getD]; simp [hik])
                generalize F[kk] = ee at *
                have HST := hidP hst; have HSE := hidP HS; have HOQ := hidP hoq; clear hst HS hoq
                go_wp2
                go_roundw
                case rel =>
                  refine ⟨kk + 1, (2 * ee + cc) / 65536, F.set kk ((2 * ee + cc) % 65536), by omega, by go_num, rfl, by omega, he.store (by exact hgr) _, HOQ.out _, HST.out ((2 * ee + cc) % 65536), set_lt hF _ _ (Nat.mod_lt _ (by decide)), ?_, ?_⟩
                  · intro j hj
                    rw [getD_set _ _ _ _ (by omega)]; exact HSA.out j (by omega)
                  · have h6 := HSE.out ((2 * ee + cc) % 65536)
                    have h7 := HV.out
                    have h8 := Nat.div_add_mod (2 * ee + cc) 65536
                    have e : B16 ^ kk * ((2 * ee + cc) % 65536) + B16 ^ kk * B16 * ((2 * ee + cc) / 65536) = B16 ^ kk * (2 * ee + cc) := by
                      rw [Nat.mul_assoc, ← Nat.mul_add, Nat.add_comm]; congr 1
                    have e2 : B16 ^ kk * (2 * ee + cc) = B16 ^ kk * ee + B16 ^ kk * ee + B16 ^ kk * cc := by rw [Nat.mul_add, Nat.two_mul, Nat.mul_add]
                    rw [val_take_snoc, HEK.out, Nat.pow_succ]
                    omega
                case measure => simp only [intOf]; omega
              · obtain rfl : kk = L := by omega
                have HR : Hid (val B16 F = 2 * val B16 E + bt) := hidP (by
                  have hv := HV.out
                  rw [List.take_of_length_le (by omega)] at hv
                  have h6 := HLT.out
                  have h7 := hbY.out
                  have h8 : 2 * B16 ^ n2 ≤ B16 ^ kk := by rw [← HL.out, Nat.pow_succ, Nat.mul_comm]; exact Nat.mul_le_mul_left _ (by decide)
                  match cc, hcc with
                  | 0, _ => simp only [Nat.mul_zero, Nat.add_zero] at hv; omega
                  | 1, _ => simp only [Nat.mul_one] at hv; omega)
                have hslF := Sl.of_owns' hr
                have hsy := hs2.ext he
                clear HV HSA
                by_cases hlt2 : val B16 F < VY
                · have HC : Hid (cmpI (val B16 F) VY = -1) := hidP (cmpI_lt hlt2)
                  have HLT2 := hidP hlt2
                  clear hlt2
                  go_wp2_with fail
                  refine (r01_cmp_any _ _ _ _ _ _ F Y _ hslF hsy hF hYH (by omega) (by omega)).mono ?_
                  rw [HVY.out, HC.out]
                  rintro e w' ⟨rfl, rfl⟩
                  go_wp2
                  go_roundw
                  case rel =>
                    refine ⟨i, 2 * q, D, F, by omega, rfl, he, hq, hr, hD, hF, HLT2.out, by rw [HVD.out, Nat.pow_succ, Nat.mul_assoc], ?_⟩
                    rw [HH.out, HVR.out, HR.out, mul2_lt]; omega
                  case measure => simp [intOf]
                · have hge2 : VY ≤ val B16 F := by omega
                  have hc0 := cmpI_ge hge2
                  have HGE := hidP hge2
                  clear hlt2 hge2
                  go_wp2_with fail
                  refine (r01_cmp_any _ _ _ _ _ _ F Y _ hslF hsy hF hYH (by omega) (by omega)).mono ?_
                  rw [HVY.out]
                  generalize cmpI (val B16 F) VY = c0 at *
                  rintro e w' ⟨rfl, rfl⟩
                  obtain ⟨wp, rfl⟩ : ∃ wp : World, wp = wr := ⟨_, rfl⟩
                  go_wp2_with fail
                  go_loopw [14, 17] (fun c kv wr => ∃ (k2 cc : Nat) (G : List Nat), k2 ≤ kk ∧ kv = .int .i64 k2 ∧ c = .int .u64 cc ∧ cc ≤ 1 ∧ Ext w2 wr ∧
                    wr.ownsRow w2.heap.size 32 1 (.slice (some ⟨gq, 0, none⟩) n1 n1) n1 (ints .u64 D) ∧ wr.ownsRow w2.heap.size 32 1 (.slice (some ⟨gr, 0, none⟩) kk kk) kk (ints .u64 G) ∧ Hs G ∧
                    (∀ j, k2 ≤ j → G.getD j 0 = F.getD j 0) ∧ val B16 G + val B16 (Y.take k2) = val B16 F + B16 ^ k2 * cc) (fun _ kv _ => kk - (intOf kv).toNat)
                  case atStart => exact ⟨0, 0, F, by omega, rfl, rfl, by omega, he, hq, hr, hF, fun _ _ => rfl, by simp [val]⟩
                  case round =>
                    clear hq hr he hsy hslF
                    obtain ⟨k2, cc, G, hk2, rfl, rfl, hcc, he, hq, hr, hG, hsame, hv⟩ := hrel
                    have HV := hidP hv; have HSA := hidP hsame; clear hv hsame
                    have hGl := Row.len hr
                    have hsy := hs2.ext he
                    by_cases h2 : k2 < kk
                    · have hik : k2 < G.length := by omega
                      have hcG := Row.cell hr k2 hik
                      have hfr := Row.free hr k2
                      have hGk := hG.at k2 hik
                      have hyi := getD_lt (by unfold B16; omega) hYH k2
                      generalize hQ : Y.getD k2 0 = yq at *
                      have HQ := hidP hQ; clear hQ
                      have hyq : yq < 65536 := by unfold B16 at hyi; omega
                      clear hyi
                      have hst := fun v => Row.store hr k2 v
                      have hoq := fun v => Row.other hq (p := ⟨gr, k2, none⟩) (by simpa using Ne.symm hne) v
                      have HS := fun v => val_set B16 G k2 v hik
                      generalize G[k2] = ee at *
                      have HST := hidP hst; have HSE := hidP HS; have HOQ := hidP hoq; clear hst HS hoq
                      have hge : (yq : Int) + (cc : Int) ≤ 65536 + (ee : Int) := by omega
                      go_wp2_with fail
                      refine wp_region_plan (R := Ext) (.q 0 (.q 1 (.q 2 (.q 3 (.q 4 (.q 5 (.q 6 (.q 9 (.l 7 (.q 8 (.q 10 (.q 11 .done)))))))))))) (by kernel_rfl) (by kernel_rfl) (by kernel_rfl) (by kernel_rfl) Ext.refl (fun _ _ _ => Ext.trans) ?_
                      have hce : wr.drew.cell? ⟨gr, k2, none⟩ = some (.int .u64 (ee : Nat)) := by go_simp
                      have hsyd := hsy.ext (Ext.refl wr).drew
                      have hdr : Ext wr wr.drew := (Ext.refl wr).drew
                      repeat (refine wpE_q (v := ?_) rfl rfl (fun u hu => ?_) ?_; rotate_left 1; (focus ((try have hcu := hu.cell' hce); go_simp; (try go_bits); (try rfl))); simp only [Act.put, List.setIfInBounds_toArray, List.set_cons_zero, List.set_cons_succ])
                      refine wpE_l rfl rfl (fun K hK => ?_)
                      go_simp
                      refine (r01_at_any a2 n2 cap2 Y k2 _ hsyd (by omega)).mono ?_
                      rw [HQ.out]; rintro e w' ⟨rfl, rfl⟩
                      refine hK.out _ _ (Ext.refl _) ?_
                      clear hK K
                      try simp only [Act.put, List.setIfInBounds_toArray, List.set_cons_zero, List.set_cons_succ]
                      repeat (refine wpE_q (v := ?_) rfl rfl (fun u hu => ?_) ?_; rotate_left 1; (focus ((try have hcu := hu.cell' hce); go_simp; (try go_bits); (try rfl))); simp only [Act.put, List.setIfInBounds_toArray, List.set_cons_zero, List.set_cons_succ])
                      refine wpE_done ?_
                      go_wp2
                      go_roundw
                      case rel =>
                        have ez : (((65536 + ee - yq - cc) % 65536 : Nat) : Int) = (65536 + (ee : Int) - yq - cc) % 65536 := by omega
                        have h5 := HST.out ((65536 + ee - yq - cc) % 65536)
                        rw [ez] at h5
                        refine ⟨k2 + 1, 1 - (65536 + ee - yq - cc) / 65536, G.set k2 ((65536 + ee - yq - cc) % 65536), by omega, by go_num, by refine congrArg _ ?_; omega, by omega, he.drew.store (by exact hgr) _, HOQ.out _, h5, set_lt hG _ _ (Nat.mod_lt _ (by decide)), ?_, ?_⟩
                        · intro j hj
                          rw [getD_set _ _ _ _ (by omega)]; exact HSA.out j (by omega)
                        · have h6 := HSE.out ((65536 + ee - yq - cc) % 65536)
                          have h7 := HV.out
                          have h8 := sub_step (B := B16) (P := B16 ^ k2) (d := val B16 G) (c := cc) (x := 0) (y := 0) (by decide) hcc (by decide) (by rw [h7])
                          rw [val_take_snoc, HQ.out, Nat.pow_succ]
                          clear h8
                          obtain ⟨v, hv⟩ : ∃ v, v = 65536 + ee - yq - cc := ⟨_, rfl⟩
                          rw [← hv] at h6 ⊢
                          have hv' : v + yq + cc = 65536 + ee := by omega
                          have e1 : B16 ^ k2 * v + B16 ^ k2 * yq + B16 ^ k2 * cc = B16 ^ k2 * 65536 + B16 ^ k2 * ee := by rw [← Nat.mul_add, ← Nat.mul_add, ← Nat.mul_add, hv']
                          have hd := Nat.div_add_mod v 65536
                          have hq1 : v / 65536 ≤ 1 := by omega
                          have e3 : B16 ^ k2 * B16 = B16 ^ k2 * 65536 := rfl
                          rw [e3]
                          generalize v / 65536 = qq at *
                          generalize v % 65536 = rr at *
                          match qq, hq1 with
                          | 0, _ =>
                            simp only [Nat.mul_zero, Nat.zero_add] at hd
                            subst hd
                            simp only [Nat.sub_zero, Nat.mul_one]
                            omega
                          | 1, _ =>
                            have e2 : B16 ^ k2 * v = B16 ^ k2 * 65536 + B16 ^ k2 * rr := by rw [← Nat.mul_add]; rw [Nat.mul_one] at hd; rw [hd]
                            simp only [Nat.sub_self, Nat.mul_zero]
                            omega
                      case measure => simp only [intOf]; omega
                    · obtain rfl : k2 = kk := by omega
                      have hYl : Y.length ≤ k2 := by have := HL.out; omega
                      have HG2 : Hid (val B16 G + VY = val B16 F) := hidP (by
                        have hv := HV.out
                        rw [List.take_of_length_le hYl, HVY.out] at hv
                        have h6 := HGE.out
                        have h7 := val_lt (B := B16) (by decide) G hG
                        rw [hGl] at h7
                        match cc, hcc with
                        | 0, _ => simp only [Nat.mul_zero, Nat.add_zero] at hv; exact hv
                        | 1, _ => simp only [Nat.mul_one] at hv; omega)
                      clear HV HSA
                      have hDl := Row.len hq
                      have hij : i / 16 < D.length := by omega
                      have hcD := Row.cell hq (i / 16) hij
                      have hfr := Row.free hq (i / 16)
                      have HRM : Hid (D[i / 16] + 2 ^ (i % 16) < 65536) := hidP (by
                        have h6 := digit_room (V := val B16 D) (q := q) (j := i / 16) (t := i % 16) (Nat.mod_lt _ (by decide)) (by rw [HVD.out]; congr 2; omega)
                        rw [digit_at (by decide) (i / 16) D hD, List.getD_eq_getElem?_getD] at h6
                        have h7 : D[i / 16] + 2 ^ (i % 16) < B16 := by simpa [hij] using h6
                        exact h7)
                      have hst := fun v => Row.store hq (i / 16) v
                      have hor := fun v => Row.other hr (p := ⟨gq, i / 16, none⟩) (by simpa using hne) v
                      have HS := fun v => val_set B16 D (i / 16) v hij
                      generalize D[i / 16] = dd at *
                      have HST := hidP hst; have HSE := hidP HS; have HOR := hidP hor; clear hst HS hor
                      obtain ⟨pw, hpw⟩ : ∃ pw : Nat, pw = 2 ^ (i % 16) := ⟨_, rfl⟩
                      have hpwb : dd + pw < 65536 := by rw [hpw]; exact HRM.out
                      have hwr : IntKind.u64.wrap ((2 : Int) ^ (i % 16)) = (pw : Int) := by
                        have : ((2 : Int) ^ (i % 16)) = (pw : Int) := by rw [hpw, Int.natCast_pow]; rfl
                        rw [this]; exact IntWalk.u64_in _ (by omega)
                      have HPW := hidP hpw; clear hpw
                      go_wp2
                      go_roundw
                      case rel =>
                        refine ⟨i, 2 * q + 1, D.set (i / 16) (dd + pw), G, by omega, rfl, he.store (by exact hgq) _, HST.out (dd + pw), HOR.out _, set_lt hD _ _ (by unfold B16; omega), hG, ?_, ?_, ?_⟩
                        · have h6 := HG2.out; have h7 := HR.out; have h8 := HLT.out; omega
                        · have h6 := HSE.out (dd + pw)
                          have h7 := HVD.out
                          have e : B16 ^ (i / 16) * pw = 2 ^ i := by
                            rw [HPW.out]
                            have e1 : (B16 : Nat) ^ (i / 16) = 2 ^ (16 * (i / 16)) := by rw [Nat.pow_mul]; rfl
                            rw [e1, ← Nat.pow_add]; congr 1; omega
                          rw [Nat.mul_add, e] at h6
                          rw [Nat.pow_succ, Nat.mul_assoc] at h7
                          rw [Nat.mul_add, Nat.mul_one]
                          omega
                        · have h6 := HG2.out; have h7 := HR.out
                          rw [HH.out, HVR.out, mul2_lt, Nat.add_mul, Nat.one_mul]; omega
                      case measure => simp [intOf]
          · obtain rfl : k = 0 := by omega
            have h6 := HVR.out
            have h7 := HLT.out
            have h8 := HVD.out
            simp only [Nat.pow_zero, Nat.div_one, Nat.one_mul] at h6 h8
            have HQV : Hid (VX / VY = val B16 D) := hidP (by
              rw [h6, h8, Nat.mul_comm, Nat.mul_add_div (by omega), Nat.div_eq_of_lt h7, Nat.add_zero])
            have HRV : Hid (VX % VY = val B16 E) := hidP (by
              rw [h6, Nat.mul_comm, Nat.mul_add_mod, Nat.mod_eq_of_lt h7])
            clear h6 h7 h8
            have hslD := Sl.of_owns' hq
            have hslE := Sl.of_owns' hr
            go_wp2_with fail
            refine (r01_words_any _ _ _ _ _ hslD hD (by omega)).mono ?_
            rw [← HQV.out]
            rintro e w5 ⟨a5, n5, cap5, rfl, hs5, he5⟩
            go_wp2_with fail
            refine (r01_words_any _ _ _ _ _ (hslE.ext he5) hE (by omega)).mono ?_
            rw [← HRV.out]
            rintro e w6 ⟨a6, n6, cap6, rfl, hs6, he6⟩
            go_wp2
            go_ret3
            exact HFIN.out _ _ _ _ _ _ _ (hs5.ext he6) hs6 (he12.trans (he.trans (he5.trans he6)))

end Go.Proofs.Ytcipcpbjkcpgdaa
