/- The document's numbers (frisketref01): sums and differences. -/
import Derived.Test.YtcipcpbjkcpgdaaA3
namespace Go.Proofs.Ytcipcpbjkcpgdaa
set_option linter.unusedVariables false
open Go Go.RowKit

theorem half_len {w : World} {a a1 : Option Addr} {n cap n1 cap1 : Nat} {x : List Nat} {w1 : World} (hs : Sl w a n cap (ints .u32 x)) (hx : Ws x) (hs1 : Sl w1 a1 n1 cap1 (ints .u64 (dig B16 (val B32 x)))) : n1 ≤ 2 * n := by
  have := hs1.int_len; have := dig16_len_le x hx; have := hs.int_len; unfold B16 B32 at *; omega

set_option maxHeartbeats 1000000 in
theorem r01_Add_any (a a' : Option Addr) (n cap n' cap' : Nat) (x y : List Nat) (w : World) (hs : Sl w a n cap (ints .u32 x)) (hs' : Sl w a' n' cap' (ints .u32 y)) (hx : Ws x) (hy : Ws y)
    (hn : n ≤ 1099511627776) (hn' : n' ≤ 1099511627776) :
    Calls Try.prog 41 #[.slice a n cap, .slice a' n' cap'] w (RetSl w (ints .u32 (dig B32 (val B32 x + val B32 y)))) := by
  go_enter Try.func41, Try.ntmps41
  go_wp2_with fail
  refine (r01_half_any a n cap x _ hs hx hn).mono ?_
  rintro e w1 ⟨a1, n1, cap1, rfl, hs1, he1⟩
  go_wp2_with fail
  refine (r01_half_any a' n' cap' y _ (hs'.ext he1) hy hn').mono ?_
  rintro e w2 ⟨a2, n2, cap2, rfl, hs2, he2⟩
  have hn1 := half_len hs hx hs1
  have hn2 := half_len hs' hy hs2
  have hs1' := hs1.ext he2
  have he12 := he1.trans he2
  have hm1 := hs1.2.2.1
  have hm2 := hs2.2.2.1
  unfold maxLen at hm1 hm2
  have hl1 := hs1'.int_len
  have hl2 := hs2.int_len
  clear hs1 he1 he2
  generalize hX : dig B16 (val B32 x) = X at *
  generalize hY : dig B16 (val B32 y) = Y at *
  have hXH : Hs X := hX ▸ Hs.dig _
  have hYH : Hs Y := hY ▸ Hs.dig _
  have HX := hidP hX; have HY := hidP hY; clear hX hY
  go_wp2_with fail
  go_loopw [7, 8, 9] (fun v c i wr => ∃ (k cc : Nat) (D : List Nat), k ≤ max n1 n2 + 1 ∧ i = .int .i64 k ∧ c = .int .u64 (cc : Nat) ∧ wr.ownsRow w2.heap.size 32 1 v k (ints .u64 D) ∧ Ext w2 wr ∧ cc ≤ 1 ∧ D.length = k ∧ Hs D ∧ val B16 D + B16 ^ k * cc = val B16 (X.take k) + val B16 (Y.take k)) (fun _ _ i _ => max n1 n2 + 1 - (intOf i).toNat)
  case atStart => exact ⟨0, 0, [], by omega, rfl, rfl, by simpa [ints] using World.ownsRow_nil w2 w2.heap.size 32 1, Ext.refl _, by omega, rfl, by simp [Hs], by simp [val]⟩
  case round =>
    obtain ⟨k, cc, D, hk, rfl, rfl, hown, he2, hcc, hDl, hD, hv⟩ := hrel
    have HV := hidP hv; clear hv
    have hsx := hs1'.ext he2
    have hsy := hs2.ext he2
    rcases Nat.lt_or_ge n1 n2 with hmx | hmx
    all_goals
      by_cases h0 : k < max n1 n2 + 1
      · have hxi := getD_lt (by unfold B16; omega) hXH k
        have hyi := getD_lt (by unfold B16; omega) hYH k
        generalize hP : X.getD k 0 = p at *
        generalize hQ : Y.getD k 0 = q at *
        have HP := hidP hP; have HQ := hidP hQ; clear hP hQ
        have hpq : p < 65536 := by unfold B16 at hxi; omega
        have hqq : q < 65536 := by unfold B16 at hyi; omega
        clear hxi hyi
        have HK := hidP h0
        have h0' : k ≤ n1 ∨ k ≤ n2 := by omega
        clear h0 hk
        go_wp2_with fail
        refine (r01_at_any a1 n1 cap1 X k _ hsx (by omega)).mono ?_
        rw [HP.out]; rintro e w' ⟨rfl, rfl⟩
        go_wp2_with fail
        refine (r01_at_any a2 n2 cap2 Y k _ hsy (by omega)).mono ?_
        rw [HQ.out]; rintro e w' ⟨rfl, rfl⟩
        go_wp2_with (at_builtin; refine wpList_app1 T_u64 rfl _ _ rfl hown he2 _ rfl rfl rfl (by omega) (by omega) ?_; intro v' w' hown' he')
        go_roundw
        case rel =>
          refine ⟨k + 1, (p + q + cc) / 65536, D ++ [(p + q + cc) % 65536], ?_, by go_num, rfl, ?_, he', by omega, by simp [hDl], ?_, ?_⟩
          · have := HK.out; omega
          · rw [ints_append]; exact hown'
          · intro d hd
            rcases List.mem_append.1 hd with hd | hd
            · exact hD d hd
            · simp at hd; subst hd; exact Nat.mod_lt _ (by decide)
          · have := add_step (B := B16) (x := p) (y := q) HV.out
            rw [val_take_snoc, val_take_snoc, HP.out, HQ.out, val_snoc, hDl, Nat.pow_succ]
            exact this
        case measure => have h5 := HK.out; simp only [intOf]; omega
      · have hk5 : n1 < k := by omega
        have hk6 : n2 < k := by omega
        have hk7 : k ≤ 4398046511104 := by omega
        clear hk h0
        obtain ⟨a', cap', rfl, hsl⟩ := Sl.of_owns hown
        have hv := HV.out
        rw [List.take_of_length_le (by omega), List.take_of_length_le (by omega)] at hv
        have hc0 := add_end B16_two hXH hYH (by omega) (by omega) hv
        rw [hc0, ← HX.out, ← HY.out, val_dig B16_two, val_dig B16_two] at hv
        simp only [Nat.mul_zero, Nat.add_zero] at hv
        have HV2 := hidP hv
        clear hv hc0
        go_wp2_with fail
        refine (r01_words_any _ _ _ _ _ hsl hD (by omega)).mono ?_
        rw [HV2.out]
        rintro e w' ⟨a5, n5, cap5, rfl, hs5, he5⟩
        go_wp2
        go_ret
        exact ⟨_, _, _, rfl, hs5, he12.trans (he2.trans he5)⟩

end Go.Proofs.Ytcipcpbjkcpgdaa
