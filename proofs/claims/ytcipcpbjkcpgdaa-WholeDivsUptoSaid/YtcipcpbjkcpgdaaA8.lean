/- The document's numbers (frisketref01): products. -/
import Derived.Test.YtcipcpbjkcpgdaaA7
import Derived.Test.YtcipcpbjkcpgdaaMem2
namespace Go.Proofs.Ytcipcpbjkcpgdaa
set_option linter.unusedVariables false
open Go Go.RowKit

theorem getD_zero_of_lt {B : Nat} (hB : 0 < B) {D : List Nat} (hD : ∀ x ∈ D, x < B) {m : Nat} (h : val B D < B ^ m) (j : Nat) (hj : m ≤ j) : D.getD j 0 = 0 := by
  rw [← digit_at hB j D hD, Nat.div_eq_of_lt (Nat.lt_of_lt_of_le h (Nat.pow_le_pow_right hB hj)), Nat.zero_mod]

theorem mul_step {B P V V' d c x y v R : Nat} (hv : v = d + x * y + c) (hset : V' + P * d = V + P * (v % B)) (h : V + P * c = R) : V' + P * B * (v / B) = R + P * (x * y) := by
  have := Nat.div_add_mod v B
  have e : P * (v % B) + P * B * (v / B) = P * v := by rw [Nat.mul_assoc, ← Nat.mul_add, Nat.add_comm, this]
  have e2 : P * v = P * d + P * (x * y) + P * c := by rw [hv, Nat.mul_add, Nat.mul_add]
  omega

set_option maxHeartbeats 2000000 in
theorem r01_Mul_any (a a' : Option Addr) (n cap n' cap' : Nat) (x y : List Nat) (w : World) (hs : Sl w a n cap (ints .u32 x)) (hs' : Sl w a' n' cap' (ints .u32 y)) (hx : Ws x) (hy : Ws y)
    (hn : n ≤ 1099511627776) (hn' : n' ≤ 1099511627776) :
    Calls Try.prog 46 #[.slice a n cap, .slice a' n' cap'] w (RetSl w (ints .u32 (dig B32 (val B32 x * val B32 y)))) := by
  go_enter Try.func46, Try.ntmps46
  go_wp2_with fail
  refine (r01_half_any a n cap x _ hs hx hn).mono ?_
  rintro e w1 ⟨a1, n1, cap1, rfl, hs1, he1⟩
  go_wp2_with fail
  refine (r01_half_any a' n' cap' y _ (hs'.ext he1) hy hn').mono ?_
  rintro e w2 ⟨a2, n2, cap2, rfl, hs2, he2⟩
  have hn1 := half_len hs hx hs1
  have hn2 := half_len hs' hy hs2
  have hs1' := hs1.ext he2
  have he12 := he1.trans he2
  have hm1 := hs1.2.2.1
  have hm2 := hs2.2.2.1
  unfold maxLen at hm1 hm2
  have hl1 := hs1'.int_len
  have hl2 := hs2.int_len
  clear hs1 he1 he2
  generalize hX : dig B16 (val B32 x) = X at *
  generalize hY : dig B16 (val B32 y) = Y at *
  have hXH : Hs X := hX ▸ Hs.dig _
  have hYH : Hs Y := hY ▸ Hs.dig _
  have HX := hidP hX; have HY := hidP hY; clear hX hY
  go_wp2_with (at_make; refine wpList_make (W := w2) (n := n1 + n2 + 1) T_u64 rfl _ _ rfl rfl rfl (Ext.refl _) (by omega) (by omega) rfl ?_; intro w3 hown he3 hsz)
  have hNb : n1 + n2 + 1 ≤ 4398046511105 := by omega
  obtain ⟨N, hN⟩ : ∃ N : Nat, n1 + n2 + 1 = N := ⟨_, rfl⟩
  rw [hN] at hown hNb
  rw [hN]
  have HN := hidP hN
  clear hN
  have hg := Row.base hown
  generalize hG : w2.heap.size = g at *
  have HG := hidP hG
  clear hG
  rw [replicate_ints] at hown
  go_loopw [8] (fun i wr => ∃ (k : Nat) (D : List Nat), k ≤ n1 ∧ i = .int .i64 k ∧ wr.ownsRow g 32 1 (.slice (some ⟨g, 0, none⟩) N N) N (ints .u64 D) ∧ Ext w2 wr ∧ Hs D ∧ val B16 D = val B16 (X.take k) * val B16 Y) (fun i _ => n1 - (intOf i).toNat)
  case atStart => exact ⟨0, _, by omega, rfl, hown, he3, by (intro d hd; simp at hd; rw [hd.2]; decide), by simp [val_replicate, val]⟩
  case round =>
    obtain ⟨i, D, hi, rfl, hown, he, hD, hv⟩ := hrel
    have HV := hidP hv; clear hv
    have hsy := hs2.ext he
    by_cases h0 : i < n1
    · obtain ⟨b, off, rfl, hc⟩ := (hs1'.ext he).at_int (by omega)
      have hck := hc i (by omega)
      have hxi := hXH.at i (by omega)
      clear hc
      have hXi : X.getD i 0 = X[i] := by rw [List.getD_eq_getElem?_getD]; simp [show i < X.length by omega]
      have HXI := hidP hXi; clear hXi
      have HZ : Hid (D.getD (i + n2) 0 = 0) := hidP (by
        refine getD_zero_of_lt (by decide) hD (m := i + n2) ?_ _ (Nat.le_refl _)
        rw [HV.out, Nat.pow_add]
        have h1 := val_lt (B := B16) (by decide) (X.take i) (fun d hd => hXH d (List.mem_of_mem_take hd))
        have h2 := val_lt (B := B16) (by decide) Y hYH
        rw [List.length_take, Nat.min_eq_left (by omega)] at h1
        rw [hl2] at h2
        exact Nat.mul_lt_mul'' h1 h2)
      obtain ⟨wo, rfl⟩ : ∃ wo : World, wo = wr := ⟨_, rfl⟩
      go_wp2
      go_loopw [9, 10] (fun c kv wr => ∃ (k cc : Nat) (E : List Nat), k ≤ n2 ∧ kv = .int .i64 k ∧ c = .int .u64 cc ∧ cc ≤ 65535 ∧ wr.ownsRow g 32 1 (.slice (some ⟨g, 0, none⟩) N N) N (ints .u64 E) ∧ Ext w2 wr ∧ Hs E ∧ E.getD (i + n2) 0 = 0 ∧ val B16 E + B16 ^ (i + k) * cc = val B16 (X.take i) * val B16 Y + B16 ^ i * (X[i] * val B16 (Y.take k))) (fun _ kv _ => n2 - (intOf kv).toNat)
      case atStart => exact ⟨0, 0, D, by omega, rfl, rfl, by omega, hown, he, hD, HZ.out, by simp [val, HV.out]⟩
      case round =>
        clear hown he hck hsy
        obtain ⟨k, cc, E, hk, rfl, rfl, hcc, hown, he, hE, hz, hv⟩ := hrel
        have HV := hidP hv; clear hv
        have HZ := hidP hz; clear hz
        have hEl := Row.len hown
        by_cases h1 : k < n2
        · obtain ⟨b', off', rfl, hc'⟩ := (hs2.ext he).at_int (by omega)
          have hck' := hc' k (by omega)
          have hyk := hYH.at k (by omega)
          clear hc'
          obtain ⟨b1, off1, e1, hc1⟩ := (hs1'.ext he).at_int (by omega)
          have hck := hc1 i (by omega)
          cases e1
          clear hc1
          have hik : i + k < E.length := by have := HN.out; omega
          have hikN : i + k < N := by omega
          have hcE := Row.cell hown (i + k) hik
          have hfr := Row.free hown (i + k)
          have hEk := hE.at (i + k) hik
          have hst := fun v => Row.store hown (i + k) v
          have HS := fun v => val_set B16 E (i + k) v hik
          have HYK : Hid (Y.getD k 0 = Y[k]) := hidP (by rw [List.getD_eq_getElem?_getD]; simp [show k < Y.length by omega])
          obtain ⟨m, hm⟩ : ∃ m : Nat, (X[i] : Int) * (Y[k] : Int) = (m : Int) ∧ m = X[i] * Y[k] := ⟨X[i] * Y[k], by rw [Int.natCast_mul], rfl⟩
          have hm1 := hm.1
          have HM := hidP hm.2
          have hmb : m ≤ 4294836225 := by rw [hm.2]; exact Nat.mul_le_mul (by omega : X[i] ≤ 65535) (by omega : Y[k] ≤ 65535)
          clear hm
          generalize E[i + k] = ee at *
          have HST := hidP hst; have HSE := hidP HS; clear hst HS
          go_wp2
          go_quiet (fail)
          go_wp2
          go_roundw
          case rel =>
            refine ⟨k + 1, (ee + m + cc) / 65536, E.set (i + k) ((ee + m + cc) % 65536), by omega, by go_num, rfl, by omega, HST.out ((ee + m + cc) % 65536), (he.drewN _).store (by rw [HG.out]; exact Nat.le_refl _) _, set_lt hE _ _ (Nat.mod_lt _ (by decide)), ?_, ?_⟩
            · rw [getD_set _ _ _ _ (by omega)]; exact HZ.out
            · have := mul_step (B := B16) (P := B16 ^ (i + k)) (v := ee + m + cc) (x := X[i]) (y := Y[k]) (by rw [HM.out]) (HSE.out ((ee + m + cc) % B16)) HV.out
              have e : B16 ^ i * (X[i] * (val B16 (Y.take k) + B16 ^ k * Y[k])) = B16 ^ i * (X[i] * val B16 (Y.take k)) + B16 ^ (i + k) * (X[i] * Y[k]) := by
                rw [Nat.pow_add, Nat.mul_add, Nat.mul_add]
                have : X[i] * (B16 ^ k * Y[k]) = B16 ^ k * (X[i] * Y[k]) := by rw [← Nat.mul_assoc, ← Nat.mul_assoc, Nat.mul_comm X[i]]
                rw [this, Nat.mul_assoc]
              rw [val_take_snoc, HYK.out, e, show i + (k + 1) = (i + k) + 1 by omega, Nat.pow_succ]
              have e2 : val B16 (E.set (i + k) ((ee + m + cc) % 65536)) + B16 ^ (i + k) * B16 * ((ee + m + cc) / 65536) = _ := this
              omega
          case measure => simp only [intOf]; omega
        · obtain rfl : k = n2 := by omega
          have hik : i + k < E.length := by have := HN.out; omega
          have hikN : i + k < N := by omega
          have hcE := Row.cell hown (i + k) hik
          have hfr := Row.free hown (i + k)
          have hst := fun v => Row.store hown (i + k) v
          have HS := fun v => val_set B16 E (i + k) v hik
          have hE0 : E[i + k] = 0 := by have := HZ.out; rw [List.getD_eq_getElem?_getD] at this; simpa [hik] using this
          rw [hE0] at hcE HS
          have HST := hidP hst; have HSE := hidP HS; clear hst HS hE0
          go_wp2
          go_roundw
          case rel =>
            refine ⟨i + 1, E.set (i + k) cc, by omega, by go_num, ?_, he.store (by rw [HG.out]; exact Nat.le_refl _) _, set_lt hE _ _ (by unfold B16; omega), ?_⟩
            · have := HST.out cc; simpa using this
            · have h1 := HSE.out cc
              have h2 := HV.out
              rw [List.take_of_length_le (by omega : Y.length ≤ k)] at h2
              rw [val_take_snoc, HXI.out, Nat.add_mul, Nat.mul_assoc]
              omega
          case measure => simp only [intOf]; omega
    · obtain rfl : i = n1 := by omega
      have hv := HV.out
      rw [List.take_of_length_le (by omega), ← HX.out, ← HY.out, val_dig B16_two, val_dig B16_two] at hv
      have HV2 := hidP hv
      clear hv
      have hsl := Sl.of_owns' hown
      go_wp2_with fail
      refine (r01_words_any _ _ _ _ _ hsl hD (by omega)).mono ?_
      rw [HV2.out]
      rintro e w' ⟨a5, n5, cap5, rfl, hs5, he5⟩
      go_wp2
      go_ret
      exact ⟨_, _, _, rfl, hs5, he12.trans (he.trans he5)⟩

end Go.Proofs.Ytcipcpbjkcpgdaa
