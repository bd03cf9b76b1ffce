/- The program's numbers (nat): products; quotients by one word. -/
import Derived.Test.YtcipcpbjkcpgdaaB2
namespace Go.Proofs.Ytcipcpbjkcpgdaa
set_option linter.unusedVariables false
open Go Go.RowKit

theorem getD_zero_of_lt' {B : Nat} (hB : 0 < B) : ∀ (m : Nat) (D : List Nat), (∀ x ∈ D, x < B) → val B D < B ^ m → ∀ j, m ≤ j → D.getD j 0 = 0
  | 0, D, hD, h, j, _ => by
    rw [Nat.pow_zero] at h
    have h0 : val B D = 0 := by omega
    have key : ∀ (D : List Nat), val B D = 0 → ∀ j, D.getD j 0 = 0 := by
      intro D
      induction D with
      | nil => intro _ j; simp
      | cons x r ih =>
        intro h j
        simp only [val] at h
        have hx : x = 0 := by omega
        have hr : val B r = 0 := by
          have : B * val B r = 0 := by omega
          rcases Nat.mul_eq_zero.1 this with h | h
          · omega
          · exact h
        cases j with
        | zero => simp [hx]
        | succ j => simpa using ih hr j
    exact key D h0 j
  | m + 1, D, hD, h, 0, hj => by omega
  | m + 1, D, hD, h, j + 1, hj => by
    rw [← getD_tail]
    refine getD_zero_of_lt' hB m D.tail (fun x hx => hD x (List.mem_of_mem_tail hx)) ?_ j (by omega)
    rw [val_head B D, Nat.pow_succ, Nat.mul_comm] at h
    have : B * val B D.tail < B * B ^ m := by rw [Nat.mul_comm B (B ^ m)]; rw [Nat.mul_comm] at h; omega
    exact Nat.lt_of_mul_lt_mul_left this

theorem mul_step' {B P V V' d c x y v R : Nat} (hv : v = x * y + d + c) (hset : V' + P * d = V + P * (v % B)) (h : V + P * c = R) : V' + P * B * (v / B) = R + P * (x * y) := by
  have := Nat.div_add_mod v B
  have e : P * (v % B) + P * B * (v / B) = P * v := by rw [Nat.mul_assoc, ← Nat.mul_add, Nat.add_comm, this]
  have e2 : P * v = P * (x * y) + P * d + P * c := by rw [hv, Nat.mul_add, Nat.mul_add]
  omega

set_option maxRecDepth 100000 in
set_option maxHeartbeats 2000000 in
theorem nat_Mul_any (a a' : Option Addr) (n cap n' cap' : Nat) (x y : List Nat) (w : World) (hs : Sl w a n cap (ints .u32 x)) (hs' : Sl w a' n' cap' (ints .u32 y)) (hx : Ws x) (hy : Ws y)
    (hn : n ≤ 1099511627776) (hn' : n' ≤ 1099511627776) :
    Calls Try.prog 45 #[.slice a n cap, .slice a' n' cap'] w (RetSl w (ints .u32 (dig B32 (val B32 x * val B32 y)))) := by
  have hlen := hs.int_len
  have hlen' := hs'.int_len
  have hdx := fun i => dig_get hx i
  have hdy := fun i => dig_get hy i
  have hXH : Ws (dig B32 (val B32 x)) := Ws.dig _
  have hYH : Ws (dig B32 (val B32 y)) := Ws.dig _
  have hvx := val_dig B32_two (val B32 x)
  have hvy := val_dig B32_two (val B32 y)
  have hmn := dig_val_len B32_two x hx
  have hmn' := dig_val_len B32_two y hy
  obtain ⟨X, hX⟩ : ∃ X, X = dig B32 (val B32 x) := ⟨_, rfl⟩
  obtain ⟨Y, hY⟩ : ∃ Y, Y = dig B32 (val B32 y) := ⟨_, rfl⟩
  rw [← hX] at hdx hXH hvx hmn
  rw [← hY] at hdy hYH hvy hmn'
  have HX := hidP hX; have HY := hidP hY; clear hX hY
  have HDX := hidP hdx; have HDY := hidP hdy; have HVX := hidP hvx; have HVY := hidP hvy
  clear hdx hdy hvx hvy
  obtain ⟨m, hm⟩ : ∃ m, m = X.length := ⟨_, rfl⟩
  obtain ⟨k0, hk0⟩ : ∃ k0, k0 = Y.length := ⟨_, rfl⟩
  rw [← hm] at hmn; rw [← hk0] at hmn'
  have HM := hidP hm; have HK := hidP hk0; clear hm hk0
  go_enter Try.func45, Try.ntmps45
  go_wp2_with fail
  refine (nat_size_any a n cap x _ hs hx (by omega)).mono ?_
  rw [← HX.out, ← HM.out]; rintro e w' ⟨rfl, rfl⟩
  go_wp2_with fail
  refine (nat_size_any a' n' cap' y _ hs' hy (by omega)).mono ?_
  rw [← HY.out, ← HK.out]; rintro e w' ⟨rfl, rfl⟩
  by_cases hm0 : m = 0
  · subst hm0
    have HZ : Hid (val B32 x * val B32 y = 0) := hidP (by
      have : X = [] := List.eq_nil_of_length_eq_zero HM.out.symm
      rw [← HVX.out, this]; simp [val])
    go_wp2
    go_ret
    exact ⟨none, 0, 0, rfl, by rw [HZ.out, dig_zero]; exact Sl.nil _, Ext.refl _⟩
  by_cases hk00 : k0 = 0
  · subst hk00
    have HZ : Hid (val B32 x * val B32 y = 0) := hidP (by
      have : Y = [] := List.eq_nil_of_length_eq_zero HK.out.symm
      rw [← HVY.out, this]; simp [val])
    go_wp2
    go_ret
    exact ⟨none, 0, 0, rfl, by rw [HZ.out, dig_zero]; exact Sl.nil _, Ext.refl _⟩
  have hz1 : ((m : Int) == 0) = false := by simp [hm0]
  have hz2 : ((k0 : Int) == 0) = false := by simp [hk00]
  go_wp2_with (at_make; refine wpList_make (W := w) (n := m + k0) T_u32' rfl _ _ rfl rfl rfl (Ext.refl _) (by omega) (by omega) rfl ?_; intro w3 hown he3 hsz)
  have hNb : m + k0 ≤ 4398046511105 := by omega
  generalize hG : w.heap.size = g at *
  have HG := hidP hG; clear hG
  obtain ⟨N, hN⟩ : ∃ N : Nat, m + k0 = N := ⟨_, rfl⟩
  rw [hN] at hown hNb
  rw [hN]
  have HN := hidP hN
  clear hN hsz
  rw [replicate_ints] at hown
  go_loopw [27] (fun iv wr => ∃ (i : Nat) (D : List Nat), i ≤ m ∧ iv = .int .i64 i ∧ wr.ownsRow g 57 1 (.slice (some ⟨g, 0, none⟩) N N) N (ints .u32 D) ∧ Ext w wr ∧ Ws D ∧ val B32 D = val B32 (X.take i) * val B32 Y) (fun iv _ => m - (intOf iv).toNat)
  case atStart => exact ⟨0, _, by omega, rfl, hown, he3, by (intro d hd; simp at hd; rw [hd.2]; decide), by simp [val_replicate, val]⟩
  case round =>
    clear hown he3
    obtain ⟨i, D, hi, rfl, hown, he, hD, hv⟩ := hrel
    have HV := hidP hv; clear hv
    by_cases h0 : i < m
    · have hXIb := getD_lt (B := B32) (by decide) hXH i
      have HZ : Hid (D.getD (i + k0) 0 = 0) := hidP (by
        refine getD_zero_of_lt' (by decide) (i + k0) D hD ?_ _ (Nat.le_refl _)
        rw [HV.out, Nat.pow_add]
        have h1 := val_lt (B := B32) (by decide) (X.take i) (fun d hd => hXH d (List.mem_of_mem_take hd))
        have h2 := val_lt (B := B32) (by decide) Y hYH
        rw [List.length_take, Nat.min_eq_left (by have := HM.out; omega)] at h1
        rw [← HK.out] at h2
        exact Nat.mul_lt_mul'' h1 h2)
      generalize hP : X.getD i 0 = p at *
      have HP := hidP hP; clear hP
      have hp1 : p ≤ 4294967295 := by unfold B32 at hXIb; omega
      clear hXIb
      obtain ⟨wo, rfl⟩ : ∃ wo : World, wo = wr := ⟨_, rfl⟩
      go_wp2
      go_loopw [9, 31] (fun c kv wr => ∃ (k cc : Nat) (E : List Nat), k ≤ k0 ∧ kv = .int .i64 k ∧ c = .int .u64 cc ∧ cc ≤ 4294967295 ∧ wr.ownsRow g 57 1 (.slice (some ⟨g, 0, none⟩) N N) N (ints .u32 E) ∧ Ext w wr ∧ Ws E ∧ E.getD (i + k0) 0 = 0 ∧ val B32 E + B32 ^ (i + k) * cc = val B32 (X.take i) * val B32 Y + B32 ^ i * (p * val B32 (Y.take k))) (fun _ kv _ => k0 - (intOf kv).toNat)
      case atStart => exact ⟨0, 0, D, by omega, rfl, rfl, by omega, hown, he, hD, HZ.out, by simp [val, HV.out]⟩
      case round =>
        clear hown he
        obtain ⟨k, cc, E, hk, rfl, rfl, hcc, hown, he, hE, hz, hv⟩ := hrel
        have HV := hidP hv; clear hv
        have HZ := hidP hz; clear hz
        have hEl := Row.len hown
        by_cases h1 : k < k0
        · obtain ⟨b, off, rfl, hc⟩ := (hs.ext he).at_int (by omega)
          obtain ⟨hi1, hxi⟩ := HDX.out i (by have := HM.out; omega)
          have hck := hc i hi1
          rw [hxi, HP.out] at hck
          clear hc hxi
          obtain ⟨b', off', rfl, hc'⟩ := (hs'.ext he).at_int (by omega)
          obtain ⟨hi2, hyi⟩ := HDY.out k (by have := HK.out; omega)
          have hck' := hc' k hi2
          rw [hyi] at hck'
          clear hc' hyi
          have hqb := getD_lt (B := B32) (by decide) hYH k
          generalize hQ : Y.getD k 0 = q at *
          have HQ := hidP hQ; clear hQ
          have hq1 : q ≤ 4294967295 := by unfold B32 at hqb; omega
          clear hqb
          have hik : i + k < E.length := by have := HN.out; omega
          have hikN : i + k < N := by omega
          have hcE := Row.cell hown (i + k) hik
          have hfr := Row.free hown (i + k)
          have hEk := hE.at (i + k) hik
          have hst := fun v => Row.store hown (i + k) v
          have HS := fun v => val_set B32 E (i + k) v hik
          obtain ⟨mm, hm⟩ : ∃ mm : Nat, (p : Int) * (q : Int) = (mm : Int) ∧ mm = p * q := ⟨p * q, by rw [Int.natCast_mul], rfl⟩
          have hm1 := hm.1
          have HMM := hidP hm.2
          have hmb : mm ≤ 18446744065119617025 := by rw [hm.2]; exact Nat.mul_le_mul hp1 hq1
          clear hm
          generalize E[i + k] = ee at *
          have hlo : bits .and .u64 ((mm : Int) + (ee : Int) + (cc : Int)) 4294967295 = (((mm + ee + cc) % 4294967296 : Nat) : Int) := lo32 (mm + ee + cc) (by omega)
          have hrb : (mm + ee + cc) % 4294967296 < 4294967296 := Nat.mod_lt _ (by decide)
          have HST := hidP hst; have HSE := hidP HS; clear hst HS
          have HMS := hidP (mul_step' (B := B32) (P := B32 ^ (i + k)) (v := mm + ee + cc) (x := p) (y := q) (by rw [HMM.out]) (HSE.out ((mm + ee + cc) % B32)) HV.out)
          have HRR : Hid ((mm + ee + cc) % B32 = (mm + ee + cc) % 4294967296 ∧ (mm + ee + cc) / B32 = (mm + ee + cc) / 4294967296) := hidP ⟨rfl, rfl⟩
          go_wp2
          go_quiet (fail)
          go_wp2
          go_roundw
          case rel =>
            refine ⟨k + 1, (mm + ee + cc) / 4294967296, E.set (i + k) ((mm + ee + cc) % 4294967296), by omega, by go_num, rfl, by omega, HST.out ((mm + ee + cc) % 4294967296), (he.drewN _).store (by rw [HG.out]; exact Nat.le_refl _) _, set_lt hE _ _ hrb, ?_, ?_⟩
            · rw [getD_set _ _ _ _ (by omega)]; exact HZ.out
            · have h9 := HMS.out
              rw [HRR.out.1, HRR.out.2] at h9
              have e : B32 ^ i * (p * (val B32 (Y.take k) + B32 ^ k * q)) = B32 ^ i * (p * val B32 (Y.take k)) + B32 ^ (i + k) * (p * q) := by
                rw [Nat.pow_add, Nat.mul_add, Nat.mul_add]
                have : p * (B32 ^ k * q) = B32 ^ k * (p * q) := by rw [← Nat.mul_assoc, ← Nat.mul_assoc, Nat.mul_comm p]
                rw [this, Nat.mul_assoc]
              rw [val_take_snoc, HQ.out, e, show i + (k + 1) = (i + k) + 1 by omega, Nat.pow_succ]
              omega
          case measure => simp only [intOf]; omega
        · obtain rfl : k = k0 := by omega
          have hik : i + k < E.length := by have := HN.out; omega
          have hikN : i + k < N := by omega
          have hcE := Row.cell hown (i + k) hik
          have hfr := Row.free hown (i + k)
          have hst := fun v => Row.store hown (i + k) v
          have HS := fun v => val_set B32 E (i + k) v hik
          have hE0 : E[i + k] = 0 := by have := HZ.out; rw [List.getD_eq_getElem?_getD] at this; simpa [hik] using this
          rw [hE0] at hcE HS
          have HST := hidP hst; have HSE := hidP HS; clear hst HS hE0
          go_wp2
          go_roundw
          case rel =>
            refine ⟨i + 1, E.set (i + k) cc, by omega, by go_num, ?_, he.store (by rw [HG.out]; exact Nat.le_refl _) _, set_lt hE _ _ (by unfold B32; omega), ?_⟩
            · have := HST.out cc; simpa using this
            · have h1 := HSE.out cc
              have h2 := HV.out
              rw [List.take_of_length_le (by have := HK.out; omega : Y.length ≤ k)] at h2
              rw [val_take_snoc, HP.out, Nat.add_mul, Nat.mul_assoc]
              omega
          case measure => simp only [intOf]; omega
    · obtain rfl : i = m := by omega
      have hv := HV.out
      rw [List.take_of_length_le (by have := HM.out; omega), HVX.out, HVY.out] at hv
      have HV2 := hidP hv
      clear hv
      have hsl := Sl.of_owns' hown
      have HCUT := hidP (cut_sl32 hsl hD)
      have hcl := dig_val_len B32_two D hD
      have hDl := Row.len hown
      go_wp2_with fail
      refine (nat_size_any _ _ _ D _ hsl hD (by omega)).mono ?_
      generalize hk5 : (dig B32 (val B32 D)).length = k5 at *
      have HK5 := hidP hk5; clear hk5
      rintro e w' ⟨rfl, rfl⟩
      go_wp2
      go_ret
      exact ⟨_, _, _, rfl, by rw [← HV2.out]; exact HCUT.out, he⟩

end Go.Proofs.Ytcipcpbjkcpgdaa
