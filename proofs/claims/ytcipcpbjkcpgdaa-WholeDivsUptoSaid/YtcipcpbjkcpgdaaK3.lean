/- The program's numbers (nat): shifts both ways. -/
import Derived.Test.YtcipcpbjkcpgdaaK2
import Derived.Test.YtcipcpbjkcpgdaaA10
namespace Go.Proofs.Ytcipcpbjkcpgdaa
set_option linter.unusedVariables false
open Go Go.RowKit

theorem shl32_out {V : Nat} {k : Int} (h : k > 4096 ∨ k < -4096) : shl32 V k = [] := by unfold shl32; rw [if_pos h]
theorem shl32_zero (k : Int) : shl32 0 k = [] := by unfold shl32; split <;> (try split) <;> simp [dig_zero]
theorem shl32_up {V m : Nat} (h : m ≤ 4096) : shl32 V (m : Int) = dig B32 (V * 2 ^ m) := by unfold shl32; rw [if_neg (by omega), if_pos (by omega), Int.toNat_natCast]
theorem shl32_down {V m : Nat} (h : m ≤ 4096) : shl32 V (-(m : Int)) = dig B32 (V / 2 ^ m) := by
  unfold shl32
  rw [if_neg (by omega)]
  by_cases h0 : m = 0
  · subst h0; simp
  · rw [if_neg (by omega), show (- -(m : Int)).toNat = m by omega]
theorem or_hi (p q : Nat) (hp : p ≤ 4294967295) (hq : q ≤ 4294967295) : bits .or .u64 (p : Int) ((q : Int) * 4294967296) = ((p + 4294967296 * q : Nat) : Int) := by
  have h1 := u64_or_nat p (q * 4294967296) (by omega) (by omega)
  have h2 : p ||| q * 4294967296 = p + 4294967296 * q := by
    have := Nat.shiftLeft_add_eq_or_of_lt (i := 32) (b := p) (by omega) q
    rw [Nat.shiftLeft_eq] at this
    rw [Nat.or_comm, ← this]; omega
  rw [h2] at h1
  exact h1

theorem lo_shr (p q less : Nat) (hp : p ≤ 4294967295) (hq : q ≤ 4294967295) : bits .and .u64 (((p : Int) + 4294967296 * (q : Int)) / 2 ^ less) 4294967295 = (((p + 4294967296 * q) / 2 ^ less % 4294967296 : Nat) : Int) := by
  have e : ((p : Int) + 4294967296 * (q : Int)) / 2 ^ less = (((p + 4294967296 * q) / 2 ^ less : Nat) : Int) := by
    rw [Int.natCast_ediv, Int.natCast_add, Int.natCast_mul, Int.natCast_pow]; rfl
  rw [e]
  exact lo32 _ (Nat.le_trans (Nat.div_le_self _ _) (by omega))
theorem lo_shr1 (p less : Nat) (hp : p ≤ 4294967295) : bits .and .u64 ((p : Int) / 2 ^ less) 4294967295 = (((p + 4294967296 * 0) / 2 ^ less % 4294967296 : Nat) : Int) := by
  have e : (p : Int) / 2 ^ less = (((p + 4294967296 * 0) / 2 ^ less : Nat) : Int) := by
    rw [Int.natCast_ediv, Int.natCast_pow]; rfl
  rw [e]
  exact lo32 _ (Nat.le_trans (Nat.div_le_self _ _) (by omega))

set_option maxRecDepth 100000 in
set_option maxHeartbeats 2000000 in
theorem nat_Shift_down (a : Option Addr) (n cap : Nat) (x : List Nat) (m : Nat) (w : World) (hs : Sl w a n cap (ints .u32 x)) (hx : Ws x) (hn : n ≤ 2199023255552) (hm1 : 1 ≤ m) (hm : m ≤ 4096) (hne : (dig B32 (val B32 x)).length ≠ 0) (hge : m / 32 < (dig B32 (val B32 x)).length) :
    Calls Try.prog 34 #[.slice a n cap, .int .i64 (-(m : Int))] w (RetSl w (ints .u32 (dig B32 (val B32 x / 2 ^ m)))) := by
  have hlen := hs.int_len
  have hmn := dig_val_len B32_two x hx
  have HCUT := hidP (cut_sl32 hs hx)
  have hXH : Ws (dig B32 (val B32 x)) := Ws.dig _
  have HVX := hidP (val_dig B32_two (val B32 x))
  obtain ⟨X, hX⟩ : ∃ X, X = dig B32 (val B32 x) := ⟨_, rfl⟩
  rw [← hX] at hmn HCUT hXH HVX hne hge
  have HX := hidP hX; clear hX
  obtain ⟨L, hL⟩ : ∃ L, L = X.length := ⟨_, rfl⟩
  rw [← hL] at hmn hne hge HCUT
  have HL := hidP hL; clear hL
  have hz : ((L : Int) == 0) = false := by simp [hne]
  obtain ⟨ws, hws⟩ : ∃ ws, ws = m / 32 := ⟨_, rfl⟩
  obtain ⟨less, hless⟩ : ∃ less, less = m % 32 := ⟨_, rfl⟩
  have hmw : 32 * ws + less = m := by omega
  have hl32 : less ≤ 31 := by omega
  have hd1 : (m : Int) / 32 = (ws : Int) := by omega
  have hd2 : (m : Int) % 32 = (less : Int) := by omega
  rw [← hws] at hge
  have HMW := hidP hmw
  clear hws hless hmw
  have hcap : L ≤ cap := by have := hs.2.1; omega
  have hb1 : decide ((4096 : Int) < -(m : Int)) = false := decide_eq_false (by omega)
  have hb2 : decide ((4096 : Int) < (m : Int)) = false := decide_eq_false (by omega)
  have hb3 : decide (m = 0) = false := decide_eq_false (by omega)
  have hb4 : decide (L ≤ ws) = false := decide_eq_false (by omega)
  go_enter Try.func34, Try.ntmps34
  go_wp2_with fail
  refine (nat_size_any a n cap x _ hs hx (by omega)).mono ?_
  rw [← HX.out, ← HL.out]; rintro e w' ⟨rfl, rfl⟩
  go_wp2_with (at_make; refine wpList_make0 (W := w) (n := L - ws) T_u32' rfl _ _ rfl rfl (show Value.int IntKind.i64 ((L : Int) - (ws : Int)) = Value.int IntKind.i64 ((L - ws : Nat) : Int) from congrArg _ (by omega)) (Ext.refl _) (by omega) (by omega) ?_; intro w1 hown he1)
  go_loopw [7, 8] (fun v iv wr => ∃ (j : Nat) (D : List Nat), ws + j ≤ L ∧ iv = .int .i64 ((ws : Int) + (j : Int)) ∧ wr.ownsRow w.heap.size 57 1 v j (ints .u32 D) ∧ Ext w wr ∧ D.length = j ∧ Ws D ∧ val B32 D = val B32 (X.drop ws) / 2 ^ less % B32 ^ j) (fun _ iv _ => L - (intOf iv).toNat)
  case atStart => exact ⟨0, [], by omega, by go_num, hown, he1, rfl, by simp [Ws], by simp [val, Nat.mod_one]⟩
  case round =>
    clear hown he1
    obtain ⟨j, D, hj, rfl, hown, he, hDl, hD, hv⟩ := hrel
    have HV := hidP hv; clear hv
    have HDL := hidP hDl; clear hDl
    by_cases h0 : ws + j < L
    · obtain ⟨b, off, rfl, hc⟩ := (HCUT.out.ext he).at_int (by omega)
      have hck := hc (ws + j) (by have := HL.out; omega)
      obtain ⟨p, hP⟩ : ∃ p, p = X[ws + j]'(by have := HL.out; omega) := ⟨_, rfl⟩
      have hp1 := hXH.at (ws + j) (by have := HL.out; omega)
      rw [← hP] at hck hp1
      have HP : Hid (X.getD (ws + j) 0 = p) := hidP (by rw [hP, List.getD_eq_getElem?_getD]; simp [show ws + j < X.length by have := HL.out; omega])
      clear hP
      by_cases h1 : ws + j + 1 < L
      · have hck' := hc (ws + j + 1) (by have := HL.out; omega)
        obtain ⟨q, hQ⟩ : ∃ q, q = X[ws + j + 1]'(by have := HL.out; omega) := ⟨_, rfl⟩
        have hq1 := hXH.at (ws + j + 1) (by have := HL.out; omega)
        rw [← hQ] at hck' hq1
        have HQ : Hid (X.getD (ws + j + 1) 0 = q) := hidP (by rw [hQ, List.getD_eq_getElem?_getD]; simp [show ws + j + 1 < X.length by have := HL.out; omega])
        clear hQ hc
        have hor := or_hi p q (by omega) (by omega)
        have hlo := lo_shr p q less (by omega) (by omega)
        have hdb : (p + 4294967296 * q) / 2 ^ less % 4294967296 < 4294967296 := Nat.mod_lt _ (by decide)
        obtain ⟨d, hdd⟩ : ∃ d, d = (p + 4294967296 * q) / 2 ^ less % 4294967296 := ⟨_, rfl⟩
        rw [← hdd] at hlo hdb
        have HDD := hidP hdd.symm
        clear hdd
        go_wp2_with (at_builtin; refine wpList_app1 T_u32' rfl _ _ rfl hown he _ rfl rfl rfl (by omega) (by omega) ?_; intro v' w' hown' he')
        go_roundw
        case rel =>
          refine ⟨j + 1, D ++ [d], by omega, by go_num, ?_, he', by have := HDL.out; simp; omega, ?_, ?_⟩
          · rw [ints_append]; exact hown'
          · intro y hy
            rcases List.mem_append.1 hy with hy | hy
            · exact hD y hy
            · simp at hy; subst hy; exact hdb
          · have hXd : ∀ y ∈ X.drop ws, y < 4294967296 := fun y hy => hXH y (List.mem_of_mem_drop hy)
            have h := shr_step (l := X.drop ws) (k := 0) (j := j) (less := less) (by omega) hXd (by rw [List.length_drop]; have := HL.out; omega) HV.out
            have g0 : (X.drop ws).getD j 0 = X.getD (ws + j) 0 := by simp [List.getD_eq_getElem?_getD]
            have g1 : (X.drop ws).getD (j + 1) 0 = X.getD (ws + j + 1) 0 := by simp [List.getD_eq_getElem?_getD, Nat.add_assoc]
            rw [g0, g1, HP.out, HQ.out, HDD.out] at h
            rw [val_snoc, HDL.out]
            exact h
        case measure => simp only [intOf]; omega
      · have HQ : Hid (X.getD (ws + j + 1) 0 = 0) := hidP (by rw [List.getD_eq_getElem?_getD, List.getElem?_eq_none (by have := HL.out; omega)]; rfl)
        clear hc
        have hlo := lo_shr1 p less (by omega)
        have hdb : (p + 4294967296 * 0) / 2 ^ less % 4294967296 < 4294967296 := Nat.mod_lt _ (by decide)
        obtain ⟨d, hdd⟩ : ∃ d, d = (p + 4294967296 * 0) / 2 ^ less % 4294967296 := ⟨_, rfl⟩
        rw [← hdd] at hlo hdb
        have HDD := hidP hdd.symm
        clear hdd
        go_wp2_with (at_builtin; refine wpList_app1 T_u32' rfl _ _ rfl hown he _ rfl rfl rfl (by omega) (by omega) ?_; intro v' w' hown' he')
        go_roundw
        case rel =>
          refine ⟨j + 1, D ++ [d], by omega, by go_num, ?_, he', by have := HDL.out; simp; omega, ?_, ?_⟩
          · rw [ints_append]; exact hown'
          · intro y hy
            rcases List.mem_append.1 hy with hy | hy
            · exact hD y hy
            · simp at hy; subst hy; exact hdb
          · have hXd : ∀ y ∈ X.drop ws, y < 4294967296 := fun y hy => hXH y (List.mem_of_mem_drop hy)
            have h := shr_step (l := X.drop ws) (k := 0) (j := j) (less := less) (by omega) hXd (by rw [List.length_drop]; have := HL.out; omega) HV.out
            have g0 : (X.drop ws).getD j 0 = X.getD (ws + j) 0 := by simp [List.getD_eq_getElem?_getD]
            have g1 : (X.drop ws).getD (j + 1) 0 = X.getD (ws + j + 1) 0 := by simp [List.getD_eq_getElem?_getD, Nat.add_assoc]
            rw [g0, g1, HP.out, HQ.out, HDD.out] at h
            rw [val_snoc, HDL.out]
            exact h
        case measure => simp only [intOf]; omega
    · have HE : Hid (val B32 D = val B32 x / 2 ^ m) := hidP (by
        have h := shr_end (l := X) (ws := ws) (less := less) hXH (by have := HL.out; omega)
        have hj2 : j = X.length - ws := by have := HL.out; omega
        rw [← hj2] at h
        rw [HV.out, ← HVX.out, ← HMW.out]
        exact h)
      obtain ⟨a5, cap5, rfl, hsl⟩ := Sl.of_owns hown
      have hm5 := hsl.2.2.1
      have hc5 := hsl.2.1
      unfold maxLen at hm5
      have HC5 := hidP (cut_sl32 hsl hD)
      have hcl := dig_val_len B32_two D hD
      rw [HDL.out] at hcl
      generalize hk5 : (dig B32 (val B32 D)).length = k5 at *
      have HK5 := hidP hk5; clear hk5
      go_wp2_with fail
      refine (nat_size_any _ _ _ D _ hsl hD (by omega)).mono ?_
      rw [HK5.out]
      rintro e w'' ⟨rfl, rfl⟩
      go_wp2
      go_ret
      exact ⟨_, _, _, rfl, by rw [← HE.out]; exact HC5.out, he⟩

set_option maxRecDepth 100000 in
set_option maxHeartbeats 2000000 in
theorem nat_Shift_any (a : Option Addr) (n cap : Nat) (x : List Nat) (k : Int) (w : World) (hs : Sl w a n cap (ints .u32 x)) (hx : Ws x) (hn : n ≤ 2199023255552) (hk : -9223372036854775808 ≤ k ∧ k ≤ 9223372036854775807) :
    Calls Try.prog 34 #[.slice a n cap, .int .i64 k] w (RetSl w (ints .u32 (shl32 (val B32 x) k))) := by
  by_cases hdown : (dig B32 (val B32 x)).length ≠ 0 ∧ k < 0 ∧ -4096 ≤ k ∧ (-k).toNat / 32 < (dig B32 (val B32 x)).length
  · obtain ⟨m, rfl⟩ : ∃ m : Nat, k = -(m : Int) := ⟨(-k).toNat, by omega⟩
    rw [shl32_down (by omega)]
    exact nat_Shift_down a n cap x m w hs hx hn (by omega) (by omega) hdown.1 (by have := hdown.2.2.2; rwa [show (- -(m : Int)).toNat = m by omega] at this)
  · have hlen := hs.int_len
    have hmn := dig_val_len B32_two x hx
    have HCUT := hidP (cut_sl32 hs hx)
    have hXH : Ws (dig B32 (val B32 x)) := Ws.dig _
    have HVX := hidP (val_dig B32_two (val B32 x))
    have HLT := hidP (val_lt (B := B32) (by decide) (dig B32 (val B32 x)) hXH)
    have hcap0 := hs.2.1
    obtain ⟨X, hX⟩ : ∃ X, X = dig B32 (val B32 x) := ⟨_, rfl⟩
    rw [← hX] at hmn HCUT hXH HVX hdown HLT
    have HX := hidP hX; clear hX
    obtain ⟨L, hL⟩ : ∃ L, L = X.length := ⟨_, rfl⟩
    rw [← hL] at hmn HCUT hdown HLT
    have HL := hidP hL; clear hL
    have hcap : L ≤ cap := by omega
    by_cases h0 : L = 0
    · subst h0
      have HS : Hid (shl32 (val B32 x) k = []) := hidP (by
        have : X = [] := List.eq_nil_of_length_eq_zero HL.out.symm
        rw [← HVX.out, this]; exact shl32_zero k)
      clear hdown
      go_enter Try.func34, Try.ntmps34
      go_wp2_with fail
      refine (nat_size_any a n cap x _ hs hx (by omega)).mono ?_
      rw [← HX.out, ← HL.out]; rintro e w' ⟨rfl, rfl⟩
      go_wp2
      go_ret
      exact ⟨none, 0, 0, rfl, by rw [HS.out]; exact Sl.nil _, Ext.refl _⟩
    have hz : ((L : Int) == 0) = false := by simp [h0]
    by_cases h1 : 4096 < k
    · have HS := hidP (shl32_out (V := val B32 x) (k := k) (.inl h1))
      clear hdown
      go_enter Try.func34, Try.ntmps34
      go_wp2_with fail
      refine (nat_size_any a n cap x _ hs hx (by omega)).mono ?_
      rw [← HX.out, ← HL.out]; rintro e w' ⟨rfl, rfl⟩
      go_wp2
      go_ret
      exact ⟨none, 0, 0, rfl, by rw [HS.out]; exact Sl.nil _, Ext.refl _⟩
    have hb1 : decide ((4096 : Int) < k) = false := decide_eq_false (by omega)
    by_cases h2 : k < -4096
    · have HS := hidP (shl32_out (V := val B32 x) (k := k) (.inr h2))
      clear hdown
      go_enter Try.func34, Try.ntmps34
      go_wp2_with fail
      refine (nat_size_any a n cap x _ hs hx (by omega)).mono ?_
      rw [← HX.out, ← HL.out]; rintro e w' ⟨rfl, rfl⟩
      go_wp2
      go_ret
      exact ⟨none, 0, 0, rfl, by rw [HS.out]; exact Sl.nil _, Ext.refl _⟩
    have hb2 : decide (k < -4096) = false := decide_eq_false (by omega)
    by_cases h3 : 0 ≤ k
    · obtain ⟨m, rfl⟩ : ∃ m : Nat, k = m := ⟨k.toNat, by omega⟩
      have hm : m ≤ 4096 := by omega
      have HS := hidP (shl32_up (V := val B32 x) hm)
      clear hdown h1 h2 h3 hk hb1 hb2
      have hb1 : decide (4096 < m) = false := decide_eq_false (by omega)
      have HM : Hid (32 * (m / 32) + m % 32 = m) := hidP (Nat.div_add_mod m 32)
      have hq1 : (m : Int) / 32 = ((m / 32 : Nat) : Int) := by omega
      have hq2 : (m : Int) % 32 = ((m % 32 : Nat) : Int) := by omega
      have hb3 : m / 32 ≤ 128 := by omega
      have hb4 : m % 32 ≤ 31 := by omega
      have HL2 := hidP (fun u => nat_left_any a L cap X (m / 32) (m % 32) u)
      rw [hq1.symm, hq2.symm] at HL2
      clear hq1 hq2
      go_enter Try.func34, Try.ntmps34
      go_wp2_with fail
      refine (nat_size_any a n cap x _ hs hx (by omega)).mono ?_
      rw [← HX.out, ← HL.out]; rintro e w' ⟨rfl, rfl⟩
      go_wp2_with fail
      refine (HL2.out _ HCUT.out hXH (by omega) (by omega) hb4).mono ?_
      rw [HM.out, HVX.out, ← HS.out]
      rintro e w1 ⟨a1, n1, cap1, rfl, hs1, he1⟩
      go_wp2
      go_ret
      exact ⟨_, _, _, rfl, hs1, he1⟩
    · obtain ⟨m, rfl⟩ : ∃ m : Nat, k = -(m : Int) := ⟨(-k).toNat, by omega⟩
      have hm : m ≤ 4096 := by omega
      have hm1 : 1 ≤ m := by omega
      rw [show (- -(m : Int)).toNat = m by omega] at hdown
      have hge : L ≤ m / 32 := by
        rcases Nat.lt_or_ge (m / 32) L with h | h
        · exact absurd ⟨h0, by omega, by omega, h⟩ hdown
        · exact h
      have HS : Hid (shl32 (val B32 x) (-(m : Int)) = []) := hidP (by
        rw [shl32_down hm]
        have h9 := HLT.out
        have h8 : B32 ^ L ≤ 2 ^ m := by
          rw [show (B32 : Nat) = 2 ^ 32 from rfl, ← Nat.pow_mul]
          exact Nat.pow_le_pow_right (by decide) (by omega)
        rw [HVX.out] at h9
        rw [Nat.div_eq_of_lt (Nat.lt_of_lt_of_le h9 h8), dig_zero])
      have hq1 : (m : Int) / 32 = ((m / 32 : Nat) : Int) := by omega
      clear hdown h1 h2 h3 hk hb1 hb2
      have hb1 : decide ((4096 : Int) < -(m : Int)) = false := decide_eq_false (by omega)
      have hb2 : decide ((4096 : Int) < (m : Int)) = false := decide_eq_false (by omega)
      have hb3 : decide (m = 0) = false := decide_eq_false (by omega)
      generalize m / 32 = ws at *
      have hb4 : decide (L ≤ ws) = true := decide_eq_true hge
      go_enter Try.func34, Try.ntmps34
      go_wp2_with fail
      refine (nat_size_any a n cap x _ hs hx (by omega)).mono ?_
      rw [← HX.out, ← HL.out]; rintro e w' ⟨rfl, rfl⟩
      go_wp2
      go_ret
      exact ⟨none, 0, 0, rfl, by rw [HS.out]; exact Sl.nil _, Ext.refl _⟩

theorem shl_len {V m N M : Nat} (h : V < B32 ^ N) (hm : m ≤ 32 * M) : (dig B32 (V * 2 ^ m)).length ≤ N + M := by
  refine dig_len_le B32_two ?_
  have h2 : 2 ^ m ≤ 2 ^ (32 * M) := Nat.pow_le_pow_right (by decide) hm
  have h3 : 2 ^ (32 * M) = B32 ^ M := by rw [Nat.pow_mul]; rfl
  rw [Nat.pow_add, ← h3]
  exact Nat.lt_of_lt_of_le (Nat.mul_lt_mul_of_pos_right h (Nat.two_pow_pos _)) (Nat.mul_le_mul_left _ h2)
theorem shl32_len {k : Int} (x : List Nat) (hx : Ws x) : (shl32 (val B32 x) k).length ≤ x.length + 128 := by
  unfold shl32
  split
  · simp
  · split
    · exact shl_len (val_lt (B := B32) (by decide) x hx) (by omega)
    · have h1 := dig_mono B32_two (Nat.div_le_self (val B32 x) (2 ^ (-k).toNat))
      have h2 := dig_val_len B32_two x hx
      omega

end Go.Proofs.Ytcipcpbjkcpgdaa
