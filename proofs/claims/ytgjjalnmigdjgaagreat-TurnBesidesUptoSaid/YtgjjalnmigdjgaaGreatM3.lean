/- Joined: B1 B2 B3 B4 K2 K3 K6 K7 K8 K9. -/
import Derived.Test.YtgjjalnmigdjgaaGreatM2
import Derived.Test.YtgjjalnmigdjgaaGreatM1
import Derived.Test.YtgjjalnmigdjgaaGreatShelf
import Derived.Deep.DeepCutAuto
namespace Go.Proofs.YtgjjalnmigdjgaaGreat
set_option linter.unusedVariables false
open Go Go.RowKit
theorem T_u64' : SlT Tryz.prog 182 143 (.int .u64 0) 8 :=
  let ⟨i, h1, h2, h3, h4⟩ := info_parts (P := Tryz.prog) (e := 143) (z := .int .u64 0) (size := 1) (bytes := 8) (by kernel_rfl); ⟨Tryz.underlying182, i, h1, h2, h3, h4, rfl⟩
theorem T_u32' : SlT Tryz.prog 25 98 (.int .u32 0) 4 :=
  let ⟨i, h1, h2, h3, h4⟩ := info_parts (P := Tryz.prog) (e := 98) (z := .int .u32 0) (size := 1) (bytes := 4) (by kernel_rfl); ⟨Tryz.underlying25, i, h1, h2, h3, h4, rfl⟩
theorem ret_int2 {k j : IntKind} {a b c d : Int} (h1 : a = b) (h2 : c = d) : Ending.returned (.tuple #[.int k a, .int j c]) = .returned (.tuple #[.int k b, .int j d]) := by rw [h1, h2]
set_option maxHeartbeats 400000 in
theorem bits_Add32_any (x y c : Nat) (w : World) (hx : x ≤ 4294967295) (hy : y ≤ 4294967295) (hc : c ≤ 1) :
    Calls Tryz.prog 223 #[.int .u32 x, .int .u32 y, .int .u32 c] w fun e w' => e = .returned (.tuple #[.int .u32 ((x + y + c) % 4294967296 : Nat), .int .u32 ((x + y + c) / 4294967296 : Nat)]) ∧ w = w' := by
  go_enter Tryz.func223, Tryz.ntmps223
  go_wp2
  go_ret2
  exact ⟨rfl, rfl⟩
set_option maxHeartbeats 400000 in
theorem bits_Sub32_any (x y c : Nat) (w : World) (hx : x ≤ 4294967295) (hy : y ≤ 4294967295) (hc : c ≤ 1) :
    Calls Tryz.prog 224 #[.int .u32 x, .int .u32 y, .int .u32 c] w fun e w' => e = .returned (.tuple #[.int .u32 ((4294967296 + x - y - c) % 4294967296 : Nat), .int .u32 (1 - (4294967296 + x - y - c) / 4294967296 : Nat)]) ∧ w = w' := by
  have HB := hidP (borrow_bits x y c hx hy hc)
  go_enter Tryz.func224, Tryz.ntmps224
  go_wp2
  go_ret2
  exact ⟨ret_int2 (by omega) HB.out, rfl⟩
theorem bits_Len32_any (x : Nat) (w : World) (hx : x ≤ 4294967295) :
    Calls Tryz.prog 167 #[.int .u32 x] w fun e w' => e = .returned (.int .i64 (bitlen x : Nat)) ∧ w = w' := by
  refine (Tryz.bits_Len32 x w (by omega) (by omega)).mono ?_
  rintro e w' ⟨rfl, rfl⟩
  refine ⟨ret_int ?_, rfl⟩
  rw [Int.toNat_natCast, Lib.bitLen, bitLen_eq 64 x (by omega)]
theorem bits_LeadingZeros32_any (x : Nat) (w : World) (hx : x ≤ 4294967295) :
    Calls Tryz.prog 219 #[.int .u32 x] w fun e w' => e = .returned (.int .i64 (32 - bitlen x : Nat)) ∧ w = w' := by
  refine (Tryz.bits_LeadingZeros32 x w (by omega) (by omega)).mono ?_
  rintro e w' ⟨rfl, rfl⟩
  refine ⟨ret_int ?_, rfl⟩
  have : bitlen x ≤ 32 := bitlen_le (by omega)
  rw [Int.toNat_natCast, Lib.bitLen, bitLen_eq 64 x (by omega)]
  omega
set_option maxHeartbeats 1000000 in
theorem nat_Trim_any (a : Option Addr) (n cap : Nat) (l : List Nat) (w : World) (hs : Sl w a n cap (ints .u32 l)) (hl : Ws l) (hn : n ≤ 1099511627776) :
    Calls Tryz.prog 135 #[.slice a n cap] w (RetSl w (ints .u32 (dig B32 (val B32 l)))) := by
  have hlen := hs.int_len
  have HT := hidP (take_dig_len B32_two l hl)
  have HL := hidP (dig_val_len B32_two l hl)
  obtain ⟨m, hm2⟩ : ∃ m, m = (dig B32 (val B32 l)).length := ⟨_, rfl⟩
  have hmn : m ≤ n := by have := HL.out; omega
  have HM := hidP hm2; clear hm2
  by_cases h0 : m = 0
  · have HD : Hid (dig B32 (val B32 l) = []) := hidP (List.eq_nil_of_length_eq_zero (by rw [← HM.out]; exact h0))
    go_enter Tryz.func135, Tryz.ntmps135
    go_wp2_with fail
    refine (nat_size_any a n cap l _ hs hl (by omega)).mono ?_
    rw [← HM.out]; rintro e w' ⟨rfl, rfl⟩
    go_wp2
    go_ret
    exact ⟨none, 0, 0, rfl, by rw [HD.out]; exact Sl.nil _, Ext.refl _⟩
  · obtain ⟨k, rfl⟩ : ∃ k, m = k + 1 := ⟨m - 1, by omega⟩
    have hz : (((k + 1 : Nat) : Int) == 0) = false := by simp; omega
    go_enter Tryz.func135, Tryz.ntmps135
    go_wp2_with fail
    refine (nat_size_any a n cap l _ hs hl (by omega)).mono ?_
    rw [← HM.out]; rintro e w' ⟨rfl, rfl⟩
    go_wp2_with (first | (at_make; refine wpList_make (W := w) (n := k + 1) T_u32' rfl _ _ rfl rfl rfl (Ext.refl _) (by omega) (by omega) rfl ?_; intro w1 hown he hsz) | (have _h := hown; refine wpList_copyRow (k := k + 1) T_u32' rfl _ _ rfl rfl rfl hown he (hs.ext he) (ints_one _ _) (Nat.min_eq_right hmn).symm ?_; intro w2 hown2 he2))
    go_ret
    refine ⟨_, _, _, rfl, ?_, he2⟩
    have h2 := Sl.of_owns' hown2
    have ht := HT.out
    rw [← HM.out] at ht
    have hr : (List.replicate (k + 1) (Value.int IntKind.u32 0)).drop (k + 1) = [] := by simp
    rw [hr, List.append_nil, ints_take, ht] at h2
    exact h2
set_option maxHeartbeats 1000000 in
theorem nat_Of_any (v : Nat) (w : World) (hv : v ≤ 18446744073709551615) :
    Calls Tryz.prog 152 #[.int .u64 v] w (RetSl w (ints .u32 (dig B32 v))) := by
  have hlo := lo32 v hv
  go_enter Tryz.func152, Tryz.ntmps152
  go_wp2_with fail
  refine (nat_Trim_any _ 2 2 [v % 4294967296, v / 4294967296] _ (Sl.lit w _ _ 2 rfl (by omega)) ?_ (by omega)).mono ?_
  · intro x hx
    simp at hx
    unfold B32
    rcases hx with rfl | rfl <;> omega
  have hval : val B32 [v % 4294967296, v / 4294967296] = v := by
    simp only [val, B32]; omega
  rw [hval]
  clear hval
  rintro e w' ⟨a5, n5, cap5, rfl, hs5, he5⟩
  go_wp2
  go_ret
  exact ⟨_, _, _, rfl, hs5, ((Ext.refl _).alloc _).trans he5⟩
set_option maxHeartbeats 1000000 in
theorem nat_Bits_any (a : Option Addr) (n cap : Nat) (l : List Nat) (w : World) (hs : Sl w a n cap (ints .u32 l)) (hl : Ws l) (hn : n ≤ 1099511627776) :
    Calls Tryz.prog 127 #[.slice a n cap] w fun e w' => e = .returned (.int .i64 (bitlen (val B32 l) : Nat)) ∧ w = w' := by
  have hlen := hs.int_len
  have HT := hidP (take_dig_len B32_two l hl)
  have HL := hidP (dig_val_len B32_two l hl)
  obtain ⟨m, hm2⟩ : ∃ m, m = (dig B32 (val B32 l)).length := ⟨_, rfl⟩
  have hmn : m ≤ n := by have := HL.out; omega
  have HM := hidP hm2; clear hm2
  by_cases h0 : m = 0
  · have HD : Hid (bitlen (val B32 l) = 0) := hidP (by
      have h1 : dig B32 (val B32 l) = [] := List.eq_nil_of_length_eq_zero (by rw [← HM.out]; exact h0)
      have h2 := val_dig B32_two (val B32 l)
      rw [h1] at h2
      rw [← h2]; rfl)
    go_enter Tryz.func127, Tryz.ntmps127
    go_wp2_with fail
    refine (nat_size_any a n cap l _ hs hl (by omega)).mono ?_
    rw [← HM.out]; rintro e w' ⟨rfl, rfl⟩
    go_wp2
    go_ret
    exact ⟨ret_int (by rw [HD.out]; rfl), rfl⟩
  · have hz : ((m : Int) == 0) = false := by simp [h0]
    obtain ⟨k, rfl⟩ : ∃ k, m = k + 1 := ⟨m - 1, by omega⟩
    obtain ⟨b, off, rfl, hc⟩ := hs.at_int (by omega)
    have hck := hc k (by omega)
    have hx := hl.at k (by omega)
    have HBL : Hid (bitlen (val B32 l) = k * 32 + bitlen l[k]) := hidP (by
      have ht := HT.out
      rw [← HM.out] at ht
      have h1 := val_dig B32_two (val B32 l)
      rw [← ht, List.take_succ_eq_append_getElem (by omega), val_snoc, List.length_take, Nat.min_eq_left (by omega)] at h1
      have hlow := val_lt (B := B32) (by decide) (l.take k) (fun d hd => hl d (List.mem_of_mem_take hd))
      rw [List.length_take, Nat.min_eq_left (by omega)] at hlow
      have hne : l[k] ≠ 0 := by
        intro h0
        rw [h0, Nat.mul_zero, Nat.add_zero] at h1
        rw [h1] at hlow
        have := dig_len_le B32_two hlow
        have := HM.out
        omega
      rw [← h1]
      exact bitlen_top hlow hne)
    clear hc
    go_enter Tryz.func127, Tryz.ntmps127
    go_wp2_with fail
    refine (nat_size_any _ n cap l _ hs hl (by omega)).mono ?_
    rw [← HM.out]; rintro e w' ⟨rfl, rfl⟩
    go_wp2_with fail
    refine (bits_Len32_any l[k] _ (by omega)).mono ?_
    have hbl : bitlen l[k] ≤ 32 := bitlen_le (by omega)
    generalize bitlen l[k] = bl at *
    rintro e w' ⟨rfl, rfl⟩
    go_wp2
    go_ret
    exact ⟨ret_int (by rw [HBL.out]; omega), rfl⟩
end Go.Proofs.YtgjjalnmigdjgaaGreat
namespace Go.Proofs.YtgjjalnmigdjgaaGreat
set_option linter.unusedVariables false
open Go Go.RowKit
/-- What the walks take of a number's words: its digits X, as many as count; the list reads on with noughts. -/
theorem dig_get {l : List Nat} (hl : Ws l) (i : Nat) (hi : i < (dig B32 (val B32 l)).length) : ∃ h : i < l.length, l[i] = (dig B32 (val B32 l)).getD i 0 := by
  have h1 := dig_val_len B32_two l hl
  have h2 := take_dig_len B32_two l hl
  refine ⟨by omega, ?_⟩
  rw [List.getD_eq_getElem?_getD]
  have : (dig B32 (val B32 l))[i]? = some l[i] := by
    rw [← h2, List.getElem?_take]
    simp [hi, show i < l.length by omega]
  rw [this]; rfl
theorem cut_sl32 {w : World} {a : Option Addr} {n cap : Nat} {D : List Nat} (hsl : Sl w a n cap (ints .u32 D)) (hD : Ws D) : Sl w a (dig B32 (val B32 D)).length cap (ints .u32 (dig B32 (val B32 D))) := by
  have ht := take_dig_len B32_two D hD
  have hx := hsl.take (dig B32 (val B32 D)).length (by have := dig_val_len B32_two D hD; have := hsl.int_len; omega)
  rw [ints_take, ht] at hx
  exact hx
theorem dig_lt_of_len {B a b : Nat} (hB : 2 ≤ B) (h : (dig B a).length < (dig B b).length) : a < b := by
  rcases Nat.lt_or_ge a b with h1 | h1
  · exact h1
  · have := dig_mono hB h1; omega
theorem canon_of_len {B : Nat} (hB : 2 ≤ B) {D : List Nat} (hD : ∀ x ∈ D, x < B) (h : D.length = 0 ∨ B ^ (D.length - 1) ≤ val B D) : dig B (val B D) = D := by
  have h1 := take_dig_len hB D hD
  have h2 := dig_val_len hB D hD
  have h3 : (dig B (val B D)).length = D.length := by
    rcases h with h | h
    · omega
    · rcases Nat.lt_or_ge (dig B (val B D)).length D.length with h4 | h4
      · have := le_of_dig_len hB (Nat.le_sub_one_of_lt h4); omega
      · omega
  rw [← h1, h3, List.take_length]
set_option maxHeartbeats 1000000 in
theorem nat_Cmp_any (a a' : Option Addr) (n cap n' cap' : Nat) (x y : List Nat) (w : World) (hs : Sl w a n cap (ints .u32 x)) (hs' : Sl w a' n' cap' (ints .u32 y)) (hx : Ws x) (hy : Ws y)
    (hn : n ≤ 1099511627776) (hn' : n' ≤ 1099511627776) :
    Calls Tryz.prog 137 #[.slice a n cap, .slice a' n' cap'] w fun e w' => e = .returned (.int .i64 (cmpI (val B32 x) (val B32 y))) ∧ Ext w w' := by
 have hlen := hs.int_len
 have hlen' := hs'.int_len
 have hdx := fun i => dig_get hx i
 have hdy := fun i => dig_get hy i
 have hXH : Ws (dig B32 (val B32 x)) := Ws.dig _
 have hYH : Ws (dig B32 (val B32 y)) := Ws.dig _
 have hvx := val_dig B32_two (val B32 x)
 have hvy := val_dig B32_two (val B32 y)
 have hdl := fun h => dig_lt_of_len (a := val B32 x) (b := val B32 y) B32_two h
 have hdg := fun h => dig_lt_of_len (a := val B32 y) (b := val B32 x) B32_two h
 have hmn := dig_val_len B32_two x hx
 have hmn' := dig_val_len B32_two y hy
 obtain ⟨X, hX⟩ : ∃ X, X = dig B32 (val B32 x) := ⟨_, rfl⟩
 obtain ⟨Y, hY⟩ : ∃ Y, Y = dig B32 (val B32 y) := ⟨_, rfl⟩
 rw [← hX] at hdx hXH hvx hdl hdg hmn
 rw [← hY] at hdy hYH hvy hdl hdg hmn'
 have HX := hidP hX; have HY := hidP hY; clear hX hY
 have HDX := hidP hdx; have HDY := hidP hdy; have HVX := hidP hvx; have HVY := hidP hvy; have HDL := hidP hdl; have HDG := hidP hdg
 clear hdx hdy hvx hvy hdl hdg
 obtain ⟨m, hm⟩ : ∃ m, m = X.length := ⟨_, rfl⟩
 obtain ⟨k0, hk0⟩ : ∃ k0, k0 = Y.length := ⟨_, rfl⟩
 rw [← hm] at hmn; rw [← hk0] at hmn'
 have HM := hidP hm; have HK := hidP hk0; clear hm hk0
 go_enter Tryz.func137, Tryz.ntmps137
 go_wp2_with fail
 refine (nat_size_any a n cap x _ hs hx (by omega)).mono ?_
 rw [← HX.out, ← HM.out]; rintro e w' ⟨rfl, rfl⟩
 go_wp2_with fail
 refine (nat_size_any a' n' cap' y _ hs' hy (by omega)).mono ?_
 rw [← HY.out, ← HK.out]; rintro e w' ⟨rfl, rfl⟩
 by_cases h1 : m < k0
 · have HC : Hid (cmpI (val B32 x) (val B32 y) = -1) := hidP (cmpI_lt (HDL.out (by rw [← HM.out, ← HK.out]; exact h1)))
   go_wp2
   go_ret
   exact ⟨ret_int HC.out.symm, Ext.refl _⟩
 by_cases h2 : k0 < m
 · have HC : Hid (cmpI (val B32 x) (val B32 y) = 1) := hidP (by
    have := HDG.out (by rw [← HM.out, ← HK.out]; exact h2)
    simp [cmpI, this, show ¬ val B32 x < val B32 y by omega])
   go_wp2
   go_ret
   exact ⟨ret_int HC.out.symm, Ext.refl _⟩
 have hmk : m = k0 := by omega
 subst hmk
 clear h1 h2
 go_wp2_with fail
 go_loopw [7] (fun i wr => ∃ k : Nat, k ≤ m ∧ i = .int .i64 ((k : Int) - 1) ∧ Ext w wr ∧ ∀ j, k ≤ j → X.getD j 0 = Y.getD j 0) (fun i _ => (intOf i + 1).toNat)
 case atStart =>
  refine ⟨m, by omega, by go_num, Ext.refl _, fun j hj => ?_⟩
  rw [List.getD_eq_getElem?_getD, List.getD_eq_getElem?_getD, List.getElem?_eq_none (by have := HM.out; omega), List.getElem?_eq_none (by have := HK.out; omega)]
 obtain ⟨k, hk, rfl, he, hsame⟩ := hrel
 have HS := hidP hsame; clear hsame
 by_cases h0 : 0 < k
 · obtain ⟨i, rfl⟩ : ∃ i, k = i + 1 := ⟨k - 1, by omega⟩
   have e1 : ((i + 1 : Nat) : Int) - 1 = (i : Int) := by omega
   rw [e1]
   clear e1
   obtain ⟨b, off, rfl, hc⟩ := (hs.ext he).at_int (by omega)
   obtain ⟨b', off', rfl, hc'⟩ := (hs'.ext he).at_int (by omega)
   obtain ⟨hi1, hxi⟩ := HDX.out i (by have := HM.out; omega)
   obtain ⟨hi2, hyi⟩ := HDY.out i (by have := HK.out; omega)
   have hck := hc i hi1
   have hck' := hc' i hi2
   rw [hxi] at hck
   rw [hyi] at hck'
   clear hc hc' hxi hyi
   generalize hP : X.getD i 0 = p at *
   generalize hQ : Y.getD i 0 = q at *
   have HP := hidP hP; have HQ := hidP hQ; clear hP hQ
   by_cases h3 : p < q
   · have HC : Hid (cmpI (val B32 x) (val B32 y) = -1) := hidP (by
      have := val_lt_of (by decide) i X Y hXH (by rw [HP.out, HQ.out]; exact h3) (fun j hj => HS.out j (by omega))
      rw [HVX.out, HVY.out] at this
      exact cmpI_lt this)
     go_wp2
     go_quiet (fail)
     go_wp2
     go_ret
     exact ⟨ret_int HC.out.symm, he.drewN _⟩
   by_cases h4 : q < p
   · have HC : Hid (cmpI (val B32 x) (val B32 y) = 1) := hidP (by
      have := val_lt_of (by decide) i Y X hYH (by rw [HP.out, HQ.out]; exact h4) (fun j hj => (HS.out j (by omega)).symm)
      rw [HVX.out, HVY.out] at this
      simp [cmpI, this, show ¬ val B32 x < val B32 y by omega])
     go_wp2
     go_quiet (fail)
     go_wp2
     go_quiet (fail)
     go_wp2
     go_ret
     exact ⟨ret_int HC.out.symm, (he.drewN _).drewN _⟩
   go_wp2
   go_quiet (fail)
   go_wp2
   go_quiet (fail)
   go_wp2
   go_roundw
   case rel =>
    refine ⟨i, by omega, rfl, he.drewN _, fun j hj => ?_⟩
    by_cases hji : j = i
    · subst hji; rw [HP.out, HQ.out]; omega
    exact HS.out j (by omega)
   case measure => simp [intOf]
 obtain rfl : k = 0 := by omega
 have HC : Hid (cmpI (val B32 x) (val B32 y) = 0) := hidP (by
  have := val_eq_of B32 (X.length + Y.length) X Y (by omega) (by omega) (fun j => HS.out j (by omega))
  rw [HVX.out, HVY.out] at this
  simp [cmpI, this])
 go_wp2
 go_ret
 exact ⟨ret_int HC.out.symm, he⟩
set_option maxHeartbeats 1000000 in
theorem nat_Add_ge (a a' : Option Addr) (n cap n' cap' : Nat) (x y : List Nat) (w : World) (hs : Sl w a n cap (ints .u32 x)) (hs' : Sl w a' n' cap' (ints .u32 y)) (hx : Ws x) (hy : Ws y)
    (hn : n ≤ 1099511627776) (hn' : n' ≤ 1099511627776) (hge : (dig B32 (val B32 y)).length ≤ (dig B32 (val B32 x)).length) :
    Calls Tryz.prog 200 #[.slice a n cap, .slice a' n' cap'] w (RetSl w (ints .u32 (dig B32 (val B32 x + val B32 y)))) := by
 have hlen := hs.int_len
 have hlen' := hs'.int_len
 have hdx := fun i => dig_get hx i
 have hdy := fun i => dig_get hy i
 have hCX := canon_dig B32_two (val B32 x)
 have hYH : Ws (dig B32 (val B32 y)) := Ws.dig _
 have hvx := val_dig B32_two (val B32 x)
 have hvy := val_dig B32_two (val B32 y)
 have hpx := fun h => pow_le_of_dig (n := val B32 x) B32_two h
 have hmn := dig_val_len B32_two x hx
 have hmn' := dig_val_len B32_two y hy
 obtain ⟨X, hX⟩ : ∃ X, X = dig B32 (val B32 x) := ⟨_, rfl⟩
 obtain ⟨Y, hY⟩ : ∃ Y, Y = dig B32 (val B32 y) := ⟨_, rfl⟩
 rw [← hX] at hdx hCX hvx hpx hmn hge
 rw [← hY] at hdy hYH hvy hmn' hge
 have HX := hidP hX; have HY := hidP hY; clear hX hY
 have HDX := hidP hdx; have HDY := hidP hdy; have HVX := hidP hvx; have HVY := hidP hvy; have HPX := hidP hpx
 clear hdx hdy hvx hvy hpx
 obtain ⟨m, hm⟩ : ∃ m, m = X.length := ⟨_, rfl⟩
 obtain ⟨k0, hk0⟩ : ∃ k0, k0 = Y.length := ⟨_, rfl⟩
 rw [← hm] at hmn hge; rw [← hk0] at hmn' hge
 have HM := hidP hm; have HK := hidP hk0; clear hm hk0
 have hXH : Ws X := hCX.1
 go_enter Tryz.func200, Tryz.ntmps200
 go_wp2_with fail
 refine (nat_size_any a n cap x _ hs hx (by omega)).mono ?_
 rw [← HX.out, ← HM.out]; rintro e w' ⟨rfl, rfl⟩
 go_wp2_with fail
 refine (nat_size_any a' n' cap' y _ hs' hy (by omega)).mono ?_
 rw [← HY.out, ← HK.out]; rintro e w' ⟨rfl, rfl⟩
 go_wp2_with (at_make; refine wpList_make0 (W := w) (n := m + 1) T_u32' rfl _ _ rfl rfl rfl (Ext.refl _) (by omega) (by omega) ?_; intro w1 hown he1)
 go_loopw [7, 8, 27] (fun v c i wr => ∃ (k cc : Nat) (D : List Nat), k ≤ m ∧ i = .int .i64 k ∧ c = .int .u32 (cc : Nat) ∧ wr.ownsRow w.heap.size 98 1 v k (ints .u32 D) ∧ Ext w wr ∧ cc ≤ 1 ∧ D.length = k ∧ Ws D ∧ val B32 D + B32 ^ k * cc = val B32 (X.take k) + val B32 (Y.take k)) (fun _ _ i _ => m - (intOf i).toNat)
 case atStart => exact ⟨0, 0, [], by omega, rfl, rfl, hown, he1, by omega, rfl, by simp [Ws], by simp [val]⟩
 clear hown he1
 obtain ⟨k, cc, D, hk, rfl, rfl, hown, he, hcc, hDl, hD, hv⟩ := hrel
 have HV := hidP hv; clear hv
 by_cases h0 : k < m
 · obtain ⟨b, off, rfl, hc⟩ := (hs.ext he).at_int (by omega)
   obtain ⟨hi1, hxi⟩ := HDX.out k (by have := HM.out; omega)
   have hck := hc k hi1
   rw [hxi] at hck
   clear hc hxi
   have hpb := getD_lt (B := B32) (by decide) hXH k
   have hqb := getD_lt (B := B32) (by decide) hYH k
   generalize hP : X.getD k 0 = p at *
   have HP := hidP hP; clear hP
   have hp1 : p ≤ 4294967295 := by unfold B32 at hpb; omega
   clear hpb
   by_cases h1 : k < k0
   · obtain ⟨b', off', rfl, hc'⟩ := (hs'.ext he).at_int (by omega)
     obtain ⟨hi2, hyi⟩ := HDY.out k (by have := HK.out; omega)
     have hck' := hc' k hi2
     rw [hyi] at hck'
     clear hc' hyi
     generalize hQ : Y.getD k 0 = q at *
     have HQ := hidP hQ; clear hQ
     have hq1 : q ≤ 4294967295 := by unfold B32 at hqb; omega
     clear hqb
     go_wp2_with fail
     refine (bits_Add32_any p q cc _ hp1 hq1 hcc).mono ?_
     rintro e w' ⟨rfl, rfl⟩
     go_wp2_with (at_builtin; refine wpList_app1 T_u32' rfl _ _ rfl hown he _ rfl rfl rfl (by omega) (by omega) ?_; intro v' w' hown' he')
     go_roundw
     case rel =>
      refine ⟨k + 1, (p + q + cc) / 4294967296, D ++ [(p + q + cc) % 4294967296], by omega, by go_num, rfl, ?_, he', by omega, by simp [hDl], ?_, ?_⟩
      · rw [ints_append]; exact hown'
      · intro d hd
        rcases List.mem_append.1 hd with hd | hd
        · exact hD d hd
        simp at hd; subst hd; exact Nat.mod_lt _ (by decide)
      have := add_step (B := B32) (x := p) (y := q) HV.out
      rw [val_take_snoc, val_take_snoc, HP.out, HQ.out, val_snoc, hDl, Nat.pow_succ]
      exact this
     case measure => simp only [intOf]; omega
   have HQ : Hid (Y.getD k 0 = 0) := hidP (by rw [List.getD_eq_getElem?_getD, List.getElem?_eq_none (by have := HK.out; omega)]; rfl)
   clear hqb
   go_wp2_with fail
   refine (bits_Add32_any p 0 cc _ hp1 (by omega) hcc).mono ?_
   rintro e w' ⟨rfl, rfl⟩
   go_wp2_with (at_builtin; refine wpList_app1 T_u32' rfl _ _ rfl hown he _ rfl rfl rfl (by omega) (by omega) ?_; intro v' w' hown' he')
   go_roundw
   case rel =>
    refine ⟨k + 1, (p + 0 + cc) / 4294967296, D ++ [(p + 0 + cc) % 4294967296], by omega, by go_num, by refine congrArg _ ?_; omega, ?_, he', by omega, by simp [hDl], ?_, ?_⟩
    · rw [ints_append]; exact hown'
    · intro d hd
      rcases List.mem_append.1 hd with hd | hd
      · exact hD d hd
      simp at hd; subst hd; exact Nat.mod_lt _ (by decide)
    have := add_step (B := B32) (x := p) (y := 0) HV.out
    rw [val_take_snoc, val_take_snoc, HP.out, HQ.out, val_snoc, hDl, Nat.pow_succ]
    exact this
   case measure => simp only [intOf]; omega
 obtain rfl : k = m := by omega
 have hv := HV.out
 rw [List.take_of_length_le (by have := HM.out; omega), List.take_of_length_le (by have := HK.out; omega), HVX.out, HVY.out] at hv
 have HV2 := hidP hv; clear hv HV
 have hge0 : k = 0 ∨ B32 ^ (k - 1) ≤ val B32 x := by
  by_cases hz : val B32 x = 0
  · left
    rw [HM.out, HX.out, hz, dig_zero]; rfl
  right
  rw [HM.out]; exact HPX.out hz
 by_cases hc0 : 0 < cc
 · have HD : Hid (dig B32 (val B32 x + val B32 y) = D ++ [cc]) := hidP (by
    have h5 : val B32 (D ++ [cc]) = val B32 x + val B32 y := by rw [val_snoc, hDl]; exact HV2.out
    rw [← h5]
    refine canon_of_len B32_two ?_ (.inr ?_)
    · intro d hd
      rcases List.mem_append.1 hd with hd | hd
      · exact hD d hd
      simp at hd; subst hd; unfold B32; omega
    rw [val_snoc, hDl]
    simp only [List.length_append, List.length_singleton, hDl, Nat.add_sub_cancel]
    have : B32 ^ k * 1 ≤ B32 ^ k * cc := Nat.mul_le_mul_left _ hc0
    omega)
   go_wp2_with (at_builtin; refine wpList_app1 T_u32' rfl _ _ rfl hown he _ rfl rfl rfl (by omega) (by omega) ?_; intro v' w' hown' he')
   go_ret
   obtain ⟨a5, cap5, rfl, hsl⟩ := Sl.of_owns hown'
   exact ⟨_, _, _, rfl, by rw [HD.out, ints_append]; exact hsl, he'⟩
 obtain rfl : cc = 0 := by omega
 have HD : Hid (dig B32 (val B32 x + val B32 y) = D) := hidP (by
  have h5 := HV2.out
  rw [Nat.mul_zero, Nat.add_zero] at h5
  rw [← h5]
  refine canon_of_len B32_two hD ?_
  rw [hDl, h5]
  rcases hge0 with h | h
  · exact .inl h
  exact .inr (by omega))
 obtain ⟨a5, cap5, rfl, hsl⟩ := Sl.of_owns hown
 go_wp2
 go_ret
 exact ⟨_, _, _, rfl, by rw [HD.out]; exact hsl, he⟩
set_option maxHeartbeats 1000000 in
theorem nat_Add_any (a a' : Option Addr) (n cap n' cap' : Nat) (x y : List Nat) (w : World) (hs : Sl w a n cap (ints .u32 x)) (hs' : Sl w a' n' cap' (ints .u32 y)) (hx : Ws x) (hy : Ws y)
    (hn : n ≤ 1099511627776) (hn' : n' ≤ 1099511627776) :
    Calls Tryz.prog 200 #[.slice a n cap, .slice a' n' cap'] w (RetSl w (ints .u32 (dig B32 (val B32 x + val B32 y)))) := by
  by_cases hge : (dig B32 (val B32 y)).length ≤ (dig B32 (val B32 x)).length
  · exact nat_Add_ge a a' n cap n' cap' x y w hs hs' hx hy hn hn' hge
  · have hlt : (dig B32 (val B32 x)).length < (dig B32 (val B32 y)).length := by omega
    have HR := hidP (nat_Add_ge a' a n' cap' n cap y x w hs' hs hy hx hn' hn (Nat.le_of_lt hlt))
    have H1 := hidP (nat_size_any a n cap x w hs hx (by omega))
    have H2 := hidP (nat_size_any a' n' cap' y w hs' hy (by omega))
    rw [Nat.add_comm]
    have hb1 := dig_val_len B32_two x hx
    have hb2 := dig_val_len B32_two y hy
    have := hs.int_len
    have := hs'.int_len
    clear hge
    generalize (dig B32 (val B32 x)).length = m at *
    generalize (dig B32 (val B32 y)).length = k at *
    go_enter Tryz.func200, Tryz.ntmps200
    go_wp2_with fail
    refine H1.out.mono ?_
    rintro e w' ⟨rfl, rfl⟩
    go_wp2_with fail
    refine H2.out.mono ?_
    rintro e w' ⟨rfl, rfl⟩
    go_wp2_with fail
    refine HR.out.mono ?_
    rintro e w' ⟨a5, n5, cap5, rfl, hs5, he5⟩
    go_wp2
    go_ret
    exact ⟨_, _, _, rfl, hs5, he5⟩
set_option maxHeartbeats 1000000 in
theorem nat_Sub_any (a a' : Option Addr) (n cap n' cap' : Nat) (x y : List Nat) (w : World) (hs : Sl w a n cap (ints .u32 x)) (hs' : Sl w a' n' cap' (ints .u32 y)) (hx : Ws x) (hy : Ws y)
    (hn : n ≤ 1099511627776) (hn' : n' ≤ 1099511627776) :
    Calls Tryz.prog 201 #[.slice a n cap, .slice a' n' cap'] w (RetSlB w (ints .u32 (dig B32 (val B32 x - val B32 y))) (decide (val B32 y ≤ val B32 x))) := by
 by_cases hlt : val B32 x < val B32 y
 · have HC := hidP (cmpI_lt hlt)
   have HD : Hid (val B32 x - val B32 y = 0 ∧ decide (val B32 y ≤ val B32 x) = false) := hidP ⟨by omega, by simpa using hlt⟩
   clear hlt
   go_enter Tryz.func201, Tryz.ntmps201
   go_wp2_with fail
   refine (nat_Cmp_any a a' n cap n' cap' x y _ hs hs' hx hy hn hn').mono ?_
   rw [HC.out]
   rintro e w1 ⟨rfl, he1⟩
   go_wp2
   go_ret2
   exact ⟨none, 0, 0, by rw [HD.out.2]; rfl, by rw [HD.out.1, dig_zero]; exact Sl.nil _, he1⟩
 have hge : val B32 y ≤ val B32 x := by omega
 have hc := cmpI_ge hge
 have HDT : Hid (decide (val B32 y ≤ val B32 x) = true) := hidP (by simpa using hge)
 have HG := hidP hge
 have hlen := hs.int_len
 have hlen' := hs'.int_len
 have hdx := fun i => dig_get hx i
 have hdy := fun i => dig_get hy i
 have hCX := canon_dig B32_two (val B32 x)
 have hYH : Ws (dig B32 (val B32 y)) := Ws.dig _
 have hvx := val_dig B32_two (val B32 x)
 have hvy := val_dig B32_two (val B32 y)
 have hkm := dig_mono B32_two hge
 have hmn := dig_val_len B32_two x hx
 have hmn' := dig_val_len B32_two y hy
 clear hlt hge
 obtain ⟨X, hX⟩ : ∃ X, X = dig B32 (val B32 x) := ⟨_, rfl⟩
 obtain ⟨Y, hY⟩ : ∃ Y, Y = dig B32 (val B32 y) := ⟨_, rfl⟩
 rw [← hX] at hdx hCX hvx hmn hkm
 rw [← hY] at hdy hYH hvy hmn' hkm
 have HX := hidP hX; have HY := hidP hY; clear hX hY
 have HDX := hidP hdx; have HDY := hidP hdy; have HVX := hidP hvx; have HVY := hidP hvy
 clear hdx hdy hvx hvy
 obtain ⟨m, hm⟩ : ∃ m, m = X.length := ⟨_, rfl⟩
 obtain ⟨k0, hk0⟩ : ∃ k0, k0 = Y.length := ⟨_, rfl⟩
 rw [← hm] at hmn hkm; rw [← hk0] at hmn' hkm
 have HM := hidP hm; have HK := hidP hk0; clear hm hk0
 have hXH : Ws X := hCX.1
 go_enter Tryz.func201, Tryz.ntmps201
 go_wp2_with fail
 refine (nat_Cmp_any a a' n cap n' cap' x y _ hs hs' hx hy hn hn').mono ?_
 generalize cmpI (val B32 x) (val B32 y) = c at *
 rintro e w0 ⟨rfl, he0⟩
 have hs0 := hs.ext he0
 have hs0' := hs'.ext he0
 go_wp2_with fail
 refine (nat_size_any a n cap x _ hs0 hx (by omega)).mono ?_
 rw [← HX.out, ← HM.out]; rintro e w' ⟨rfl, rfl⟩
 go_wp2_with fail
 refine (nat_size_any a' n' cap' y _ hs0' hy (by omega)).mono ?_
 rw [← HY.out, ← HK.out]; rintro e w' ⟨rfl, rfl⟩
 go_wp2_with (at_make; refine wpList_make0 (W := w0) (n := m) T_u32' rfl _ _ rfl rfl rfl (Ext.refl _) (by omega) (by omega) ?_; intro w1 hown he1)
 go_loopw [8, 9, 25] (fun v c i wr => ∃ (k cc : Nat) (D : List Nat), k ≤ m ∧ i = .int .i64 k ∧ c = .int .u32 (cc : Nat) ∧ wr.ownsRow w0.heap.size 98 1 v k (ints .u32 D) ∧ Ext w0 wr ∧ cc ≤ 1 ∧ D.length = k ∧ Ws D ∧ val B32 D + val B32 (Y.take k) = val B32 (X.take k) + B32 ^ k * cc) (fun _ _ i _ => m - (intOf i).toNat)
 case atStart => exact ⟨0, 0, [], by omega, rfl, rfl, hown, he1, by omega, rfl, by simp [Ws], by simp [val]⟩
 clear hown he1
 obtain ⟨k, cc, D, hk, rfl, rfl, hown, he, hcc, hDl, hD, hv⟩ := hrel
 have HV := hidP hv; clear hv
 by_cases h0 : k < m
 · obtain ⟨b, off, rfl, hc⟩ := (hs0.ext he).at_int (by omega)
   obtain ⟨hi1, hxi⟩ := HDX.out k (by have := HM.out; omega)
   have hck := hc k hi1
   rw [hxi] at hck
   clear hc hxi
   have hpb := getD_lt (B := B32) (by decide) hXH k
   have hqb := getD_lt (B := B32) (by decide) hYH k
   generalize hP : X.getD k 0 = p at *
   have HP := hidP hP; clear hP
   have hp1 : p ≤ 4294967295 := by unfold B32 at hpb; omega
   clear hpb
   by_cases h1 : k < k0
   · obtain ⟨b', off', rfl, hc'⟩ := (hs0'.ext he).at_int (by omega)
     obtain ⟨hi2, hyi⟩ := HDY.out k (by have := HK.out; omega)
     have hck' := hc' k hi2
     rw [hyi] at hck'
     clear hc' hyi
     generalize hQ : Y.getD k 0 = q at *
     have HQ := hidP hQ; clear hQ
     have hq1 : q ≤ 4294967295 := by unfold B32 at hqb; omega
     clear hqb
     go_wp2_with fail
     refine (bits_Sub32_any p q cc _ hp1 hq1 hcc).mono ?_
     rintro e w' ⟨rfl, rfl⟩
     have hrb : (4294967296 + p - q - cc) % 4294967296 < 4294967296 := Nat.mod_lt _ (by decide)
     have hrc : 1 - (4294967296 + p - q - cc) / 4294967296 ≤ 1 := by omega
     have HSS := hidP (sub_step (B := B32) (P := B32 ^ k) (x := p) (y := q) (by decide) hcc (by unfold B32; omega) HV.out)
     have HNO : Hid (¬ B32 + p < q + cc ∧ ¬ 2 * B32 ≤ B32 + p - q - cc) := hidP (by unfold B32; omega)
     have HRR : Hid (B32 = 4294967296) := hidP rfl
     generalize hr1 : (4294967296 + p - q - cc) % 4294967296 = r1 at *
     generalize hr2 : 1 - (4294967296 + p - q - cc) / 4294967296 = r2 at *
     have HR1 := hidP hr1; have HR2 := hidP hr2; clear hr1 hr2
     go_wp2_with (at_builtin; refine wpList_app1 T_u32' rfl _ _ rfl hown he _ rfl rfl rfl (by omega) (by omega) ?_; intro v' w' hown' he')
     go_roundw
     case rel =>
      refine ⟨k + 1, r2, D ++ [r1], by omega, by go_num, rfl, ?_, he', hrc, by simp [hDl], ?_, ?_⟩
      · rw [ints_append]; exact hown'
      · intro d hd
        rcases List.mem_append.1 hd with hd | hd
        · exact hD d hd
        simp at hd; subst hd; exact hrb
      have h := HSS.out
      have h2 := HNO.out
      rcases h with h | h | h
      · rw [val_take_snoc, val_take_snoc, HP.out, HQ.out, val_snoc, hDl, Nat.pow_succ, ← HR1.out, ← HR2.out]
        have h3 : val B32 D + B32 ^ k * ((4294967296 + p - q - cc) % 4294967296) + (val B32 (Y.take k) + B32 ^ k * q) = val B32 (X.take k) + B32 ^ k * p + B32 ^ k * B32 * (1 - (4294967296 + p - q - cc) / 4294967296) := h
        omega
      · exact absurd h h2.1
      exact absurd h h2.2
     case measure => simp only [intOf]; omega
   have HQ : Hid (Y.getD k 0 = 0) := hidP (by rw [List.getD_eq_getElem?_getD, List.getElem?_eq_none (by have := HK.out; omega)]; rfl)
   clear hqb
   go_wp2_with fail
   refine (bits_Sub32_any p 0 cc _ hp1 (by omega) hcc).mono ?_
   rintro e w' ⟨rfl, rfl⟩
   have hrb : (4294967296 + p - 0 - cc) % 4294967296 < 4294967296 := Nat.mod_lt _ (by decide)
   have hrc : 1 - (4294967296 + p - 0 - cc) / 4294967296 ≤ 1 := by omega
   have HSS := hidP (sub_step (B := B32) (P := B32 ^ k) (x := p) (y := 0) (by decide) hcc (by decide) HV.out)
   have HNO : Hid (¬ B32 + p < 0 + cc ∧ ¬ 2 * B32 ≤ B32 + p - 0 - cc) := hidP (by unfold B32; omega)
   generalize hr1 : (4294967296 + p - 0 - cc) % 4294967296 = r1 at *
   generalize hr2 : 1 - (4294967296 + p - 0 - cc) / 4294967296 = r2 at *
   have HR1 := hidP hr1; have HR2 := hidP hr2; clear hr1 hr2
   go_wp2_with (at_builtin; refine wpList_app1 T_u32' rfl _ _ rfl hown he _ rfl rfl rfl (by omega) (by omega) ?_; intro v' w' hown' he')
   go_roundw
   case rel =>
    refine ⟨k + 1, r2, D ++ [r1], by omega, by go_num, rfl, ?_, he', hrc, by simp [hDl], ?_, ?_⟩
    · rw [ints_append]; exact hown'
    · intro d hd
      rcases List.mem_append.1 hd with hd | hd
      · exact hD d hd
      simp at hd; subst hd; exact hrb
    have h := HSS.out
    have h2 := HNO.out
    rcases h with h | h | h
    · rw [val_take_snoc, val_take_snoc, HP.out, HQ.out, val_snoc, hDl, Nat.pow_succ, ← HR1.out, ← HR2.out]
      have h3 : val B32 D + B32 ^ k * ((4294967296 + p - 0 - cc) % 4294967296) + (val B32 (Y.take k) + B32 ^ k * 0) = val B32 (X.take k) + B32 ^ k * p + B32 ^ k * B32 * (1 - (4294967296 + p - 0 - cc) / 4294967296) := h
      omega
    · exact absurd h h2.1
    exact absurd h h2.2
   case measure => simp only [intOf]; omega
 obtain rfl : k = m := by omega
 have hv := HV.out
 rw [List.take_of_length_le (by have := HK.out; omega), List.take_of_length_le (by have := HM.out; omega), HVX.out, HVY.out] at hv
 have hc0 : val B32 D = val B32 x - val B32 y := by
  have h1 := val_lt (B := B32) (by decide) D hD
  rw [hDl] at h1
  have h2 := HG.out
  match cc, hcc with
  | 0, _ => simp only [Nat.mul_zero, Nat.add_zero] at hv; omega
  | 1, _ => simp only [Nat.mul_one] at hv; omega
 have HV2 := hidP hc0; clear hv HV hc0
 obtain ⟨a5, cap5, rfl, hsl⟩ := Sl.of_owns hown
 have hm5 := hsl.2.2.1
 have hc5 := hsl.2.1
 unfold maxLen at hm5
 have HCUT := hidP (cut_sl32 hsl hD)
 have hcl := dig_val_len B32_two D hD
 go_wp2_with fail
 refine (nat_size_any _ _ _ D _ hsl hD (by omega)).mono ?_
 generalize hk5 : (dig B32 (val B32 D)).length = k5 at *
 have HK5 := hidP hk5; clear hk5
 rintro e w' ⟨rfl, rfl⟩
 go_wp2
 go_ret2
 exact ⟨_, _, _, by rw [HDT.out]; rfl, by rw [← HV2.out]; exact HCUT.out, he0.trans he⟩
end Go.Proofs.YtgjjalnmigdjgaaGreat
namespace Go.Proofs.YtgjjalnmigdjgaaGreat
set_option linter.unusedVariables false
open Go Go.RowKit
theorem getD_zero_of_lt' {B : Nat} (hB : 0 < B) : ∀ (m : Nat) (D : List Nat), (∀ x ∈ D, x < B) → val B D < B ^ m → ∀ j, m ≤ j → D.getD j 0 = 0
  | 0, D, hD, h, j, _ => by
    rw [Nat.pow_zero] at h
    have h0 : val B D = 0 := by omega
    have key : ∀ (D : List Nat), val B D = 0 → ∀ j, D.getD j 0 = 0 := by
      intro D
      induction D with
      | nil => intro _ j; simp
      | cons x r ih =>
        intro h j
        simp only [val] at h
        have hx : x = 0 := by omega
        have hr : val B r = 0 := by
          have : B * val B r = 0 := by omega
          rcases Nat.mul_eq_zero.1 this with h | h
          · omega
          · exact h
        cases j with
        | zero => simp [hx]
        | succ j => simpa using ih hr j
    exact key D h0 j
  | m + 1, D, hD, h, 0, hj => by omega
  | m + 1, D, hD, h, j + 1, hj => by
    rw [← getD_tail]
    refine getD_zero_of_lt' hB m D.tail (fun x hx => hD x (List.mem_of_mem_tail hx)) ?_ j (by omega)
    rw [val_head B D, Nat.pow_succ, Nat.mul_comm] at h
    have : B * val B D.tail < B * B ^ m := by rw [Nat.mul_comm B (B ^ m)]; rw [Nat.mul_comm] at h; omega
    exact Nat.lt_of_mul_lt_mul_left this
theorem mul_step' {B P V V' d c x y v R : Nat} (hv : v = x * y + d + c) (hset : V' + P * d = V + P * (v % B)) (h : V + P * c = R) : V' + P * B * (v / B) = R + P * (x * y) := by
  have := Nat.div_add_mod v B
  have e : P * (v % B) + P * B * (v / B) = P * v := by rw [Nat.mul_assoc, ← Nat.mul_add, Nat.add_comm, this]
  have e2 : P * v = P * (x * y) + P * d + P * c := by rw [hv, Nat.mul_add, Nat.mul_add]
  omega
set_option maxRecDepth 100000 in
set_option maxHeartbeats 2000000 in
theorem nat_Mul_any (a a' : Option Addr) (n cap n' cap' : Nat) (x y : List Nat) (w : World) (hs : Sl w a n cap (ints .u32 x)) (hs' : Sl w a' n' cap' (ints .u32 y)) (hx : Ws x) (hy : Ws y)
    (hn : n ≤ 1099511627776) (hn' : n' ≤ 1099511627776) :
    Calls Tryz.prog 139 #[.slice a n cap, .slice a' n' cap'] w (RetSl w (ints .u32 (dig B32 (val B32 x * val B32 y)))) := by
 have hlen := hs.int_len
 have hlen' := hs'.int_len
 have hdx := fun i => dig_get hx i
 have hdy := fun i => dig_get hy i
 have hXH : Ws (dig B32 (val B32 x)) := Ws.dig _
 have hYH : Ws (dig B32 (val B32 y)) := Ws.dig _
 have hvx := val_dig B32_two (val B32 x)
 have hvy := val_dig B32_two (val B32 y)
 have hmn := dig_val_len B32_two x hx
 have hmn' := dig_val_len B32_two y hy
 obtain ⟨X, hX⟩ : ∃ X, X = dig B32 (val B32 x) := ⟨_, rfl⟩
 obtain ⟨Y, hY⟩ : ∃ Y, Y = dig B32 (val B32 y) := ⟨_, rfl⟩
 rw [← hX] at hdx hXH hvx hmn
 rw [← hY] at hdy hYH hvy hmn'
 have HX := hidP hX; have HY := hidP hY; clear hX hY
 have HDX := hidP hdx; have HDY := hidP hdy; have HVX := hidP hvx; have HVY := hidP hvy
 clear hdx hdy hvx hvy
 obtain ⟨m, hm⟩ : ∃ m, m = X.length := ⟨_, rfl⟩
 obtain ⟨k0, hk0⟩ : ∃ k0, k0 = Y.length := ⟨_, rfl⟩
 rw [← hm] at hmn; rw [← hk0] at hmn'
 have HM := hidP hm; have HK := hidP hk0; clear hm hk0
 go_enter Tryz.func139, Tryz.ntmps139
 go_wp2_with fail
 refine (nat_size_any a n cap x _ hs hx (by omega)).mono ?_
 rw [← HX.out, ← HM.out]; rintro e w' ⟨rfl, rfl⟩
 go_wp2_with fail
 refine (nat_size_any a' n' cap' y _ hs' hy (by omega)).mono ?_
 rw [← HY.out, ← HK.out]; rintro e w' ⟨rfl, rfl⟩
 by_cases hm0 : m = 0
 · subst hm0
   have HZ : Hid (val B32 x * val B32 y = 0) := hidP (by
    have : X = [] := List.eq_nil_of_length_eq_zero HM.out.symm
    rw [← HVX.out, this]; simp [val])
   go_wp2
   go_ret
   exact ⟨none, 0, 0, rfl, by rw [HZ.out, dig_zero]; exact Sl.nil _, Ext.refl _⟩
 by_cases hk00 : k0 = 0
 · subst hk00
   have HZ : Hid (val B32 x * val B32 y = 0) := hidP (by
    have : Y = [] := List.eq_nil_of_length_eq_zero HK.out.symm
    rw [← HVY.out, this]; simp [val])
   go_wp2
   go_ret
   exact ⟨none, 0, 0, rfl, by rw [HZ.out, dig_zero]; exact Sl.nil _, Ext.refl _⟩
 have hz1 : ((m : Int) == 0) = false := by simp [hm0]
 have hz2 : ((k0 : Int) == 0) = false := by simp [hk00]
 go_wp2_with (at_make; refine wpList_make (W := w) (n := m + k0) T_u32' rfl _ _ rfl rfl rfl (Ext.refl _) (by omega) (by omega) rfl ?_; intro w3 hown he3 hsz)
 have hNb : m + k0 ≤ 4398046511105 := by omega
 generalize hG : w.heap.size = g at *
 have HG := hidP hG; clear hG
 obtain ⟨N, hN⟩ : ∃ N : Nat, m + k0 = N := ⟨_, rfl⟩
 rw [hN] at hown hNb
 rw [hN]
 have HN := hidP hN
 clear hN hsz
 rw [replicate_ints] at hown
 go_loopw [27] (fun iv wr => ∃ (i : Nat) (D : List Nat), i ≤ m ∧ iv = .int .i64 i ∧ wr.ownsRow g 98 1 (.slice (some ⟨g, 0, none⟩) N N) N (ints .u32 D) ∧ Ext w wr ∧ Ws D ∧ val B32 D = val B32 (X.take i) * val B32 Y) (fun iv _ => m - (intOf iv).toNat)
 case atStart => exact ⟨0, _, by omega, rfl, hown, he3, by (intro d hd; simp at hd; rw [hd.2]; decide), by simp [val_replicate, val]⟩
 clear hown he3
 obtain ⟨i, D, hi, rfl, hown, he, hD, hv⟩ := hrel
 have HV := hidP hv; clear hv
 by_cases h0 : i < m
 · have hXIb := getD_lt (B := B32) (by decide) hXH i
   have HZ : Hid (D.getD (i + k0) 0 = 0) := hidP (by
    refine getD_zero_of_lt' (by decide) (i + k0) D hD ?_ _ (Nat.le_refl _)
    rw [HV.out, Nat.pow_add]
    have h1 := val_lt (B := B32) (by decide) (X.take i) (fun d hd => hXH d (List.mem_of_mem_take hd))
    have h2 := val_lt (B := B32) (by decide) Y hYH
    rw [List.length_take, Nat.min_eq_left (by have := HM.out; omega)] at h1
    rw [← HK.out] at h2
    exact Nat.mul_lt_mul'' h1 h2)
   generalize hP : X.getD i 0 = p at *
   have HP := hidP hP; clear hP
   have hp1 : p ≤ 4294967295 := by unfold B32 at hXIb; omega
   clear hXIb
   obtain ⟨wo, rfl⟩ : ∃ wo : World, wo = wr := ⟨_, rfl⟩
   go_wp2
   go_loopw [9, 31] (fun c kv wr => ∃ (k cc : Nat) (E : List Nat), k ≤ k0 ∧ kv = .int .i64 k ∧ c = .int .u64 cc ∧ cc ≤ 4294967295 ∧ wr.ownsRow g 98 1 (.slice (some ⟨g, 0, none⟩) N N) N (ints .u32 E) ∧ Ext w wr ∧ Ws E ∧ E.getD (i + k0) 0 = 0 ∧ val B32 E + B32 ^ (i + k) * cc = val B32 (X.take i) * val B32 Y + B32 ^ i * (p * val B32 (Y.take k))) (fun _ kv _ => k0 - (intOf kv).toNat)
   case atStart => exact ⟨0, 0, D, by omega, rfl, rfl, by omega, hown, he, hD, HZ.out, by simp [val, HV.out]⟩
   clear hown he
   obtain ⟨k, cc, E, hk, rfl, rfl, hcc, hown, he, hE, hz, hv⟩ := hrel
   have HV := hidP hv; clear hv
   have HZ := hidP hz; clear hz
   have hEl := Row.len hown
   by_cases h1 : k < k0
   · obtain ⟨b, off, rfl, hc⟩ := (hs.ext he).at_int (by omega)
     obtain ⟨hi1, hxi⟩ := HDX.out i (by have := HM.out; omega)
     have hck := hc i hi1
     rw [hxi, HP.out] at hck
     clear hc hxi
     obtain ⟨b', off', rfl, hc'⟩ := (hs'.ext he).at_int (by omega)
     obtain ⟨hi2, hyi⟩ := HDY.out k (by have := HK.out; omega)
     have hck' := hc' k hi2
     rw [hyi] at hck'
     clear hc' hyi
     have hqb := getD_lt (B := B32) (by decide) hYH k
     generalize hQ : Y.getD k 0 = q at *
     have HQ := hidP hQ; clear hQ
     have hq1 : q ≤ 4294967295 := by unfold B32 at hqb; omega
     clear hqb
     have hik : i + k < E.length := by have := HN.out; omega
     have hikN : i + k < N := by omega
     have hcE := Row.cell hown (i + k) hik
     have hfr := Row.free hown (i + k)
     have hEk := hE.at (i + k) hik
     have hst := fun v => Row.store hown (i + k) v
     have HS := fun v => val_set B32 E (i + k) v hik
     obtain ⟨mm, hm⟩ : ∃ mm : Nat, (p : Int) * (q : Int) = (mm : Int) ∧ mm = p * q := ⟨p * q, by rw [Int.natCast_mul], rfl⟩
     have hm1 := hm.1
     have HMM := hidP hm.2
     have hmb : mm ≤ 18446744065119617025 := by rw [hm.2]; exact Nat.mul_le_mul hp1 hq1
     clear hm
     generalize E[i + k] = ee at *
     have hlo : bits .and .u64 ((mm : Int) + (ee : Int) + (cc : Int)) 4294967295 = (((mm + ee + cc) % 4294967296 : Nat) : Int) := lo32 (mm + ee + cc) (by omega)
     have hrb : (mm + ee + cc) % 4294967296 < 4294967296 := Nat.mod_lt _ (by decide)
     have HST := hidP hst; have HSE := hidP HS; clear hst HS
     have HMS := hidP (mul_step' (B := B32) (P := B32 ^ (i + k)) (v := mm + ee + cc) (x := p) (y := q) (by rw [HMM.out]) (HSE.out ((mm + ee + cc) % B32)) HV.out)
     have HRR : Hid ((mm + ee + cc) % B32 = (mm + ee + cc) % 4294967296 ∧ (mm + ee + cc) / B32 = (mm + ee + cc) / 4294967296) := hidP ⟨rfl, rfl⟩
     go_wp2
     go_quiet (fail)
     go_wp2
     go_roundw
     case rel =>
      refine ⟨k + 1, (mm + ee + cc) / 4294967296, E.set (i + k) ((mm + ee + cc) % 4294967296), by omega, by go_num, rfl, by omega, HST.out ((mm + ee + cc) % 4294967296), (he.drewN _).store (by rw [HG.out]; exact Nat.le_refl _) _, set_lt hE _ _ hrb, ?_, ?_⟩
      · rw [getD_set _ _ _ _ (by omega)]; exact HZ.out
      have h9 := HMS.out
      rw [HRR.out.1, HRR.out.2] at h9
      have e : B32 ^ i * (p * (val B32 (Y.take k) + B32 ^ k * q)) = B32 ^ i * (p * val B32 (Y.take k)) + B32 ^ (i + k) * (p * q) := by
       rw [Nat.pow_add, Nat.mul_add, Nat.mul_add]
       have : p * (B32 ^ k * q) = B32 ^ k * (p * q) := by rw [← Nat.mul_assoc, ← Nat.mul_assoc, Nat.mul_comm p]
       rw [this, Nat.mul_assoc]
      rw [val_take_snoc, HQ.out, e, show i + (k + 1) = (i + k) + 1 by omega, Nat.pow_succ]
      omega
     case measure => simp only [intOf]; omega
   obtain rfl : k = k0 := by omega
   have hik : i + k < E.length := by have := HN.out; omega
   have hikN : i + k < N := by omega
   have hcE := Row.cell hown (i + k) hik
   have hfr := Row.free hown (i + k)
   have hst := fun v => Row.store hown (i + k) v
   have HS := fun v => val_set B32 E (i + k) v hik
   have hE0 : E[i + k] = 0 := by have := HZ.out; rw [List.getD_eq_getElem?_getD] at this; simpa [hik] using this
   rw [hE0] at hcE HS
   have HST := hidP hst; have HSE := hidP HS; clear hst HS hE0
   go_wp2
   go_roundw
   case rel =>
    refine ⟨i + 1, E.set (i + k) cc, by omega, by go_num, ?_, he.store (by rw [HG.out]; exact Nat.le_refl _) _, set_lt hE _ _ (by unfold B32; omega), ?_⟩
    · have := HST.out cc; simpa using this
    have h1 := HSE.out cc
    have h2 := HV.out
    rw [List.take_of_length_le (by have := HK.out; omega : Y.length ≤ k)] at h2
    rw [val_take_snoc, HP.out, Nat.add_mul, Nat.mul_assoc]
    omega
   case measure => simp only [intOf]; omega
 obtain rfl : i = m := by omega
 have hv := HV.out
 rw [List.take_of_length_le (by have := HM.out; omega), HVX.out, HVY.out] at hv
 have HV2 := hidP hv
 clear hv
 have hsl := Sl.of_owns' hown
 have HCUT := hidP (cut_sl32 hsl hD)
 have hcl := dig_val_len B32_two D hD
 have hDl := Row.len hown
 go_wp2_with fail
 refine (nat_size_any _ _ _ D _ hsl hD (by omega)).mono ?_
 generalize hk5 : (dig B32 (val B32 D)).length = k5 at *
 have HK5 := hidP hk5; clear hk5
 rintro e w' ⟨rfl, rfl⟩
 go_wp2
 go_ret
 exact ⟨_, _, _, rfl, by rw [← HV2.out]; exact HCUT.out, he⟩
end Go.Proofs.YtgjjalnmigdjgaaGreat
namespace Go.Proofs.YtgjjalnmigdjgaaGreat
set_option linter.unusedVariables false
open Go Go.RowKit
theorem val_drop_cons (B : Nat) (X : List Nat) (i : Nat) (h : i < X.length) : val B (X.drop i) = X.getD i 0 + B * val B (X.drop (i + 1)) := by
  rw [List.drop_eq_getElem_cons h, val, List.getD_eq_getElem?_getD]
  simp [h]
/-- A block of values of a type. -/
def BlkT (w : World) (g : Nat) (e : TypeId) : Prop := ∃ cur fr, w.heap[g]? = some (.cells cur e fr)
theorem BlkT.of_row {w : World} {B e g n cap m : Nat} {xs : List Value} (h : w.ownsRow B e 1 (.slice (some ⟨g, 0, none⟩) n cap) m xs) : BlkT w g e := by
  rcases h.2 with ⟨hbad, _⟩ | ⟨g', cap', cur, hv, hg, hh, _⟩
  · cases hbad
  · simp only [Value.slice.injEq, Option.some.injEq, Addr.mk.injEq, and_true] at hv
    obtain ⟨rfl, _⟩ := hv
    exact ⟨_, _, hh⟩
/-- The quotient's words and the rest. -/
def RetSmall (w : World) (x by_ : Nat) (e : Ending) (w' : World) : Prop :=
  ∃ g n cap, e = .returned (.tuple #[.slice (some ⟨g, 0, none⟩) n cap, .int .u32 (x % by_ : Nat)]) ∧ Sl w' (some ⟨g, 0, none⟩) n cap (ints .u32 (dig B32 (x / by_))) ∧ Ext w w' ∧ BlkT w' g 98
set_option maxHeartbeats 2000000 in
theorem nat_small_any (a : Option Addr) (n cap : Nat) (x : List Nat) (by_ : Nat) (w : World) (hs : Sl w a n cap (ints .u32 x)) (hx : Ws x) (hn : n ≤ 4398046511105) (hb1 : 1 ≤ by_) (hb2 : by_ ≤ 4294967295) :
    Calls Tryz.prog 218 #[.slice a n cap, .int .u32 by_] w (RetSmall w (val B32 x) by_) := by
 have hlen := hs.int_len
 have hdx := fun i => dig_get hx i
 have hXH : Ws (dig B32 (val B32 x)) := Ws.dig _
 have hvx := val_dig B32_two (val B32 x)
 have hmn := dig_val_len B32_two x hx
 obtain ⟨X, hX⟩ : ∃ X, X = dig B32 (val B32 x) := ⟨_, rfl⟩
 rw [← hX] at hdx hXH hvx hmn
 have HX := hidP hX; clear hX
 have HDX := hidP hdx; have HVX := hidP hvx
 clear hdx hvx
 obtain ⟨m, hm⟩ : ∃ m, m = X.length := ⟨_, rfl⟩
 rw [← hm] at hmn
 have HM := hidP hm; clear hm
 go_enter Tryz.func218, Tryz.ntmps218
 go_wp2_with fail
 refine (nat_size_any a n cap x _ hs hx (by omega)).mono ?_
 rw [← HX.out, ← HM.out]; rintro e w' ⟨rfl, rfl⟩
 go_wp2_with (at_make; refine wpList_make (W := w) (n := m) T_u32' rfl _ _ rfl rfl rfl (Ext.refl _) (by omega) (by omega) rfl ?_; intro w3 hown he3 hsz)
 generalize hG : w.heap.size = g at *
 have HG := hidP hG; clear hG
 rw [replicate_ints] at hown
 clear hsz
 go_loopw [7, 8] (fun rv iv wr => ∃ (k r : Nat) (D : List Nat), k ≤ m ∧ iv = .int .i64 ((k : Int) - 1) ∧ rv = .int .u64 r ∧ r < by_ ∧ wr.ownsRow g 98 1 (.slice (some ⟨g, 0, none⟩) m m) m (ints .u32 D) ∧ Ext w wr ∧ Ws D ∧ val B32 (X.drop k) = val B32 (D.drop k) * by_ + r ∧ D.length = m) (fun _ iv _ => (intOf iv + 1).toNat)
 case atStart => exact ⟨m, 0, _, by omega, by go_num, rfl, by omega, hown, he3, by (intro d hd; simp at hd; rw [hd.2]; decide), by rw [List.drop_of_length_le (by rw [← HM.out]; omega), List.drop_of_length_le (by simp)]; simp [val], by simp⟩
 clear hown he3
 obtain ⟨k, r, D, hk, rfl, rfl, hr, hown, he, hD, hv, hDl⟩ := hrel
 have HV := hidP hv; clear hv
 by_cases h0 : 0 < k
 · obtain ⟨i, rfl⟩ : ∃ i, k = i + 1 := ⟨k - 1, by omega⟩
   have e1 : ((i + 1 : Nat) : Int) - 1 = (i : Int) := by omega
   rw [e1]
   clear e1
   obtain ⟨b, off, rfl, hc⟩ := (hs.ext he).at_int (by omega)
   obtain ⟨hi1, hxi⟩ := HDX.out i (by have := HM.out; omega)
   have hck := hc i hi1
   rw [hxi] at hck
   clear hc hxi
   have hpb := getD_lt (B := B32) (by decide) hXH i
   generalize hP : X.getD i 0 = p at *
   have HP := hidP hP; clear hP
   have hp1 : p ≤ 4294967295 := by unfold B32 at hpb; omega
   clear hpb
   have hr1 : r ≤ 4294967295 := by omega
   have him : i < m := by omega
   have hor := or32 r p hr1 hp1
   have hik : i < D.length := by omega
   have hcD := Row.cell hown i hik
   have hfr := Row.free hown i
   have hst := fun v => Row.store hown i v
   have hdd : Hid (∀ v, val B32 ((D.set i v).drop i) = v + B32 * val B32 (D.drop (i + 1))) := hidP (by
    intro v
    have e1 : (D.set i v).getD i 0 = v := by rw [List.getD_eq_getElem?_getD, List.getElem?_set_self hik]; rfl
    have e2 : (D.set i v).drop (i + 1) = D.drop (i + 1) := by rw [List.drop_set, if_pos (by omega)]
    rw [val_drop_cons B32 _ i (by simpa using hik), e1, e2])
   have HST := hidP hst; clear hst
   obtain ⟨V, hV⟩ : ∃ V, V = r * 4294967296 + p := ⟨_, rfl⟩
   have hVb : V ≤ 18446744073709551615 := by omega
   have hVq : V / by_ ≤ 4294967295 := by
    have h1 : V < 4294967296 * by_ := by
     have h2 : (r + 1) * 4294967296 ≤ by_ * 4294967296 := Nat.mul_le_mul_right _ hr
     omega
    have h3 : V / by_ < 4294967296 := (Nat.div_lt_iff_lt_mul (by omega)).2 h1
    exact Nat.le_of_lt_succ h3
   have hVr : V % by_ < by_ := Nat.mod_lt _ (by omega)
   rw [← hV] at hor
   have HVV := hidP hV; clear hV
   have hw1 : IntKind.u64.wrap ((V : Int) / (by_ : Int)) = ((V / by_ : Nat) : Int) := by
    rw [← Int.natCast_ediv]
    generalize V / by_ = q at *
    exact IntWalk.u64_in _ (by omega)
   have hw2 : (V : Int).tmod (by_ : Int) = ((V % by_ : Nat) : Int) := by rw [IntWalk.rem_in _ _ (by omega)]; rfl
   have hbz : ¬ by_ = 0 := by omega
   have hDM : Hid (V = by_ * (V / by_) + V % by_) := hidP (Nat.div_add_mod V by_).symm
   generalize hq : V / by_ = q at *
   generalize hrr : V % by_ = rr at *
   clear hq hrr
   have hrr1 : rr ≤ 4294967295 := by omega
   go_wp2_with fail
   refine wp_region_plan (R := fun _ _ => True) (.q 0 (.q 1 (.q 2 (.q 3 (.q 4 (.q 5 (.q 6 (.q 7 (.q 8 (.q 9 (.q 10 (.q 11 (.l 12 (.q 13 .done)))))))))))))) (by kernel_rfl) (by kernel_rfl) (by kernel_rfl) (by kernel_rfl) (fun _ => trivial) (fun _ _ _ _ _ => trivial) ?_
   repeat (refine wpE_q (v := ?_) rfl rfl (fun u hu => ?_) ?_; rotate_left 1; (focus (go_simp; (try go_bits); (try rfl))); simp only [PU])
   refine wpE_l rfl rfl (fun K hK => ?_)
   go_simp
   refine hK.out _ _ trivial ?_
   clear hK K
   try simp only [PU]
   repeat (refine wpE_q (v := ?_) rfl rfl (fun u hu => ?_) ?_; rotate_left 1; (focus (go_simp; (try go_bits); (try rfl))); simp only [PU])
   refine wpE_done ?_
   go_wp2
   go_roundw
   case rel =>
    refine ⟨i, rr, D.set i q, by omega, rfl, rfl, hVr, HST.out q, he.drew.store (by rw [HG.out]; exact Nat.le_refl _) _, set_lt hD _ _ (by unfold B32; omega), ?_, by simpa using hDl⟩
    have h1 := HV.out
    rw [val_drop_cons B32 X i (by have := HM.out; omega), HP.out, h1, hdd.out]
    have h2 := hDM.out
    have h3 := HVV.out
    have e : (q + B32 * val B32 (D.drop (i + 1))) * by_ = by_ * q + B32 * (val B32 (D.drop (i + 1)) * by_) := by rw [Nat.add_mul, Nat.mul_comm q, Nat.mul_assoc]
    rw [e, Nat.mul_add]
    unfold B32 at *
    omega
   case measure => simp [intOf]
 obtain rfl : k = 0 := by omega
 have h1 := HV.out
 simp only [List.drop_zero] at h1
 rw [HVX.out] at h1
 have HQV : Hid (val B32 x / by_ = val B32 D) := hidP (by
  rw [h1, Nat.mul_comm, Nat.mul_add_div (by omega), Nat.div_eq_of_lt hr, Nat.add_zero])
 have HRV : Hid (val B32 x % by_ = r) := hidP (by
  rw [h1, Nat.mul_comm, Nat.mul_add_mod, Nat.mod_eq_of_lt hr])
 clear h1
 have hsl := Sl.of_owns' hown
 have HCUT := hidP (cut_sl32 hsl hD)
 have HBT := hidP (BlkT.of_row hown)
 have hcl := dig_val_len B32_two D hD
 go_wp2_with fail
 refine (nat_size_any _ _ _ D _ hsl hD (by omega)).mono ?_
 generalize hk5 : (dig B32 (val B32 D)).length = k5 at *
 have HK5 := hidP hk5; clear hk5
 rintro e w' ⟨rfl, rfl⟩
 go_wp2
 go_ret2
 exact ⟨_, _, _, by rw [HRV.out]; rfl, by rw [HQV.out]; exact HCUT.out, he, HBT.out⟩
end Go.Proofs.YtgjjalnmigdjgaaGreat
namespace Go.Proofs.YtgjjalnmigdjgaaGreat
set_option linter.unusedVariables false
open Go Go.RowKit
/-- 'make([]T, l, c)'. -/
theorem wpList_make2 {P : Program} {ops : Array Oper} {rest : List Oper} {o : Oper} {a : Act} {Q : Exit → Act → World → Prop} {W w : World} {t e : TypeId} {z : Value} {bytes : Nat} (hT : SlT P t e z bytes)
    (hgd : o.guard = none) (x y : Operand) (ho : o.op = .makeSlice t x y) {kl kc : IntKind} {l n : Nat} (hx : a.eval x = .int kl (l : Int)) (hy : a.eval y = .int kc (n : Int)) (he : Ext W w) (hln : l ≤ n) (hn : n ≤ 17592186044416) (hb' : bytes ≤ 8) (hzc : z.cells = #[z])
    (h : ∀ w', w'.ownsRow W.heap.size e 1 (.slice (some ⟨w.heap.size, 0, none⟩) l n) l (List.replicate l z) → Ext W w' → w'.heap.size = w.heap.size + 1 → wpList P ops Q rest (a.put o.dst (.slice (some ⟨w.heap.size, 0, none⟩) l n)) w') :
    wpList P ops Q (o :: rest) a w := by
  obtain ⟨ht, i, hi, hz, hsz, hby, hzs⟩ := hT
  refine wpList_plain hgd fun K hK => ?_
  have hr := run_make (P := P) w t e i z ht hi hz kl kc l n (by omega) (by omega) (by
    have h1 : bytes * n ≤ 281474976710656 := Nat.le_trans (Nat.mul_le_mul hb' hn) (by decide)
    have h2 : ((i.bytes * n : Nat) : Int) ≤ 281474976710656 := by rw [hby]; omega
    rwa [Int.natCast_mul] at h2) (by omega)
  simp only [Int.toNat_natCast] at hr
  unfold Oper.wp execOp
  simp only [ho, hx, hy, Sem.run_bind, Sem.run_pure, hr, Result.andThen_ok]
  refine hK _ _ (h _ ?_ (he.alloc _) (by simp))
  rw [hsz]
  have hl : (madeCells z.cells (n * 1)).toList = List.replicate n z := by
    rw [Nat.mul_one, hzc, toList_madeCells_one]
  refine ⟨by simp, .inr ⟨w.heap.size, n, madeCells z.cells (n * 1), rfl, he.size, by show (w.heap.push _)[w.heap.size]? = _; simp, hln, by unfold maxLen; omega, by simp [madeCells], ?_⟩⟩
  rw [hl, Nat.mul_one, List.take_replicate, Nat.min_eq_left hln]
theorem orsh (p m c : Nat) (hp : p ≤ 4294967295) (hm : m ≤ 31) (hc : c < 2 ^ m) : bits .or .u64 (IntKind.u64.wrap ((p : Int) * 2 ^ m)) (c : Int) = ((p * 2 ^ m + c : Nat) : Int) := by
  have hM : 2 ^ m ≤ 2 ^ 31 := Nat.pow_le_pow_right (by decide) hm
  have hpm : p * 2 ^ m ≤ 4294967295 * 2 ^ 31 := Nat.mul_le_mul hp hM
  have e : (p : Int) * 2 ^ m = ((p * 2 ^ m : Nat) : Int) := by rw [Int.natCast_mul, Int.natCast_pow]; rfl
  rw [e, IntWalk.u64_in _ (by omega)]
  have h1 := u64_or_nat (p * 2 ^ m) c (by omega) (by omega)
  have h2 : p * 2 ^ m ||| c = p * 2 ^ m + c := by
    have := Nat.shiftLeft_add_eq_or_of_lt (i := m) (b := c) hc p
    rw [Nat.shiftLeft_eq] at this
    exact this.symm
  rw [h2] at h1
  exact h1
theorem shl_hi {p m c : Nat} (hp : p ≤ 4294967295) (hm : m ≤ 31) (hc : c < 2 ^ m) : (p * 2 ^ m + c) / 4294967296 < 2 ^ m ∧ p * 2 ^ m + c ≤ 18446744073709551615 := by
  have hM : 2 ^ m ≤ 2 ^ 31 := Nat.pow_le_pow_right (by decide) hm
  have h1 : p * 2 ^ m + c < 4294967296 * 2 ^ m := by
    have : (p + 1) * 2 ^ m ≤ 4294967296 * 2 ^ m := Nat.mul_le_mul_right _ (by omega)
    rw [Nat.add_mul] at this; omega
  refine ⟨(Nat.div_lt_iff_lt_mul (by decide)).2 (by omega), ?_⟩
  have : 4294967296 * 2 ^ m ≤ 4294967296 * 2 ^ 31 := Nat.mul_le_mul_left _ hM
  omega
set_option maxRecDepth 100000 in
set_option maxHeartbeats 1000000 in
theorem nat_left_any (a : Option Addr) (n cap : Nat) (x : List Nat) (ws more : Nat) (w : World) (hs : Sl w a n cap (ints .u32 x)) (hx : Ws x) (hn : n ≤ 2199023255552) (hw : ws ≤ 1048576) (hm : more ≤ 31) :
    Calls Tryz.prog 171 #[.slice a n cap, .int .i64 ws, .int .i64 more] w (RetSl w (ints .u32 (dig B32 (val B32 x * 2 ^ (32 * ws + more))))) := by
 have hlen := hs.int_len
 go_enter Tryz.func171, Tryz.ntmps171
 go_wp2_with (at_make; refine wpList_make2 (W := w) (l := ws) (n := ws + n + 1) T_u32' rfl _ _ rfl rfl rfl (Ext.refl _) (by omega) (by omega) (by omega) rfl ?_; intro w1 hown he1 hsz)
 rw [replicate_ints] at hown
 clear hsz
 have hd0 : Ws (List.replicate ws 0) := by intro d hd; simp at hd; rw [hd.2]; decide
 have HD0 : Hid (val B32 (List.replicate ws 0) + B32 ^ (ws + 0) * 0 = B32 ^ ws * (val B32 (x.take 0) * 2 ^ more)) := hidP (by simp [val_replicate, val])
 have HL0 : Hid ((List.replicate ws 0).length = ws + 0) := hidP (by simp)
 generalize List.replicate ws 0 = d0 at *
 go_loopw [7, 8, 21] (fun v c i wr => ∃ (k cc : Nat) (D : List Nat), k ≤ n ∧ i = .int .i64 k ∧ c = .int .u64 (cc : Nat) ∧ wr.ownsRow w.heap.size 98 1 v (ws + k) (ints .u32 D) ∧ Ext w wr ∧ cc < 2 ^ more ∧ D.length = ws + k ∧ Ws D ∧ val B32 D + B32 ^ (ws + k) * cc = B32 ^ ws * (val B32 (x.take k) * 2 ^ more)) (fun _ _ i _ => n - (intOf i).toNat)
 case atStart => exact ⟨0, 0, d0, by omega, rfl, rfl, hown, he1, Nat.two_pow_pos _, HL0.out, hd0, HD0.out⟩
 clear hown he1 hd0 HD0 HL0
 obtain ⟨k, cc, D, hk, rfl, rfl, hown, he, hcc, hDl, hD, hv⟩ := hrel
 have HV := hidP hv; clear hv
 have HDL := hidP hDl; clear hDl
 by_cases h0 : k < n
 · obtain ⟨b, off, rfl, hc⟩ := (hs.ext he).at_int (by omega)
   have hck := hc k (by omega)
   have hp1 := hx.at k (by omega)
   clear hc
   obtain ⟨p, hP⟩ : ∃ p, p = x[k]'(by omega) := ⟨_, rfl⟩
   rw [← hP] at hck hp1
   have HP : Hid (x.getD k 0 = p) := hidP (by rw [hP, List.getD_eq_getElem?_getD]; simp [show k < x.length by omega])
   clear hP
   have hor := orsh p more cc (by omega) hm hcc
   have hhi := (shl_hi (by omega) hm hcc : (p * 2 ^ more + cc) / 4294967296 < 2 ^ more ∧ _)
   have hlo := lo32 (p * 2 ^ more + cc) hhi.2
   generalize hV : p * 2 ^ more + cc = V at hor hhi hlo
   have hVhi := hhi.1
   have hVb := hhi.2
   have HVE := hidP hV
   clear hhi hV
   have hrb : V % 4294967296 < 4294967296 := Nat.mod_lt _ (by decide)
   go_wp2_with (at_builtin; refine wpList_app1 T_u32' rfl _ _ rfl hown he _ rfl rfl rfl (by omega) (by omega) ?_; intro v' w' hown' he')
   go_roundw
   case rel =>
    refine ⟨k + 1, V / 4294967296, D ++ [V % 4294967296], by omega, by go_num, rfl, ?_, he', hVhi, by have := HDL.out; simp; omega, ?_, ?_⟩
    · rw [ints_append]; exact hown'
    · intro d hd
      rcases List.mem_append.1 hd with hd | hd
      · exact hD d hd
      simp at hd; subst hd; exact hrb
    have h9 := HV.out
    rw [val_take_snoc, val_snoc, HP.out, HDL.out, show ws + (k + 1) = (ws + k) + 1 by omega, Nat.pow_succ]
    have h3 := shl_step (B := B32) (P := B32 ^ (ws + k)) (M := 2 ^ more) (x := p) (c := cc) (v := V) (X := B32 ^ ws * val B32 (x.take k)) (E := val B32 D) HVE.out.symm (by rw [h9, Nat.mul_assoc])
    have e : (B32 ^ ws * val B32 (x.take k) + B32 ^ (ws + k) * p) * 2 ^ more = B32 ^ ws * ((val B32 (x.take k) + B32 ^ k * p) * 2 ^ more) := by
     rw [Nat.pow_add, Nat.mul_assoc (B32 ^ ws) (B32 ^ k) p, ← Nat.mul_add, Nat.mul_assoc]
    rw [e] at h3
    exact h3
   case measure => simp only [intOf]; omega
 obtain rfl : k = n := by omega
 have hv := HV.out
 rw [List.take_of_length_le (by omega)] at hv
 have HVE : Hid (val B32 (D ++ [cc]) = val B32 x * 2 ^ (32 * ws + more)) := hidP (by
  rw [val_snoc, HDL.out, hv, Nat.pow_add 2, Nat.pow_mul, show (2 : Nat) ^ 32 = B32 from rfl, Nat.mul_left_comm])
 have hM : 2 ^ more ≤ 2 ^ 31 := Nat.pow_le_pow_right (by decide) hm
 have hccb : cc ≤ 2147483648 := by omega
 clear hv HV hcc hM
 have hmod : cc % 4294967296 = cc := Nat.mod_eq_of_lt (by omega)
 have hD2 : Ws (D ++ [cc]) := by
  intro d hd
  rcases List.mem_append.1 hd with hd | hd
  · exact hD d hd
  simp at hd; subst hd; unfold B32; omega
 go_wp2_with (at_builtin; refine wpList_app1 T_u32' rfl _ _ rfl hown he _ rfl rfl rfl (by omega) (by omega) ?_; intro v' w' hown' he')
 have hown2 : w'.ownsRow w.heap.size 98 1 v' (ws + k + 1) (ints .u32 (D ++ [cc])) := by rw [ints_append]; exact hown'
 clear hown'
 obtain ⟨a5, cap5, rfl, hsl⟩ := Sl.of_owns hown2
 have hm5 := hsl.2.2.1
 have hc5 := hsl.2.1
 unfold maxLen at hm5
 have HCUT := hidP (cut_sl32 hsl hD2)
 have hcl := dig_val_len B32_two (D ++ [cc]) hD2
 have hcl2 : (D ++ [cc]).length = ws + k + 1 := hsl.int_len
 rw [hcl2] at hcl
 generalize hk5 : (dig B32 (val B32 (D ++ [cc]))).length = k5 at *
 have HK5 := hidP hk5; clear hk5 hcl2
 go_wp2_with fail
 refine (nat_size_any _ _ _ (D ++ [cc]) _ hsl hD2 (by omega)).mono ?_
 rw [HK5.out]
 rintro e w'' ⟨rfl, rfl⟩
 go_wp2
 go_ret
 exact ⟨_, _, _, rfl, by rw [← HVE.out]; exact HCUT.out, he'⟩
end Go.Proofs.YtgjjalnmigdjgaaGreat
namespace Go.Proofs.YtgjjalnmigdjgaaGreat
set_option linter.unusedVariables false
open Go Go.RowKit
theorem shl32_out {V : Nat} {k : Int} (h : k > 4096 ∨ k < -4096) : shl32 V k = [] := by unfold shl32; rw [if_pos h]
theorem shl32_zero (k : Int) : shl32 0 k = [] := by unfold shl32; split <;> (try split) <;> simp [dig_zero]
theorem shl32_up {V m : Nat} (h : m ≤ 4096) : shl32 V (m : Int) = dig B32 (V * 2 ^ m) := by unfold shl32; rw [if_neg (by omega), if_pos (by omega), Int.toNat_natCast]
theorem shl32_down {V m : Nat} (h : m ≤ 4096) : shl32 V (-(m : Int)) = dig B32 (V / 2 ^ m) := by
  unfold shl32
  rw [if_neg (by omega)]
  by_cases h0 : m = 0
  · subst h0; simp
  · rw [if_neg (by omega), show (- -(m : Int)).toNat = m by omega]
theorem or_hi (p q : Nat) (hp : p ≤ 4294967295) (hq : q ≤ 4294967295) : bits .or .u64 (p : Int) ((q : Int) * 4294967296) = ((p + 4294967296 * q : Nat) : Int) := by
  have h1 := u64_or_nat p (q * 4294967296) (by omega) (by omega)
  have h2 : p ||| q * 4294967296 = p + 4294967296 * q := by
    have := Nat.shiftLeft_add_eq_or_of_lt (i := 32) (b := p) (by omega) q
    rw [Nat.shiftLeft_eq] at this
    rw [Nat.or_comm, ← this]; omega
  rw [h2] at h1
  exact h1
theorem lo_shr (p q less : Nat) (hp : p ≤ 4294967295) (hq : q ≤ 4294967295) : bits .and .u64 (((p : Int) + 4294967296 * (q : Int)) / 2 ^ less) 4294967295 = (((p + 4294967296 * q) / 2 ^ less % 4294967296 : Nat) : Int) := by
  have e : ((p : Int) + 4294967296 * (q : Int)) / 2 ^ less = (((p + 4294967296 * q) / 2 ^ less : Nat) : Int) := by
    rw [Int.natCast_ediv, Int.natCast_add, Int.natCast_mul, Int.natCast_pow]; rfl
  rw [e]
  exact lo32 _ (Nat.le_trans (Nat.div_le_self _ _) (by omega))
theorem lo_shr1 (p less : Nat) (hp : p ≤ 4294967295) : bits .and .u64 ((p : Int) / 2 ^ less) 4294967295 = (((p + 4294967296 * 0) / 2 ^ less % 4294967296 : Nat) : Int) := by
  have e : (p : Int) / 2 ^ less = (((p + 4294967296 * 0) / 2 ^ less : Nat) : Int) := by
    rw [Int.natCast_ediv, Int.natCast_pow]; rfl
  rw [e]
  exact lo32 _ (Nat.le_trans (Nat.div_le_self _ _) (by omega))
set_option maxRecDepth 100000 in
set_option maxHeartbeats 2000000 in
theorem nat_Shift_down (a : Option Addr) (n cap : Nat) (x : List Nat) (m : Nat) (w : World) (hs : Sl w a n cap (ints .u32 x)) (hx : Ws x) (hn : n ≤ 2199023255552) (hm1 : 1 ≤ m) (hm : m ≤ 4096) (hne : (dig B32 (val B32 x)).length ≠ 0) (hge : m / 32 < (dig B32 (val B32 x)).length) :
    Calls Tryz.prog 131 #[.slice a n cap, .int .i64 (-(m : Int))] w (RetSl w (ints .u32 (dig B32 (val B32 x / 2 ^ m)))) := by
 have hlen := hs.int_len
 have hmn := dig_val_len B32_two x hx
 have HCUT := hidP (cut_sl32 hs hx)
 have hXH : Ws (dig B32 (val B32 x)) := Ws.dig _
 have HVX := hidP (val_dig B32_two (val B32 x))
 obtain ⟨X, hX⟩ : ∃ X, X = dig B32 (val B32 x) := ⟨_, rfl⟩
 rw [← hX] at hmn HCUT hXH HVX hne hge
 have HX := hidP hX; clear hX
 obtain ⟨L, hL⟩ : ∃ L, L = X.length := ⟨_, rfl⟩
 rw [← hL] at hmn hne hge HCUT
 have HL := hidP hL; clear hL
 have hz : ((L : Int) == 0) = false := by simp [hne]
 obtain ⟨ws, hws⟩ : ∃ ws, ws = m / 32 := ⟨_, rfl⟩
 obtain ⟨less, hless⟩ : ∃ less, less = m % 32 := ⟨_, rfl⟩
 have hmw : 32 * ws + less = m := by omega
 have hl32 : less ≤ 31 := by omega
 have hd1 : (m : Int) / 32 = (ws : Int) := by omega
 have hd2 : (m : Int) % 32 = (less : Int) := by omega
 rw [← hws] at hge
 have HMW := hidP hmw
 clear hws hless hmw
 have hcap : L ≤ cap := by have := hs.2.1; omega
 have hb1 : decide ((4096 : Int) < -(m : Int)) = false := decide_eq_false (by omega)
 have hb2 : decide ((4096 : Int) < (m : Int)) = false := decide_eq_false (by omega)
 have hb3 : decide (m = 0) = false := decide_eq_false (by omega)
 have hb4 : decide (L ≤ ws) = false := decide_eq_false (by omega)
 go_enter Tryz.func131, Tryz.ntmps131
 go_wp2_with fail
 refine (nat_size_any a n cap x _ hs hx (by omega)).mono ?_
 rw [← HX.out, ← HL.out]; rintro e w' ⟨rfl, rfl⟩
 go_wp2_with (at_make; refine wpList_make0 (W := w) (n := L - ws) T_u32' rfl _ _ rfl rfl (show Value.int IntKind.i64 ((L : Int) - (ws : Int)) = Value.int IntKind.i64 ((L - ws : Nat) : Int) from congrArg _ (by omega)) (Ext.refl _) (by omega) (by omega) ?_; intro w1 hown he1)
 go_loopw [7, 8] (fun v iv wr => ∃ (j : Nat) (D : List Nat), ws + j ≤ L ∧ iv = .int .i64 ((ws : Int) + (j : Int)) ∧ wr.ownsRow w.heap.size 98 1 v j (ints .u32 D) ∧ Ext w wr ∧ D.length = j ∧ Ws D ∧ val B32 D = val B32 (X.drop ws) / 2 ^ less % B32 ^ j) (fun _ iv _ => L - (intOf iv).toNat)
 case atStart => exact ⟨0, [], by omega, by go_num, hown, he1, rfl, by simp [Ws], by simp [val, Nat.mod_one]⟩
 clear hown he1
 obtain ⟨j, D, hj, rfl, hown, he, hDl, hD, hv⟩ := hrel
 have HV := hidP hv; clear hv
 have HDL := hidP hDl; clear hDl
 by_cases h0 : ws + j < L
 · obtain ⟨b, off, rfl, hc⟩ := (HCUT.out.ext he).at_int (by omega)
   have hck := hc (ws + j) (by have := HL.out; omega)
   obtain ⟨p, hP⟩ : ∃ p, p = X[ws + j]'(by have := HL.out; omega) := ⟨_, rfl⟩
   have hp1 := hXH.at (ws + j) (by have := HL.out; omega)
   rw [← hP] at hck hp1
   have HP : Hid (X.getD (ws + j) 0 = p) := hidP (by rw [hP, List.getD_eq_getElem?_getD]; simp [show ws + j < X.length by have := HL.out; omega])
   clear hP
   by_cases h1 : ws + j + 1 < L
   · have hck' := hc (ws + j + 1) (by have := HL.out; omega)
     obtain ⟨q, hQ⟩ : ∃ q, q = X[ws + j + 1]'(by have := HL.out; omega) := ⟨_, rfl⟩
     have hq1 := hXH.at (ws + j + 1) (by have := HL.out; omega)
     rw [← hQ] at hck' hq1
     have HQ : Hid (X.getD (ws + j + 1) 0 = q) := hidP (by rw [hQ, List.getD_eq_getElem?_getD]; simp [show ws + j + 1 < X.length by have := HL.out; omega])
     clear hQ hc
     have hor := or_hi p q (by omega) (by omega)
     have hlo := lo_shr p q less (by omega) (by omega)
     have hdb : (p + 4294967296 * q) / 2 ^ less % 4294967296 < 4294967296 := Nat.mod_lt _ (by decide)
     obtain ⟨d, hdd⟩ : ∃ d, d = (p + 4294967296 * q) / 2 ^ less % 4294967296 := ⟨_, rfl⟩
     rw [← hdd] at hlo hdb
     have HDD := hidP hdd.symm
     clear hdd
     go_wp2_with (at_builtin; refine wpList_app1 T_u32' rfl _ _ rfl hown he _ rfl rfl rfl (by omega) (by omega) ?_; intro v' w' hown' he')
     go_roundw
     case rel =>
      refine ⟨j + 1, D ++ [d], by omega, by go_num, ?_, he', by have := HDL.out; simp; omega, ?_, ?_⟩
      · rw [ints_append]; exact hown'
      · intro y hy
        rcases List.mem_append.1 hy with hy | hy
        · exact hD y hy
        simp at hy; subst hy; exact hdb
      have hXd : ∀ y ∈ X.drop ws, y < 4294967296 := fun y hy => hXH y (List.mem_of_mem_drop hy)
      have h := shr_step (l := X.drop ws) (k := 0) (j := j) (less := less) (by omega) hXd (by rw [List.length_drop]; have := HL.out; omega) HV.out
      have g0 : (X.drop ws).getD j 0 = X.getD (ws + j) 0 := by simp [List.getD_eq_getElem?_getD]
      have g1 : (X.drop ws).getD (j + 1) 0 = X.getD (ws + j + 1) 0 := by simp [List.getD_eq_getElem?_getD, Nat.add_assoc]
      rw [g0, g1, HP.out, HQ.out, HDD.out] at h
      rw [val_snoc, HDL.out]
      exact h
     case measure => simp only [intOf]; omega
   have HQ : Hid (X.getD (ws + j + 1) 0 = 0) := hidP (by rw [List.getD_eq_getElem?_getD, List.getElem?_eq_none (by have := HL.out; omega)]; rfl)
   clear hc
   have hlo := lo_shr1 p less (by omega)
   have hdb : (p + 4294967296 * 0) / 2 ^ less % 4294967296 < 4294967296 := Nat.mod_lt _ (by decide)
   obtain ⟨d, hdd⟩ : ∃ d, d = (p + 4294967296 * 0) / 2 ^ less % 4294967296 := ⟨_, rfl⟩
   rw [← hdd] at hlo hdb
   have HDD := hidP hdd.symm
   clear hdd
   go_wp2_with (at_builtin; refine wpList_app1 T_u32' rfl _ _ rfl hown he _ rfl rfl rfl (by omega) (by omega) ?_; intro v' w' hown' he')
   go_roundw
   case rel =>
    refine ⟨j + 1, D ++ [d], by omega, by go_num, ?_, he', by have := HDL.out; simp; omega, ?_, ?_⟩
    · rw [ints_append]; exact hown'
    · intro y hy
      rcases List.mem_append.1 hy with hy | hy
      · exact hD y hy
      simp at hy; subst hy; exact hdb
    have hXd : ∀ y ∈ X.drop ws, y < 4294967296 := fun y hy => hXH y (List.mem_of_mem_drop hy)
    have h := shr_step (l := X.drop ws) (k := 0) (j := j) (less := less) (by omega) hXd (by rw [List.length_drop]; have := HL.out; omega) HV.out
    have g0 : (X.drop ws).getD j 0 = X.getD (ws + j) 0 := by simp [List.getD_eq_getElem?_getD]
    have g1 : (X.drop ws).getD (j + 1) 0 = X.getD (ws + j + 1) 0 := by simp [List.getD_eq_getElem?_getD, Nat.add_assoc]
    rw [g0, g1, HP.out, HQ.out, HDD.out] at h
    rw [val_snoc, HDL.out]
    exact h
   case measure => simp only [intOf]; omega
 have HE : Hid (val B32 D = val B32 x / 2 ^ m) := hidP (by
  have h := shr_end (l := X) (ws := ws) (less := less) hXH (by have := HL.out; omega)
  have hj2 : j = X.length - ws := by have := HL.out; omega
  rw [← hj2] at h
  rw [HV.out, ← HVX.out, ← HMW.out]
  exact h)
 obtain ⟨a5, cap5, rfl, hsl⟩ := Sl.of_owns hown
 have hm5 := hsl.2.2.1
 have hc5 := hsl.2.1
 unfold maxLen at hm5
 have HC5 := hidP (cut_sl32 hsl hD)
 have hcl := dig_val_len B32_two D hD
 rw [HDL.out] at hcl
 generalize hk5 : (dig B32 (val B32 D)).length = k5 at *
 have HK5 := hidP hk5; clear hk5
 go_wp2_with fail
 refine (nat_size_any _ _ _ D _ hsl hD (by omega)).mono ?_
 rw [HK5.out]
 rintro e w'' ⟨rfl, rfl⟩
 go_wp2
 go_ret
 exact ⟨_, _, _, rfl, by rw [← HE.out]; exact HC5.out, he⟩
set_option maxRecDepth 100000 in
set_option maxHeartbeats 2000000 in
theorem nat_Shift_any (a : Option Addr) (n cap : Nat) (x : List Nat) (k : Int) (w : World) (hs : Sl w a n cap (ints .u32 x)) (hx : Ws x) (hn : n ≤ 2199023255552) (hk : -9223372036854775808 ≤ k ∧ k ≤ 9223372036854775807) :
    Calls Tryz.prog 131 #[.slice a n cap, .int .i64 k] w (RetSl w (ints .u32 (shl32 (val B32 x) k))) := by
 by_cases hdown : (dig B32 (val B32 x)).length ≠ 0 ∧ k < 0 ∧ -4096 ≤ k ∧ (-k).toNat / 32 < (dig B32 (val B32 x)).length
 · obtain ⟨m, rfl⟩ : ∃ m : Nat, k = -(m : Int) := ⟨(-k).toNat, by omega⟩
   rw [shl32_down (by omega)]
   exact nat_Shift_down a n cap x m w hs hx hn (by omega) (by omega) hdown.1 (by have := hdown.2.2.2; rwa [show (- -(m : Int)).toNat = m by omega] at this)
 have hlen := hs.int_len
 have hmn := dig_val_len B32_two x hx
 have HCUT := hidP (cut_sl32 hs hx)
 have hXH : Ws (dig B32 (val B32 x)) := Ws.dig _
 have HVX := hidP (val_dig B32_two (val B32 x))
 have HLT := hidP (val_lt (B := B32) (by decide) (dig B32 (val B32 x)) hXH)
 have hcap0 := hs.2.1
 obtain ⟨X, hX⟩ : ∃ X, X = dig B32 (val B32 x) := ⟨_, rfl⟩
 rw [← hX] at hmn HCUT hXH HVX hdown HLT
 have HX := hidP hX; clear hX
 obtain ⟨L, hL⟩ : ∃ L, L = X.length := ⟨_, rfl⟩
 rw [← hL] at hmn HCUT hdown HLT
 have HL := hidP hL; clear hL
 have hcap : L ≤ cap := by omega
 by_cases h0 : L = 0
 · subst h0
   have HS : Hid (shl32 (val B32 x) k = []) := hidP (by
    have : X = [] := List.eq_nil_of_length_eq_zero HL.out.symm
    rw [← HVX.out, this]; exact shl32_zero k)
   clear hdown
   go_enter Tryz.func131, Tryz.ntmps131
   go_wp2_with fail
   refine (nat_size_any a n cap x _ hs hx (by omega)).mono ?_
   rw [← HX.out, ← HL.out]; rintro e w' ⟨rfl, rfl⟩
   go_wp2
   go_ret
   exact ⟨none, 0, 0, rfl, by rw [HS.out]; exact Sl.nil _, Ext.refl _⟩
 have hz : ((L : Int) == 0) = false := by simp [h0]
 by_cases h1 : 4096 < k
 · have HS := hidP (shl32_out (V := val B32 x) (k := k) (.inl h1))
   clear hdown
   go_enter Tryz.func131, Tryz.ntmps131
   go_wp2_with fail
   refine (nat_size_any a n cap x _ hs hx (by omega)).mono ?_
   rw [← HX.out, ← HL.out]; rintro e w' ⟨rfl, rfl⟩
   go_wp2
   go_ret
   exact ⟨none, 0, 0, rfl, by rw [HS.out]; exact Sl.nil _, Ext.refl _⟩
 have hb1 : decide ((4096 : Int) < k) = false := decide_eq_false (by omega)
 by_cases h2 : k < -4096
 · have HS := hidP (shl32_out (V := val B32 x) (k := k) (.inr h2))
   clear hdown
   go_enter Tryz.func131, Tryz.ntmps131
   go_wp2_with fail
   refine (nat_size_any a n cap x _ hs hx (by omega)).mono ?_
   rw [← HX.out, ← HL.out]; rintro e w' ⟨rfl, rfl⟩
   go_wp2
   go_ret
   exact ⟨none, 0, 0, rfl, by rw [HS.out]; exact Sl.nil _, Ext.refl _⟩
 have hb2 : decide (k < -4096) = false := decide_eq_false (by omega)
 by_cases h3 : 0 ≤ k
 · obtain ⟨m, rfl⟩ : ∃ m : Nat, k = m := ⟨k.toNat, by omega⟩
   have hm : m ≤ 4096 := by omega
   have HS := hidP (shl32_up (V := val B32 x) hm)
   clear hdown h1 h2 h3 hk hb1 hb2
   have hb1 : decide (4096 < m) = false := decide_eq_false (by omega)
   have HM : Hid (32 * (m / 32) + m % 32 = m) := hidP (Nat.div_add_mod m 32)
   have hq1 : (m : Int) / 32 = ((m / 32 : Nat) : Int) := by omega
   have hq2 : (m : Int) % 32 = ((m % 32 : Nat) : Int) := by omega
   have hb3 : m / 32 ≤ 128 := by omega
   have hb4 : m % 32 ≤ 31 := by omega
   have HL2 := hidP (fun u => nat_left_any a L cap X (m / 32) (m % 32) u)
   rw [hq1.symm, hq2.symm] at HL2
   clear hq1 hq2
   go_enter Tryz.func131, Tryz.ntmps131
   go_wp2_with fail
   refine (nat_size_any a n cap x _ hs hx (by omega)).mono ?_
   rw [← HX.out, ← HL.out]; rintro e w' ⟨rfl, rfl⟩
   go_wp2_with fail
   refine (HL2.out _ HCUT.out hXH (by omega) (by omega) hb4).mono ?_
   rw [HM.out, HVX.out, ← HS.out]
   rintro e w1 ⟨a1, n1, cap1, rfl, hs1, he1⟩
   go_wp2
   go_ret
   exact ⟨_, _, _, rfl, hs1, he1⟩
 obtain ⟨m, rfl⟩ : ∃ m : Nat, k = -(m : Int) := ⟨(-k).toNat, by omega⟩
 have hm : m ≤ 4096 := by omega
 have hm1 : 1 ≤ m := by omega
 rw [show (- -(m : Int)).toNat = m by omega] at hdown
 have hge : L ≤ m / 32 := by
  rcases Nat.lt_or_ge (m / 32) L with h | h
  · exact absurd ⟨h0, by omega, by omega, h⟩ hdown
  exact h
 have HS : Hid (shl32 (val B32 x) (-(m : Int)) = []) := hidP (by
  rw [shl32_down hm]
  have h9 := HLT.out
  have h8 : B32 ^ L ≤ 2 ^ m := by
   rw [show (B32 : Nat) = 2 ^ 32 from rfl, ← Nat.pow_mul]
   exact Nat.pow_le_pow_right (by decide) (by omega)
  rw [HVX.out] at h9
  rw [Nat.div_eq_of_lt (Nat.lt_of_lt_of_le h9 h8), dig_zero])
 have hq1 : (m : Int) / 32 = ((m / 32 : Nat) : Int) := by omega
 clear hdown h1 h2 h3 hk hb1 hb2
 have hb1 : decide ((4096 : Int) < -(m : Int)) = false := decide_eq_false (by omega)
 have hb2 : decide ((4096 : Int) < (m : Int)) = false := decide_eq_false (by omega)
 have hb3 : decide (m = 0) = false := decide_eq_false (by omega)
 generalize m / 32 = ws at *
 have hb4 : decide (L ≤ ws) = true := decide_eq_true hge
 go_enter Tryz.func131, Tryz.ntmps131
 go_wp2_with fail
 refine (nat_size_any a n cap x _ hs hx (by omega)).mono ?_
 rw [← HX.out, ← HL.out]; rintro e w' ⟨rfl, rfl⟩
 go_wp2
 go_ret
 exact ⟨none, 0, 0, rfl, by rw [HS.out]; exact Sl.nil _, Ext.refl _⟩
theorem shl_len {V m N M : Nat} (h : V < B32 ^ N) (hm : m ≤ 32 * M) : (dig B32 (V * 2 ^ m)).length ≤ N + M := by
  refine dig_len_le B32_two ?_
  have h2 : 2 ^ m ≤ 2 ^ (32 * M) := Nat.pow_le_pow_right (by decide) hm
  have h3 : 2 ^ (32 * M) = B32 ^ M := by rw [Nat.pow_mul]; rfl
  rw [Nat.pow_add, ← h3]
  exact Nat.lt_of_lt_of_le (Nat.mul_lt_mul_of_pos_right h (Nat.two_pow_pos _)) (Nat.mul_le_mul_left _ h2)
end Go.Proofs.YtgjjalnmigdjgaaGreat
namespace Go.Proofs.YtgjjalnmigdjgaaGreat
set_option linter.unusedVariables false
open Go Go.RowKit
set_option maxRecDepth 100000 in
set_option maxHeartbeats 2000000 in
theorem nat_guess_any (g off cap : Nat) (j : Nat) (p : List Nat) (top next : Nat) (w : World) (hs : Sl w (some ⟨g, off, none⟩) (j + 3) cap (ints .u32 p)) (hp : Ws p) (hj : j ≤ 1099511627776)
    (ht : 1 ≤ top) (ht2 : top ≤ 4294967295) (hn : next ≤ 4294967295) (hle : p.getD (j + 2) 0 * 4294967296 + p.getD (j + 1) 0 ≤ top * 4294967296 + next) :
    Calls Tryz.prog 220 #[.slice (some ⟨g, off, none⟩) (j + 3) cap, .int .u32 top, .int .u32 next] w
      fun e w' => e = .returned (.int .u64 (min (((p.getD (j + 2) 0 * 4294967296 + p.getD (j + 1) 0) * 4294967296 + p.getD j 0) / (top * 4294967296 + next)) (4294967296 - 1) : Nat)) ∧ Ext w w' := by
 have hlen := hs.int_len
 obtain ⟨b, o, hbo, hc⟩ := hs.at_int (by omega)
 simp only [Option.some.injEq, Addr.mk.injEq, and_true] at hbo
 obtain ⟨rfl, rfl⟩ := hbo
 have c2 := hc (j + 2) (by omega)
 have c1 := hc (j + 1) (by omega)
 have c0 := hc j (by omega)
 have b2 := hp.at (j + 2) (by omega)
 have b1 := hp.at (j + 1) (by omega)
 have b0 := hp.at j (by omega)
 have e2 : p.getD (j + 2) 0 = p[j + 2] := by rw [List.getD_eq_getElem?_getD, List.getElem?_eq_getElem (by omega)]; rfl
 have e1 : p.getD (j + 1) 0 = p[j + 1] := by rw [List.getD_eq_getElem?_getD, List.getElem?_eq_getElem (by omega)]; rfl
 have e0 : p.getD j 0 = p[j] := by rw [List.getD_eq_getElem?_getD, List.getElem?_eq_getElem (by omega)]; rfl
 rw [e2, e1] at hle
 rw [e2, e1, e0]
 clear e2 e1 e0 hc
 generalize p[j + 2] = p2 at *
 generalize p[j + 1] = p1 at *
 generalize p[j] = p0 at *
 have hor := or32 p2 p1 (by omega) (by omega)
 obtain ⟨v, hv⟩ : ∃ v, v = p2 * 4294967296 + p1 := ⟨_, rfl⟩
 rw [← hv] at hor hle ⊢
 have hvb : v ≤ 18446744073709551615 := by omega
 clear hv
 have hw1 : IntKind.u64.wrap ((v : Int) / (top : Int)) = ((v / top : Nat) : Int) := by
  rw [← Int.natCast_ediv]
  have : v / top ≤ v := Nat.div_le_self _ _
  generalize v / top = q at *
  exact IntWalk.u64_in _ (by omega)
 have hw2 : (v : Int).tmod (top : Int) = ((v % top : Nat) : Int) := by rw [IntWalk.rem_in _ _ (by omega)]; rfl
 have hz : ¬ top = 0 := by omega
 have HDM : Hid (v / top * top + v % top = v) := hidP (Nat.div_add_mod' v top)
 have hrb : v % top < top := Nat.mod_lt _ (by omega)
 have hqb : v / top ≤ 18446744073709551615 := Nat.le_trans (Nat.div_le_self _ _) hvb
 have HLOW : Hid (min ((v * 4294967296 + p0) / (top * 4294967296 + next)) (4294967296 - 1) ≤ v / top) := hidP (by
  refine Nat.le_trans (Nat.min_le_left _ _) ?_
  have h3 : (v * 4294967296 + p0) / (top * 4294967296 + next) ≤ (v * 4294967296 + p0) / (top * 4294967296) := Nat.div_le_div_left (by omega) (by omega)
  refine Nat.le_trans h3 ?_
  rw [Nat.mul_comm top, ← Nat.div_div_eq_div_mul]
  refine Nat.div_le_div_right ?_
  omega)
 have hw1' := hw1
 generalize v / top = q0 at *
 generalize v % top = r0 at *
 have HGE := hidP (fun q left (h1 : q * top + left = v) h2 h3 h4 => @guess_end 4294967296 q top next left p0 v h1 h2 h3 h4 (by omega))
 have HGB := hidP (fun q left (h1 : q * top + left = v) h2 h4 => @guess_break 4294967296 q top next left p0 v (by omega) h1 h2 (by omega) hle h4 (by omega))
 have HGM := hidP (fun q left (h1 : q * top + left = v) h2 h4 => @guess_more 4294967296 q top next left p0 v h1 h2 h4 (by omega))
 generalize min ((v * 4294967296 + p0) / (top * 4294967296 + next)) (4294967296 - 1) = M at *
 clear hw1' hle hlen
 go_enter Tryz.func220, Tryz.ntmps220
 go_wp2
 go_quiet (fail)
 go_wp2
 go_quiet (fail)
 go_wp2
 have e31 : j + 3 - 1 = j + 2 := rfl
 have e32 : j + 3 - 1 - 1 = j + 1 := rfl
 rw [e32, e31]
 clear e31 e32
 go_loopw [9, 10] (fun qv lv wr => ∃ (q left : Nat), qv = .int .u64 (q : Nat) ∧ lv = .int .u64 (left : Nat) ∧ q * top + left = v ∧ M ≤ q ∧ q ≤ 18446744073709551615 ∧ left ≤ 4294967295 ∧ Ext w wr) (fun qv _ _ => (intOf qv).toNat)
 case atStart => exact ⟨q0, r0, rfl, rfl, HDM.out, HLOW.out, hqb, by omega, ((Ext.refl _).drewN _).drewN _⟩
 clear HDM HLOW hqb hrb hw1 hw2
 obtain ⟨q, left, rfl, rfl, hinv, hlow, hq, hl, he⟩ := hrel
 have HI := hidP hinv; have HL := hidP hlow
 clear hinv hlow
 have c0' := he.cell' c0
 clear c0 c1 c2
 have hor2 := or32 left p0 hl (by omega)
 by_cases h1 : q ≤ 4294967295
 · obtain ⟨mm, hm⟩ : ∃ mm : Nat, (q : Int) * (next : Int) = (mm : Int) ∧ mm = q * next := ⟨q * next, by rw [Int.natCast_mul], rfl⟩
   have hm1 := hm.1
   have hmb : mm ≤ 18446744065119617025 := by rw [hm.2]; exact Nat.mul_le_mul h1 hn
   have HMM := hidP hm.2
   clear hm
   obtain ⟨lo, hlo⟩ : ∃ lo, lo = left * 4294967296 + p0 := ⟨_, rfl⟩
   rw [← hlo] at hor2
   have HLO := hidP hlo
   clear hlo
   by_cases h2 : lo < mm
   · have hmore := HGM.out q left HI.out (.inr (by have := HLO.out; have := HMM.out; omega)) HL.out
     have hq1 := hmore.1
     have HMORE := hidP hmore.2
     clear hmore
     by_cases h3 : 4294967296 ≤ left + top
     · have HRES := hidP (HGB.out (q - 1) (left + top) HMORE.out.2 h3 HMORE.out.1)
       go_wp2
       go_ret
       exact ⟨ret_int (by have := HRES.out; omega), he⟩
     go_wp2
     go_roundw
     case rel => exact ⟨q - 1, left + top, by go_num, by go_num, HMORE.out.2, HMORE.out.1, by omega, by omega, he⟩
     case measure => simp only [intOf]; omega
   have HRES := hidP (HGE.out q left HI.out (by omega) (by have := HLO.out; have := HMM.out; omega) HL.out)
   go_wp2
   go_ret
   exact ⟨ret_int (by have := HRES.out; omega), he⟩
 have hmore := HGM.out q left HI.out (.inl (by omega)) HL.out
 have hq1 := hmore.1
 have HMORE := hidP hmore.2
 clear hmore
 by_cases h3 : 4294967296 ≤ left + top
 · have HRES := hidP (HGB.out (q - 1) (left + top) HMORE.out.2 h3 HMORE.out.1)
   go_wp2
   go_ret
   exact ⟨ret_int (by have := HRES.out; omega), he⟩
 go_wp2
 go_roundw
 case rel => exact ⟨q - 1, left + top, by go_num, by go_num, HMORE.out.2, HMORE.out.1, by omega, by omega, he⟩
 case measure => simp only [intOf]; omega
/-- What 'take' leaves. -/
def TakeR (W w : World) (g N i n : Nat) (D Y : List Nat) (q : Nat) (e : Ending) (w' : World) : Prop :=
  ∃ (D' : List Nat) (br : Nat), e = .returned (.bool (decide (br = 0))) ∧ w'.ownsRow W.heap.size 98 1 (.slice (some ⟨g, 0, none⟩) N N) N (ints .u32 D') ∧ Ext W w' ∧ But w w' g ∧ Ws D' ∧
    D'.take i = D.take i ∧ D'.drop (i + n + 1) = D.drop (i + n + 1) ∧ br ≤ 1 ∧ val B32 ((D'.drop i).take (n + 1)) + q * val B32 Y = val B32 ((D.drop i).take (n + 1)) + B32 ^ (n + 1) * br
set_option maxRecDepth 100000 in
set_option maxHeartbeats 2000000 in
theorem nat_take_any (W : World) (g N i n cap0 : Nat) (D Y : List Nat) (q : Nat) (a' : Option Addr) (cap' : Nat) (w : World) (hown : w.ownsRow W.heap.size 98 1 (.slice (some ⟨g, 0, none⟩) N N) N (ints .u32 D)) (he : Ext W w)
    (hs' : Sl W a' n cap' (ints .u32 Y)) (hY : Ws Y) (hD : Ws D) (hin : i + n < N) (hN : N ≤ 4398046511105) (hq : q ≤ 4294967295) :
    Calls Tryz.prog 221 #[.slice (some ⟨g, i, none⟩) (n + 1) cap0, .slice a' n cap', .int .u64 q] w (TakeR W w g N i n D Y q) := by
 have hlen' := hs'.int_len
 have hDl := Row.len hown
 have hgb := Row.base hown
 have HG : Hid (W.heap.size ≤ g) := hidP hgb.1
 clear hgb
 have HDL := hidP hDl; clear hDl
 have HI0 : Hid (val B32 ((D.drop i).take 0) + q * val B32 (Y.take 0) = val B32 ((D.drop i).take 0) + B32 ^ 0 * (0 + 0)) := hidP (by simp [val])
 go_enter Tryz.func221, Tryz.ntmps221
 go_wp2
 go_loopw [7, 8, 15] (fun c b jv wr => ∃ (j cy br : Nat) (E : List Nat), j ≤ n ∧ jv = .int .i64 j ∧ c = .int .u64 (cy : Nat) ∧ cy ≤ 4294967295 ∧ b = .int .u32 (br : Nat) ∧ br ≤ 1 ∧ wr.ownsRow W.heap.size 98 1 (.slice (some ⟨g, 0, none⟩) N N) N (ints .u32 E) ∧ Ext W wr ∧ But w wr g ∧ Ws E ∧
  E.take i = D.take i ∧ E.drop (i + j) = D.drop (i + j) ∧ val B32 ((E.drop i).take j) + q * val B32 (Y.take j) = val B32 ((D.drop i).take j) + B32 ^ j * (cy + br)) (fun _ _ jv _ => n - (intOf jv).toNat)
 case atStart => exact ⟨0, 0, 0, D, by omega, rfl, rfl, by omega, rfl, by omega, hown, he, But.refl _ _, hD, rfl, rfl, HI0.out⟩
 clear hown he HI0
 obtain ⟨j, cy, br, E, hj, rfl, rfl, hcy, rfl, hbr, hown, he, hbut, hE, ht, hd, hv⟩ := hrel
 have hEl := Row.len hown
 have HT := hidP ht; have HDR := hidP hd; have HV := hidP hv; have HB := hidP hbut; have HEX := hidP he
 clear ht hd hv hbut
 have hij : i + j < E.length := by omega
 have hcE := Row.cell hown (i + j) hij
 have hfr := Row.free hown (i + j)
 have hrb := hE.at (i + j) hij
 have HST := hidP (fun v => Row.store hown (i + j) v)
 have HPW := hidP (fun d => part_write (B := B32) (E := E) (D := D) (i := i) (j := j) (d := d) hij HDR.out HT.out)
 have HR : Hid (E[i + j] = E[i + j]) := hidP rfl
 clear hown HR
 generalize hr : E[i + j] = r at *
 clear hr
 have hEl2 := hidP hEl
 clear hEl
 by_cases h0 : j < n
 · obtain ⟨b, off, rfl, hc⟩ := (hs'.ext he).at_int (by omega)
   have hcy' := hc j (by omega)
   have hyb := hY.at j (by omega)
   obtain ⟨y, hy⟩ : ∃ y, y = Y[j]'(by omega) := ⟨_, rfl⟩
   rw [← hy] at hcy' hyb
   have HY : Hid (Y.getD j 0 = y) := hidP (by rw [hy, List.getD_eq_getElem?_getD, List.getElem?_eq_getElem (by omega)]; rfl)
   clear hy hc
   obtain ⟨mm, hm⟩ : ∃ mm : Nat, (y : Int) * (q : Int) = (mm : Int) ∧ mm = y * q := ⟨y * q, by rw [Int.natCast_mul], rfl⟩
   have hm1 := hm.1
   have hmb : mm ≤ 18446744065119617025 := by rw [hm.2]; exact Nat.mul_le_mul (by omega : y ≤ 4294967295) hq
   have HMM := hidP hm.2
   clear hm
   have hlo : bits .and .u64 ((mm : Int) + (cy : Int)) 4294967295 = (((mm + cy) % 4294967296 : Nat) : Int) := lo32 (mm + cy) (by omega)
   have hlb : (mm + cy) % 4294967296 ≤ 4294967295 := by omega
   have hhb : (mm + cy) / 4294967296 ≤ 4294967295 := by omega
   have HLO := hidP (rfl : (mm + cy) % 4294967296 = (mm + cy) % 4294967296)
   have HTS := hidP (take_step (B := 4294967296) (P := B32 ^ j) (q := q) (w := y) (cy := cy) (r := r) (br := br) (E := val B32 ((E.drop i).take j)) (X := val B32 ((D.drop i).take j)) (Y := val B32 (Y.take j)) (d := (4294967296 + r - (y * q + cy) % 4294967296 - br) % 4294967296) (by omega) (by omega) hbr HV.out rfl)
   rw [← HMM.out] at HTS
   generalize hlv : (mm + cy) % 4294967296 = lo at *
   generalize hhv : (mm + cy) / 4294967296 = hi at *
   have HHV := hidP hhv
   have hhi : ((mm : Int) + (cy : Int)) / 4294967296 = (hi : Int) := by omega
   clear hlv hhv HLO
   go_wp2_with fail
   refine (bits_Sub32_any r lo br _ (by omega) (by omega) hbr).mono ?_
   have hb2 : 1 - (4294967296 + r - lo - br) / 4294967296 ≤ 1 := by omega
   generalize (4294967296 + r - lo - br) % 4294967296 = d at *
   generalize 1 - (4294967296 + r - lo - br) / 4294967296 = br2 at *
   rintro e w' ⟨rfl, rfl⟩
   go_wp2
   go_roundw
   case rel =>
    have hpw := HPW.out d
    refine ⟨j + 1, hi, br2, E.set (i + j) d, by omega, by go_num, rfl, by omega, rfl, hb2, HST.out d, HEX.out.store HG.out _, HB.out.store, set_lt hE _ _ (by have := HTS.out.2; unfold B32; omega), hpw.1, by have := hpw.2.1; rwa [Nat.add_assoc] at this, ?_⟩
    rw [hpw.2.2.1, hpw.2.2.2, val_take_snoc, HY.out, Nat.pow_succ]
    exact HTS.out.1
   case measure => simp only [intOf]; omega
 obtain rfl : j = n := by omega
 have hv := HV.out
 rw [List.take_of_length_le (by omega : Y.length ≤ j)] at hv
 have HTS := hidP (take_step (B := 4294967296) (P := B32 ^ j) (q := q) (w := 0) (cy := cy) (r := r) (br := br) (E := val B32 ((E.drop i).take j)) (X := val B32 ((D.drop i).take j)) (Y := val B32 Y) (d := (4294967296 + r - (0 * q + cy) % 4294967296 - br) % 4294967296) (by omega) (by omega) hbr hv rfl)
 have hcm : (0 * q + cy) % 4294967296 = cy := by omega
 have hcd : (0 * q + cy) / 4294967296 = 0 := by omega
 rw [hcm, hcd] at HTS
 clear hcm hcd hv
 go_wp2_with fail
 refine (bits_Sub32_any r cy br _ (by omega) (by omega) hbr).mono ?_
 have hb2 : 1 - (4294967296 + r - cy - br) / 4294967296 ≤ 1 := by omega
 generalize (4294967296 + r - cy - br) % 4294967296 = d at *
 generalize 1 - (4294967296 + r - cy - br) / 4294967296 = br2 at *
 rintro e w' ⟨rfl, rfl⟩
 go_wp2
 go_ret
 have hpw := HPW.out d
 refine ⟨E.set (i + j) d, br2, ?_, HST.out d, HEX.out.store HG.out _, HB.out.store, set_lt hE _ _ (by have := HTS.out.2; unfold B32; omega), hpw.1, hpw.2.1, hb2, ?_⟩
 · have : ((br2 : Int) == 0) = decide (br2 = 0) := by rw [Bool.eq_iff_iff]; simp
   rw [← this]; rfl
 rw [hpw.2.2.1, hpw.2.2.2, Nat.pow_succ]
 have := HTS.out.1
 simp only [Nat.mul_zero, Nat.add_zero, Nat.zero_add] at this
 exact this
/-- What 'give' leaves. -/
def GiveR (W w : World) (g N i n : Nat) (D Y : List Nat) (e : Ending) (w' : World) : Prop :=
  e = .returned (.tuple #[]) ∧ ∃ (D' : List Nat) (c : Nat), w'.ownsRow W.heap.size 98 1 (.slice (some ⟨g, 0, none⟩) N N) N (ints .u32 D') ∧ Ext W w' ∧ But w w' g ∧ Ws D' ∧
    D'.take i = D.take i ∧ D'.drop (i + n + 1) = D.drop (i + n + 1) ∧ c ≤ 1 ∧ val B32 ((D'.drop i).take (n + 1)) + B32 ^ (n + 1) * c = val B32 ((D.drop i).take (n + 1)) + val B32 Y
set_option maxRecDepth 100000 in
set_option maxHeartbeats 2000000 in
theorem nat_give_any (W : World) (g N i n cap0 : Nat) (D Y : List Nat) (a' : Option Addr) (cap' : Nat) (w : World) (hown : w.ownsRow W.heap.size 98 1 (.slice (some ⟨g, 0, none⟩) N N) N (ints .u32 D)) (he : Ext W w)
    (hs' : Sl W a' n cap' (ints .u32 Y)) (hY : Ws Y) (hD : Ws D) (hin : i + n < N) (hN : N ≤ 4398046511105) :
    Calls Tryz.prog 222 #[.slice (some ⟨g, i, none⟩) (n + 1) cap0, .slice a' n cap'] w (GiveR W w g N i n D Y) := by
 have hlen' := hs'.int_len
 have hDl := Row.len hown
 have hgb := Row.base hown
 have HG : Hid (W.heap.size ≤ g) := hidP hgb.1
 clear hgb
 have HDL := hidP hDl; clear hDl
 have HI0 : Hid (val B32 ((D.drop i).take 0) + B32 ^ 0 * 0 = val B32 ((D.drop i).take 0) + val B32 (Y.take 0)) := hidP (by simp [val])
 go_enter Tryz.func222, Tryz.ntmps222
 go_wp2
 go_loopw [4, 9] (fun c jv wr => ∃ (j cy : Nat) (E : List Nat), j ≤ n ∧ jv = .int .i64 j ∧ c = .int .u32 (cy : Nat) ∧ cy ≤ 1 ∧ wr.ownsRow W.heap.size 98 1 (.slice (some ⟨g, 0, none⟩) N N) N (ints .u32 E) ∧ Ext W wr ∧ But w wr g ∧ Ws E ∧
  E.take i = D.take i ∧ E.drop (i + j) = D.drop (i + j) ∧ val B32 ((E.drop i).take j) + B32 ^ j * cy = val B32 ((D.drop i).take j) + val B32 (Y.take j)) (fun _ jv _ => n - (intOf jv).toNat)
 case atStart => exact ⟨0, 0, D, by omega, rfl, rfl, by omega, hown, he, But.refl _ _, hD, rfl, rfl, HI0.out⟩
 clear hown he HI0
 obtain ⟨j, cy, E, hj, rfl, rfl, hcy, hown, he, hbut, hE, ht, hd, hv⟩ := hrel
 have hEl := Row.len hown
 have HT := hidP ht; have HDR := hidP hd; have HV := hidP hv; have HB := hidP hbut; have HEX := hidP he
 clear ht hd hv hbut
 have hij : i + j < E.length := by omega
 have hcE := Row.cell hown (i + j) hij
 have hfr := Row.free hown (i + j)
 have hrb := hE.at (i + j) hij
 have HST := hidP (fun v => Row.store hown (i + j) v)
 have HPW := hidP (fun d => part_write (B := B32) (E := E) (D := D) (i := i) (j := j) (d := d) hij HDR.out HT.out)
 clear hown
 generalize hr : E[i + j] = r at *
 clear hr
 have hEl2 := hidP hEl
 clear hEl
 by_cases h0 : j < n
 · obtain ⟨b, off, rfl, hc⟩ := (hs'.ext he).at_int (by omega)
   have hcy' := hc j (by omega)
   have hyb := hY.at j (by omega)
   obtain ⟨y, hy⟩ : ∃ y, y = Y[j]'(by omega) := ⟨_, rfl⟩
   rw [← hy] at hcy' hyb
   have HY : Hid (Y.getD j 0 = y) := hidP (by rw [hy, List.getD_eq_getElem?_getD, List.getElem?_eq_getElem (by omega)]; rfl)
   clear hy hc
   have HTS := hidP (give_step (B := 4294967296) (P := B32 ^ j) (w := y) (cy := cy) (r := r) (E := val B32 ((E.drop i).take j)) (X := val B32 ((D.drop i).take j)) (Y := val B32 (Y.take j)) HV.out)
   go_wp2_with fail
   refine (bits_Add32_any r y cy _ (by omega) (by omega) hcy).mono ?_
   have hb1 : (r + y + cy) % 4294967296 < 4294967296 := Nat.mod_lt _ (by decide)
   have hb2 : (r + y + cy) / 4294967296 ≤ 1 := by omega
   generalize (r + y + cy) % 4294967296 = d at *
   generalize (r + y + cy) / 4294967296 = c2 at *
   rintro e w' ⟨rfl, rfl⟩
   go_wp2
   go_roundw
   case rel =>
    have hpw := HPW.out d
    refine ⟨j + 1, c2, E.set (i + j) d, by omega, by go_num, rfl, hb2, HST.out d, HEX.out.store HG.out _, HB.out.store, set_lt hE _ _ hb1, hpw.1, by have := hpw.2.1; rwa [Nat.add_assoc] at this, ?_⟩
    rw [hpw.2.2.1, hpw.2.2.2, val_take_snoc, HY.out, Nat.pow_succ]
    exact HTS.out
   case measure => simp only [intOf]; omega
 obtain rfl : j = n := by omega
 have hv := HV.out
 rw [List.take_of_length_le (by omega : Y.length ≤ j)] at hv
 have HTS := hidP (give_step (B := 4294967296) (P := B32 ^ j) (w := 0) (cy := cy) (r := r) (E := val B32 ((E.drop i).take j)) (X := val B32 ((D.drop i).take j)) (Y := val B32 Y) hv)
 have hrd : ((r : Int) + (cy : Int)) % 4294967296 = (((r + 0 + cy) % 4294967296 : Nat) : Int) := by omega
 have hb1 : (r + 0 + cy) % 4294967296 < 4294967296 := Nat.mod_lt _ (by decide)
 have hb2 : (r + 0 + cy) / 4294967296 ≤ 1 := by omega
 generalize (r + 0 + cy) % 4294967296 = d at *
 generalize (r + 0 + cy) / 4294967296 = c2 at *
 clear hv
 go_wp2
 go_end0
 have hpw := HPW.out d
 refine ⟨rfl, E.set (i + j) d, c2, HST.out d, HEX.out.store HG.out _, HB.out.store, set_lt hE _ _ hb1, hpw.1, hpw.2.1, hb2, ?_⟩
 rw [hpw.2.2.1, hpw.2.2.2, Nat.pow_succ]
 have := HTS.out
 simp only [Nat.mul_zero, Nat.add_zero] at this
 exact this
end Go.Proofs.YtgjjalnmigdjgaaGreat
namespace Go.Proofs.YtgjjalnmigdjgaaGreat
set_option linter.unusedVariables false
open Go Go.RowKit
theorem two_top {B : Nat} (hB : 0 < B) {l : List Nat} {j : Nat} (hl : l.length = j + 2) (h : ∀ x ∈ l, x < B) : val B l = (l.getD (j + 1) 0 * B + l.getD j 0) * B ^ j + val B (l.take j) ∧ val B (l.take j) < B ^ j := by
  constructor
  · have h1 := val_take_snoc B l (j + 1)
    rw [show j + 1 + 1 = j + 2 from rfl, List.take_of_length_le (by omega), val_take_snoc] at h1
    rw [h1]
    generalize l.getD (j + 1) 0 = b
    generalize l.getD j 0 = c
    have e2 : B ^ (j + 1) * b = b * B * B ^ j := by rw [Nat.pow_succ, Nat.mul_comm, Nat.mul_comm (B ^ j), ← Nat.mul_assoc]
    have e3 : B ^ j * c = c * B ^ j := Nat.mul_comm _ _
    rw [e2, e3, Nat.add_mul]
    omega
  · have := val_lt hB (l.take j) (fun x hx => h x (List.mem_of_mem_take hx))
    rwa [List.length_take, Nat.min_eq_left (by omega)] at this
theorem three_top {B : Nat} (hB : 0 < B) {l : List Nat} {j : Nat} (hl : l.length = j + 3) (h : ∀ x ∈ l, x < B) : val B l = ((l.getD (j + 2) 0 * B + l.getD (j + 1) 0) * B + l.getD j 0) * B ^ j + val B (l.take j) ∧ val B (l.take j) < B ^ j := by
  constructor
  · have h1 := val_take_snoc B l (j + 2)
    rw [show j + 2 + 1 = j + 3 from rfl, List.take_of_length_le (by omega), val_take_snoc, val_take_snoc] at h1
    rw [h1]
    generalize l.getD (j + 2) 0 = a
    generalize l.getD (j + 1) 0 = b
    generalize l.getD j 0 = c
    have e1 : B ^ (j + 2) * a = a * B * B * B ^ j := by rw [Nat.pow_succ, Nat.pow_succ, Nat.mul_comm, Nat.mul_assoc (B ^ j), Nat.mul_comm (B ^ j), ← Nat.mul_assoc, ← Nat.mul_assoc]
    have e2 : B ^ (j + 1) * b = b * B * B ^ j := by rw [Nat.pow_succ, Nat.mul_comm, Nat.mul_comm (B ^ j), ← Nat.mul_assoc]
    have e3 : B ^ j * c = c * B ^ j := Nat.mul_comm _ _
    rw [e1, e2, e3, Nat.add_mul, Nat.add_mul, Nat.add_mul]
    omega
  · have := val_lt hB (l.take j) (fun x hx => h x (List.mem_of_mem_take hx))
    rwa [List.length_take, Nat.min_eq_left (by omega)] at this
theorem guess_fin {B : Nat} (hB : 2 ≤ B) {p Z : List Nat} {j : Nat} (hp : p.length = j + 3) (hZ : Z.length = j + 2) (hpB : ∀ x ∈ p, x < B) (hZB : ∀ x ∈ Z, x < B) (htop : 1 ≤ Z.getD (j + 1) 0) (h : val B (p.drop 1) < val B Z) :
    p.getD (j + 2) 0 * B + p.getD (j + 1) 0 ≤ Z.getD (j + 1) 0 * B + Z.getD j 0 ∧
    val B p / val B Z ≤ min (((p.getD (j + 2) 0 * B + p.getD (j + 1) 0) * B + p.getD j 0) / (Z.getD (j + 1) 0 * B + Z.getD j 0)) (B - 1) ∧
    min (((p.getD (j + 2) 0 * B + p.getD (j + 1) 0) * B + p.getD j 0) / (Z.getD (j + 1) 0 * B + Z.getD j 0)) (B - 1) ≤ val B p / val B Z + 1 := by
  have hz := two_top (by omega) hZ hZB
  have hp3 := three_top (by omega) hp hpB
  have hp2 := two_top (j := j) (l := p.drop 1) (by omega) (by rw [List.length_drop]; omega) (fun x hx => hpB x (List.mem_of_mem_drop hx))
  rw [getD_drop, getD_drop, show 1 + (j + 1) = j + 2 by omega, show 1 + j = j + 1 by omega] at hp2
  have hhead := val_head B p
  rw [← List.drop_one] at hhead
  have hh0 : p.getD 0 0 < B := getD_lt (by omega) hpB 0
  have hT : B ≤ Z.getD (j + 1) 0 * B + Z.getD j 0 := by
    have : 1 * B ≤ Z.getD (j + 1) 0 * B := Nat.mul_le_mul_right _ htop
    omega
  refine ⟨?_, guess_ok (by omega) hz.1 hp3.1 hz.2 hp3.2 hT ?_⟩
  · rcases Nat.lt_or_ge (Z.getD (j + 1) 0 * B + Z.getD j 0) (p.getD (j + 2) 0 * B + p.getD (j + 1) 0) with hgt | hle
    · have h1 : (Z.getD (j + 1) 0 * B + Z.getD j 0 + 1) * B ^ j ≤ (p.getD (j + 2) 0 * B + p.getD (j + 1) 0) * B ^ j := Nat.mul_le_mul_right _ hgt
      rw [Nat.add_mul, Nat.one_mul] at h1
      omega
    · exact hle
  · rw [hhead, Nat.mul_comm (val B Z)]
    have : B * (val B (p.drop 1) + 1) ≤ B * val B Z := Nat.mul_le_mul_left _ h
    rw [Nat.mul_add] at this
    omega
theorem bitlen_low {t : Nat} (h : t ≠ 0) : 1 ≤ bitlen t ∧ 2 ^ (bitlen t - 1) ≤ t := by
  unfold bitlen
  rw [if_neg h]
  exact ⟨by omega, by simpa using Nat.log2_self_le h⟩
/-- The divisor made great. -/
theorem norm_top {V0 n up : Nat} (hn : n + 1 = (dig B32 V0).length) (hup : up = 32 - bitlen ((dig B32 V0).getD n 0)) :
    up ≤ 31 ∧ (dig B32 (V0 * 2 ^ up)).length = n + 1 ∧ 2147483648 ≤ (dig B32 (V0 * 2 ^ up)).getD n 0 ∧ B32 ^ n ≤ V0 := by
 have hC := canon_dig B32_two V0
 have hv := val_dig B32_two V0
 have h0 : V0 ≠ 0 := by intro h; subst h; rw [dig_zero] at hn; simp at hn
 have hpl := pow_le_of_dig B32_two h0
 rw [← hn, Nat.add_sub_cancel] at hpl
 generalize dig B32 V0 = Y at *
 have hne : Y ≠ [] := by intro h; subst h; simp at hn
 have htop : Y.getD n 0 = Y.getLast hne := by
  rw [List.getLast_eq_getElem, List.getD_eq_getElem?_getD, List.getElem?_eq_getElem (by omega)]
  simp [← hn]
 have ht0 := hC.2 hne
 rw [← htop] at ht0
 have htB : Y.getD n 0 < B32 := getD_lt (by decide) hC.1 n
 have hsn := val_take_snoc B32 Y n
 rw [List.take_of_length_le (by omega), hv] at hsn
 have hlow := val_lt (B := B32) (by decide) (Y.take n) (fun x hx => hC.1 x (List.mem_of_mem_take hx))
 rw [List.length_take, Nat.min_eq_left (by omega)] at hlow
 generalize val B32 (Y.take n) = lo at *
 generalize Y.getD n 0 = t at *
 have hb1 := bitlen_low ht0
 have hb2 := lt_bitlen t
 have hb3 : bitlen t ≤ 32 := bitlen_le (by unfold B32 at htB; omega)
 generalize bitlen t = b at *
 have e31 : 2 ^ (b - 1) * 2 ^ up = 2147483648 := by rw [← Nat.pow_add, show b - 1 + up = 31 by omega]
 have e32 : 2 ^ b * 2 ^ up = B32 := by rw [← Nat.pow_add, show b + up = 32 by omega]; rfl
 have hge : B32 ^ n * 2147483648 ≤ V0 * 2 ^ up := by
  have h1 : 2 ^ (b - 1) * 2 ^ up ≤ t * 2 ^ up := Nat.mul_le_mul_right _ hb1.2
  rw [e31] at h1
  have h2 : B32 ^ n * 2147483648 ≤ B32 ^ n * (t * 2 ^ up) := Nat.mul_le_mul_left _ h1
  have h3 : B32 ^ n * (t * 2 ^ up) ≤ V0 * 2 ^ up := by
   rw [← Nat.mul_assoc]
   exact Nat.mul_le_mul_right _ (by omega)
  omega
 have hlt : V0 * 2 ^ up < B32 ^ (n + 1) := by
  have h1 : V0 < B32 ^ n * (t + 1) := by rw [Nat.mul_add]; omega
  have h2 : B32 ^ n * (t + 1) ≤ B32 ^ n * 2 ^ b := Nat.mul_le_mul_left _ hb2
  have h3 : V0 * 2 ^ up < B32 ^ n * 2 ^ b * 2 ^ up := Nat.mul_lt_mul_of_pos_right (by omega) (Nat.two_pow_pos _)
  rw [Nat.mul_assoc, e32, ← Nat.pow_succ] at h3
  exact h3
 have hlen : (dig B32 (V0 * 2 ^ up)).length = n + 1 := by
  have h1 := dig_len_le B32_two hlt
  rcases Nat.lt_or_ge (dig B32 (V0 * 2 ^ up)).length (n + 1) with h2 | h2
  · have h3 := le_of_dig_len B32_two (show (dig B32 (V0 * 2 ^ up)).length ≤ n by omega)
    have : B32 ^ n * 1 ≤ B32 ^ n * 2147483648 := Nat.mul_le_mul_left _ (by decide)
    omega
  omega
 refine ⟨by omega, hlen, ?_, hpl⟩
 have hZ : Ws (dig B32 (V0 * 2 ^ up)) := Ws.dig _
 have hvz := val_dig B32_two (V0 * 2 ^ up)
 have hd := (val_drop_div B32 (by decide) _ hZ n (by omega)).1
 rw [hvz] at hd
 generalize dig B32 (V0 * 2 ^ up) = Z at *
 have h1 : val B32 (Z.drop n) = Z.getD n 0 := by
  rw [List.drop_eq_getElem_cons (by omega), List.drop_of_length_le (by omega), List.getD_eq_getElem?_getD, List.getElem?_eq_getElem (by omega)]
  simp [val]
 rw [h1] at hd
 rw [← hd]
 exact (Nat.le_div_iff_mul_le (Nat.pow_pos (by decide))).2 (by rw [Nat.mul_comm]; exact hge)
/-- A part of a slice. -/
theorem Sl.part {w : World} {g o n cap : Nat} {l : List Nat} (h : Sl w (some ⟨g, o, none⟩) n cap (ints .u32 l)) (i k : Nat) (hik : i + k ≤ n) : Sl w (some ⟨g, o + i, none⟩) k (cap - i) (ints .u32 ((l.drop i).take k)) := by
  have hl := h.int_len
  refine ⟨by rw [ints_len, List.length_take, List.length_drop]; omega, by have := h.2.1; omega, by have := h.2.2.1; omega, fun h0 => ⟨g, o + i, rfl, fun j u hu => ?_⟩⟩
  obtain ⟨b, off, ha, hc⟩ := h.2.2.2 (by omega)
  simp only [Option.some.injEq, Addr.mk.injEq, and_true] at ha
  obtain ⟨rfl, rfl⟩ := ha
  have : (ints .u32 l)[i + j]? = some u := by
    simp only [ints, List.getElem?_map, List.getElem?_take, List.getElem?_drop] at hu ⊢
    split at hu
    · exact hu
    · simp at hu
  have h2 := hc (i + j) u this
  rwa [← Nat.add_assoc] at h2
end Go.Proofs.YtgjjalnmigdjgaaGreat
namespace Go.Proofs.YtgjjalnmigdjgaaGreat
set_option linter.unusedVariables false
open Go Go.RowKit
theorem ownsRow_extN {w u : World} {B e n : Nat} {v : Value} {xs : List Value} (h : w.ownsRow B e 1 v n xs) (he : Ext w u) : u.ownsRow B e 1 v n xs := by
  obtain ⟨h1, h2⟩ := h
  refine ⟨h1, ?_⟩
  rcases h2 with h2 | ⟨g, cap, cur, rfl, hg, hh, hn, hm, hs, hx⟩
  · exact .inl h2
  · have hlt : g < w.heap.size := by
      rcases Nat.lt_or_ge g w.heap.size with h | h
      · exact h
      · rw [Array.getElem?_eq_none h] at hh; cases hh
    exact .inr ⟨g, cap, cur, rfl, hg, by rw [he.block g hlt]; exact hh, hn, hm, hs, hx⟩
set_option maxRecDepth 100000 in
set_option maxHeartbeats 4000000 in
theorem nat_Div_big (a a' : Option Addr) (n cap n' cap' : Nat) (x y : List Nat) (w : World) (hs : Sl w a n cap (ints .u32 x)) (hs' : Sl w a' n' cap' (ints .u32 y)) (hx : Ws x) (hy : Ws y)
    (hn : n ≤ 1099511627776) (hn' : n' ≤ 1099511627776) (j : Nat) (hj : (dig B32 (val B32 y)).length = j + 2) (hge : val B32 y ≤ val B32 x) :
    Calls Tryz.prog 199 #[.slice a n cap, .slice a' n' cap'] w (RetDiv w (val B32 x) (val B32 y)) := by
 have hlen := hs.int_len
 have hlen' := hs'.int_len
 have hmn := dig_val_len B32_two x hx
 have hmn' := dig_val_len B32_two y hy
 have hkm := dig_mono B32_two hge
 have hc0 := cmpI_ge hge
 have hNT := fun up h => norm_top (V0 := val B32 y) (n := j + 1) (up := up) hj.symm h
 have hXL := val_lt (B := B32) (by decide) (dig B32 (val B32 x)) (Ws.dig _)
 rw [val_dig B32_two] at hXL
 rw [hj] at hmn' hkm
 obtain ⟨hi1, hyt⟩ := dig_get hy (j + 1) (by rw [hj]; omega)
 obtain ⟨m, hm⟩ : ∃ m, m = (dig B32 (val B32 x)).length := ⟨_, rfl⟩
 rw [← hm] at hmn hkm hXL
 obtain ⟨M, hM⟩ : ∃ M, m = M + (j + 2) := ⟨m - (j + 2), by omega⟩
 have hsub : (m : Int) - ((j : Int) + 2) = (M : Int) := by omega
 have hz1 : ((j : Int) + 2 == 0) = false := by simp; omega
 have hz2 : ((j : Int) + 2 == 1) = false := by simp; omega
 have hNTU := hNT _ rfl
 have HST := hidP (fun up => div_start (B := B32) (a := val B32 x) (b := val B32 y) (up := up) (m := m) (n := j + 2) B32_two hXL (hNT _ rfl).2.2.2 (by omega) hkm)
 have HSX := hidP (fun up (h : up ≤ 32 * 1) => shl_len (V := val B32 x) (m := up) (N := m) (M := 1) hXL h)
 have hyb : y[j + 1]'hi1 ≤ 4294967295 := by have := hy.at (j + 1) hi1; omega
 have HYT := hidP hyt
 obtain ⟨b, off, rfl, hc⟩ := hs'.at_int (by omega)
 have hct := hc (j + 1) hi1
 obtain ⟨t, ht⟩ : ∃ t, t = y[j + 1]'hi1 := ⟨_, rfl⟩
 rw [← ht] at hyb hct hyt
 rw [← hyt] at hNTU
 have hbl : bitlen t ≤ 32 := bitlen_le (by omega)
 have HS := hidP hs; have HS' := hidP hs'
 have HM := hidP hm; have HMM := hidP hM; have HJ := hidP hj; have HGE := hidP hge
 clear hs hs' hm hM hj hge hNT hXL hc ht hyt HYT
 have HCMP := hidP (fun u h h' => nat_Cmp_any a (some ⟨b, off, none⟩) n cap n' cap' x y u h h' hx hy hn hn')
 generalize cmpI (val B32 x) (val B32 y) = cc at *
 go_enter Tryz.func199, Tryz.ntmps199
 go_wp2_with fail
 refine (nat_size_any a n cap x _ HS.out hx (by omega)).mono ?_
 rw [← HM.out]; rintro e w' ⟨rfl, rfl⟩
 go_wp2_with fail
 refine (nat_size_any _ n' cap' y _ HS'.out hy (by omega)).mono ?_
 rw [HJ.out]; rintro e w' ⟨rfl, rfl⟩
 go_wp2_with fail
 refine (HCMP.out _ HS.out HS'.out).mono ?_
 rintro e w1 ⟨rfl, HE⟩
 have hct1 := HE.cell' hct
 go_wp2_with fail
 refine (bits_LeadingZeros32_any t _ hyb).mono ?_
 obtain ⟨up, hup⟩ : ∃ up, up = 32 - bitlen t := ⟨_, rfl⟩
 rw [← hup]
 rw [← hup] at hNTU
 have hup31 := hNTU.1
 have HUP := hidP hup
 clear hup hbl
 rintro e w' ⟨rfl, rfl⟩
 go_wp2_with fail
 refine (nat_Shift_any _ n' cap' y (up : Int) _ (HS'.out.ext HE) hy (by omega) (by omega)).mono ?_
 rw [shl32_up (by omega)]
 rintro e w2 ⟨aZ, nZ, cZ, rfl, hsZ, he⟩
 have hZl := hsZ.int_len
 rw [hNTU.2.1] at hZl
 obtain rfl : nZ = j + 2 := by omega
 replace HE := HE.trans he
 clear he hct1 hct
 have hXs := HSX.out up (by omega)
 have HVZ := hidP (val_dig B32_two (val B32 y * 2 ^ up))
 have HZW : Ws (dig B32 (val B32 y * 2 ^ up)) := Ws.dig _
 have HTOP := hidP hNTU.2.2.1
 have HSTU := hidP (HST.out up)
 clear hNTU hZl HST HSX
 obtain ⟨Z, hZ⟩ : ∃ Z, Z = dig B32 (val B32 y * 2 ^ up) := ⟨_, rfl⟩
 rw [← hZ] at hsZ HVZ HZW HTOP
 have HZ := hidP hZ; clear hZ
 go_wp2_with (at_make; refine wpList_make (W := w2) (n := m + 1) T_u32' rfl _ _ rfl rfl rfl (Ext.refl _) (by omega) (by omega) rfl ?_; intro w3 hown he3 hsz)
 generalize hG : w2.heap.size = g at *
 have HG := hidP hG; clear hG
 have hsz3 : Hid (w3.heap.size = g + 1) := hidP hsz
 clear hsz
 refine (nat_Shift_any a n cap x (up : Int) _ ((HS.out.ext HE).ext he3) hx (by omega) (by omega)).mono ?_
 rw [shl32_up (by omega)]
 rintro e w4 ⟨aA, nA, cA, rfl, hsA, he4⟩
 have hAl := hsA.int_len
 rw [hAl] at hXs
 have HVA := hidP (val_dig B32_two (val B32 x * 2 ^ up))
 have hAW : Ws (dig B32 (val B32 x * 2 ^ up)) := Ws.dig _
 obtain ⟨A1, hA1⟩ : ∃ A1, A1 = dig B32 (val B32 x * 2 ^ up) := ⟨_, rfl⟩
 rw [← hA1] at hsA HVA hAW hAl
 clear hA1
 replace hown := ownsRow_extN hown he4
 replace he3 := he3.trans he4
 have hsz4 : g + 1 ≤ w4.heap.size := by have := hsz3.out; have := he4.size; omega
 clear he4 hsz3
 go_wp2_with (first | (at_make; refine wpList_make (W := w5) (n := M + 1) T_u32' rfl _ _ rfl rfl rfl (Ext.refl _) (by omega) (by omega) rfl ?_; intro w6 hown6 he6 hsz6) | (have _h := hown; refine wpList_copyRow (k := nA) T_u32' rfl _ _ rfl rfl rfl (by rw [HG.out]; exact hown) he3 hsA (ints_one _ _) (Nat.min_eq_left (by omega)).symm ?_; intro w5 hown5 he5))
 have hg5 := (Row.base hown5).2
 replace hown5 := ownsRow_extN hown5 he6
 replace he5 := he5.trans he6
 generalize hG5 : w5.heap.size = g5 at *
 have hgg : g ≠ g5 := by omega
 have hg2 : w2.heap.size ≤ g5 := by have := HG.out; omega
 have HG5 := hidP hG5; have HSZ6 := hidP hsz6
 clear hG5 hsz6 he6 hown _h
 obtain ⟨VA, hVA⟩ : ∃ VA, VA = val B32 x * 2 ^ up := ⟨_, rfl⟩
 obtain ⟨VV, hVV⟩ : ∃ VV, VV = val B32 y * 2 ^ up := ⟨_, rfl⟩
 rw [← hVA] at HVA HSTU
 rw [← hVV] at HVZ HSTU
 have HVAE := hidP hVA; have HVVE := hidP hVV
 clear hVA hVV
 have hD0 : List.take nA (ints IntKind.u32 A1) ++ List.drop nA (List.replicate (m + 1) (Value.int IntKind.u32 0)) = ints .u32 (A1 ++ List.replicate (m + 1 - nA) 0) := by
  rw [ints_append, List.take_of_length_le (by rw [ints_len]; omega), List.drop_replicate, replicate_ints]
 rw [hD0] at hown5
 clear hD0
 rw [replicate_ints] at hown6
 have hW1 : Ws (A1 ++ List.replicate (m + 1 - nA) 0) := by
  intro d hd
  rcases List.mem_append.1 hd with hd | hd
  · exact hAW d hd
  simp at hd; rw [hd.2]; decide
 have hW2 : Ws (List.replicate (M + 1) 0) := by intro d hd; simp at hd; rw [hd]; decide
 have HIN : Hid (VA = val B32 (A1 ++ List.replicate (m + 1 - nA) 0) + VV * (B32 ^ (M + 1) * val B32 ((List.replicate (M + 1) 0).drop (M + 1)))) := hidP (by
  rw [val_append, val_replicate, HVA.out]
  simp [val])
 have HLT : Hid (val B32 ((A1 ++ List.replicate (m + 1 - nA) 0).drop (M + 1)) < VV) := hidP (by
  have h1 := (val_drop_div B32 (by decide) _ hW1 (M + 1) (by simp; omega)).1
  rw [← h1, val_append, val_replicate, HVA.out, Nat.mul_zero, Nat.add_zero]
  have h2 := HSTU.out
  rw [show m - (j + 2) + 1 = M + 1 by have := HMM.out; omega] at h2
  exact (Nat.div_lt_iff_lt_mul (Nat.pow_pos (by decide))).2 (by rw [Nat.mul_comm]; exact h2))
 have hD0l : (A1 ++ List.replicate (m + 1 - nA) 0).length = m + 1 := by simp; omega
 have HD0L := hidP hD0l
 clear hAl hXs hD0l
 generalize A1 ++ List.replicate (m + 1 - nA) 0 = D0 at *
 generalize List.replicate (M + 1) 0 = O0 at *
 go_loopw [15] (fun iv wr => ∃ (k : Nat) (D O : List Nat), k ≤ M + 1 ∧ iv = .int .i64 ((k : Int) - 1) ∧ wr.ownsRow w2.heap.size 98 1 (.slice (some ⟨g, 0, none⟩) (m + 1) (m + 1)) (m + 1) (ints .u32 D) ∧ wr.ownsRow g5 98 1 (.slice (some ⟨g5, 0, none⟩) (M + 1) (M + 1)) (M + 1) (ints .u32 O) ∧ Ext w2 wr ∧ Ws D ∧ Ws O ∧
  VA = val B32 D + VV * (B32 ^ k * val B32 (O.drop k)) ∧ val B32 (D.drop k) < VV) (fun iv _ => (intOf iv + 1).toNat)
 case atStart => exact ⟨M + 1, D0, O0, by omega, by go_num, hown5, hown6, he5, hW1, hW2, HIN.out, HLT.out⟩
 clear hown5 hown6 he5 hW1 hW2 HIN HLT HD0L
 obtain ⟨k, D, O, hk, rfl, hrest, hout, he, hD, hO, hinv, hlt⟩ := hrel
 have HI := hidP hinv; have HL := hidP hlt
 clear hinv hlt
 by_cases h0 : 0 < k
 · obtain ⟨i, rfl⟩ : ∃ i, k = i + 1 := ⟨k - 1, by omega⟩
   have e1 : ((i + 1 : Nat) : Int) - 1 = (i : Int) := by omega
   rw [e1]
   clear e1
   have hDl := Row.len hrest
   have hOl := Row.len hout
   have hin : i + (j + 2) < m + 1 := by have := HMM.out; omega
   go_upto_region 18 with fail
   have e3 : i + (j + 2) + 1 - i = j + 3 := by omega
   rw [e3]
   clear e3
   have hrest0 := ownsRow_extN hrest ((Ext.refl wr).drew)
   have hout0 := ownsRow_extN hout ((Ext.refl wr).drew)
   have he0 := he.drew
   have hbz := (hsZ.ext he0).at_int (by omega)
   obtain ⟨bz, oz, rfl, hcz⟩ := hbz
   have hZl := hsZ.int_len
   have z1 := hcz (j + 1) (by omega)
   have z0 := hcz j (by omega)
   have hpl : ((D.drop i).take (j + 3)).length = j + 3 := by rw [List.length_take, List.length_drop]; omega
   have hpW : Ws ((D.drop i).take (j + 3)) := fun d hd => hD d (List.mem_of_mem_drop (List.mem_of_mem_take hd))
   have ez1 : Z.getD (j + 1) 0 = Z[j + 1] := by rw [List.getD_eq_getElem?_getD, List.getElem?_eq_getElem (by omega)]; rfl
   have ez0 : Z.getD j 0 = Z[j] := by rw [List.getD_eq_getElem?_getD, List.getElem?_eq_getElem (by omega)]; rfl
   have hzb1 := HZW.at (j + 1) (by omega)
   have hzb0 := HZW.at j (by omega)
   have htop := HTOP.out
   have hGF := guess_fin (B := B32) (p := (D.drop i).take (j + 3)) (Z := Z) (j := j) B32_two hpl hZl hpW HZW (by omega) (by
    have e : ((D.drop i).take (j + 3)).drop 1 = (D.drop (i + 1)).take (j + 2) := by
     rw [List.drop_take, List.drop_drop]; rfl
    rw [e, HVZ.out]
    refine Nat.lt_of_le_of_lt ?_ HL.out
    have h1 := val_append B32 ((D.drop (i + 1)).take (j + 2)) ((D.drop (i + 1)).drop (j + 2))
    rw [List.take_append_drop] at h1
    omega)
   rw [HVZ.out] at hGF
   rw [ez1] at htop hGF
   rw [ez0] at hGF
   have hsl := (Sl.of_owns' hrest0).part i (j + 3) (by omega)
   rw [Nat.zero_add] at hsl
   have HSL := hidP hsl
   have HGF1 := hidP hGF.1; have HGF2 := hidP hGF.2
   clear hGF ez1 ez0 hcz hsl hpl
   generalize Z[j + 1] = zt at *
   generalize Z[j] = zn at *
   have hzt : zt ≤ 4294967295 := by omega
   have hzn : zn ≤ 4294967295 := by omega
   have HGU := hidP (fun u h t1 t2 t3 t4 => nat_guess_any g i (m + 1 - i) j ((D.drop i).take (j + 3)) zt zn u h hpW (by omega) t1 t2 t3 t4)
   have HPW := hidP hpW
   clear hpW hzb1 hzb0
   have HFIN := hidP (fun D' q' => div_step (B := B32) (V := VV) (A := VA) (D := D) (D' := D') (O := O) (i := i) (n := j + 2) (q := q') B32_two (by have h1 := val_lt (B := B32) (by decide) Z HZW; rwa [HVZ.out, hZl] at h1) hD (by omega))
   have HDL := hidP hDl; have HOL := hidP hOl
   clear hDl hOl hZl
   have hj1 : IntKind.i64.wrap ((j : Int) + 2 - 1) = (j : Int) + 1 := by rw [show (j : Int) + 2 - 1 = (j : Int) + 1 by omega]; exact IntWalk.i64_in _ (by omega)
   have hj2 : IntKind.i64.wrap (j : Int) = (j : Int) := IntWalk.i64_in _ (by omega)
   have hj3 : ((j : Int) + 1).toNat = j + 1 := by omega
   have hj4 : 0 ≤ (j : Int) + 1 := by omega
   have hj5 : (j : Int) < (j : Int) + 2 := by omega
   refine wp_region_plan (R := Ext) (.q 0 (.q 1 (.q 2 (.q 3 (.q 4 (.q 5 (.q 6 (.q 7 (.q 8 (.q 9 (.q 10 (.l 11 (.q 12 .done))))))))))))) (by kernel_rfl) (by kernel_rfl) (by kernel_rfl) (by kernel_rfl) Ext.refl (fun _ _ _ => Ext.trans) ?_
   obtain ⟨wd, hwd⟩ : ∃ wd, wd = wr.drew := ⟨_, rfl⟩
   rw [← hwd] at hrest0 hout0 he0 z1 z0 HSL ⊢
   clear hwd
   repeat (refine wpE_q (v := ?_) rfl rfl (fun u hu => ?_) ?_; rotate_left 1; (focus (have k1 := hu.cell' z1; have k0 := hu.cell' z0; go_simp; (try rfl))); simp only [PU])
   refine wpE_l rfl rfl (fun K hK => ?_)
   go_simp
   refine (HGU.out _ HSL.out (by omega) hzt hzn HGF1.out).mono ?_
   generalize hqd : min (((((D.drop i).take (j + 3)).getD (j + 2) 0 * 4294967296 + ((D.drop i).take (j + 3)).getD (j + 1) 0) * 4294967296 + ((D.drop i).take (j + 3)).getD j 0) / (zt * 4294967296 + zn)) (4294967296 - 1) = q
   have hqb : q ≤ 4294967295 := by rw [← hqd]; exact Nat.min_le_right _ _
   have HGF3 : Hid (val B32 ((D.drop i).take (j + 3)) / VV ≤ q ∧ q ≤ val B32 ((D.drop i).take (j + 3)) / VV + 1) := hidP (by rw [← hqd]; exact HGF2.out)
   clear hqd HGF2 HGU
   rintro e w7 ⟨rfl, hu⟩
   refine hK.out _ _ hu ?_
   clear hK K
   try simp only [PU]
   replace hrest := ownsRow_extN hrest0 hu
   replace hout := ownsRow_extN hout0 hu
   replace he := he0.trans hu
   clear hrest0 hout0 he0 HSL hu z1 z0 hj1 hj2 hj3 hj4 hj5
   repeat (refine wpE_q (v := ?_) rfl rfl (fun u hu => ?_) ?_; rotate_left 1; (focus (go_simp; (try rfl))); simp only [PU])
   refine wpE_done ?_
   go_wp2_with fail
   refine (nat_take_any w2 g (m + 1) i (j + 2) (m + 1 - i) D Z q _ cZ _ hrest he hsZ HZW hD (by omega) (by omega) hqb).mono ?_
   rintro e w8 ⟨D1, br, rfl, hrest1, he1, hbut, hD1, htk, hdr, hbr, hval⟩
   replace hout := hbut.row hout (Ne.symm hgg)
   have hD1l := Row.len hrest1
   have HP1 : Hid (val B32 ((D1.drop i).take (j + 2 + 1)) < B32 ^ (j + 2 + 1)) := hidP (by
    have := val_lt (B := B32) (by decide) ((D1.drop i).take (j + 2 + 1)) (fun d hd => hD1 d (List.mem_of_mem_drop (List.mem_of_mem_take hd)))
    rwa [List.length_take, List.length_drop, Nat.min_eq_left (by omega)] at this)
   have HTK := hidP htk; have HDR := hidP hdr; have HV := hidP hval
   have HVV0 : Hid (0 < VV) := hidP (by have := HL.out; omega)
   clear hrest htk hdr hval hbut
   have hstO := fun v => Row.store hout i v
   have HSTO := hidP hstO
   have hoc : i < O.length := by have := HOL.out; omega
   have hcO := Row.cell hout i hoc
   have hfO := Row.free hout i
   clear hstO
   by_cases hb0 : br = 0
   · have HF := hidP (take_fin0 HV.out hb0 (by have := HGF3.out.1; rw [HVZ.out]; exact this) (by have := HGF3.out.2; rw [HVZ.out]; exact this) (by rw [HVZ.out]; exact HVV0.out))
     rw [HVZ.out] at HF
     have HDS := hidP (HFIN.out D1 q (by rw [hD1l, HDL.out]) HTK.out HDR.out HI.out HL.out (by have := HDL.out; omega) HF.out.1 HF.out.2)
     subst hb0
     rw [decide_eq_true rfl]
     clear HGF3 HF HV HP1 HFIN hD1l
     go_wp2
     go_roundw
     case rel =>
      refine ⟨i, D1, O.set i q, by omega, rfl, ?_, HSTO.out q, he1.store hg2 _, hD1, set_lt hO _ _ (by unfold B32; omega), HDS.out.1, HDS.out.2⟩
      exact (But.refl _ g5).store.row hrest1 hgg
     case measure => simp [intOf]
   obtain rfl : br = 1 := by omega
   rw [decide_eq_false (by decide)]
   go_wp2_with fail
   refine (nat_give_any w2 g (m + 1) i (j + 2) (m + 1 - i) D1 Z _ cZ _ hrest1 he1 hsZ HZW hD1 (by omega) (by omega)).mono ?_
   rintro e w9 ⟨rfl, D2, c2, hrest2, he2, hbut2, hD2, htk2, hdr2, hc2, hval2⟩
   replace hout := hbut2.row hout (Ne.symm hgg)
   have hD2l := Row.len hrest2
   have HP2 : Hid (val B32 ((D2.drop i).take (j + 2 + 1)) < B32 ^ (j + 2 + 1)) := hidP (by
    have := val_lt (B := B32) (by decide) ((D2.drop i).take (j + 2 + 1)) (fun d hd => hD2 d (List.mem_of_mem_drop (List.mem_of_mem_take hd)))
    rwa [List.length_take, List.length_drop, Nat.min_eq_left (by omega)] at this)
   have HF := hidP (take_fin1 HV.out HP1.out hc2 hval2 HP2.out (by have := HGF3.out.1; rw [HVZ.out]; exact this) (by have := HGF3.out.2; rw [HVZ.out]; exact this) (by rw [HVZ.out]; exact HVV0.out))
   rw [HVZ.out] at HF
   have HDS := hidP (HFIN.out D2 (q - 1) (by rw [hD2l, HDL.out]) (by rw [htk2, HTK.out]) (by rw [hdr2, HDR.out]) HI.out HL.out (by have := HDL.out; omega) HF.out.2.1 HF.out.2.2)
   have hq1 := HF.out.1
   obtain ⟨q1, rfl⟩ : ∃ q1, q = q1 + 1 := ⟨q - 1, by omega⟩
   rw [Nat.add_sub_cancel] at HDS
   have hcO2 := Row.cell hout i hoc
   have hfO2 := Row.free hout i
   replace HSTO := hidP (fun v => Row.store hout i v)
   clear HGF3 HF HV HP1 HP2 HFIN hD1l hval2 htk2 hdr2 hbut2 hrest1 hcO hfO
   go_wp2
   go_roundw
   case rel =>
    refine ⟨i, D2, O.set i q1, by omega, rfl, ?_, HSTO.out q1, he2.store hg2 _, hD2, set_lt hO _ _ (by unfold B32; omega), HDS.out.1, HDS.out.2⟩
    exact (But.refl _ g5).store.row hrest2 hgg
   case measure => simp [intOf]
 obtain rfl : k = 0 := by omega
 have hinv := HI.out
 have hlt := HL.out
 simp only [List.drop_zero, Nat.pow_zero, Nat.one_mul] at hinv hlt
 have HEND := hidP (div_end HVAE.out HVVE.out hinv hlt)
 have HY0 : Hid (val B32 y ≠ 0) := hidP (by
  intro h0
  have := HJ.out
  rw [h0, dig_zero] at this
  simp at this)
 have hDl := Row.len hrest
 have hOl := Row.len hout
 clear hinv hlt HI HL
 have hneg : IntKind.i64.wrap (-(up : Int)) = -(up : Int) := IntWalk.i64_in _ (by omega)
 have hslO := Sl.of_owns' hout
 have hcl := dig_val_len B32_two O hO
 have HSO := hidP (fun u h => nat_size_any (some ⟨g5, 0, none⟩) (M + 1) (M + 1) O u h hO (by have := HMM.out; omega))
 have HCUT := hidP (fun (u : World) (h : Sl u (some ⟨g5, 0, none⟩) (M + 1) (M + 1) (ints .u32 O)) => cut_sl32 h hO)
 generalize hk5 : (dig B32 (val B32 O)).length = k5 at *
 have HK5 := hidP hk5; clear hk5
 go_wp2_with fail
 refine wp_region_plan (R := Ext) (.q 0 (.q 1 (.q 4 (.q 5 (.q 6 (.l 2 (.q 3 (.l 7 (.q 8 (.q 9 (.q 10 .done))))))))))) (by kernel_rfl) (by kernel_rfl) (by kernel_rfl) (by kernel_rfl) Ext.refl (fun _ _ _ => Ext.trans) ?_
 replace hslO := hslO.ext ((Ext.refl _).drew)
 have hslD := (Sl.of_owns' hrest).ext ((Ext.refl _).drew)
 replace he := he.drew
 obtain ⟨wd, hwd⟩ : ∃ wd, wd = wr.drew := ⟨_, rfl⟩
 rw [← hwd] at hslO hslD he ⊢
 clear hwd hrest hout
 repeat (refine wpE_q (v := ?_) rfl rfl (fun u hu => ?_) ?_; rotate_left 1; (focus (go_simp; (try rfl))); simp only [PU])
 refine wpE_l rfl rfl (fun K hK => ?_)
 go_simp
 refine (HSO.out _ hslO).mono ?_
 rintro e u ⟨rfl, rfl⟩
 refine hK.out _ _ (Ext.refl _) ?_
 clear hK K
 try simp only [PU]
 have hk5b : k5 ≤ M + 1 := by omega
 have hk5i : (k5 : Int) ≤ (M : Int) + 1 := by omega
 repeat (refine wpE_q (v := ?_) rfl rfl (fun u hu => ?_) ?_; rotate_left 1; (focus (go_simp; (try rfl))); simp only [PU])
 refine wpE_l rfl rfl (fun K hK => ?_)
 go_simp
 refine (nat_Shift_any _ (m + 1) (m + 1) D (-(up : Int)) _ hslD hD (by omega) (by omega)).mono ?_
 rw [shl32_down (by omega), HEND.out.2]
 rintro e u2 ⟨aR, nR, cR, rfl, hsR, hu2⟩
 refine hK.out _ _ hu2 ?_
 clear hK K
 try simp only [PU]
 replace hslO := hslO.ext hu2
 replace he := he.trans hu2
 clear hu2
 repeat (refine wpE_q (v := ?_) rfl rfl (fun u hu => ?_) ?_; rotate_left 1; (focus (go_simp; (try rfl))); simp only [PU])
 refine wpE_done ?_
 go_wp2_with fail
 go_ret3
 have h5 := HCUT.out _ hslO
 rw [HEND.out.1] at h5
 exact ⟨_, _, _, _, _, _, by rw [decide_eq_true HY0.out]; rfl, by rw [if_neg HY0.out]; exact h5, by rw [if_neg HY0.out]; exact hsR, HE.trans he⟩
end Go.Proofs.YtgjjalnmigdjgaaGreat
namespace Go.Proofs.YtgjjalnmigdjgaaGreat
set_option linter.unusedVariables false
open Go Go.RowKit
set_option maxRecDepth 100000 in
set_option maxHeartbeats 2000000 in
theorem nat_Div_any (a a' : Option Addr) (n cap n' cap' : Nat) (x y : List Nat) (w : World) (hs : Sl w a n cap (ints .u32 x)) (hs' : Sl w a' n' cap' (ints .u32 y)) (hx : Ws x) (hy : Ws y)
    (hn : n ≤ 1099511627776) (hn' : n' ≤ 1099511627776) :
    Calls Tryz.prog 199 #[.slice a n cap, .slice a' n' cap'] w (RetDiv w (val B32 x) (val B32 y)) := by
 have hlen' := hs'.int_len
 have hmn' := dig_val_len B32_two y hy
 have hvy := val_dig B32_two (val B32 y)
 by_cases h2 : 2 ≤ (dig B32 (val B32 y)).length ∧ val B32 y ≤ val B32 x
 · exact nat_Div_big a a' n cap n' cap' x y w hs hs' hx hy hn hn' ((dig B32 (val B32 y)).length - 2) (by omega) h2.2
 by_cases h0 : (dig B32 (val B32 y)).length = 0
 · have hy0 : val B32 y = 0 := by
    rw [List.eq_nil_of_length_eq_zero h0] at hvy
    rw [← hvy]; rfl
   have HR : Hid (∀ u, Ext w u → RetDiv w (val B32 x) (val B32 y) (.returned (.tuple #[.slice none 0 0, .slice none 0 0, .bool false])) u) := hidP (fun u hu =>
    ⟨none, 0, 0, none, 0, 0, by rw [hy0]; rfl, by rw [if_pos hy0]; exact Sl.nil _, by rw [if_pos hy0]; exact Sl.nil _, hu⟩)
   have H0 := hidP h0
   clear h0 h2 hvy hmn' hy0
   generalize RetDiv w (val B32 x) (val B32 y) = R at *
   go_enter Tryz.func199, Tryz.ntmps199
   go_wp2_with fail
   refine (nat_size_any a n cap x _ hs hx (by omega)).mono ?_
   generalize (dig B32 (val B32 x)).length = lx
   rintro e w' ⟨rfl, rfl⟩
   go_wp2_with fail
   refine (nat_size_any a' n' cap' y _ hs' hy (by omega)).mono ?_
   rw [H0.out]
   rintro e w' ⟨rfl, rfl⟩
   go_wp2_with fail
   go_ret3
   exact HR.out _ (Ext.refl _)
 have hy0 : val B32 y ≠ 0 := by
  intro h
  rw [h, dig_zero] at h0
  exact h0 rfl
 by_cases hlt : val B32 x < val B32 y
 · have HC := hidP (cmpI_lt hlt)
   have HD := hidP (Nat.div_eq_of_lt hlt); have HM := hidP (Nat.mod_eq_of_lt hlt)
   have HY0 := hidP hy0
   have hz : (((dig B32 (val B32 y)).length : Int) == 0) = false := by simp [h0]
   generalize hky : (dig B32 (val B32 y)).length = ky at *
   have HKY := hidP hky
   have HS := hidP hs; have HS' := hidP hs'
   clear h0 h2 hvy hmn' hy0 hlt hky hs hs'
   go_enter Tryz.func199, Tryz.ntmps199
   go_wp2_with fail
   refine (nat_size_any a n cap x _ HS.out hx (by omega)).mono ?_
   generalize (dig B32 (val B32 x)).length = lx
   rintro e w' ⟨rfl, rfl⟩
   go_wp2_with fail
   refine (nat_size_any a' n' cap' y _ HS'.out hy (by omega)).mono ?_
   rw [HKY.out]
   rintro e w' ⟨rfl, rfl⟩
   go_wp2_with fail
   refine (nat_Cmp_any a a' n cap n' cap' x y _ HS.out HS'.out hx hy hn hn').mono ?_
   rw [HC.out]
   rintro e w1 ⟨rfl, he1⟩
   go_wp2_with fail
   refine (nat_Trim_any a n cap x _ (HS.out.ext he1) hx (by omega)).mono ?_
   rintro e w2 ⟨a2, n2, c2, rfl, hs2, he2⟩
   go_wp2_with fail
   go_ret3
   exact ⟨none, 0, 0, _, _, _, by rw [decide_eq_true HY0.out]; rfl, by rw [if_neg HY0.out, HD.out, dig_zero]; exact Sl.nil _, by rw [if_neg HY0.out, HM.out]; exact hs2, he1.trans he2⟩
 have hge : val B32 y ≤ val B32 x := by omega
 have hc0 := cmpI_ge hge
 have h1 : (dig B32 (val B32 y)).length = 1 := by omega
 obtain ⟨hi0, hy1⟩ := dig_get hy 0 (by omega)
 have hval : y[0]'hi0 = val B32 y := by
  rw [hy1]
  have hh := val_head B32 (dig B32 (val B32 y))
  have ht : (dig B32 (val B32 y)).tail = [] := List.eq_nil_of_length_eq_zero (by rw [List.length_tail, h1])
  rw [ht, hvy] at hh
  simp only [val, Nat.mul_zero, Nat.add_zero] at hh
  exact hh.symm
 have hdb := hy.at 0 hi0
 have HCMP := hidP (fun u h h' => nat_Cmp_any a a' n cap n' cap' x y u h h' hx hy hn hn')
 have HSZ := hidP (nat_size_any a' n' cap' y w hs' hy (by omega))
 obtain ⟨b, off, rfl, hcell⟩ := hs'.at_int (by omega)
 have hcd := hcell 0 hi0
 rw [Nat.add_zero] at hcd
 rw [h1] at HSZ
 rw [hval] at hcd hdb
 generalize cmpI (val B32 x) (val B32 y) = cc at *
 have HS := hidP hs; have HS' := hidP hs'
 have hd0 : 1 ≤ val B32 y := by omega
 have hd2 : val B32 y ≤ 4294967295 := by omega
 have HRES : Hid (∀ a2 n2 c2 a3 n3 c3 u, Sl u a2 n2 c2 (ints .u32 (dig B32 (val B32 x / val B32 y))) → Sl u a3 n3 c3 (ints .u32 (dig B32 (val B32 x % val B32 y))) → Ext w u → RetDiv w (val B32 x) (val B32 y) (.returned (.tuple #[.slice a2 n2 c2, .slice a3 n3 c3, .bool true])) u) := hidP (fun a2 n2 c2 a3 n3 c3 u t1 t2 t3 =>
  ⟨a2, n2, c2, a3, n3, c3, by rw [decide_eq_true hy0], by rw [if_neg hy0]; exact t1, by rw [if_neg hy0]; exact t2, t3⟩)
 generalize hR : RetDiv w (val B32 x) (val B32 y) = R at *
 clear hR h2 hy0 h0 hlt hge h1 hy1 hval hvy hmn' hcell hs hs'
 generalize val B32 y = d at *
 go_enter Tryz.func199, Tryz.ntmps199
 go_wp2_with fail
 refine (nat_size_any a n cap x _ HS.out hx (by omega)).mono ?_
 generalize (dig B32 (val B32 x)).length = lx
 rintro e w' ⟨rfl, rfl⟩
 go_wp2_with fail
 refine HSZ.out.mono ?_
 rintro e w' ⟨rfl, rfl⟩
 go_wp2_with fail
 refine (HCMP.out _ HS.out HS'.out).mono ?_
 rintro e w1 ⟨rfl, he1⟩
 have hcd1 := he1.cell' hcd
 go_wp2_with fail
 have hbn : n ≤ 4398046511105 := by omega
 have hh := nat_small_any a n cap x d w1 (HS.out.ext he1) hx hbn hd0 hd2
 refine hh.mono ?_
 clear hh
 have hmd : val B32 x % d ≤ 4294967295 := by have := Nat.mod_lt (val B32 x) hd0; omega
 rintro e w2 ⟨g2, n2, c2, rfl, hs2, he2, hb2⟩
 generalize val B32 x % d = r at *
 generalize val B32 x / d = q at *
 clear hcd1
 go_wp2_with fail
 refine (nat_Of_any r _ (by omega)).mono ?_
 rintro e w3 ⟨a3, n3, c3, rfl, hs3, he3⟩
 go_wp2_with fail
 go_ret3
 exact HRES.out _ _ _ _ _ _ _ (hs2.ext he3) hs3 (he1.trans (he2.trans he3))
end Go.Proofs.YtgjjalnmigdjgaaGreat
