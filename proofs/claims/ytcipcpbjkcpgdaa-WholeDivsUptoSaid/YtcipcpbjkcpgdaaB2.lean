/- The program's numbers (nat): how two stand, sums, differences. -/
import Derived.Test.YtcipcpbjkcpgdaaB1
namespace Go.Proofs.Ytcipcpbjkcpgdaa
set_option linter.unusedVariables false
open Go Go.RowKit

/-- What the walks take of a number's words: its digits X, as many as count; the list reads on with noughts. -/
theorem dig_get {l : List Nat} (hl : Ws l) (i : Nat) (hi : i < (dig B32 (val B32 l)).length) : ∃ h : i < l.length, l[i] = (dig B32 (val B32 l)).getD i 0 := by
  have h1 := dig_val_len B32_two l hl
  have h2 := take_dig_len B32_two l hl
  refine ⟨by omega, ?_⟩
  rw [List.getD_eq_getElem?_getD]
  have : (dig B32 (val B32 l))[i]? = some l[i] := by
    rw [← h2, List.getElem?_take]
    simp [hi, show i < l.length by omega]
  rw [this]; rfl

theorem cut_sl32 {w : World} {a : Option Addr} {n cap : Nat} {D : List Nat} (hsl : Sl w a n cap (ints .u32 D)) (hD : Ws D) : Sl w a (dig B32 (val B32 D)).length cap (ints .u32 (dig B32 (val B32 D))) := by
  have ht := take_dig_len B32_two D hD
  have hx := hsl.take (dig B32 (val B32 D)).length (by have := dig_val_len B32_two D hD; have := hsl.int_len; omega)
  rw [ints_take, ht] at hx
  exact hx

theorem dig_lt_of_len {B a b : Nat} (hB : 2 ≤ B) (h : (dig B a).length < (dig B b).length) : a < b := by
  rcases Nat.lt_or_ge a b with h1 | h1
  · exact h1
  · have := dig_mono hB h1; omega

theorem canon_of_len {B : Nat} (hB : 2 ≤ B) {D : List Nat} (hD : ∀ x ∈ D, x < B) (h : D.length = 0 ∨ B ^ (D.length - 1) ≤ val B D) : dig B (val B D) = D := by
  have h1 := take_dig_len hB D hD
  have h2 := dig_val_len hB D hD
  have h3 : (dig B (val B D)).length = D.length := by
    rcases h with h | h
    · omega
    · rcases Nat.lt_or_ge (dig B (val B D)).length D.length with h4 | h4
      · have := le_of_dig_len hB (Nat.le_sub_one_of_lt h4); omega
      · omega
  rw [← h1, h3, List.take_length]

set_option maxHeartbeats 1000000 in
theorem nat_Cmp_any (a a' : Option Addr) (n cap n' cap' : Nat) (x y : List Nat) (w : World) (hs : Sl w a n cap (ints .u32 x)) (hs' : Sl w a' n' cap' (ints .u32 y)) (hx : Ws x) (hy : Ws y)
    (hn : n ≤ 1099511627776) (hn' : n' ≤ 1099511627776) :
    Calls Try.prog 38 #[.slice a n cap, .slice a' n' cap'] w fun e w' => e = .returned (.int .i64 (cmpI (val B32 x) (val B32 y))) ∧ Ext w w' := by
  have hlen := hs.int_len
  have hlen' := hs'.int_len
  have hdx := fun i => dig_get hx i
  have hdy := fun i => dig_get hy i
  have hXH : Ws (dig B32 (val B32 x)) := Ws.dig _
  have hYH : Ws (dig B32 (val B32 y)) := Ws.dig _
  have hvx := val_dig B32_two (val B32 x)
  have hvy := val_dig B32_two (val B32 y)
  have hdl := fun h => dig_lt_of_len (a := val B32 x) (b := val B32 y) B32_two h
  have hdg := fun h => dig_lt_of_len (a := val B32 y) (b := val B32 x) B32_two h
  have hmn := dig_val_len B32_two x hx
  have hmn' := dig_val_len B32_two y hy
  obtain ⟨X, hX⟩ : ∃ X, X = dig B32 (val B32 x) := ⟨_, rfl⟩
  obtain ⟨Y, hY⟩ : ∃ Y, Y = dig B32 (val B32 y) := ⟨_, rfl⟩
  rw [← hX] at hdx hXH hvx hdl hdg hmn
  rw [← hY] at hdy hYH hvy hdl hdg hmn'
  have HX := hidP hX; have HY := hidP hY; clear hX hY
  have HDX := hidP hdx; have HDY := hidP hdy; have HVX := hidP hvx; have HVY := hidP hvy; have HDL := hidP hdl; have HDG := hidP hdg
  clear hdx hdy hvx hvy hdl hdg
  obtain ⟨m, hm⟩ : ∃ m, m = X.length := ⟨_, rfl⟩
  obtain ⟨k0, hk0⟩ : ∃ k0, k0 = Y.length := ⟨_, rfl⟩
  rw [← hm] at hmn; rw [← hk0] at hmn'
  have HM := hidP hm; have HK := hidP hk0; clear hm hk0
  go_enter Try.func38, Try.ntmps38
  go_wp2_with fail
  refine (nat_size_any a n cap x _ hs hx (by omega)).mono ?_
  rw [← HX.out, ← HM.out]; rintro e w' ⟨rfl, rfl⟩
  go_wp2_with fail
  refine (nat_size_any a' n' cap' y _ hs' hy (by omega)).mono ?_
  rw [← HY.out, ← HK.out]; rintro e w' ⟨rfl, rfl⟩
  by_cases h1 : m < k0
  · have HC : Hid (cmpI (val B32 x) (val B32 y) = -1) := hidP (cmpI_lt (HDL.out (by rw [← HM.out, ← HK.out]; exact h1)))
    go_wp2
    go_ret
    exact ⟨ret_int HC.out.symm, Ext.refl _⟩
  by_cases h2 : k0 < m
  · have HC : Hid (cmpI (val B32 x) (val B32 y) = 1) := hidP (by
      have := HDG.out (by rw [← HM.out, ← HK.out]; exact h2)
      simp [cmpI, this, show ¬ val B32 x < val B32 y by omega])
    go_wp2
    go_ret
    exact ⟨ret_int HC.out.symm, Ext.refl _⟩
  have hmk : m = k0 := by omega
  subst hmk
  clear h1 h2
  go_wp2_with fail
  go_loopw [7] (fun i wr => ∃ k : Nat, k ≤ m ∧ i = .int .i64 ((k : Int) - 1) ∧ Ext w wr ∧ ∀ j, k ≤ j → X.getD j 0 = Y.getD j 0) (fun i _ => (intOf i + 1).toNat)
  case atStart =>
    refine ⟨m, by omega, by go_num, Ext.refl _, fun j hj => ?_⟩
    rw [List.getD_eq_getElem?_getD, List.getD_eq_getElem?_getD, List.getElem?_eq_none (by have := HM.out; omega), List.getElem?_eq_none (by have := HK.out; omega)]
  case round =>
    obtain ⟨k, hk, rfl, he, hsame⟩ := hrel
    have HS := hidP hsame; clear hsame
    by_cases h0 : 0 < k
    · obtain ⟨i, rfl⟩ : ∃ i, k = i + 1 := ⟨k - 1, by omega⟩
      have e1 : ((i + 1 : Nat) : Int) - 1 = (i : Int) := by omega
      rw [e1]
      clear e1
      obtain ⟨b, off, rfl, hc⟩ := (hs.ext he).at_int (by omega)
      obtain ⟨b', off', rfl, hc'⟩ := (hs'.ext he).at_int (by omega)
      obtain ⟨hi1, hxi⟩ := HDX.out i (by have := HM.out; omega)
      obtain ⟨hi2, hyi⟩ := HDY.out i (by have := HK.out; omega)
      have hck := hc i hi1
      have hck' := hc' i hi2
      rw [hxi] at hck
      rw [hyi] at hck'
      clear hc hc' hxi hyi
      generalize hP : X.getD i 0 = p at *
      generalize hQ : Y.getD i 0 = q at *
      have HP := hidP hP; have HQ := hidP hQ; clear hP hQ
      by_cases h3 : p < q
      · have HC : Hid (cmpI (val B32 x) (val B32 y) = -1) := hidP (by
          have := val_lt_of (by decide) i X Y hXH (by rw [HP.out, HQ.out]; exact h3) (fun j hj => HS.out j (by omega))
          rw [HVX.out, HVY.out] at this
          exact cmpI_lt this)
        go_wp2
        go_quiet (fail)
        go_wp2
        go_ret
        exact ⟨ret_int HC.out.symm, he.drewN _⟩
      · by_cases h4 : q < p
        · have HC : Hid (cmpI (val B32 x) (val B32 y) = 1) := hidP (by
            have := val_lt_of (by decide) i Y X hYH (by rw [HP.out, HQ.out]; exact h4) (fun j hj => (HS.out j (by omega)).symm)
            rw [HVX.out, HVY.out] at this
            simp [cmpI, this, show ¬ val B32 x < val B32 y by omega])
          go_wp2
          go_quiet (fail)
          go_wp2
          go_quiet (fail)
          go_wp2
          go_ret
          exact ⟨ret_int HC.out.symm, (he.drewN _).drewN _⟩
        · go_wp2
          go_quiet (fail)
          go_wp2
          go_quiet (fail)
          go_wp2
          go_roundw
          case rel =>
            refine ⟨i, by omega, rfl, he.drewN _, fun j hj => ?_⟩
            by_cases hji : j = i
            · subst hji; rw [HP.out, HQ.out]; omega
            · exact HS.out j (by omega)
          case measure => simp [intOf]
    · obtain rfl : k = 0 := by omega
      have HC : Hid (cmpI (val B32 x) (val B32 y) = 0) := hidP (by
        have := val_eq_of B32 (X.length + Y.length) X Y (by omega) (by omega) (fun j => HS.out j (by omega))
        rw [HVX.out, HVY.out] at this
        simp [cmpI, this])
      go_wp2
      go_ret
      exact ⟨ret_int HC.out.symm, he⟩

set_option maxHeartbeats 1000000 in
theorem nat_Add_ge (a a' : Option Addr) (n cap n' cap' : Nat) (x y : List Nat) (w : World) (hs : Sl w a n cap (ints .u32 x)) (hs' : Sl w a' n' cap' (ints .u32 y)) (hx : Ws x) (hy : Ws y)
    (hn : n ≤ 1099511627776) (hn' : n' ≤ 1099511627776) (hge : (dig B32 (val B32 y)).length ≤ (dig B32 (val B32 x)).length) :
    Calls Try.prog 40 #[.slice a n cap, .slice a' n' cap'] w (RetSl w (ints .u32 (dig B32 (val B32 x + val B32 y)))) := by
  have hlen := hs.int_len
  have hlen' := hs'.int_len
  have hdx := fun i => dig_get hx i
  have hdy := fun i => dig_get hy i
  have hCX := canon_dig B32_two (val B32 x)
  have hYH : Ws (dig B32 (val B32 y)) := Ws.dig _
  have hvx := val_dig B32_two (val B32 x)
  have hvy := val_dig B32_two (val B32 y)
  have hpx := fun h => pow_le_of_dig (n := val B32 x) B32_two h
  have hmn := dig_val_len B32_two x hx
  have hmn' := dig_val_len B32_two y hy
  obtain ⟨X, hX⟩ : ∃ X, X = dig B32 (val B32 x) := ⟨_, rfl⟩
  obtain ⟨Y, hY⟩ : ∃ Y, Y = dig B32 (val B32 y) := ⟨_, rfl⟩
  rw [← hX] at hdx hCX hvx hpx hmn hge
  rw [← hY] at hdy hYH hvy hmn' hge
  have HX := hidP hX; have HY := hidP hY; clear hX hY
  have HDX := hidP hdx; have HDY := hidP hdy; have HVX := hidP hvx; have HVY := hidP hvy; have HPX := hidP hpx
  clear hdx hdy hvx hvy hpx
  obtain ⟨m, hm⟩ : ∃ m, m = X.length := ⟨_, rfl⟩
  obtain ⟨k0, hk0⟩ : ∃ k0, k0 = Y.length := ⟨_, rfl⟩
  rw [← hm] at hmn hge; rw [← hk0] at hmn' hge
  have HM := hidP hm; have HK := hidP hk0; clear hm hk0
  have hXH : Ws X := hCX.1
  go_enter Try.func40, Try.ntmps40
  go_wp2_with fail
  refine (nat_size_any a n cap x _ hs hx (by omega)).mono ?_
  rw [← HX.out, ← HM.out]; rintro e w' ⟨rfl, rfl⟩
  go_wp2_with fail
  refine (nat_size_any a' n' cap' y _ hs' hy (by omega)).mono ?_
  rw [← HY.out, ← HK.out]; rintro e w' ⟨rfl, rfl⟩
  go_wp2_with (at_make; refine wpList_make0 (W := w) (n := m + 1) T_u32' rfl _ _ rfl rfl rfl (Ext.refl _) (by omega) (by omega) ?_; intro w1 hown he1)
  go_loopw [7, 8, 27] (fun v c i wr => ∃ (k cc : Nat) (D : List Nat), k ≤ m ∧ i = .int .i64 k ∧ c = .int .u32 (cc : Nat) ∧ wr.ownsRow w.heap.size 57 1 v k (ints .u32 D) ∧ Ext w wr ∧ cc ≤ 1 ∧ D.length = k ∧ Ws D ∧ val B32 D + B32 ^ k * cc = val B32 (X.take k) + val B32 (Y.take k)) (fun _ _ i _ => m - (intOf i).toNat)
  case atStart => exact ⟨0, 0, [], by omega, rfl, rfl, hown, he1, by omega, rfl, by simp [Ws], by simp [val]⟩
  case round =>
    clear hown he1
    obtain ⟨k, cc, D, hk, rfl, rfl, hown, he, hcc, hDl, hD, hv⟩ := hrel
    have HV := hidP hv; clear hv
    by_cases h0 : k < m
    · obtain ⟨b, off, rfl, hc⟩ := (hs.ext he).at_int (by omega)
      obtain ⟨hi1, hxi⟩ := HDX.out k (by have := HM.out; omega)
      have hck := hc k hi1
      rw [hxi] at hck
      clear hc hxi
      have hpb := getD_lt (B := B32) (by decide) hXH k
      have hqb := getD_lt (B := B32) (by decide) hYH k
      generalize hP : X.getD k 0 = p at *
      have HP := hidP hP; clear hP
      have hp1 : p ≤ 4294967295 := by unfold B32 at hpb; omega
      clear hpb
      by_cases h1 : k < k0
      · obtain ⟨b', off', rfl, hc'⟩ := (hs'.ext he).at_int (by omega)
        obtain ⟨hi2, hyi⟩ := HDY.out k (by have := HK.out; omega)
        have hck' := hc' k hi2
        rw [hyi] at hck'
        clear hc' hyi
        generalize hQ : Y.getD k 0 = q at *
        have HQ := hidP hQ; clear hQ
        have hq1 : q ≤ 4294967295 := by unfold B32 at hqb; omega
        clear hqb
        go_wp2_with fail
        refine (bits_Add32_any p q cc _ hp1 hq1 hcc).mono ?_
        rintro e w' ⟨rfl, rfl⟩
        go_wp2_with (at_builtin; refine wpList_app1 T_u32' rfl _ _ rfl hown he _ rfl rfl rfl (by omega) (by omega) ?_; intro v' w' hown' he')
        go_roundw
        case rel =>
          refine ⟨k + 1, (p + q + cc) / 4294967296, D ++ [(p + q + cc) % 4294967296], by omega, by go_num, rfl, ?_, he', by omega, by simp [hDl], ?_, ?_⟩
          · rw [ints_append]; exact hown'
          · intro d hd
            rcases List.mem_append.1 hd with hd | hd
            · exact hD d hd
            · simp at hd; subst hd; exact Nat.mod_lt _ (by decide)
          · have := add_step (B := B32) (x := p) (y := q) HV.out
            rw [val_take_snoc, val_take_snoc, HP.out, HQ.out, val_snoc, hDl, Nat.pow_succ]
            exact this
        case measure => simp only [intOf]; omega
      · have HQ : Hid (Y.getD k 0 = 0) := hidP (by rw [List.getD_eq_getElem?_getD, List.getElem?_eq_none (by have := HK.out; omega)]; rfl)
        clear hqb
        go_wp2_with fail
        refine (bits_Add32_any p 0 cc _ hp1 (by omega) hcc).mono ?_
        rintro e w' ⟨rfl, rfl⟩
        go_wp2_with (at_builtin; refine wpList_app1 T_u32' rfl _ _ rfl hown he _ rfl rfl rfl (by omega) (by omega) ?_; intro v' w' hown' he')
        go_roundw
        case rel =>
          refine ⟨k + 1, (p + 0 + cc) / 4294967296, D ++ [(p + 0 + cc) % 4294967296], by omega, by go_num, by refine congrArg _ ?_; omega, ?_, he', by omega, by simp [hDl], ?_, ?_⟩
          · rw [ints_append]; exact hown'
          · intro d hd
            rcases List.mem_append.1 hd with hd | hd
            · exact hD d hd
            · simp at hd; subst hd; exact Nat.mod_lt _ (by decide)
          · have := add_step (B := B32) (x := p) (y := 0) HV.out
            rw [val_take_snoc, val_take_snoc, HP.out, HQ.out, val_snoc, hDl, Nat.pow_succ]
            exact this
        case measure => simp only [intOf]; omega
    · obtain rfl : k = m := by omega
      have hv := HV.out
      rw [List.take_of_length_le (by have := HM.out; omega), List.take_of_length_le (by have := HK.out; omega), HVX.out, HVY.out] at hv
      have HV2 := hidP hv; clear hv HV
      have hge0 : k = 0 ∨ B32 ^ (k - 1) ≤ val B32 x := by
        by_cases hz : val B32 x = 0
        · left
          rw [HM.out, HX.out, hz, dig_zero]; rfl
        · right
          rw [HM.out]; exact HPX.out hz
      by_cases hc0 : 0 < cc
      · have HD : Hid (dig B32 (val B32 x + val B32 y) = D ++ [cc]) := hidP (by
          have h5 : val B32 (D ++ [cc]) = val B32 x + val B32 y := by rw [val_snoc, hDl]; exact HV2.out
          rw [← h5]
          refine canon_of_len B32_two ?_ (.inr ?_)
          · intro d hd
            rcases List.mem_append.1 hd with hd | hd
            · exact hD d hd
            · simp at hd; subst hd; unfold B32; omega
          · rw [val_snoc, hDl]
            simp only [List.length_append, List.length_singleton, hDl, Nat.add_sub_cancel]
            have : B32 ^ k * 1 ≤ B32 ^ k * cc := Nat.mul_le_mul_left _ hc0
            omega)
        go_wp2_with (at_builtin; refine wpList_app1 T_u32' rfl _ _ rfl hown he _ rfl rfl rfl (by omega) (by omega) ?_; intro v' w' hown' he')
        go_ret
        obtain ⟨a5, cap5, rfl, hsl⟩ := Sl.of_owns hown'
        exact ⟨_, _, _, rfl, by rw [HD.out, ints_append]; exact hsl, he'⟩
      · obtain rfl : cc = 0 := by omega
        have HD : Hid (dig B32 (val B32 x + val B32 y) = D) := hidP (by
          have h5 := HV2.out
          rw [Nat.mul_zero, Nat.add_zero] at h5
          rw [← h5]
          refine canon_of_len B32_two hD ?_
          rw [hDl, h5]
          rcases hge0 with h | h
          · exact .inl h
          · exact .inr (by omega))
        obtain ⟨a5, cap5, rfl, hsl⟩ := Sl.of_owns hown
        go_wp2
        go_ret
        exact ⟨_, _, _, rfl, by rw [HD.out]; exact hsl, he⟩

set_option maxHeartbeats 1000000 in
theorem nat_Add_any (a a' : Option Addr) (n cap n' cap' : Nat) (x y : List Nat) (w : World) (hs : Sl w a n cap (ints .u32 x)) (hs' : Sl w a' n' cap' (ints .u32 y)) (hx : Ws x) (hy : Ws y)
    (hn : n ≤ 1099511627776) (hn' : n' ≤ 1099511627776) :
    Calls Try.prog 40 #[.slice a n cap, .slice a' n' cap'] w (RetSl w (ints .u32 (dig B32 (val B32 x + val B32 y)))) := by
  by_cases hge : (dig B32 (val B32 y)).length ≤ (dig B32 (val B32 x)).length
  · exact nat_Add_ge a a' n cap n' cap' x y w hs hs' hx hy hn hn' hge
  · have hlt : (dig B32 (val B32 x)).length < (dig B32 (val B32 y)).length := by omega
    have HR := hidP (nat_Add_ge a' a n' cap' n cap y x w hs' hs hy hx hn' hn (Nat.le_of_lt hlt))
    have H1 := hidP (nat_size_any a n cap x w hs hx (by omega))
    have H2 := hidP (nat_size_any a' n' cap' y w hs' hy (by omega))
    rw [Nat.add_comm]
    have hb1 := dig_val_len B32_two x hx
    have hb2 := dig_val_len B32_two y hy
    have := hs.int_len
    have := hs'.int_len
    clear hge
    generalize (dig B32 (val B32 x)).length = m at *
    generalize (dig B32 (val B32 y)).length = k at *
    go_enter Try.func40, Try.ntmps40
    go_wp2_with fail
    refine H1.out.mono ?_
    rintro e w' ⟨rfl, rfl⟩
    go_wp2_with fail
    refine H2.out.mono ?_
    rintro e w' ⟨rfl, rfl⟩
    go_wp2_with fail
    refine HR.out.mono ?_
    rintro e w' ⟨a5, n5, cap5, rfl, hs5, he5⟩
    go_wp2
    go_ret
    exact ⟨_, _, _, rfl, hs5, he5⟩

set_option maxHeartbeats 1000000 in
theorem nat_Sub_any (a a' : Option Addr) (n cap n' cap' : Nat) (x y : List Nat) (w : World) (hs : Sl w a n cap (ints .u32 x)) (hs' : Sl w a' n' cap' (ints .u32 y)) (hx : Ws x) (hy : Ws y)
    (hn : n ≤ 1099511627776) (hn' : n' ≤ 1099511627776) :
    Calls Try.prog 36 #[.slice a n cap, .slice a' n' cap'] w (RetSlB w (ints .u32 (dig B32 (val B32 x - val B32 y))) (decide (val B32 y ≤ val B32 x))) := by
  by_cases hlt : val B32 x < val B32 y
  · have HC := hidP (cmpI_lt hlt)
    have HD : Hid (val B32 x - val B32 y = 0 ∧ decide (val B32 y ≤ val B32 x) = false) := hidP ⟨by omega, by simpa using hlt⟩
    clear hlt
    go_enter Try.func36, Try.ntmps36
    go_wp2_with fail
    refine (nat_Cmp_any a a' n cap n' cap' x y _ hs hs' hx hy hn hn').mono ?_
    rw [HC.out]
    rintro e w1 ⟨rfl, he1⟩
    go_wp2
    go_ret2
    exact ⟨none, 0, 0, by rw [HD.out.2]; rfl, by rw [HD.out.1, dig_zero]; exact Sl.nil _, he1⟩
  · have hge : val B32 y ≤ val B32 x := by omega
    have hc := cmpI_ge hge
    have HDT : Hid (decide (val B32 y ≤ val B32 x) = true) := hidP (by simpa using hge)
    have HG := hidP hge
    have hlen := hs.int_len
    have hlen' := hs'.int_len
    have hdx := fun i => dig_get hx i
    have hdy := fun i => dig_get hy i
    have hCX := canon_dig B32_two (val B32 x)
    have hYH : Ws (dig B32 (val B32 y)) := Ws.dig _
    have hvx := val_dig B32_two (val B32 x)
    have hvy := val_dig B32_two (val B32 y)
    have hkm := dig_mono B32_two hge
    have hmn := dig_val_len B32_two x hx
    have hmn' := dig_val_len B32_two y hy
    clear hlt hge
    obtain ⟨X, hX⟩ : ∃ X, X = dig B32 (val B32 x) := ⟨_, rfl⟩
    obtain ⟨Y, hY⟩ : ∃ Y, Y = dig B32 (val B32 y) := ⟨_, rfl⟩
    rw [← hX] at hdx hCX hvx hmn hkm
    rw [← hY] at hdy hYH hvy hmn' hkm
    have HX := hidP hX; have HY := hidP hY; clear hX hY
    have HDX := hidP hdx; have HDY := hidP hdy; have HVX := hidP hvx; have HVY := hidP hvy
    clear hdx hdy hvx hvy
    obtain ⟨m, hm⟩ : ∃ m, m = X.length := ⟨_, rfl⟩
    obtain ⟨k0, hk0⟩ : ∃ k0, k0 = Y.length := ⟨_, rfl⟩
    rw [← hm] at hmn hkm; rw [← hk0] at hmn' hkm
    have HM := hidP hm; have HK := hidP hk0; clear hm hk0
    have hXH : Ws X := hCX.1
    go_enter Try.func36, Try.ntmps36
    go_wp2_with fail
    refine (nat_Cmp_any a a' n cap n' cap' x y _ hs hs' hx hy hn hn').mono ?_
    generalize cmpI (val B32 x) (val B32 y) = c at *
    rintro e w0 ⟨rfl, he0⟩
    have hs0 := hs.ext he0
    have hs0' := hs'.ext he0
    go_wp2_with fail
    refine (nat_size_any a n cap x _ hs0 hx (by omega)).mono ?_
    rw [← HX.out, ← HM.out]; rintro e w' ⟨rfl, rfl⟩
    go_wp2_with fail
    refine (nat_size_any a' n' cap' y _ hs0' hy (by omega)).mono ?_
    rw [← HY.out, ← HK.out]; rintro e w' ⟨rfl, rfl⟩
    go_wp2_with (at_make; refine wpList_make0 (W := w0) (n := m) T_u32' rfl _ _ rfl rfl rfl (Ext.refl _) (by omega) (by omega) ?_; intro w1 hown he1)
    go_loopw [8, 9, 25] (fun v c i wr => ∃ (k cc : Nat) (D : List Nat), k ≤ m ∧ i = .int .i64 k ∧ c = .int .u32 (cc : Nat) ∧ wr.ownsRow w0.heap.size 57 1 v k (ints .u32 D) ∧ Ext w0 wr ∧ cc ≤ 1 ∧ D.length = k ∧ Ws D ∧ val B32 D + val B32 (Y.take k) = val B32 (X.take k) + B32 ^ k * cc) (fun _ _ i _ => m - (intOf i).toNat)
    case atStart => exact ⟨0, 0, [], by omega, rfl, rfl, hown, he1, by omega, rfl, by simp [Ws], by simp [val]⟩
    case round =>
      clear hown he1
      obtain ⟨k, cc, D, hk, rfl, rfl, hown, he, hcc, hDl, hD, hv⟩ := hrel
      have HV := hidP hv; clear hv
      by_cases h0 : k < m
      · obtain ⟨b, off, rfl, hc⟩ := (hs0.ext he).at_int (by omega)
        obtain ⟨hi1, hxi⟩ := HDX.out k (by have := HM.out; omega)
        have hck := hc k hi1
        rw [hxi] at hck
        clear hc hxi
        have hpb := getD_lt (B := B32) (by decide) hXH k
        have hqb := getD_lt (B := B32) (by decide) hYH k
        generalize hP : X.getD k 0 = p at *
        have HP := hidP hP; clear hP
        have hp1 : p ≤ 4294967295 := by unfold B32 at hpb; omega
        clear hpb
        by_cases h1 : k < k0
        · obtain ⟨b', off', rfl, hc'⟩ := (hs0'.ext he).at_int (by omega)
          obtain ⟨hi2, hyi⟩ := HDY.out k (by have := HK.out; omega)
          have hck' := hc' k hi2
          rw [hyi] at hck'
          clear hc' hyi
          generalize hQ : Y.getD k 0 = q at *
          have HQ := hidP hQ; clear hQ
          have hq1 : q ≤ 4294967295 := by unfold B32 at hqb; omega
          clear hqb
          go_wp2_with fail
          refine (bits_Sub32_any p q cc _ hp1 hq1 hcc).mono ?_
          rintro e w' ⟨rfl, rfl⟩
          have hrb : (4294967296 + p - q - cc) % 4294967296 < 4294967296 := Nat.mod_lt _ (by decide)
          have hrc : 1 - (4294967296 + p - q - cc) / 4294967296 ≤ 1 := by omega
          have HSS := hidP (sub_step (B := B32) (P := B32 ^ k) (x := p) (y := q) (by decide) hcc (by unfold B32; omega) HV.out)
          have HNO : Hid (¬ B32 + p < q + cc ∧ ¬ 2 * B32 ≤ B32 + p - q - cc) := hidP (by unfold B32; omega)
          have HRR : Hid (B32 = 4294967296) := hidP rfl
          generalize hr1 : (4294967296 + p - q - cc) % 4294967296 = r1 at *
          generalize hr2 : 1 - (4294967296 + p - q - cc) / 4294967296 = r2 at *
          have HR1 := hidP hr1; have HR2 := hidP hr2; clear hr1 hr2
          go_wp2_with (at_builtin; refine wpList_app1 T_u32' rfl _ _ rfl hown he _ rfl rfl rfl (by omega) (by omega) ?_; intro v' w' hown' he')
          go_roundw
          case rel =>
            refine ⟨k + 1, r2, D ++ [r1], by omega, by go_num, rfl, ?_, he', hrc, by simp [hDl], ?_, ?_⟩
            · rw [ints_append]; exact hown'
            · intro d hd
              rcases List.mem_append.1 hd with hd | hd
              · exact hD d hd
              · simp at hd; subst hd; exact hrb
            · have h := HSS.out
              have h2 := HNO.out
              rcases h with h | h | h
              · rw [val_take_snoc, val_take_snoc, HP.out, HQ.out, val_snoc, hDl, Nat.pow_succ, ← HR1.out, ← HR2.out]
                have h3 : val B32 D + B32 ^ k * ((4294967296 + p - q - cc) % 4294967296) + (val B32 (Y.take k) + B32 ^ k * q) = val B32 (X.take k) + B32 ^ k * p + B32 ^ k * B32 * (1 - (4294967296 + p - q - cc) / 4294967296) := h
                omega
              · exact absurd h h2.1
              · exact absurd h h2.2
          case measure => simp only [intOf]; omega
        · have HQ : Hid (Y.getD k 0 = 0) := hidP (by rw [List.getD_eq_getElem?_getD, List.getElem?_eq_none (by have := HK.out; omega)]; rfl)
          clear hqb
          go_wp2_with fail
          refine (bits_Sub32_any p 0 cc _ hp1 (by omega) hcc).mono ?_
          rintro e w' ⟨rfl, rfl⟩
          have hrb : (4294967296 + p - 0 - cc) % 4294967296 < 4294967296 := Nat.mod_lt _ (by decide)
          have hrc : 1 - (4294967296 + p - 0 - cc) / 4294967296 ≤ 1 := by omega
          have HSS := hidP (sub_step (B := B32) (P := B32 ^ k) (x := p) (y := 0) (by decide) hcc (by decide) HV.out)
          have HNO : Hid (¬ B32 + p < 0 + cc ∧ ¬ 2 * B32 ≤ B32 + p - 0 - cc) := hidP (by unfold B32; omega)
          generalize hr1 : (4294967296 + p - 0 - cc) % 4294967296 = r1 at *
          generalize hr2 : 1 - (4294967296 + p - 0 - cc) / 4294967296 = r2 at *
          have HR1 := hidP hr1; have HR2 := hidP hr2; clear hr1 hr2
          go_wp2_with (at_builtin; refine wpList_app1 T_u32' rfl _ _ rfl hown he _ rfl rfl rfl (by omega) (by omega) ?_; intro v' w' hown' he')
          go_roundw
          case rel =>
            refine ⟨k + 1, r2, D ++ [r1], by omega, by go_num, rfl, ?_, he', hrc, by simp [hDl], ?_, ?_⟩
            · rw [ints_append]; exact hown'
            · intro d hd
              rcases List.mem_append.1 hd with hd | hd
              · exact hD d hd
              · simp at hd; subst hd; exact hrb
            · have h := HSS.out
              have h2 := HNO.out
              rcases h with h | h | h
              · rw [val_take_snoc, val_take_snoc, HP.out, HQ.out, val_snoc, hDl, Nat.pow_succ, ← HR1.out, ← HR2.out]
                have h3 : val B32 D + B32 ^ k * ((4294967296 + p - 0 - cc) % 4294967296) + (val B32 (Y.take k) + B32 ^ k * 0) = val B32 (X.take k) + B32 ^ k * p + B32 ^ k * B32 * (1 - (4294967296 + p - 0 - cc) / 4294967296) := h
                omega
              · exact absurd h h2.1
              · exact absurd h h2.2
          case measure => simp only [intOf]; omega
      · obtain rfl : k = m := by omega
        have hv := HV.out
        rw [List.take_of_length_le (by have := HK.out; omega), List.take_of_length_le (by have := HM.out; omega), HVX.out, HVY.out] at hv
        have hc0 : val B32 D = val B32 x - val B32 y := by
          have h1 := val_lt (B := B32) (by decide) D hD
          rw [hDl] at h1
          have h2 := HG.out
          match cc, hcc with
          | 0, _ => simp only [Nat.mul_zero, Nat.add_zero] at hv; omega
          | 1, _ => simp only [Nat.mul_one] at hv; omega
        have HV2 := hidP hc0; clear hv HV hc0
        obtain ⟨a5, cap5, rfl, hsl⟩ := Sl.of_owns hown
        have hm5 := hsl.2.2.1
        have hc5 := hsl.2.1
        unfold maxLen at hm5
        have HCUT := hidP (cut_sl32 hsl hD)
        have hcl := dig_val_len B32_two D hD
        go_wp2_with fail
        refine (nat_size_any _ _ _ D _ hsl hD (by omega)).mono ?_
        generalize hk5 : (dig B32 (val B32 D)).length = k5 at *
        have HK5 := hidP hk5; clear hk5
        rintro e w' ⟨rfl, rfl⟩
        go_wp2
        go_ret2
        exact ⟨_, _, _, by rw [HDT.out]; rfl, by rw [← HV2.out]; exact HCUT.out, he0.trans he⟩

end Go.Proofs.Ytcipcpbjkcpgdaa
