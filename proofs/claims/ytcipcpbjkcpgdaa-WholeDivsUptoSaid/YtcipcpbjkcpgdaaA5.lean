/- The document's numbers (frisketref01): differences; the same words; numbers of 64 bits. -/
import Derived.Test.YtcipcpbjkcpgdaaA4
import Derived.Test.YtcipcpbjkcpgdaaBit
import Derived.Deep.QuietTactic
import Derived.BigQuiet
namespace Go.Proofs.Ytcipcpbjkcpgdaa
set_option linter.unusedVariables false
open Go Go.RowKit

theorem cut_sl {w : World} {a : Option Addr} {n cap : Nat} {D : List Nat} (hsl : Sl w a n cap (ints .u64 D)) (hD : Hs D) : Sl w a (dig B16 (val B16 D)).length cap (ints .u64 (dig B16 (val B16 D))) := by
  have ht := take_dig_len B16_two D hD
  have hx := hsl.take (dig B16 (val B16 D)).length (by have := dig_val_len B16_two D hD; have := hsl.int_len; omega)
  rw [ints_take, ht] at hx
  exact hx

set_option maxHeartbeats 1000000 in
theorem r01_sub_any (a a' : Option Addr) (n cap n' cap' : Nat) (X Y : List Nat) (w : World) (hs : Sl w a n cap (ints .u64 X)) (hs' : Sl w a' n' cap' (ints .u64 Y)) (hX : Hs X) (hY : Hs Y)
    (hn : n ≤ 4398046511104) (hn' : n' ≤ n) (hle : val B16 Y ≤ val B16 X) :
    Calls Try.prog 126 #[.slice a n cap, .slice a' n' cap'] w (RetSl w (ints .u64 (dig B16 (val B16 X - val B16 Y)))) := by
  have hl1 := hs.int_len
  have hl2 := hs'.int_len
  have HLE := hidP hle; clear hle
  go_enter Try.func126, Try.ntmps126
  go_wp2_with fail
  go_loopw [5, 6, 7] (fun v c i wr => ∃ (k cc : Nat) (D : List Nat), k ≤ n ∧ i = .int .i64 k ∧ c = .int .u64 (cc : Nat) ∧ wr.ownsRow w.heap.size 32 1 v k (ints .u64 D) ∧ Ext w wr ∧ cc ≤ 1 ∧ D.length = k ∧ Hs D ∧ val B16 D + val B16 (Y.take k) = val B16 (X.take k) + B16 ^ k * cc) (fun _ _ i _ => n - (intOf i).toNat)
  case atStart => exact ⟨0, 0, [], by omega, rfl, rfl, by simpa [ints] using World.ownsRow_nil w w.heap.size 32 1, Ext.refl _, by omega, rfl, by simp [Hs], by simp [val]⟩
  case round =>
    obtain ⟨k, cc, D, hk, rfl, rfl, hown, he, hcc, hDl, hD, hv⟩ := hrel
    have HV := hidP hv; clear hv
    have hsx := hs.ext he
    have hsy := hs'.ext he
    by_cases h0 : k < n
    · have hxi := getD_lt (by unfold B16; omega) hX k
      have hyi := getD_lt (by unfold B16; omega) hY k
      generalize hP : X.getD k 0 = p at *
      generalize hQ : Y.getD k 0 = q at *
      have HP := hidP hP; have HQ := hidP hQ; clear hP hQ
      have hpq : p < 65536 := by unfold B16 at hxi; omega
      have hqq : q < 65536 := by unfold B16 at hyi; omega
      clear hxi hyi
      have hge : (q : Int) + (cc : Int) ≤ 65536 + (p : Int) := by omega
      go_wp2_with fail
      refine (r01_at_any a n cap X k _ hsx (by omega)).mono ?_
      rw [HP.out]; rintro e w' ⟨rfl, rfl⟩
      go_wp2_with fail
      refine (r01_at_any a' n' cap' Y k _ hsy (by omega)).mono ?_
      rw [HQ.out]; rintro e w' ⟨rfl, rfl⟩
      go_wp2_with (at_builtin; refine wpList_app1 T_u64 rfl _ _ rfl hown he _ rfl rfl rfl (by omega) (by omega) ?_; intro v' w' hown' he')
      go_roundw
      case rel =>
        refine ⟨k + 1, 1 - (65536 + p - q - cc) / 65536, D ++ [(65536 + p - q - cc) % 65536], by omega, by go_num, by refine congrArg _ ?_; omega, ?_, he', by omega, by simp [hDl], ?_, ?_⟩
        · rw [ints_append]
          have e : (((65536 + p - q - cc) % 65536 : Nat) : Int) = (65536 + (p : Int) - q - cc) % 65536 := by omega
          simp only [ints, List.map_cons, List.map_nil, e]
          exact hown'
        · intro d hd
          rcases List.mem_append.1 hd with hd | hd
          · exact hD d hd
          · simp at hd; subst hd; exact Nat.mod_lt _ (by decide)
        · have := sub_step (B := B16) (P := B16 ^ k) (x := p) (y := q) (by decide) hcc hqq HV.out
          rw [val_take_snoc, val_take_snoc, HP.out, HQ.out, val_snoc, hDl, Nat.pow_succ]
          rcases this with h | h | h
          · have e : val B16 D + B16 ^ k * ((65536 + p - q - cc) % 65536) + (val B16 (Y.take k) + B16 ^ k * q) = val B16 (X.take k) + B16 ^ k * p + B16 ^ k * B16 * (1 - (65536 + p - q - cc) / 65536) := h
            omega
          · unfold B16 at h; omega
          · unfold B16 at h; omega
      case measure => simp only [intOf]; omega
    · obtain rfl : k = n := by omega
      obtain ⟨a5, cap5, rfl, hsl⟩ := Sl.of_owns hown
      have hv := HV.out
      rw [List.take_of_length_le (by omega), List.take_of_length_le (by omega)] at hv
      have hc0 : val B16 D = val B16 X - val B16 Y := by
        have h1 := val_lt (B := B16) (by decide) D hD
        rw [hDl] at h1
        have h2 := HLE.out
        match cc, hcc with
        | 0, _ => simp only [Nat.mul_zero, Nat.add_zero] at hv; omega
        | 1, _ => simp only [Nat.mul_one] at hv; omega
      have HV2 := hidP hc0
      clear hv hc0
      go_wp2_with fail
      refine (r01_cut_any _ _ _ _ _ hsl hD (by omega)).mono ?_
      rintro e w' ⟨rfl, rfl⟩
      go_wp2
      go_ret
      exact ⟨_, _, _, rfl, by rw [← HV2.out]; exact cut_sl hsl hD, he⟩

set_option maxHeartbeats 1000000 in
theorem r01_Sub_any (a a' : Option Addr) (n cap n' cap' : Nat) (x y : List Nat) (w : World) (hs : Sl w a n cap (ints .u32 x)) (hs' : Sl w a' n' cap' (ints .u32 y)) (hx : Ws x) (hy : Ws y)
    (hn : n ≤ 1099511627776) (hn' : n' ≤ 1099511627776) :
    Calls Try.prog 37 #[.slice a n cap, .slice a' n' cap'] w (RetSlB w (ints .u32 (dig B32 (val B32 x - val B32 y))) (decide (val B32 y ≤ val B32 x))) := by
  by_cases hlt : val B32 x < val B32 y
  · have HC := hidP (cmpI_lt hlt)
    have HD : Hid (val B32 x - val B32 y = 0 ∧ decide (val B32 y ≤ val B32 x) = false) := hidP ⟨by omega, by simpa using hlt⟩
    clear hlt
    go_enter Try.func37, Try.ntmps37
    go_wp2_with fail
    refine (r01_Cmp_any a a' n cap n' cap' x y _ hs hs' hx hy hn hn').mono ?_
    rw [HC.out]
    rintro e w1 ⟨rfl, he1⟩
    go_wp2
    go_ret2
    exact ⟨none, 0, 0, by rw [HD.out.2]; rfl, by rw [HD.out.1, dig_zero]; exact Sl.nil _, he1⟩
  · have hge : val B32 y ≤ val B32 x := by omega
    have hc := cmpI_ge hge
    have HD : Hid (decide (val B32 y ≤ val B32 x) = true) := hidP (by simpa using hge)
    have HG := hidP hge
    clear hlt hge
    go_enter Try.func37, Try.ntmps37
    go_wp2_with fail
    refine (r01_Cmp_any a a' n cap n' cap' x y _ hs hs' hx hy hn hn').mono ?_
    generalize cmpI (val B32 x) (val B32 y) = c at *
    rintro e w1 ⟨rfl, he1⟩
    go_wp2_with fail
    refine (r01_half_any a n cap x _ (hs.ext he1) hx hn).mono ?_
    rintro e w2 ⟨a2, n2, cap2, rfl, hs2, he2⟩
    go_wp2_with fail
    have he12 := he1.trans he2
    refine (r01_half_any a' n' cap' y _ (hs'.ext he12) hy hn').mono ?_
    rintro e w3 ⟨a3, n3, cap3, rfl, hs3, he3⟩
    go_wp2_with fail
    have hn2 := half_len hs hx hs2
    have hl2 := hs2.int_len
    have hl3 := hs3.int_len
    refine (r01_sub_any a2 a3 n2 cap2 n3 cap3 _ _ _ (hs2.ext he3) hs3 (Hs.dig _) (Hs.dig _) (by omega) ?_ ?_).mono ?_
    · rw [← hl2, ← hl3]; exact dig_mono B16_two HG.out
    · rw [val_dig B16_two, val_dig B16_two]; exact HG.out
    rw [val_dig B16_two, val_dig B16_two]
    rintro e w4 ⟨a4, n4, cap4, rfl, hs4, he4⟩
    go_wp2_with fail
    have hl4 := hs4.int_len
    refine (r01_words_any a4 n4 cap4 _ _ hs4 (Hs.dig _) ?_).mono ?_
    · have h4 := dig_mono B16_two (Nat.sub_le (val B32 x) (val B32 y)); omega
    rw [val_dig B16_two]
    rintro e w5 ⟨a5, n5, cap5, rfl, hs5, he5⟩
    go_wp2
    go_ret2
    exact ⟨_, _, _, by rw [HD.out]; rfl, hs5, he12.trans (he3.trans (he4.trans he5))⟩

set_option maxHeartbeats 1000000 in
theorem r01_Same_any (a a' : Option Addr) (n cap n' cap' : Nat) (x y : List Nat) (w : World) (hs : Sl w a n cap (ints .u32 x)) (hs' : Sl w a' n' cap' (ints .u32 y)) (hn : n ≤ 1099511627776) :
    Calls Try.prog 25 #[.slice a n cap, .slice a' n' cap'] w fun e w' => e = .returned (.bool (decide (x = y))) ∧ Ext w w' := by
  have hl1 := hs.int_len
  have hl2 := hs'.int_len
  by_cases hlen : n = n'
  · subst hlen
    go_enter Try.func25, Try.ntmps25
    go_wp2
    go_loopw [5] (fun i wr => ∃ k : Nat, k ≤ n ∧ i = .int .i64 k ∧ x.take k = y.take k ∧ Ext w wr) (fun i _ => n - (intOf i).toNat)
    case atStart => exact ⟨0, by omega, rfl, rfl, Ext.refl _⟩
    case round =>
      obtain ⟨k, hk, rfl, hv, he⟩ := hrel
      have HV := hidP hv; clear hv
      by_cases h0 : k < n
      · obtain ⟨b, off, rfl, hc⟩ := (hs.ext he).at_int (by omega)
        obtain ⟨b', off', rfl, hc'⟩ := (hs'.ext he).at_int (by omega)
        have hck := hc k (by omega)
        have hck' := hc' k (by omega)
        clear hc hc'
        by_cases hq : x[k] = y[k]
        · have HN : Hid (x.take (k + 1) = y.take (k + 1)) := hidP (by rw [List.take_succ_eq_append_getElem (by omega), List.take_succ_eq_append_getElem (by omega), HV.out, hq])
          rw [← hq] at hck'
          clear hq
          go_wp2
          go_quiet (fail)
          go_wp2
          go_roundw
          case rel => exact ⟨k + 1, by omega, by go_num, HN.out, he.drewN _⟩
          case measure => simp only [intOf]; omega
        · have HN : Hid (decide (x = y) = false) := hidP (by
            rw [decide_eq_false_iff_not]; intro h; subst h; exact hq rfl)
          have hb : (((x[k] : Nat) : Int) != ((y[k] : Nat) : Int)) = true := by simp; omega
          clear hq
          go_wp2
          go_quiet (fail)
          go_wp2
          go_ret
          exact ⟨by rw [HN.out]; rfl, he.drewN _⟩
      · have HN : Hid (decide (x = y) = true) := hidP (by
          have := HV.out
          rw [List.take_of_length_le (by omega), List.take_of_length_le (by omega)] at this
          simpa using this)
        go_wp2
        go_ret
        exact ⟨by rw [HN.out]; rfl, he⟩
  · have hb : ((n : Int) != (n' : Int)) = true := by simp; omega
    have HN : Hid (decide (x = y) = false) := hidP (by rw [decide_eq_false_iff_not]; intro h; subst h; omega)
    clear hl1 hl2
    go_enter Try.func25, Try.ntmps25
    go_wp2
    go_ret
    exact ⟨by rw [HN.out]; rfl, Ext.refl _⟩

end Go.Proofs.Ytcipcpbjkcpgdaa
