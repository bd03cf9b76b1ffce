/- Joined: A1 A2 A3 A4 A5 A6 A7 A8 A9 A10. -/
import Derived.Test.YtgjjalnmigdjgaaGreatProg
import Derived.Test.YtgjjalnmigdjgaaGreatM1
import Derived.Outline
import Derived.Deep.QuietTactic
import Derived.BigQuiet
import Derived.Deep.DeepCutAuto
import Derived.Laws.IdiomStrings
namespace Go.Proofs.YtgjjalnmigdjgaaGreat
set_option linter.unusedVariables false
open Go Go.RowKit
set_option maxHeartbeats 400000 in
theorem nat_size_any (a : Option Addr) (n cap : Nat) (l : List Nat) (w : World) (hs : Sl w a n cap (ints .u32 l)) (hl : Ws l) (hn : n ≤ 17592186044416) :
    Calls Tryz.prog 166 #[.slice a n cap] w fun e w' => e = .returned (.int .i64 ((dig B32 (val B32 l)).length : Nat)) ∧ w = w' := by
  have hlen := hs.int_len
  have hcap := hs.2.1
  go_enter Tryz.func166, Tryz.ntmps166
  go_wp2
  go_loop [3] (fun i => ∃ k : Nat, k ≤ n ∧ i = .int .i64 k ∧ val B32 (l.take k) = val B32 l) (fun i => (intOf i).toNat)
  case atStart => exact ⟨n, by omega, rfl, by rw [List.take_of_length_le (by omega)]⟩
  case round =>
    obtain ⟨k, hk, rfl, hv⟩ := hrel
    have HV := hidP hv; clear hv
    by_cases h0 : 0 < k
    · obtain ⟨b, off, rfl, hc⟩ := hs.at_int (by omega)
      have hck := hc (k - 1) (by omega)
      clear hc
      have hck' := HV.out
      have HZ : Hid (l[k - 1] = 0 → val B32 (l.take (k - 1)) = val B32 l) := fun hz => by
        rw [← HV.out, ← val_take_of_zero B32 l (k - 1) (by omega) hz, Nat.sub_add_cancel h0]
      have HD : Hid (l[k - 1] ≠ 0 → (dig B32 (val B32 l)).length = k) := fun hz => by
        rw [← take_dig B32_two l hl k (by omega) (.inr ⟨by omega, hz⟩) HV.out, List.length_take]; omega
      clear hck'
      go_wp2
      · have hz : (((l[k - 1] : Nat) : Int) == 0) = true := by assumption
        go_round
        case rel => exact ⟨k - 1, by omega, by go_num, HZ.out (by simpa using hz)⟩
        case measure => simp [intOf]; omega
      · have hz : (((l[k - 1] : Nat) : Int) == 0) = false := by assumption
        go_ret
        exact ⟨ret_int (by rw [HD.out (by simpa using hz)]), rfl⟩
    · obtain rfl : k = 0 := by omega
      go_wp2
      go_ret
      have hv := HV.out
      simp only [List.take_zero, val] at hv
      exact ⟨ret_int (by rw [← hv, dig_zero]; rfl), rfl⟩
end Go.Proofs.YtgjjalnmigdjgaaGreat
namespace Go.Proofs.YtgjjalnmigdjgaaGreat
set_option linter.unusedVariables false
open Go Go.RowKit
set_option maxHeartbeats 400000 in
theorem r01_cut_any (a : Option Addr) (n cap : Nat) (l : List Nat) (w : World) (hs : Sl w a n cap (ints .u64 l)) (hl : Hs l) (hn : n ≤ 17592186044416) :
    Calls Tryz.prog 180 #[.slice a n cap] w fun e w' => e = .returned (.slice a (dig B16 (val B16 l)).length cap) ∧ w = w' := by
  have hlen := hs.int_len
  have hcap := hs.2.1
  have hm := hs.2.2.1
  unfold maxLen at hm
  go_enter Tryz.func180, Tryz.ntmps180
  go_wp2
  go_loop [3] (fun i => ∃ k : Nat, k ≤ n ∧ i = .int .i64 k ∧ val B16 (l.take k) = val B16 l) (fun i => (intOf i).toNat)
  case atStart => exact ⟨n, by omega, rfl, by rw [List.take_of_length_le (by omega)]⟩
  case round =>
    obtain ⟨k, hk, rfl, hv⟩ := hrel
    have HV := hidP hv; clear hv
    by_cases h0 : 0 < k
    · obtain ⟨b, off, rfl, hc⟩ := hs.at_int (by omega)
      have hck := hc (k - 1) (by omega)
      clear hc
      have HZ : Hid (l[k - 1] = 0 → val B16 (l.take (k - 1)) = val B16 l) := fun hz => by
        rw [← HV.out, ← val_take_of_zero B16 l (k - 1) (by omega) hz, Nat.sub_add_cancel h0]
      have HD : Hid (l[k - 1] ≠ 0 → (dig B16 (val B16 l)).length = k) := fun hz => by
        rw [← take_dig B16_two l hl k (by omega) (.inr ⟨by omega, hz⟩) HV.out, List.length_take]; omega
      go_wp2
      · have hz : (((l[k - 1] : Nat) : Int) == 0) = true := by assumption
        go_round
        case rel => exact ⟨k - 1, by omega, by go_num, HZ.out (by simpa using hz)⟩
        case measure => simp [intOf]; omega
      · have hz : (((l[k - 1] : Nat) : Int) == 0) = false := by assumption
        go_ret
        exact ⟨by rw [HD.out (by simpa using hz)]; rfl, rfl⟩
    · obtain rfl : k = 0 := by omega
      go_wp2
      go_ret
      have hv := HV.out
      simp only [List.take_zero, val] at hv
      exact ⟨by rw [← hv, dig_zero]; rfl, rfl⟩
theorem T_u64 : SlT Tryz.prog 182 143 (.int .u64 0) 8 :=
  let ⟨i, h1, h2, h3, h4⟩ := info_parts (P := Tryz.prog) (e := 143) (z := .int .u64 0) (size := 1) (bytes := 8) (by kernel_rfl); ⟨Tryz.underlying182, i, h1, h2, h3, h4, rfl⟩
theorem T_u32 : SlT Tryz.prog 25 98 (.int .u32 0) 4 :=
  let ⟨i, h1, h2, h3, h4⟩ := info_parts (P := Tryz.prog) (e := 98) (z := .int .u32 0) (size := 1) (bytes := 4) (by kernel_rfl); ⟨Tryz.underlying25, i, h1, h2, h3, h4, rfl⟩
set_option maxHeartbeats 1000000 in
theorem r01_half_any (a : Option Addr) (n cap : Nat) (l : List Nat) (w : World) (hs : Sl w a n cap (ints .u32 l)) (hl : Ws l) (hn : n ≤ 1099511627776) :
    Calls Tryz.prog 148 #[.slice a n cap] w (RetSl w (ints .u64 (dig B16 (val B32 l)))) := by
 have hlen := hs.int_len
 have hcap := hs.2.1
 have hm := hs.2.2.1
 unfold maxLen at hm
 go_enter Tryz.func148, Tryz.ntmps148
 go_wp2
 go_loopw [3, 4] (fun v i wr => ∃ k : Nat, k ≤ n ∧ i = .int .i64 k ∧ wr.ownsRow w.heap.size 143 1 v (2 * k) (ints .u64 (split16 (l.take k))) ∧ Ext w wr) (fun _ i _ => n - (intOf i).toNat)
 case atStart => exact ⟨0, by omega, rfl, by simpa [split16, ints] using World.ownsRow_nil w w.heap.size 143 1, Ext.refl w⟩
 obtain ⟨k, hk, rfl, hown, he⟩ := hrel
 by_cases h0 : k < n
 · obtain ⟨b, off, rfl, hc⟩ := (hs.ext he).at_int (by omega)
   have hck := hc k (by omega)
   have hx := hl.at k (by omega)
   clear hc
   go_wp2
   refine wp_region_plan (R := Ext) (.q 0 (.q 1 (.q 2 (.q 3 (.q 4 (.q 5 (.q 6 (.q 7 (.q 8 (.q 9 (.q 10 (.q 11 (.q 12 (.l 13 (.b 14 (.q 15 .done)))))))))))))))) (by kernel_rfl) (by kernel_rfl) (by kernel_rfl) (by kernel_rfl) Ext.refl (fun _ _ _ => Ext.trans) ?_
   have hcd : wr.drew.cell? ⟨b, off + k, none⟩ = some (.int .u32 (l[k] : Nat)) := by go_simp
   have hown1 := hown.drew
   have he1 := he.drew
   have hz := he.size
   generalize wr.drew = W1 at *
   repeat (refine wpE_q (v := ?_) rfl rfl (fun u hu => ?_) ?_; rotate_left 1; (focus ((try have hcu := hu.cell' hcd); go_simp; (try go_bits); (try rfl))); simp only [PU])
   refine wpE_l rfl rfl (fun K hK => ?_)
   go_simp
   refine hK.out _ _ ((Ext.refl _).alloc _) ?_
   clear hK K
   refine wpE_b rfl rfl (fun K hK => ?_)
   refine wp_app T_u64 _ _ rfl (hown1.alloc _) (he1.alloc _) [.int .u64 ((l[k] : Int) % 65536), .int .u64 ((l[k] : Int) / 65536)] rfl rfl rfl ?_ (by simp [Value.oneCell']) (by omega) (by omega) ?_
   · intro j u hj
     match j, hj with
     | 0, hj => simp at hj; subst hj; go_simp
     | 1, hj => simp at hj; subst hj; go_simp
     | j + 2, hj => simp at hj
   intro v' w' hown' he'
   refine hK.out _ _ ?_
   clear hK K
   repeat (refine wpE_q (v := ?_) rfl rfl (fun u hu => ?_) ?_; rotate_left 1; (focus (go_simp; (try go_bits); (try rfl))); simp only [PU])
   refine wpE_done ?_
   have hown2 : w'.ownsRow w.heap.size 143 1 v' (2 * (k + 1)) (ints .u64 (split16 (l.take (k + 1)))) := by
    rw [List.take_succ_eq_append_getElem (by omega), split16_snoc, ints_append]
    exact hown'
   clear hown' hown1 hown he he1
   go_wp2
   go_roundw
   case rel => exact ⟨k + 1, by omega, by go_num, hown2, he'⟩
   case measure => simp [intOf]; omega
 obtain rfl : k = n := by omega
 rw [List.take_of_length_le (by omega)] at hown
 obtain ⟨a', cap', rfl, hsl⟩ := Sl.of_owns hown
 have hH : Hs (split16 l) := split16_lt l hl
 have hv : val B16 (split16 l) = val B32 l := val_split16 l
 have HV := hidP hv; clear hv
 go_wp2_with (go_at_call 180; refine (r01_cut_any _ _ _ _ _ hsl hH (by omega)).mono ?_; rintro e w' ⟨rfl, rfl⟩)
 go_ret
 refine ⟨_, _, _, rfl, ?_, he⟩
 rw [HV.out]
 have ht := take_dig_len B16_two (split16 l) hH
 rw [HV.out] at ht
 have hx := hsl.take (dig B16 (val B32 l)).length (by have := dig_val_len B16_two (split16 l) hH; rw [HV.out, split16_len] at this; omega)
 rw [ints_take, ht] at hx
 exact hx
end Go.Proofs.YtgjjalnmigdjgaaGreat
namespace Go.Proofs.YtgjjalnmigdjgaaGreat
set_option linter.unusedVariables false
open Go Go.RowKit
set_option maxHeartbeats 1000000 in
theorem r01_words_any (a : Option Addr) (n cap : Nat) (l : List Nat) (w : World) (hs : Sl w a n cap (ints .u64 l)) (hl : Hs l) (hn : n ≤ 8796093022208) :
    Calls Tryz.prog 149 #[.slice a n cap] w (RetSl w (ints .u32 (dig B32 (val B16 l)))) := by
 have hlen := hs.int_len
 have hcap := hs.2.1
 have hm := hs.2.2.1
 unfold maxLen at hm
 have hd := take_dig_len B16_two l hl
 obtain ⟨V, hV⟩ : ∃ V, V = val B16 l := ⟨_, rfl⟩
 rw [← hV] at hd
 have hpl : (dig B32 V).length = ((dig B16 V).length + 1) / 2 := dig32_len V
 obtain ⟨m, hm16⟩ : ∃ m, m = (dig B16 V).length := ⟨_, rfl⟩
 rw [← hm16] at hpl hd
 have hmn : m ≤ n := by rw [hm16, hV, ← hlen]; exact dig_val_len B16_two l hl
 have HV := hidP hV; have HM := hidP hm16; have HD := hidP hd; have HL := hidP hpl; clear hV hm16 hd hpl
 go_enter Tryz.func149, Tryz.ntmps149
 go_wp2_with (go_at_call 180; refine (r01_cut_any _ _ _ _ _ hs hl (by omega)).mono ?_; rw [← HV.out, ← HM.out]; rintro e w' ⟨rfl, rfl⟩)
 go_loopw [3, 5] (fun v i wr => ∃ j : Nat, 2 * j ≤ m + 1 ∧ i = .int .i64 (2 * j : Nat) ∧ wr.ownsRow w.heap.size 98 1 v j (ints .u32 ((dig B32 V).take j)) ∧ Ext w wr) (fun _ i _ => m + 2 - (intOf i).toNat)
 case atStart => exact ⟨0, by omega, rfl, by simpa [ints] using World.ownsRow_nil w w.heap.size 98 1, Ext.refl w⟩
 obtain ⟨j, hj, rfl, hown, he⟩ := hrel
 by_cases h0 : 2 * j < m
 · obtain ⟨b, off, rfl, hc⟩ := (hs.ext he).at_int (by omega)
   have hck := hc (2 * j) (by omega)
   have hx := hl.at (2 * j) (by omega)
   have hjl : j < (dig B32 V).length := by rw [HL.out]; omega
   have hel : (dig B32 V)[j] = _ := dig32_get V j hjl (by have := HM.out; unfold B16 at this; omega)
   have e1 : l[2 * j]'(by omega) = (dig B16 V)[2 * j]'(by rw [← HM.out]; exact h0) := by simp only [← HD.out, List.getElem_take]
   by_cases h1 : 2 * j + 1 < m
   · have hck1 := hc (2 * j + 1) (by omega)
     have hx1 := hl.at (2 * j + 1) (by omega)
     clear hc
     have e2 : l[2 * j + 1]'(by omega) = (dig B16 V)[2 * j + 1]'(by rw [← HM.out]; exact h1) := by simp only [← HD.out, List.getElem_take]
     have HN : Hid (ints .u32 ((dig B32 V).take (j + 1)) = ints .u32 ((dig B32 V).take j) ++ [.int .u32 (l[2 * j] + l[2 * j + 1] * 65536 : Nat)]) := by
      rw [List.take_succ_eq_append_getElem hjl, ints_append, hel, dif_pos (by rw [HM.out] at h1; exact h1), e1, e2]; rfl
     clear e1 e2 hel
     go_wp2_with (at_builtin; refine wpList_app1 T_u32 rfl _ _ rfl hown he _ rfl rfl rfl (by omega) (by omega) ?_; intro v' w' hown' he')
     go_roundw
     case rel => exact ⟨j + 1, by omega, by go_num, by rw [HN.out]; exact hown', he'⟩
     case measure => simp [intOf]; omega
   clear hc
   have HN : Hid (ints .u32 ((dig B32 V).take (j + 1)) = ints .u32 ((dig B32 V).take j) ++ [.int .u32 (l[2 * j] : Nat)]) := by
    rw [List.take_succ_eq_append_getElem hjl, ints_append, hel, dif_neg (by rw [HM.out] at h1; exact h1), e1]; rfl
   clear e1 hel
   go_wp2_with (at_builtin; refine wpList_app1 T_u32 rfl _ _ rfl hown he _ rfl rfl rfl (by omega) (by omega) ?_; intro v' w' hown' he')
   go_roundw
   case rel => exact ⟨j + 1, by omega, by go_num, by rw [HN.out]; exact hown', he'⟩
   case measure => simp [intOf]; omega
 rw [List.take_of_length_le (by rw [HL.out]; omega)] at hown
 obtain ⟨a', cap', rfl, hsl⟩ := Sl.of_owns hown
 go_wp2
 go_ret
 exact ⟨_, _, _, rfl, by rw [← HV.out]; exact hsl, he⟩
set_option maxHeartbeats 400000 in
theorem r01_at_any (a : Option Addr) (n cap : Nat) (l : List Nat) (i : Nat) (w : World) (hs : Sl w a n cap (ints .u64 l)) (hn : n ≤ 17592186044416) :
    Calls Tryz.prog 151 #[.slice a n cap, .int .i64 i] w fun e w' => e = .returned (.int .u64 (l.getD i 0 : Nat)) ∧ w = w' := by
  have hlen := hs.int_len
  have hcap := hs.2.1
  have hm := hs.2.2.1
  unfold maxLen at hm
  by_cases h : i < n
  · obtain ⟨b, off, rfl, hc⟩ := hs.at_int (by omega)
    have hck := hc i (by omega)
    have HG : Hid (l.getD i 0 = l[i]) := hidP (by rw [List.getD_eq_getElem?_getD]; simp [show i < l.length by omega])
    clear hc
    go_enter Tryz.func151, Tryz.ntmps151
    go_wp2
    go_ret
    exact ⟨ret_int (by rw [HG.out]), rfl⟩
  · have HG : Hid (l.getD i 0 = 0) := hidP (by rw [List.getD_eq_getElem?_getD, List.getElem?_eq_none (by omega)]; rfl)
    go_enter Tryz.func151, Tryz.ntmps151
    go_wp2
    go_ret
    exact ⟨ret_int (by rw [HG.out]; rfl), rfl⟩
set_option maxHeartbeats 1000000 in
theorem r01_cmp_any (a a' : Option Addr) (n cap n' cap' : Nat) (x y : List Nat) (w : World) (hs : Sl w a n cap (ints .u64 x)) (hs' : Sl w a' n' cap' (ints .u64 y)) (hx : Hs x) (hy : Hs y)
    (hn : n ≤ 17592186044416) (hn' : n' ≤ 17592186044416) :
    Calls Tryz.prog 178 #[.slice a n cap, .slice a' n' cap'] w fun e w' => e = .returned (.int .i64 (cmpI (val B16 x) (val B16 y))) ∧ w = w' := by
 have hlen := hs.int_len
 have hlen' := hs'.int_len
 go_enter Tryz.func178, Tryz.ntmps178
 go_wp2
 all_goals
  go_loop [5] (fun i => ∃ k : Nat, k ≤ max n n' ∧ i = .int .i64 ((k : Int) - 1) ∧ ∀ j, k ≤ j → x.getD j 0 = y.getD j 0) (fun i => (intOf i + 1).toNat)
  case atStart =>
   refine ⟨max n n', by omega, by (refine congrArg _ ?_; omega), fun j hj => ?_⟩
   rw [List.getD_eq_getElem?_getD, List.getD_eq_getElem?_getD, List.getElem?_eq_none (by omega), List.getElem?_eq_none (by omega)]
  obtain ⟨k, hk, rfl, he⟩ := hrel
  have HE := hidP he; clear he
  by_cases h0 : 0 < k
  · obtain ⟨i, rfl⟩ : ∃ i, k = i + 1 := ⟨k - 1, by omega⟩
    have e1 : ((i + 1 : Nat) : Int) - 1 = (i : Int) := by omega
    rw [e1]
    clear e1
    have hxi := getD_lt (by unfold B16; omega) hx i
    have hyi := getD_lt (by unfold B16; omega) hy i
    generalize hX : x.getD i 0 = X at *
    generalize hY : y.getD i 0 = Y at *
    have HX := hidP hX; have HY := hidP hY; clear hX hY
    by_cases h1 : X < Y
    · have HV : Hid (cmpI (val B16 x) (val B16 y) = -1) := hidP (by
       have := val_lt_of (by unfold B16; omega) i x y hx (by rw [HX.out, HY.out]; exact h1) (fun j hj => HE.out j (by omega))
       simp [cmpI, this])
      go_wp2_with fail
      refine (r01_at_any a n cap x i _ hs hn).mono ?_
      rw [HX.out]; rintro e w' ⟨rfl, rfl⟩
      go_wp2_with fail
      refine (r01_at_any a' n' cap' y i _ hs' hn').mono ?_
      rw [HY.out]; rintro e w' ⟨rfl, rfl⟩
      go_wp2_with fail
      go_ret
      exact ⟨ret_int HV.out.symm, rfl⟩
    by_cases h2 : Y < X
    · have HV : Hid (cmpI (val B16 x) (val B16 y) = 1) := hidP (by
       have := val_lt_of (by unfold B16; omega) i y x hy (by rw [HX.out, HY.out]; exact h2) (fun j hj => (HE.out j (by omega)).symm)
       simp [cmpI, this, show ¬ val B16 x < val B16 y by omega])
      go_wp2_with fail
      refine (r01_at_any a n cap x i _ hs hn).mono ?_
      rw [HX.out]; rintro e w' ⟨rfl, rfl⟩
      go_wp2_with fail
      refine (r01_at_any a' n' cap' y i _ hs' hn').mono ?_
      rw [HY.out]; rintro e w' ⟨rfl, rfl⟩
      go_wp2_with fail
      refine (r01_at_any a n cap x i _ hs hn).mono ?_
      rw [HX.out]; rintro e w' ⟨rfl, rfl⟩
      go_wp2_with fail
      refine (r01_at_any a' n' cap' y i _ hs' hn').mono ?_
      rw [HY.out]; rintro e w' ⟨rfl, rfl⟩
      go_wp2_with fail
      go_ret
      exact ⟨ret_int HV.out.symm, rfl⟩
    go_wp2_with fail
    refine (r01_at_any a n cap x i _ hs hn).mono ?_
    rw [HX.out]; rintro e w' ⟨rfl, rfl⟩
    go_wp2_with fail
    refine (r01_at_any a' n' cap' y i _ hs' hn').mono ?_
    rw [HY.out]; rintro e w' ⟨rfl, rfl⟩
    go_wp2_with fail
    refine (r01_at_any a n cap x i _ hs hn).mono ?_
    rw [HX.out]; rintro e w' ⟨rfl, rfl⟩
    go_wp2_with fail
    refine (r01_at_any a' n' cap' y i _ hs' hn').mono ?_
    rw [HY.out]; rintro e w' ⟨rfl, rfl⟩
    go_wp2_with fail
    go_round
    case rel =>
     refine ⟨i, by omega, rfl, fun j hj => ?_⟩
     by_cases hji : j = i
     · subst hji; rw [HX.out, HY.out]; omega
     exact HE.out j (by omega)
    case measure => simp [intOf]
  obtain rfl : k = 0 := by omega
  have HV : Hid (cmpI (val B16 x) (val B16 y) = 0) := hidP (by
   have := val_eq_of B16 (x.length + y.length) x y (by omega) (by omega) (fun j => HE.out j (by omega))
   simp [cmpI, this])
  go_wp2
  go_ret
  exact ⟨ret_int HV.out.symm, rfl⟩
set_option maxHeartbeats 400000 in
theorem r01_Cmp_any (a a' : Option Addr) (n cap n' cap' : Nat) (x y : List Nat) (w : World) (hs : Sl w a n cap (ints .u32 x)) (hs' : Sl w a' n' cap' (ints .u32 y)) (hx : Ws x) (hy : Ws y)
    (hn : n ≤ 1099511627776) (hn' : n' ≤ 1099511627776) :
    Calls Tryz.prog 146 #[.slice a n cap, .slice a' n' cap'] w fun e w' => e = .returned (.int .i64 (cmpI (val B32 x) (val B32 y))) ∧ Ext w w' := by
  go_enter Tryz.func146, Tryz.ntmps146
  go_wp2_with fail
  refine (r01_half_any a n cap x _ hs hx hn).mono ?_
  rintro e w1 ⟨a1, n1, cap1, rfl, hs1, he1⟩
  go_wp2_with fail
  refine (r01_half_any a' n' cap' y _ (hs'.ext he1) hy hn').mono ?_
  rintro e w2 ⟨a2, n2, cap2, rfl, hs2, he2⟩
  go_wp2_with fail
  refine (r01_cmp_any a1 a2 n1 cap1 n2 cap2 _ _ _ (hs1.ext he2) hs2 (Hs.dig _) (Hs.dig _) ?_ ?_).mono ?_
  · have := hs1.int_len; have := dig16_len_le x hx; have := hs.int_len; unfold B16 B32 at *; omega
  · have := hs2.int_len; have := dig16_len_le y hy; have := hs'.int_len; unfold B16 B32 at *; omega
  rw [val_dig B16_two, val_dig B16_two]
  rintro e w' ⟨rfl, rfl⟩
  go_wp2
  go_ret
  exact ⟨rfl, he1.trans he2⟩
end Go.Proofs.YtgjjalnmigdjgaaGreat
namespace Go.Proofs.YtgjjalnmigdjgaaGreat
set_option linter.unusedVariables false
open Go Go.RowKit
theorem half_len {w : World} {a a1 : Option Addr} {n cap n1 cap1 : Nat} {x : List Nat} {w1 : World} (hs : Sl w a n cap (ints .u32 x)) (hx : Ws x) (hs1 : Sl w1 a1 n1 cap1 (ints .u64 (dig B16 (val B32 x)))) : n1 ≤ 2 * n := by
  have := hs1.int_len; have := dig16_len_le x hx; have := hs.int_len; unfold B16 B32 at *; omega
set_option maxHeartbeats 1000000 in
theorem r01_Add_any (a a' : Option Addr) (n cap n' cap' : Nat) (x y : List Nat) (w : World) (hs : Sl w a n cap (ints .u32 x)) (hs' : Sl w a' n' cap' (ints .u32 y)) (hx : Ws x) (hy : Ws y)
    (hn : n ≤ 1099511627776) (hn' : n' ≤ 1099511627776) :
    Calls Tryz.prog 106 #[.slice a n cap, .slice a' n' cap'] w (RetSl w (ints .u32 (dig B32 (val B32 x + val B32 y)))) := by
 go_enter Tryz.func106, Tryz.ntmps106
 go_wp2_with fail
 refine (r01_half_any a n cap x _ hs hx hn).mono ?_
 rintro e w1 ⟨a1, n1, cap1, rfl, hs1, he1⟩
 go_wp2_with fail
 refine (r01_half_any a' n' cap' y _ (hs'.ext he1) hy hn').mono ?_
 rintro e w2 ⟨a2, n2, cap2, rfl, hs2, he2⟩
 have hn1 := half_len hs hx hs1
 have hn2 := half_len hs' hy hs2
 have hs1' := hs1.ext he2
 have he12 := he1.trans he2
 have hm1 := hs1.2.2.1
 have hm2 := hs2.2.2.1
 unfold maxLen at hm1 hm2
 have hl1 := hs1'.int_len
 have hl2 := hs2.int_len
 clear hs1 he1 he2
 generalize hX : dig B16 (val B32 x) = X at *
 generalize hY : dig B16 (val B32 y) = Y at *
 have hXH : Hs X := hX ▸ Hs.dig _
 have hYH : Hs Y := hY ▸ Hs.dig _
 have HX := hidP hX; have HY := hidP hY; clear hX hY
 go_wp2_with fail
 go_loopw [7, 8, 9] (fun v c i wr => ∃ (k cc : Nat) (D : List Nat), k ≤ max n1 n2 + 1 ∧ i = .int .i64 k ∧ c = .int .u64 (cc : Nat) ∧ wr.ownsRow w2.heap.size 143 1 v k (ints .u64 D) ∧ Ext w2 wr ∧ cc ≤ 1 ∧ D.length = k ∧ Hs D ∧ val B16 D + B16 ^ k * cc = val B16 (X.take k) + val B16 (Y.take k)) (fun _ _ i _ => max n1 n2 + 1 - (intOf i).toNat)
 case atStart => exact ⟨0, 0, [], by omega, rfl, rfl, by simpa [ints] using World.ownsRow_nil w2 w2.heap.size 143 1, Ext.refl _, by omega, rfl, by simp [Hs], by simp [val]⟩
 obtain ⟨k, cc, D, hk, rfl, rfl, hown, he2, hcc, hDl, hD, hv⟩ := hrel
 have HV := hidP hv; clear hv
 have hsx := hs1'.ext he2
 have hsy := hs2.ext he2
 rcases Nat.lt_or_ge n1 n2 with hmx | hmx
 all_goals
  by_cases h0 : k < max n1 n2 + 1
  · have hxi := getD_lt (by unfold B16; omega) hXH k
    have hyi := getD_lt (by unfold B16; omega) hYH k
    generalize hP : X.getD k 0 = p at *
    generalize hQ : Y.getD k 0 = q at *
    have HP := hidP hP; have HQ := hidP hQ; clear hP hQ
    have hpq : p < 65536 := by unfold B16 at hxi; omega
    have hqq : q < 65536 := by unfold B16 at hyi; omega
    clear hxi hyi
    have HK := hidP h0
    have h0' : k ≤ n1 ∨ k ≤ n2 := by omega
    clear h0 hk
    go_wp2_with fail
    refine (r01_at_any a1 n1 cap1 X k _ hsx (by omega)).mono ?_
    rw [HP.out]; rintro e w' ⟨rfl, rfl⟩
    go_wp2_with fail
    refine (r01_at_any a2 n2 cap2 Y k _ hsy (by omega)).mono ?_
    rw [HQ.out]; rintro e w' ⟨rfl, rfl⟩
    go_wp2_with (at_builtin; refine wpList_app1 T_u64 rfl _ _ rfl hown he2 _ rfl rfl rfl (by omega) (by omega) ?_; intro v' w' hown' he')
    go_roundw
    case rel =>
     refine ⟨k + 1, (p + q + cc) / 65536, D ++ [(p + q + cc) % 65536], ?_, by go_num, rfl, ?_, he', by omega, by simp [hDl], ?_, ?_⟩
     · have := HK.out; omega
     · rw [ints_append]; exact hown'
     · intro d hd
       rcases List.mem_append.1 hd with hd | hd
       · exact hD d hd
       simp at hd; subst hd; exact Nat.mod_lt _ (by decide)
     have := add_step (B := B16) (x := p) (y := q) HV.out
     rw [val_take_snoc, val_take_snoc, HP.out, HQ.out, val_snoc, hDl, Nat.pow_succ]
     exact this
    case measure => have h5 := HK.out; simp only [intOf]; omega
  have hk5 : n1 < k := by omega
  have hk6 : n2 < k := by omega
  have hk7 : k ≤ 4398046511104 := by omega
  clear hk h0
  obtain ⟨a', cap', rfl, hsl⟩ := Sl.of_owns hown
  have hv := HV.out
  rw [List.take_of_length_le (by omega), List.take_of_length_le (by omega)] at hv
  have hc0 := add_end B16_two hXH hYH (by omega) (by omega) hv
  rw [hc0, ← HX.out, ← HY.out, val_dig B16_two, val_dig B16_two] at hv
  simp only [Nat.mul_zero, Nat.add_zero] at hv
  have HV2 := hidP hv
  clear hv hc0
  go_wp2_with fail
  refine (r01_words_any _ _ _ _ _ hsl hD (by omega)).mono ?_
  rw [HV2.out]
  rintro e w' ⟨a5, n5, cap5, rfl, hs5, he5⟩
  go_wp2
  go_ret
  exact ⟨_, _, _, rfl, hs5, he12.trans (he2.trans he5)⟩
end Go.Proofs.YtgjjalnmigdjgaaGreat
namespace Go.Proofs.YtgjjalnmigdjgaaGreat
set_option linter.unusedVariables false
open Go Go.RowKit
theorem cut_sl {w : World} {a : Option Addr} {n cap : Nat} {D : List Nat} (hsl : Sl w a n cap (ints .u64 D)) (hD : Hs D) : Sl w a (dig B16 (val B16 D)).length cap (ints .u64 (dig B16 (val B16 D))) := by
  have ht := take_dig_len B16_two D hD
  have hx := hsl.take (dig B16 (val B16 D)).length (by have := dig_val_len B16_two D hD; have := hsl.int_len; omega)
  rw [ints_take, ht] at hx
  exact hx
set_option maxHeartbeats 1000000 in
theorem r01_sub_any (a a' : Option Addr) (n cap n' cap' : Nat) (X Y : List Nat) (w : World) (hs : Sl w a n cap (ints .u64 X)) (hs' : Sl w a' n' cap' (ints .u64 Y)) (hX : Hs X) (hY : Hs Y)
    (hn : n ≤ 4398046511104) (hn' : n' ≤ n) (hle : val B16 Y ≤ val B16 X) :
    Calls Tryz.prog 179 #[.slice a n cap, .slice a' n' cap'] w (RetSl w (ints .u64 (dig B16 (val B16 X - val B16 Y)))) := by
 have hl1 := hs.int_len
 have hl2 := hs'.int_len
 have HLE := hidP hle; clear hle
 go_enter Tryz.func179, Tryz.ntmps179
 go_wp2_with fail
 go_loopw [5, 6, 7] (fun v c i wr => ∃ (k cc : Nat) (D : List Nat), k ≤ n ∧ i = .int .i64 k ∧ c = .int .u64 (cc : Nat) ∧ wr.ownsRow w.heap.size 143 1 v k (ints .u64 D) ∧ Ext w wr ∧ cc ≤ 1 ∧ D.length = k ∧ Hs D ∧ val B16 D + val B16 (Y.take k) = val B16 (X.take k) + B16 ^ k * cc) (fun _ _ i _ => n - (intOf i).toNat)
 case atStart => exact ⟨0, 0, [], by omega, rfl, rfl, by simpa [ints] using World.ownsRow_nil w w.heap.size 143 1, Ext.refl _, by omega, rfl, by simp [Hs], by simp [val]⟩
 obtain ⟨k, cc, D, hk, rfl, rfl, hown, he, hcc, hDl, hD, hv⟩ := hrel
 have HV := hidP hv; clear hv
 have hsx := hs.ext he
 have hsy := hs'.ext he
 by_cases h0 : k < n
 · have hxi := getD_lt (by unfold B16; omega) hX k
   have hyi := getD_lt (by unfold B16; omega) hY k
   generalize hP : X.getD k 0 = p at *
   generalize hQ : Y.getD k 0 = q at *
   have HP := hidP hP; have HQ := hidP hQ; clear hP hQ
   have hpq : p < 65536 := by unfold B16 at hxi; omega
   have hqq : q < 65536 := by unfold B16 at hyi; omega
   clear hxi hyi
   have hge : (q : Int) + (cc : Int) ≤ 65536 + (p : Int) := by omega
   go_wp2_with fail
   refine (r01_at_any a n cap X k _ hsx (by omega)).mono ?_
   rw [HP.out]; rintro e w' ⟨rfl, rfl⟩
   go_wp2_with fail
   refine (r01_at_any a' n' cap' Y k _ hsy (by omega)).mono ?_
   rw [HQ.out]; rintro e w' ⟨rfl, rfl⟩
   go_wp2_with (at_builtin; refine wpList_app1 T_u64 rfl _ _ rfl hown he _ rfl rfl rfl (by omega) (by omega) ?_; intro v' w' hown' he')
   go_roundw
   case rel =>
    refine ⟨k + 1, 1 - (65536 + p - q - cc) / 65536, D ++ [(65536 + p - q - cc) % 65536], by omega, by go_num, by refine congrArg _ ?_; omega, ?_, he', by omega, by simp [hDl], ?_, ?_⟩
    · rw [ints_append]
      have e : (((65536 + p - q - cc) % 65536 : Nat) : Int) = (65536 + (p : Int) - q - cc) % 65536 := by omega
      simp only [ints, List.map_cons, List.map_nil, e]
      exact hown'
    · intro d hd
      rcases List.mem_append.1 hd with hd | hd
      · exact hD d hd
      simp at hd; subst hd; exact Nat.mod_lt _ (by decide)
    have := sub_step (B := B16) (P := B16 ^ k) (x := p) (y := q) (by decide) hcc hqq HV.out
    rw [val_take_snoc, val_take_snoc, HP.out, HQ.out, val_snoc, hDl, Nat.pow_succ]
    rcases this with h | h | h
    · have e : val B16 D + B16 ^ k * ((65536 + p - q - cc) % 65536) + (val B16 (Y.take k) + B16 ^ k * q) = val B16 (X.take k) + B16 ^ k * p + B16 ^ k * B16 * (1 - (65536 + p - q - cc) / 65536) := h
      omega
    · unfold B16 at h; omega
    unfold B16 at h; omega
   case measure => simp only [intOf]; omega
 obtain rfl : k = n := by omega
 obtain ⟨a5, cap5, rfl, hsl⟩ := Sl.of_owns hown
 have hv := HV.out
 rw [List.take_of_length_le (by omega), List.take_of_length_le (by omega)] at hv
 have hc0 : val B16 D = val B16 X - val B16 Y := by
  have h1 := val_lt (B := B16) (by decide) D hD
  rw [hDl] at h1
  have h2 := HLE.out
  match cc, hcc with
  | 0, _ => simp only [Nat.mul_zero, Nat.add_zero] at hv; omega
  | 1, _ => simp only [Nat.mul_one] at hv; omega
 have HV2 := hidP hc0
 clear hv hc0
 go_wp2_with fail
 refine (r01_cut_any _ _ _ _ _ hsl hD (by omega)).mono ?_
 rintro e w' ⟨rfl, rfl⟩
 go_wp2
 go_ret
 exact ⟨_, _, _, rfl, by rw [← HV2.out]; exact cut_sl hsl hD, he⟩
set_option maxHeartbeats 1000000 in
theorem r01_Sub_any (a a' : Option Addr) (n cap n' cap' : Nat) (x y : List Nat) (w : World) (hs : Sl w a n cap (ints .u32 x)) (hs' : Sl w a' n' cap' (ints .u32 y)) (hx : Ws x) (hy : Ws y)
    (hn : n ≤ 1099511627776) (hn' : n' ≤ 1099511627776) :
    Calls Tryz.prog 147 #[.slice a n cap, .slice a' n' cap'] w (RetSlB w (ints .u32 (dig B32 (val B32 x - val B32 y))) (decide (val B32 y ≤ val B32 x))) := by
  by_cases hlt : val B32 x < val B32 y
  · have HC := hidP (cmpI_lt hlt)
    have HD : Hid (val B32 x - val B32 y = 0 ∧ decide (val B32 y ≤ val B32 x) = false) := hidP ⟨by omega, by simpa using hlt⟩
    clear hlt
    go_enter Tryz.func147, Tryz.ntmps147
    go_wp2_with fail
    refine (r01_Cmp_any a a' n cap n' cap' x y _ hs hs' hx hy hn hn').mono ?_
    rw [HC.out]
    rintro e w1 ⟨rfl, he1⟩
    go_wp2
    go_ret2
    exact ⟨none, 0, 0, by rw [HD.out.2]; rfl, by rw [HD.out.1, dig_zero]; exact Sl.nil _, he1⟩
  · have hge : val B32 y ≤ val B32 x := by omega
    have hc := cmpI_ge hge
    have HD : Hid (decide (val B32 y ≤ val B32 x) = true) := hidP (by simpa using hge)
    have HG := hidP hge
    clear hlt hge
    go_enter Tryz.func147, Tryz.ntmps147
    go_wp2_with fail
    refine (r01_Cmp_any a a' n cap n' cap' x y _ hs hs' hx hy hn hn').mono ?_
    generalize cmpI (val B32 x) (val B32 y) = c at *
    rintro e w1 ⟨rfl, he1⟩
    go_wp2_with fail
    refine (r01_half_any a n cap x _ (hs.ext he1) hx hn).mono ?_
    rintro e w2 ⟨a2, n2, cap2, rfl, hs2, he2⟩
    go_wp2_with fail
    have he12 := he1.trans he2
    refine (r01_half_any a' n' cap' y _ (hs'.ext he12) hy hn').mono ?_
    rintro e w3 ⟨a3, n3, cap3, rfl, hs3, he3⟩
    go_wp2_with fail
    have hn2 := half_len hs hx hs2
    have hl2 := hs2.int_len
    have hl3 := hs3.int_len
    refine (r01_sub_any a2 a3 n2 cap2 n3 cap3 _ _ _ (hs2.ext he3) hs3 (Hs.dig _) (Hs.dig _) (by omega) ?_ ?_).mono ?_
    · rw [← hl2, ← hl3]; exact dig_mono B16_two HG.out
    · rw [val_dig B16_two, val_dig B16_two]; exact HG.out
    rw [val_dig B16_two, val_dig B16_two]
    rintro e w4 ⟨a4, n4, cap4, rfl, hs4, he4⟩
    go_wp2_with fail
    have hl4 := hs4.int_len
    refine (r01_words_any a4 n4 cap4 _ _ hs4 (Hs.dig _) ?_).mono ?_
    · have h4 := dig_mono B16_two (Nat.sub_le (val B32 x) (val B32 y)); omega
    rw [val_dig B16_two]
    rintro e w5 ⟨a5, n5, cap5, rfl, hs5, he5⟩
    go_wp2
    go_ret2
    exact ⟨_, _, _, by rw [HD.out]; rfl, hs5, he12.trans (he3.trans (he4.trans he5))⟩
end Go.Proofs.YtgjjalnmigdjgaaGreat
namespace Go.Proofs.YtgjjalnmigdjgaaGreat
set_option linter.unusedVariables false
open Go Go.RowKit
set_option maxHeartbeats 1000000 in
theorem r01_Of_any (v : Nat) (hv : v ≤ 18446744073709551615) (w : World) :
    Calls Tryz.prog 107 #[.int .u64 v] w (RetSl w (ints .u32 (dig B32 v))) := by
  go_enter Tryz.func107, Tryz.ntmps107
  go_wp2_with fail
  refine (r01_words_any _ 4 4 [v % 65536, v / 65536 % 65536, v / 65536 / 65536 % 65536, v / 65536 / 65536 / 65536] _ (Sl.lit w _ _ 4 rfl (by omega)) ?_ (by omega)).mono ?_
  · intro x hx
    simp at hx
    unfold B16
    rcases hx with rfl | rfl | rfl | rfl <;> omega
  have hval : val B16 [v % 65536, v / 65536 % 65536, v / 65536 / 65536 % 65536, v / 65536 / 65536 / 65536] = v := by
    simp only [val, B16]; omega
  rw [hval]
  clear hval
  rintro e w' ⟨a5, n5, cap5, rfl, hs5, he5⟩
  go_wp2
  go_ret
  exact ⟨_, _, _, rfl, hs5, ((Ext.refl _).alloc _).trans he5⟩
theorem digit_at {B : Nat} (hB : 0 < B) : ∀ (j : Nat) (l : List Nat), (∀ x ∈ l, x < B) → val B l / B ^ j % B = l.getD j 0
  | 0, l, h => by
    rw [val_head B l, Nat.pow_zero, Nat.div_one, Nat.add_mul_mod_self_left, Nat.mod_eq_of_lt (getD_lt hB h 0)]
  | j + 1, l, h => by
    rw [Nat.pow_succ, Nat.mul_comm, ← Nat.div_div_eq_div_mul]
    have e : val B l / B = val B l.tail := by
      rw [val_head B l, Nat.add_mul_div_left _ _ hB, Nat.div_eq_of_lt (getD_lt hB h 0), Nat.zero_add]
    rw [e, digit_at hB j l.tail (fun x hx => h x (List.mem_of_mem_tail hx)), getD_tail]
theorem bit_at {l : List Nat} (hl : Hs l) (i : Nat) : val B16 l / 2 ^ i % 2 = l.getD (i / 16) 0 / 2 ^ (i % 16) % 2 := by
  have e : i = 16 * (i / 16) + i % 16 := by omega
  have hr : i % 16 < 16 := Nat.mod_lt _ (by decide)
  rw [← digit_at (by decide : 0 < B16) (i / 16) l hl]
  generalize val B16 l = V at *
  generalize i / 16 = j at *
  generalize i % 16 = r at *
  subst e
  have e2 : (2 : Nat) ^ (16 * j + r) = B16 ^ j * 2 ^ r := by
    rw [Nat.pow_add, Nat.pow_mul]; rfl
  rw [e2, ← Nat.div_div_eq_div_mul]
  generalize V / B16 ^ j = x
  rw [← Nat.toNat_testBit, ← Nat.toNat_testBit]
  have : x % B16 = x % 2 ^ 16 := rfl
  rw [this, Nat.testBit_mod_two_pow]
  simp [hr]
set_option maxHeartbeats 1000000 in
theorem r01_bit_any (a : Option Addr) (n cap : Nat) (l : List Nat) (i : Nat) (w : World) (hs : Sl w a n cap (ints .u64 l)) (hl : Hs l) (hn : n ≤ 17592186044416) (hi : i ≤ 281474976710656) :
    Calls Tryz.prog 175 #[.slice a n cap, .int .i64 i] w fun e w' => e = .returned (.int .u64 (val B16 l / 2 ^ i % 2 : Nat)) ∧ w = w' := by
  have hlt := getD_lt (by unfold B16; omega) hl (i / 16)
  generalize hP : l.getD (i / 16) 0 = p at *
  have HP := hidP hP; clear hP
  have hpq : p < 65536 := by unfold B16 at hlt; omega
  clear hlt
  go_enter Tryz.func175, Tryz.ntmps175
  go_wp2_with fail
  refine (r01_at_any a n cap l (i / 16) _ hs hn).mono ?_
  rw [HP.out]
  rintro e w' ⟨rfl, rfl⟩
  go_wp2
  go_ret
  exact ⟨ret_int (by rw [bit_at hl i, HP.out]; rfl), rfl⟩
set_option maxHeartbeats 1000000 in
theorem r01_small_any (a : Option Addr) (n cap : Nat) (l : List Nat) (w : World) (hs : Sl w a n cap (ints .u64 l)) (hl : Hs l) (hn : n ≤ 4) :
    Calls Tryz.prog 208 #[.slice a n cap] w fun e w' => e = .returned (.int .u64 (val B16 l : Nat)) ∧ w = w' := by
  have hl1 := hs.int_len
  go_enter Tryz.func208, Tryz.ntmps208
  go_wp2_with fail
  go_loop [3, 4] (fun v i => ∃ k V : Nat, k ≤ n ∧ i = .int .i64 ((k : Int) - 1) ∧ v = .int .u64 V ∧ V = val B16 (l.drop k)) (fun _ i => (intOf i + 1).toNat)
  case atStart => exact ⟨n, 0, by omega, rfl, rfl, by rw [List.drop_of_length_le (by omega)]; rfl⟩
  case round =>
    obtain ⟨k, V, hk, rfl, rfl, hv⟩ := hrel
    have hlt := val_lt (B := B16) (by unfold B16; omega) (l.drop k) (fun x hx => hl x (List.mem_of_mem_drop hx))
    rw [← hv] at hlt
    have HV := hidP hv; clear hv
    by_cases h0 : 0 < k
    · obtain ⟨i, rfl⟩ : ∃ i, k = i + 1 := ⟨k - 1, by omega⟩
      have e1 : ((i + 1 : Nat) : Int) - 1 = (i : Int) := by omega
      rw [e1]
      clear e1
      obtain ⟨b, off, rfl, hc⟩ := hs.at_int (by omega)
      have hck := hc i (by omega)
      have hx := hl.at i (by omega)
      clear hc
      have hV : V < 281474976710656 := by
        have : B16 ^ (l.drop (i + 1)).length ≤ B16 ^ 3 := Nat.pow_le_pow_right (by decide) (by rw [List.length_drop]; omega)
        have e : B16 ^ 3 = 281474976710656 := by decide
        omega
      clear hlt
      go_wp2
      go_round
      case rel => exact ⟨i, l[i] + 65536 * V, by omega, by go_num, by refine congrArg _ ?_; omega, by rw [List.drop_eq_getElem_cons (by omega), val, HV.out]; rfl⟩
      case measure => simp [intOf]
    · obtain rfl : k = 0 := by omega
      go_wp2
      go_ret
      exact ⟨ret_int (by rw [HV.out]; simp), rfl⟩
end Go.Proofs.YtgjjalnmigdjgaaGreat
namespace Go.Proofs.YtgjjalnmigdjgaaGreat
set_option linter.unusedVariables false
open Go Go.RowKit
set_option maxHeartbeats 1000000 in
theorem r01_Bits_any (a : Option Addr) (n cap : Nat) (x : List Nat) (w : World) (hs : Sl w a n cap (ints .u32 x)) (hx : Ws x) (hn : n ≤ 1099511627776) :
    Calls Tryz.prog 140 #[.slice a n cap] w fun e w' => e = .returned (.int .i64 (bitlen (val B32 x) : Nat)) ∧ Ext w w' := by
 go_enter Tryz.func140, Tryz.ntmps140
 go_wp2_with fail
 refine (r01_half_any a n cap x _ hs hx hn).mono ?_
 rintro e w1 ⟨a1, n1, cap1, rfl, hs1, he1⟩
 have hn1 := half_len hs hx hs1
 have hl1 := hs1.int_len
 have HL := hidP hl1; clear hl1
 go_wp2_with fail
 go_loop [4] (fun i => ∃ k : Nat, k ≤ 16 * n1 ∧ i = .int .i64 ((k : Int) - 1) ∧ val B32 x < 2 ^ k) (fun i => (intOf i + 1).toNat)
 case atStart =>
  refine ⟨16 * n1, by omega, by go_num, ?_⟩
  have := val_lt (B := B16) (by decide) (dig B16 (val B32 x)) (Hs.dig _)
  rw [val_dig B16_two, HL.out] at this
  rw [Nat.pow_mul]; exact this
 obtain ⟨k, hk, rfl, hv⟩ := hrel
 have HV := hidP hv; clear hv
 by_cases h0 : 0 < k
 · obtain ⟨i, rfl⟩ : ∃ i, k = i + 1 := ⟨k - 1, by omega⟩
   have e1 : ((i + 1 : Nat) : Int) - 1 = (i : Int) := by omega
   rw [e1]
   clear e1
   by_cases hb : val B32 x / 2 ^ i % 2 = 1
   · have HB := hidP hb; clear hb
     have HR : Hid (bitlen (val B32 x) = i + 1) := hidP (by
      refine bitlen_of ?_ HV.out
      have hb := HB.out
      rcases Nat.lt_or_ge (val B32 x) (2 ^ i) with h | h
      · rw [Nat.div_eq_of_lt h] at hb; simp at hb
      exact h)
     go_wp2_with fail
     refine (r01_bit_any a1 n1 cap1 _ i _ hs1 (Hs.dig _) (by omega) (by omega)).mono ?_
     rw [val_dig B16_two, HB.out]
     rintro e w' ⟨rfl, rfl⟩
     go_wp2
     go_ret
     exact ⟨ret_int (by rw [HR.out]; rfl), he1⟩
   have hb0 : val B32 x / 2 ^ i % 2 = 0 := by omega
   have HB := hidP hb0
   have HR : Hid (val B32 x < 2 ^ i) := hidP (by
    have h1 := HV.out
    rw [Nat.pow_succ] at h1
    have h2 : val B32 x / 2 ^ i < 2 := (Nat.div_lt_iff_lt_mul (Nat.two_pow_pos i)).2 (by omega)
    have h3 : val B32 x / 2 ^ i = 0 := by
     have h5 := HB.out
     generalize val B32 x / 2 ^ i = q at *
     omega
    rcases Nat.lt_or_ge (val B32 x) (2 ^ i) with h | h
    · exact h
    have := Nat.div_pos h (Nat.two_pow_pos i); omega)
   clear hb hb0
   go_wp2_with fail
   refine (r01_bit_any a1 n1 cap1 _ i _ hs1 (Hs.dig _) (by omega) (by omega)).mono ?_
   rw [val_dig B16_two, HB.out]
   rintro e w' ⟨rfl, rfl⟩
   go_wp2
   go_round
   case rel => exact ⟨i, by omega, rfl, HR.out⟩
   case measure => simp [intOf]
 obtain rfl : k = 0 := by omega
 have HR : Hid (bitlen (val B32 x) = 0) := hidP (by
  have := HV.out
  have h0 : val B32 x = 0 := by omega
  rw [h0]; rfl)
 go_wp2
 go_ret
 exact ⟨ret_int (by rw [HR.out]; rfl), he1⟩
set_option maxHeartbeats 1000000 in
theorem r01_twice_any (a : Option Addr) (n cap : Nat) (X : List Nat) (m : Nat) (w : World) (hs : Sl w a n cap (ints .u64 X)) (hX : Hs X) (hm : m ≤ 1) (hn : n ≤ 4398046511104) :
    Calls Tryz.prog 225 #[.slice a n cap, .int .u64 m] w (RetSl w (ints .u64 (dig B16 (2 * val B16 X + m)))) := by
 have hl1 := hs.int_len
 go_enter Tryz.func225, Tryz.ntmps225
 go_wp2_with fail
 go_loopw [5, 6, 7] (fun v c i wr => ∃ (k cc : Nat) (D : List Nat), k ≤ n + 1 ∧ i = .int .i64 k ∧ c = .int .u64 (cc : Nat) ∧ wr.ownsRow w.heap.size 143 1 v k (ints .u64 D) ∧ Ext w wr ∧ cc ≤ 1 ∧ D.length = k ∧ Hs D ∧ val B16 D + B16 ^ k * cc = (val B16 (X.take k) + val B16 (X.take k)) + m) (fun _ _ i _ => n + 1 - (intOf i).toNat)
 case atStart => exact ⟨0, m, [], by omega, rfl, rfl, by simpa [ints] using World.ownsRow_nil w w.heap.size 143 1, Ext.refl _, by omega, rfl, by simp [Hs], by simp [val]⟩
 obtain ⟨k, cc, D, hk, rfl, rfl, hown, he, hcc, hDl, hD, hv⟩ := hrel
 have HV := hidP hv; clear hv
 have hsx := hs.ext he
 by_cases h0 : k < n + 1
 · have hxi := getD_lt (by unfold B16; omega) hX k
   generalize hP : X.getD k 0 = p at *
   have HP := hidP hP; clear hP
   have hpq : p < 65536 := by unfold B16 at hxi; omega
   clear hxi
   go_wp2_with fail
   refine (r01_at_any a n cap X k _ hsx (by omega)).mono ?_
   rw [HP.out]; rintro e w' ⟨rfl, rfl⟩
   go_wp2_with (at_builtin; refine wpList_app1 T_u64 rfl _ _ rfl hown he _ rfl rfl rfl (by omega) (by omega) ?_; intro v' w' hown' he')
   go_roundw
   case rel =>
    refine ⟨k + 1, (2 * p + cc) / 65536, D ++ [(2 * p + cc) % 65536], by omega, by go_num, rfl, ?_, he', by omega, by simp [hDl], ?_, ?_⟩
    · rw [ints_append]; exact hown'
    · intro d hd
      rcases List.mem_append.1 hd with hd | hd
      · exact hD d hd
      simp at hd; subst hd; exact Nat.mod_lt _ (by decide)
    have := add_step (B := B16) (P := B16 ^ k) (x := p) (y := p) (X := val B16 (X.take k) + m) (Y := val B16 (X.take k)) (d := val B16 D) (c := cc) (by rw [HV.out]; omega)
    rw [val_take_snoc, HP.out, val_snoc, hDl, Nat.pow_succ, show 2 * p + cc = p + p + cc by omega]
    have e : val B16 D + B16 ^ k * ((p + p + cc) % 65536) + B16 ^ k * B16 * ((p + p + cc) / 65536) = val B16 (X.take k) + m + B16 ^ k * p + (val B16 (X.take k) + B16 ^ k * p) := this
    omega
   case measure => simp only [intOf]; omega
 have hk5 : n < k := by omega
 have hk7 : k ≤ 4398046511105 := by omega
 clear hk h0
 obtain ⟨a5, cap5, rfl, hsl⟩ := Sl.of_owns hown
 have hv := HV.out
 rw [List.take_of_length_le (by omega)] at hv
 have HV2 : Hid (val B16 D = 2 * val B16 X + m) := hidP (by
  obtain ⟨j, rfl⟩ : ∃ j, k = j + 1 := ⟨k - 1, by omega⟩
  have h1 := val_lt (B := B16) (by decide) X hX
  have h3 : B16 ^ X.length ≤ B16 ^ j := Nat.pow_le_pow_right (by decide) (by omega)
  rw [Nat.pow_succ] at hv
  have h4 : B16 ^ j * B16 * cc = B16 ^ j * (B16 * cc) := Nat.mul_assoc _ _ _
  match cc, hcc with
  | 0, _ => simp only [Nat.mul_zero, Nat.add_zero] at hv; omega
  | 1, _ => simp only [Nat.mul_one] at hv; unfold B16 at *; omega)
 clear hv
 go_wp2_with fail
 refine (r01_cut_any _ _ _ _ _ hsl hD (by omega)).mono ?_
 rintro e w' ⟨rfl, rfl⟩
 go_wp2
 go_ret
 exact ⟨_, _, _, rfl, by rw [← HV2.out]; exact cut_sl hsl hD, he⟩
set_option maxHeartbeats 1000000 in
theorem r01_Power_any (n : Nat) (w : World) (hn : n ≤ 35184372088832) :
    Calls Tryz.prog 207 #[.int .i64 n] w (RetSl w (ints .u32 (dig B32 (2 ^ n)))) := by
  go_enter Tryz.func207, Tryz.ntmps207
  go_wp2_with fail
  have hlit := Sl.lit w 143 #[.int .u64 1] 1 rfl (by omega)
  have he0 : Ext w (w.alloc (.cells #[.int .u64 1] 143)) := (Ext.refl _).alloc _
  generalize w.alloc _ = w0 at *
  go_loopw [3, 4] (fun v i wr => ∃ (k m cap : Nat) (a : Option Addr), k ≤ n ∧ i = .int .i64 k ∧ v = .slice a m cap ∧ Sl wr a m cap (ints .u64 (dig B16 (2 ^ k))) ∧ Ext w wr) (fun _ i _ => n - (intOf i).toNat)
  case atStart => exact ⟨0, 1, 1, _, by omega, rfl, rfl, hlit, he0⟩
  case round =>
    obtain ⟨k, m, cap, a, hk, rfl, rfl, hsl, he⟩ := hrel
    have hm : m ≤ k / 16 + 1 := by
      have := hsl.int_len
      have h2 : (dig B16 (2 ^ k)).length ≤ k / 16 + 1 := dig_len_le B16_two (by
        have : B16 ^ (k / 16 + 1) = 2 ^ (16 * (k / 16 + 1)) := by rw [Nat.pow_mul]; rfl
        rw [this]
        exact Nat.pow_lt_pow_right (by decide) (by omega))
      omega
    by_cases h0 : k < n
    · go_wp2_with fail
      refine (r01_twice_any a m cap _ 0 _ hsl (Hs.dig _) (by omega) (by omega)).mono ?_
      rw [val_dig B16_two]
      rintro e w1 ⟨a1, m1, cap1, rfl, hs1, he1⟩
      go_wp2_with fail
      go_roundw
      case rel => exact ⟨k + 1, m1, cap1, a1, by omega, by go_num, rfl, by rw [Nat.pow_succ, Nat.mul_comm]; exact hs1, he.trans he1⟩
      case measure => simp only [intOf]; omega
    · obtain rfl : k = n := by omega
      go_wp2_with fail
      refine (r01_words_any a m cap _ _ hsl (Hs.dig _) (by omega)).mono ?_
      rw [val_dig B16_two]
      rintro e w1 ⟨a1, m1, cap1, rfl, hs1, he1⟩
      go_wp2
      go_ret
      exact ⟨_, _, _, rfl, hs1, he.trans he1⟩
end Go.Proofs.YtgjjalnmigdjgaaGreat
namespace Go.Proofs.YtgjjalnmigdjgaaGreat
set_option linter.unusedVariables false
open Go Go.RowKit
theorem getD_zero_of_lt {B : Nat} (hB : 0 < B) {D : List Nat} (hD : ∀ x ∈ D, x < B) {m : Nat} (h : val B D < B ^ m) (j : Nat) (hj : m ≤ j) : D.getD j 0 = 0 := by
  rw [← digit_at hB j D hD, Nat.div_eq_of_lt (Nat.lt_of_lt_of_le h (Nat.pow_le_pow_right hB hj)), Nat.zero_mod]
theorem mul_step {B P V V' d c x y v R : Nat} (hv : v = d + x * y + c) (hset : V' + P * d = V + P * (v % B)) (h : V + P * c = R) : V' + P * B * (v / B) = R + P * (x * y) := by
  have := Nat.div_add_mod v B
  have e : P * (v % B) + P * B * (v / B) = P * v := by rw [Nat.mul_assoc, ← Nat.mul_add, Nat.add_comm, this]
  have e2 : P * v = P * d + P * (x * y) + P * c := by rw [hv, Nat.mul_add, Nat.mul_add]
  omega
set_option maxHeartbeats 2000000 in
theorem r01_Mul_any (a a' : Option Addr) (n cap n' cap' : Nat) (x y : List Nat) (w : World) (hs : Sl w a n cap (ints .u32 x)) (hs' : Sl w a' n' cap' (ints .u32 y)) (hx : Ws x) (hy : Ws y)
    (hn : n ≤ 1099511627776) (hn' : n' ≤ 1099511627776) :
    Calls Tryz.prog 103 #[.slice a n cap, .slice a' n' cap'] w (RetSl w (ints .u32 (dig B32 (val B32 x * val B32 y)))) := by
 go_enter Tryz.func103, Tryz.ntmps103
 go_wp2_with fail
 refine (r01_half_any a n cap x _ hs hx hn).mono ?_
 rintro e w1 ⟨a1, n1, cap1, rfl, hs1, he1⟩
 go_wp2_with fail
 refine (r01_half_any a' n' cap' y _ (hs'.ext he1) hy hn').mono ?_
 rintro e w2 ⟨a2, n2, cap2, rfl, hs2, he2⟩
 have hn1 := half_len hs hx hs1
 have hn2 := half_len hs' hy hs2
 have hs1' := hs1.ext he2
 have he12 := he1.trans he2
 have hm1 := hs1.2.2.1
 have hm2 := hs2.2.2.1
 unfold maxLen at hm1 hm2
 have hl1 := hs1'.int_len
 have hl2 := hs2.int_len
 clear hs1 he1 he2
 generalize hX : dig B16 (val B32 x) = X at *
 generalize hY : dig B16 (val B32 y) = Y at *
 have hXH : Hs X := hX ▸ Hs.dig _
 have hYH : Hs Y := hY ▸ Hs.dig _
 have HX := hidP hX; have HY := hidP hY; clear hX hY
 go_wp2_with (at_make; refine wpList_make (W := w2) (n := n1 + n2 + 1) T_u64 rfl _ _ rfl rfl rfl (Ext.refl _) (by omega) (by omega) rfl ?_; intro w3 hown he3 hsz)
 have hNb : n1 + n2 + 1 ≤ 4398046511105 := by omega
 obtain ⟨N, hN⟩ : ∃ N : Nat, n1 + n2 + 1 = N := ⟨_, rfl⟩
 rw [hN] at hown hNb
 rw [hN]
 have HN := hidP hN
 clear hN
 have hg := Row.base hown
 generalize hG : w2.heap.size = g at *
 have HG := hidP hG
 clear hG
 rw [replicate_ints] at hown
 go_loopw [8] (fun i wr => ∃ (k : Nat) (D : List Nat), k ≤ n1 ∧ i = .int .i64 k ∧ wr.ownsRow g 143 1 (.slice (some ⟨g, 0, none⟩) N N) N (ints .u64 D) ∧ Ext w2 wr ∧ Hs D ∧ val B16 D = val B16 (X.take k) * val B16 Y) (fun i _ => n1 - (intOf i).toNat)
 case atStart => exact ⟨0, _, by omega, rfl, hown, he3, by (intro d hd; simp at hd; rw [hd.2]; decide), by simp [val_replicate, val]⟩
 obtain ⟨i, D, hi, rfl, hown, he, hD, hv⟩ := hrel
 have HV := hidP hv; clear hv
 have hsy := hs2.ext he
 by_cases h0 : i < n1
 · obtain ⟨b, off, rfl, hc⟩ := (hs1'.ext he).at_int (by omega)
   have hck := hc i (by omega)
   have hxi := hXH.at i (by omega)
   clear hc
   have hXi : X.getD i 0 = X[i] := by rw [List.getD_eq_getElem?_getD]; simp [show i < X.length by omega]
   have HXI := hidP hXi; clear hXi
   have HZ : Hid (D.getD (i + n2) 0 = 0) := hidP (by
    refine getD_zero_of_lt (by decide) hD (m := i + n2) ?_ _ (Nat.le_refl _)
    rw [HV.out, Nat.pow_add]
    have h1 := val_lt (B := B16) (by decide) (X.take i) (fun d hd => hXH d (List.mem_of_mem_take hd))
    have h2 := val_lt (B := B16) (by decide) Y hYH
    rw [List.length_take, Nat.min_eq_left (by omega)] at h1
    rw [hl2] at h2
    exact Nat.mul_lt_mul'' h1 h2)
   obtain ⟨wo, rfl⟩ : ∃ wo : World, wo = wr := ⟨_, rfl⟩
   go_wp2
   go_loopw [9, 10] (fun c kv wr => ∃ (k cc : Nat) (E : List Nat), k ≤ n2 ∧ kv = .int .i64 k ∧ c = .int .u64 cc ∧ cc ≤ 65535 ∧ wr.ownsRow g 143 1 (.slice (some ⟨g, 0, none⟩) N N) N (ints .u64 E) ∧ Ext w2 wr ∧ Hs E ∧ E.getD (i + n2) 0 = 0 ∧ val B16 E + B16 ^ (i + k) * cc = val B16 (X.take i) * val B16 Y + B16 ^ i * (X[i] * val B16 (Y.take k))) (fun _ kv _ => n2 - (intOf kv).toNat)
   case atStart => exact ⟨0, 0, D, by omega, rfl, rfl, by omega, hown, he, hD, HZ.out, by simp [val, HV.out]⟩
   clear hown he hck hsy
   obtain ⟨k, cc, E, hk, rfl, rfl, hcc, hown, he, hE, hz, hv⟩ := hrel
   have HV := hidP hv; clear hv
   have HZ := hidP hz; clear hz
   have hEl := Row.len hown
   by_cases h1 : k < n2
   · obtain ⟨b', off', rfl, hc'⟩ := (hs2.ext he).at_int (by omega)
     have hck' := hc' k (by omega)
     have hyk := hYH.at k (by omega)
     clear hc'
     obtain ⟨b1, off1, e1, hc1⟩ := (hs1'.ext he).at_int (by omega)
     have hck := hc1 i (by omega)
     cases e1
     clear hc1
     have hik : i + k < E.length := by have := HN.out; omega
     have hikN : i + k < N := by omega
     have hcE := Row.cell hown (i + k) hik
     have hfr := Row.free hown (i + k)
     have hEk := hE.at (i + k) hik
     have hst := fun v => Row.store hown (i + k) v
     have HS := fun v => val_set B16 E (i + k) v hik
     have HYK : Hid (Y.getD k 0 = Y[k]) := hidP (by rw [List.getD_eq_getElem?_getD]; simp [show k < Y.length by omega])
     obtain ⟨m, hm⟩ : ∃ m : Nat, (X[i] : Int) * (Y[k] : Int) = (m : Int) ∧ m = X[i] * Y[k] := ⟨X[i] * Y[k], by rw [Int.natCast_mul], rfl⟩
     have hm1 := hm.1
     have HM := hidP hm.2
     have hmb : m ≤ 4294836225 := by rw [hm.2]; exact Nat.mul_le_mul (by omega : X[i] ≤ 65535) (by omega : Y[k] ≤ 65535)
     clear hm
     generalize E[i + k] = ee at *
     have HST := hidP hst; have HSE := hidP HS; clear hst HS
     go_wp2
     go_quiet (fail)
     go_wp2
     go_roundw
     case rel =>
      refine ⟨k + 1, (ee + m + cc) / 65536, E.set (i + k) ((ee + m + cc) % 65536), by omega, by go_num, rfl, by omega, HST.out ((ee + m + cc) % 65536), (he.drewN _).store (by rw [HG.out]; exact Nat.le_refl _) _, set_lt hE _ _ (Nat.mod_lt _ (by decide)), ?_, ?_⟩
      · rw [getD_set _ _ _ _ (by omega)]; exact HZ.out
      have := mul_step (B := B16) (P := B16 ^ (i + k)) (v := ee + m + cc) (x := X[i]) (y := Y[k]) (by rw [HM.out]) (HSE.out ((ee + m + cc) % B16)) HV.out
      have e : B16 ^ i * (X[i] * (val B16 (Y.take k) + B16 ^ k * Y[k])) = B16 ^ i * (X[i] * val B16 (Y.take k)) + B16 ^ (i + k) * (X[i] * Y[k]) := by
       rw [Nat.pow_add, Nat.mul_add, Nat.mul_add]
       have : X[i] * (B16 ^ k * Y[k]) = B16 ^ k * (X[i] * Y[k]) := by rw [← Nat.mul_assoc, ← Nat.mul_assoc, Nat.mul_comm X[i]]
       rw [this, Nat.mul_assoc]
      rw [val_take_snoc, HYK.out, e, show i + (k + 1) = (i + k) + 1 by omega, Nat.pow_succ]
      have e2 : val B16 (E.set (i + k) ((ee + m + cc) % 65536)) + B16 ^ (i + k) * B16 * ((ee + m + cc) / 65536) = _ := this
      omega
     case measure => simp only [intOf]; omega
   obtain rfl : k = n2 := by omega
   have hik : i + k < E.length := by have := HN.out; omega
   have hikN : i + k < N := by omega
   have hcE := Row.cell hown (i + k) hik
   have hfr := Row.free hown (i + k)
   have hst := fun v => Row.store hown (i + k) v
   have HS := fun v => val_set B16 E (i + k) v hik
   have hE0 : E[i + k] = 0 := by have := HZ.out; rw [List.getD_eq_getElem?_getD] at this; simpa [hik] using this
   rw [hE0] at hcE HS
   have HST := hidP hst; have HSE := hidP HS; clear hst HS hE0
   go_wp2
   go_roundw
   case rel =>
    refine ⟨i + 1, E.set (i + k) cc, by omega, by go_num, ?_, he.store (by rw [HG.out]; exact Nat.le_refl _) _, set_lt hE _ _ (by unfold B16; omega), ?_⟩
    · have := HST.out cc; simpa using this
    have h1 := HSE.out cc
    have h2 := HV.out
    rw [List.take_of_length_le (by omega : Y.length ≤ k)] at h2
    rw [val_take_snoc, HXI.out, Nat.add_mul, Nat.mul_assoc]
    omega
   case measure => simp only [intOf]; omega
 obtain rfl : i = n1 := by omega
 have hv := HV.out
 rw [List.take_of_length_le (by omega), ← HX.out, ← HY.out, val_dig B16_two, val_dig B16_two] at hv
 have HV2 := hidP hv
 clear hv
 have hsl := Sl.of_owns' hown
 go_wp2_with fail
 refine (r01_words_any _ _ _ _ _ hsl hD (by omega)).mono ?_
 rw [HV2.out]
 rintro e w' ⟨a5, n5, cap5, rfl, hs5, he5⟩
 go_wp2
 go_ret
 exact ⟨_, _, _, rfl, hs5, he12.trans (he.trans he5)⟩
end Go.Proofs.YtgjjalnmigdjgaaGreat
namespace Go.Proofs.YtgjjalnmigdjgaaGreat
set_option linter.unusedVariables false
open Go Go.RowKit
theorem Row.other {w : World} {B e n : Nat} {g cap : Nat} {xs : List Value} (h : w.ownsRow B e 1 (.slice (some ⟨g, 0, none⟩) n cap) n xs) {p : Addr} (hp : p.block ≠ g) (u : Value) :
    (w.setCell p u).ownsRow B e 1 (.slice (some ⟨g, 0, none⟩) n cap) n xs :=
  World.ownsRow.kept h ⟨rfl, rfl, rfl, by simp, fun k _ hk => heap_setCell_other w p k u (fun e => hk (by rw [e]))⟩ (.inr (by simp [Value.ownBlock]; omega))
theorem Row.ext {w u : World} {B e n : Nat} {v : Value} {xs : List Value} (h : w.ownsRow B e 1 v n xs) (he : Ext w u) : u.ownsRow B e 1 v n xs :=
  World.ownsRow.kept (row := none) h ⟨he.os, he.tape, he.output, he.size, fun k hk _ => he.block k hk⟩ (by cases v.ownBlock <;> simp)
theorem div_half (V i : Nat) : V / 2 ^ i = 2 * (V / 2 ^ (i + 1)) + V / 2 ^ i % 2 := by
  rw [Nat.pow_succ, ← Nat.div_div_eq_div_mul]; omega
theorem digit_room {V q j t : Nat} (ht : t < 16) (h : V = 2 ^ (16 * j + t + 1) * q) : V / B16 ^ j % B16 + 2 ^ t < B16 := by
  have e1 : (2 : Nat) ^ (16 * j + t + 1) = B16 ^ j * 2 ^ (t + 1) := by
    rw [Nat.add_assoc, Nat.pow_add, Nat.pow_mul]; rfl
  have e2 : V / B16 ^ j = 2 ^ (t + 1) * q := by
    rw [h, e1, Nat.mul_assoc, Nat.mul_div_cancel_left _ (Nat.pow_pos (by decide))]
  have e3 : B16 = 2 ^ (t + 1) * 2 ^ (15 - t) := by rw [← Nat.pow_add, show t + 1 + (15 - t) = 16 by omega]; rfl
  rw [e2]
  have e4 : (2 ^ (t + 1) * q) % B16 = 2 ^ (t + 1) * (q % 2 ^ (15 - t)) := by
    rw [e3, Nat.mul_mod_mul_left]
  rw [e4]
  have h1 : q % 2 ^ (15 - t) + 1 ≤ 2 ^ (15 - t) := Nat.mod_lt _ (Nat.two_pow_pos _)
  have h2 : 2 ^ (t + 1) * (q % 2 ^ (15 - t) + 1) ≤ B16 := by rw [e3]; exact Nat.mul_le_mul_left _ h1
  have h3 : (2 : Nat) ^ t < 2 ^ (t + 1) := Nat.pow_lt_pow_right (by decide) (by omega)
  rw [Nat.mul_add] at h2
  omega
theorem mul2_lt {q VY r : Nat} : 2 * (q * VY + r) = (2 * q) * VY + 2 * r := by rw [Nat.mul_add, Nat.mul_assoc]
/-- The quotient's and the rest's words. -/
def RetDiv (w : World) (x y : Nat) (e : Ending) (w' : World) : Prop :=
  ∃ a n cap a' n' cap', e = .returned (.tuple #[.slice a n cap, .slice a' n' cap', .bool (decide (y ≠ 0))]) ∧ Sl w' a n cap (ints .u32 (if y = 0 then [] else dig B32 (x / y))) ∧ Sl w' a' n' cap' (ints .u32 (if y = 0 then [] else dig B32 (x % y))) ∧ Ext w w'
set_option maxRecDepth 100000 in
set_option maxHeartbeats 2000000 in
theorem r01_Div_any (a a' : Option Addr) (n cap n' cap' : Nat) (x y : List Nat) (w : World) (hs : Sl w a n cap (ints .u32 x)) (hs' : Sl w a' n' cap' (ints .u32 y)) (hx : Ws x) (hy : Ws y)
    (hn : n ≤ 1099511627776) (hn' : n' ≤ 1099511627776) :
    Calls Tryz.prog 177 #[.slice a n cap, .slice a' n' cap'] w (RetDiv w (val B32 x) (val B32 y)) := by
 go_enter Tryz.func177, Tryz.ntmps177
 go_wp2_with fail
 refine (r01_half_any a n cap x _ hs hx hn).mono ?_
 rintro e w1 ⟨a1, n1, cap1, rfl, hs1, he1⟩
 go_wp2_with fail
 refine (r01_half_any a' n' cap' y _ (hs'.ext he1) hy hn').mono ?_
 rintro e w2 ⟨a2, n2, cap2, rfl, hs2, he2⟩
 have hn1 := half_len hs hx hs1
 have hn2 := half_len hs' hy hs2
 have hs1' := hs1.ext he2
 have he12 := he1.trans he2
 have hm1 := hs1.2.2.1
 have hm2 := hs2.2.2.1
 unfold maxLen at hm1 hm2
 have hl1 := hs1'.int_len
 have hl2 := hs2.int_len
 clear hs1 he1 he2
 have HVX : Hid (val B16 (dig B16 (val B32 x)) = val B32 x) := hidP (val_dig B16_two _)
 have HVY : Hid (val B16 (dig B16 (val B32 y)) = val B32 y) := hidP (val_dig B16_two _)
 have hCY := canon_dig B16_two (val B32 y)
 have hXH : Hs (dig B16 (val B32 x)) := Hs.dig _
 generalize dig B16 (val B32 x) = X at *
 generalize dig B16 (val B32 y) = Y at *
 have hYH : Hs Y := hCY.1
 by_cases hn0 : n2 = 0
 · have HY0 : Hid (val B32 y = 0) := hidP (by
    rw [← HVY.out]
    have : Y = [] := by cases Y with | nil => rfl | cons a b => simp at hl2; omega
    rw [this]; rfl)
   have hb : ((n2 : Int) == 0) = true := by simp [hn0]
   go_wp2
   go_ret3
   exact ⟨none, 0, 0, none, 0, 0, by rw [HY0.out]; rfl, by rw [if_pos HY0.out]; exact Sl.nil _, by rw [if_pos HY0.out]; exact Sl.nil _, he12⟩
 have HY0 : Hid (val B32 y ≠ 0) := hidP (by
  rw [← HVY.out]
  exact val_pos B16_two Y hCY.2 (by intro h; rw [h] at hl2; simp at hl2; omega))
 have hb : ((n2 : Int) == 0) = false := by simp [hn0]
 by_cases h4 : n1 ≤ 4 ∧ n2 ≤ 4
 · obtain ⟨h41, h42⟩ := h4
   go_wp2_with fail
   refine (r01_small_any a1 n1 cap1 X _ hs1' hXH h41).mono ?_
   rw [HVX.out]; rintro e w' ⟨rfl, rfl⟩
   go_wp2_with fail
   refine (r01_small_any a2 n2 cap2 Y _ hs2 hYH h42).mono ?_
   rw [HVY.out]; rintro e w' ⟨rfl, rfl⟩
   go_wp2_with fail
   have hbX : val B32 x ≤ 18446744073709551615 := by
    rw [← HVX.out]
    have h1 := val_lt (B := B16) (by decide) X hXH
    have h2 : B16 ^ X.length ≤ B16 ^ 4 := Nat.pow_le_pow_right (by decide) (by omega)
    have h3 : B16 ^ 4 = 18446744073709551616 := by decide
    omega
   have hbY : val B32 y ≤ 18446744073709551615 := by
    rw [← HVY.out]
    have h1 := val_lt (B := B16) (by decide) Y hYH
    have h2 : B16 ^ Y.length ≤ B16 ^ 4 := Nat.pow_le_pow_right (by decide) (by omega)
    have h3 : B16 ^ 4 = 18446744073709551616 := by decide
    omega
   have hyp := HY0.out
   generalize val B32 x = VX at *
   generalize val B32 y = VY at *
   have hyp1 : 1 ≤ VY := by omega
   have hyz : ((VY : Int) == 0) = false := by simp; omega
   have hQb : VX / VY ≤ 18446744073709551615 := Nat.le_trans (Nat.div_le_self _ _) hbX
   have hRb : VX % VY ≤ 18446744073709551615 := Nat.le_trans (Nat.mod_le _ _) hbX
   have hw1 : IntKind.u64.wrap ((VX : Int) / (VY : Int)) = ((VX / VY : Nat) : Int) := by
    rw [← Int.natCast_ediv]
    generalize VX / VY = q at *
    exact IntWalk.u64_in _ (by omega)
   have hw2 : (VX : Int).tmod (VY : Int) = ((VX % VY : Nat) : Int) := by rw [IntWalk.rem_in _ _ (by omega)]; rfl
   have HFIN : Hid (∀ w4 a5 n5 cap5 a6 n6 cap6, Sl w4 a5 n5 cap5 (ints .u32 (dig B32 (VX / VY))) → Sl w4 a6 n6 cap6 (ints .u32 (dig B32 (VX % VY))) → Ext w w4 → RetDiv w VX VY (.returned (.tuple #[.slice a5 n5 cap5, .slice a6 n6 cap6, .bool true])) w4) := hidP (by
    intro w4 a5 n5 cap5 a6 n6 cap6 h1 h2 h3
    exact ⟨a5, n5, cap5, a6, n6, cap6, by simp [hyp], by rw [if_neg hyp]; exact h1, by rw [if_neg hyp]; exact h2, h3⟩)
   refine wp_region_plan (R := Ext) (.q 0 (.q 1 (.q 2 (.q 4 (.q 5 (.q 6 (.l 3 (.l 7 (.q 8 (.q 9 (.q 10 .done))))))))))) (by kernel_rfl) (by kernel_rfl) (by kernel_rfl) (by kernel_rfl) Ext.refl (fun _ _ _ => Ext.trans) ?_
   have he12' := he12.drew
   generalize w2.drew = w3 at *
   repeat (refine wpE_q (v := ?_) rfl rfl (fun u hu => ?_) ?_; rotate_left 1; (focus (go_simp; (try go_bits); (try rfl))); simp only [PU])
   refine wpE_l rfl rfl (fun K hK => ?_)
   go_simp
   refine (r01_Of_any (VX / VY) hQb _).mono ?_
   rintro e w4 ⟨a5, n5, cap5, rfl, hs5, he5⟩
   refine hK.out _ _ he5 ?_
   clear hK K
   try simp only [PU]
   refine wpE_l rfl rfl (fun K hK => ?_)
   go_simp
   refine (r01_Of_any (VX % VY) hRb _).mono ?_
   rintro e w5 ⟨a6, n6, cap6, rfl, hs6, he6⟩
   refine hK.out _ _ he6 ?_
   clear hK K
   try simp only [PU]
   repeat (refine wpE_q (v := ?_) rfl rfl (fun u hu => ?_) ?_; rotate_left 1; (focus (go_simp; (try go_bits); (try rfl))); simp only [PU])
   refine wpE_done ?_
   go_wp2
   go_ret3
   exact HFIN.out _ _ _ _ _ _ _ (hs5.ext he6) hs6 (he12'.trans (he5.trans he6))
 have hyp := HY0.out
 have HFIN : Hid (∀ w4 a5 n5 cap5 a6 n6 cap6, Sl w4 a5 n5 cap5 (ints .u32 (dig B32 (val B32 x / val B32 y))) → Sl w4 a6 n6 cap6 (ints .u32 (dig B32 (val B32 x % val B32 y))) → Ext w w4 → RetDiv w (val B32 x) (val B32 y) (.returned (.tuple #[.slice a5 n5 cap5, .slice a6 n6 cap6, .bool true])) w4) := hidP (by
  intro w4 a5 n5 cap5 a6 n6 cap6 h1 h2 h3
  exact ⟨a5, n5, cap5, a6, n6, cap6, by simp [hyp], by rw [if_neg hyp]; exact h1, by rw [if_neg hyp]; exact h2, h3⟩)
 clear hyp
 generalize val B32 x = VX at *
 generalize val B32 y = VY at *
 have h5 : ¬ n1 ≤ 4 ∨ (n1 ≤ 4 ∧ ¬ n2 ≤ 4) := by omega
 clear h4
 rcases h5 with h5 | ⟨h5, h5'⟩
 all_goals
  go_upto_region 7 with fail
  go_cut [11, 12] (fun vq vr wx => ∃ gq gr : Nat, vq = .slice (some ⟨gq, 0, none⟩) n1 n1 ∧ vr = .slice (some ⟨gr, 0, none⟩) (n2 + 1) (n2 + 1) ∧ gq ≠ gr ∧ w2.heap.size ≤ gq ∧ w2.heap.size ≤ gr ∧ Ext w2 wx ∧
   wx.ownsRow w2.heap.size 143 1 (.slice (some ⟨gq, 0, none⟩) n1 n1) n1 (ints .u64 (List.replicate n1 0)) ∧ wx.ownsRow w2.heap.size 143 1 (.slice (some ⟨gr, 0, none⟩) (n2 + 1) (n2 + 1)) (n2 + 1) (ints .u64 (List.replicate (n2 + 1) 0)))
  case first =>
   refine wp_region_plan (R := Ext) (.q 0 (.q 1 (.q 3 (.q 4 (.q 5 (.br 2 (.q 7 (.l 6 (.q 8 .done))) (.l 6 (.l 2 (.q 7 (.q 8 .done)))))))))) (by kernel_rfl) (by kernel_rfl) (by kernel_rfl) (by kernel_rfl) Ext.refl (fun _ _ _ => Ext.trans) ?_
   have hed : Ext w2 w2.drew := (Ext.refl _).drew
   generalize w2.drew = w3 at *
   repeat (refine wpE_q (v := ?_) rfl rfl (fun u hu => ?_) ?_; rotate_left 1; (focus (go_simp; (try go_bits); (try rfl))); simp only [PU])
   refine wpE_br rfl rfl (fun K hK => ?_) ?_
   · refine wp_make (W := w2) (n := n1) T_u64 _ _ rfl rfl rfl hed (by omega) (by omega) rfl ?_
     intro w4 hq he4 hz4
     refine hK.out _ _ he4 ?_
     clear hK K
     try simp only [PU]
     repeat (refine wpE_q (v := ?_) rfl rfl (fun u hu => ?_) ?_; rotate_left 1; (focus (go_simp; (try go_bits); (try rfl))); simp only [PU])
     refine wpE_l rfl rfl (fun K hK => ?_)
     refine wp_make (W := w2) (n := n2 + 1) T_u64 _ _ rfl rfl rfl (hed.trans he4) (by omega) (by omega) rfl ?_
     intro w5 hr he5 hz5
     refine hK.out _ _ he5 ?_
     clear hK K
     try simp only [PU]
     repeat (refine wpE_q (v := ?_) rfl rfl (fun u hu => ?_) ?_; rotate_left 1; (focus (go_simp; (try go_bits); (try rfl))); simp only [PU])
     refine wpE_done ?_
     go_wp2_with fail
     go_meet
     rw [hz4] at hr
     exact ⟨w3.heap.size, w3.heap.size + 1, rfl, rfl, by omega, hed.size, by have := hed.size; omega, hed.trans (he4.trans he5), by rw [← replicate_ints]; exact Row.ext hq he5, by rw [← replicate_ints]; exact hr⟩
   refine wpE_l rfl rfl (fun K hK => ?_)
   refine wp_make (W := w2) (n := n2 + 1) T_u64 _ _ rfl rfl rfl hed (by omega) (by omega) rfl ?_
   intro w4 hr he4 hz4
   refine hK.out _ _ he4 ?_
   clear hK K
   try simp only [PU]
   repeat (refine wpE_q (v := ?_) rfl rfl (fun u hu => ?_) ?_; rotate_left 1; (focus (go_simp; (try go_bits); (try rfl))); simp only [PU])
   refine wpE_l rfl rfl (fun K hK => ?_)
   refine wp_make (W := w2) (n := n1) T_u64 _ _ rfl rfl rfl (hed.trans he4) (by omega) (by omega) rfl ?_
   intro w5 hq he5 hz5
   refine hK.out _ _ he5 ?_
   clear hK K
   try simp only [PU]
   repeat (refine wpE_q (v := ?_) rfl rfl (fun u hu => ?_) ?_; rotate_left 1; (focus (go_simp; (try go_bits); (try rfl))); simp only [PU])
   refine wpE_done ?_
   go_wp2_with fail
   go_meet
   rw [hz4] at hq
   exact ⟨w3.heap.size + 1, w3.heap.size, rfl, rfl, by omega, by have := hed.size; omega, hed.size, hed.trans (he4.trans he5), by rw [← replicate_ints]; exact hq, by rw [← replicate_ints]; exact Row.ext hr he5⟩
  obtain ⟨gq, gr, rfl, rfl, hne, hgq, hgr, he3, hq, hr⟩ := hcut
  have hbY : Hid (VY < B16 ^ n2) := hidP (by rw [← HVY.out, ← hl2]; exact val_lt (by decide) Y hYH)
  generalize hL : n2 + 1 = L at *
  have HL := hidP hL; clear hL
  have hLb : L ≤ 4398046511105 := by have := HL.out; omega
  go_wp2_with fail
  go_loopw [13] (fun iv wr => ∃ (k q : Nat) (D E : List Nat), k ≤ 16 * n1 ∧ iv = .int .i64 ((k : Int) - 1) ∧ Ext w2 wr ∧
   wr.ownsRow w2.heap.size 143 1 (.slice (some ⟨gq, 0, none⟩) n1 n1) n1 (ints .u64 D) ∧ wr.ownsRow w2.heap.size 143 1 (.slice (some ⟨gr, 0, none⟩) L L) L (ints .u64 E) ∧ Hs D ∧ Hs E ∧
   val B16 E < VY ∧ val B16 D = 2 ^ k * q ∧ VX / 2 ^ k = q * VY + val B16 E) (fun iv _ => (intOf iv + 1).toNat)
  case atStart =>
   refine ⟨16 * n1, 0, _, _, by omega, by go_num, he3, hq, hr, (by intro d hd; simp at hd; rw [hd.2]; decide), (by intro d hd; simp at hd; rw [hd.2]; decide), ?_, by simp [val_replicate], ?_⟩
   · rw [val_replicate]; have := HY0.out; omega
   have h1 := val_lt (B := B16) (by decide) X hXH
   rw [HVX.out, hl1] at h1
   have e : (2 : Nat) ^ (16 * n1) = B16 ^ n1 := by rw [Nat.pow_mul]; rfl
   rw [e, Nat.div_eq_of_lt h1, val_replicate]; simp
  clear hq hr he3
  obtain ⟨k, q, D, E, hk, rfl, he, hq, hr, hD, hE, hlt, hvd, hvx⟩ := hrel
  have HLT := hidP hlt; have HVD := hidP hvd; have HVR := hidP hvx; clear hlt hvd hvx
  have hsx := hs1'.ext he
  have hsy := hs2.ext he
  by_cases h0 : 0 < k
  · obtain ⟨i, rfl⟩ : ∃ i, k = i + 1 := ⟨k - 1, by omega⟩
    have e1 : ((i + 1 : Nat) : Int) - 1 = (i : Int) := by omega
    rw [e1]
    clear e1
    have HH : Hid (VX / 2 ^ i = 2 * (VX / 2 ^ (i + 1)) + VX / 2 ^ i % 2) := hidP (div_half VX i)
    have hbt : VX / 2 ^ i % 2 ≤ 1 := by have : VX / 2 ^ i % 2 < 2 := Nat.mod_lt _ (by decide); exact Nat.le_of_lt_succ this
    go_wp2_with fail
    refine (r01_bit_any a1 n1 cap1 X i _ hsx hXH (by omega) (by omega)).mono ?_
    rw [HVX.out]
    generalize VX / 2 ^ i % 2 = bt at *
    rintro e w' ⟨rfl, rfl⟩
    obtain ⟨wo, rfl⟩ : ∃ wo : World, wo = wr := ⟨_, rfl⟩
    go_wp2_with fail
    have hEl := Row.len hr
    go_loopw [14, 15] (fun c kv wr => ∃ (kk cc : Nat) (F : List Nat), kk ≤ L ∧ kv = .int .i64 kk ∧ c = .int .u64 cc ∧ cc ≤ 1 ∧ Ext w2 wr ∧
     wr.ownsRow w2.heap.size 143 1 (.slice (some ⟨gq, 0, none⟩) n1 n1) n1 (ints .u64 D) ∧ wr.ownsRow w2.heap.size 143 1 (.slice (some ⟨gr, 0, none⟩) L L) L (ints .u64 F) ∧ Hs F ∧
     (∀ j, kk ≤ j → F.getD j 0 = E.getD j 0) ∧ val B16 F + B16 ^ kk * cc = val B16 E + val B16 (E.take kk) + bt) (fun _ kv _ => L - (intOf kv).toNat)
    case atStart => exact ⟨0, bt, E, by omega, rfl, rfl, hbt, he, hq, hr, hE, fun _ _ => rfl, by simp [val]⟩
    clear hq hr he hsx hsy
    obtain ⟨kk, cc, F, hkk, rfl, rfl, hcc, he, hq, hr, hF, hsame, hv⟩ := hrel
    have HV := hidP hv; have HSA := hidP hsame; clear hv hsame
    have hFl := Row.len hr
    by_cases h1 : kk < L
    · have hik : kk < F.length := by omega
      have hcF := Row.cell hr kk hik
      have hfr := Row.free hr kk
      have hFk := hF.at kk hik
      have hst := fun v => Row.store hr kk v
      have hoq := fun v => Row.other hq (p := ⟨gr, kk, none⟩) (by simpa using Ne.symm hne) v
      have HS := fun v => val_set B16 F kk v hik
      have HEK : Hid (E.getD kk 0 = F[kk]) := hidP (by rw [← HSA.out kk (Nat.le_refl _), List.getD_eq_getElem?_getD]; simp [hik])
      generalize F[kk] = ee at *
      have HST := hidP hst; have HSE := hidP HS; have HOQ := hidP hoq; clear hst HS hoq
      go_wp2
      go_roundw
      case rel =>
       refine ⟨kk + 1, (2 * ee + cc) / 65536, F.set kk ((2 * ee + cc) % 65536), by omega, by go_num, rfl, by omega, he.store (by exact hgr) _, HOQ.out _, HST.out ((2 * ee + cc) % 65536), set_lt hF _ _ (Nat.mod_lt _ (by decide)), ?_, ?_⟩
       · intro j hj
         rw [getD_set _ _ _ _ (by omega)]; exact HSA.out j (by omega)
       have h6 := HSE.out ((2 * ee + cc) % 65536)
       have h7 := HV.out
       have h8 := Nat.div_add_mod (2 * ee + cc) 65536
       have e : B16 ^ kk * ((2 * ee + cc) % 65536) + B16 ^ kk * B16 * ((2 * ee + cc) / 65536) = B16 ^ kk * (2 * ee + cc) := by
        rw [Nat.mul_assoc, ← Nat.mul_add, Nat.add_comm]; congr 1
       have e2 : B16 ^ kk * (2 * ee + cc) = B16 ^ kk * ee + B16 ^ kk * ee + B16 ^ kk * cc := by rw [Nat.mul_add, Nat.two_mul, Nat.mul_add]
       rw [val_take_snoc, HEK.out, Nat.pow_succ]
       omega
      case measure => simp only [intOf]; omega
    obtain rfl : kk = L := by omega
    have HR : Hid (val B16 F = 2 * val B16 E + bt) := hidP (by
     have hv := HV.out
     rw [List.take_of_length_le (by omega)] at hv
     have h6 := HLT.out
     have h7 := hbY.out
     have h8 : 2 * B16 ^ n2 ≤ B16 ^ kk := by rw [← HL.out, Nat.pow_succ, Nat.mul_comm]; exact Nat.mul_le_mul_left _ (by decide)
     match cc, hcc with
     | 0, _ => simp only [Nat.mul_zero, Nat.add_zero] at hv; omega
     | 1, _ => simp only [Nat.mul_one] at hv; omega)
    have hslF := Sl.of_owns' hr
    have hsy := hs2.ext he
    clear HV HSA
    by_cases hlt2 : val B16 F < VY
    · have HC : Hid (cmpI (val B16 F) VY = -1) := hidP (cmpI_lt hlt2)
      have HLT2 := hidP hlt2
      clear hlt2
      go_wp2_with fail
      refine (r01_cmp_any _ _ _ _ _ _ F Y _ hslF hsy hF hYH (by omega) (by omega)).mono ?_
      rw [HVY.out, HC.out]
      rintro e w' ⟨rfl, rfl⟩
      go_wp2
      go_roundw
      case rel =>
       refine ⟨i, 2 * q, D, F, by omega, rfl, he, hq, hr, hD, hF, HLT2.out, by rw [HVD.out, Nat.pow_succ, Nat.mul_assoc], ?_⟩
       rw [HH.out, HVR.out, HR.out, mul2_lt]; omega
      case measure => simp [intOf]
    have hge2 : VY ≤ val B16 F := by omega
    have hc0 := cmpI_ge hge2
    have HGE := hidP hge2
    clear hlt2 hge2
    go_wp2_with fail
    refine (r01_cmp_any _ _ _ _ _ _ F Y _ hslF hsy hF hYH (by omega) (by omega)).mono ?_
    rw [HVY.out]
    generalize cmpI (val B16 F) VY = c0 at *
    rintro e w' ⟨rfl, rfl⟩
    obtain ⟨wp, rfl⟩ : ∃ wp : World, wp = wr := ⟨_, rfl⟩
    go_wp2_with fail
    go_loopw [14, 17] (fun c kv wr => ∃ (k2 cc : Nat) (G : List Nat), k2 ≤ kk ∧ kv = .int .i64 k2 ∧ c = .int .u64 cc ∧ cc ≤ 1 ∧ Ext w2 wr ∧
     wr.ownsRow w2.heap.size 143 1 (.slice (some ⟨gq, 0, none⟩) n1 n1) n1 (ints .u64 D) ∧ wr.ownsRow w2.heap.size 143 1 (.slice (some ⟨gr, 0, none⟩) kk kk) kk (ints .u64 G) ∧ Hs G ∧
     (∀ j, k2 ≤ j → G.getD j 0 = F.getD j 0) ∧ val B16 G + val B16 (Y.take k2) = val B16 F + B16 ^ k2 * cc) (fun _ kv _ => kk - (intOf kv).toNat)
    case atStart => exact ⟨0, 0, F, by omega, rfl, rfl, by omega, he, hq, hr, hF, fun _ _ => rfl, by simp [val]⟩
    clear hq hr he hsy hslF
    obtain ⟨k2, cc, G, hk2, rfl, rfl, hcc, he, hq, hr, hG, hsame, hv⟩ := hrel
    have HV := hidP hv; have HSA := hidP hsame; clear hv hsame
    have hGl := Row.len hr
    have hsy := hs2.ext he
    by_cases h2 : k2 < kk
    · have hik : k2 < G.length := by omega
      have hcG := Row.cell hr k2 hik
      have hfr := Row.free hr k2
      have hGk := hG.at k2 hik
      have hyi := getD_lt (by unfold B16; omega) hYH k2
      generalize hQ : Y.getD k2 0 = yq at *
      have HQ := hidP hQ; clear hQ
      have hyq : yq < 65536 := by unfold B16 at hyi; omega
      clear hyi
      have hst := fun v => Row.store hr k2 v
      have hoq := fun v => Row.other hq (p := ⟨gr, k2, none⟩) (by simpa using Ne.symm hne) v
      have HS := fun v => val_set B16 G k2 v hik
      generalize G[k2] = ee at *
      have HST := hidP hst; have HSE := hidP HS; have HOQ := hidP hoq; clear hst HS hoq
      have hge : (yq : Int) + (cc : Int) ≤ 65536 + (ee : Int) := by omega
      go_wp2_with fail
      refine wp_region_plan (R := Ext) (.q 0 (.q 1 (.q 2 (.q 3 (.q 4 (.q 5 (.q 6 (.q 9 (.l 7 (.q 8 (.q 10 (.q 11 .done)))))))))))) (by kernel_rfl) (by kernel_rfl) (by kernel_rfl) (by kernel_rfl) Ext.refl (fun _ _ _ => Ext.trans) ?_
      have hce : wr.drew.cell? ⟨gr, k2, none⟩ = some (.int .u64 (ee : Nat)) := by go_simp
      have hsyd := hsy.ext (Ext.refl wr).drew
      have hdr : Ext wr wr.drew := (Ext.refl wr).drew
      repeat (refine wpE_q (v := ?_) rfl rfl (fun u hu => ?_) ?_; rotate_left 1; (focus ((try have hcu := hu.cell' hce); go_simp; (try go_bits); (try rfl))); simp only [PU])
      refine wpE_l rfl rfl (fun K hK => ?_)
      go_simp
      refine (r01_at_any a2 n2 cap2 Y k2 _ hsyd (by omega)).mono ?_
      rw [HQ.out]; rintro e w' ⟨rfl, rfl⟩
      refine hK.out _ _ (Ext.refl _) ?_
      clear hK K
      try simp only [PU]
      repeat (refine wpE_q (v := ?_) rfl rfl (fun u hu => ?_) ?_; rotate_left 1; (focus ((try have hcu := hu.cell' hce); go_simp; (try go_bits); (try rfl))); simp only [PU])
      refine wpE_done ?_
      go_wp2
      go_roundw
      case rel =>
       have ez : (((65536 + ee - yq - cc) % 65536 : Nat) : Int) = (65536 + (ee : Int) - yq - cc) % 65536 := by omega
       have h5 := HST.out ((65536 + ee - yq - cc) % 65536)
       rw [ez] at h5
       refine ⟨k2 + 1, 1 - (65536 + ee - yq - cc) / 65536, G.set k2 ((65536 + ee - yq - cc) % 65536), by omega, by go_num, by refine congrArg _ ?_; omega, by omega, he.drew.store (by exact hgr) _, HOQ.out _, h5, set_lt hG _ _ (Nat.mod_lt _ (by decide)), ?_, ?_⟩
       · intro j hj
         rw [getD_set _ _ _ _ (by omega)]; exact HSA.out j (by omega)
       have h6 := HSE.out ((65536 + ee - yq - cc) % 65536)
       have h7 := HV.out
       have h8 := sub_step (B := B16) (P := B16 ^ k2) (d := val B16 G) (c := cc) (x := 0) (y := 0) (by decide) hcc (by decide) (by rw [h7])
       rw [val_take_snoc, HQ.out, Nat.pow_succ]
       clear h8
       obtain ⟨v, hv⟩ : ∃ v, v = 65536 + ee - yq - cc := ⟨_, rfl⟩
       rw [← hv] at h6 ⊢
       have hv' : v + yq + cc = 65536 + ee := by omega
       have e1 : B16 ^ k2 * v + B16 ^ k2 * yq + B16 ^ k2 * cc = B16 ^ k2 * 65536 + B16 ^ k2 * ee := by rw [← Nat.mul_add, ← Nat.mul_add, ← Nat.mul_add, hv']
       have hd := Nat.div_add_mod v 65536
       have hq1 : v / 65536 ≤ 1 := by omega
       have e3 : B16 ^ k2 * B16 = B16 ^ k2 * 65536 := rfl
       rw [e3]
       generalize v / 65536 = qq at *
       generalize v % 65536 = rr at *
       match qq, hq1 with
       | 0, _ =>
        simp only [Nat.mul_zero, Nat.zero_add] at hd
        subst hd
        simp only [Nat.sub_zero, Nat.mul_one]
        omega
       | 1, _ =>
        have e2 : B16 ^ k2 * v = B16 ^ k2 * 65536 + B16 ^ k2 * rr := by rw [← Nat.mul_add]; rw [Nat.mul_one] at hd; rw [hd]
        simp only [Nat.sub_self, Nat.mul_zero]
        omega
      case measure => simp only [intOf]; omega
    obtain rfl : k2 = kk := by omega
    have hYl : Y.length ≤ k2 := by have := HL.out; omega
    have HG2 : Hid (val B16 G + VY = val B16 F) := hidP (by
     have hv := HV.out
     rw [List.take_of_length_le hYl, HVY.out] at hv
     have h6 := HGE.out
     have h7 := val_lt (B := B16) (by decide) G hG
     rw [hGl] at h7
     match cc, hcc with
     | 0, _ => simp only [Nat.mul_zero, Nat.add_zero] at hv; exact hv
     | 1, _ => simp only [Nat.mul_one] at hv; omega)
    clear HV HSA
    have hDl := Row.len hq
    have hij : i / 16 < D.length := by omega
    have hcD := Row.cell hq (i / 16) hij
    have hfr := Row.free hq (i / 16)
    have HRM : Hid (D[i / 16] + 2 ^ (i % 16) < 65536) := hidP (by
     have h6 := digit_room (V := val B16 D) (q := q) (j := i / 16) (t := i % 16) (Nat.mod_lt _ (by decide)) (by rw [HVD.out]; congr 2; omega)
     rw [digit_at (by decide) (i / 16) D hD, List.getD_eq_getElem?_getD] at h6
     have h7 : D[i / 16] + 2 ^ (i % 16) < B16 := by simpa [hij] using h6
     exact h7)
    have hst := fun v => Row.store hq (i / 16) v
    have hor := fun v => Row.other hr (p := ⟨gq, i / 16, none⟩) (by simpa using hne) v
    have HS := fun v => val_set B16 D (i / 16) v hij
    generalize D[i / 16] = dd at *
    have HST := hidP hst; have HSE := hidP HS; have HOR := hidP hor; clear hst HS hor
    obtain ⟨pw, hpw⟩ : ∃ pw : Nat, pw = 2 ^ (i % 16) := ⟨_, rfl⟩
    have hpwb : dd + pw < 65536 := by rw [hpw]; exact HRM.out
    have hwr : IntKind.u64.wrap ((2 : Int) ^ (i % 16)) = (pw : Int) := by
     have : ((2 : Int) ^ (i % 16)) = (pw : Int) := by rw [hpw, Int.natCast_pow]; rfl
     rw [this]; exact IntWalk.u64_in _ (by omega)
    have HPW := hidP hpw; clear hpw
    go_wp2
    go_roundw
    case rel =>
     refine ⟨i, 2 * q + 1, D.set (i / 16) (dd + pw), G, by omega, rfl, he.store (by exact hgq) _, HST.out (dd + pw), HOR.out _, set_lt hD _ _ (by unfold B16; omega), hG, ?_, ?_, ?_⟩
     · have h6 := HG2.out; have h7 := HR.out; have h8 := HLT.out; omega
     · have h6 := HSE.out (dd + pw)
       have h7 := HVD.out
       have e : B16 ^ (i / 16) * pw = 2 ^ i := by
        rw [HPW.out]
        have e1 : (B16 : Nat) ^ (i / 16) = 2 ^ (16 * (i / 16)) := by rw [Nat.pow_mul]; rfl
        rw [e1, ← Nat.pow_add]; congr 1; omega
       rw [Nat.mul_add, e] at h6
       rw [Nat.pow_succ, Nat.mul_assoc] at h7
       rw [Nat.mul_add, Nat.mul_one]
       omega
     have h6 := HG2.out; have h7 := HR.out
     rw [HH.out, HVR.out, mul2_lt, Nat.add_mul, Nat.one_mul]; omega
    case measure => simp [intOf]
  obtain rfl : k = 0 := by omega
  have h6 := HVR.out
  have h7 := HLT.out
  have h8 := HVD.out
  simp only [Nat.pow_zero, Nat.div_one, Nat.one_mul] at h6 h8
  have HQV : Hid (VX / VY = val B16 D) := hidP (by
   rw [h6, h8, Nat.mul_comm, Nat.mul_add_div (by omega), Nat.div_eq_of_lt h7, Nat.add_zero])
  have HRV : Hid (VX % VY = val B16 E) := hidP (by
   rw [h6, Nat.mul_comm, Nat.mul_add_mod, Nat.mod_eq_of_lt h7])
  clear h6 h7 h8
  have hslD := Sl.of_owns' hq
  have hslE := Sl.of_owns' hr
  go_wp2_with fail
  refine (r01_words_any _ _ _ _ _ hslD hD (by omega)).mono ?_
  rw [← HQV.out]
  rintro e w5 ⟨a5, n5, cap5, rfl, hs5, he5⟩
  go_wp2_with fail
  refine (r01_words_any _ _ _ _ _ (hslE.ext he5) hE (by omega)).mono ?_
  rw [← HRV.out]
  rintro e w6 ⟨a6, n6, cap6, rfl, hs6, he6⟩
  go_wp2
  go_ret3
  exact HFIN.out _ _ _ _ _ _ _ (hs5.ext he6) hs6 (he12.trans (he.trans (he5.trans he6)))
end Go.Proofs.YtgjjalnmigdjgaaGreat
namespace Go.Proofs.YtgjjalnmigdjgaaGreat
set_option linter.unusedVariables false
open Go Go.RowKit
/-- A number times a power of 2; none beyond the bounds. -/
def shl32 (V : Nat) (k : Int) : List Nat := if k > 4096 ∨ k < -4096 then [] else if 0 ≤ k then dig B32 (V * 2 ^ k.toNat) else dig B32 (V / 2 ^ (-k).toNat)
end Go.Proofs.YtgjjalnmigdjgaaGreat
