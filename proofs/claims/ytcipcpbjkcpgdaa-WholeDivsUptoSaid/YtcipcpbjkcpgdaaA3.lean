/- The document's numbers (frisketref01): words, digits, how two numbers stand. -/
import Derived.Test.YtcipcpbjkcpgdaaA2
namespace Go.Proofs.Ytcipcpbjkcpgdaa
set_option linter.unusedVariables false
open Go Go.RowKit

set_option maxHeartbeats 1000000 in
theorem r01_words_any (a : Option Addr) (n cap : Nat) (l : List Nat) (w : World) (hs : Sl w a n cap (ints .u64 l)) (hl : Hs l) (hn : n ≤ 8796093022208) :
    Calls Try.prog 29 #[.slice a n cap] w (RetSl w (ints .u32 (dig B32 (val B16 l)))) := by
  have hlen := hs.int_len
  have hcap := hs.2.1
  have hm := hs.2.2.1
  unfold maxLen at hm
  have hd := take_dig_len B16_two l hl
  obtain ⟨V, hV⟩ : ∃ V, V = val B16 l := ⟨_, rfl⟩
  rw [← hV] at hd
  have hpl : (dig B32 V).length = ((dig B16 V).length + 1) / 2 := dig32_len V
  obtain ⟨m, hm16⟩ : ∃ m, m = (dig B16 V).length := ⟨_, rfl⟩
  rw [← hm16] at hpl hd
  have hmn : m ≤ n := by rw [hm16, hV, ← hlen]; exact dig_val_len B16_two l hl
  have HV := hidP hV; have HM := hidP hm16; have HD := hidP hd; have HL := hidP hpl; clear hV hm16 hd hpl
  go_enter Try.func29, Try.ntmps29
  go_wp2_with (go_at_call 122; refine (r01_cut_any _ _ _ _ _ hs hl (by omega)).mono ?_; rw [← HV.out, ← HM.out]; rintro e w' ⟨rfl, rfl⟩)
  go_loopw [3, 5] (fun v i wr => ∃ j : Nat, 2 * j ≤ m + 1 ∧ i = .int .i64 (2 * j : Nat) ∧ wr.ownsRow w.heap.size 57 1 v j (ints .u32 ((dig B32 V).take j)) ∧ Ext w wr) (fun _ i _ => m + 2 - (intOf i).toNat)
  case atStart => exact ⟨0, by omega, rfl, by simpa [ints] using World.ownsRow_nil w w.heap.size 57 1, Ext.refl w⟩
  case round =>
    obtain ⟨j, hj, rfl, hown, he⟩ := hrel
    by_cases h0 : 2 * j < m
    · obtain ⟨b, off, rfl, hc⟩ := (hs.ext he).at_int (by omega)
      have hck := hc (2 * j) (by omega)
      have hx := hl.at (2 * j) (by omega)
      have hjl : j < (dig B32 V).length := by rw [HL.out]; omega
      have hel : (dig B32 V)[j] = _ := dig32_get V j hjl (by have := HM.out; unfold B16 at this; omega)
      have e1 : l[2 * j]'(by omega) = (dig B16 V)[2 * j]'(by rw [← HM.out]; exact h0) := by simp only [← HD.out, List.getElem_take]
      by_cases h1 : 2 * j + 1 < m
      · have hck1 := hc (2 * j + 1) (by omega)
        have hx1 := hl.at (2 * j + 1) (by omega)
        clear hc
        have e2 : l[2 * j + 1]'(by omega) = (dig B16 V)[2 * j + 1]'(by rw [← HM.out]; exact h1) := by simp only [← HD.out, List.getElem_take]
        have HN : Hid (ints .u32 ((dig B32 V).take (j + 1)) = ints .u32 ((dig B32 V).take j) ++ [.int .u32 (l[2 * j] + l[2 * j + 1] * 65536 : Nat)]) := by
          rw [List.take_succ_eq_append_getElem hjl, ints_append, hel, dif_pos (by rw [HM.out] at h1; exact h1), e1, e2]; rfl
        clear e1 e2 hel
        go_wp2_with (at_builtin; refine wpList_app1 T_u32 rfl _ _ rfl hown he _ rfl rfl rfl (by omega) (by omega) ?_; intro v' w' hown' he')
        go_roundw
        case rel => exact ⟨j + 1, by omega, by go_num, by rw [HN.out]; exact hown', he'⟩
        case measure => simp [intOf]; omega
      · clear hc
        have HN : Hid (ints .u32 ((dig B32 V).take (j + 1)) = ints .u32 ((dig B32 V).take j) ++ [.int .u32 (l[2 * j] : Nat)]) := by
          rw [List.take_succ_eq_append_getElem hjl, ints_append, hel, dif_neg (by rw [HM.out] at h1; exact h1), e1]; rfl
        clear e1 hel
        go_wp2_with (at_builtin; refine wpList_app1 T_u32 rfl _ _ rfl hown he _ rfl rfl rfl (by omega) (by omega) ?_; intro v' w' hown' he')
        go_roundw
        case rel => exact ⟨j + 1, by omega, by go_num, by rw [HN.out]; exact hown', he'⟩
        case measure => simp [intOf]; omega
    · rw [List.take_of_length_le (by rw [HL.out]; omega)] at hown
      obtain ⟨a', cap', rfl, hsl⟩ := Sl.of_owns hown
      go_wp2
      go_ret
      exact ⟨_, _, _, rfl, by rw [← HV.out]; exact hsl, he⟩

set_option maxHeartbeats 400000 in
theorem r01_at_any (a : Option Addr) (n cap : Nat) (l : List Nat) (i : Nat) (w : World) (hs : Sl w a n cap (ints .u64 l)) (hn : n ≤ 17592186044416) :
    Calls Try.prog 129 #[.slice a n cap, .int .i64 i] w fun e w' => e = .returned (.int .u64 (l.getD i 0 : Nat)) ∧ w = w' := by
  have hlen := hs.int_len
  have hcap := hs.2.1
  have hm := hs.2.2.1
  unfold maxLen at hm
  by_cases h : i < n
  · obtain ⟨b, off, rfl, hc⟩ := hs.at_int (by omega)
    have hck := hc i (by omega)
    have HG : Hid (l.getD i 0 = l[i]) := hidP (by rw [List.getD_eq_getElem?_getD]; simp [show i < l.length by omega])
    clear hc
    go_enter Try.func129, Try.ntmps129
    go_wp2
    go_ret
    exact ⟨ret_int (by rw [HG.out]), rfl⟩
  · have HG : Hid (l.getD i 0 = 0) := hidP (by rw [List.getD_eq_getElem?_getD, List.getElem?_eq_none (by omega)]; rfl)
    go_enter Try.func129, Try.ntmps129
    go_wp2
    go_ret
    exact ⟨ret_int (by rw [HG.out]; rfl), rfl⟩

set_option maxHeartbeats 1000000 in
theorem r01_cmp_any (a a' : Option Addr) (n cap n' cap' : Nat) (x y : List Nat) (w : World) (hs : Sl w a n cap (ints .u64 x)) (hs' : Sl w a' n' cap' (ints .u64 y)) (hx : Hs x) (hy : Hs y)
    (hn : n ≤ 17592186044416) (hn' : n' ≤ 17592186044416) :
    Calls Try.prog 127 #[.slice a n cap, .slice a' n' cap'] w fun e w' => e = .returned (.int .i64 (cmpI (val B16 x) (val B16 y))) ∧ w = w' := by
  have hlen := hs.int_len
  have hlen' := hs'.int_len
  go_enter Try.func127, Try.ntmps127
  go_wp2
  all_goals
    go_loop [5] (fun i => ∃ k : Nat, k ≤ max n n' ∧ i = .int .i64 ((k : Int) - 1) ∧ ∀ j, k ≤ j → x.getD j 0 = y.getD j 0) (fun i => (intOf i + 1).toNat)
    case atStart =>
      refine ⟨max n n', by omega, by (refine congrArg _ ?_; omega), fun j hj => ?_⟩
      rw [List.getD_eq_getElem?_getD, List.getD_eq_getElem?_getD, List.getElem?_eq_none (by omega), List.getElem?_eq_none (by omega)]
    case round =>
      obtain ⟨k, hk, rfl, he⟩ := hrel
      have HE := hidP he; clear he
      by_cases h0 : 0 < k
      · obtain ⟨i, rfl⟩ : ∃ i, k = i + 1 := ⟨k - 1, by omega⟩
        have e1 : ((i + 1 : Nat) : Int) - 1 = (i : Int) := by omega
        rw [e1]
        clear e1
        have hxi := getD_lt (by unfold B16; omega) hx i
        have hyi := getD_lt (by unfold B16; omega) hy i
        generalize hX : x.getD i 0 = X at *
        generalize hY : y.getD i 0 = Y at *
        have HX := hidP hX; have HY := hidP hY; clear hX hY
        by_cases h1 : X < Y
        · have HV : Hid (cmpI (val B16 x) (val B16 y) = -1) := hidP (by
            have := val_lt_of (by unfold B16; omega) i x y hx (by rw [HX.out, HY.out]; exact h1) (fun j hj => HE.out j (by omega))
            simp [cmpI, this])
          go_wp2_with fail
          refine (r01_at_any a n cap x i _ hs hn).mono ?_
          rw [HX.out]; rintro e w' ⟨rfl, rfl⟩
          go_wp2_with fail
          refine (r01_at_any a' n' cap' y i _ hs' hn').mono ?_
          rw [HY.out]; rintro e w' ⟨rfl, rfl⟩
          go_wp2_with fail
          go_ret
          exact ⟨ret_int HV.out.symm, rfl⟩
        · by_cases h2 : Y < X
          · have HV : Hid (cmpI (val B16 x) (val B16 y) = 1) := hidP (by
              have := val_lt_of (by unfold B16; omega) i y x hy (by rw [HX.out, HY.out]; exact h2) (fun j hj => (HE.out j (by omega)).symm)
              simp [cmpI, this, show ¬ val B16 x < val B16 y by omega])
            go_wp2_with fail
            refine (r01_at_any a n cap x i _ hs hn).mono ?_
            rw [HX.out]; rintro e w' ⟨rfl, rfl⟩
            go_wp2_with fail
            refine (r01_at_any a' n' cap' y i _ hs' hn').mono ?_
            rw [HY.out]; rintro e w' ⟨rfl, rfl⟩
            go_wp2_with fail
            refine (r01_at_any a n cap x i _ hs hn).mono ?_
            rw [HX.out]; rintro e w' ⟨rfl, rfl⟩
            go_wp2_with fail
            refine (r01_at_any a' n' cap' y i _ hs' hn').mono ?_
            rw [HY.out]; rintro e w' ⟨rfl, rfl⟩
            go_wp2_with fail
            go_ret
            exact ⟨ret_int HV.out.symm, rfl⟩
          · go_wp2_with fail
            refine (r01_at_any a n cap x i _ hs hn).mono ?_
            rw [HX.out]; rintro e w' ⟨rfl, rfl⟩
            go_wp2_with fail
            refine (r01_at_any a' n' cap' y i _ hs' hn').mono ?_
            rw [HY.out]; rintro e w' ⟨rfl, rfl⟩
            go_wp2_with fail
            refine (r01_at_any a n cap x i _ hs hn).mono ?_
            rw [HX.out]; rintro e w' ⟨rfl, rfl⟩
            go_wp2_with fail
            refine (r01_at_any a' n' cap' y i _ hs' hn').mono ?_
            rw [HY.out]; rintro e w' ⟨rfl, rfl⟩
            go_wp2_with fail
            go_round
            case rel =>
              refine ⟨i, by omega, rfl, fun j hj => ?_⟩
              by_cases hji : j = i
              · subst hji; rw [HX.out, HY.out]; omega
              · exact HE.out j (by omega)
            case measure => simp [intOf]
      · obtain rfl : k = 0 := by omega
        have HV : Hid (cmpI (val B16 x) (val B16 y) = 0) := hidP (by
          have := val_eq_of B16 (x.length + y.length) x y (by omega) (by omega) (fun j => HE.out j (by omega))
          simp [cmpI, this])
        go_wp2
        go_ret
        exact ⟨ret_int HV.out.symm, rfl⟩

set_option maxHeartbeats 400000 in
theorem r01_Cmp_any (a a' : Option Addr) (n cap n' cap' : Nat) (x y : List Nat) (w : World) (hs : Sl w a n cap (ints .u32 x)) (hs' : Sl w a' n' cap' (ints .u32 y)) (hx : Ws x) (hy : Ws y)
    (hn : n ≤ 1099511627776) (hn' : n' ≤ 1099511627776) :
    Calls Try.prog 39 #[.slice a n cap, .slice a' n' cap'] w fun e w' => e = .returned (.int .i64 (cmpI (val B32 x) (val B32 y))) ∧ Ext w w' := by
  go_enter Try.func39, Try.ntmps39
  go_wp2_with fail
  refine (r01_half_any a n cap x _ hs hx hn).mono ?_
  rintro e w1 ⟨a1, n1, cap1, rfl, hs1, he1⟩
  go_wp2_with fail
  refine (r01_half_any a' n' cap' y _ (hs'.ext he1) hy hn').mono ?_
  rintro e w2 ⟨a2, n2, cap2, rfl, hs2, he2⟩
  go_wp2_with fail
  refine (r01_cmp_any a1 a2 n1 cap1 n2 cap2 _ _ _ (hs1.ext he2) hs2 (Hs.dig _) (Hs.dig _) ?_ ?_).mono ?_
  · have := hs1.int_len; have := dig16_len_le x hx; have := hs.int_len; unfold B16 B32 at *; omega
  · have := hs2.int_len; have := dig16_len_le y hy; have := hs'.int_len; unfold B16 B32 at *; omega
  rw [val_dig B16_two, val_dig B16_two]
  rintro e w' ⟨rfl, rfl⟩
  go_wp2
  go_ret
  exact ⟨rfl, he1.trans he2⟩

end Go.Proofs.Ytcipcpbjkcpgdaa
