/- The document's numbers (frisketref01): halves and words. -/
import Derived.Test.YtcipcpbjkcpgdaaA1
namespace Go.Proofs.Ytcipcpbjkcpgdaa
set_option linter.unusedVariables false
open Go Go.RowKit

set_option maxHeartbeats 400000 in
theorem r01_cut_any (a : Option Addr) (n cap : Nat) (l : List Nat) (w : World) (hs : Sl w a n cap (ints .u64 l)) (hl : Hs l) (hn : n ≤ 17592186044416) :
    Calls Try.prog 122 #[.slice a n cap] w fun e w' => e = .returned (.slice a (dig B16 (val B16 l)).length cap) ∧ w = w' := by
  have hlen := hs.int_len
  have hcap := hs.2.1
  have hm := hs.2.2.1
  unfold maxLen at hm
  go_enter Try.func122, Try.ntmps122
  go_wp2
  go_loop [3] (fun i => ∃ k : Nat, k ≤ n ∧ i = .int .i64 k ∧ val B16 (l.take k) = val B16 l) (fun i => (intOf i).toNat)
  case atStart => exact ⟨n, by omega, rfl, by rw [List.take_of_length_le (by omega)]⟩
  case round =>
    obtain ⟨k, hk, rfl, hv⟩ := hrel
    have HV := hidP hv; clear hv
    by_cases h0 : 0 < k
    · obtain ⟨b, off, rfl, hc⟩ := hs.at_int (by omega)
      have hck := hc (k - 1) (by omega)
      clear hc
      have HZ : Hid (l[k - 1] = 0 → val B16 (l.take (k - 1)) = val B16 l) := fun hz => by
        rw [← HV.out, ← val_take_of_zero B16 l (k - 1) (by omega) hz, Nat.sub_add_cancel h0]
      have HD : Hid (l[k - 1] ≠ 0 → (dig B16 (val B16 l)).length = k) := fun hz => by
        rw [← take_dig B16_two l hl k (by omega) (.inr ⟨by omega, hz⟩) HV.out, List.length_take]; omega
      go_wp2
      · have hz : (((l[k - 1] : Nat) : Int) == 0) = true := by assumption
        go_round
        case rel => exact ⟨k - 1, by omega, by go_num, HZ.out (by simpa using hz)⟩
        case measure => simp [intOf]; omega
      · have hz : (((l[k - 1] : Nat) : Int) == 0) = false := by assumption
        go_ret
        exact ⟨by rw [HD.out (by simpa using hz)]; rfl, rfl⟩
    · obtain rfl : k = 0 := by omega
      go_wp2
      go_ret
      have hv := HV.out
      simp only [List.take_zero, val] at hv
      exact ⟨by rw [← hv, dig_zero]; rfl, rfl⟩

theorem T_u64 : SlT Try.prog 37 32 (.int .u64 0) 8 :=
  let ⟨i, h1, h2, h3, h4⟩ := info_parts (P := Try.prog) (e := 32) (z := .int .u64 0) (size := 1) (bytes := 8) (by kernel_rfl); ⟨Try.underlying37, i, h1, h2, h3, h4, rfl⟩
theorem T_u32 : SlT Try.prog 22 57 (.int .u32 0) 4 :=
  let ⟨i, h1, h2, h3, h4⟩ := info_parts (P := Try.prog) (e := 57) (z := .int .u32 0) (size := 1) (bytes := 4) (by kernel_rfl); ⟨Try.underlying22, i, h1, h2, h3, h4, rfl⟩

set_option maxHeartbeats 1000000 in
theorem r01_half_any (a : Option Addr) (n cap : Nat) (l : List Nat) (w : World) (hs : Sl w a n cap (ints .u32 l)) (hl : Ws l) (hn : n ≤ 1099511627776) :
    Calls Try.prog 30 #[.slice a n cap] w (RetSl w (ints .u64 (dig B16 (val B32 l)))) := by
  have hlen := hs.int_len
  have hcap := hs.2.1
  have hm := hs.2.2.1
  unfold maxLen at hm
  go_enter Try.func30, Try.ntmps30
  go_wp2
  go_loopw [3, 4] (fun v i wr => ∃ k : Nat, k ≤ n ∧ i = .int .i64 k ∧ wr.ownsRow w.heap.size 32 1 v (2 * k) (ints .u64 (split16 (l.take k))) ∧ Ext w wr) (fun _ i _ => n - (intOf i).toNat)
  case atStart => exact ⟨0, by omega, rfl, by simpa [split16, ints] using World.ownsRow_nil w w.heap.size 32 1, Ext.refl w⟩
  case round =>
    obtain ⟨k, hk, rfl, hown, he⟩ := hrel
    by_cases h0 : k < n
    · obtain ⟨b, off, rfl, hc⟩ := (hs.ext he).at_int (by omega)
      have hck := hc k (by omega)
      have hx := hl.at k (by omega)
      clear hc
      go_wp2
      refine wp_region_plan (R := Ext) (.q 0 (.q 1 (.q 2 (.q 3 (.q 4 (.q 5 (.q 6 (.q 7 (.q 8 (.q 9 (.q 10 (.q 11 (.q 12 (.l 13 (.b 14 (.q 15 .done)))))))))))))))) (by kernel_rfl) (by kernel_rfl) (by kernel_rfl) (by kernel_rfl) Ext.refl (fun _ _ _ => Ext.trans) ?_
      have hcd : wr.drew.cell? ⟨b, off + k, none⟩ = some (.int .u32 (l[k] : Nat)) := by go_simp
      have hown1 := hown.drew
      have he1 := he.drew
      have hz := he.size
      generalize wr.drew = W1 at *
      repeat (refine wpE_q (v := ?_) rfl rfl (fun u hu => ?_) ?_; rotate_left 1; (focus ((try have hcu := hu.cell' hcd); go_simp; (try go_bits); (try rfl))); simp only [Act.put, List.setIfInBounds_toArray, List.set_cons_zero, List.set_cons_succ])
      refine wpE_l rfl rfl (fun K hK => ?_)
      go_simp
      refine hK.out _ _ ((Ext.refl _).alloc _) ?_
      clear hK K
      refine wpE_b rfl rfl (fun K hK => ?_)
      refine wp_app T_u64 _ _ rfl (hown1.alloc _) (he1.alloc _) [.int .u64 ((l[k] : Int) % 65536), .int .u64 ((l[k] : Int) / 65536)] rfl rfl rfl ?_ (by simp [Value.oneCell']) (by omega) (by omega) ?_
      · intro j u hj
        match j, hj with
        | 0, hj => simp at hj; subst hj; go_simp
        | 1, hj => simp at hj; subst hj; go_simp
        | j + 2, hj => simp at hj
      intro v' w' hown' he'
      refine hK.out _ _ ?_
      clear hK K
      repeat (refine wpE_q (v := ?_) rfl rfl (fun u hu => ?_) ?_; rotate_left 1; (focus (go_simp; (try go_bits); (try rfl))); simp only [Act.put, List.setIfInBounds_toArray, List.set_cons_zero, List.set_cons_succ])
      refine wpE_done ?_
      have hown2 : w'.ownsRow w.heap.size 32 1 v' (2 * (k + 1)) (ints .u64 (split16 (l.take (k + 1)))) := by
        rw [List.take_succ_eq_append_getElem (by omega), split16_snoc, ints_append]
        exact hown'
      clear hown' hown1 hown he he1
      go_wp2
      go_roundw
      case rel => exact ⟨k + 1, by omega, by go_num, hown2, he'⟩
      case measure => simp [intOf]; omega
    · obtain rfl : k = n := by omega
      rw [List.take_of_length_le (by omega)] at hown
      obtain ⟨a', cap', rfl, hsl⟩ := Sl.of_owns hown
      have hH : Hs (split16 l) := split16_lt l hl
      have hv : val B16 (split16 l) = val B32 l := val_split16 l
      have HV := hidP hv; clear hv
      go_wp2_with (go_at_call 122; refine (r01_cut_any _ _ _ _ _ hsl hH (by omega)).mono ?_; rintro e w' ⟨rfl, rfl⟩)
      go_ret
      refine ⟨_, _, _, rfl, ?_, he⟩
      rw [HV.out]
      have ht := take_dig_len B16_two (split16 l) hH
      rw [HV.out] at ht
      have hx := hsl.take (dig B16 (val B32 l)).length (by have := dig_val_len B16_two (split16 l) hH; rw [HV.out, split16_len] at this; omega)
      rw [ints_take, ht] at hx
      exact hx
end Go.Proofs.Ytcipcpbjkcpgdaa
