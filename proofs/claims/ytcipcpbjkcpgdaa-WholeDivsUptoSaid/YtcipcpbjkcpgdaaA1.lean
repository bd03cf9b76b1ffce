/- The document's numbers (frisketref01) and the program's (nat), function by function: part 1. -/
import Derived.Test.YtcipcpbjkcpgdaaProg
import Derived.Test.YtcipcpbjkcpgdaaMem
import Derived.Outline
namespace Go.Proofs.Ytcipcpbjkcpgdaa
set_option linter.unusedVariables false
open Go Go.RowKit

set_option maxHeartbeats 400000 in
theorem nat_size_any (a : Option Addr) (n cap : Nat) (l : List Nat) (w : World) (hs : Sl w a n cap (ints .u32 l)) (hl : Ws l) (hn : n ≤ 17592186044416) :
    Calls Try.prog 120 #[.slice a n cap] w fun e w' => e = .returned (.int .i64 ((dig B32 (val B32 l)).length : Nat)) ∧ w = w' := by
  have hlen := hs.int_len
  have hcap := hs.2.1
  go_enter Try.func120, Try.ntmps120
  go_wp2
  go_loop [3] (fun i => ∃ k : Nat, k ≤ n ∧ i = .int .i64 k ∧ val B32 (l.take k) = val B32 l) (fun i => (intOf i).toNat)
  case atStart => exact ⟨n, by omega, rfl, by rw [List.take_of_length_le (by omega)]⟩
  case round =>
    obtain ⟨k, hk, rfl, hv⟩ := hrel
    have HV := hidP hv; clear hv
    by_cases h0 : 0 < k
    · obtain ⟨b, off, rfl, hc⟩ := hs.at_int (by omega)
      have hck := hc (k - 1) (by omega)
      clear hc
      have hck' := HV.out
      have HZ : Hid (l[k - 1] = 0 → val B32 (l.take (k - 1)) = val B32 l) := fun hz => by
        rw [← HV.out, ← val_take_of_zero B32 l (k - 1) (by omega) hz, Nat.sub_add_cancel h0]
      have HD : Hid (l[k - 1] ≠ 0 → (dig B32 (val B32 l)).length = k) := fun hz => by
        rw [← take_dig B32_two l hl k (by omega) (.inr ⟨by omega, hz⟩) HV.out, List.length_take]; omega
      clear hck'
      go_wp2
      · have hz : (((l[k - 1] : Nat) : Int) == 0) = true := by assumption
        go_round
        case rel => exact ⟨k - 1, by omega, by go_num, HZ.out (by simpa using hz)⟩
        case measure => simp [intOf]; omega
      · have hz : (((l[k - 1] : Nat) : Int) == 0) = false := by assumption
        go_ret
        exact ⟨ret_int (by rw [HD.out (by simpa using hz)]), rfl⟩
    · obtain rfl : k = 0 := by omega
      go_wp2
      go_ret
      have hv := HV.out
      simp only [List.take_zero, val] at hv
      exact ⟨ret_int (by rw [← hv, dig_zero]; rfl), rfl⟩
end Go.Proofs.Ytcipcpbjkcpgdaa
