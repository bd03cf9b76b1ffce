/- Lines as a text: the program's. -/
import Derived.Test.YtlhaepcnhkaclaaDoorX12
import Derived.Lib.AppendStr
namespace Go.Proofs.YtlhaepcnhkaclaaDoor
set_option linter.unusedVariables false
set_option linter.unusedSimpArgs false
open Go Go.RowKit

/-- How many bytes words have. -/
def sumL (ps : List (List Nat)) : Nat := (ps.map List.length).sum
theorem sumL_take {ps : List (List Nat)} {j : Nat} (hj : j < ps.length) : sumL (ps.take (j + 1)) = sumL (ps.take j) + (ps.getD j []).length := by
  unfold sumL
  rw [List.take_succ_eq_append_getElem hj, List.map_append, List.sum_append, List.getD_eq_getElem?_getD, List.getElem?_eq_getElem hj]
  simp
theorem sumL_le {ps : List (List Nat)} (j : Nat) : sumL (ps.take j) ≤ sumL ps := by
  unfold sumL
  conv => rhs; rw [← List.take_append_drop j ps]
  rw [List.map_append, List.sum_append]
  omega
theorem sumL_get {ps : List (List Nat)} {j : Nat} (hj : j < ps.length) : (ps.getD j []).length ≤ sumL ps := by
  have h1 := sumL_take hj
  have h2 := sumL_le (ps := ps) (j + 1)
  omega

set_option maxRecDepth 100000 in
set_option maxHeartbeats 4000000 in
theorem x_Long (a : Option Addr) (n c : Nat) (ps : List (List Nat)) (w : World) (h : Sl w a n c (strN ps)) (hb : n + sumL ps ≤ 4611686018427387904) :
    Calls Tryd.prog 31 #[.slice a n c] w fun e w' => e = .returned (.int .i64 (longL ps : Nat)) ∧ w = w' := by
  have hln : ps.length = n := by have := h.1; rwa [strN_len] at this
  have H := hidP h
  have HLN := hidP hln
  have HMX : Hid (max ((n : Int) - 1) 0 = ((n - 1 : Nat) : Int)) := hidP (by omega)
  have HR : Hid (longL ps = (n - 1) + sumL ps) := hidP (by unfold longL sumL; rw [hln])
  have HT := hidP (fun (j : Nat) (hj : j < ps.length) => sumL_take hj)
  have HLE := hidP (fun (j : Nat) => sumL_le (ps := ps) j)
  have HF : Hid (sumL (ps.take n) = sumL ps) := hidP (by rw [List.take_of_length_le (by omega)])
  have H0 : Hid (sumL (ps.take 0) = 0) := hidP rfl
  have hnn : n ≤ 4611686018427387904 := by omega
  generalize hq : n - 1 = q at *
  have hq1 : q ≤ n := by omega
  clear h hln hq
  have mx := HMX.out
  go_enter Tryd.func31, Tryd.ntmps31
  go_wp2_with fail
  clear mx
  go_loop [3, 12] (fun v i => ∃ (j T : Nat), j ≤ n ∧ i = .int .i64 (j : Int) ∧ v = .int .i64 ((q : Int) + (T : Int)) ∧ Hid (sumL (ps.take j) = T)) (fun _ i => n - (intOf i).toNat)
  case atStart => exact ⟨0, 0, Nat.zero_le _, rfl, by go_num, H0⟩
  case round =>
    clear H0
    obtain ⟨j, T, hj, rfl, rfl, HS⟩ := hrel
    by_cases hlt : j < n
    · obtain ⟨b, off, rfl, hc⟩ := strN_at H.out j hlt
      have hT := HT.out j (by rw [HLN.out]; exact hlt)
      have hle := HLE.out (j + 1)
      rw [HS.out] at hT
      have hsz : (bytesOf (ps.getD j [])).size = (ps.getD j []).length := bytesOf_size _
      rw [← hsz] at hT
      generalize bytesOf (ps.getD j []) = s at *
      have hsb : T + s.size ≤ 4611686018427387904 := by omega
      have HS2 := hidP hT
      have hji : (j : Int) < (n : Int) := by omega
      have hqt : (q : Int) + (T : Int) + (s.size : Int) ≤ 9223372036854775807 := by omega
      clear hT hle hsz
      go_wp2_with fail
      go_round
      case rel => exact ⟨j + 1, T + s.size, by omega, by go_num, by go_num, HS2⟩
      case measure => simp only [intOf]; omega
    · obtain rfl : j = n := by omega
      have hTT : T = sumL ps := by rw [← HS.out, HF.out]
      have HTT := hidP hTT
      clear hTT
      go_wp2_with fail
      go_ret
      refine ⟨?_, rfl⟩
      rw [HR.out, ← HTT.out]
      exact congrArg (fun x => Ending.returned (Value.int .i64 x)) (by omega)

end Go.Proofs.YtlhaepcnhkaclaaDoor
