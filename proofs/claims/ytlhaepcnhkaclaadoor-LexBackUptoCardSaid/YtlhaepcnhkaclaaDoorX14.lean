/- Lines as a text: what is wrong with a line. -/
import Derived.Test.YtlhaepcnhkaclaaDoorX13
namespace Go.Proofs.YtlhaepcnhkaclaaDoor
set_option linter.unusedVariables false
set_option linter.unusedSimpArgs false
open Go Go.RowKit

theorem right_all {k : Nat} {ps : List (List Nat)} (h1 : ¬ 1000 < k) (h2 : ¬ 4096 < longL ps) (h3 : ¬ ps.length = 0) : (ps.all wordL = true → rightL k ps = 0) ∧ (∀ p ∈ ps, wordL p = false → rightL k ps = 3) := by
  have h3' : ps ≠ [] := fun e => h3 (by rw [e]; rfl)
  unfold rightL
  rw [if_neg h1, if_neg h2, if_neg h3']
  refine ⟨fun h => if_pos h, fun p hp hw => if_neg (fun h => ?_)⟩
  have := List.all_eq_true.1 h p hp
  rw [hw] at this
  cases this

set_option maxRecDepth 100000 in
set_option maxHeartbeats 4000000 in
theorem x_right (k : Nat) (a : Option Addr) (n c : Nat) (ps : List (List Nat)) (w : World) (h : Sl w a n c (strN ps)) (hb : n + sumL ps ≤ 4611686018427387904) (hle : ∀ p ∈ ps, ∀ x ∈ p, x ≤ 255) :
    Calls Tryd.prog 19 #[.int .i64 (k : Int), .slice a n c] w fun e w' => e = .returned (.int .i64 (rightL k ps : Nat)) ∧ w = w' := by
  have hln : ps.length = n := by have := h.1; rwa [strN_len] at this
  have H := hidP h
  have HLN := hidP hln
  have HLONG := hidP (x_Long a n c ps w h hb)
  by_cases h1 : 1000 < k
  · have HR : Hid (rightL k ps = 7) := hidP (if_pos h1)
    have h1' : (1000 : Int) < (k : Int) := by omega
    clear h hln h1
    go_enter Tryd.func19, Tryd.ntmps19
    go_wp2
    go_ret
    exact ⟨by rw [HR.out]; rfl, rfl⟩
  · have h1' : ¬ (1000 : Int) < (k : Int) := by omega
    by_cases h2 : 4096 < longL ps
    · have HR : Hid (rightL k ps = 14) := hidP (by unfold rightL; rw [if_neg h1, if_pos h2])
      generalize longL ps = lg at *
      have h2' : (4096 : Int) < (lg : Int) := by omega
      clear h hln h1 h2
      go_enter Tryd.func19, Tryd.ntmps19
      go_wp2_with fail
      refine HLONG.out.mono ?_
      rintro e u1 ⟨rfl, rfl⟩
      go_wp2_with fail
      go_ret
      exact ⟨by rw [HR.out]; rfl, rfl⟩
    · by_cases h3 : n = 0
      · have HR : Hid (rightL k ps = 3) := hidP (by unfold rightL; rw [if_neg h1, if_neg h2, if_pos (List.length_eq_zero_iff.1 (by omega))])
        generalize longL ps = lg at *
        have h2' : ¬ (4096 : Int) < (lg : Int) := by omega
        subst h3
        clear h hln h1 h2
        go_enter Tryd.func19, Tryd.ntmps19
        go_wp2_with fail
        refine HLONG.out.mono ?_
        rintro e u1 ⟨rfl, rfl⟩
        go_wp2_with fail
        go_ret
        exact ⟨by rw [HR.out]; rfl, rfl⟩
      · obtain ⟨hall, hbad⟩ := right_all h1 h2 (by omega : ¬ ps.length = 0)
        have HALL := hidP hall; have HBAD := hidP hbad
        have HA0 : Hid ((ps.take 0).all wordL = true) := hidP rfl
        have HLE := hidP hle
        have hsum := hidP (fun (j : Nat) (hj : j < ps.length) => sumL_get hj)
        have hnz : ((n : Int) == 0) = false := by simp; omega
        have hnn : n ≤ 4611686018427387904 := by omega
        have hsl : sumL ps ≤ 4611686018427387904 := by omega
        generalize longL ps = lg at *
        have h2' : ¬ (4096 : Int) < (lg : Int) := by omega
        generalize rightL k ps = rr at *
        clear h hln h1 h2 hall hbad hle h3
        go_enter Tryd.func19, Tryd.ntmps19
        go_wp2_with fail
        refine HLONG.out.mono ?_
        rintro e u1 ⟨rfl, rfl⟩
        go_wp2_with fail
        go_loop [20] (fun i => ∃ j : Nat, j ≤ n ∧ i = .int .i64 (j : Int) ∧ Hid ((ps.take j).all wordL = true)) (fun i => n - (intOf i).toNat)
        case atStart => exact ⟨0, Nat.zero_le _, rfl, HA0⟩
        case round =>
          clear HA0
          obtain ⟨j, hj, rfl, HA⟩ := hrel
          by_cases hlt : j < n
          · obtain ⟨b, off, rfl, hc⟩ := strN_at H.out j hlt
            have hjl : j < ps.length := by rw [HLN.out]; exact hlt
            have HP : Hid (ps.getD j [] ∈ ps) := hidP (by rw [List.getD_eq_getElem?_getD, List.getElem?_eq_getElem hjl]; exact List.getElem_mem hjl)
            have HT : Hid (ps.take (j + 1) = ps.take j ++ [ps.getD j []]) := hidP (by rw [List.take_succ_eq_append_getElem hjl, List.getD_eq_getElem?_getD, List.getElem?_eq_getElem hjl]; rfl)
            have hpl := hsum.out j hjl
            have HW := hidP (fun (u : World) => (by
              have := x_Word (bytesOf (ps.getD j [])) u (by rw [bytesOf_size]; omega)
              rw [natsOf_bytesOf _ (HLE.out _ HP.out)] at this
              exact this : Calls Tryd.prog 18 #[.string (bytesOf (ps.getD j []))] u fun e w' => e = .returned (.bool (wordL (ps.getD j []))) ∧ u = w'))
            have hji : (j : Int) < (n : Int) := by omega
            generalize ps.getD j [] = p at *
            clear hpl
            cases hw : wordL p
            · have HR := hidP (HBAD.out p HP.out hw)
              rw [hw] at HW
              clear hw
              go_wp2_with fail
              refine (HW.out _).mono ?_
              rintro e u2 ⟨rfl, rfl⟩
              go_wp2_with fail
              go_ret
              exact ⟨by rw [HR.out]; rfl, rfl⟩
            · have HA2 : Hid ((ps.take (j + 1)).all wordL = true) := hidP (by rw [HT.out, List.all_append, HA.out]; simp [hw])
              rw [hw] at HW
              clear hw HA
              go_wp2_with fail
              refine (HW.out _).mono ?_
              rintro e u2 ⟨rfl, rfl⟩
              go_wp2_with fail
              go_round
              case rel => exact ⟨j + 1, by omega, by go_num, HA2⟩
              case measure => simp only [intOf]; omega
          · obtain rfl : j = n := by omega
            have HR := hidP (HALL.out (by have := HA.out; rwa [List.take_of_length_le (by rw [HLN.out]; omega)] at this))
            go_wp2_with fail
            go_ret
            exact ⟨by rw [HR.out]; rfl, rfl⟩

end Go.Proofs.YtlhaepcnhkaclaaDoor
