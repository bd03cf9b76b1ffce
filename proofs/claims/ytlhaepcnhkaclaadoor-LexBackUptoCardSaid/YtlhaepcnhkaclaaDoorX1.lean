/- Words: the program's and the document's. -/
import Derived.Test.YtlhaepcnhkaclaaDoorLB
namespace Go.Proofs.YtlhaepcnhkaclaaDoor
set_option linter.unusedVariables false
set_option linter.unusedSimpArgs false
open Go Go.RowKit

def okB (x : Nat) : Bool := decide (33 ≤ x ∧ x ≤ 126)
/-- A word: bytes from 33 to 126, one at least. -/
def wordL (l : List Nat) : Bool := !l.isEmpty && l.all okB
theorem word_nil : wordL [] = false := rfl
theorem all_take {l : List Nat} {k c : Nat} (h : (l.take k).all okB = true) (hk : k < l.length) (hc : l.getD k 0 = c) (h2 : okB c = true) : (l.take (k + 1)).all okB = true := by
  rw [List.take_succ_eq_append_getElem hk, List.all_append, h, Bool.true_and]
  have : l[k] = c := by rw [← hc, List.getD_eq_getElem?_getD, List.getElem?_eq_getElem hk]; rfl
  rw [this]
  simp [h2]
theorem word_bad {l : List Nat} {k c : Nat} (hk : k < l.length) (hc : l.getD k 0 = c) (h2 : okB c = false) : wordL l = false := by
  have : l[k] = c := by rw [← hc, List.getD_eq_getElem?_getD, List.getElem?_eq_getElem hk]; rfl
  unfold wordL
  rw [Bool.and_eq_false_iff]
  right
  rw [Bool.eq_false_iff]
  intro h
  rw [List.all_eq_true] at h
  have := h l[k] (List.getElem_mem hk)
  simp_all
theorem word_end {l : List Nat} {n : Nat} (hn : l.length = n) (h0 : 0 < n) (h : (l.take n).all okB = true) : wordL l = true := by
  rw [List.take_of_length_le (by omega)] at h
  unfold wordL
  rw [h]
  cases l with
  | nil => simp at hn; omega
  | cons a t => rfl

set_option maxRecDepth 100000 in
set_option maxHeartbeats 4000000 in
theorem x_Word (s : ByteArray) (w : World) (hs : s.size ≤ 9223372036854775807) : Calls Tryd.prog 18 #[.string s] w fun e w' => e = .returned (.bool (wordL (natsOf s))) ∧ w = w' := by
  have hl := natsOf_len s
  by_cases h0 : s.size = 0
  · have h1 : s = ⟨#[]⟩ := by
      obtain ⟨⟨l⟩⟩ := s
      have : l.length = 0 := h0
      cases l with
      | nil => rfl
      | cons a t => simp at this
    subst h1
    clear hl h0
    go_enter Tryd.func18, Tryd.ntmps18
    go_wp2
    go_ret
    exact ⟨rfl, rfl⟩
  · have hne : s.toList.isEmpty = false := by
      have : s.toList.length = s.size := by rw [toList_data]; simp
      cases h : s.toList with
      | nil => rw [h] at this; simp at this; omega
      | cons a t => rfl
    have HAT := hidP (natsOf_at s)
    have HL := hidP hl
    have HA0 : Hid (((natsOf s).take 0).all okB = true) := hidP rfl
    have HBAD := hidP (fun (k c : Nat) (h1 : k < (natsOf s).length) (h2 : (natsOf s).getD k 0 = c) (h3 : okB c = false) => word_bad h1 h2 h3)
    have HST := hidP (fun (k c : Nat) (h1 : ((natsOf s).take k).all okB = true) (h2 : k < (natsOf s).length) (h3 : (natsOf s).getD k 0 = c) (h4 : okB c = true) => all_take h1 h2 h3 h4)
    have HEND := hidP (fun (n : Nat) (h1 : (natsOf s).length = n) (h2 : 0 < n) (h3 : ((natsOf s).take n).all okB = true) => word_end h1 h2 h3)
    have h0' : 0 < s.size := by omega
    clear h0 hl
    generalize natsOf s = L at *
    go_enter Tryd.func18, Tryd.ntmps18
    go_wp2
    go_loop [8] (fun i => ∃ k : Nat, k ≤ s.size ∧ i = .int .i64 (k : Int) ∧ Hid ((L.take k).all okB = true)) (fun i => s.size - (intOf i).toNat)
    case atStart => exact ⟨0, by omega, rfl, HA0⟩
    case round =>
      clear HA0
      obtain ⟨k, hk, rfl, HA⟩ := hrel
      by_cases hlt : k < s.size
      · have hlt0 := hlt
        have hat := HAT.out k hlt
        by_cases c1 : s[k].toNat < 33
        · have HR : Hid (wordL L = false) := hidP (HBAD.out _ _ (by rw [HL.out]; exact hlt) hat (by unfold okB; rw [decide_eq_false_iff_not]; omega))
          have c2 : ((s[k].toNat : Nat) : Int) < 33 := by omega
          clear hat
          go_wp2
          go_ret
          exact ⟨congrArg (fun b => Ending.returned (Value.bool b)) HR.out.symm, rfl⟩
        · by_cases c3 : 126 < s[k].toNat
          · have HR : Hid (wordL L = false) := hidP (HBAD.out _ _ (by rw [HL.out]; exact hlt) hat (by unfold okB; rw [decide_eq_false_iff_not]; omega))
            have c2 : ¬ ((s[k].toNat : Nat) : Int) < 33 := by omega
            have c4 : (126 : Int) < ((s[k].toNat : Nat) : Int) := by omega
            clear hat
            go_wp2
            go_ret
            exact ⟨congrArg (fun b => Ending.returned (Value.bool b)) HR.out.symm, rfl⟩
          · have HN := hidP (HST.out _ _ HA.out (by rw [HL.out]; exact hlt) hat (by unfold okB; rw [decide_eq_true_eq]; omega))
            have c2 : ¬ ((s[k].toNat : Nat) : Int) < 33 := by omega
            have c4 : ¬ (126 : Int) < ((s[k].toNat : Nat) : Int) := by omega
            clear hat
            go_wp2
            go_round
            case rel => exact ⟨k + 1, by omega, by go_num, HN⟩
            case measure => simp only [intOf]; omega
      · obtain rfl : k = s.size := by omega
        have HR : Hid (wordL L = true) := hidP (HEND.out _ HL.out h0' HA.out)
        go_wp2
        go_ret
        exact ⟨congrArg (fun b => Ending.returned (Value.bool b)) HR.out.symm, rfl⟩

theorem all_take_b {l : List Nat} {k c : Nat} {b : Bool} (h : (l.take k).all okB = b) (hk : k < l.length) (hc : l.getD k 0 = c) : (l.take (k + 1)).all okB = (b && okB c) := by
  rw [List.take_succ_eq_append_getElem hk, List.all_append, h]
  have : l[k] = c := by rw [← hc, List.getD_eq_getElem?_getD, List.getElem?_eq_getElem hk]; rfl
  rw [this]
  simp
set_option maxRecDepth 100000 in
set_option maxHeartbeats 4000000 in
theorem d_Word (s : ByteArray) (w : World) (hs : s.size ≤ 9223372036854775807) : Calls Tryd.prog 30 #[.string s] w fun e w' => e = .returned (.bool (wordL (natsOf s))) ∧ w = w' := by
  have hl := natsOf_len s
  by_cases h0 : s.size = 0
  · have h1 : s = ⟨#[]⟩ := by
      obtain ⟨⟨l⟩⟩ := s
      have : l.length = 0 := h0
      cases l with
      | nil => rfl
      | cons a t => simp at this
    subst h1
    clear hl h0
    go_enter Tryd.func30, Tryd.ntmps30
    go_wp2
    go_loop [3, 4] (fun v i => v = .bool false ∧ i = .int .i64 0) (fun _ _ => 0)
    case atStart => exact ⟨rfl, rfl⟩
    case round =>
      obtain ⟨rfl, rfl⟩ := hrel
      go_wp2
      go_ret
      exact ⟨rfl, rfl⟩
  · have HAT := hidP (natsOf_at s)
    have HL := hidP hl
    have HA0 : Hid (((natsOf s).take 0).all okB = true) := hidP rfl
    have HST := hidP (fun (k c : Nat) (b : Bool) (h1 : ((natsOf s).take k).all okB = b) (h2 : k < (natsOf s).length) (h3 : (natsOf s).getD k 0 = c) => all_take_b h1 h2 h3)
    have HEND : Hid (∀ b, ((natsOf s).take s.size).all okB = b → wordL (natsOf s) = b) := hidP (fun b h => by
      rw [List.take_of_length_le (by omega)] at h
      unfold wordL
      rw [h]
      cases hh : natsOf s with
      | nil => rw [hh] at hl; simp at hl; omega
      | cons a t => rfl)
    have h0' : 0 < s.size := by omega
    clear h0 hl
    generalize natsOf s = L at *
    generalize wordL L = rr at *
    go_enter Tryd.func30, Tryd.ntmps30
    go_wp2
    go_loop [3, 4] (fun v i => ∃ (k : Nat) (b : Bool), k ≤ s.size ∧ v = .bool b ∧ i = .int .i64 (k : Int) ∧ Hid ((L.take k).all okB = b)) (fun _ i => s.size - (intOf i).toNat)
    case atStart => exact ⟨0, true, by omega, rfl, rfl, HA0⟩
    case round =>
      clear HA0
      obtain ⟨k, b, hk, rfl, rfl, HA⟩ := hrel
      by_cases hlt : k < s.size
      · have hlt0 := hlt
        have HN := hidP (HST.out k _ b HA.out (by rw [HL.out]; exact hlt) (HAT.out k hlt))
        clear HA
        generalize hc : s[k].toNat = c at *
        have HC := hidP hc
        clear hc
        cases b
        · have HN' : Hid ((L.take (k + 1)).all okB = false) := hidP (by rw [HN.out]; rfl)
          clear HN
          go_wp2
          go_round
          case rel => exact ⟨k + 1, false, by omega, rfl, by go_num, HN'⟩
          case measure => simp only [intOf]; omega
        · by_cases c1 : 33 ≤ c
          · by_cases c3 : c ≤ 126
            · have HN' : Hid ((L.take (k + 1)).all okB = true) := hidP (by rw [HN.out]; unfold okB; simp; omega)
              have hcc := HC.out
              have c2 : (33 : Int) ≤ (c : Int) := by omega
              have c4 : (c : Int) ≤ 126 := by omega
              clear HN
              go_wp2
              go_round
              case rel => exact ⟨k + 1, true, by omega, rfl, by go_num, HN'⟩
              case measure => simp only [intOf]; omega
            · have HN' : Hid ((L.take (k + 1)).all okB = false) := hidP (by rw [HN.out]; unfold okB; simp; omega)
              have hcc := HC.out
              have c2 : (33 : Int) ≤ (c : Int) := by omega
              have c4 : decide ((c : Int) ≤ 126) = false := decide_eq_false (by omega)
              clear HN
              go_wp2
              go_round
              case rel => exact ⟨k + 1, false, by omega, rfl, by go_num, HN'⟩
              case measure => simp only [intOf]; omega
          · have HN' : Hid ((L.take (k + 1)).all okB = false) := hidP (by rw [HN.out]; unfold okB; simp; omega)
            have hcc := HC.out
            have c2 : decide ((33 : Int) ≤ (c : Int)) = false := decide_eq_false (by omega)
            clear HN
            go_wp2
            go_round
            case rel => exact ⟨k + 1, false, by omega, rfl, by go_num, HN'⟩
            case measure => simp only [intOf]; omega
      · obtain rfl : k = s.size := by omega
        have HR := hidP (HEND.out b HA.out)
        go_wp2
        go_ret
        exact ⟨congrArg (fun b => Ending.returned (Value.bool b)) HR.out.symm, rfl⟩

end Go.Proofs.YtlhaepcnhkaclaaDoor
