/- Colours: by 255; over, fade, mix, weigh. -/
import Derived.Test.YtbhjookpdmfdnaaDoorC2
namespace Go.Proofs.YtbhjookpdmfdnaaDoor
set_option linter.unusedVariables false
open Go Go.RowKit

/-- A number by 255, to the nearest. -/
def part (n : Int) : Nat := if n ≤ 0 then 0 else if 65025 ≤ n then 255 else ((n + 127) / 255).toNat
theorem part_le (n : Int) : part n ≤ 255 := by
  unfold part; split
  · omega
  · split <;> omega

theorem c_part_any (n : Int) (w : World) (h1 : -9223372036854775808 ≤ n) (h2 : n ≤ 9223372036854775807) :
    Calls Tryd.prog 57 #[.int .i64 n] w fun e w' => e = .returned (.int .u8 (part n : Int)) ∧ w = w' := by
  by_cases h0 : n ≤ 0
  · have hp : part n = 0 := by simp [part, h0]
    rw [hp]; clear hp
    go_enter Tryd.func57, Tryd.ntmps57
    go_wp2
    go_ret
    exact ⟨rfl, rfl⟩
  · by_cases h3 : 65025 ≤ n
    · have hp : part n = 255 := by simp [part, h0, h3]
      rw [hp]; clear hp
      go_enter Tryd.func57, Tryd.ntmps57
      go_wp2
      go_ret
      exact ⟨rfl, rfl⟩
    · obtain ⟨q, hq⟩ : ∃ q, (n + 127) / 255 = q := ⟨_, rfl⟩
      have hp : (part n : Int) = q := by rw [← hq]; simp only [part, if_neg h0, if_neg h3]; omega
      rw [hp]; clear hp
      have hq1 : 0 ≤ q := by omega
      have hq2 : q ≤ 255 := by omega
      go_enter Tryd.func57, Tryd.ntmps57
      go_wp2
      go_ret
      exact ⟨rfl, rfl⟩

theorem part_up (n : Int) (h : 0 ≤ n) (h' : n ≤ 65025) (hu : 255 < 2 * (n - 255 * (n / 255))) : n / 255 + 1 = (part n : Int) := by
  unfold part
  split
  · omega
  · split <;> omega
theorem part_down (n : Int) (h : 0 ≤ n) (h' : n ≤ 65025) (hu : 2 * (n - 255 * (n / 255)) ≤ 255) : n / 255 = (part n : Int) := by
  unfold part
  split
  · omega
  · split <;> omega

theorem prod_le {a b : Nat} (ha : a ≤ 255) (hb : b ≤ 255) : a * b ≤ 65025 := Nat.mul_le_mul ha hb

theorem prod_int {a b : Nat} (ha : a ≤ 255) (hb : b ≤ 255) : (a : Int) * (b : Int) ≤ 65025 ∧ 0 ≤ (a : Int) * (b : Int) := by
  rw [← Int.natCast_mul]
  have := prod_le ha hb
  omega

theorem c_times_any (a b : Nat) (w : World) (ha : a ≤ 255) (hb : b ≤ 255) :
    Calls Tryd.prog 48 #[.int .u8 (a : Int), .int .u8 (b : Int)] w fun e w' => e = .returned (.int .u8 (part ((a : Int) * (b : Int)) : Int)) ∧ w = w' := by
  obtain ⟨hp, hp0⟩ := prod_int ha hb
  go_enter Tryd.func48, Tryd.ntmps48
  go_wp2_with fail
  refine (c_part_any _ _ (by omega) (by omega)).mono ?_
  rintro e u ⟨rfl, rfl⟩
  go_wp2
  go_ret
  exact ⟨rfl, rfl⟩

/-- One part over another one, where rest shines through. -/
def covr (rest a b : Nat) : Nat := min (a + part ((b : Int) * (rest : Int))) 255
def fadr (n a b : Nat) : Nat := part ((a : Int) * (n : Int))
def mixr (n a b : Nat) : Nat := part ((a : Int) * (255 - (n : Int)) + (b : Int) * (n : Int))
theorem covr_le (n a b : Nat) : covr n a b ≤ 255 := Nat.min_le_right _ _
theorem fadr_le (n a b : Nat) : fadr n a b ≤ 255 := part_le _
theorem mixr_le (n a b : Nat) : mixr n a b ≤ 255 := part_le _

theorem c_fade1_any (n g a b : Nat) (w : World) (ha : a ≤ 255) (hb : b ≤ 255) (hn : n ≤ 255) (hc : w.cell? ⟨g, 0, none⟩ = some (.int .u8 (n : Int))) :
    Calls Tryd.prog 56 #[.int .u8 (a : Int), .int .u8 (b : Int), .pointer (some ⟨g, 0, none⟩)] w fun e w' => e = .returned (.int .u8 ((fadr n a b : Nat) : Int)) ∧ w = w' := by
  go_enter Tryd.func56, Tryd.ntmps56
  go_wp2_with fail
  refine (c_times_any _ _ _ ha hn).mono ?_
  rintro e u ⟨rfl, rfl⟩
  go_wp2
  go_ret
  exact ⟨rfl, rfl⟩

theorem c_over1_any (n g a b : Nat) (w : World) (ha : a ≤ 255) (hb : b ≤ 255) (hn : n ≤ 255) (hc : w.cell? ⟨g, 0, none⟩ = some (.int .u8 (n : Int))) :
    Calls Tryd.prog 47 #[.int .u8 (a : Int), .int .u8 (b : Int), .pointer (some ⟨g, 0, none⟩)] w fun e w' => e = .returned (.int .u8 ((covr n a b : Nat) : Int)) ∧ w = w' := by
  have hp := part_le ((b : Int) * (n : Int))
  go_enter Tryd.func47, Tryd.ntmps47
  go_wp2_with fail
  refine (c_times_any _ _ _ hb hn).mono ?_
  rintro e u ⟨rfl, rfl⟩
  go_wp2
  all_goals go_ret
  all_goals refine ⟨ret_int (by unfold covr; omega), rfl⟩

end Go.Proofs.YtbhjookpdmfdnaaDoor
