/- Colours: may it be a weighted one? -/
import Derived.Test.YtbhjookpdmfdnaaC5
namespace Go.Proofs.Ytbhjookpdmfdnaa
set_option linter.unusedVariables false
open Go Go.RowKit

set_option maxHeartbeats 1000000 in
theorem c_may_any (r g b a : Nat) (w : World) (h : Col8 r g b a) :
    Calls Try.prog 19 #[.agg #[.int .u8 (r : Int), .int .u8 (g : Int), .int .u8 (b : Int), .int .u8 (a : Int)]] w fun e w' => e = .returned (.bool (mayB r g b a)) ∧ Ext w w' := by
  have HM : Hid (mayB r g b a = decide (r ≤ a ∧ g ≤ a ∧ b ≤ a)) := rfl
  generalize mayB r g b a = M at *
  go_enter Try.func19, Try.ntmps19
  go_wp2_with fail
  refine (c_of_any _ _ _ _ _).mono ?_
  rintro e u ⟨rfl, rfl⟩
  go_wp2_with fail
  go_loop [7] (fun i => i = .int .i64 0 ∨ (i = .int .i64 1 ∧ r ≤ a) ∨ (i = .int .i64 2 ∧ r ≤ a ∧ g ≤ a) ∨ (i = .int .i64 3 ∧ r ≤ a ∧ g ≤ a ∧ b ≤ a) ∨ (i = .int .i64 4 ∧ r ≤ a ∧ g ≤ a ∧ b ≤ a)) (fun i => 4 - (intOf i).toNat)
  case atStart => exact .inl rfl
  case round =>
    rcases hrel with rfl | ⟨rfl, h1⟩ | ⟨rfl, h1, h2⟩ | ⟨rfl, h1, h2, h3⟩ | ⟨rfl, h1, h2, h3⟩
    · have i0 : ∀ w, (Instr.index 64 (.agg #[.int .u8 (r : Int), .int .u8 (g : Int), .int .u8 (b : Int), .int .u8 (a : Int)]) (.int .i64 0)).run Try.prog w = .ok (.int .u8 (r : Int)) w := fun _ => by kernel_rfl
      go_wp2_with fail
      all_goals first
        | (go_round
           case rel => exact .inr (.inl ⟨rfl, by omega⟩)
           case measure => simp only [intOf]; omega)
        | (go_ret
           refine ⟨ret_bool ?_, (((Ext.refl _).alloc _).alloc _).alloc _⟩
           rw [HM.out]
           exact (decide_eq_false (by omega)).symm)
    · have i1 : ∀ w, (Instr.index 64 (.agg #[.int .u8 (r : Int), .int .u8 (g : Int), .int .u8 (b : Int), .int .u8 (a : Int)]) (.int .i64 1)).run Try.prog w = .ok (.int .u8 (g : Int)) w := fun _ => by kernel_rfl
      go_wp2_with fail
      all_goals first
        | (go_round
           case rel => exact .inr (.inr (.inl ⟨rfl, by omega, by omega⟩))
           case measure => simp only [intOf]; omega)
        | (go_ret
           refine ⟨ret_bool ?_, (((Ext.refl _).alloc _).alloc _).alloc _⟩
           rw [HM.out]
           exact (decide_eq_false (by omega)).symm)
    · have i2 : ∀ w, (Instr.index 64 (.agg #[.int .u8 (r : Int), .int .u8 (g : Int), .int .u8 (b : Int), .int .u8 (a : Int)]) (.int .i64 2)).run Try.prog w = .ok (.int .u8 (b : Int)) w := fun _ => by kernel_rfl
      go_wp2_with fail
      all_goals first
        | (go_round
           case rel => exact .inr (.inr (.inr (.inl ⟨rfl, by omega, by omega, by omega⟩)))
           case measure => simp only [intOf]; omega)
        | (go_ret
           refine ⟨ret_bool ?_, (((Ext.refl _).alloc _).alloc _).alloc _⟩
           rw [HM.out]
           exact (decide_eq_false (by omega)).symm)
    · have i3 : ∀ w, (Instr.index 64 (.agg #[.int .u8 (r : Int), .int .u8 (g : Int), .int .u8 (b : Int), .int .u8 (a : Int)]) (.int .i64 3)).run Try.prog w = .ok (.int .u8 (a : Int)) w := fun _ => by kernel_rfl
      go_wp2_with fail
      all_goals first
        | (go_round
           case rel => exact .inr (.inr (.inr (.inr ⟨rfl, by omega, by omega, by omega⟩)))
           case measure => simp only [intOf]; omega)
        | (go_ret
           refine ⟨ret_bool ?_, (((Ext.refl _).alloc _).alloc _).alloc _⟩
           rw [HM.out]
           exact (decide_eq_false (by omega)).symm)
    · go_wp2_with fail
      go_ret
      refine ⟨ret_bool ?_, (((Ext.refl _).alloc _).alloc _).alloc _⟩
      rw [HM.out]
      exact (decide_eq_true (by omega)).symm

end Go.Proofs.Ytbhjookpdmfdnaa
