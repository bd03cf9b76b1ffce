/- Gauge: what fits, and quotients to the nearest. -/
import Derived.Test.YtgjjalnmigdjgaaGreatQ19
import Derived.Test.YtgjjalnmigdjgaaGreatM6
import Derived.Deep.DeepCutAuto
namespace Go.Proofs.YtgjjalnmigdjgaaGreat
set_option linter.unusedVariables false
open Go Go.RowKit
/-- An int that fits the grid. -/
def fit1 (n : Int) : Bool := decide (-8388607 ≤ n ∧ n ≤ 8388607)
def fitP (x y : Int) : Bool := fit1 x && fit1 y
theorem fit1_iff {n : Int} : fit1 n = true ↔ -8388607 ≤ n ∧ n ≤ 8388607 := decide_eq_true_iff
theorem fitP_iff {x y : Int} : fitP x y = true ↔ (-8388607 ≤ x ∧ x ≤ 8388607) ∧ (-8388607 ≤ y ∧ y ≤ 8388607) := by
  unfold fitP; rw [Bool.and_eq_true, fit1_iff, fit1_iff]
theorem a_within (n : Int) (w : World) : Calls Tryz.prog 113 #[.int .i64 n, .int .i64 8388607] w fun e w' => e = .returned (.bool (fit1 n)) ∧ w = w' := by
  by_cases h1 : -8388607 ≤ n
  · by_cases h2 : n ≤ 8388607
    · have hr : fit1 n = true := fit1_iff.2 ⟨h1, h2⟩
      rw [hr]; clear hr
      go_enter Tryz.func113, Tryz.ntmps113
      go_wp2
      go_ret
      exact ⟨rfl, rfl⟩
    · have hr : fit1 n = false := by rw [Bool.eq_false_iff]; intro h; rw [fit1_iff] at h; omega
      rw [hr]; clear hr
      have h3 : decide (n ≤ 8388607) = false := decide_eq_false h2
      go_enter Tryz.func113, Tryz.ntmps113
      go_wp2
      go_ret
      exact ⟨rfl, rfl⟩
  · have hr : fit1 n = false := by rw [Bool.eq_false_iff]; intro h; rw [fit1_iff] at h; omega
    rw [hr]; clear hr
    have h3 : decide (-8388607 ≤ n) = false := decide_eq_false h1
    go_enter Tryz.func113, Tryz.ntmps113
    go_wp2
    go_ret
    exact ⟨rfl, rfl⟩
theorem a_Fits (x y : Int) (w : World) : Calls Tryz.prog 65 #[.agg #[.int .i64 x, .int .i64 y]] w fun e w' => e = .returned (.bool (fitP x y)) ∧ Ext w w' := by
  have hx := hidP (a_within x); have hy := hidP (a_within y)
  cases hfx : fit1 x
  · have hr : fitP x y = false := by unfold fitP; rw [hfx]; rfl
    rw [hr]
    rw [hfx] at hx
    clear hr hfx
    go_enter Tryz.func65, Tryz.ntmps65
    go_wp2_with fail
    refine (hx.out _).mono ?_
    rintro e w' ⟨rfl, rfl⟩
    go_wp2_with fail
    go_ret
    exact ⟨rfl, (Ext.refl _).alloc _⟩
  · have hr : fitP x y = fit1 y := by unfold fitP; rw [hfx]; rfl
    rw [hr]
    rw [hfx] at hx
    clear hr hfx
    generalize fit1 y = fy at *
    go_enter Tryz.func65, Tryz.ntmps65
    go_wp2_with fail
    refine (hx.out _).mono ?_
    rintro e w' ⟨rfl, rfl⟩
    go_wp2_with fail
    refine (hy.out _).mono ?_
    rintro e w' ⟨rfl, rfl⟩
    go_wp2_with fail
    go_ret
    exact ⟨rfl, (Ext.refl _).alloc _⟩
theorem d_Fits (x y : Int) (w : World) : Calls Tryz.prog 68 #[.agg #[.int .i64 x, .int .i64 y]] w fun e w' => e = .returned (.bool (fitP x y)) ∧ Ext w w' := by
  have key : ∀ r : Bool, fitP x y = r → (r = false ∨ ((-8388607 ≤ x ∧ x ≤ 8388607) ∧ (-8388607 ≤ y ∧ y ≤ 8388607))) := fun r h => by
    cases r
    · exact .inl rfl
    · exact .inr (fitP_iff.1 h)
  have hno : ¬ ((-8388607 ≤ x ∧ x ≤ 8388607) ∧ (-8388607 ≤ y ∧ y ≤ 8388607)) → fitP x y = false := fun h => by rw [Bool.eq_false_iff]; intro h2; exact h (fitP_iff.1 h2)
  have hyes := @fitP_iff x y
  generalize fitP x y = f at *
  have HY := hidP hyes; have HN := hidP hno
  clear key hno hyes
  by_cases h1 : -8388607 ≤ x
  · by_cases h2 : x ≤ 8388607
    · by_cases h3 : -8388607 ≤ y
      · by_cases h4 : y ≤ 8388607
        · have HR := hidP (HY.out.2 ⟨⟨h1, h2⟩, h3, h4⟩)
          go_enter Tryz.func68, Tryz.ntmps68
          go_wp2
          go_ret
          exact ⟨congrArg (fun x => Ending.returned (Value.bool x)) HR.out.symm, (Ext.refl _).alloc _⟩
        · have HR := hidP (HN.out (fun h => h4 h.2.2))
          have h5 : decide (y ≤ 8388607) = false := decide_eq_false h4
          go_enter Tryz.func68, Tryz.ntmps68
          go_wp2
          go_ret
          exact ⟨congrArg (fun x => Ending.returned (Value.bool x)) HR.out.symm, (Ext.refl _).alloc _⟩
      · have HR := hidP (HN.out (fun h => h3 h.2.1))
        have h5 : decide (-8388607 ≤ y) = false := decide_eq_false h3
        go_enter Tryz.func68, Tryz.ntmps68
        go_wp2
        go_ret
        exact ⟨congrArg (fun x => Ending.returned (Value.bool x)) HR.out.symm, (Ext.refl _).alloc _⟩
    · have HR := hidP (HN.out (fun h => h2 h.1.2))
      have h5 : decide (x ≤ 8388607) = false := decide_eq_false h2
      go_enter Tryz.func68, Tryz.ntmps68
      go_wp2
      go_ret
      exact ⟨congrArg (fun x => Ending.returned (Value.bool x)) HR.out.symm, (Ext.refl _).alloc _⟩
  · have HR := hidP (HN.out (fun h => h1 h.1.1))
    have h5 : decide (-8388607 ≤ x) = false := decide_eq_false h1
    go_enter Tryz.func68, Tryz.ntmps68
    go_wp2
    go_ret
    exact ⟨congrArg (fun x => Ending.returned (Value.bool x)) HR.out.symm, (Ext.refl _).alloc _⟩
end Go.Proofs.YtgjjalnmigdjgaaGreat
