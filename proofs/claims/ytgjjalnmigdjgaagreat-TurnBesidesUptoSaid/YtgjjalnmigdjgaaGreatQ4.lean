/- The program's fractions (frac): made. -/
import Derived.Test.YtgjjalnmigdjgaaGreatQ3
namespace Go.Proofs.YtgjjalnmigdjgaaGreat
set_option linter.unusedVariables false
open Go Go.RowKit
/-- A fraction in its own words, and a number of an error. -/
def RetFE (w : World) (z : Int) (D : Nat) (err : Int) (e : Ending) (w' : World) : Prop :=
  ∃ a n c d m k, e = .returned (.tuple #[.agg #[.bool (decide (z < 0)), .slice a n c, .slice d m k], .int .i64 err]) ∧ Nc w' a n c z.natAbs ∧ Nc w' d m k D ∧ Ext w w'
theorem RetFE.of {w u : World} {z z' : Int} {D D' : Nat} {b : Bool} {a d : Option Addr} {n c m k : Nat} {err err' : Int} (hz : z' = z) (hD : D' = D) (he' : err' = err) (hb : b = decide (z < 0)) (h1 : Nc u a n c z.natAbs) (h2 : Nc u d m k D) (he : Ext w u) :
    RetFE w z' D' err' (.returned (.tuple #[.agg #[.bool b, .slice a n c, .slice d m k], .int .i64 err])) u := by
  subst hz; subst hD; subst hb; subst he'
  exact ⟨a, n, c, d, m, k, rfl, h1, h2, he⟩
/-- The upper part of a number by another one. -/
def mz (z z' : Int) : Int := if z' < 0 then -z else z
theorem mz_of {neg neg' : Bool} {A B : Nat} (hB : B ≠ 0) : wz (neg != neg') A = mz (wz neg A) (wz neg' B) := by
  unfold mz
  cases neg'
  · rw [if_neg (by show ¬ ((B : Nat) : Int) < 0; omega)]
    cases neg <;> rfl
  · rw [if_pos (by show -((B : Nat) : Int) < 0; omega)]
    cases neg
    · rfl
    · show ((A : Nat) : Int) = - -((A : Nat) : Int)
      omega
theorem mz_abs (z z' : Int) : (mz z z').natAbs = z.natAbs := by unfold mz; split <;> omega
def mkz (z z' : Int) : Int := if z' = 0 then 0 else rz (mz z z') z'.natAbs
def mkd (z z' : Int) : Nat := if z' = 0 then 0 else rd (mz z z') z'.natAbs
def mke (z' : Int) : Int := if z' = 0 then 5 else 0
theorem wd_int {n : Int} (h1 : -9223372036854775808 ≤ n) (h2 : n ≤ 9223372036854775807) : dl n.natAbs ≤ 2 := dl_u64 (by omega)
end Go.Proofs.YtgjjalnmigdjgaaGreat
