/- The program's fractions (frac): parts, what is reduced. -/
import Derived.Test.YtmibjfkpchncgaaGreatM5
import Derived.Test.YtmibjfkpchncgaaGreatM6
namespace Go.Proofs.YtmibjfkpchncgaaGreat
set_option linter.unusedVariables false
open Go Go.RowKit

theorem bl_three {w : World} {g : Nat} {v0 v1 v2 : Value} (h : Bl w g #[v0, v1, v2]) : ∀ j v, (#[v0, v1, v2] : Array Value).toList[j]? = some v → w.cell? ⟨g, j, none⟩ = some v := by
  intro j v hv
  rw [h j]
  simpa using hv
/-- The call hands back a fraction in its own words: a sign, an upper and a lower part. -/
def RetF (w : World) (z : Int) (D : Nat) (e : Ending) (w' : World) : Prop :=
  ∃ a n c d m k, e = .returned (.agg #[.bool (decide (z < 0)), .slice a n c, .slice d m k]) ∧ Nc w' a n c z.natAbs ∧ Nc w' d m k D ∧ Ext w w'
theorem RetF.of {w u : World} {z z' : Int} {D D' : Nat} {b : Bool} {a d : Option Addr} {n c m k : Nat} (hz : z' = z) (hD : D' = D) (hb : b = decide (z < 0)) (h1 : Nc u a n c z.natAbs) (h2 : Nc u d m k D) (he : Ext w u) : RetF w z' D' (.returned (.agg #[.bool b, .slice a n c, .slice d m k])) u := by
  subst hz; subst hD; subst hb
  exact ⟨a, n, c, d, m, k, rfl, h1, h2, he⟩
theorem dl_pos {V : Nat} (h : V ≠ 0) : 0 < dl V := by
  rcases Nat.eq_zero_or_pos (dl V) with h1 | h1
  · exact absurd (dl_eq_zero.1 h1) h
  · exact h1

end Go.Proofs.YtmibjfkpchncgaaGreat
