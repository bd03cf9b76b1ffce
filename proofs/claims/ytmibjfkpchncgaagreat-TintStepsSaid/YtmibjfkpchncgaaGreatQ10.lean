/- The program's fractions (frac): sums. -/
import Derived.Test.YtmibjfkpchncgaaGreatQ9
import Derived.Deep.DeepCutAuto
namespace Go.Proofs.YtmibjfkpchncgaaGreat
set_option linter.unusedVariables false
open Go Go.RowKit

theorem Nc.wf {w : World} {d : Option Addr} {m k D : Nat} (h : Nc w d m k D) (hb : dl D ≤ 549755813888) : WhIn w false d m k (D : Int) :=
  (h.nu (by omega)).wh (by rw [h.len]; exact hb)
/-- A sum's parts. -/
def az (z : Int) (D : Nat) (z' : Int) (D' : Nat) : Int := if D = D' then z + z' else z * (D' : Int) + z' * (D : Int)
def ad (D D' : Nat) : Nat := if D = D' then D else D * D'

end Go.Proofs.YtmibjfkpchncgaaGreat
