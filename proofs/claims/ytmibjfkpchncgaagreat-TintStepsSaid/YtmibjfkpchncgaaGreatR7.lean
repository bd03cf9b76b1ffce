/- The laws of roots live; the law of common factors: its walk. -/
import Derived.Test.YtmibjfkpchncgaaGreatM6
namespace Go.Proofs.YtmibjfkpchncgaaGreat
set_option linter.unusedVariables false
open Go Go.RowKit

theorem Nc.litAt {w : World} {g : Nat} (hg : g = w.heap.size) (d : Nat) (h : 1 ≤ d) (h2 : d ≤ 4294967295) (e : TypeId) : Nc (w.alloc (.cells #[.int .u32 (d : Int)] e)) (some ⟨g, 0, none⟩) 1 1 d := by
  subst hg; exact Nc.lit1 w d h h2 e
theorem isq_24 : isq 24 = 4 := (isq_uniq (by decide) (by decide)).symm
theorem isq_25 : isq 25 = 5 := (isq_uniq (by decide) (by decide)).symm

end Go.Proofs.YtmibjfkpchncgaaGreat
