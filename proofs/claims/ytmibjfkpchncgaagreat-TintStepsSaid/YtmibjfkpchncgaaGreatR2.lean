/- Rasters: sameness, cells. -/
import Derived.Test.YtmibjfkpchncgaaGreatR1
import Derived.Test.YtmibjfkpchncgaaGreatM5
import Derived.Deep.DeepCutAuto
namespace Go.Proofs.YtmibjfkpchncgaaGreat
set_option linter.unusedVariables false
open Go Go.RowKit

theorem take_same {α : Type} {l l' : List α} {j : Nat} (h : l.take j = l'.take j) (hj : j < l.length) (hj' : j < l'.length) (he : l[j] = l'[j]) : l.take (j + 1) = l'.take (j + 1) := by
  rw [List.take_succ_eq_append_getElem hj, List.take_succ_eq_append_getElem hj', h, he]
theorem same_take {α : Type} {l l' : List α} {n : Nat} (h : l.take n = l'.take n) (hn : l.length = n) (hn' : l'.length = n) : l = l' := by
  rwa [List.take_of_length_le (by omega), List.take_of_length_le (by omega)] at h
theorem ite4 {P0 P1 P2 P3 : Prop} [Decidable P0] [Decidable P1] [Decidable P2] [Decidable P3] {α : Type} {x y : α} (h : ¬ (P0 ∧ P1 ∧ P2 ∧ P3)) : (if P0 then if P1 then if P2 then if P3 then x else y else y else y else y) = y := by
  by_cases h0 : P0
  · rw [if_pos h0]
    by_cases h1 : P1
    · rw [if_pos h1]
      by_cases h2 : P2
      · rw [if_pos h2, if_neg (fun h3 => h ⟨h0, h1, h2, h3⟩)]
      · rw [if_neg h2]
    · rw [if_neg h1]
  · rw [if_neg h0]
theorem col_eq {p q : Col} (h0 : p.1 = q.1) (h1 : p.2.1 = q.2.1) (h2 : p.2.2.1 = q.2.2.1) (h3 : p.2.2.2 = q.2.2.2) : p = q := by
  obtain ⟨a, b, c, d⟩ := p
  obtain ⟨a', b', c', d'⟩ := q
  simp only at *
  subst h0; subst h1; subst h2; subst h3; rfl

end Go.Proofs.YtmibjfkpchncgaaGreat
