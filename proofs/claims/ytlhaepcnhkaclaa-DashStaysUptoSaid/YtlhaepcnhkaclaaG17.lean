/- Gauge: boxes. -/
import Derived.Test.YtlhaepcnhkaclaaMG
namespace Go.Proofs.Ytlhaepcnhkaclaa
set_option linter.unusedVariables false
open Go Go.RowKit

/-- The least and the greatest parts of the first points. -/
def bxS (l : List Pt) : Nat → Int × Int × Int × Int
  | 0 => (0, 0, 0, 0)
  | k + 1 => if k = 0 then ((l.getD 0 (0, 0)).1, (l.getD 0 (0, 0)).2, (l.getD 0 (0, 0)).1, (l.getD 0 (0, 0)).2) else
    (min (bxS l k).1 (l.getD k (0, 0)).1, min (bxS l k).2.1 (l.getD k (0, 0)).2, max (bxS l k).2.2.1 (l.getD k (0, 0)).1, max (bxS l k).2.2.2 (l.getD k (0, 0)).2)
theorem bxS_one {l : List Pt} (h : 0 < l.length) : bxS l 1 = (l[0].1, l[0].2, l[0].1, l[0].2) := by
  show (if (0 : Nat) = 0 then _ else _) = _
  rw [if_pos rfl, List.getD_eq_getElem?_getD, List.getElem?_eq_getElem h]
  rfl
theorem bxS_succ {l : List Pt} {k : Nat} (h : k < l.length) (h0 : k ≠ 0) : bxS l (k + 1) = (min (bxS l k).1 l[k].1, min (bxS l k).2.1 l[k].2, max (bxS l k).2.2.1 l[k].1, max (bxS l k).2.2.2 l[k].2) := by
  show (if k = 0 then _ else _) = _
  rw [if_neg h0, List.getD_eq_getElem?_getD, List.getElem?_eq_getElem h]
  rfl
/-- What the call hands back. -/
def boxV (l : List Pt) (n : Nat) : Value := .tuple #[.agg #[.int .i64 (bxS l n).1, .int .i64 (bxS l n).2.1], .agg #[.int .i64 (bxS l n).2.2.1, .int .i64 (bxS l n).2.2.2], .bool (decide (0 < n))]

end Go.Proofs.Ytlhaepcnhkaclaa
