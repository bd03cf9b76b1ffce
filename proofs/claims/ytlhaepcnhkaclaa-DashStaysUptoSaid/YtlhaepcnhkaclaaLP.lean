/- Arguments that are points. -/
import Derived.Test.YtlhaepcnhkaclaaM7
import Derived.ChangeSame
namespace Go.Proofs.Ytlhaepcnhkaclaa
open Go Go.RowKit Go.ChangeShapes Go.WideShapes Go.ChangeAt
set_option linter.unusedVariables false

theorem lpP : Try.prog.cellsOf 36 = 2 := by kernel_rfl
section
variable {H : Type} {enc : TypeId × Value → H} {W : World} {spare : Nat → Bool} {held : Bool} {base : Nat}
set_option maxRecDepth 100000 in
theorem point_arg {r : Reach} {b0 : Nat} {v : Value} {d : DataW H} {p : List MemPlace} (hv : Value.okWide Try.prog W r b0 36 v) (h : DataW.Trod enc Try.prog W base spare held 36 v d p) :
    ∃ (x y : Int), v = .agg #[.int .i64 x, .int .i64 y] ∧ (Lit.int .i64 x).wf = true ∧ (Lit.int .i64 y).wf = true := by
  obtain ⟨c0, c1, y0, y1, n, rfl, hd, _, t0, t1⟩ := Go.Joins.open_agg2 Try.underlying36 (by kernel_rfl) lpP hv h
  obtain ⟨x, hx, _, wx⟩ := DataW.trod_int Try.underlying3 t0
  obtain ⟨y, hy, _, wy⟩ := DataW.trod_int Try.underlying3 t1
  cases hx; cases hy
  exact ⟨x, y, rfl, wx, wy⟩
end
end Go.Proofs.Ytlhaepcnhkaclaa
