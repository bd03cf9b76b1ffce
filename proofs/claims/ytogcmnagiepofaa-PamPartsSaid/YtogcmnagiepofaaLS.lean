/- Arguments that are parts of rasters. -/
import Derived.Test.YtogcmnagiepofaaLR
namespace Go.Proofs.Ytogcmnagiepofaa
open Go Go.RowKit Go.ChangeShapes Go.WideShapes Go.ChangeAt Go.Deep
set_option linter.unusedVariables false

theorem lsP : Try.prog.cellsOf 71 = 4 := by kernel_rfl
section
variable {H : Type} {enc : TypeId × Value → H} {W : World} {spare : Nat → Bool} {held : Bool} {base : Nat}
set_option maxRecDepth 100000 in
theorem part_arg {r : Reach} {b0 : Nat} {v : Value} {d : DataW H} {p : List MemPlace} (hv : Value.okWide Try.prog W r b0 71 v) (h : DataW.Trod enc Try.prog W base spare held 71 v d p) :
    ∃ (x y z t : Int), v = .agg #[.int .i64 x, .int .i64 y, .int .i64 z, .int .i64 t] ∧ (Lit.int .i64 x).wf = true ∧ (Lit.int .i64 y).wf = true ∧ (Lit.int .i64 z).wf = true ∧ (Lit.int .i64 t).wf = true := by
  obtain ⟨c0, c1, c2, c3, y0, y1, y2, y3, n, rfl, hd, _, t0, t1, t2, t3⟩ := Go.Joins.open_agg4 Try.underlying71 (by kernel_rfl) lsP hv h
  obtain ⟨x0, h0, _, w0⟩ := DataW.trod_int Try.underlying3 t0
  obtain ⟨x1, h1, _, w1⟩ := DataW.trod_int Try.underlying3 t1
  obtain ⟨x2, h2, _, w2⟩ := DataW.trod_int Try.underlying3 t2
  obtain ⟨x3, h3, _, w3⟩ := DataW.trod_int Try.underlying3 t3
  cases h0; cases h1; cases h2; cases h3
  exact ⟨x0, x1, x2, x3, rfl, w0, w1, w2, w3⟩
end
end Go.Proofs.Ytogcmnagiepofaa
