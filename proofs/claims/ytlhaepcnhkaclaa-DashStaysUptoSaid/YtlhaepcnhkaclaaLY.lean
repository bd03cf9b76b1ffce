/- Arguments that are lines. -/
import Derived.Test.YtlhaepcnhkaclaaLL
namespace Go.Proofs.Ytlhaepcnhkaclaa
open Go Go.RowKit Go.ChangeShapes Go.WideShapes Go.ChangeAt Go.Deep
set_option linter.unusedVariables false

theorem lyL : Try.prog.cellsOf 24 = 2 := by kernel_rfl
section
variable {H : Type} {enc : TypeId × Value → H} {W : World} {spare : Nat → Bool} {held : Bool} {base : Nat}
set_option maxRecDepth 100000 in
theorem line_arg {r : Reach} {b0 : Nat} {v : Value} {d : DataW H} {p : List MemPlace} (hv : Value.okWide Try.prog W r b0 24 v) (h : DataW.Trod enc Try.prog W base spare held 24 v d p) :
    ∃ (a : Option Addr) (n cap : Nat) (l : List (Int × Int)) (g : Bool), v = .agg #[.slice a n cap, .bool g] ∧ SlP W a n cap l ∧ (∀ p ∈ l, True) ∧ n ≤ Rows.uptoBulk d := by
  obtain ⟨c0, c1, y0, y1, n, rfl, hd, _, t0, t1⟩ := Go.Joins.open_agg2 Try.underlying24 (by kernel_rfl) lyL hv h
  obtain ⟨a, m, cap, l, hc, hs, hb⟩ := points_cells t0
  obtain ⟨g, hg, _⟩ := DataW.trod_bool Try.underlying4 t1
  cases hg
  simp only [List.cons.injEq, and_true] at hc
  subst hc
  refine ⟨a, m, cap, l, g, rfl, hs, fun _ _ => trivial, ?_⟩
  rw [hd]
  simp only [Rows.uptoBulk, Rows.uptoBulkAll]
  omega
end
end Go.Proofs.Ytlhaepcnhkaclaa
