/- Arguments that are two ints. -/
import Derived.Test.YtogcmnagiepofaaLC
namespace Go.Proofs.Ytogcmnagiepofaa
open Go Go.RowKit Go.ChangeShapes Go.WideShapes Go.ChangeAt Go.Deep
set_option linter.unusedVariables false

theorem ltA : Try.prog.cellsOf 62 = 2 := by kernel_rfl
theorem ltI : Try.prog.cellsOf 3 = 1 := by kernel_rfl
set_option maxRecDepth 100000 in
theorem two_arg {H : Type} {enc : TypeId × Value → H} {W : World} {r : Reach} {b0 : Nat} {spare : Nat → Bool} {held : Bool} {base : Nat} {v : Value} {d : DataW H} {p : List MemPlace} (hv : Value.okWide Try.prog W r b0 62 v) (h : DataW.Trod enc Try.prog W base spare held 62 v d p) :
    ∃ x y : Int, v = .agg #[.int .i64 x, .int .i64 y] ∧ (Lit.int .i64 x).wf = true ∧ (Lit.int .i64 y).wf = true := by
  obtain ⟨cs, rfl, hsz⟩ : ∃ cs, v = .agg cs ∧ cs.size = 2 := by
    simp only [Value.okWide, Try.underlying62] at hv
    obtain ⟨cs, h1, h2, _⟩ := hv
    exact ⟨cs, h1, h2.trans ltA⟩
  obtain ⟨c0, c1, rfl⟩ : ∃ c0 c1, cs = #[c0, c1] := by
    obtain ⟨l⟩ := cs
    match l, hsz with
    | [c0, c1], _ => exact ⟨c0, c1, rfl⟩
  obtain ⟨fuel, hf⟩ := h
  obtain ⟨xs, m, rfl, hx, hl, hlen, hel⟩ := DataW.trod_array Try.underlying62 hf
  have h0 := hel 0 (by omega)
  have h1 := hel 1 (by omega)
  match xs, hlen with
  | [y0, y1], _ =>
    rw [ltI] at h0 h1
    obtain ⟨x, e0, _, wx⟩ := DataW.trod_int Try.underlying3 (show DataW.trod enc Try.prog W base spare held m 3 [c0] = some y0 from h0)
    obtain ⟨y, e1, _, wy⟩ := DataW.trod_int Try.underlying3 (show DataW.trod enc Try.prog W base spare held m 3 [c1] = some y1 from h1)
    cases e0; cases e1
    exact ⟨x, y, rfl, wx, wy⟩

end Go.Proofs.Ytogcmnagiepofaa
