/- The argument of FracDivs: two fractions, and two numbers. -/
import Derived.Test.YtcipcpbjkcpgdaaLF
import Derived.Lib.SmallJoins
namespace Go.Proofs.Ytcipcpbjkcpgdaa
open Go Go.RowKit Go.ChangeShapes Go.WideShapes Go.ChangeAt Go.Joins
set_option linter.unusedVariables false

theorem lfi : Try.prog.cellsOf 3 = 1 := by kernel_rfl
theorem lfQ : Try.prog.cellsOf 81 = 8 := by kernel_rfl
theorem list8 {α : Type} {l : List α} (h : l.length = 8) : ∃ a b c d e f g i, l = [a, b, c, d, e, f, g, i] := by
  match l, h with
  | [a, b, c, d, e, f, g, i], _ => exact ⟨a, b, c, d, e, f, g, i, rfl⟩

section
variable {H : Type} {enc : TypeId × Value → H} {W : World} {spare : Nat → Bool} {held : Bool} {base : Nat}
set_option maxRecDepth 100000 in
theorem quad_arg {r : Reach} {b0 : Nat} {v : Value} {x : DataW H} {p : List MemPlace} (hv : Value.okWide Try.prog W r b0 81 v) (h : DataW.Trod enc Try.prog W base spare held 81 v x p) :
    ∃ (ga : Bool) (aa : Option Addr) (na ca : Nat) (la : List Nat) (da : Option Addr) (ma ka : Nat) (ea : List Nat) (gb : Bool) (ab : Option Addr) (nb cb : Nat) (lb : List Nat) (db : Option Addr) (mb kb : Nat) (eb : List Nat) (ni di : Int),
      v = .agg #[.bool ga, .slice aa na ca, .slice da ma ka, .bool gb, .slice ab nb cb, .slice db mb kb, .int .i64 ni, .int .i64 di] ∧
      Sl W aa na ca (ints .u32 la) ∧ (∀ y ∈ la, (Lit.int .u32 (y : Int)).wf = true) ∧ na ≤ Rows.uptoBulk x ∧ Sl W da ma ka (ints .u32 ea) ∧ (∀ y ∈ ea, (Lit.int .u32 (y : Int)).wf = true) ∧ ma ≤ Rows.uptoBulk x ∧
      Sl W ab nb cb (ints .u32 lb) ∧ (∀ y ∈ lb, (Lit.int .u32 (y : Int)).wf = true) ∧ nb ≤ Rows.uptoBulk x ∧ Sl W db mb kb (ints .u32 eb) ∧ (∀ y ∈ eb, (Lit.int .u32 (y : Int)).wf = true) ∧ mb ≤ Rows.uptoBulk x ∧
      (Lit.int .i64 ni).wf = true ∧ (Lit.int .i64 di).wf = true := by
  obtain ⟨cs, rfl, hsz⟩ := okWide_struct Try.underlying81 hv
  obtain ⟨fuel, hf⟩ := h
  obtain ⟨y0, y1, y2, y3, f, hx, hl, t0, t1, t2, t3⟩ := trod_struct4 Try.underlying81 hf
  have hl' : cs.toList.length = 8 := by simpa using hsz.trans lfQ
  obtain ⟨c0, c1, c2, c3, c4, c5, c6, c7, hcs⟩ := list8 hl'
  have hcells : (Value.agg cs).cells.toList = [c0, c1, c2, c3, c4, c5, c6, c7] := hcs
  rw [hcells] at t0 t1 t2 t3
  have t0' : DataW.trod enc Try.prog W base spare held f 79 [c0, c1, c2] = some y0 := by simpa [lfF] using t0
  have t1' : DataW.trod enc Try.prog W base spare held f 79 [c3, c4, c5] = some y1 := by simpa [lfF] using t1
  have t2' : DataW.trod enc Try.prog W base spare held f 3 [c6] = some y2 := by simpa [lfi] using t2
  have t3' : DataW.trod enc Try.prog W base spare held f 3 [c7] = some y3 := by simpa [lfi] using t3
  obtain ⟨ga, aa, na, ca, la, da, ma, ka, ea, h0, s1, w1, u1, s2, w2, u2⟩ := frac_cells t0'
  obtain ⟨gb, ab, nb, cb, lb, db, mb, kb, eb, h1, s3, w3, u3, s4, w4, u4⟩ := frac_cells t1'
  obtain ⟨ni, h2, _, wn⟩ := DataW.trod_int Try.underlying3 t2'
  obtain ⟨di, h3, _, wd⟩ := DataW.trod_int Try.underlying3 t3'
  simp only [List.cons.injEq, and_true] at h0 h1 h2 h3
  obtain ⟨rfl, rfl, rfl⟩ := h0
  obtain ⟨rfl, rfl, rfl⟩ := h1
  subst h2
  subst h3
  simp only [Prod.mk.injEq] at hx
  have hb0 : Rows.uptoBulk y0.1 ≤ Rows.uptoBulk x := by rw [hx.1]; simp only [Rows.uptoBulk, Rows.uptoBulkAll]; omega
  have hb1 : Rows.uptoBulk y1.1 ≤ Rows.uptoBulk x := by rw [hx.1]; simp only [Rows.uptoBulk, Rows.uptoBulkAll]; omega
  refine ⟨ga, aa, na, ca, la, da, ma, ka, ea, gb, ab, nb, cb, lb, db, mb, kb, eb, ni, di, ?_, s1, w1, Nat.le_trans u1 hb0, s2, w2, Nat.le_trans u2 hb0, s3, w3, Nat.le_trans u3 hb1, s4, w4, Nat.le_trans u4 hb1, wn, wd⟩
  rw [← Array.toArray_toList (xs := cs), hcs]
end
end Go.Proofs.Ytcipcpbjkcpgdaa
