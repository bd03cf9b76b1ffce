/- Arguments that are whole numbers, fractions. -/
import Derived.Test.YtgjjalnmigdjgaaGreatM7
import Derived.ChangeSame
namespace Go.Proofs.YtgjjalnmigdjgaaGreat
open Go Go.RowKit Go.ChangeShapes Go.WideShapes Go.ChangeAt
set_option linter.unusedVariables false
theorem lf32 : Tryz.prog.cellsOf 98 = 1 := by kernel_rfl
theorem lfb : Tryz.prog.cellsOf 4 = 1 := by kernel_rfl
theorem lfs : Tryz.prog.cellsOf 25 = 1 := by kernel_rfl
theorem lfW : Tryz.prog.cellsOf 27 = 2 := by kernel_rfl
theorem lfF : Tryz.prog.cellsOf 29 = 3 := by kernel_rfl
section
variable {H : Type} {enc : TypeId × Value → H} {W : World} {spare : Nat → Bool} {held : Bool} {base : Nat}
theorem list2 {α : Type} {l : List α} (h : l.length = 2) : ∃ a b, l = [a, b] := by
  match l, h with
  | [a, b], _ => exact ⟨a, b, rfl⟩
theorem list3 {α : Type} {l : List α} (h : l.length = 3) : ∃ a b c, l = [a, b, c] := by
  match l, h with
  | [a, b, c], _ => exact ⟨a, b, c, rfl⟩
set_option maxRecDepth 100000 in
theorem whole_cells {fuel : Nat} {cs : List Value} {x : DataW H × List MemPlace} (h : DataW.trod enc Tryz.prog W base spare held fuel 27 cs = some x) :
    ∃ (g : Bool) (a : Option Addr) (n cap : Nat) (l : List Nat), cs = [.bool g, .slice a n cap] ∧ Sl W a n cap (ints .u32 l) ∧ (∀ y ∈ l, (Lit.int .u32 (y : Int)).wf = true) ∧ n ≤ Rows.uptoBulk x.1 := by
  obtain ⟨y0, y1, m, rfl, hl, t0, t1⟩ := trod_struct2 Tryz.underlying27 h
  rw [lfW] at hl
  obtain ⟨c0, c1, rfl⟩ := list2 hl
  have t0' : DataW.trod enc Tryz.prog W base spare held m 4 [c0] = some y0 := by simpa [lfb] using t0
  have t1' : DataW.trod enc Tryz.prog W base spare held m 25 [c1] = some y1 := by simpa [lfs] using t1
  obtain ⟨g, hg, _⟩ := DataW.trod_bool Tryz.underlying4 t0'
  obtain ⟨a, n, cap, l, hc, hs, hw, hb⟩ := nums_cell Tryz.underlying25 Tryz.underlying98 lf32 (fun z h => wf_u32 h) t1'
  cases hg
  subst hc
  refine ⟨g, a, n, cap, l, rfl, hs, hw, ?_⟩
  simp only [Rows.uptoBulk, Rows.uptoBulkAll]
  omega
set_option maxRecDepth 100000 in
theorem frac_cells {fuel : Nat} {cs : List Value} {x : DataW H × List MemPlace} (h : DataW.trod enc Tryz.prog W base spare held fuel 29 cs = some x) :
    ∃ (g : Bool) (a : Option Addr) (n cap : Nat) (l : List Nat) (d : Option Addr) (m k : Nat) (e : List Nat), cs = [.bool g, .slice a n cap, .slice d m k] ∧ Sl W a n cap (ints .u32 l) ∧ (∀ y ∈ l, (Lit.int .u32 (y : Int)).wf = true) ∧ n ≤ Rows.uptoBulk x.1 ∧
      Sl W d m k (ints .u32 e) ∧ (∀ y ∈ e, (Lit.int .u32 (y : Int)).wf = true) ∧ m ≤ Rows.uptoBulk x.1 := by
  obtain ⟨y0, y1, f, rfl, hl, t0, t1⟩ := trod_struct2 Tryz.underlying29 h
  rw [lfF] at hl
  obtain ⟨c0, c1, c2, rfl⟩ := list3 hl
  have t0' : DataW.trod enc Tryz.prog W base spare held f 27 [c0, c1] = some y0 := by simpa [lfW] using t0
  have t1' : DataW.trod enc Tryz.prog W base spare held f 25 [c2] = some y1 := by simpa [lfs] using t1
  obtain ⟨g, a, n, cap, l, hc, hs, hw, hb⟩ := whole_cells t0'
  obtain ⟨d, m, k, e, hd, hs', hw', hb'⟩ := nums_cell Tryz.underlying25 Tryz.underlying98 lf32 (fun z h => wf_u32 h) t1'
  simp only [List.cons.injEq, and_true] at hc
  obtain ⟨rfl, rfl⟩ := hc
  subst hd
  refine ⟨g, a, n, cap, l, d, m, k, e, rfl, hs, hw, ?_, hs', hw', ?_⟩ <;> (simp only [Rows.uptoBulk, Rows.uptoBulkAll]; omega)
end
end Go.Proofs.YtgjjalnmigdjgaaGreat
