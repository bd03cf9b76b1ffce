/- Arguments that are sets of cells. -/
import Derived.Test.YtogcmnagiepofaaLP
import Derived.Test.YtogcmnagiepofaaS1
import Derived.Lib.SmallJoins
namespace Go.Proofs.Ytogcmnagiepofaa
open Go Go.RowKit Go.ChangeShapes Go.WideShapes Go.ChangeAt Go.Deep
set_option linter.unusedVariables false

theorem lcB : Try.prog.cellsOf 4 = 1 := by kernel_rfl
theorem lcC : Try.prog.cellsOf 44 = 3 := by kernel_rfl
section
variable {H : Type} {enc : TypeId × Value → H} {W : World} {spare : Nat → Bool} {held : Bool} {base : Nat}
set_option maxRecDepth 100000 in
theorem bools_cells {fuel : Nat} {cs : List Value} {x : DataW H × List MemPlace} (h : DataW.trod enc Try.prog W base spare held fuel 42 cs = some x) :
    ∃ (a : Option Addr) (n cap : Nat) (l : List Bool), cs = [.slice a n cap] ∧ SlB W a n cap l ∧ n ≤ Rows.uptoBulk x.1 := by
  rcases open_slice Try.underlying42 h with ⟨rfl, rfl⟩ | ⟨a, len, cap, m, n, D, Pl, rfl, hb, hl, hm, hmm, hx, hi⟩
  · exact ⟨none, 0, 0, [], rfl, SlK.nil 1 W, Nat.zero_le _⟩
  · rw [lcB] at hi
    have hlm : len ≤ m := by rw [hmm]; split <;> omega
    obtain ⟨f, hf⟩ := choose_lt (n := m) (p := fun i (q : Bool) => W.cell? (a.add i) = some (.bool q)) (fun i him => by
      obtain ⟨cs', hc, ht⟩ := hi i him
      obtain ⟨b, rfl, _⟩ := DataW.trod_bool Try.underlying4 ht
      obtain ⟨_, _, hat⟩ := World.cells?_some hc
      have := hat 0 (by omega)
      rw [add_add, Nat.add_zero, Nat.mul_one] at this
      exact ⟨b, this⟩)
    have hbk : len ≤ Rows.uptoBulk x.1 := by
      rw [hx]
      simp only [Rows.uptoBulk]
      have := bulk_len (H := H) ((List.range len).map D)
      rw [List.length_map, List.length_range] at this
      omega
    rcases Nat.eq_zero_or_pos len with h0 | h0
    · subst h0
      exact ⟨some a, 0, cap, [], rfl, ⟨rfl, Nat.zero_le _, hm, fun h => absurd h (by omega)⟩, Nat.zero_le _⟩
    · have h1 := hf 0 (by omega)
      have h2 : a.add 0 = a := by simp [Addr.add]
      rw [h2] at h1
      have hs := spot_none h1
      refine ⟨some a, len, cap, (List.range len).map f, rfl, ?_, hbk⟩
      rw [hs]
      have hadd : ∀ j, a.add j = ⟨a.block, a.off + j, none⟩ := fun j => by
        rw [hs]
        unfold Addr.add
        by_cases hz : j = 0
        · subst hz; simp
        · simp [hz]
      refine ⟨by rw [bools_len]; simp, hl, hm, fun _ => ⟨a.block, a.off, rfl, fun i u hu => ?_⟩⟩
      have hi3 : i < len := by
        have := (List.getElem?_eq_some_iff.1 hu).1
        rw [bools_len] at this
        simpa using this
      have hb2 := bools_get ((List.range len).map f) i (by simpa using hi3)
      rw [hb2] at hu
      rw [← hu]
      have := hf i (by omega)
      rw [hadd] at this
      simpa using this
set_option maxRecDepth 100000 in
theorem cells_arg {r : Reach} {b0 : Nat} {v : Value} {d : DataW H} {p : List MemPlace} (hv : Value.okWide Try.prog W r b0 44 v) (h : DataW.Trod enc Try.prog W base spare held 44 v d p) :
    ∃ (x y : Int) (a : Option Addr) (n cap : Nat) (l : List Bool), v = .agg #[.int .i64 x, .int .i64 y, .slice a n cap] ∧ (Lit.int .i64 x).wf = true ∧ (Lit.int .i64 y).wf = true ∧ SlB W a n cap l ∧ n ≤ Rows.uptoBulk d := by
  obtain ⟨c0, c1, c2, y0, y1, y2, n, rfl, hd, _, t0, t1, t2⟩ := Go.Joins.open_agg3 Try.underlying44 (by kernel_rfl) lcC hv h
  obtain ⟨x, hx, _, wx⟩ := DataW.trod_int Try.underlying3 t0
  obtain ⟨y, hy, _, wy⟩ := DataW.trod_int Try.underlying3 t1
  obtain ⟨a, m, cap, l, hc, hs, hb⟩ := bools_cells t2
  cases hx; cases hy
  simp only [List.cons.injEq, and_true] at hc
  subst hc
  refine ⟨x, y, a, m, cap, l, rfl, wx, wy, hs, ?_⟩
  rw [hd]
  simp only [Rows.uptoBulk, Rows.uptoBulkAll]
  omega
end
end Go.Proofs.Ytogcmnagiepofaa
