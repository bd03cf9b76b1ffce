/- Arguments that are rows of points, lines. -/
import Derived.Test.YtmibjfkpchncgaaGreatLP
import Derived.Test.YtmibjfkpchncgaaGreatPT
import Derived.Deep.Slices
namespace Go.Proofs.YtmibjfkpchncgaaGreat
open Go Go.RowKit Go.ChangeShapes Go.WideShapes Go.ChangeAt Go.Deep
set_option linter.unusedVariables false

theorem llI : Tryz.prog.cellsOf 3 = 1 := by kernel_rfl
theorem SlP.mk {w : World} {b off n cap : Nat} {l : List (Int × Int)} (hl : l.length = n) (hn : n ≤ cap) (hc : cap ≤ maxLen) (h : ∀ (i : Nat) (hi : i < l.length), w.cell? ⟨b, off + i * 2, none⟩ = some (.int .i64 l[i].1) ∧ w.cell? ⟨b, off + (i * 2 + 1), none⟩ = some (.int .i64 l[i].2)) : SlP w (some ⟨b, off, none⟩) n cap l := by
  refine ⟨by rw [pts_len, hl], hn, hc, fun _ => ⟨b, off, rfl, fun t u hu => ?_⟩⟩
  have ht : t < l.length * 2 := by
    have := (List.getElem?_eq_some_iff.1 hu).1
    rwa [pts_len] at this
  have hi : t / 2 < l.length := by omega
  have hg := pts_get l (t / 2) hi
  have hh := h (t / 2) hi
  rcases Nat.mod_two_eq_zero_or_one t with h0 | h0
  · have e : t = t / 2 * 2 := by omega
    rw [e] at hu ⊢
    rw [hg.1] at hu
    rw [← hu]
    exact hh.1
  · have e : t = t / 2 * 2 + 1 := by omega
    rw [e] at hu ⊢
    rw [hg.2] at hu
    rw [← hu]
    exact hh.2
section
variable {H : Type} {enc : TypeId × Value → H} {W : World} {spare : Nat → Bool} {held : Bool} {base : Nat}
set_option maxRecDepth 100000 in
theorem point_cells {fuel : Nat} {cs : List Value} {x : DataW H × List MemPlace} (h : DataW.trod enc Tryz.prog W base spare held fuel 25 cs = some x) : ∃ p : Int × Int, cs = [.int .i64 p.1, .int .i64 p.2] := by
  obtain ⟨y0, y1, m, rfl, hl, t0, t1⟩ := trod_struct2 Tryz.underlying25 h
  rw [lpP] at hl
  match cs, hl with
  | [c0, c1], _ =>
    have t0' : DataW.trod enc Tryz.prog W base spare held m 3 [c0] = some y0 := by simpa [llI] using t0
    have t1' : DataW.trod enc Tryz.prog W base spare held m 3 [c1] = some y1 := by simpa [llI] using t1
    obtain ⟨x, hx, _, wx⟩ := DataW.trod_int Tryz.underlying3 t0'
    obtain ⟨y, hy, _, wy⟩ := DataW.trod_int Tryz.underlying3 t1'
    cases hx; cases hy
    exact ⟨(x, y), rfl⟩
end
end Go.Proofs.YtmibjfkpchncgaaGreat
