/- Arguments that are sets of points told by ways, and spots. -/
import Derived.Test.YtgjjalnmigdjgaaGreatLL
import Derived.Test.YtgjjalnmigdjgaaGreatLP
import Derived.Test.YtgjjalnmigdjgaaGreatLF
import Derived.Test.YtgjjalnmigdjgaaGreatU5
import Derived.Lib.SmallJoins
namespace Go.Proofs.YtgjjalnmigdjgaaGreat
open Go Go.RowKit Go.ChangeShapes Go.WideShapes Go.ChangeAt Go.Deep
set_option linter.unusedVariables false
set_option linter.unusedSimpArgs false
theorem lgS : Tryz.prog.cellsOf 53 = 4 := by kernel_rfl
theorem lgI : Tryz.prog.cellsOf 3 = 1 := by kernel_rfl
theorem lgO : Tryz.prog.cellsOf 31 = 6 := by kernel_rfl
theorem SlG.mk {w : World} {b off n cap : Nat} {l : List Sg} (hl : l.length = n) (hn : n ≤ cap) (hc : cap ≤ maxLen) (h : ∀ (i : Nat) (hi : i < l.length), w.cell? ⟨b, off + i * 4, none⟩ = some (.int .i64 l[i].1.1) ∧ w.cell? ⟨b, off + (i * 4 + 1), none⟩ = some (.int .i64 l[i].1.2) ∧ w.cell? ⟨b, off + (i * 4 + 2), none⟩ = some (.int .i64 l[i].2.1) ∧ w.cell? ⟨b, off + (i * 4 + 3), none⟩ = some (.int .i64 l[i].2.2)) : SlG w (some ⟨b, off, none⟩) n cap l := by
  refine ⟨by rw [sgs_len, hl], hn, hc, fun _ => ⟨b, off, rfl, fun t u hu => ?_⟩⟩
  have ht : t < l.length * 4 := by
    have := (List.getElem?_eq_some_iff.1 hu).1
    rwa [sgs_len] at this
  have hi : t / 4 < l.length := by omega
  obtain ⟨g0, g1, g2, g3⟩ := sgs_get l (t / 4) hi
  obtain ⟨k0, k1, k2, k3⟩ := h (t / 4) hi
  rcases (by omega : t % 4 = 0 ∨ t % 4 = 1 ∨ t % 4 = 2 ∨ t % 4 = 3) with h0 | h0 | h0 | h0
  · have e : t = t / 4 * 4 := by omega
    rw [e] at hu ⊢
    rw [g0] at hu
    rw [← hu]; exact k0
  · have e : t = t / 4 * 4 + 1 := by omega
    rw [e] at hu ⊢
    rw [g1] at hu
    rw [← hu]; exact k1
  · have e : t = t / 4 * 4 + 2 := by omega
    rw [e] at hu ⊢
    rw [g2] at hu
    rw [← hu]; exact k2
  · have e : t = t / 4 * 4 + 3 := by omega
    rw [e] at hu ⊢
    rw [g3] at hu
    rw [← hu]; exact k3
theorem list6 {α : Type} {l : List α} (h : l.length = 6) : ∃ a b c d e f, l = [a, b, c, d, e, f] := by
  match l, h with
  | [a, b, c, d, e, f], _ => exact ⟨a, b, c, d, e, f, rfl⟩
section
variable {H : Type} {enc : TypeId × Value → H} {W : World} {spare : Nat → Bool} {held : Bool} {base : Nat}
end
end Go.Proofs.YtgjjalnmigdjgaaGreat
