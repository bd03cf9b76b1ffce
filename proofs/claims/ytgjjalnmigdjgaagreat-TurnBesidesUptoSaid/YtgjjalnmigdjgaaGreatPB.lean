/- Laws on blocks, rows and appends, of elements of several cells. -/
import Derived.Test.YtgjjalnmigdjgaaGreatPT
import Derived.OwnWalk
namespace Go.Proofs.YtgjjalnmigdjgaaGreat
set_option linter.unusedVariables false
open Go Go.RowKit
/-- A row is as it was where another block was written. -/
theorem own_but {w u : World} {B e K m k : Nat} {v : Value} {xs : List Value} (h : w.ownsRow B e K v m xs) (hb : But w u k) (hk : ∀ r, v.ownBlock = some r → r ≠ k) : u.ownsRow B e K v m xs := by
  obtain ⟨h1, h2⟩ := h
  refine ⟨h1, ?_⟩
  rcases h2 with h2 | ⟨g, cap, cur, rfl, hg, hh, hn, hm, hs, hx⟩
  · exact .inl h2
  · have hlt : g < w.heap.size := by
      rcases Nat.lt_or_ge g w.heap.size with h | h
      · exact h
      · rw [Array.getElem?_eq_none h] at hh; cases hh
    exact .inr ⟨g, cap, cur, rfl, hg, by rw [hb.2 g hlt (hk g rfl)]; exact hh, hn, hm, hs, hx⟩
theorem own_ext {w u : World} {B e K m : Nat} {v : Value} {xs : List Value} (h : w.ownsRow B e K v m xs) (he : Ext w u) : u.ownsRow B e K v m xs := by
  obtain ⟨h1, h2⟩ := h
  refine ⟨h1, ?_⟩
  rcases h2 with h2 | ⟨g, cap, cur, hv, hg, hh, hn, hm, hs, hx⟩
  · exact .inl h2
  · have hlt : g < w.heap.size := by
      rcases Nat.lt_or_ge g w.heap.size with h | h
      · exact h
      · rw [Array.getElem?_eq_none h] at hh; cases hh
    exact .inr ⟨g, cap, cur, hv, hg, by rw [he.block g hlt]; exact hh, hn, hm, hs, hx⟩
/-- A row of no elements. -/
theorem own_nil (w : World) (B e K : Nat) : w.ownsRow B e K (.slice none 0 0) 0 [] := ⟨by simp, .inl ⟨rfl, rfl⟩⟩
end Go.Proofs.YtgjjalnmigdjgaaGreat
