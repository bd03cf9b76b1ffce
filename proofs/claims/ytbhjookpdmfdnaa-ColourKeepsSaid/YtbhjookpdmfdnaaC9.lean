/- The law of what colours keep: plain facts, and its walk. -/
import Derived.Test.YtbhjookpdmfdnaaC6
import Derived.Test.YtbhjookpdmfdnaaC7
namespace Go.Proofs.Ytbhjookpdmfdnaa
set_option linter.unusedVariables false
open Go Go.RowKit

theorem part_mono {x y : Int} (h : x ≤ y) : part x ≤ part y := by
  unfold part
  split
  · omega
  · split
    · split
      · omega
      · split
        · omega
        · omega
    · split
      · omega
      · split
        · omega
        · omega

theorem part_full (r : Nat) (h : r ≤ 255) : part ((r : Int) * 255) = r := by
  unfold part
  split
  · omega
  · split <;> omega

theorem part_none (r : Int) (h : r = 0) : part r = 0 := by subst h; rfl

theorem fadr_full (r b : Nat) (h : r ≤ 255) : fadr 255 r b = r := by unfold fadr; exact part_full r h
theorem fadr_none (r b : Nat) : fadr 0 r b = 0 := by unfold fadr; exact part_none _ (by omega)
theorem mixr_none (r b : Nat) (h : r ≤ 255) : mixr 0 r b = r := by
  unfold mixr
  rw [show (r : Int) * (255 - ((0 : Nat) : Int)) + (b : Int) * ((0 : Nat) : Int) = (r : Int) * 255 by omega]
  exact part_full r h
theorem mixr_full (r b : Nat) (h : b ≤ 255) : mixr 255 r b = b := by
  unfold mixr
  rw [show (r : Int) * (255 - ((255 : Nat) : Int)) + (b : Int) * ((255 : Nat) : Int) = (b : Int) * 255 by omega]
  exact part_full b h
theorem fadr_mono (n r a b b' : Nat) (h : r ≤ a) : fadr n r b ≤ fadr n a b' := by
  unfold fadr
  exact part_mono (Int.mul_le_mul_of_nonneg_right (by omega) (by omega))
theorem covr_mono (n r a b b' : Nat) (h : r ≤ a) (h' : b ≤ b') : covr n r b ≤ covr n a b' := by
  have := part_mono (x := (b : Int) * (n : Int)) (y := (b' : Int) * (n : Int)) (Int.mul_le_mul_of_nonneg_right (by omega) (by omega))
  unfold covr
  omega
theorem weigh_le (a r b : Nat) (h : r ≤ 255) (ha : a ≤ 255) : fadr a r b ≤ a := by
  have := part_mono (x := (r : Int) * (a : Int)) (y := (a : Int) * 255) (by rw [Int.mul_comm]; exact Int.mul_le_mul_of_nonneg_left (by omega) (by omega))
  rw [part_full a ha] at this
  exact this
theorem covr_all (r b : Nat) (h : r ≤ 255) : covr 0 r b = r := by
  have : part ((b : Int) * ((0 : Nat) : Int)) = 0 := part_none _ (by omega)
  unfold covr
  rw [this]; omega
theorem covr_over_none (n r : Nat) (h : r ≤ 255) : covr n r 0 = r := by
  have : part (((0 : Nat) : Int) * (n : Int)) = 0 := part_none _ (by omega)
  unfold covr
  rw [this]; omega
theorem covr_more (n r b : Nat) (h : r ≤ 255) : r ≤ covr n r b := by unfold covr; omega

/-- A block of four bytes of one's own. -/
def Own (n : Nat) (w : World) (g r x b a : Nat) : Prop := n ≤ g ∧ g < w.heap.size ∧ Four w g r x b a ∧ ∀ j, w.frozen? ⟨g, j, none⟩ = false
theorem Own.ext {n g r x b a : Nat} {w u : World} (h : Own n w g r x b a) (he : Ext w u) : Own n u g r x b a :=
  ⟨h.1, Nat.lt_of_lt_of_le h.2.1 he.size, h.2.2.1.below he h.2.1, fun j => (he.frozen (p := ⟨g, j, none⟩) h.2.1).trans (h.2.2.2 j)⟩
theorem Own.new {n : Nat} {w : World} (hs : n ≤ w.heap.size) (t : TypeId) : Own n (w.alloc (.cells #[.int .u8 0, .int .u8 0, .int .u8 0, .int .u8 0] t)) w.heap.size 0 0 0 0 :=
  ⟨hs, by simp, ⟨by go_simp; try rfl, by go_simp; try rfl, by go_simp; try rfl, by go_simp; try rfl⟩, fun j => by go_simp⟩
/-- Four stores into a block. -/
def puts (w : World) (g r x b a : Nat) : World :=
  (((w.setCell ⟨g, 0, none⟩ (.int .u8 (r : Int))).setCell ⟨g, 1, none⟩ (.int .u8 (x : Int))).setCell ⟨g, 2, none⟩ (.int .u8 (b : Int))).setCell ⟨g, 3, none⟩ (.int .u8 (a : Int))
theorem puts_below {n : Nat} (w : World) (g r x b a : Nat) (hg : n ≤ g) : Below n w (puts w g r x b a) :=
  (((Below.setCell (Below.refl _ _) hg _).setCell hg _).setCell hg _).setCell hg _
theorem Own.put {n g r x b a : Nat} {w : World} (h : Own n w g r x b a) (r' x' b' a' : Nat) : Own n (puts w g r' x' b' a') g r' x' b' a' := by
  obtain ⟨h1, h2, ⟨k0, k1, k2, k3⟩, hz⟩ := h
  have z0 := hz 0
  have z1 := hz 1
  have z2 := hz 2
  have z3 := hz 3
  refine ⟨h1, Nat.lt_of_lt_of_le h2 (puts_below (n := n) w g r' x' b' a' h1).size, ⟨?_, ?_, ?_, ?_⟩, fun j => ?_⟩
  all_goals unfold puts
  all_goals (try (have zj := hz j)); go_simp; (try rfl)
theorem Own.other {n g g' r x b a : Nat} {w : World} (h : Own n w g r x b a) (hne : ¬ g = g') (r' x' b' a' : Nat) : Own n (puts w g' r' x' b' a') g r x b a := by
  obtain ⟨h1, h2, ⟨k0, k1, k2, k3⟩, hz⟩ := h
  have hne' : ¬ g' = g := fun h => hne h.symm
  refine ⟨h1, Nat.lt_of_lt_of_le h2 ?_, ⟨?_, ?_, ?_, ?_⟩, fun j => ?_⟩
  all_goals unfold puts
  all_goals first | (have zj := hz j; go_simp) | (go_simp; (try rfl); done) | simp

end Go.Proofs.Ytbhjookpdmfdnaa
