/- The law of one colour over another one. -/
import Derived.Test.YtbhjookpdmfdnaaDoorC5
namespace Go.Proofs.YtbhjookpdmfdnaaDoor
set_option linter.unusedVariables false
open Go Go.RowKit

theorem covr_zero (b : Nat) (hb : b ≤ 255) : covr 255 0 b = b := by
  have : part ((b : Int) * ((255 : Nat) : Int)) = b := by
    unfold part
    split
    · omega
    · split <;> omega
  unfold covr
  rw [this]; omega

/-- The program's own answer is the document's. -/
theorem c_over_any (r g b a r' g' b' a' : Nat) (w : World) (h : Col8 r g b a) (h' : Col8 r' g' b' a') :
    Calls Tryd.prog 37 #[.agg #[.int .u8 (r : Int), .int .u8 (g : Int), .int .u8 (b : Int), .int .u8 (a : Int)], .agg #[.int .u8 (r' : Int), .int .u8 (g' : Int), .int .u8 (b' : Int), .int .u8 (a' : Int)]] w fun e w' => e = .returned (.agg #[.int .u8 ((covr (255 - a) r r' : Nat) : Int), .int .u8 ((covr (255 - a) g g' : Nat) : Int), .int .u8 ((covr (255 - a) b b' : Nat) : Int), .int .u8 ((covr (255 - a) a a' : Nat) : Int)]) ∧ Ext w w' := by
  by_cases hz : r = 0 ∧ g = 0 ∧ b = 0 ∧ a = 0
  · obtain ⟨rfl, rfl, rfl, rfl⟩ := hz
    have e1 := covr_zero r' h'.r
    have e2 := covr_zero g' h'.g
    have e3 := covr_zero b' h'.b
    have e4 := covr_zero a' h'.a
    simp only [Nat.sub_zero, e1, e2, e3, e4]
    exact c_over_none_any r' g' b' a' w h'
  · exact c_over_some_any r g b a r' g' b' a' w h h' hz

set_option maxHeartbeats 1000000 in
theorem lives_any (w : World) : Calls Tryd.prog 20 #[] w fun e w' => e = .returned (.bool true) ∧ Ext w w' := by
  go_enter Tryd.func20, Tryd.ntmps20
  go_wp2_with fail
  refine (c_weigh_any 255 0 0 128 _ ⟨by omega, by omega, by omega, by omega⟩).mono ?_
  rintro e u ⟨rfl, hu⟩
  go_wp2_with fail
  refine (c_over_any 128 0 0 128 0 0 255 255 _ ⟨by omega, by omega, by omega, by omega⟩ ⟨by omega, by omega, by omega, by omega⟩).mono ?_
  rintro e u2 ⟨rfl, hu2⟩
  go_wp2_with fail
  go_ret
  exact ⟨rfl, hu.trans (Ext.trans ((Ext.refl _).alloc _) hu2)⟩

end Go.Proofs.YtbhjookpdmfdnaaDoor
