/- The laws of numbers live. -/
import Derived.Test.YtcipcpbjkcpgdaaF2
namespace Go.Proofs.Ytcipcpbjkcpgdaa
set_option linter.unusedVariables false
open Go Go.RowKit

theorem wsOf {l : List Nat} (h : (l.all fun x => decide (x ≤ 4294967295)) = true) : Ws l := by
  intro x hx
  have := List.all_eq_true.1 h x hx
  simp at this
  unfold B32
  omega

set_option maxRecDepth 100000 in
set_option maxHeartbeats 1000000 in
theorem n_lives_any (w : World) : Calls Try.prog 26 #[] w fun e w' => e = .returned (.bool true) ∧ Ext w w' := by
  have hT : decS (val B32 [0, 1]) = ⟨#[52, 50, 57, 52, 57, 54, 55, 50, 57, 54]⟩ := by unfold decS; rw [live_text]; rfl
  have HT := hidP hT; clear hT
  go_enter Try.func26, Try.ntmps26
  go_wp2_with fail
  have h1 := (Sl.lit w 57 #[.int .u32 4294967295] 1 rfl (by omega)).ext ((Ext.refl _).alloc (.cells #[.int .u32 4294967295] 57))
  have h2 := Sl.lit (w.alloc (.cells #[.int .u32 4294967295] 57)) 57 #[.int .u32 4294967295] 1 rfl (by omega)
  have hz : (w.alloc (.cells #[.int .u32 4294967295] 57)).heap.size = w.heap.size + 1 := by simp
  rw [hz] at h2
  refine (nat_Mul_any _ _ 1 1 1 1 [4294967295] [4294967295] _ h1 h2 (wsOf rfl) (wsOf rfl) (by omega) (by omega)).mono ?_
  rw [live_mul]
  rintro e w1 ⟨a1, n1, c1, rfl, hs, he⟩
  have HE : Ext w w1 := (((Ext.refl _).alloc _).alloc _).trans he
  obtain rfl : n1 = 2 := hs.int_len.symm
  clear h1 h2 hz he
  go_wp2_with fail
  have h3 := Sl.lit w1 57 #[.int .u32 1, .int .u32 4294967294] 2 rfl (by omega)
  refine (r01_Same_any a1 _ 2 c1 2 2 [1, 4294967294] [1, 4294967294] _ (hs.ext ((Ext.refl _).alloc _)) h3 (by omega)).mono ?_
  rw [decide_eq_true rfl]
  rintro e w2 ⟨rfl, he2⟩
  replace HE := HE.trans (((Ext.refl _).alloc _).trans he2)
  clear h3 hs he2
  go_wp2_with fail
  have h4 := Sl.lit w2 57 #[.int .u32 0, .int .u32 1] 2 rfl (by omega)
  refine (nat_Text_any _ 2 2 [0, 1] _ h4 (wsOf rfl) (by omega)).mono ?_
  rw [HT.out]
  rintro e w3 ⟨rfl, he3⟩
  go_wp2_with fail
  go_ret
  exact ⟨rfl, HE.trans (((Ext.refl _).alloc _).trans he3)⟩

end Go.Proofs.Ytcipcpbjkcpgdaa
