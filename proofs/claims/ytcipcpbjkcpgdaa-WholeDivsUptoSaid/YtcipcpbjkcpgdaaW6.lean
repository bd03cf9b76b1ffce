/- The laws of whole numbers live: the call. -/
import Derived.Test.YtcipcpbjkcpgdaaW5
namespace Go.Proofs.Ytcipcpbjkcpgdaa
set_option linter.unusedVariables false
open Go Go.RowKit

set_option maxRecDepth 100000 in
set_option maxHeartbeats 1000000 in
theorem r02_Same_eq (neg : Bool) (a a' : Option Addr) (n cap n' cap' : Nat) (x : List Nat) (w : World) (hs : Sl w a n cap (ints .u32 x)) (hs' : Sl w a' n' cap' (ints .u32 x)) (hn : n ≤ 1099511627776) :
    Calls Try.prog 49 #[.agg #[.bool neg, .slice a n cap], .agg #[.bool neg, .slice a' n' cap']] w fun e w' => e = .returned (.bool true) ∧ Ext w w' := by
  have hbe : (neg == neg) = true := by simp
  go_enter Try.func49, Try.ntmps49
  go_wp2_with fail
  refine (r01_Same_any a a' n cap n' cap' x x _ (hs.ext (((Ext.refl _).alloc _).alloc _)) (hs'.ext (((Ext.refl _).alloc _).alloc _)) hn).mono ?_
  rw [decide_eq_true rfl]
  rintro e w1 ⟨rfl, he1⟩
  go_wp2_with fail
  go_ret
  exact ⟨rfl, (((Ext.refl _).alloc _).alloc _).trans he1⟩

theorem live_m4 : textZ (-4) = ⟨#[45, 52]⟩ := by
  have h : decD 4 = [4] := decD_small (by omega)
  unfold textZ
  rw [if_pos (by decide)]
  show _ ++ decS 4 = _
  unfold decS
  rw [h]; rfl
theorem live_1 : textZ 1 = ⟨#[49]⟩ := by
  have h : decD 1 = [1] := decD_small (by omega)
  unfold textZ
  rw [if_neg (by decide)]
  show decS 1 = _
  unfold decS
  rw [h]; rfl

set_option maxRecDepth 100000 in
set_option maxHeartbeats 2000000 in
theorem w_lives_any (w : World) : Calls Try.prog 50 #[] w fun e w' => e = .returned (.bool true) ∧ Ext w w' := by
  have hd4 : (decD (-4 : Int).natAbs).length ≤ 35184372088832 := by
    have : decD 4 = [4] := decD_small (by omega)
    show (decD 4).length ≤ _
    rw [this]; simp
  have hd1 : (decD (1 : Int).natAbs).length ≤ 35184372088832 := by
    have : decD 1 = [1] := decD_small (by omega)
    show (decD 1).length ≤ _
    rw [this]; simp
  have HD4 := hidP hd4; have HD1 := hidP hd1
  clear hd4 hd1
  go_enter Try.func50, Try.ntmps50
  go_wp2_with fail
  refine (w_Of_any (-7) _ (by omega) (by omega)).mono ?_
  rintro e w1 ⟨a1, n1, c1, rfl, hs1, HE⟩
  rw [show decide ((-7 : Int) < 0) = true by decide]
  rw [show (-7 : Int).natAbs = 7 by decide] at hs1
  go_wp2_with fail
  refine (w_Of_any 2 _ (by omega) (by omega)).mono ?_
  rintro e w2 ⟨a2, n2, c2, rfl, hs2, he⟩
  rw [show decide ((2 : Int) < 0) = false by decide]
  rw [show (2 : Int).natAbs = 2 by decide] at hs2
  replace hs1 := hs1.ext he
  replace HE := HE.trans he
  clear he
  go_wp2_with fail
  refine (w_Div_live a1 a2 n1 c1 n2 c2 _ hs1 hs2).mono ?_
  rintro e w3 ⟨a3, n3, c3, a4, n4, c4, rfl, hq, hr, he⟩
  replace HE := HE.trans he
  clear he hs1 hs2
  go_wp2_with fail
  have he3 : Ext w3 ((w3.alloc (.cells #[.bool true, .slice a3 n3 c3] 51)).alloc (.cells #[.bool false, .slice a4 n4 c4] 51)) := ((Ext.refl _).alloc _).alloc _
  refine (w_Text_any true a3 n3 c3 (-4) _ (hq.ext he3) HD4.out).mono ?_
  rw [live_m4]
  rintro e w4 ⟨rfl, he⟩
  have y0 := he.cell' (p := ⟨w3.heap.size + 1, 0, none⟩) (v := .bool false) (by go_simp; try rfl)
  have y1 := he.cell' (p := ⟨w3.heap.size + 1, 1, none⟩) (v := .slice a4 n4 c4) (by go_simp; try rfl)
  replace he := he3.trans he
  replace hr := hr.ext he
  replace HE := HE.trans he
  clear he he3 hq
  go_wp2_with fail
  refine (w_Text_any false a4 n4 c4 1 _ hr HD1.out).mono ?_
  rw [live_1]
  rintro e w5 ⟨rfl, he⟩
  replace HE := HE.trans he
  clear he y0 y1 hr
  go_wp2_with fail
  refine (w_Of_any (-3) _ (by omega) (by omega)).mono ?_
  rintro e w6 h6
  obtain ⟨a6, n6, c6, rfl, hw6, hs6, he⟩ := h6.whIn (by rw [show (-3 : Int).natAbs = 3 by decide, dig_one (by omega) (by omega)]; simp)
  rw [show decide ((-3 : Int) < 0) = true by decide] at hw6 ⊢
  replace HE := HE.trans he
  clear he hs6 h6
  go_wp2_with fail
  refine (w_Sign_any true a6 n6 c6 (-3) _ hw6).mono ?_
  rw [show sgn (-3) = -1 by decide]
  rintro e w7 ⟨rfl, he⟩
  go_wp2_with fail
  go_ret
  exact ⟨rfl, HE.trans he⟩

end Go.Proofs.Ytcipcpbjkcpgdaa
