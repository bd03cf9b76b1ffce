/- The laws of fractions live. -/
import Derived.Test.YtcipcpbjkcpgdaaQ12
namespace Go.Proofs.Ytcipcpbjkcpgdaa
set_option linter.unusedVariables false
open Go Go.RowKit

theorem fl_text : textF (-3) 2 = ⟨#[45, 51, 47, 50]⟩ := by
  unfold textF
  rw [if_neg (by decide)]
  have h3 : decS 3 = ⟨#[51]⟩ := by unfold decS; rw [decD_small (by decide)]; rfl
  have h2 : decS 2 = ⟨#[50]⟩ := by unfold decS; rw [decD_small (by decide)]; rfl
  have hz : textZ (-3) = ⟨#[45]⟩ ++ decS 3 := by unfold textZ; rw [if_pos (by decide)]; rfl
  rw [hz, h3, h2]; rfl

set_option maxRecDepth 100000 in
set_option maxHeartbeats 4000000 in
theorem fr_lives (w : World) : Calls Try.prog 95 #[] w fun e w' => e = .returned (.bool true) ∧ Ext w w' := by
  have hof := fun u => f_Of 6 (-4) u (by omega) (by omega) (by omega) (by omega)
  have e1 : mkz 6 (-4) = -3 := by decide
  have e2 : mkd 6 (-4) = 2 := by decide
  have e3 : mke (-4) = 0 := by decide
  rw [e1, e2, e3] at hof
  unfold RetFE at hof
  have eb : decide ((-3 : Int) < 0) = true := by decide
  rw [eb] at hof
  have HOF := hidP hof
  have B1 : Hid (dl ((-3 : Int)).natAbs ≤ 1) := hidP (dl_small (by decide))
  have B2 : Hid (dl 2 ≤ 1) := hidP (dl_small (by decide))
  have W3 : Hid (∀ (u : World) a n c, Nc u a n c ((-3 : Int)).natAbs → WhIn u true a n c (-3)) := hidP (fun u a n c h => by have := h.wh (by have := B1.out; omega); rwa [eb] at this)
  have T1 : Hid (rz (pz (-3) 2) (pd 2) = -3 ∧ rd (pz (-3) 2) (pd 2) = 2) := hidP (by decide)
  have T2 : Hid (pz (-3) 2 / (pd 2 : Int) = -2) := hidP (by decide)
  have T3 : Hid (az (pz (-3) 2) (pd 2) 1 2 / (ad (pd 2) 2 : Int) = -1) := hidP (by decide)
  have TX := hidP fl_text
  clear hof e1 e2 e3 eb
  go_enter Try.func95, Try.ntmps95
  go_wp2_with fail
  refine (HOF.out _).mono ?_
  rintro e u1 ⟨a1, n1, c1, d1, m1, k1, rfl, hs1, ht1, hx⟩
  have HE := hx
  clear hx
  go_upto_region 2 with fail
  refine absW (fun x1 hx1 => ?_)
  have hx : Ext u1 x1 := by rw [hx1]; exact ((Ext.refl _).alloc _)
  have bx : Bl x1 (u1.heap.size) #[.bool true, .slice a1 n1 c1, .slice d1 m1 k1] := by rw [hx1]; exact (Bl.new (by simp))
  replace hs1 := hs1.ext hx
  replace ht1 := ht1.ext hx
  replace HE := HE.trans hx
  clear hx
  clear hx1
  go_wp2_with fail
  refine (f_Text true a1 d1 n1 c1 m1 k1 (-3) 2 _ (W3.out _ _ _ _ hs1) (ht1.nu (by have := B2.out; omega)) (by have := B1.out; omega) (by have := B2.out; omega)).mono ?_
  rw [T1.out.1, T1.out.2, TX.out]
  rintro e u2 ⟨rfl, hx⟩
  replace bx := Bl.ext hx bx (Nat.succ_pos _)
  replace hs1 := hs1.ext hx
  replace ht1 := ht1.ext hx
  replace HE := HE.trans hx
  clear hx
  go_wp2_with fail
  refine (f_Floor true a1 d1 n1 c1 m1 k1 (-3) 2 _ (W3.out _ _ _ _ hs1) (ht1.nu (by have := B2.out; omega)) (by have := B1.out; omega) (by have := B2.out; omega)).mono ?_
  rw [T2.out]
  rintro e u3 ⟨a3, n3, c3, rfl, hs3, hx⟩
  replace bx := Bl.ext hx bx (Nat.succ_pos _)
  replace hs1 := hs1.ext hx
  replace ht1 := ht1.ext hx
  replace HE := HE.trans hx
  clear hx
  replace hs3 : Nc u3 a3 n3 c3 ((-2 : Int)).natAbs := hs3
  go_wp2_with fail
  refine (r02_Of_any (-2) _ (by omega) (by omega)).mono ?_
  rintro e u4 ⟨a4, n4, c4, rfl, hs4, hx⟩
  replace bx := Bl.ext hx bx (Nat.succ_pos _)
  replace hs1 := hs1.ext hx
  replace ht1 := ht1.ext hx
  replace hs3 := hs3.ext hx
  replace HE := HE.trans hx
  clear hx
  replace hs4 : Nc u4 a4 n4 c4 ((-2 : Int)).natAbs := hs4
  go_wp2_with fail
  refine (d_SameW hs3 hs4 (by have := dl_small (a := ((-2 : Int)).natAbs) (by decide); omega)).mono ?_
  rintro e u5 ⟨rfl, hx⟩
  replace bx := Bl.ext hx bx (Nat.succ_pos _)
  replace hs1 := hs1.ext hx
  replace ht1 := ht1.ext hx
  replace hs3 := hs3.ext hx
  replace hs4 := hs4.ext hx
  replace HE := HE.trans hx
  clear hx
  clear hs3 hs4
  go_wp2_with fail
  refine (f_Round true a1 d1 n1 c1 m1 k1 (-3) 2 _ (W3.out _ _ _ _ hs1) (ht1.nu (by have := B2.out; omega)) (by have := B1.out; omega) (by have := B2.out; omega)).mono ?_
  rw [T3.out]
  rintro e u6 ⟨a6, n6, c6, rfl, hs6, hx⟩
  replace bx := Bl.ext hx bx (Nat.succ_pos _)
  replace hs1 := hs1.ext hx
  replace ht1 := ht1.ext hx
  replace HE := HE.trans hx
  clear hx
  replace hs6 : Nc u6 a6 n6 c6 ((-1 : Int)).natAbs := hs6
  go_wp2_with fail
  refine (r02_Of_any (-1) _ (by omega) (by omega)).mono ?_
  rintro e u7 ⟨a7, n7, c7, rfl, hs7, hx⟩
  replace bx := Bl.ext hx bx (Nat.succ_pos _)
  replace hs1 := hs1.ext hx
  replace ht1 := ht1.ext hx
  replace hs6 := hs6.ext hx
  replace HE := HE.trans hx
  clear hx
  replace hs7 : Nc u7 a7 n7 c7 ((-1 : Int)).natAbs := hs7
  go_wp2_with fail
  refine (d_SameW hs6 hs7 (by have := dl_small (a := ((-1 : Int)).natAbs) (by decide); omega)).mono ?_
  rintro e u8 ⟨rfl, hx⟩
  replace bx := Bl.ext hx bx (Nat.succ_pos _)
  replace hs1 := hs1.ext hx
  replace ht1 := ht1.ext hx
  replace hs6 := hs6.ext hx
  replace hs7 := hs7.ext hx
  replace HE := HE.trans hx
  clear hx
  go_wp2_with fail
  go_ret
  exact ⟨rfl, HE⟩

end Go.Proofs.Ytcipcpbjkcpgdaa
