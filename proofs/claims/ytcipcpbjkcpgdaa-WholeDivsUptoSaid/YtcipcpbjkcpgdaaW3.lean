/- The program's whole numbers: sign, text, and that their laws live. -/
import Derived.Test.YtcipcpbjkcpgdaaW2
import Derived.Test.YtcipcpbjkcpgdaaF3
namespace Go.Proofs.Ytcipcpbjkcpgdaa
set_option linter.unusedVariables false
open Go Go.RowKit

set_option maxRecDepth 100000 in
set_option maxHeartbeats 1000000 in
theorem w_Sign_any (neg : Bool) (a : Option Addr) (n cap : Nat) (z : Int) (w : World) (hw : WhIn w neg a n cap z) :
    Calls Try.prog 76 #[.agg #[.bool neg, .slice a n cap]] w fun e w' => e = .returned (.int .i64 (sgn z)) ∧ Ext w w' := by
  obtain ⟨⟨l, hs, hl, hz⟩, hn⟩ := hw
  have hB := nat_Bits_any a n cap l _ (hs.ext ((Ext.refl w).alloc (.cells #[.bool neg, .slice a n cap] 51))) hl (by omega)
  by_cases h0 : val B32 l = 0
  · have HR : Hid (sgn z = 0) := hidP (by subst hz; unfold wz sgn; rw [h0]; cases neg <;> rfl)
    rw [show bitlen (val B32 l) = 0 by rw [h0]; rfl] at hB
    have HB := hidP hB
    clear hz h0 hB
    go_enter Try.func76, Try.ntmps76
    go_wp2_with fail
    refine HB.out.mono ?_
    rintro e w1 ⟨rfl, rfl⟩
    go_wp2_with fail
    go_ret
    exact ⟨by rw [HR.out]; rfl, (Ext.refl _).alloc _⟩
  · have HR : Hid (sgn z = if neg then -1 else 1) := hidP (by subst hz; unfold wz sgn; cases neg <;> simp <;> omega)
    have hbz : bitlen (val B32 l) ≠ 0 := fun h => by
      have := lt_bitlen (val B32 l)
      rw [h] at this
      omega
    generalize bitlen (val B32 l) = bl at *
    have hb0 : ((bl : Int) == 0) = false := by simp; omega
    have HB := hidP hB
    clear hz h0 hB hbz
    cases neg with
    | false =>
      go_enter Try.func76, Try.ntmps76
      go_wp2_with fail
      refine HB.out.mono ?_
      rintro e w1 ⟨rfl, rfl⟩
      go_wp2_with fail
      go_ret
      exact ⟨by rw [HR.out]; rfl, (Ext.refl _).alloc _⟩
    | true =>
      go_enter Try.func76, Try.ntmps76
      go_wp2_with fail
      refine HB.out.mono ?_
      rintro e w1 ⟨rfl, rfl⟩
      go_wp2_with fail
      go_ret
      exact ⟨by rw [HR.out]; rfl, (Ext.refl _).alloc _⟩

set_option maxRecDepth 100000 in
set_option maxHeartbeats 1000000 in
theorem w_Text_any (neg : Bool) (a : Option Addr) (n cap : Nat) (z : Int) (w : World) (hw : WhIn w neg a n cap z) (hD : (decD z.natAbs).length ≤ 35184372088832) :
    Calls Try.prog 82 #[.agg #[.bool neg, .slice a n cap]] w fun e w' => e = .returned (.string (textZ z)) ∧ Ext w w' := by
  have hls := hw
  obtain ⟨⟨l, hs, hl, hz⟩, hn⟩ := hls
  have hA : z.natAbs = val B32 l := by rw [← hz]; unfold wz; split <;> omega
  rw [hA] at hD
  have hD2 : (decS (val B32 l)).size ≤ 35184372088832 := by unfold decS; rw [decB_size]; exact hD
  have HS := hidP hs; have HW := hidP hw; clear hs hw hD
  have hT := fun u h => nat_Text_any a n cap l u h hl (by omega)
  by_cases h0 : z < 0
  · have HR : Hid (textZ z = ⟨#[45]⟩ ++ decS (val B32 l)) := hidP (by unfold textZ; rw [if_pos h0, hA])
    have HC : Hid (sgn z = -1) := hidP (sgn_neg h0)
    clear hz hA
    generalize decS (val B32 l) = tt at *
    have HT := hidP hT; clear hT
    go_enter Try.func82, Try.ntmps82
    go_wp2_with fail
    refine (w_Sign_any neg a n cap z _ (HW.out.ext ((Ext.refl _).alloc _))).mono ?_
    rw [HC.out]
    rintro e w1 ⟨rfl, he1⟩
    have c0 := he1.cell' (p := ⟨w.heap.size, 0, none⟩) (v := .bool neg) (by go_simp; try rfl)
    have c1 := he1.cell' (p := ⟨w.heap.size, 1, none⟩) (v := .slice a n cap) (by go_simp; try rfl)
    have HE : Ext w w1 := ((Ext.refl _).alloc _).trans he1
    clear he1
    go_wp2_with fail
    refine (HT.out _ (HS.out.ext HE)).mono ?_
    rintro e w2 ⟨rfl, he2⟩
    have hcs : (⟨#[45]⟩ : ByteArray).size + tt.size ≤ 9223372036854775807 := by
      have : (⟨#[45]⟩ : ByteArray).size = 1 := rfl
      omega
    go_wp2_with fail
    go_ret
    exact ⟨by rw [HR.out]; rfl, HE.trans he2⟩
  · have HR : Hid (textZ z = decS (val B32 l)) := hidP (by unfold textZ; rw [if_neg h0, hA])
    obtain ⟨s1, hs1⟩ : ∃ s1, sgn z = s1 := ⟨_, rfl⟩
    have hp1 : 0 ≤ s1 := by rw [← hs1]; exact sgn_nonneg (by omega)
    have HC := hidP hs1
    clear hz hA hs1
    generalize decS (val B32 l) = tt at *
    have HT := hidP hT; clear hT
    go_enter Try.func82, Try.ntmps82
    go_wp2_with fail
    refine (w_Sign_any neg a n cap z _ (HW.out.ext ((Ext.refl _).alloc _))).mono ?_
    rw [HC.out]
    rintro e w1 ⟨rfl, he1⟩
    have c0 := he1.cell' (p := ⟨w.heap.size, 0, none⟩) (v := .bool neg) (by go_simp; try rfl)
    have c1 := he1.cell' (p := ⟨w.heap.size, 1, none⟩) (v := .slice a n cap) (by go_simp; try rfl)
    have HE : Ext w w1 := ((Ext.refl _).alloc _).trans he1
    clear he1
    go_wp2_with fail
    refine (HT.out _ (HS.out.ext HE)).mono ?_
    rintro e w2 ⟨rfl, he2⟩
    go_wp2_with fail
    go_ret
    exact ⟨by rw [HR.out]; rfl, HE.trans he2⟩

end Go.Proofs.Ytcipcpbjkcpgdaa
