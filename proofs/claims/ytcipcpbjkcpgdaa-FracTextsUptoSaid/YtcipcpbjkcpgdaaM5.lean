/- Joined: W3 W4 W5 W6 W9 W10 W13 V1 V2 VH. -/
import Derived.Test.YtcipcpbjkcpgdaaM4
import Derived.Test.YtcipcpbjkcpgdaaM1
import Derived.Deep.DeepCutAuto
namespace Go.Proofs.Ytcipcpbjkcpgdaa
set_option linter.unusedVariables false
open Go Go.RowKit

set_option maxRecDepth 100000 in
set_option maxHeartbeats 1000000 in
theorem w_Sign_any (neg : Bool) (a : Option Addr) (n cap : Nat) (z : Int) (w : World) (hw : WhIn w neg a n cap z) :
    Calls Try.prog 76 #[.agg #[.bool neg, .slice a n cap]] w fun e w' => e = .returned (.int .i64 (sgn z)) ∧ Ext w w' := by
  obtain ⟨⟨l, hs, hl, hz⟩, hn⟩ := hw
  have hB := nat_Bits_any a n cap l _ (hs.ext ((Ext.refl w).alloc (.cells #[.bool neg, .slice a n cap] 51))) hl (by omega)
  by_cases h0 : val B32 l = 0
  · have HR : Hid (sgn z = 0) := hidP (by subst hz; unfold wz sgn; rw [h0]; cases neg <;> rfl)
    rw [show bitlen (val B32 l) = 0 by rw [h0]; rfl] at hB
    have HB := hidP hB
    clear hz h0 hB
    go_enter Try.func76, Try.ntmps76
    go_wp2_with fail
    refine HB.out.mono ?_
    rintro e w1 ⟨rfl, rfl⟩
    go_wp2_with fail
    go_ret
    exact ⟨by rw [HR.out]; rfl, (Ext.refl _).alloc _⟩
  · have HR : Hid (sgn z = if neg then -1 else 1) := hidP (by subst hz; unfold wz sgn; cases neg <;> simp <;> omega)
    have hbz : bitlen (val B32 l) ≠ 0 := fun h => by
      have := lt_bitlen (val B32 l)
      rw [h] at this
      omega
    generalize bitlen (val B32 l) = bl at *
    have hb0 : ((bl : Int) == 0) = false := by simp; omega
    have HB := hidP hB
    clear hz h0 hB hbz
    cases neg with
    | false =>
      go_enter Try.func76, Try.ntmps76
      go_wp2_with fail
      refine HB.out.mono ?_
      rintro e w1 ⟨rfl, rfl⟩
      go_wp2_with fail
      go_ret
      exact ⟨by rw [HR.out]; rfl, (Ext.refl _).alloc _⟩
    | true =>
      go_enter Try.func76, Try.ntmps76
      go_wp2_with fail
      refine HB.out.mono ?_
      rintro e w1 ⟨rfl, rfl⟩
      go_wp2_with fail
      go_ret
      exact ⟨by rw [HR.out]; rfl, (Ext.refl _).alloc _⟩

set_option maxRecDepth 100000 in
set_option maxHeartbeats 1000000 in
theorem w_Text_any (neg : Bool) (a : Option Addr) (n cap : Nat) (z : Int) (w : World) (hw : WhIn w neg a n cap z) (hD : (decD z.natAbs).length ≤ 35184372088832) :
    Calls Try.prog 82 #[.agg #[.bool neg, .slice a n cap]] w fun e w' => e = .returned (.string (textZ z)) ∧ Ext w w' := by
  have hls := hw
  obtain ⟨⟨l, hs, hl, hz⟩, hn⟩ := hls
  have hA : z.natAbs = val B32 l := by rw [← hz]; unfold wz; split <;> omega
  rw [hA] at hD
  have hD2 : (decS (val B32 l)).size ≤ 35184372088832 := by unfold decS; rw [decB_size]; exact hD
  have HS := hidP hs; have HW := hidP hw; clear hs hw hD
  have hT := fun u h => nat_Text_any a n cap l u h hl (by omega)
  by_cases h0 : z < 0
  · have HR : Hid (textZ z = ⟨#[45]⟩ ++ decS (val B32 l)) := hidP (by unfold textZ; rw [if_pos h0, hA])
    have HC : Hid (sgn z = -1) := hidP (sgn_neg h0)
    clear hz hA
    generalize decS (val B32 l) = tt at *
    have HT := hidP hT; clear hT
    go_enter Try.func82, Try.ntmps82
    go_wp2_with fail
    refine (w_Sign_any neg a n cap z _ (HW.out.ext ((Ext.refl _).alloc _))).mono ?_
    rw [HC.out]
    rintro e w1 ⟨rfl, he1⟩
    have c0 := he1.cell' (p := ⟨w.heap.size, 0, none⟩) (v := .bool neg) (by go_simp; try rfl)
    have c1 := he1.cell' (p := ⟨w.heap.size, 1, none⟩) (v := .slice a n cap) (by go_simp; try rfl)
    have HE : Ext w w1 := ((Ext.refl _).alloc _).trans he1
    clear he1
    go_wp2_with fail
    refine (HT.out _ (HS.out.ext HE)).mono ?_
    rintro e w2 ⟨rfl, he2⟩
    have hcs : (⟨#[45]⟩ : ByteArray).size + tt.size ≤ 9223372036854775807 := by
      have : (⟨#[45]⟩ : ByteArray).size = 1 := rfl
      omega
    go_wp2_with fail
    go_ret
    exact ⟨by rw [HR.out]; rfl, HE.trans he2⟩
  · have HR : Hid (textZ z = decS (val B32 l)) := hidP (by unfold textZ; rw [if_neg h0, hA])
    obtain ⟨s1, hs1⟩ : ∃ s1, sgn z = s1 := ⟨_, rfl⟩
    have hp1 : 0 ≤ s1 := by rw [← hs1]; exact sgn_nonneg (by omega)
    have HC := hidP hs1
    clear hz hA hs1
    generalize decS (val B32 l) = tt at *
    have HT := hidP hT; clear hT
    go_enter Try.func82, Try.ntmps82
    go_wp2_with fail
    refine (w_Sign_any neg a n cap z _ (HW.out.ext ((Ext.refl _).alloc _))).mono ?_
    rw [HC.out]
    rintro e w1 ⟨rfl, he1⟩
    have c0 := he1.cell' (p := ⟨w.heap.size, 0, none⟩) (v := .bool neg) (by go_simp; try rfl)
    have c1 := he1.cell' (p := ⟨w.heap.size, 1, none⟩) (v := .slice a n cap) (by go_simp; try rfl)
    have HE : Ext w w1 := ((Ext.refl _).alloc _).trans he1
    clear he1
    go_wp2_with fail
    refine (HT.out _ (HS.out.ext HE)).mono ?_
    rintro e w2 ⟨rfl, he2⟩
    go_wp2_with fail
    go_ret
    exact ⟨by rw [HR.out]; rfl, HE.trans he2⟩

end Go.Proofs.Ytcipcpbjkcpgdaa

namespace Go.Proofs.Ytcipcpbjkcpgdaa
set_option linter.unusedVariables false
open Go Go.RowKit

set_option maxRecDepth 100000 in
set_option maxHeartbeats 2000000 in
/-- A quotient by one word. -/
theorem nat_Div_one (a a' : Option Addr) (n cap n' cap' : Nat) (x : List Nat) (d : Nat) (w : World) (hs : Sl w a n cap (ints .u32 x)) (hs' : Sl w a' n' cap' (ints .u32 [d])) (hx : Ws x) (hn : n ≤ 1099511627776) (hd : 0 < d) (hd2 : d ≤ 4294967295) (hge : d ≤ val B32 x) :
    Calls Try.prog 43 #[.slice a n cap, .slice a' n' cap'] w fun e w' => ∃ a2 n2 c2 a3 n3 c3, e = .returned (.tuple #[.slice a2 n2 c2, .slice a3 n3 c3, .bool true]) ∧ Sl w' a2 n2 c2 (ints .u32 (dig B32 (val B32 x / d))) ∧ Sl w' a3 n3 c3 (ints .u32 (dig B32 (val B32 x % d))) ∧ Ext w w' := by
  obtain rfl : n' = 1 := hs'.int_len.symm
  have hv : val B32 [d] = d := by simp [val]
  have hwd : Ws [d] := by intro y hy; simp at hy; subst hy; unfold B32; omega
  have hsz := nat_size_any a' 1 cap' [d] w hs' hwd (by omega)
  rw [hv, dig_one hd hd2] at hsz
  have hcm := fun u h h' => nat_Cmp_any a a' n cap 1 cap' x [d] u h h' hx hwd hn (by omega)
  rw [hv] at hcm
  obtain ⟨c, hc⟩ : ∃ c, cmpI (val B32 x) d = c := ⟨_, rfl⟩
  have hc0 : 0 ≤ c := by rw [← hc]; exact cmpI_ge hge
  rw [hc] at hcm
  obtain ⟨b, off, rfl, hcell⟩ := hs'.at_int (by omega)
  have hcd : w.cell? ⟨b, off, none⟩ = some (.int .u32 (d : Int)) := by have := hcell 0 (by simp); simpa using this
  have HSZ := hidP hsz; have HCM := hidP hcm; have HS := hidP hs; have HS' := hidP hs'
  clear hsz hcm hcell hc hs hs' hv
  go_enter Try.func43, Try.ntmps43
  go_wp2_with fail
  refine (nat_size_any a n cap x _ HS.out hx (by omega)).mono ?_
  rintro e w' ⟨rfl, rfl⟩
  go_wp2_with fail
  refine HSZ.out.mono ?_
  rintro e w' ⟨rfl, rfl⟩
  generalize (dig B32 (val B32 x)).length = lx at *
  go_wp2_with fail
  refine (HCM.out _ HS.out HS'.out).mono ?_
  rintro e w1 ⟨rfl, he1⟩
  have hcd1 := he1.cell' hcd
  go_wp2_with fail
  refine (nat_small_any a n cap x d _ (HS.out.ext he1) hx (by omega) (by omega) hd2).mono ?_
  have hmd : val B32 x % d ≤ 4294967295 := by have := Nat.mod_lt (val B32 x) hd; omega
  rintro e w2 ⟨g2, n2, c2, rfl, hs2, he2, hb2⟩
  generalize hrr : val B32 x % d = r at *
  generalize hqq : val B32 x / d = q at *
  have HRR := hidP hrr; have HQQ := hidP hqq
  clear hcd1 hrr hqq
  go_wp2_with fail
  refine (nat_Of_any r _ (by omega)).mono ?_
  rintro e w3 ⟨a3, n3, c3, rfl, hs3, he3⟩
  go_wp2_with fail
  go_ret3
  exact ⟨_, _, _, _, _, _, rfl, by rw [HQQ.out]; exact hs2.ext he3, by rw [HRR.out]; exact hs3, he1.trans (he2.trans he3)⟩

end Go.Proofs.Ytcipcpbjkcpgdaa

namespace Go.Proofs.Ytcipcpbjkcpgdaa
set_option linter.unusedVariables false
open Go Go.RowKit

theorem bodyPost_cells2_tmp {P : Program} {fn : Func} {R : Ending → World → Prop} {a : Act} {w : World} {p p' q : Tmp} {ty : TypeId} {d : TypeDesc} {g g' : Nat} {cs cs' : Array Value} {v : Value} (h : fn.results = #[.cell p ty, .cell p' ty, .tmp q])
    (hp : a.tmps.getD p undef = .pointer (some ⟨g, 0, none⟩)) (hp2 : a.tmps.getD p' undef = .pointer (some ⟨g', 0, none⟩)) (hu : P.underlying ty = some d) (hd : (match d with | .struct _ | .array _ _ => true | _ => false) = true) (hi : (P.info? ty).map (·.size) = some cs.size) (hi' : (P.info? ty).map (·.size) = some cs'.size)
    (hg : ∀ j v, cs.toList[j]? = some v → w.cell? ⟨g, j, none⟩ = some v) (hg' : ∀ j v, cs'.toList[j]? = some v → w.cell? ⟨g', j, none⟩ = some v) (hq : a.tmps.getD q undef = v) (hdef : a.defers = []) (hR : R (.returned (.tuple #[.agg cs, .agg cs', v])) w) : bodyPost P fn R .ret a w := by
  refine bodyPost_ret (v := .tuple #[.agg cs, .agg cs', v]) ?_ hdef hR
  have hp' : a.tmps[p]?.getD undef = .pointer (some ⟨g, 0, none⟩) := by simpa using hp
  have hp3 : a.tmps[p']?.getD undef = .pointer (some ⟨g', 0, none⟩) := by simpa using hp2
  have hq' : a.tmps[q]?.getD undef = v := by simpa using hq
  simp [results, h, hp', hp3, hq', asAddr, run_loadVar_cells w g ty cs d hg hu hd hi, run_loadVar_cells w g' ty cs' d hg' hu hd hi']

set_option maxRecDepth 100000 in
set_option maxHeartbeats 2000000 in
theorem w_Div_live (a a' : Option Addr) (n cap n' cap' : Nat) (w : World) (hs : Sl w a n cap (ints .u32 (dig B32 7))) (hs' : Sl w a' n' cap' (ints .u32 (dig B32 2))) :
    Calls Try.prog 47 #[.agg #[.bool true, .slice a n cap], .agg #[.bool false, .slice a' n' cap']] w fun e w' => ∃ a2 n2 c2 a3 n3 c3, e = .returned (.tuple #[.agg #[.bool true, .slice a2 n2 c2], .agg #[.bool false, .slice a3 n3 c3], .bool true]) ∧ WhIn w' true a2 n2 c2 (-4) ∧ WhIn w' false a3 n3 c3 1 ∧ Ext w w' := by
  have hn : n = 1 := by have := hs.int_len; rw [dig_one (by omega) (by omega)] at this; exact this.symm
  have hn' : n' = 1 := by have := hs'.int_len; rw [dig_one (by omega) (by omega)] at this; exact this.symm
  subst hn; subst hn'
  have hs2 := hs'
  rw [dig_one (by omega) (by omega)] at hs2
  have HS := hidP hs; have HS' := hidP hs'; have HS2 := hidP hs2
  clear hs hs' hs2
  go_enter Try.func47, Try.ntmps47
  go_wp2_with fail
  refine (nat_Div_one a a' 1 cap 1 cap' _ 2 _ (HS.out.ext (((((Ext.refl _).alloc _).alloc _).alloc _).alloc _)) (HS2.out.ext (((((Ext.refl _).alloc _).alloc _).alloc _).alloc _)) (Ws.dig _) (by omega) (by omega) (by omega) (by rw [val_dig B32_two]; omega)).mono ?_
  rw [val_dig B32_two]
  rintro e w1 ⟨aq, nq, cq, ar, nr, cr, rfl, hq, hr, he1⟩
  have c0 := he1.cell' (p := ⟨w.heap.size, 0, none⟩) (v := .bool true) (by go_simp; try rfl)
  have c1 := he1.cell' (p := ⟨w.heap.size, 1, none⟩) (v := .slice a 1 cap) (by go_simp; try rfl)
  have d0 := he1.cell' (p := ⟨w.heap.size + 1, 0, none⟩) (v := .bool false) (by go_simp; try rfl)
  have d1 := he1.cell' (p := ⟨w.heap.size + 1, 1, none⟩) (v := .slice a' 1 cap') (by go_simp; try rfl)
  have z0 := he1.cell' (p := ⟨w.heap.size + 1 + 1, 0, none⟩) (v := .bool false) (by go_simp; try rfl)
  have qz0 : w1.frozen? ⟨w.heap.size + 1 + 1, 0, none⟩ = false := (he1.frozen (p := ⟨w.heap.size + 1 + 1, 0, none⟩) (by simp)).trans (by go_simp)
  have z1 := he1.cell' (p := ⟨w.heap.size + 1 + 1, 1, none⟩) (v := .slice none 0 0) (by go_simp; try rfl)
  have qz1 : w1.frozen? ⟨w.heap.size + 1 + 1, 1, none⟩ = false := (he1.frozen (p := ⟨w.heap.size + 1 + 1, 1, none⟩) (by simp)).trans (by go_simp)
  have y0 := he1.cell' (p := ⟨w.heap.size + 1 + 1 + 1, 0, none⟩) (v := .bool false) (by go_simp; try rfl)
  have qy0 : w1.frozen? ⟨w.heap.size + 1 + 1 + 1, 0, none⟩ = false := (he1.frozen (p := ⟨w.heap.size + 1 + 1 + 1, 0, none⟩) (by simp)).trans (by go_simp)
  have y1 := he1.cell' (p := ⟨w.heap.size + 1 + 1 + 1, 1, none⟩) (v := .slice none 0 0) (by go_simp; try rfl)
  have qy1 : w1.frozen? ⟨w.heap.size + 1 + 1 + 1, 1, none⟩ = false := (he1.frozen (p := ⟨w.heap.size + 1 + 1 + 1, 1, none⟩) (by simp)).trans (by go_simp)
  have HE : Ext w w1 := (((((Ext.refl _).alloc _).alloc _).alloc _).alloc _).trans he1
  clear he1
  have hr1 : dig B32 (7 % 2) = [1] := dig_one (by omega) (by omega)
  have hq1 : dig B32 (7 / 2) = [3] := dig_one (by omega) (by omega)
  rw [hr1] at hr
  rw [hq1] at hq
  obtain rfl : nr = 1 := hr.int_len.symm
  obtain rfl : nq = 1 := hq.int_len.symm
  clear hr1 hq1
  have ws1 : Ws [1] := by intro d hd; simp at hd; subst hd; decide
  have ws3 : Ws [3] := by intro d hd; simp at hd; subst hd; decide
  go_wp2_with fail
  have h1 := Sl.lit w1 57 #[.int .u32 1] 1 rfl (by omega)
  refine (nat_Add_any aq _ 1 cq 1 1 [3] [1] _ (hq.ext ((Ext.refl _).alloc _)) h1 ws3 ws1 (by omega) (by omega)).mono ?_
  rintro e w2 ⟨a4, n4, c4, rfl, h4, he2⟩
  replace he2 := ((Ext.refl w1).alloc _).trans he2
  replace qz0 := (he2.frozen (p := ⟨w.heap.size + 1 + 1, 0, none⟩) (World.block_lt_of_cell? w1 _ z0)).trans qz0
  replace qz1 := (he2.frozen (p := ⟨w.heap.size + 1 + 1, 1, none⟩) (World.block_lt_of_cell? w1 _ z1)).trans qz1
  replace qy0 := (he2.frozen (p := ⟨w.heap.size + 1 + 1 + 1, 0, none⟩) (World.block_lt_of_cell? w1 _ y0)).trans qy0
  replace qy1 := (he2.frozen (p := ⟨w.heap.size + 1 + 1 + 1, 1, none⟩) (World.block_lt_of_cell? w1 _ y1)).trans qy1
  replace c0 := he2.cell' c0
  replace c1 := he2.cell' c1
  replace d0 := he2.cell' d0
  replace d1 := he2.cell' d1
  replace z0 := he2.cell' z0
  replace z1 := he2.cell' z1
  replace y0 := he2.cell' y0
  replace y1 := he2.cell' y1
  replace hr := hr.ext he2
  replace HE := HE.trans he2
  clear he2 h1 hq
  have hv4 : val B32 [3] + val B32 [1] = 4 := by simp [val]
  rw [hv4, dig_one (by omega) (by omega)] at h4
  obtain rfl : n4 = 1 := h4.int_len.symm
  clear hv4
  go_wp2_with fail
  refine (nat_Sub_any a' ar 1 cap' 1 cr [2] [1] _ (HS2.out.ext HE) hr (by intro d hd; simp at hd; subst hd; decide) ws1 (by omega) (by omega)).mono ?_
  rintro e w3 ⟨a5, n5, c5, rfl, h5, he3⟩
  replace qz0 := (he3.frozen (p := ⟨w.heap.size + 1 + 1, 0, none⟩) (World.block_lt_of_cell? w2 _ z0)).trans qz0
  replace qz1 := (he3.frozen (p := ⟨w.heap.size + 1 + 1, 1, none⟩) (World.block_lt_of_cell? w2 _ z1)).trans qz1
  replace qy0 := (he3.frozen (p := ⟨w.heap.size + 1 + 1 + 1, 0, none⟩) (World.block_lt_of_cell? w2 _ y0)).trans qy0
  replace qy1 := (he3.frozen (p := ⟨w.heap.size + 1 + 1 + 1, 1, none⟩) (World.block_lt_of_cell? w2 _ y1)).trans qy1
  replace c0 := he3.cell' c0
  replace c1 := he3.cell' c1
  replace d0 := he3.cell' d0
  replace d1 := he3.cell' d1
  replace z0 := he3.cell' z0
  replace z1 := he3.cell' z1
  replace y0 := he3.cell' y0
  replace y1 := he3.cell' y1
  replace h4 := h4.ext he3
  replace HE := HE.trans he3
  clear he3 hr
  have hv5 : val B32 [2] - val B32 [1] = 1 := by simp [val]
  rw [hv5, dig_one (by omega) (by omega)] at h5
  obtain rfl : n5 = 1 := h5.int_len.symm
  generalize decide (val B32 [1] ≤ val B32 [2]) = bb at *
  clear hv5
  rw [← dig_one (d := 4) (by omega) (by omega)] at h4
  rw [← dig_one (d := 1) (by omega) (by omega)] at h5
  go_wp2_with fail
  refine (w_clean_any true a4 1 c4 4 _ h4).mono ?_
  rintro e w4 ⟨a6, n6, c6, rfl, h6, he4⟩
  replace qz0 := (he4.frozen (p := ⟨w.heap.size + 1 + 1, 0, none⟩) (World.block_lt_of_cell? w3 _ z0)).trans qz0
  replace qz1 := (he4.frozen (p := ⟨w.heap.size + 1 + 1, 1, none⟩) (World.block_lt_of_cell? w3 _ z1)).trans qz1
  replace qy0 := (he4.frozen (p := ⟨w.heap.size + 1 + 1 + 1, 0, none⟩) (World.block_lt_of_cell? w3 _ y0)).trans qy0
  replace qy1 := (he4.frozen (p := ⟨w.heap.size + 1 + 1 + 1, 1, none⟩) (World.block_lt_of_cell? w3 _ y1)).trans qy1
  replace c0 := he4.cell' c0
  replace c1 := he4.cell' c1
  replace d0 := he4.cell' d0
  replace d1 := he4.cell' d1
  replace z0 := he4.cell' z0
  replace z1 := he4.cell' z1
  replace y0 := he4.cell' y0
  replace y1 := he4.cell' y1
  replace h5 := h5.ext he4
  replace HE := HE.trans he4
  clear he4 h4
  rw [show decide (wz true 4 < 0) = true by decide]
  rw [show (wz true 4).natAbs = 4 by decide] at h6
  go_wp2_with fail
  refine (w_clean_any false a5 1 c5 1 _ h5).mono ?_
  rintro e w5 ⟨a7, n7, c7, rfl, h7, he5⟩
  replace qz0 := (he5.frozen (p := ⟨w.heap.size + 1 + 1, 0, none⟩) (World.block_lt_of_cell? w4 _ z0)).trans qz0
  replace qz1 := (he5.frozen (p := ⟨w.heap.size + 1 + 1, 1, none⟩) (World.block_lt_of_cell? w4 _ z1)).trans qz1
  replace qy0 := (he5.frozen (p := ⟨w.heap.size + 1 + 1 + 1, 0, none⟩) (World.block_lt_of_cell? w4 _ y0)).trans qy0
  replace qy1 := (he5.frozen (p := ⟨w.heap.size + 1 + 1 + 1, 1, none⟩) (World.block_lt_of_cell? w4 _ y1)).trans qy1
  replace c0 := he5.cell' c0
  replace c1 := he5.cell' c1
  replace d0 := he5.cell' d0
  replace d1 := he5.cell' d1
  replace z0 := he5.cell' z0
  replace z1 := he5.cell' z1
  replace y0 := he5.cell' y0
  replace y1 := he5.cell' y1
  replace h6 := h6.ext he5
  replace HE := HE.trans he5
  clear he5 h5
  rw [show decide (wz false 1 < 0) = false by decide]
  rw [show (wz false 1).natAbs = 1 by decide] at h7
  obtain rfl : n6 = 1 := by have := h6.int_len; rw [dig_one (by omega) (by omega)] at this; exact this.symm
  obtain rfl : n7 = 1 := by have := h7.int_len; rw [dig_one (by omega) (by omega)] at this; exact this.symm
  have H6 := hidP h6; have H7 := hidP h7; have HEE := hidP HE
  clear h6 h7 HE c0 c1 d0 d1
  go_wp2_with fail
  refine bodyPost_cells2_tmp rfl rfl rfl Try.underlying51 rfl (by kernel_rfl) (by kernel_rfl) (two (by go_simp; try rfl) (by go_simp; try rfl)) (two (by go_simp; try rfl) (by go_simp; try rfl)) rfl rfl ?_
  have hS : ∀ (aa : Option Addr) (nn cc m : Nat), Sl w5 aa nn cc (ints .u32 (dig B32 m)) → ∀ v0 v1 v2 v3 : Value, Sl ((((w5.setCell ⟨w.heap.size + 1 + 1, 0, none⟩ v0).setCell ⟨w.heap.size + 1 + 1, 1, none⟩ v1).setCell ⟨w.heap.size + 1 + 1 + 1, 0, none⟩ v2).setCell ⟨w.heap.size + 1 + 1 + 1, 1, none⟩ v3) aa nn cc (ints .u32 (dig B32 m)) := by
    intro aa nn cc m h v0 v1 v2 v3
    refine (((h.set v0 z0 (fun x hx => by cases hx)).set v1 (old := .slice none 0 0) ?_ (fun x hx => by cases hx)).set v2 (old := .bool false) ?_ (fun x hx => by cases hx)).set v3 (old := .slice none 0 0) ?_ (fun x hx => by cases hx)
    · rw [World.cell?_setCell_other _ _ _ _ (by simp)]; exact z1
    · rw [World.cell?_setCell_other _ _ _ _ (by simp), World.cell?_setCell_other _ _ _ _ (by simp)]; exact y0
    · rw [World.cell?_setCell_other _ _ _ _ (by simp), World.cell?_setCell_other _ _ _ _ (by simp), World.cell?_setCell_other _ _ _ _ (by simp)]; exact y1
  refine ⟨a6, 1, c6, a7, 1, c7, rfl, ⟨⟨_, hS _ _ _ _ H6.out _ _ _ _, Ws.dig _, by rw [val_dig B32_two]; rfl⟩, by omega⟩, ⟨⟨_, hS _ _ _ _ H7.out _ _ _ _, Ws.dig _, by rw [val_dig B32_two]; rfl⟩, by omega⟩, ?_⟩
  refine (((HEE.out.store ?_ _).store ?_ _).store ?_ _).store ?_ _ <;> (simp only []; omega)

end Go.Proofs.Ytcipcpbjkcpgdaa

namespace Go.Proofs.Ytcipcpbjkcpgdaa
set_option linter.unusedVariables false
open Go Go.RowKit

set_option maxRecDepth 100000 in
set_option maxHeartbeats 1000000 in
theorem r02_Same_eq (neg : Bool) (a a' : Option Addr) (n cap n' cap' : Nat) (x : List Nat) (w : World) (hs : Sl w a n cap (ints .u32 x)) (hs' : Sl w a' n' cap' (ints .u32 x)) (hn : n ≤ 1099511627776) :
    Calls Try.prog 49 #[.agg #[.bool neg, .slice a n cap], .agg #[.bool neg, .slice a' n' cap']] w fun e w' => e = .returned (.bool true) ∧ Ext w w' := by
  have hbe : (neg == neg) = true := by simp
  go_enter Try.func49, Try.ntmps49
  go_wp2_with fail
  refine (r01_Same_any a a' n cap n' cap' x x _ (hs.ext (((Ext.refl _).alloc _).alloc _)) (hs'.ext (((Ext.refl _).alloc _).alloc _)) hn).mono ?_
  rw [decide_eq_true rfl]
  rintro e w1 ⟨rfl, he1⟩
  go_wp2_with fail
  go_ret
  exact ⟨rfl, (((Ext.refl _).alloc _).alloc _).trans he1⟩

theorem live_m4 : textZ (-4) = ⟨#[45, 52]⟩ := by
  have h : decD 4 = [4] := decD_small (by omega)
  unfold textZ
  rw [if_pos (by decide)]
  show _ ++ decS 4 = _
  unfold decS
  rw [h]; rfl
theorem live_1 : textZ 1 = ⟨#[49]⟩ := by
  have h : decD 1 = [1] := decD_small (by omega)
  unfold textZ
  rw [if_neg (by decide)]
  show decS 1 = _
  unfold decS
  rw [h]; rfl

set_option maxRecDepth 100000 in
set_option maxHeartbeats 2000000 in
theorem w_lives_any (w : World) : Calls Try.prog 50 #[] w fun e w' => e = .returned (.bool true) ∧ Ext w w' := by
  have hd4 : (decD (-4 : Int).natAbs).length ≤ 35184372088832 := by
    have : decD 4 = [4] := decD_small (by omega)
    show (decD 4).length ≤ _
    rw [this]; simp
  have hd1 : (decD (1 : Int).natAbs).length ≤ 35184372088832 := by
    have : decD 1 = [1] := decD_small (by omega)
    show (decD 1).length ≤ _
    rw [this]; simp
  have HD4 := hidP hd4; have HD1 := hidP hd1
  clear hd4 hd1
  go_enter Try.func50, Try.ntmps50
  go_wp2_with fail
  refine (w_Of_any (-7) _ (by omega) (by omega)).mono ?_
  rintro e w1 ⟨a1, n1, c1, rfl, hs1, HE⟩
  rw [show decide ((-7 : Int) < 0) = true by decide]
  rw [show (-7 : Int).natAbs = 7 by decide] at hs1
  go_wp2_with fail
  refine (w_Of_any 2 _ (by omega) (by omega)).mono ?_
  rintro e w2 ⟨a2, n2, c2, rfl, hs2, he⟩
  rw [show decide ((2 : Int) < 0) = false by decide]
  rw [show (2 : Int).natAbs = 2 by decide] at hs2
  replace hs1 := hs1.ext he
  replace HE := HE.trans he
  clear he
  go_wp2_with fail
  refine (w_Div_live a1 a2 n1 c1 n2 c2 _ hs1 hs2).mono ?_
  rintro e w3 ⟨a3, n3, c3, a4, n4, c4, rfl, hq, hr, he⟩
  replace HE := HE.trans he
  clear he hs1 hs2
  go_wp2_with fail
  have he3 : Ext w3 ((w3.alloc (.cells #[.bool true, .slice a3 n3 c3] 51)).alloc (.cells #[.bool false, .slice a4 n4 c4] 51)) := ((Ext.refl _).alloc _).alloc _
  refine (w_Text_any true a3 n3 c3 (-4) _ (hq.ext he3) HD4.out).mono ?_
  rw [live_m4]
  rintro e w4 ⟨rfl, he⟩
  have y0 := he.cell' (p := ⟨w3.heap.size + 1, 0, none⟩) (v := .bool false) (by go_simp; try rfl)
  have y1 := he.cell' (p := ⟨w3.heap.size + 1, 1, none⟩) (v := .slice a4 n4 c4) (by go_simp; try rfl)
  replace he := he3.trans he
  replace hr := hr.ext he
  replace HE := HE.trans he
  clear he he3 hq
  go_wp2_with fail
  refine (w_Text_any false a4 n4 c4 1 _ hr HD1.out).mono ?_
  rw [live_1]
  rintro e w5 ⟨rfl, he⟩
  replace HE := HE.trans he
  clear he y0 y1 hr
  go_wp2_with fail
  refine (w_Of_any (-3) _ (by omega) (by omega)).mono ?_
  rintro e w6 h6
  obtain ⟨a6, n6, c6, rfl, hw6, hs6, he⟩ := h6.whIn (by rw [show (-3 : Int).natAbs = 3 by decide, dig_one (by omega) (by omega)]; simp)
  rw [show decide ((-3 : Int) < 0) = true by decide] at hw6 ⊢
  replace HE := HE.trans he
  clear he hs6 h6
  go_wp2_with fail
  refine (w_Sign_any true a6 n6 c6 (-3) _ hw6).mono ?_
  rw [show sgn (-3) = -1 by decide]
  rintro e w7 ⟨rfl, he⟩
  go_wp2_with fail
  go_ret
  exact ⟨rfl, HE.trans he⟩

end Go.Proofs.Ytcipcpbjkcpgdaa

namespace Go.Proofs.Ytcipcpbjkcpgdaa
set_option linter.unusedVariables false
open Go Go.RowKit

set_option maxRecDepth 100000 in
set_option maxHeartbeats 4000000 in
theorem w_Add_any (neg neg' : Bool) (a a' : Option Addr) (n cap n' cap' : Nat) (z z' : Int) (w : World) (hw : WhIn w neg a n cap z) (hw' : WhIn w neg' a' n' cap' z') :
    Calls Try.prog 68 #[.agg #[.bool neg, .slice a n cap], .agg #[.bool neg', .slice a' n' cap']] w (RetW w (z + z')) := by
  obtain ⟨⟨l, hs, hl, hz⟩, hn⟩ := hw
  obtain ⟨⟨l', hs', hl', hz'⟩, hn'⟩ := hw'
  have HS := hidP hs; have HS' := hidP hs'
  clear hs hs'
  by_cases hb : neg = neg'
  · subst hb
    have hzz : wz neg (val B32 l + val B32 l') = z + z' := by rw [add_same, hz, hz']
    have hbe : (neg == neg) = true := by simp
    have HZ := hidP hzz
    clear hz hz' hzz
    go_enter Try.func68, Try.ntmps68
    go_upto_region 2 with fail
    obtain ⟨w0, hw0⟩ : ∃ w0 : World, w0 = World.drew (((w.alloc (.cells #[.bool neg, .slice a n cap] 51)).alloc (.cells #[.bool neg, .slice a' n' cap'] 51)).alloc (.cells #[.bool false, .slice none 0 0] 51)) := ⟨_, rfl⟩
    have c0 : w0.cell? ⟨w.heap.size, 0, none⟩ = some (.bool neg) := by rw [hw0]; go_simp; try rfl
    have c1 : w0.cell? ⟨w.heap.size, 1, none⟩ = some (.slice a n cap) := by rw [hw0]; go_simp; try rfl
    have d0 : w0.cell? ⟨w.heap.size + 1, 0, none⟩ = some (.bool neg) := by rw [hw0]; go_simp; try rfl
    have d1 : w0.cell? ⟨w.heap.size + 1, 1, none⟩ = some (.slice a' n' cap') := by rw [hw0]; go_simp; try rfl
    have z0 : w0.cell? ⟨w.heap.size + 1 + 1, 0, none⟩ = some (.bool false) := by rw [hw0]; go_simp; try rfl
    have qz0 : w0.frozen? ⟨w.heap.size + 1 + 1, 0, none⟩ = false := by rw [hw0]; go_simp; try rfl
    have z1 : w0.cell? ⟨w.heap.size + 1 + 1, 1, none⟩ = some (.slice none 0 0) := by rw [hw0]; go_simp; try rfl
    have qz1 : w0.frozen? ⟨w.heap.size + 1 + 1, 1, none⟩ = false := by rw [hw0]; go_simp; try rfl
    have HE : Ext w w0 := by rw [hw0]; exact ((((Ext.refl _).alloc _).alloc _).alloc _).drew
    refine wp_region_plan (R := Ext) (.q 0 (.q 1 (.q 2 (.q 3 (.q 4 (.q 5 (.l 6 (.l 7 (.b 8 .done))))))))) (by kernel_rfl) (by kernel_rfl) (by kernel_rfl) (by kernel_rfl) Ext.refl (fun _ _ _ => Ext.trans) ?_
    rw [← hw0]
    clear hw0
    repeat (refine wpE_q (v := ?_) rfl rfl (fun u hu => ?_) ?_; rotate_left 1; (focus ((have k0 := hu.cell' c0; have k1 := hu.cell' c1; have k2 := hu.cell' d0; have k3 := hu.cell' d1); go_simp; (try rfl))); simp only [Act.put, List.setIfInBounds_toArray, List.set_cons_zero, List.set_cons_succ])
    refine wpE_l rfl rfl (fun K hK => ?_)
    go_simp
    refine (nat_Add_any a a' n cap n' cap' l l' _ (HS.out.ext HE) (HS'.out.ext HE) hl hl' (by omega) (by omega)).mono ?_
    rintro e w1 ⟨a1, n1, cap1, rfl, hs1, he1⟩
    refine hK.out _ _ he1 ?_
    clear hK K
    have hgl : w.heap.size + 1 + 1 < w0.heap.size := World.block_lt_of_cell? w0 _ z0
    replace z0 := he1.cell' z0
    replace qz0 := (he1.frozen (p := ⟨w.heap.size + 1 + 1, 0, none⟩) hgl).trans qz0
    replace z1 := he1.cell' z1
    replace qz1 := (he1.frozen (p := ⟨w.heap.size + 1 + 1, 1, none⟩) hgl).trans qz1
    clear hgl
    clear c0 c1 d0 d1
    replace HE := HE.trans he1
    clear he1
    try simp only [Act.put, List.setIfInBounds_toArray, List.set_cons_zero, List.set_cons_succ]
    refine wpE_l rfl rfl (fun K hK => ?_)
    go_simp
    refine (w_clean_any neg a1 n1 cap1 _ _ hs1).mono ?_
    rw [HZ.out]
    rintro e w2 ⟨a2, n2, cap2, rfl, hs2, he2⟩
    refine hK.out _ _ he2 ?_
    clear hK K
    have hgl : w.heap.size + 1 + 1 < w1.heap.size := World.block_lt_of_cell? w1 _ z0
    replace z0 := he2.cell' z0
    replace qz0 := (he2.frozen (p := ⟨w.heap.size + 1 + 1, 0, none⟩) hgl).trans qz0
    replace z1 := he2.cell' z1
    replace qz1 := (he2.frozen (p := ⟨w.heap.size + 1 + 1, 1, none⟩) hgl).trans qz1
    clear hgl
    replace HE := HE.trans he2
    clear he2 hs1
    try simp only [Act.put, List.setIfInBounds_toArray, List.set_cons_zero, List.set_cons_succ]
    refine wpE_b rfl rfl (fun K hK => ?_)
    go_simp
    refine hK.out _ _ ?_
    clear hK K
    try simp only [Act.put, List.setIfInBounds_toArray, List.set_cons_zero, List.set_cons_succ]
    refine wpE_done ?_
    go_wp2_with fail
    refine bodyPost_cells rfl rfl Try.underlying51 rfl (by kernel_rfl) (two (by go_simp; try rfl) (by go_simp; try rfl)) rfl ?_
    exact RetW.stored z0 z1 hs2 HE (by omega) rfl
  · have hbe : (neg == neg') = false := by simpa using hb
    have HB := hidP hb
    clear hb
    by_cases hc : val B32 l' ≤ val B32 l
    · have hzz : wz neg (val B32 l - val B32 l') = z + z' := by rw [add_other HB.out hc, hz, hz']
      have HZ := hidP hzz
      have HC := hidP (decide_eq_true hc)
      clear hz hz' hzz hc
      go_enter Try.func68, Try.ntmps68
      go_wp2_with fail
      refine (nat_Sub_any a a' n cap n' cap' l l' _ (HS.out.ext ((((Ext.refl _).alloc _).alloc _).alloc _)) (HS'.out.ext ((((Ext.refl _).alloc _).alloc _).alloc _)) hl hl' (by omega) (by omega)).mono ?_
      rw [HC.out]
      rintro e w1 ⟨a1, n1, cap1, rfl, hs1, he1⟩
      have c0 := he1.cell' (p := ⟨w.heap.size, 0, none⟩) (v := .bool neg) (by go_simp; try rfl)
      have c1 := he1.cell' (p := ⟨w.heap.size, 1, none⟩) (v := .slice a n cap) (by go_simp; try rfl)
      have d0 := he1.cell' (p := ⟨w.heap.size + 1, 0, none⟩) (v := .bool neg') (by go_simp; try rfl)
      have d1 := he1.cell' (p := ⟨w.heap.size + 1, 1, none⟩) (v := .slice a' n' cap') (by go_simp; try rfl)
      have z0 := he1.cell' (p := ⟨w.heap.size + 1 + 1, 0, none⟩) (v := .bool false) (by go_simp; try rfl)
      have qz0 : w1.frozen? ⟨w.heap.size + 1 + 1, 0, none⟩ = false := (he1.frozen (p := ⟨w.heap.size + 1 + 1, 0, none⟩) (by simp)).trans (by go_simp)
      have z1 := he1.cell' (p := ⟨w.heap.size + 1 + 1, 1, none⟩) (v := .slice none 0 0) (by go_simp; try rfl)
      have qz1 : w1.frozen? ⟨w.heap.size + 1 + 1, 1, none⟩ = false := (he1.frozen (p := ⟨w.heap.size + 1 + 1, 1, none⟩) (by simp)).trans (by go_simp)
      have HE : Ext w w1 := ((((Ext.refl _).alloc _).alloc _).alloc _).trans he1
      clear he1
      go_wp2_with fail
      refine (w_clean_any neg a1 n1 cap1 _ _ hs1).mono ?_
      rw [HZ.out]
      rintro e w3 ⟨a3, n3, cap3, rfl, hs3, he3⟩
      replace qz0 := (he3.frozen (p := ⟨w.heap.size + 1 + 1, 0, none⟩) (World.block_lt_of_cell? w1 _ z0)).trans qz0
      replace qz1 := (he3.frozen (p := ⟨w.heap.size + 1 + 1, 1, none⟩) (World.block_lt_of_cell? w1 _ z1)).trans qz1
      replace c0 := he3.cell' c0
      replace c1 := he3.cell' c1
      replace d0 := he3.cell' d0
      replace d1 := he3.cell' d1
      replace z0 := he3.cell' z0
      replace z1 := he3.cell' z1
      replace HE := HE.trans he3
      clear he3
      go_wp2_with fail
      refine bodyPost_cells rfl rfl Try.underlying51 rfl (by kernel_rfl) (two (by go_simp; try rfl) (by go_simp; try rfl)) rfl ?_
      exact RetW.stored z0 z1 hs3 HE (by omega) rfl
    · have hlt : val B32 l < val B32 l' := by omega
      have hzz : wz neg' (val B32 l' - val B32 l) = z + z' := by rw [add_other' HB.out (Nat.le_of_lt hlt), hz, hz']
      have HZ := hidP hzz
      have HC := hidP (decide_eq_false hc)
      have HC2 := hidP (decide_eq_true (Nat.le_of_lt hlt))
      clear hz hz' hzz hc hlt
      go_enter Try.func68, Try.ntmps68
      go_wp2_with fail
      refine (nat_Sub_any a a' n cap n' cap' l l' _ (HS.out.ext ((((Ext.refl _).alloc _).alloc _).alloc _)) (HS'.out.ext ((((Ext.refl _).alloc _).alloc _).alloc _)) hl hl' (by omega) (by omega)).mono ?_
      rw [HC.out]
      rintro e w1 ⟨a1, n1, cap1, rfl, hs1, he1⟩
      have c0 := he1.cell' (p := ⟨w.heap.size, 0, none⟩) (v := .bool neg) (by go_simp; try rfl)
      have c1 := he1.cell' (p := ⟨w.heap.size, 1, none⟩) (v := .slice a n cap) (by go_simp; try rfl)
      have d0 := he1.cell' (p := ⟨w.heap.size + 1, 0, none⟩) (v := .bool neg') (by go_simp; try rfl)
      have d1 := he1.cell' (p := ⟨w.heap.size + 1, 1, none⟩) (v := .slice a' n' cap') (by go_simp; try rfl)
      have z0 := he1.cell' (p := ⟨w.heap.size + 1 + 1, 0, none⟩) (v := .bool false) (by go_simp; try rfl)
      have qz0 : w1.frozen? ⟨w.heap.size + 1 + 1, 0, none⟩ = false := (he1.frozen (p := ⟨w.heap.size + 1 + 1, 0, none⟩) (by simp)).trans (by go_simp)
      have z1 := he1.cell' (p := ⟨w.heap.size + 1 + 1, 1, none⟩) (v := .slice none 0 0) (by go_simp; try rfl)
      have qz1 : w1.frozen? ⟨w.heap.size + 1 + 1, 1, none⟩ = false := (he1.frozen (p := ⟨w.heap.size + 1 + 1, 1, none⟩) (by simp)).trans (by go_simp)
      have HE : Ext w w1 := ((((Ext.refl _).alloc _).alloc _).alloc _).trans he1
      clear he1 hs1
      go_wp2_with fail
      refine (nat_Sub_any a' a n' cap' n cap l' l _ (HS'.out.ext HE) (HS.out.ext HE) hl' hl (by omega) (by omega)).mono ?_
      rw [HC2.out]
      rintro e w2 ⟨a2, n2, cap2, rfl, hs2, he2⟩
      replace qz0 := (he2.frozen (p := ⟨w.heap.size + 1 + 1, 0, none⟩) (World.block_lt_of_cell? w1 _ z0)).trans qz0
      replace qz1 := (he2.frozen (p := ⟨w.heap.size + 1 + 1, 1, none⟩) (World.block_lt_of_cell? w1 _ z1)).trans qz1
      replace c0 := he2.cell' c0
      replace c1 := he2.cell' c1
      replace d0 := he2.cell' d0
      replace d1 := he2.cell' d1
      replace z0 := he2.cell' z0
      replace z1 := he2.cell' z1
      replace HE := HE.trans he2
      clear he2
      go_wp2_with fail
      refine (w_clean_any neg' a2 n2 cap2 _ _ hs2).mono ?_
      rw [HZ.out]
      rintro e w3 ⟨a3, n3, cap3, rfl, hs3, he3⟩
      replace qz0 := (he3.frozen (p := ⟨w.heap.size + 1 + 1, 0, none⟩) (World.block_lt_of_cell? w2 _ z0)).trans qz0
      replace qz1 := (he3.frozen (p := ⟨w.heap.size + 1 + 1, 1, none⟩) (World.block_lt_of_cell? w2 _ z1)).trans qz1
      replace c0 := he3.cell' c0
      replace c1 := he3.cell' c1
      replace d0 := he3.cell' d0
      replace d1 := he3.cell' d1
      replace z0 := he3.cell' z0
      replace z1 := he3.cell' z1
      replace HE := HE.trans he3
      clear he3
      go_wp2_with fail
      refine bodyPost_cells rfl rfl Try.underlying51 rfl (by kernel_rfl) (two (by go_simp; try rfl) (by go_simp; try rfl)) rfl ?_
      exact RetW.stored z0 z1 hs3 HE (by omega) rfl

end Go.Proofs.Ytcipcpbjkcpgdaa

namespace Go.Proofs.Ytcipcpbjkcpgdaa
set_option linter.unusedVariables false
open Go Go.RowKit

set_option maxRecDepth 100000 in
set_option maxHeartbeats 1000000 in
theorem w_Neg_any (neg : Bool) (a : Option Addr) (n cap : Nat) (z : Int) (w : World) (hw : WhIn w neg a n cap z) :
    Calls Try.prog 78 #[.agg #[.bool neg, .slice a n cap]] w (RetW w (-z)) := by
  obtain ⟨⟨l, hs, hl, hz⟩, hn⟩ := hw
  have hzz : wz (!neg) (val B32 l) = -z := by rw [wz_not, hz]
  have HZ := hidP hzz
  clear hz hzz
  go_enter Try.func78, Try.ntmps78
  go_wp2_with fail
  refine (w_Make_any (!neg) a n cap l _ (hs.ext (((Ext.refl _).alloc _).alloc _)) hl (by omega)).mono ?_
  rw [HZ.out]
  rintro e w1 ⟨a1, n1, cap1, rfl, hs1, he1⟩
  have z0 := he1.cell' (p := ⟨w.heap.size + 1, 0, none⟩) (v := .bool false) (by go_simp; try rfl)
  have qz0 : w1.frozen? ⟨w.heap.size + 1, 0, none⟩ = false := (he1.frozen (p := ⟨w.heap.size + 1, 0, none⟩) (by simp)).trans (by go_simp)
  have z1 := he1.cell' (p := ⟨w.heap.size + 1, 1, none⟩) (v := .slice none 0 0) (by go_simp; try rfl)
  have qz1 : w1.frozen? ⟨w.heap.size + 1, 1, none⟩ = false := (he1.frozen (p := ⟨w.heap.size + 1, 1, none⟩) (by simp)).trans (by go_simp)
  have HE : Ext w w1 := (((Ext.refl _).alloc _).alloc _).trans he1
  clear he1
  go_wp2_with fail
  refine bodyPost_cells rfl rfl Try.underlying51 rfl (by kernel_rfl) (two (by go_simp; try rfl) (by go_simp; try rfl)) rfl ?_
  exact RetW.stored z0 z1 hs1 HE (Nat.le_succ _) (by simp)

theorem WhIn.not {w : World} {neg : Bool} {a : Option Addr} {n cap : Nat} {z : Int} (h : WhIn w neg a n cap z) : WhIn w (!neg) a n cap (-z) :=
  let ⟨⟨l, h1, h2, h3⟩, h4⟩ := h; ⟨⟨l, h1, h2, by rw [wz_not, h3]⟩, h4⟩

set_option maxRecDepth 100000 in
set_option maxHeartbeats 2000000 in
theorem w_Sub_any (neg neg' : Bool) (a a' : Option Addr) (n cap n' cap' : Nat) (z z' : Int) (w : World) (hw : WhIn w neg a n cap z) (hw' : WhIn w neg' a' n' cap' z') :
    Calls Try.prog 70 #[.agg #[.bool neg, .slice a n cap], .agg #[.bool neg', .slice a' n' cap']] w (RetW w (z - z')) := by
  have HW := hidP hw; have HW' := hidP hw'.not
  clear hw hw'
  go_enter Try.func70, Try.ntmps70
  go_wp2_with fail
  refine (w_Add_any neg (!neg') a a' n cap n' cap' z (-z') _ (HW.out.ext ((((Ext.refl _).alloc _).alloc _).alloc _)) (HW'.out.ext ((((Ext.refl _).alloc _).alloc _).alloc _))).mono ?_
  rintro e w1 ⟨a1, n1, cap1, rfl, hs1, he1⟩
  have z0 := he1.cell' (p := ⟨w.heap.size + 1 + 1, 0, none⟩) (v := .bool false) (by go_simp; try rfl)
  have qz0 : w1.frozen? ⟨w.heap.size + 1 + 1, 0, none⟩ = false := (he1.frozen (p := ⟨w.heap.size + 1 + 1, 0, none⟩) (by simp)).trans (by go_simp)
  have z1 := he1.cell' (p := ⟨w.heap.size + 1 + 1, 1, none⟩) (v := .slice none 0 0) (by go_simp; try rfl)
  have qz1 : w1.frozen? ⟨w.heap.size + 1 + 1, 1, none⟩ = false := (he1.frozen (p := ⟨w.heap.size + 1 + 1, 1, none⟩) (by simp)).trans (by go_simp)
  have HE : Ext w w1 := ((((Ext.refl _).alloc _).alloc _).alloc _).trans he1
  clear he1
  go_wp2_with fail
  refine bodyPost_cells rfl rfl Try.underlying51 rfl (by kernel_rfl) (two (by go_simp; try rfl) (by go_simp; try rfl)) rfl ?_
  exact RetW.stored z0 z1 hs1 HE (by omega) rfl

theorem wz_mul (b b' : Bool) (x y : Nat) : wz (b != b') (x * y) = wz b x * wz b' y := by
  unfold wz
  cases b <;> cases b' <;> simp [Int.neg_mul, Int.mul_neg]

set_option maxRecDepth 100000 in
set_option maxHeartbeats 2000000 in
theorem w_Mul_any (neg neg' : Bool) (a a' : Option Addr) (n cap n' cap' : Nat) (z z' : Int) (w : World) (hw : WhIn w neg a n cap z) (hw' : WhIn w neg' a' n' cap' z') :
    Calls Try.prog 72 #[.agg #[.bool neg, .slice a n cap], .agg #[.bool neg', .slice a' n' cap']] w (RetW w (z * z')) := by
  obtain ⟨⟨l, hs, hl, hz⟩, hn⟩ := hw
  obtain ⟨⟨l', hs', hl', hz'⟩, hn'⟩ := hw'
  have hln := hs.int_len
  have hln' := hs'.int_len
  have hzz : wz (neg != neg') (val B32 l * val B32 l') = z * z' := by rw [wz_mul, hz, hz']
  have hlen : (dig B32 (val B32 l * val B32 l')).length ≤ 1099511627776 := by
    refine Nat.le_trans (dig_len_le (k := n + n') B32_two ?_) (by omega)
    have h1 := val_lt (B := B32) (by decide) l hl
    have h2 := val_lt (B := B32) (by decide) l' hl'
    rw [hln] at h1
    rw [hln'] at h2
    rw [Nat.pow_add]
    exact Nat.mul_lt_mul'' h1 h2
  have HS := hidP hs; have HS' := hidP hs'
  obtain ⟨nb, hnb⟩ : ∃ nb, nb = (neg != neg') := ⟨_, rfl⟩
  rw [← hnb] at hzz
  have HZ := hidP hzz; have HLEN := hidP hlen
  clear hz hz' hzz hlen hln hln' hs hs'
  have hne : (!(neg == neg')) = nb := hnb.symm
  clear hnb
  go_enter Try.func72, Try.ntmps72
  go_upto_region 1 with fail
  obtain ⟨w0, hw0⟩ : ∃ w0 : World, w0 = World.drew (((w.alloc (.cells #[.bool neg, .slice a n cap] 51)).alloc (.cells #[.bool neg', .slice a' n' cap'] 51)).alloc (.cells #[.bool false, .slice none 0 0] 51)) := ⟨_, rfl⟩
  have c0 : w0.cell? ⟨w.heap.size, 0, none⟩ = some (.bool neg) := by rw [hw0]; go_simp; try rfl
  have c1 : w0.cell? ⟨w.heap.size, 1, none⟩ = some (.slice a n cap) := by rw [hw0]; go_simp; try rfl
  have d0 : w0.cell? ⟨w.heap.size + 1, 0, none⟩ = some (.bool neg') := by rw [hw0]; go_simp; try rfl
  have d1 : w0.cell? ⟨w.heap.size + 1, 1, none⟩ = some (.slice a' n' cap') := by rw [hw0]; go_simp; try rfl
  have z0 : w0.cell? ⟨w.heap.size + 1 + 1, 0, none⟩ = some (.bool false) := by rw [hw0]; go_simp; try rfl
  have qz0 : w0.frozen? ⟨w.heap.size + 1 + 1, 0, none⟩ = false := by rw [hw0]; go_simp; try rfl
  have z1 : w0.cell? ⟨w.heap.size + 1 + 1, 1, none⟩ = some (.slice none 0 0) := by rw [hw0]; go_simp; try rfl
  have qz1 : w0.frozen? ⟨w.heap.size + 1 + 1, 1, none⟩ = false := by rw [hw0]; go_simp; try rfl
  have HE : Ext w w0 := by rw [hw0]; exact ((((Ext.refl _).alloc _).alloc _).alloc _).drew
  refine wp_region_plan (R := Ext) (.q 0 (.q 1 (.q 2 (.q 3 (.q 4 (.q 5 (.q 6 (.q 7 (.q 8 (.l 9 (.l 10 (.b 11 .done)))))))))))) (by kernel_rfl) (by kernel_rfl) (by kernel_rfl) (by kernel_rfl) Ext.refl (fun _ _ _ => Ext.trans) ?_
  rw [← hw0]
  clear hw0
  repeat (refine wpE_q (v := ?_) rfl rfl (fun u hu => ?_) ?_; rotate_left 1; (focus ((have k0 := hu.cell' c0; have k1 := hu.cell' c1; have k2 := hu.cell' d0; have k3 := hu.cell' d1); go_simp; (try rfl))); simp only [Act.put, List.setIfInBounds_toArray, List.set_cons_zero, List.set_cons_succ])
  refine wpE_l rfl rfl (fun K hK => ?_)
  go_simp
  refine (nat_Mul_any a a' n cap n' cap' l l' _ (HS.out.ext HE) (HS'.out.ext HE) hl hl' (by omega) (by omega)).mono ?_
  rintro e w1 ⟨a1, n1, cap1, rfl, hs1, he1⟩
  refine hK.out _ _ he1 ?_
  clear hK K
  have hgl : w.heap.size + 1 + 1 < w0.heap.size := World.block_lt_of_cell? w0 _ z0
  replace z0 := he1.cell' z0
  replace qz0 := (he1.frozen (p := ⟨w.heap.size + 1 + 1, 0, none⟩) hgl).trans qz0
  replace z1 := he1.cell' z1
  replace qz1 := (he1.frozen (p := ⟨w.heap.size + 1 + 1, 1, none⟩) hgl).trans qz1
  clear hgl
  clear c0 c1 d0 d1
  replace HE := HE.trans he1
  clear he1
  try simp only [Act.put, List.setIfInBounds_toArray, List.set_cons_zero, List.set_cons_succ]
  refine wpE_l rfl rfl (fun K hK => ?_)
  go_simp
  refine (w_clean_any nb a1 n1 cap1 _ _ hs1).mono ?_
  rw [HZ.out]
  rintro e w2 ⟨a2, n2, cap2, rfl, hs2, he2⟩
  refine hK.out _ _ he2 ?_
  clear hK K
  have hgl : w.heap.size + 1 + 1 < w1.heap.size := World.block_lt_of_cell? w1 _ z0
  replace z0 := he2.cell' z0
  replace qz0 := (he2.frozen (p := ⟨w.heap.size + 1 + 1, 0, none⟩) hgl).trans qz0
  replace z1 := he2.cell' z1
  replace qz1 := (he2.frozen (p := ⟨w.heap.size + 1 + 1, 1, none⟩) hgl).trans qz1
  clear hgl
  replace HE := HE.trans he2
  clear he2 hs1
  try simp only [Act.put, List.setIfInBounds_toArray, List.set_cons_zero, List.set_cons_succ]
  refine wpE_b rfl rfl (fun K hK => ?_)
  go_simp
  refine hK.out _ _ ?_
  clear hK K
  try simp only [Act.put, List.setIfInBounds_toArray, List.set_cons_zero, List.set_cons_succ]
  refine wpE_done ?_
  go_wp2_with fail
  refine bodyPost_cells rfl rfl Try.underlying51 rfl (by kernel_rfl) (two (by go_simp; try rfl) (by go_simp; try rfl)) rfl ?_
  exact RetW.stored z0 z1 hs2 HE (by omega) rfl

set_option maxRecDepth 100000 in
set_option maxHeartbeats 2000000 in
theorem r02_Mul_any (neg neg' : Bool) (a a' : Option Addr) (n cap n' cap' : Nat) (z z' : Int) (w : World) (hw : WhIn w neg a n cap z) (hw' : WhIn w neg' a' n' cap' z') :
    Calls Try.prog 73 #[.agg #[.bool neg, .slice a n cap], .agg #[.bool neg', .slice a' n' cap']] w (RetW w (z * z')) := by
  obtain ⟨⟨l, hs, hl, hz⟩, hn⟩ := hw
  obtain ⟨⟨l', hs', hl', hz'⟩, hn'⟩ := hw'
  have hln := hs.int_len
  have hln' := hs'.int_len
  have hzz : wz (neg != neg') (val B32 l * val B32 l') = z * z' := by rw [wz_mul, hz, hz']
  have hlen : (dig B32 (val B32 l * val B32 l')).length ≤ 1099511627776 := by
    refine Nat.le_trans (dig_len_le (k := n + n') B32_two ?_) (by omega)
    have h1 := val_lt (B := B32) (by decide) l hl
    have h2 := val_lt (B := B32) (by decide) l' hl'
    rw [hln] at h1
    rw [hln'] at h2
    rw [Nat.pow_add]
    exact Nat.mul_lt_mul'' h1 h2
  have HS := hidP hs; have HS' := hidP hs'
  obtain ⟨nb, hnb⟩ : ∃ nb, nb = (neg != neg') := ⟨_, rfl⟩
  rw [← hnb] at hzz
  have HZ := hidP hzz; have HLEN := hidP hlen
  clear hz hz' hzz hlen hln hln' hs hs'
  have hne : (!(neg == neg')) = nb := hnb.symm
  clear hnb
  go_enter Try.func73, Try.ntmps73
  go_upto_region 1 with fail
  obtain ⟨w0, hw0⟩ : ∃ w0 : World, w0 = World.drew (((w.alloc (.cells #[.bool neg, .slice a n cap] 51)).alloc (.cells #[.bool neg', .slice a' n' cap'] 51)).alloc (.cells #[.bool false, .slice none 0 0] 51)) := ⟨_, rfl⟩
  have c0 : w0.cell? ⟨w.heap.size, 0, none⟩ = some (.bool neg) := by rw [hw0]; go_simp; try rfl
  have c1 : w0.cell? ⟨w.heap.size, 1, none⟩ = some (.slice a n cap) := by rw [hw0]; go_simp; try rfl
  have d0 : w0.cell? ⟨w.heap.size + 1, 0, none⟩ = some (.bool neg') := by rw [hw0]; go_simp; try rfl
  have d1 : w0.cell? ⟨w.heap.size + 1, 1, none⟩ = some (.slice a' n' cap') := by rw [hw0]; go_simp; try rfl
  have z0 : w0.cell? ⟨w.heap.size + 1 + 1, 0, none⟩ = some (.bool false) := by rw [hw0]; go_simp; try rfl
  have qz0 : w0.frozen? ⟨w.heap.size + 1 + 1, 0, none⟩ = false := by rw [hw0]; go_simp; try rfl
  have z1 : w0.cell? ⟨w.heap.size + 1 + 1, 1, none⟩ = some (.slice none 0 0) := by rw [hw0]; go_simp; try rfl
  have qz1 : w0.frozen? ⟨w.heap.size + 1 + 1, 1, none⟩ = false := by rw [hw0]; go_simp; try rfl
  have HE : Ext w w0 := by rw [hw0]; exact ((((Ext.refl _).alloc _).alloc _).alloc _).drew
  refine wp_region_plan (R := Ext) (.q 0 (.q 1 (.q 2 (.q 3 (.q 4 (.q 5 (.q 6 (.q 7 (.q 8 (.l 9 (.l 10 (.b 11 .done)))))))))))) (by kernel_rfl) (by kernel_rfl) (by kernel_rfl) (by kernel_rfl) Ext.refl (fun _ _ _ => Ext.trans) ?_
  rw [← hw0]
  clear hw0
  repeat (refine wpE_q (v := ?_) rfl rfl (fun u hu => ?_) ?_; rotate_left 1; (focus ((have k0 := hu.cell' c0; have k1 := hu.cell' c1; have k2 := hu.cell' d0; have k3 := hu.cell' d1); go_simp; (try rfl))); simp only [Act.put, List.setIfInBounds_toArray, List.set_cons_zero, List.set_cons_succ])
  refine wpE_l rfl rfl (fun K hK => ?_)
  go_simp
  refine (r01_Mul_any a a' n cap n' cap' l l' _ (HS.out.ext HE) (HS'.out.ext HE) hl hl' (by omega) (by omega)).mono ?_
  rintro e w1 ⟨a1, n1, cap1, rfl, hs1, he1⟩
  refine hK.out _ _ he1 ?_
  clear hK K
  have hgl : w.heap.size + 1 + 1 < w0.heap.size := World.block_lt_of_cell? w0 _ z0
  replace z0 := he1.cell' z0
  replace qz0 := (he1.frozen (p := ⟨w.heap.size + 1 + 1, 0, none⟩) hgl).trans qz0
  replace z1 := he1.cell' z1
  replace qz1 := (he1.frozen (p := ⟨w.heap.size + 1 + 1, 1, none⟩) hgl).trans qz1
  clear hgl
  clear c0 c1 d0 d1
  replace HE := HE.trans he1
  clear he1
  try simp only [Act.put, List.setIfInBounds_toArray, List.set_cons_zero, List.set_cons_succ]
  refine wpE_l rfl rfl (fun K hK => ?_)
  go_simp
  refine (r02_Make_any nb a1 n1 cap1 _ _ hs1 (Ws.dig _) (by have h3 := hs1.int_len; have h4 := HLEN.out; omega)).mono ?_
  rw [val_dig B32_two, HZ.out]
  rintro e w2 ⟨a2, n2, cap2, rfl, hs2, he2⟩
  refine hK.out _ _ he2 ?_
  clear hK K
  have hgl : w.heap.size + 1 + 1 < w1.heap.size := World.block_lt_of_cell? w1 _ z0
  replace z0 := he2.cell' z0
  replace qz0 := (he2.frozen (p := ⟨w.heap.size + 1 + 1, 0, none⟩) hgl).trans qz0
  replace z1 := he2.cell' z1
  replace qz1 := (he2.frozen (p := ⟨w.heap.size + 1 + 1, 1, none⟩) hgl).trans qz1
  clear hgl
  replace HE := HE.trans he2
  clear he2 hs1
  try simp only [Act.put, List.setIfInBounds_toArray, List.set_cons_zero, List.set_cons_succ]
  refine wpE_b rfl rfl (fun K hK => ?_)
  go_simp
  refine hK.out _ _ ?_
  clear hK K
  try simp only [Act.put, List.setIfInBounds_toArray, List.set_cons_zero, List.set_cons_succ]
  refine wpE_done ?_
  go_wp2_with fail
  refine bodyPost_cells rfl rfl Try.underlying51 rfl (by kernel_rfl) (two (by go_simp; try rfl) (by go_simp; try rfl)) rfl ?_
  exact RetW.stored z0 z1 hs2 HE (by omega) rfl

theorem cmpI_sgn (x y : Nat) : cmpI x y = sgn ((x : Int) - (y : Int)) := by
  unfold cmpI sgn
  split
  · rw [if_neg (by omega), if_pos (by omega)]
  · split
    · rw [if_neg (by omega), if_neg (by omega)]
    · rw [if_pos (by omega)]

theorem sgn_cases (z : Int) : (sgn z = -1 ∧ z < 0) ∨ (sgn z = 0 ∧ z = 0) ∨ (sgn z = 1 ∧ 0 < z) := by
  unfold sgn
  split
  · exact .inr (.inl ⟨rfl, by assumption⟩)
  · split
    · exact .inl ⟨rfl, by assumption⟩
    · exact .inr (.inr ⟨rfl, by omega⟩)

set_option maxRecDepth 100000 in
set_option maxHeartbeats 2000000 in
theorem w_Cmp_any (neg neg' : Bool) (a a' : Option Addr) (n cap n' cap' : Nat) (z z' : Int) (w : World) (hw : WhIn w neg a n cap z) (hw' : WhIn w neg' a' n' cap' z') :
    Calls Try.prog 74 #[.agg #[.bool neg, .slice a n cap], .agg #[.bool neg', .slice a' n' cap']] w fun e w' => e = .returned (.int .i64 (sgn (z - z'))) ∧ Ext w w' := by
  obtain ⟨⟨l, hs, hl, hz⟩, hn⟩ := id hw
  obtain ⟨⟨l', hs', hl', hz'⟩, hn'⟩ := id hw'
  obtain ⟨r, hr⟩ : ∃ r, r = sgn (z - z') := ⟨_, rfl⟩
  rw [← hr]
  obtain ⟨s1, h1⟩ : ∃ s1, s1 = sgn z := ⟨_, rfl⟩
  obtain ⟨s2, h2⟩ : ∃ s2, s2 = sgn z' := ⟨_, rfl⟩
  have H : (s1 < s2 ∧ r = -1) ∨ (s2 < s1 ∧ r = 1) ∨ (s1 = s2 ∧ s2 < 0 ∧ cmpI (val B32 l') (val B32 l) = r) ∨ (s1 = s2 ∧ 0 ≤ s2 ∧ cmpI (val B32 l) (val B32 l') = r) := by
    rw [cmpI_sgn, cmpI_sgn]
    have e1 : z < 0 → z = -(val B32 l : Int) := fun h => by rw [← hz] at h ⊢; unfold wz at *; split <;> simp_all <;> omega
    have e2 : z' < 0 → z' = -(val B32 l' : Int) := fun h => by rw [← hz'] at h ⊢; unfold wz at *; split <;> simp_all <;> omega
    have e3 : 0 ≤ z → z = (val B32 l : Int) := fun h => by rw [← hz] at h ⊢; unfold wz at *; split <;> simp_all <;> omega
    have e4 : 0 ≤ z' → z' = (val B32 l' : Int) := fun h => by rw [← hz'] at h ⊢; unfold wz at *; split <;> simp_all <;> omega
    have hm : ∀ t : Int, t < 0 → sgn t = -1 := fun t ht => by unfold sgn; rw [if_neg (by omega), if_pos ht]
    have hp : ∀ t : Int, 0 < t → sgn t = 1 := fun t ht => by unfold sgn; rw [if_neg (by omega), if_neg (by omega)]
    rcases sgn_cases z with ⟨q1, q2⟩ | ⟨q1, q2⟩ | ⟨q1, q2⟩ <;> rcases sgn_cases z' with ⟨p1, p2⟩ | ⟨p1, p2⟩ | ⟨p1, p2⟩
    · right; right; left
      refine ⟨by omega, by omega, ?_⟩
      rw [hr, e1 q2, e2 p2]; congr 1; omega
    · left; exact ⟨by omega, by rw [hr]; exact hm _ (by omega)⟩
    · left; exact ⟨by omega, by rw [hr]; exact hm _ (by omega)⟩
    · right; left; exact ⟨by omega, by rw [hr]; exact hp _ (by omega)⟩
    · right; right; right
      refine ⟨by omega, by omega, ?_⟩
      rw [hr, e3 (by omega), e4 (by omega)]
    · left; exact ⟨by omega, by rw [hr]; exact hm _ (by omega)⟩
    · right; left; exact ⟨by omega, by rw [hr]; exact hp _ (by omega)⟩
    · right; left; exact ⟨by omega, by rw [hr]; exact hp _ (by omega)⟩
    · right; right; right
      refine ⟨by omega, by omega, ?_⟩
      rw [hr, e3 (by omega), e4 (by omega)]
  have HW := hidP hw; have HW' := hidP hw'
  have HS := hidP hs; have HS' := hidP hs'
  have H1 := hidP h1.symm; have H2 := hidP h2.symm
  clear hw hw' hs hs' h1 h2 hz hz' hr
  rcases H with ⟨hlt, rfl⟩ | ⟨hlt, rfl⟩ | ⟨rfl, hlt, hc⟩ | ⟨rfl, hlt, hc⟩
  · go_enter Try.func74, Try.ntmps74
    go_upto_region 1 with fail
    obtain ⟨w0, hw0⟩ : ∃ w0 : World, w0 = World.drew ((w.alloc (.cells #[.bool neg, .slice a n cap] 51)).alloc (.cells #[.bool neg', .slice a' n' cap'] 51)) := ⟨_, rfl⟩
    have c0 : w0.cell? ⟨w.heap.size, 0, none⟩ = some (.bool neg) := by rw [hw0]; go_simp; try rfl
    have c1 : w0.cell? ⟨w.heap.size, 1, none⟩ = some (.slice a n cap) := by rw [hw0]; go_simp; try rfl
    have d0 : w0.cell? ⟨w.heap.size + 1, 0, none⟩ = some (.bool neg') := by rw [hw0]; go_simp; try rfl
    have d1 : w0.cell? ⟨w.heap.size + 1, 1, none⟩ = some (.slice a' n' cap') := by rw [hw0]; go_simp; try rfl
    have HE : Ext w w0 := by rw [hw0]; exact (((Ext.refl _).alloc _).alloc _).drew
    refine wp_region_plan (R := Ext) (.q 0 (.q 2 (.l 1 (.l 3 (.q 4 (.q 5 .done)))))) (by kernel_rfl) (by kernel_rfl) (by kernel_rfl) (by kernel_rfl) Ext.refl (fun _ _ _ => Ext.trans) ?_
    rw [← hw0]
    clear hw0
    repeat (refine wpE_q (v := ?_) rfl rfl (fun u hu => ?_) ?_; rotate_left 1; (focus ((have k0 := hu.cell' c0; have k1 := hu.cell' c1; have k2 := hu.cell' d0; have k3 := hu.cell' d1); go_simp; (try rfl))); simp only [Act.put, List.setIfInBounds_toArray, List.set_cons_zero, List.set_cons_succ])
    refine wpE_l rfl rfl (fun K hK => ?_)
    go_simp
    refine (w_Sign_any neg a n cap z _ (HW.out.ext HE)).mono ?_
    rw [H1.out]
    rintro e w1 ⟨rfl, he1⟩
    refine hK.out _ _ he1 ?_
    clear hK K
    replace c0 := he1.cell' c0
    replace c1 := he1.cell' c1
    replace d0 := he1.cell' d0
    replace d1 := he1.cell' d1
    replace HE := HE.trans he1
    clear he1
    try simp only [Act.put, List.setIfInBounds_toArray, List.set_cons_zero, List.set_cons_succ]
    refine wpE_l rfl rfl (fun K hK => ?_)
    go_simp
    refine (w_Sign_any neg' a' n' cap' z' _ (HW'.out.ext HE)).mono ?_
    rw [H2.out]
    rintro e w2 ⟨rfl, he2⟩
    refine hK.out _ _ he2 ?_
    clear hK K
    replace c0 := he2.cell' c0
    replace c1 := he2.cell' c1
    replace d0 := he2.cell' d0
    replace d1 := he2.cell' d1
    replace HE := HE.trans he2
    clear he2
    try simp only [Act.put, List.setIfInBounds_toArray, List.set_cons_zero, List.set_cons_succ]
    repeat (refine wpE_q (v := ?_) rfl rfl (fun u hu => ?_) ?_; rotate_left 1; (focus (go_simp; (try rfl))); simp only [Act.put, List.setIfInBounds_toArray, List.set_cons_zero, List.set_cons_succ])
    refine wpE_done ?_
    go_wp2_with fail
    go_ret
    exact ⟨rfl, HE⟩
  · go_enter Try.func74, Try.ntmps74
    go_upto_region 1 with fail
    obtain ⟨w0, hw0⟩ : ∃ w0 : World, w0 = World.drew ((w.alloc (.cells #[.bool neg, .slice a n cap] 51)).alloc (.cells #[.bool neg', .slice a' n' cap'] 51)) := ⟨_, rfl⟩
    have c0 : w0.cell? ⟨w.heap.size, 0, none⟩ = some (.bool neg) := by rw [hw0]; go_simp; try rfl
    have c1 : w0.cell? ⟨w.heap.size, 1, none⟩ = some (.slice a n cap) := by rw [hw0]; go_simp; try rfl
    have d0 : w0.cell? ⟨w.heap.size + 1, 0, none⟩ = some (.bool neg') := by rw [hw0]; go_simp; try rfl
    have d1 : w0.cell? ⟨w.heap.size + 1, 1, none⟩ = some (.slice a' n' cap') := by rw [hw0]; go_simp; try rfl
    have HE : Ext w w0 := by rw [hw0]; exact (((Ext.refl _).alloc _).alloc _).drew
    refine wp_region_plan (R := Ext) (.q 0 (.q 2 (.l 1 (.l 3 (.q 4 (.q 5 .done)))))) (by kernel_rfl) (by kernel_rfl) (by kernel_rfl) (by kernel_rfl) Ext.refl (fun _ _ _ => Ext.trans) ?_
    rw [← hw0]
    clear hw0
    repeat (refine wpE_q (v := ?_) rfl rfl (fun u hu => ?_) ?_; rotate_left 1; (focus ((have k0 := hu.cell' c0; have k1 := hu.cell' c1; have k2 := hu.cell' d0; have k3 := hu.cell' d1); go_simp; (try rfl))); simp only [Act.put, List.setIfInBounds_toArray, List.set_cons_zero, List.set_cons_succ])
    refine wpE_l rfl rfl (fun K hK => ?_)
    go_simp
    refine (w_Sign_any neg a n cap z _ (HW.out.ext HE)).mono ?_
    rw [H1.out]
    rintro e w1 ⟨rfl, he1⟩
    refine hK.out _ _ he1 ?_
    clear hK K
    replace c0 := he1.cell' c0
    replace c1 := he1.cell' c1
    replace d0 := he1.cell' d0
    replace d1 := he1.cell' d1
    replace HE := HE.trans he1
    clear he1
    try simp only [Act.put, List.setIfInBounds_toArray, List.set_cons_zero, List.set_cons_succ]
    refine wpE_l rfl rfl (fun K hK => ?_)
    go_simp
    refine (w_Sign_any neg' a' n' cap' z' _ (HW'.out.ext HE)).mono ?_
    rw [H2.out]
    rintro e w2 ⟨rfl, he2⟩
    refine hK.out _ _ he2 ?_
    clear hK K
    replace c0 := he2.cell' c0
    replace c1 := he2.cell' c1
    replace d0 := he2.cell' d0
    replace d1 := he2.cell' d1
    replace HE := HE.trans he2
    clear he2
    try simp only [Act.put, List.setIfInBounds_toArray, List.set_cons_zero, List.set_cons_succ]
    repeat (refine wpE_q (v := ?_) rfl rfl (fun u hu => ?_) ?_; rotate_left 1; (focus (go_simp; (try rfl))); simp only [Act.put, List.setIfInBounds_toArray, List.set_cons_zero, List.set_cons_succ])
    refine wpE_done ?_
    go_wp2_with fail
    go_ret
    exact ⟨rfl, HE⟩
  · have HC := hidP hc
    clear hc
    go_enter Try.func74, Try.ntmps74
    go_upto_region 1 with fail
    obtain ⟨w0, hw0⟩ : ∃ w0 : World, w0 = World.drew ((w.alloc (.cells #[.bool neg, .slice a n cap] 51)).alloc (.cells #[.bool neg', .slice a' n' cap'] 51)) := ⟨_, rfl⟩
    have c0 : w0.cell? ⟨w.heap.size, 0, none⟩ = some (.bool neg) := by rw [hw0]; go_simp; try rfl
    have c1 : w0.cell? ⟨w.heap.size, 1, none⟩ = some (.slice a n cap) := by rw [hw0]; go_simp; try rfl
    have d0 : w0.cell? ⟨w.heap.size + 1, 0, none⟩ = some (.bool neg') := by rw [hw0]; go_simp; try rfl
    have d1 : w0.cell? ⟨w.heap.size + 1, 1, none⟩ = some (.slice a' n' cap') := by rw [hw0]; go_simp; try rfl
    have HE : Ext w w0 := by rw [hw0]; exact (((Ext.refl _).alloc _).alloc _).drew
    refine wp_region_plan (R := Ext) (.q 0 (.q 2 (.l 1 (.l 3 (.q 4 (.q 5 .done)))))) (by kernel_rfl) (by kernel_rfl) (by kernel_rfl) (by kernel_rfl) Ext.refl (fun _ _ _ => Ext.trans) ?_
    rw [← hw0]
    clear hw0
    repeat (refine wpE_q (v := ?_) rfl rfl (fun u hu => ?_) ?_; rotate_left 1; (focus ((have k0 := hu.cell' c0; have k1 := hu.cell' c1; have k2 := hu.cell' d0; have k3 := hu.cell' d1); go_simp; (try rfl))); simp only [Act.put, List.setIfInBounds_toArray, List.set_cons_zero, List.set_cons_succ])
    refine wpE_l rfl rfl (fun K hK => ?_)
    go_simp
    refine (w_Sign_any neg a n cap z _ (HW.out.ext HE)).mono ?_
    rw [H1.out]
    rintro e w1 ⟨rfl, he1⟩
    refine hK.out _ _ he1 ?_
    clear hK K
    replace c0 := he1.cell' c0
    replace c1 := he1.cell' c1
    replace d0 := he1.cell' d0
    replace d1 := he1.cell' d1
    replace HE := HE.trans he1
    clear he1
    try simp only [Act.put, List.setIfInBounds_toArray, List.set_cons_zero, List.set_cons_succ]
    refine wpE_l rfl rfl (fun K hK => ?_)
    go_simp
    refine (w_Sign_any neg' a' n' cap' z' _ (HW'.out.ext HE)).mono ?_
    rw [H2.out]
    rintro e w2 ⟨rfl, he2⟩
    refine hK.out _ _ he2 ?_
    clear hK K
    replace c0 := he2.cell' c0
    replace c1 := he2.cell' c1
    replace d0 := he2.cell' d0
    replace d1 := he2.cell' d1
    replace HE := HE.trans he2
    clear he2
    try simp only [Act.put, List.setIfInBounds_toArray, List.set_cons_zero, List.set_cons_succ]
    repeat (refine wpE_q (v := ?_) rfl rfl (fun u hu => ?_) ?_; rotate_left 1; (focus (go_simp; (try rfl))); simp only [Act.put, List.setIfInBounds_toArray, List.set_cons_zero, List.set_cons_succ])
    refine wpE_done ?_
    go_wp2_with fail
    refine (nat_Cmp_any a' a n' cap' n cap l' l _ (HS'.out.ext HE) (HS.out.ext HE) hl' hl (by omega) (by omega)).mono ?_
    rw [HC.out]
    rintro e w3 ⟨rfl, he3⟩
    go_wp2_with fail
    go_ret
    exact ⟨rfl, HE.trans he3⟩
  · have HC := hidP hc
    clear hc
    go_enter Try.func74, Try.ntmps74
    go_upto_region 1 with fail
    obtain ⟨w0, hw0⟩ : ∃ w0 : World, w0 = World.drew ((w.alloc (.cells #[.bool neg, .slice a n cap] 51)).alloc (.cells #[.bool neg', .slice a' n' cap'] 51)) := ⟨_, rfl⟩
    have c0 : w0.cell? ⟨w.heap.size, 0, none⟩ = some (.bool neg) := by rw [hw0]; go_simp; try rfl
    have c1 : w0.cell? ⟨w.heap.size, 1, none⟩ = some (.slice a n cap) := by rw [hw0]; go_simp; try rfl
    have d0 : w0.cell? ⟨w.heap.size + 1, 0, none⟩ = some (.bool neg') := by rw [hw0]; go_simp; try rfl
    have d1 : w0.cell? ⟨w.heap.size + 1, 1, none⟩ = some (.slice a' n' cap') := by rw [hw0]; go_simp; try rfl
    have HE : Ext w w0 := by rw [hw0]; exact (((Ext.refl _).alloc _).alloc _).drew
    refine wp_region_plan (R := Ext) (.q 0 (.q 2 (.l 1 (.l 3 (.q 4 (.q 5 .done)))))) (by kernel_rfl) (by kernel_rfl) (by kernel_rfl) (by kernel_rfl) Ext.refl (fun _ _ _ => Ext.trans) ?_
    rw [← hw0]
    clear hw0
    repeat (refine wpE_q (v := ?_) rfl rfl (fun u hu => ?_) ?_; rotate_left 1; (focus ((have k0 := hu.cell' c0; have k1 := hu.cell' c1; have k2 := hu.cell' d0; have k3 := hu.cell' d1); go_simp; (try rfl))); simp only [Act.put, List.setIfInBounds_toArray, List.set_cons_zero, List.set_cons_succ])
    refine wpE_l rfl rfl (fun K hK => ?_)
    go_simp
    refine (w_Sign_any neg a n cap z _ (HW.out.ext HE)).mono ?_
    rw [H1.out]
    rintro e w1 ⟨rfl, he1⟩
    refine hK.out _ _ he1 ?_
    clear hK K
    replace c0 := he1.cell' c0
    replace c1 := he1.cell' c1
    replace d0 := he1.cell' d0
    replace d1 := he1.cell' d1
    replace HE := HE.trans he1
    clear he1
    try simp only [Act.put, List.setIfInBounds_toArray, List.set_cons_zero, List.set_cons_succ]
    refine wpE_l rfl rfl (fun K hK => ?_)
    go_simp
    refine (w_Sign_any neg' a' n' cap' z' _ (HW'.out.ext HE)).mono ?_
    rw [H2.out]
    rintro e w2 ⟨rfl, he2⟩
    refine hK.out _ _ he2 ?_
    clear hK K
    replace c0 := he2.cell' c0
    replace c1 := he2.cell' c1
    replace d0 := he2.cell' d0
    replace d1 := he2.cell' d1
    replace HE := HE.trans he2
    clear he2
    try simp only [Act.put, List.setIfInBounds_toArray, List.set_cons_zero, List.set_cons_succ]
    repeat (refine wpE_q (v := ?_) rfl rfl (fun u hu => ?_) ?_; rotate_left 1; (focus (go_simp; (try rfl))); simp only [Act.put, List.setIfInBounds_toArray, List.set_cons_zero, List.set_cons_succ])
    refine wpE_done ?_
    go_wp2_with fail
    refine (nat_Cmp_any a a' n cap n' cap' l l' _ (HS.out.ext HE) (HS'.out.ext HE) hl hl' (by omega) (by omega)).mono ?_
    rw [HC.out]
    rintro e w3 ⟨rfl, he3⟩
    go_wp2_with fail
    go_ret
    exact ⟨rfl, HE.trans he3⟩

end Go.Proofs.Ytcipcpbjkcpgdaa

namespace Go.Proofs.Ytcipcpbjkcpgdaa
set_option linter.unusedVariables false
open Go Go.RowKit

set_option maxRecDepth 100000 in
set_option maxHeartbeats 2000000 in
theorem w_Parse_any (s : ByteArray) (w : World) :
    Calls Try.prog 80 #[.string s] w (ParseW w (whParse (natsOf s))) := by
  have hat := natsOf_at s
  by_cases h0 : s.size = 0
  · obtain rfl := size_zero h0
    have hN : natsOf ⟨#[]⟩ = [] := rfl
    have HR : Hid (whParse (natsOf ⟨#[]⟩) = (3, 0)) := hidP (by rw [hN]; decide)
    rw [HR.out]
    go_enter Try.func80, Try.ntmps80
    go_wp2_with fail
    refine (nat_Parse_any _ _).mono ?_
    rintro e w1 h1
    rcases h1 with ⟨h, _⟩ | ⟨_, _, rfl, he1⟩ | ⟨_, h, _⟩
    · rw [hN] at h; simp at h
    · have z0 := he1.cell' (p := ⟨w.heap.size, 0, none⟩) (v := .bool false) (by go_simp; try rfl)
      have q0 : w1.frozen? ⟨w.heap.size, 0, none⟩ = false := (he1.frozen (p := ⟨w.heap.size, 0, none⟩) (by simp)).trans (by go_simp)
      have z1 := he1.cell' (p := ⟨w.heap.size, 1, none⟩) (v := .slice none 0 0) (by go_simp; try rfl)
      have q1 : w1.frozen? ⟨w.heap.size, 1, none⟩ = false := (he1.frozen (p := ⟨w.heap.size, 1, none⟩) (by simp)).trans (by go_simp)
      have HE : Ext w w1 := ((Ext.refl _).alloc _).trans he1
      clear he1
      go_wp2_with fail
      refine bodyPost_cells_tmp2 rfl rfl Try.underlying51 rfl (by kernel_rfl) (two (by go_simp; try rfl) (by go_simp; try rfl)) rfl rfl ?_
      exact ParseW.zero z0 z1 HE (Nat.le_refl _)
    · exact absurd h (by rw [hN]; decide)
  have h00 : 0 < s.size := by omega
  have h0i : (0 : Int) < (s.size : Int) := by omega
  have ha0 := hat 0 h00
  clear hat
  by_cases hz : s[0].toNat = 45
  · have z3 : ((s[0].toNat : Int) == 45) = true := by simp; omega
    have hng : isNeg (natsOf s) = true := by unfold isNeg; rw [ha0]; simpa using hz
    have hds : behind (natsOf s) = natsOf (s.extract 1 s.size) := by unfold behind; rw [hng, natsOf_drop1]; rfl
    generalize hs1d : s.extract 1 s.size = s1 at *
    have HS1 := hidP hs1d; clear hs1d
    have hR : whParse (natsOf s) = if 2000 < (natsOf s1).length then (4, 0) else if ¬ PlainL (natsOf s1) then (3, 0) else if true = true ∧ dval (natsOf s1) = 0 then (3, 0) else (0, wz true (dval (natsOf s1))) := by
      unfold whParse; rw [hng, hds]
    have HR := hidP hR
    clear hR hng hds ha0
    generalize whParse (natsOf s) = RR at *
    go_enter Try.func80, Try.ntmps80
    go_wp2_with fail
    rw [HS1.out]
    refine (nat_Parse_any _ _).mono ?_
    rintro e w1 h1
    rcases h1 with ⟨hb, rfl, he1⟩ | ⟨hb, hp, rfl, he1⟩ | ⟨hb, hp, a1, n1, cap1, rfl, hs1, he1⟩
    · have HQ : Hid (RR = (4, 0)) := hidP (by rw [HR.out, if_pos hb])
      have z0 := he1.cell' (p := ⟨w.heap.size, 0, none⟩) (v := .bool false) (by go_simp; try rfl)
      have q0 : w1.frozen? ⟨w.heap.size, 0, none⟩ = false := (he1.frozen (p := ⟨w.heap.size, 0, none⟩) (by simp)).trans (by go_simp)
      have z1 := he1.cell' (p := ⟨w.heap.size, 1, none⟩) (v := .slice none 0 0) (by go_simp; try rfl)
      have q1 : w1.frozen? ⟨w.heap.size, 1, none⟩ = false := (he1.frozen (p := ⟨w.heap.size, 1, none⟩) (by simp)).trans (by go_simp)
      have HE : Ext w w1 := ((Ext.refl _).alloc _).trans he1
      clear he1
      go_wp2_with fail
      refine bodyPost_cells_tmp2 rfl rfl Try.underlying51 rfl (by kernel_rfl) (two (by go_simp; try rfl) (by go_simp; try rfl)) rfl rfl ?_
      rw [HQ.out]
      exact ParseW.zero z0 z1 HE (Nat.le_refl _)
    · have HQ : Hid (RR = (3, 0)) := hidP (by rw [HR.out, if_neg (by omega), if_pos hp])
      have z0 := he1.cell' (p := ⟨w.heap.size, 0, none⟩) (v := .bool false) (by go_simp; try rfl)
      have q0 : w1.frozen? ⟨w.heap.size, 0, none⟩ = false := (he1.frozen (p := ⟨w.heap.size, 0, none⟩) (by simp)).trans (by go_simp)
      have z1 := he1.cell' (p := ⟨w.heap.size, 1, none⟩) (v := .slice none 0 0) (by go_simp; try rfl)
      have q1 : w1.frozen? ⟨w.heap.size, 1, none⟩ = false := (he1.frozen (p := ⟨w.heap.size, 1, none⟩) (by simp)).trans (by go_simp)
      have HE : Ext w w1 := ((Ext.refl _).alloc _).trans he1
      clear he1
      go_wp2_with fail
      refine bodyPost_cells_tmp2 rfl rfl Try.underlying51 rfl (by kernel_rfl) (two (by go_simp; try rfl) (by go_simp; try rfl)) rfl rfl ?_
      rw [HQ.out]
      exact ParseW.zero z0 z1 HE (Nat.le_refl _)
    · have HP := hidP hp
      have hn1 : n1 ≤ 2000 := (by have := natsOf_len s1; have h3 := dval_lt (natsOf s1) (fun c hc => (HP.out.2.2 c hc).2); have h4 := dig_len_le B32_two h3; have h5 := hs1.int_len; omega)
      clear hp
      have z0 := he1.cell' (p := ⟨w.heap.size, 0, none⟩) (v := .bool false) (by go_simp; try rfl)
      have q0 : w1.frozen? ⟨w.heap.size, 0, none⟩ = false := (he1.frozen (p := ⟨w.heap.size, 0, none⟩) (by simp)).trans (by go_simp)
      have z1 := he1.cell' (p := ⟨w.heap.size, 1, none⟩) (v := .slice none 0 0) (by go_simp; try rfl)
      have q1 : w1.frozen? ⟨w.heap.size, 1, none⟩ = false := (he1.frozen (p := ⟨w.heap.size, 1, none⟩) (by simp)).trans (by go_simp)
      have HE : Ext w w1 := ((Ext.refl _).alloc _).trans he1
      clear he1
      by_cases hv0 : dval (natsOf s1) = 0
      · have HQ : Hid (RR = (3, 0)) := hidP (by rw [HR.out, if_neg (by omega), if_neg (fun h => h HP.out), if_pos ⟨by trivial, hv0⟩])
        obtain rfl : n1 = 0 := by have h5 := hs1.int_len; rw [hv0, dig_zero] at h5; exact h5.symm
        clear hs1 hv0
        go_wp2_with fail
        refine bodyPost_cells_tmp2 rfl rfl Try.underlying51 rfl (by kernel_rfl) (two (by go_simp; try rfl) (by go_simp; try rfl)) rfl rfl ?_
        rw [HQ.out]
        exact ParseW.zero z0 z1 HE (Nat.le_refl _)
      · have hn0 : ((n1 : Int) == 0) = false := by
          have h5 := hs1.int_len
          have h6 := @dig_len_pos (dval (natsOf s1))
          simp; omega
        have HV0 := hidP hv0; clear hv0
        have hq : RR = (0, wz true (dval (natsOf s1))) := by rw [HR.out, if_neg (by omega), if_neg (fun h => h HP.out), if_neg (fun h => HV0.out h.2)]
        have HQ := hidP hq; clear hq
        go_wp2_with fail
        refine (w_clean_any true a1 n1 cap1 _ _ hs1).mono ?_
        rintro e w3 ⟨a3, n3, cap3, rfl, hs3, he3⟩
        have hgl : w.heap.size < w1.heap.size := World.block_lt_of_cell? w1 _ z0
        replace z0 := he3.cell' z0
        replace z1 := he3.cell' z1
        replace q0 := (he3.frozen (p := ⟨w.heap.size, 0, none⟩) hgl).trans q0
        replace q1 := (he3.frozen (p := ⟨w.heap.size, 1, none⟩) hgl).trans q1
        replace HE := HE.trans he3
        clear he3 hs1 hgl
        generalize hbb : decide (wz true (dval (natsOf s1)) < 0) = bb at *
        have HBB := hidP hbb; clear hbb
        go_wp2_with fail
        refine bodyPost_cells_tmp2 rfl rfl Try.underlying51 rfl (by kernel_rfl) (two (by go_simp; try rfl) (by go_simp; try rfl)) rfl rfl ?_
        rw [HQ.out]
        exact ParseW.some z0 z1 hs3 HE (Nat.le_refl _) HBB.out.symm
  · have z3 : ((s[0].toNat : Int) == 45) = false := by simp; omega
    have hng : isNeg (natsOf s) = false := by unfold isNeg; rw [ha0]; simpa using hz
    have hds : behind (natsOf s) = natsOf s := by unfold behind; rw [hng]; rfl
    have hR : whParse (natsOf s) = if 2000 < (natsOf s).length then (4, 0) else if ¬ PlainL (natsOf s) then (3, 0) else if false = true ∧ dval (natsOf s) = 0 then (3, 0) else (0, wz false (dval (natsOf s))) := by
      unfold whParse; rw [hng, hds]
    have HR := hidP hR
    clear hR hng hds ha0
    generalize whParse (natsOf s) = RR at *
    go_enter Try.func80, Try.ntmps80
    go_wp2_with fail
    refine (nat_Parse_any _ _).mono ?_
    rintro e w1 h1
    rcases h1 with ⟨hb, rfl, he1⟩ | ⟨hb, hp, rfl, he1⟩ | ⟨hb, hp, a1, n1, cap1, rfl, hs1, he1⟩
    · have HQ : Hid (RR = (4, 0)) := hidP (by rw [HR.out, if_pos hb])
      have z0 := he1.cell' (p := ⟨w.heap.size, 0, none⟩) (v := .bool false) (by go_simp; try rfl)
      have q0 : w1.frozen? ⟨w.heap.size, 0, none⟩ = false := (he1.frozen (p := ⟨w.heap.size, 0, none⟩) (by simp)).trans (by go_simp)
      have z1 := he1.cell' (p := ⟨w.heap.size, 1, none⟩) (v := .slice none 0 0) (by go_simp; try rfl)
      have q1 : w1.frozen? ⟨w.heap.size, 1, none⟩ = false := (he1.frozen (p := ⟨w.heap.size, 1, none⟩) (by simp)).trans (by go_simp)
      have HE : Ext w w1 := ((Ext.refl _).alloc _).trans he1
      clear he1
      go_wp2_with fail
      refine bodyPost_cells_tmp2 rfl rfl Try.underlying51 rfl (by kernel_rfl) (two (by go_simp; try rfl) (by go_simp; try rfl)) rfl rfl ?_
      rw [HQ.out]
      exact ParseW.zero z0 z1 HE (Nat.le_refl _)
    · have HQ : Hid (RR = (3, 0)) := hidP (by rw [HR.out, if_neg (by omega), if_pos hp])
      have z0 := he1.cell' (p := ⟨w.heap.size, 0, none⟩) (v := .bool false) (by go_simp; try rfl)
      have q0 : w1.frozen? ⟨w.heap.size, 0, none⟩ = false := (he1.frozen (p := ⟨w.heap.size, 0, none⟩) (by simp)).trans (by go_simp)
      have z1 := he1.cell' (p := ⟨w.heap.size, 1, none⟩) (v := .slice none 0 0) (by go_simp; try rfl)
      have q1 : w1.frozen? ⟨w.heap.size, 1, none⟩ = false := (he1.frozen (p := ⟨w.heap.size, 1, none⟩) (by simp)).trans (by go_simp)
      have HE : Ext w w1 := ((Ext.refl _).alloc _).trans he1
      clear he1
      go_wp2_with fail
      refine bodyPost_cells_tmp2 rfl rfl Try.underlying51 rfl (by kernel_rfl) (two (by go_simp; try rfl) (by go_simp; try rfl)) rfl rfl ?_
      rw [HQ.out]
      exact ParseW.zero z0 z1 HE (Nat.le_refl _)
    · have HP := hidP hp
      have hn1 : n1 ≤ 2000 := (by have := natsOf_len s; have h3 := dval_lt (natsOf s) (fun c hc => (HP.out.2.2 c hc).2); have h4 := dig_len_le B32_two h3; have h5 := hs1.int_len; omega)
      clear hp
      have z0 := he1.cell' (p := ⟨w.heap.size, 0, none⟩) (v := .bool false) (by go_simp; try rfl)
      have q0 : w1.frozen? ⟨w.heap.size, 0, none⟩ = false := (he1.frozen (p := ⟨w.heap.size, 0, none⟩) (by simp)).trans (by go_simp)
      have z1 := he1.cell' (p := ⟨w.heap.size, 1, none⟩) (v := .slice none 0 0) (by go_simp; try rfl)
      have q1 : w1.frozen? ⟨w.heap.size, 1, none⟩ = false := (he1.frozen (p := ⟨w.heap.size, 1, none⟩) (by simp)).trans (by go_simp)
      have HE : Ext w w1 := ((Ext.refl _).alloc _).trans he1
      clear he1
      have hq : RR = (0, wz false (dval (natsOf s))) := by rw [HR.out, if_neg (by omega), if_neg (fun h => h HP.out), if_neg (fun h => by cases h.1)]
      have HQ := hidP hq; clear hq
      go_wp2_with fail
      refine (w_clean_any false a1 n1 cap1 _ _ hs1).mono ?_
      rintro e w3 ⟨a3, n3, cap3, rfl, hs3, he3⟩
      have hgl : w.heap.size < w1.heap.size := World.block_lt_of_cell? w1 _ z0
      replace z0 := he3.cell' z0
      replace z1 := he3.cell' z1
      replace q0 := (he3.frozen (p := ⟨w.heap.size, 0, none⟩) hgl).trans q0
      replace q1 := (he3.frozen (p := ⟨w.heap.size, 1, none⟩) hgl).trans q1
      replace HE := HE.trans he3
      clear he3 hs1 hgl
      generalize hbb : decide (wz false (dval (natsOf s)) < 0) = bb at *
      have HBB := hidP hbb; clear hbb
      go_wp2_with fail
      refine bodyPost_cells_tmp2 rfl rfl Try.underlying51 rfl (by kernel_rfl) (two (by go_simp; try rfl) (by go_simp; try rfl)) rfl rfl ?_
      rw [HQ.out]
      exact ParseW.some z0 z1 hs3 HE (Nat.le_refl _) HBB.out.symm

end Go.Proofs.Ytcipcpbjkcpgdaa

namespace Go.Proofs.Ytcipcpbjkcpgdaa
set_option linter.unusedVariables false
open Go Go.RowKit

theorem absB {P : Program} {fn : Func} {R : Ending → World → Prop} {ex : Exit} {a : Act} {w : World} (h : ∀ u, u = w → bodyPost P fn R ex a u) : bodyPost P fn R ex a w := h w rfl
theorem Nc.but {w u : World} {g : Nat} {cs : Array Value} {a : Option Addr} {n cap V : Nat} (h : Nc w a n cap V) (hb : Bl w g cs) (hcs : ∀ (j : Nat) (x : Int), cs[j]? ≠ some (Value.int .u32 x)) (hu : But w u g) : Nc u a n cap V := Sl.but h hb hcs hu
theorem bl_two {w : World} {g : Nat} {v0 v1 : Value} (h : Bl w g #[v0, v1]) : ∀ j v, (#[v0, v1] : Array Value).toList[j]? = some v → w.cell? ⟨g, j, none⟩ = some v := by
  intro j v hv
  rw [h j]
  simpa using hv
theorem WhIn.nu {w : World} {neg : Bool} {a : Option Addr} {n cap : Nat} {z : Int} (h : WhIn w neg a n cap z) : Nu w a n cap z.natAbs := by
  obtain ⟨⟨l, hs, hl, hz⟩, hn⟩ := h
  have h2 : z.natAbs = val B32 l := by rw [← hz]; unfold wz; split <;> omega
  exact ⟨⟨l, hs, hl, h2.symm⟩, by omega⟩
theorem WhIn.sgn {w : World} {neg : Bool} {a : Option Addr} {n cap : Nat} {z : Int} (h : WhIn w neg a n cap z) : z = wz neg z.natAbs := by
  obtain ⟨⟨l, hs, hl, hz⟩, hn⟩ := h
  have h2 : z.natAbs = val B32 l := by rw [← hz]; unfold wz; split <;> omega
  rw [h2]; exact hz.symm
theorem nb_bool {b : Bool} : ∀ x : Int, Value.bool b ≠ .int .u32 x := fun x h => by cases h
theorem nb_slice {a : Option Addr} {n c : Nat} : ∀ x : Int, Value.slice a n c ≠ .int .u32 x := fun x h => by cases h

theorem wz_false_nn (m : Nat) : decide (wz false m < 0) = false := decide_eq_false (by show ¬ ((m : Nat) : Int) < 0; omega)

/-- What is left: at least 0, below the divisor. -/
def zmod (z z' : Int) : Int := if z' = 0 then 0 else z % z'
/-- A quotient and a rest, with signs. -/
def RetWD (w : World) (z z' : Int) (e : Ending) (w' : World) : Prop :=
  ∃ a n cap a' n' cap', e = .returned (.tuple #[.agg #[.bool (decide (z / z' < 0)), .slice a n cap], .agg #[.bool (decide (zmod z z' < 0)), .slice a' n' cap'], .bool (decide (z' ≠ 0))]) ∧ Nc w' a n cap (z / z').natAbs ∧ Nc w' a' n' cap' (zmod z z').natAbs ∧ Ext w w'
theorem RetWD.of {w : World} {z z' q r : Int} {ok b c : Bool} {a a' : Option Addr} {n cap n' cap' : Nat} {u : World} (hq : z / z' = q) (hr : zmod z z' = r) (hok : decide (z' ≠ 0) = ok) (hb : decide (q < 0) = b) (hc : decide (r < 0) = c)
    (h1 : Nc u a n cap q.natAbs) (h2 : Nc u a' n' cap' r.natAbs) (he : Ext w u) : RetWD w z z' (.returned (.tuple #[.agg #[.bool b, .slice a n cap], .agg #[.bool c, .slice a' n' cap'], .bool ok])) u := by
  subst hq; subst hr; subst hok; subst hb; subst hc
  exact ⟨a, n, cap, a', n', cap', rfl, h1, h2, he⟩

theorem div_up {A B : Nat} (hB : 0 < B) (h0 : A % B ≠ 0) : (-(A : Int)) / (B : Int) = -((A / B + 1 : Nat) : Int) ∧ (-(A : Int)) % (B : Int) = ((B - A % B : Nat) : Int) := by
  have hm := Nat.mod_lt A hB
  have hd := Nat.div_add_mod A B
  refine (Int.ediv_emod_unique (by omega)).2 ⟨?_, by omega, by omega⟩
  have e : ((B - A % B : Nat) : Int) = (B : Int) - ((A % B : Nat) : Int) := by omega
  rw [e, Int.mul_neg]
  have e2 : (B : Int) * ((A / B + 1 : Nat) : Int) = ((B * (A / B) : Nat) : Int) + (B : Int) := by
    rw [Int.natCast_add, Int.mul_add, Int.natCast_mul]; simp
  rw [e2]
  omega
theorem div_even {A B : Nat} (hB : 0 < B) (h0 : A % B = 0) : (-(A : Int)) / (B : Int) = -((A / B : Nat) : Int) ∧ (-(A : Int)) % (B : Int) = 0 := by
  have hd := Nat.div_add_mod A B
  refine (Int.ediv_emod_unique (by omega)).2 ⟨?_, by omega, by omega⟩
  rw [Int.mul_neg, ← Int.natCast_mul]
  omega
theorem div_pos' {A B : Nat} : ((A : Int)) / (B : Int) = ((A / B : Nat) : Int) ∧ ((A : Int)) % (B : Int) = ((A % B : Nat) : Int) := ⟨rfl, rfl⟩
/-- The quotient and the rest, by the sizes. -/
theorem div_law {neg neg' : Bool} {A B : Nat} (hB : B ≠ 0) : (neg = true ∧ A % B ≠ 0 → wz neg A / wz neg' B = wz (neg != neg') (A / B + 1) ∧ wz neg A % wz neg' B = ((B - A % B : Nat) : Int)) ∧
    (¬ (neg = true ∧ A % B ≠ 0) → wz neg A / wz neg' B = wz (neg != neg') (A / B) ∧ wz neg A % wz neg' B = ((A % B : Nat) : Int)) := by
  have hB' : 0 < B := Nat.pos_of_ne_zero hB
  constructor
  · rintro ⟨rfl, h0⟩
    have h := div_up hB' h0
    cases neg'
    · simpa [wz] using h
    · simp only [wz]
      simp only [if_true, Int.ediv_neg, Int.emod_neg, h.1, h.2]
      simp
  · intro h0
    cases neg
    · cases neg'
      · simp [wz]
      · simp [wz]
    · have h1 : A % B = 0 := by simpa using h0
      have h := div_even hB' h1
      cases neg'
      · simp [wz, h.1, h.2, h1]
      · simp only [wz]
        simp only [if_true, Int.ediv_neg, Int.emod_neg, h.1, h.2, h1]
        simp

set_option maxRecDepth 100000 in
set_option maxHeartbeats 4000000 in
theorem w_Div_any (neg neg' : Bool) (a a' : Option Addr) (n cap n' cap' : Nat) (z z' : Int) (w : World) (hw : WhIn w neg a n cap z) (hw' : WhIn w neg' a' n' cap' z') :
    Calls Try.prog 47 #[.agg #[.bool neg, .slice a n cap], .agg #[.bool neg', .slice a' n' cap']] w (RetWD w z z') := by
  have hA := hw.nu
  have hB := hw'.nu
  have hz := hw.sgn
  have hz' := hw'.sgn
  have dA : dl z.natAbs ≤ 549755813888 := by have := hA.dl; have := hw.le; omega
  have dB : dl z'.natAbs ≤ 549755813888 := by have := hB.dl; have := hw'.le; omega
  have HL := fun h => div_law (neg := neg) (neg' := neg') (A := z.natAbs) (B := z'.natAbs) h
  rw [← hz, ← hz'] at HL
  have hz0 : z' ≠ 0 ↔ z'.natAbs ≠ 0 := by omega
  generalize z.natAbs = A at *
  generalize z'.natAbs = B at *
  have HA := hidP hA; have HB := hidP hB
  clear hw hw' hA hB hz hz'
  have dm := dl_mod A B
  have dq := dl_div A B
  have HDM : Hid (dl (A % B) ≤ 549755813888) := hidP (by omega)
  have HDQ : Hid (dl (A / B) ≤ 549755813888) := hidP (by omega)
  clear dm dq dA dB
  by_cases hB0 : B = 0
  · have HZ := hidP hB0
    have hz00 : z' = 0 := by omega
    have HR : Hid (∀ u, Ext w u → RetWD w z z' (.returned (.tuple #[.agg #[.bool false, .slice none 0 0], .agg #[.bool false, .slice none 0 0], .bool false])) u) := hidP (fun u he => by
      refine RetWD.of (q := 0) (r := 0) ?_ ?_ ?_ rfl rfl (Nc.zero _) (Nc.zero _) he
      · rw [hz00, Int.ediv_zero]
      · unfold zmod; rw [if_pos hz00]
      · simp [hz00])
    generalize RetWD w z z' = R at *
    clear hz00 hz0 hB0 HL
    go_enter Try.func47, Try.ntmps47
    go_wp2_with fail
    refine absC (fun x1 hx1 => ?_)
    have hx : Ext w x1 := by rw [hx1]; exact (((((Ext.refl _).alloc _).alloc _).alloc _).alloc _)
    have bp : Bl x1 (w.heap.size) #[.bool neg, .slice a n cap] := by rw [hx1]; exact ((((Bl.new (by simp)).alloc (by simp)).alloc (by simp)).alloc (by simp))
    have bq : Bl x1 (w.heap.size + 1) #[.bool neg', .slice a' n' cap'] := by rw [hx1]; exact (((Bl.new (by simp)).alloc (by simp)).alloc (by simp))
    have bs : Bl x1 (w.heap.size + 1 + 1) #[.bool false, .slice none 0 0] := by rw [hx1]; exact ((Bl.new (by simp)).alloc (by simp))
    have fs : Fz x1 (w.heap.size + 1 + 1) := by rw [hx1]; exact ((Fz.new (by simp)).alloc (Bl.new (by simp)) (by simp))
    have bt : Bl x1 (w.heap.size + 1 + 1 + 1) #[.bool false, .slice none 0 0] := by rw [hx1]; exact (Bl.new (by simp))
    have ft : Fz x1 (w.heap.size + 1 + 1 + 1) := by rw [hx1]; exact (Fz.new (by simp))
    have HE := hx
    clear hx
    clear hx1
    have hq := n_Div (HA.out.ext HE) (HB.out.ext HE)
    unfold RetQR at hq
    rw [decide_eq_false (by simp [HZ.out]), if_pos HZ.out, if_pos HZ.out] at hq
    have HQ := hidP hq
    clear hq
    refine (HQ.out).mono ?_
    rintro e u1 ⟨a1q, n1q, c1q, a1r, n1r, c1r, rfl, hs1q, hs1r, hx⟩
    replace bp := Bl.ext hx bp (Nat.succ_pos _)
    replace bq := Bl.ext hx bq (Nat.succ_pos _)
    replace fs := Fz.ext hx fs bs (Nat.succ_pos _)
    replace bs := Bl.ext hx bs (Nat.succ_pos _)
    replace ft := Fz.ext hx ft bt (Nat.succ_pos _)
    replace bt := Bl.ext hx bt (Nat.succ_pos _)
    replace HE := HE.trans hx
    clear hx
    clear HQ hs1q hs1r
    go_wp2_with fail
    refine absB (fun ue hue => ?_)
    have hne : w.heap.size + 1 + 1 ≠ w.heap.size + 1 + 1 + 1 := by omega
    have hne' : w.heap.size + 1 + 1 + 1 ≠ w.heap.size + 1 + 1 := by omega
    have hbs : Bl ue (w.heap.size + 1 + 1) #[.bool false, .slice none 0 0] := by rw [hue]; exact (((bs.set (Nat.succ_pos _)).set (Nat.lt_succ_self _)).other hne).other hne
    have hbt : Bl ue (w.heap.size + 1 + 1 + 1) #[.bool false, .slice none 0 0] := by rw [hue]; exact ((((bt.other hne').other hne').set (Nat.succ_pos _)).set (Nat.lt_succ_self _))
    have hnc : ∀ {aa : Option Addr} {nn cc VV : Nat}, Nc u1 aa nn cc VV → Nc ue aa nn cc VV := fun h => by
      rw [hue]
      exact (h.but bs (not_ints2 nb_bool nb_slice) ((But.refl _ _).store.store)).but ((bt.other hne').other hne') (not_ints2 nb_bool nb_slice) ((But.refl _ _).store.store)
    have heu : Ext w ue := by rw [hue]; exact (((HE.store (by show w.heap.size ≤ w.heap.size + 1 + 1; omega) _).store (by show w.heap.size ≤ w.heap.size + 1 + 1; omega) _).store (by show w.heap.size ≤ w.heap.size + 1 + 1 + 1; omega) _).store (by show w.heap.size ≤ w.heap.size + 1 + 1 + 1; omega) _
    clear hue
    refine bodyPost_cells2_tmp rfl rfl rfl Try.underlying51 rfl (by kernel_rfl) (by kernel_rfl) (bl_two hbs) (bl_two hbt) rfl rfl ?_
    exact HR.out _ heu
  · have HZ := hidP hB0
    have HL2 := hidP (HL hB0)
    have HZ1 : Hid (decide (z' ≠ 0) = true) := hidP (decide_eq_true (hz0.2 hB0))
    have HZM : Hid (zmod z z' = z % z') := hidP (by unfold zmod; rw [if_neg (hz0.2 hB0)])
    clear HL hz0
    by_cases hup : neg = true ∧ A % B ≠ 0
    · have HM0 : Hid (A % B ≠ 0) := hidP hup.2
      have HLW := hidP (HL2.out.1 hup)
      obtain rfl : neg = true := hup.1
      clear hup
      go_enter Try.func47, Try.ntmps47
      go_wp2_with fail
      refine absC (fun x1 hx1 => ?_)
      have hx : Ext w x1 := by rw [hx1]; exact (((((Ext.refl _).alloc _).alloc _).alloc _).alloc _)
      have bp : Bl x1 (w.heap.size) #[.bool true, .slice a n cap] := by rw [hx1]; exact ((((Bl.new (by simp)).alloc (by simp)).alloc (by simp)).alloc (by simp))
      have bq : Bl x1 (w.heap.size + 1) #[.bool neg', .slice a' n' cap'] := by rw [hx1]; exact (((Bl.new (by simp)).alloc (by simp)).alloc (by simp))
      have bs : Bl x1 (w.heap.size + 1 + 1) #[.bool false, .slice none 0 0] := by rw [hx1]; exact ((Bl.new (by simp)).alloc (by simp))
      have fs : Fz x1 (w.heap.size + 1 + 1) := by rw [hx1]; exact ((Fz.new (by simp)).alloc (Bl.new (by simp)) (by simp))
      have bt : Bl x1 (w.heap.size + 1 + 1 + 1) #[.bool false, .slice none 0 0] := by rw [hx1]; exact (Bl.new (by simp))
      have ft : Fz x1 (w.heap.size + 1 + 1 + 1) := by rw [hx1]; exact (Fz.new (by simp))
      have HE := hx
      clear hx
      clear hx1
      have hq := n_Div (HA.out.ext HE) (HB.out.ext HE)
      unfold RetQR at hq
      rw [decide_eq_true HZ.out, if_neg HZ.out, if_neg HZ.out] at hq
      have HQ := hidP hq
      clear hq
      refine (HQ.out).mono ?_
      rintro e u1 ⟨a1q, n1q, c1q, a1r, n1r, c1r, rfl, hs1q, hs1r, hx⟩
      replace bp := Bl.ext hx bp (Nat.succ_pos _)
      replace bq := Bl.ext hx bq (Nat.succ_pos _)
      replace fs := Fz.ext hx fs bs (Nat.succ_pos _)
      replace bs := Bl.ext hx bs (Nat.succ_pos _)
      replace ft := Fz.ext hx ft bt (Nat.succ_pos _)
      replace bt := Bl.ext hx bt (Nat.succ_pos _)
      replace HE := HE.trans hx
      clear hx
      clear HQ
      have hnr := hs1r.len
      have hnp : 0 < n1r := by have := HM0.out; rw [hnr]; rcases Nat.eq_zero_or_pos (dl (A % B)) with h | h; (exact absurd (dl_eq_zero.1 h) this); exact h
      have HNR := hidP hnr; clear hnr
      go_wp2_with fail
      refine absC (fun x2 hx2 => ?_)
      have hx : Ext u1 x2 := by rw [hx2]; exact ((Ext.refl _).alloc _)
      replace bp := Bl.ext hx bp (Nat.succ_pos _)
      replace bq := Bl.ext hx bq (Nat.succ_pos _)
      replace fs := Fz.ext hx fs bs (Nat.succ_pos _)
      replace bs := Bl.ext hx bs (Nat.succ_pos _)
      replace ft := Fz.ext hx ft bt (Nat.succ_pos _)
      replace bt := Bl.ext hx bt (Nat.succ_pos _)
      replace hs1q := hs1q.ext hx
      replace hs1r := hs1r.ext hx
      replace HE := HE.trans hx
      clear hx
      have h1 : Nc x2 (some ⟨u1.heap.size, 0, none⟩) 1 1 1 := by rw [hx2]; exact Nc.lit1 _ 1 (by omega) (by omega) _
      clear hx2
      refine (n_Add (hs1q.nu (by have := HDQ.out; omega)) (h1.nu (by rw [← h1.len]; omega))).mono ?_
      rintro e u2 ⟨a2, n2, c2, rfl, hs2, hx⟩
      replace bp := Bl.ext hx bp (Nat.succ_pos _)
      replace bq := Bl.ext hx bq (Nat.succ_pos _)
      replace fs := Fz.ext hx fs bs (Nat.succ_pos _)
      replace bs := Bl.ext hx bs (Nat.succ_pos _)
      replace ft := Fz.ext hx ft bt (Nat.succ_pos _)
      replace bt := Bl.ext hx bt (Nat.succ_pos _)
      replace hs1q := hs1q.ext hx
      replace hs1r := hs1r.ext hx
      replace HE := HE.trans hx
      clear hx
      clear h1
      clear hs1q
      go_wp2_with fail
      refine (n_Sub (HB.out.ext HE) (hs1r.nu (by have := HDM.out; omega))).mono ?_
      rintro e u3 ⟨a3, n3, c3, rfl, hs3, hx⟩
      replace bp := Bl.ext hx bp (Nat.succ_pos _)
      replace bq := Bl.ext hx bq (Nat.succ_pos _)
      replace fs := Fz.ext hx fs bs (Nat.succ_pos _)
      replace bs := Bl.ext hx bs (Nat.succ_pos _)
      replace ft := Fz.ext hx ft bt (Nat.succ_pos _)
      replace bt := Bl.ext hx bt (Nat.succ_pos _)
      replace hs1r := hs1r.ext hx
      replace hs2 := hs2.ext hx
      replace HE := HE.trans hx
      clear hx
      clear hs1r
      have hnb : (true != neg') = (!neg') := by cases neg' <;> rfl
      rw [hnb] at HLW
      clear hnb
      have HNB : Hid (decide (wz (!neg') (A / B + 1) < 0) = decide (wz (!neg') (A / B + 1) < 0)) := hidP rfl
      clear HNB
      go_wp2_with fail
      refine (w_clean_any (!neg') a2 n2 c2 (A / B + 1) _ hs2).mono ?_
      rintro e u7 ⟨a7, n7, c7, rfl, hs7, hx⟩
      replace bp := Bl.ext hx bp (Nat.succ_pos _)
      replace bq := Bl.ext hx bq (Nat.succ_pos _)
      replace fs := Fz.ext hx fs bs (Nat.succ_pos _)
      replace bs := Bl.ext hx bs (Nat.succ_pos _)
      replace ft := Fz.ext hx ft bt (Nat.succ_pos _)
      replace bt := Bl.ext hx bt (Nat.succ_pos _)
      replace hs2 := hs2.ext hx
      replace hs3 := hs3.ext hx
      replace HE := HE.trans hx
      clear hx
      clear hs2
      go_wp2_with fail
      refine (w_clean_any false a3 n3 c3 (B - A % B) _ hs3).mono ?_
      rintro e u8 ⟨a8, n8, c8, rfl, hs8, hx⟩
      replace bp := Bl.ext hx bp (Nat.succ_pos _)
      replace bq := Bl.ext hx bq (Nat.succ_pos _)
      replace fs := Fz.ext hx fs bs (Nat.succ_pos _)
      replace bs := Bl.ext hx bs (Nat.succ_pos _)
      replace ft := Fz.ext hx ft bt (Nat.succ_pos _)
      replace bt := Bl.ext hx bt (Nat.succ_pos _)
      replace hs3 := hs3.ext hx
      replace hs7 := hs7.ext hx
      replace HE := HE.trans hx
      clear hx
      clear hs3
      generalize hb1 : decide (wz (!neg') (A / B + 1) < 0) = b1 at *
      have HB1 := hidP hb1; clear hb1
      have HS7 : Hid (Nc u8 a7 n7 c7 (wz (!neg') (A / B + 1)).natAbs) := hidP hs7
      have HS8 : Hid (Nc u8 a8 n8 c8 (wz false (B - A % B)).natAbs) := hidP hs8
      have hb2 := wz_false_nn (B - A % B)
      rw [hb2]
      clear hb2 hs7 hs8
      go_wp2_with fail
      refine absB (fun ue hue => ?_)
      have hne : w.heap.size + 1 + 1 ≠ w.heap.size + 1 + 1 + 1 := by omega
      have hne' : w.heap.size + 1 + 1 + 1 ≠ w.heap.size + 1 + 1 := by omega
      have hbs : Bl ue (w.heap.size + 1 + 1) #[.bool b1, .slice a7 n7 c7] := by rw [hue]; exact (((bs.set (Nat.succ_pos _)).set (Nat.lt_succ_self _)).other hne).other hne
      have hbt : Bl ue (w.heap.size + 1 + 1 + 1) #[.bool false, .slice a8 n8 c8] := by rw [hue]; exact ((((bt.other hne').other hne').set (Nat.succ_pos _)).set (Nat.lt_succ_self _))
      have hnc : ∀ {aa : Option Addr} {nn cc VV : Nat}, Nc u8 aa nn cc VV → Nc ue aa nn cc VV := fun h => by
        rw [hue]
        exact (h.but bs (not_ints2 nb_bool nb_slice) ((But.refl _ _).store.store)).but ((bt.other hne').other hne') (not_ints2 nb_bool nb_slice) ((But.refl _ _).store.store)
      have heu : Ext w ue := by rw [hue]; exact (((HE.store (by show w.heap.size ≤ w.heap.size + 1 + 1; omega) _).store (by show w.heap.size ≤ w.heap.size + 1 + 1; omega) _).store (by show w.heap.size ≤ w.heap.size + 1 + 1 + 1; omega) _).store (by show w.heap.size ≤ w.heap.size + 1 + 1 + 1; omega) _
      clear hue
      refine bodyPost_cells2_tmp rfl rfl rfl Try.underlying51 rfl (by kernel_rfl) (by kernel_rfl) (bl_two hbs) (bl_two hbt) rfl rfl ?_
      have HLL := HLW.out
      refine RetWD.of (q := wz (!neg') (A / B + 1)) (r := wz false (B - A % B)) HLL.1 ?_ HZ1.out HB1.out ?_ (hnc HS7.out) (hnc HS8.out) heu
      · rw [HZM.out, HLL.2]; rfl
      · exact wz_false_nn _
    · have HM0 : Hid (¬ (neg = true ∧ A % B ≠ 0)) := hidP hup
      have HLW := hidP (HL2.out.2 hup)
      clear hup
      go_enter Try.func47, Try.ntmps47
      go_wp2_with fail
      refine absC (fun x1 hx1 => ?_)
      have hx : Ext w x1 := by rw [hx1]; exact (((((Ext.refl _).alloc _).alloc _).alloc _).alloc _)
      have bp : Bl x1 (w.heap.size) #[.bool neg, .slice a n cap] := by rw [hx1]; exact ((((Bl.new (by simp)).alloc (by simp)).alloc (by simp)).alloc (by simp))
      have bq : Bl x1 (w.heap.size + 1) #[.bool neg', .slice a' n' cap'] := by rw [hx1]; exact (((Bl.new (by simp)).alloc (by simp)).alloc (by simp))
      have bs : Bl x1 (w.heap.size + 1 + 1) #[.bool false, .slice none 0 0] := by rw [hx1]; exact ((Bl.new (by simp)).alloc (by simp))
      have fs : Fz x1 (w.heap.size + 1 + 1) := by rw [hx1]; exact ((Fz.new (by simp)).alloc (Bl.new (by simp)) (by simp))
      have bt : Bl x1 (w.heap.size + 1 + 1 + 1) #[.bool false, .slice none 0 0] := by rw [hx1]; exact (Bl.new (by simp))
      have ft : Fz x1 (w.heap.size + 1 + 1 + 1) := by rw [hx1]; exact (Fz.new (by simp))
      have HE := hx
      clear hx
      clear hx1
      have hq := n_Div (HA.out.ext HE) (HB.out.ext HE)
      unfold RetQR at hq
      rw [decide_eq_true HZ.out, if_neg HZ.out, if_neg HZ.out] at hq
      have HQ := hidP hq
      clear hq
      refine (HQ.out).mono ?_
      rintro e u1 ⟨a1q, n1q, c1q, a1r, n1r, c1r, rfl, hs1q, hs1r, hx⟩
      replace bp := Bl.ext hx bp (Nat.succ_pos _)
      replace bq := Bl.ext hx bq (Nat.succ_pos _)
      replace fs := Fz.ext hx fs bs (Nat.succ_pos _)
      replace bs := Bl.ext hx bs (Nat.succ_pos _)
      replace ft := Fz.ext hx ft bt (Nat.succ_pos _)
      replace bt := Bl.ext hx bt (Nat.succ_pos _)
      replace HE := HE.trans hx
      clear hx
      clear HQ
      have hnr := hs1r.len
      have hnp : neg = true → n1r = 0 := by intro h; rw [hnr, dl_eq_zero]; have := HM0.out; simp only [h, true_and, Decidable.not_not] at this; exact this
      have HNR := hidP hnr; clear hnr
      cases neg with
      | true =>
        obtain rfl : n1r = 0 := hnp rfl
        clear hnp
        have hnb : (true != neg') = (!neg') := by cases neg' <;> rfl
        rw [hnb] at HLW
        clear hnb
        have HNB : Hid (decide (wz (!neg') (A / B) < 0) = decide (wz (!neg') (A / B) < 0)) := hidP rfl
        clear HNB
        go_wp2_with fail
        refine (w_clean_any (!neg') a1q n1q c1q (A / B) _ hs1q).mono ?_
        rintro e u7 ⟨a7, n7, c7, rfl, hs7, hx⟩
        replace bp := Bl.ext hx bp (Nat.succ_pos _)
        replace bq := Bl.ext hx bq (Nat.succ_pos _)
        replace fs := Fz.ext hx fs bs (Nat.succ_pos _)
        replace bs := Bl.ext hx bs (Nat.succ_pos _)
        replace ft := Fz.ext hx ft bt (Nat.succ_pos _)
        replace bt := Bl.ext hx bt (Nat.succ_pos _)
        replace hs1q := hs1q.ext hx
        replace hs1r := hs1r.ext hx
        replace HE := HE.trans hx
        clear hx
        clear hs1q
        go_wp2_with fail
        refine (w_clean_any false a1r 0 c1r (A % B) _ hs1r).mono ?_
        rintro e u8 ⟨a8, n8, c8, rfl, hs8, hx⟩
        replace bp := Bl.ext hx bp (Nat.succ_pos _)
        replace bq := Bl.ext hx bq (Nat.succ_pos _)
        replace fs := Fz.ext hx fs bs (Nat.succ_pos _)
        replace bs := Bl.ext hx bs (Nat.succ_pos _)
        replace ft := Fz.ext hx ft bt (Nat.succ_pos _)
        replace bt := Bl.ext hx bt (Nat.succ_pos _)
        replace hs1r := hs1r.ext hx
        replace hs7 := hs7.ext hx
        replace HE := HE.trans hx
        clear hx
        clear hs1r
        generalize hb1 : decide (wz (!neg') (A / B) < 0) = b1 at *
        have HB1 := hidP hb1; clear hb1
        have HS7 : Hid (Nc u8 a7 n7 c7 (wz (!neg') (A / B)).natAbs) := hidP hs7
        have HS8 : Hid (Nc u8 a8 n8 c8 (wz false (A % B)).natAbs) := hidP hs8
        have hb2 := wz_false_nn (A % B)
        rw [hb2]
        clear hb2 hs7 hs8
        go_wp2_with fail
        refine absB (fun ue hue => ?_)
        have hne : w.heap.size + 1 + 1 ≠ w.heap.size + 1 + 1 + 1 := by omega
        have hne' : w.heap.size + 1 + 1 + 1 ≠ w.heap.size + 1 + 1 := by omega
        have hbs : Bl ue (w.heap.size + 1 + 1) #[.bool b1, .slice a7 n7 c7] := by rw [hue]; exact (((bs.set (Nat.succ_pos _)).set (Nat.lt_succ_self _)).other hne).other hne
        have hbt : Bl ue (w.heap.size + 1 + 1 + 1) #[.bool false, .slice a8 n8 c8] := by rw [hue]; exact ((((bt.other hne').other hne').set (Nat.succ_pos _)).set (Nat.lt_succ_self _))
        have hnc : ∀ {aa : Option Addr} {nn cc VV : Nat}, Nc u8 aa nn cc VV → Nc ue aa nn cc VV := fun h => by
          rw [hue]
          exact (h.but bs (not_ints2 nb_bool nb_slice) ((But.refl _ _).store.store)).but ((bt.other hne').other hne') (not_ints2 nb_bool nb_slice) ((But.refl _ _).store.store)
        have heu : Ext w ue := by rw [hue]; exact (((HE.store (by show w.heap.size ≤ w.heap.size + 1 + 1; omega) _).store (by show w.heap.size ≤ w.heap.size + 1 + 1; omega) _).store (by show w.heap.size ≤ w.heap.size + 1 + 1 + 1; omega) _).store (by show w.heap.size ≤ w.heap.size + 1 + 1 + 1; omega) _
        clear hue
        refine bodyPost_cells2_tmp rfl rfl rfl Try.underlying51 rfl (by kernel_rfl) (by kernel_rfl) (bl_two hbs) (bl_two hbt) rfl rfl ?_
        have HLL := HLW.out
        refine RetWD.of (q := wz (!neg') (A / B)) (r := wz false (A % B)) HLL.1 ?_ HZ1.out HB1.out ?_ (hnc HS7.out) (hnc HS8.out) heu
        · rw [HZM.out, HLL.2]; rfl
        · exact wz_false_nn _
      | false =>
        clear hnp
        have hnb : (false != neg') = neg' := by cases neg' <;> rfl
        rw [hnb] at HLW
        clear hnb
        have HNB : Hid (decide (wz neg' (A / B) < 0) = decide (wz neg' (A / B) < 0)) := hidP rfl
        clear HNB
        go_wp2_with fail
        refine (w_clean_any neg' a1q n1q c1q (A / B) _ hs1q).mono ?_
        rintro e u7 ⟨a7, n7, c7, rfl, hs7, hx⟩
        replace bp := Bl.ext hx bp (Nat.succ_pos _)
        replace bq := Bl.ext hx bq (Nat.succ_pos _)
        replace fs := Fz.ext hx fs bs (Nat.succ_pos _)
        replace bs := Bl.ext hx bs (Nat.succ_pos _)
        replace ft := Fz.ext hx ft bt (Nat.succ_pos _)
        replace bt := Bl.ext hx bt (Nat.succ_pos _)
        replace hs1q := hs1q.ext hx
        replace hs1r := hs1r.ext hx
        replace HE := HE.trans hx
        clear hx
        clear hs1q
        go_wp2_with fail
        refine (w_clean_any false a1r n1r c1r (A % B) _ hs1r).mono ?_
        rintro e u8 ⟨a8, n8, c8, rfl, hs8, hx⟩
        replace bp := Bl.ext hx bp (Nat.succ_pos _)
        replace bq := Bl.ext hx bq (Nat.succ_pos _)
        replace fs := Fz.ext hx fs bs (Nat.succ_pos _)
        replace bs := Bl.ext hx bs (Nat.succ_pos _)
        replace ft := Fz.ext hx ft bt (Nat.succ_pos _)
        replace bt := Bl.ext hx bt (Nat.succ_pos _)
        replace hs1r := hs1r.ext hx
        replace hs7 := hs7.ext hx
        replace HE := HE.trans hx
        clear hx
        clear hs1r
        generalize hb1 : decide (wz neg' (A / B) < 0) = b1 at *
        have HB1 := hidP hb1; clear hb1
        have HS7 : Hid (Nc u8 a7 n7 c7 (wz neg' (A / B)).natAbs) := hidP hs7
        have HS8 : Hid (Nc u8 a8 n8 c8 (wz false (A % B)).natAbs) := hidP hs8
        have hb2 := wz_false_nn (A % B)
        rw [hb2]
        clear hb2 hs7 hs8
        go_wp2_with fail
        refine absB (fun ue hue => ?_)
        have hne : w.heap.size + 1 + 1 ≠ w.heap.size + 1 + 1 + 1 := by omega
        have hne' : w.heap.size + 1 + 1 + 1 ≠ w.heap.size + 1 + 1 := by omega
        have hbs : Bl ue (w.heap.size + 1 + 1) #[.bool b1, .slice a7 n7 c7] := by rw [hue]; exact (((bs.set (Nat.succ_pos _)).set (Nat.lt_succ_self _)).other hne).other hne
        have hbt : Bl ue (w.heap.size + 1 + 1 + 1) #[.bool false, .slice a8 n8 c8] := by rw [hue]; exact ((((bt.other hne').other hne').set (Nat.succ_pos _)).set (Nat.lt_succ_self _))
        have hnc : ∀ {aa : Option Addr} {nn cc VV : Nat}, Nc u8 aa nn cc VV → Nc ue aa nn cc VV := fun h => by
          rw [hue]
          exact (h.but bs (not_ints2 nb_bool nb_slice) ((But.refl _ _).store.store)).but ((bt.other hne').other hne') (not_ints2 nb_bool nb_slice) ((But.refl _ _).store.store)
        have heu : Ext w ue := by rw [hue]; exact (((HE.store (by show w.heap.size ≤ w.heap.size + 1 + 1; omega) _).store (by show w.heap.size ≤ w.heap.size + 1 + 1; omega) _).store (by show w.heap.size ≤ w.heap.size + 1 + 1 + 1; omega) _).store (by show w.heap.size ≤ w.heap.size + 1 + 1 + 1; omega) _
        clear hue
        refine bodyPost_cells2_tmp rfl rfl rfl Try.underlying51 rfl (by kernel_rfl) (by kernel_rfl) (bl_two hbs) (bl_two hbt) rfl rfl ?_
        have HLL := HLW.out
        refine RetWD.of (q := wz neg' (A / B)) (r := wz false (A % B)) HLL.1 ?_ HZ1.out HB1.out ?_ (hnc HS7.out) (hnc HS8.out) heu
        · rw [HZM.out, HLL.2]; rfl
        · exact wz_false_nn _

end Go.Proofs.Ytcipcpbjkcpgdaa

namespace Go.Proofs.Ytcipcpbjkcpgdaa
set_option linter.unusedVariables false
open Go Go.RowKit

theorem absE {R : World → World → Prop} {P : Program} {ops : Array Oper} {Q : Exit → Act → World → Prop} {p : Plan} {a : Act} {w : World} (h : ∀ u, u = w → wpE R P ops Q p a u) : wpE R P ops Q p a w := h w rfl
theorem Nc.wh {w : World} {a : Option Addr} {n cap : Nat} {z : Int} (h : Nc w a n cap z.natAbs) (hb : dl z.natAbs ≤ 549755813888) : WhIn w (decide (z < 0)) a n cap z :=
  ⟨⟨_, h, Ws.dig _, by rw [val_dig B32_two]; exact wz_canon z⟩, by rw [h.len]; exact hb⟩
theorem d_Make (neg : Bool) {a : Option Addr} {n cap V : Nat} {w : World} (h : Nu w a n cap V) : Calls Try.prog 65 #[.bool neg, .slice a n cap] w (RetW w (wz neg V)) := by
  obtain ⟨⟨l, hs, hl, rfl⟩, hn⟩ := h; exact r02_Make_any neg a n cap l w hs hl hn
theorem wz_abs (b : Bool) (m : Nat) : (wz b m).natAbs = m := by unfold wz; split <;> omega
theorem dz_sub {z z' : Int} {N : Nat} (h : dl z.natAbs ≤ N) (h' : dl z'.natAbs ≤ N) : dl (z - z').natAbs ≤ N + 1 :=
  Nat.le_trans (dl_mono (by omega : (z - z').natAbs ≤ z.natAbs + z'.natAbs)) (dl_add h h')
theorem dz_add {z z' : Int} {N : Nat} (h : dl z.natAbs ≤ N) (h' : dl z'.natAbs ≤ N) : dl (z + z').natAbs ≤ N + 1 :=
  Nat.le_trans (dl_mono (by omega : (z + z').natAbs ≤ z.natAbs + z'.natAbs)) (dl_add h h')
theorem dz_mul (z z' : Int) : dl (z * z').natAbs ≤ dl z.natAbs + dl z'.natAbs := by rw [Int.natAbs_mul]; exact dl_mul _ _
theorem sgn_m1 {z : Int} (h : z < 0) : sgn z = -1 := by
  rcases sgn_cases z with h1 | h1 | h1 <;> omega
theorem sgn_nn {z : Int} (h : 0 ≤ z) : 0 ≤ sgn z := by
  rcases sgn_cases z with h1 | h1 | h1 <;> omega
/-- The first guess and what it leaves. -/
theorem guess_law {neg neg' : Bool} {A B : Nat} : wz neg A - wz (neg != neg') (A / B) * wz neg' B = wz neg (A % B) := by
  have hd := Nat.div_add_mod A B
  have e : wz (neg != neg') (A / B) * wz neg' B = wz neg (A / B * B) := by
    rw [← wz_mul]
    cases neg <;> cases neg' <;> rfl
  rw [e, Nat.mul_comm]
  generalize A / B = q at *
  generalize A % B = r at *
  generalize B * q = s at *
  unfold wz
  cases neg <;> simp <;> omega

/-- All blocks but some are as they were. -/
def ButS (S : List Nat) (w u : World) : Prop := w.heap.size ≤ u.heap.size ∧ ∀ k, k < w.heap.size → k ∉ S → u.heap[k]? = w.heap[k]?
theorem ButS.refl (S : List Nat) (w : World) : ButS S w w := ⟨Nat.le_refl _, fun _ _ _ => rfl⟩
theorem ButS.trans (S : List Nat) (w u v : World) (h : ButS S w u) (h' : ButS S u v) : ButS S w v := ⟨Nat.le_trans h.1 h'.1, fun k hk hg => (h'.2 k (Nat.lt_of_lt_of_le hk h.1) hg).trans (h.2 k hk hg)⟩
theorem ButS.store {S : List Nat} {w u : World} {g j : Nat} {v : Value} (h : ButS S w u) (hg : g ∈ S) : ButS S w (u.setCell ⟨g, j, none⟩ v) :=
  ⟨Nat.le_trans h.1 (by simp), fun k hk hk2 => (heap_setCell_other u ⟨g, j, none⟩ k v (fun e => hk2 (by simp at e; rw [e]; exact hg))).trans (h.2 k hk hk2)⟩
theorem ButS.bl {S : List Nat} {w u : World} {h : Nat} {cs : Array Value} (hb : ButS S w u) (hh : Bl w h cs) (h0 : 0 < cs.size) (hne : h ∉ S) : Bl u h cs := fun j =>
  (World.cell?_of_block (a := ⟨h, j, none⟩) (hb.2 h (hh.lt h0) hne)).trans (hh j)

set_option maxRecDepth 100000 in
set_option maxHeartbeats 4000000 in
theorem r02_Div_any (neg neg' : Bool) (a a' : Option Addr) (n cap n' cap' : Nat) (z z' : Int) (w : World) (hw : WhIn w neg a n cap z) (hw' : WhIn w neg' a' n' cap' z') (hb : dl z.natAbs ≤ 137438953472) (hb' : dl z'.natAbs ≤ 137438953472) :
    Calls Try.prog 48 #[.agg #[.bool neg, .slice a n cap], .agg #[.bool neg', .slice a' n' cap']] w (RetWD w z z') := by
  have hA := hw.nu
  have hB := hw'.nu
  have hz := hw.sgn
  have hz' := hw'.sgn
  have HL := fun h => div_law (neg := neg) (neg' := neg') (A := z.natAbs) (B := z'.natAbs) h
  have HG := @guess_law neg neg' z.natAbs z'.natAbs
  rw [← hz, ← hz'] at HL HG
  have hz0 : z' ≠ 0 ↔ z'.natAbs ≠ 0 := by omega
  have HD1 : Hid (dl (wz (neg != neg') (z.natAbs / z'.natAbs)).natAbs ≤ 137438953472) := hidP (by rw [wz_abs]; have := dl_div z.natAbs z'.natAbs; omega)
  have HDQ : Hid (dl (z.natAbs / z'.natAbs) ≤ 137438953472) := hidP (by have := dl_div z.natAbs z'.natAbs; omega)
  have HD2 : Hid (dl (wz (neg != neg') (z.natAbs / z'.natAbs) * z').natAbs ≤ 274877906944) := hidP (by have := dz_mul (wz (neg != neg') (z.natAbs / z'.natAbs)) z'; have := HD1.out; omega)
  have HD3 : Hid (dl (z - wz (neg != neg') (z.natAbs / z'.natAbs) * z').natAbs ≤ 274877906945) := hidP (dz_sub (by omega) HD2.out)
  have HD4 : Hid (dl (z.natAbs / z'.natAbs + 1) ≤ 137438953473) := hidP (dl_add HDQ.out (by have := dl_small (a := 1) (by omega); omega))
  have HD5 : Hid (dl (wz (neg != neg') (z.natAbs / z'.natAbs + 1)).natAbs ≤ 137438953473) := hidP (by rw [wz_abs]; exact HD4.out)
  have HD6 : Hid (dl (wz (neg != neg') (z.natAbs / z'.natAbs + 1) * z').natAbs ≤ 274877906945) := hidP (by have := dz_mul (wz (neg != neg') (z.natAbs / z'.natAbs + 1)) z'; have := HD5.out; omega)
  generalize z.natAbs = A at *
  generalize z'.natAbs = B at *
  have HA := hidP hA; have HB := hidP hB; have HW := hidP hw; have HW' := hidP hw'
  clear hw hw' hA hB hz hz' hb hb'
  by_cases hB0 : B = 0
  · have hz00 : z' = 0 := by omega
    have HZS : Hid (sgn z' = 0) := hidP (by rw [hz00]; rfl)
    have HR : Hid (∀ u, Ext w u → RetWD w z z' (.returned (.tuple #[.agg #[.bool false, .slice none 0 0], .agg #[.bool false, .slice none 0 0], .bool false])) u) := hidP (fun u he => by
      refine RetWD.of (q := 0) (r := 0) ?_ ?_ ?_ rfl rfl (Nc.zero _) (Nc.zero _) he
      · rw [hz00, Int.ediv_zero]
      · unfold zmod; rw [if_pos hz00]
      · simp [hz00])
    generalize RetWD w z z' = R at *
    clear hz00 hz0 hB0 HL HG
    go_enter Try.func48, Try.ntmps48
    go_wp2_with fail
    refine absC (fun x1 hx1 => ?_)
    have hx : Ext w x1 := by rw [hx1]; exact (((((Ext.refl _).alloc _).alloc _).alloc _).alloc _)
    have bp : Bl x1 (w.heap.size) #[.bool neg, .slice a n cap] := by rw [hx1]; exact ((((Bl.new (by simp)).alloc (by simp)).alloc (by simp)).alloc (by simp))
    have bq : Bl x1 (w.heap.size + 1) #[.bool neg', .slice a' n' cap'] := by rw [hx1]; exact (((Bl.new (by simp)).alloc (by simp)).alloc (by simp))
    have bs : Bl x1 (w.heap.size + 1 + 1) #[.bool false, .slice none 0 0] := by rw [hx1]; exact ((Bl.new (by simp)).alloc (by simp))
    have fs : Fz x1 (w.heap.size + 1 + 1) := by rw [hx1]; exact ((Fz.new (by simp)).alloc (Bl.new (by simp)) (by simp))
    have bt : Bl x1 (w.heap.size + 1 + 1 + 1) #[.bool false, .slice none 0 0] := by rw [hx1]; exact (Bl.new (by simp))
    have ft : Fz x1 (w.heap.size + 1 + 1 + 1) := by rw [hx1]; exact (Fz.new (by simp))
    have HE := hx
    clear hx
    clear hx1
    refine (r02_Sign_any neg' a' n' cap' z' _ (HW'.out.ext HE)).mono ?_
    rw [HZS.out]
    rintro e u1 ⟨rfl, hx⟩
    replace bp := Bl.ext hx bp (Nat.succ_pos _)
    replace bq := Bl.ext hx bq (Nat.succ_pos _)
    replace fs := Fz.ext hx fs bs (Nat.succ_pos _)
    replace bs := Bl.ext hx bs (Nat.succ_pos _)
    replace ft := Fz.ext hx ft bt (Nat.succ_pos _)
    replace bt := Bl.ext hx bt (Nat.succ_pos _)
    replace HE := HE.trans hx
    clear hx
    go_wp2_with fail
    refine absB (fun ue hue => ?_)
    have hne : w.heap.size + 1 + 1 ≠ w.heap.size + 1 + 1 + 1 := by omega
    have hne' : w.heap.size + 1 + 1 + 1 ≠ w.heap.size + 1 + 1 := by omega
    have hbs : Bl ue (w.heap.size + 1 + 1) #[.bool false, .slice none 0 0] := by rw [hue]; exact (((bs.set (Nat.succ_pos _)).set (Nat.lt_succ_self _)).other hne).other hne
    have hbt : Bl ue (w.heap.size + 1 + 1 + 1) #[.bool false, .slice none 0 0] := by rw [hue]; exact ((((bt.other hne').other hne').set (Nat.succ_pos _)).set (Nat.lt_succ_self _))
    have hnc : ∀ {aa : Option Addr} {nn cc VV : Nat}, Nc u1 aa nn cc VV → Nc ue aa nn cc VV := fun h => by
      rw [hue]
      exact (h.but bs (not_ints2 nb_bool nb_slice) ((But.refl _ _).store.store)).but ((bt.other hne').other hne') (not_ints2 nb_bool nb_slice) ((But.refl _ _).store.store)
    have heu : Ext w ue := by rw [hue]; exact (((HE.store (by show w.heap.size ≤ w.heap.size + 1 + 1; omega) _).store (by show w.heap.size ≤ w.heap.size + 1 + 1; omega) _).store (by show w.heap.size ≤ w.heap.size + 1 + 1 + 1; omega) _).store (by show w.heap.size ≤ w.heap.size + 1 + 1 + 1; omega) _
    clear hue
    refine bodyPost_cells2_tmp rfl rfl rfl Try.underlying51 rfl (by kernel_rfl) (by kernel_rfl) (bl_two hbs) (bl_two hbt) rfl rfl ?_
    exact HR.out _ heu
  · have HZ := hidP hB0
    have HL2 := hidP (HL hB0)
    have HGL := hidP HG
    have HZ1 : Hid (decide (z' ≠ 0) = true) := hidP (decide_eq_true (hz0.2 hB0))
    have HZM : Hid (zmod z z' = z % z') := hidP (by unfold zmod; rw [if_neg (hz0.2 hB0)])
    have hsg : ¬ sgn z' = 0 := by have := hz0.2 hB0; rcases sgn_cases z' with h | h | h <;> omega
    have hsz : (sgn z' == 0) = false := by simpa using hsg
    clear HL hz0 HG hsg
    generalize hx0 : wz (neg != neg') (A / B) = X0 at *
    generalize hx1 : wz (neg != neg') (A / B + 1) = X1 at *
    have HX0 := hidP hx0; have HX1 := hidP hx1
    clear hx0 hx1
    go_enter Try.func48, Try.ntmps48
    go_wp2_with fail
    refine absC (fun x1 hx1 => ?_)
    have hx : Ext w x1 := by rw [hx1]; exact (((((Ext.refl _).alloc _).alloc _).alloc _).alloc _)
    have bp : Bl x1 (w.heap.size) #[.bool neg, .slice a n cap] := by rw [hx1]; exact ((((Bl.new (by simp)).alloc (by simp)).alloc (by simp)).alloc (by simp))
    have bq : Bl x1 (w.heap.size + 1) #[.bool neg', .slice a' n' cap'] := by rw [hx1]; exact (((Bl.new (by simp)).alloc (by simp)).alloc (by simp))
    have bs : Bl x1 (w.heap.size + 1 + 1) #[.bool false, .slice none 0 0] := by rw [hx1]; exact ((Bl.new (by simp)).alloc (by simp))
    have fs : Fz x1 (w.heap.size + 1 + 1) := by rw [hx1]; exact ((Fz.new (by simp)).alloc (Bl.new (by simp)) (by simp))
    have bt : Bl x1 (w.heap.size + 1 + 1 + 1) #[.bool false, .slice none 0 0] := by rw [hx1]; exact (Bl.new (by simp))
    have ft : Fz x1 (w.heap.size + 1 + 1 + 1) := by rw [hx1]; exact (Fz.new (by simp))
    have HE := hx
    clear hx
    clear hx1
    refine (r02_Sign_any neg' a' n' cap' z' _ (HW'.out.ext HE)).mono ?_
    rintro e u1 ⟨rfl, hx⟩
    replace bp := Bl.ext hx bp (Nat.succ_pos _)
    replace bq := Bl.ext hx bq (Nat.succ_pos _)
    replace fs := Fz.ext hx fs bs (Nat.succ_pos _)
    replace bs := Bl.ext hx bs (Nat.succ_pos _)
    replace ft := Fz.ext hx ft bt (Nat.succ_pos _)
    replace bt := Bl.ext hx bt (Nat.succ_pos _)
    replace HE := HE.trans hx
    clear hx
    go_wp2_with fail
    have hq := d_Div (HA.out.ext HE) (HB.out.ext HE)
    unfold RetQR at hq
    rw [decide_eq_true HZ.out, if_neg HZ.out, if_neg HZ.out] at hq
    have HQ := hidP hq
    clear hq
    refine (HQ.out).mono ?_
    rintro e u2 ⟨a2q, n2q, c2q, a2r, n2r, c2r, rfl, hs2q, hs2r, hx⟩
    replace bp := Bl.ext hx bp (Nat.succ_pos _)
    replace bq := Bl.ext hx bq (Nat.succ_pos _)
    replace fs := Fz.ext hx fs bs (Nat.succ_pos _)
    replace bs := Bl.ext hx bs (Nat.succ_pos _)
    replace ft := Fz.ext hx ft bt (Nat.succ_pos _)
    replace bt := Bl.ext hx bt (Nat.succ_pos _)
    replace HE := HE.trans hx
    clear hx
    clear HQ
    clear hs2r
    go_wp2_with fail
    refine (d_Make (neg != neg') (hs2q.nu (by have := HDQ.out; omega))).mono ?_
    rw [HX0.out]
    rintro e u3 ⟨a3, n3, c3, rfl, hs3, hx⟩
    replace bp := Bl.ext hx bp (Nat.succ_pos _)
    replace bq := Bl.ext hx bq (Nat.succ_pos _)
    replace fs := Fz.ext hx fs bs (Nat.succ_pos _)
    replace bs := Bl.ext hx bs (Nat.succ_pos _)
    replace ft := Fz.ext hx ft bt (Nat.succ_pos _)
    replace bt := Bl.ext hx bt (Nat.succ_pos _)
    replace hs2q := hs2q.ext hx
    replace HE := HE.trans hx
    clear hx
    replace hs3 : Nc u3 a3 n3 c3 (X0).natAbs := hs3
    go_upto_region 5 with fail
    have lpx := bp.lt (Nat.succ_pos _)
    have lqx := bq.lt (Nat.succ_pos _)
    have lsx := bs.lt (Nat.succ_pos _)
    have ltx := bt.lt (Nat.succ_pos _)
    have l0x := HE.size
    refine absW (fun x2 hx2 => ?_)
    have hx : Ext u3 x2 := by rw [hx2]; exact ((Ext.refl _).alloc _)
    have bx : Bl x2 (u3.heap.size) #[.bool (decide (X0 < 0)), .slice a3 n3 c3] := by rw [hx2]; exact (Bl.new (by simp))
    have fx : Fz x2 (u3.heap.size) := by rw [hx2]; exact (Fz.new (by simp))
    replace bp := Bl.ext hx bp (Nat.succ_pos _)
    replace bq := Bl.ext hx bq (Nat.succ_pos _)
    replace fs := Fz.ext hx fs bs (Nat.succ_pos _)
    replace bs := Bl.ext hx bs (Nat.succ_pos _)
    replace ft := Fz.ext hx ft bt (Nat.succ_pos _)
    replace bt := Bl.ext hx bt (Nat.succ_pos _)
    replace hs2q := hs2q.ext hx
    replace hs3 := hs3.ext hx
    replace HE := HE.trans hx
    clear hx
    clear hx2
    go_cut [11] (fun vr wx => ∃ (gr : Nat) (ar : Option Addr) (nr cr : Nat), vr = .pointer (some ⟨gr, 0, none⟩) ∧ x2.heap.size ≤ gr ∧ Bl wx gr #[.bool (decide (z - X0 * z' < 0)), .slice ar nr cr] ∧ Fz wx gr ∧ Nc wx ar nr cr (z - X0 * z').natAbs ∧ Ext x2 wx)
    case first =>
      have HE0 := hidP HE
      clear HE
      have HE := Ext.refl x2
      refine wp_region_plan (R := Ext) (.q 0 (.q 1 (.q 2 (.br 3 (.br 4 (.l 5 (.b 6 .done)) (.l 5 (.l 4 (.b 6 .done)))) (.l 5 (.l 3 (.l 4 (.b 6 .done)))))))) (by kernel_rfl) (by kernel_rfl) (by kernel_rfl) (by kernel_rfl) Ext.refl (fun _ _ _ => Ext.trans) ?_
      refine absE (fun x3 hx3 => ?_)
      have hx : Ext x2 x3 := by rw [hx3]; exact (Ext.refl _).drew
      replace bp := Bl.ext hx bp (Nat.succ_pos _)
      replace bq := Bl.ext hx bq (Nat.succ_pos _)
      replace fs := Fz.ext hx fs bs (Nat.succ_pos _)
      replace bs := Bl.ext hx bs (Nat.succ_pos _)
      replace ft := Fz.ext hx ft bt (Nat.succ_pos _)
      replace bt := Bl.ext hx bt (Nat.succ_pos _)
      replace fx := Fz.ext hx fx bx (Nat.succ_pos _)
      replace bx := Bl.ext hx bx (Nat.succ_pos _)
      replace hs2q := hs2q.ext hx
      replace hs3 := hs3.ext hx
      replace HE := HE.trans hx
      clear hx
      clear hx3
      repeat (refine wpE_q (v := ?_) rfl rfl (fun u hu => ?_) ?_; rotate_left 1; (focus (have kp := Bl.ext hu bp (Nat.succ_pos _); have kq := Bl.ext hu bq (Nat.succ_pos _); have ks := Bl.ext hu bs (Nat.succ_pos _); have kt := Bl.ext hu bt (Nat.succ_pos _); have kx := Bl.ext hu bx (Nat.succ_pos _); go_simp; (try rfl))); simp only [Act.put, List.setIfInBounds_toArray, List.set_cons_zero, List.set_cons_succ])
      refine wpE_br rfl rfl (fun K hK => ?_) ?_
      · go_simp
        refine (r02_Mul_any _ neg' a3 a' n3 c3 n' cap' X0 z' _ (hs3.wh (by have := HD1.out; omega)) ((HW'.out.ext HE0.out).ext HE)).mono ?_
        rintro e u4 ⟨a4, n4, c4, rfl, hs4, hx⟩
        refine hK.out _ _ hx ?_
        clear hK K
        try simp only [Act.put, List.setIfInBounds_toArray, List.set_cons_zero, List.set_cons_succ]
        replace bp := Bl.ext hx bp (Nat.succ_pos _)
        replace bq := Bl.ext hx bq (Nat.succ_pos _)
        replace fs := Fz.ext hx fs bs (Nat.succ_pos _)
        replace bs := Bl.ext hx bs (Nat.succ_pos _)
        replace ft := Fz.ext hx ft bt (Nat.succ_pos _)
        replace bt := Bl.ext hx bt (Nat.succ_pos _)
        replace fx := Fz.ext hx fx bx (Nat.succ_pos _)
        replace bx := Bl.ext hx bx (Nat.succ_pos _)
        replace hs2q := hs2q.ext hx
        replace hs3 := hs3.ext hx
        replace HE := HE.trans hx
        clear hx
        replace hs4 : Nc u4 a4 n4 c4 (X0 * z').natAbs := hs4
        refine wpE_br rfl rfl (fun K hK => ?_) ?_
        · go_simp
          refine (r02_Sub_any neg _ a a4 n cap n4 c4 z (X0 * z') _ ((HW.out.ext HE0.out).ext HE) (hs4.wh (by have := HD2.out; omega))).mono ?_
          rintro e u5 ⟨a5, n5, c5, rfl, hs5, hx⟩
          refine hK.out _ _ hx ?_
          clear hK K
          try simp only [Act.put, List.setIfInBounds_toArray, List.set_cons_zero, List.set_cons_succ]
          replace bp := Bl.ext hx bp (Nat.succ_pos _)
          replace bq := Bl.ext hx bq (Nat.succ_pos _)
          replace fs := Fz.ext hx fs bs (Nat.succ_pos _)
          replace bs := Bl.ext hx bs (Nat.succ_pos _)
          replace ft := Fz.ext hx ft bt (Nat.succ_pos _)
          replace bt := Bl.ext hx bt (Nat.succ_pos _)
          replace fx := Fz.ext hx fx bx (Nat.succ_pos _)
          replace bx := Bl.ext hx bx (Nat.succ_pos _)
          replace hs2q := hs2q.ext hx
          replace hs3 := hs3.ext hx
          replace hs4 := hs4.ext hx
          replace HE := HE.trans hx
          clear hx
          replace hs5 : Nc u5 a5 n5 c5 (z - X0 * z').natAbs := hs5
          refine wpE_l rfl rfl (fun K hK => ?_)
          go_simp
          refine hK.out _ _ ((Ext.refl _).alloc _) ?_
          clear hK K
          try simp only [Act.put, List.setIfInBounds_toArray, List.set_cons_zero, List.set_cons_succ]
          have lpr := bp.lt (Nat.succ_pos _)
          have lqr := bq.lt (Nat.succ_pos _)
          have lsr := bs.lt (Nat.succ_pos _)
          have ltr := bt.lt (Nat.succ_pos _)
          have lxr := bx.lt (Nat.succ_pos _)
          have l0r := HE.size
          refine absE (fun x4 hx4 => ?_)
          have hx : Ext u5 x4 := by rw [hx4]; exact ((Ext.refl _).alloc _)
          have br : Bl x4 (u5.heap.size) #[.bool false, .slice none 0 0] := by rw [hx4]; exact (Bl.new (by simp))
          have fr : Fz x4 (u5.heap.size) := by rw [hx4]; exact (Fz.new (by simp))
          replace bp := Bl.ext hx bp (Nat.succ_pos _)
          replace bq := Bl.ext hx bq (Nat.succ_pos _)
          replace fs := Fz.ext hx fs bs (Nat.succ_pos _)
          replace bs := Bl.ext hx bs (Nat.succ_pos _)
          replace ft := Fz.ext hx ft bt (Nat.succ_pos _)
          replace bt := Bl.ext hx bt (Nat.succ_pos _)
          replace fx := Fz.ext hx fx bx (Nat.succ_pos _)
          replace bx := Bl.ext hx bx (Nat.succ_pos _)
          replace hs2q := hs2q.ext hx
          replace hs3 := hs3.ext hx
          replace hs4 := hs4.ext hx
          replace hs5 := hs5.ext hx
          replace HE := HE.trans hx
          clear hx
          clear hx4
          refine wpE_b rfl rfl (fun K hK => ?_)
          go_simp
          refine hK.out _ _ ?_
          clear hK K
          try simp only [Act.put, List.setIfInBounds_toArray, List.set_cons_zero, List.set_cons_succ]
          refine absE (fun x5 hx5 => ?_)
          have hbut : But x4 x5 (u5.heap.size) := by rw [hx5]; exact (But.refl _ _).store.store
          have hbn : Bl x5 (u5.heap.size) #[.bool (decide (z - X0 * z' < 0)), .slice a5 n5 c5] := by rw [hx5]; exact (Bl.set (Bl.set br (by simp)) (by simp))
          replace hs2q := hs2q.but br (not_ints2 nb_bool nb_slice) hbut
          replace hs3 := hs3.but br (not_ints2 nb_bool nb_slice) hbut
          replace hs4 := hs4.but br (not_ints2 nb_bool nb_slice) hbut
          replace hs5 := hs5.but br (not_ints2 nb_bool nb_slice) hbut
          replace bp := But.bl hbut bp (Nat.succ_pos _) (by omega)
          replace bq := But.bl hbut bq (Nat.succ_pos _) (by omega)
          replace fs := But.fz hbut fs bs (Nat.succ_pos _) (by omega)
          replace bs := But.bl hbut bs (Nat.succ_pos _) (by omega)
          replace ft := But.fz hbut ft bt (Nat.succ_pos _) (by omega)
          replace bt := But.bl hbut bt (Nat.succ_pos _) (by omega)
          replace fx := But.fz hbut fx bx (Nat.succ_pos _) (by omega)
          replace bx := But.bl hbut bx (Nat.succ_pos _) (by omega)
          replace fr : Fz x5 (u5.heap.size) := by rw [hx5]; exact (Fz.set (Fz.set fr))
          replace HE : Ext x2 x5 := by rw [hx5]; exact ((HE.store (by show x2.heap.size ≤ u5.heap.size; omega) _).store (by show x2.heap.size ≤ u5.heap.size; omega) _)
          clear br hbut hx5
          have br := hbn
          clear hbn
          refine wpE_done ?_
          go_wp2_with fail
          go_meet
          exact ⟨u5.heap.size, a5, n5, c5, rfl, by omega, br, fr, hs5, HE⟩
        · refine wpE_l rfl rfl (fun K hK => ?_)
          go_simp
          refine hK.out _ _ ((Ext.refl _).alloc _) ?_
          clear hK K
          try simp only [Act.put, List.setIfInBounds_toArray, List.set_cons_zero, List.set_cons_succ]
          have lpr := bp.lt (Nat.succ_pos _)
          have lqr := bq.lt (Nat.succ_pos _)
          have lsr := bs.lt (Nat.succ_pos _)
          have ltr := bt.lt (Nat.succ_pos _)
          have lxr := bx.lt (Nat.succ_pos _)
          have l0r := HE.size
          refine absE (fun x4 hx4 => ?_)
          have hx : Ext u4 x4 := by rw [hx4]; exact ((Ext.refl _).alloc _)
          have br : Bl x4 (u4.heap.size) #[.bool false, .slice none 0 0] := by rw [hx4]; exact (Bl.new (by simp))
          have fr : Fz x4 (u4.heap.size) := by rw [hx4]; exact (Fz.new (by simp))
          replace bp := Bl.ext hx bp (Nat.succ_pos _)
          replace bq := Bl.ext hx bq (Nat.succ_pos _)
          replace fs := Fz.ext hx fs bs (Nat.succ_pos _)
          replace bs := Bl.ext hx bs (Nat.succ_pos _)
          replace ft := Fz.ext hx ft bt (Nat.succ_pos _)
          replace bt := Bl.ext hx bt (Nat.succ_pos _)
          replace fx := Fz.ext hx fx bx (Nat.succ_pos _)
          replace bx := Bl.ext hx bx (Nat.succ_pos _)
          replace hs2q := hs2q.ext hx
          replace hs3 := hs3.ext hx
          replace hs4 := hs4.ext hx
          replace HE := HE.trans hx
          clear hx
          clear hx4
          refine wpE_l rfl rfl (fun K hK => ?_)
          go_simp
          refine (r02_Sub_any neg _ a a4 n cap n4 c4 z (X0 * z') _ ((HW.out.ext HE0.out).ext HE) (hs4.wh (by have := HD2.out; omega))).mono ?_
          rintro e u5 ⟨a5, n5, c5, rfl, hs5, hx⟩
          refine hK.out _ _ hx ?_
          clear hK K
          try simp only [Act.put, List.setIfInBounds_toArray, List.set_cons_zero, List.set_cons_succ]
          replace bp := Bl.ext hx bp (Nat.succ_pos _)
          replace bq := Bl.ext hx bq (Nat.succ_pos _)
          replace fs := Fz.ext hx fs bs (Nat.succ_pos _)
          replace bs := Bl.ext hx bs (Nat.succ_pos _)
          replace ft := Fz.ext hx ft bt (Nat.succ_pos _)
          replace bt := Bl.ext hx bt (Nat.succ_pos _)
          replace fx := Fz.ext hx fx bx (Nat.succ_pos _)
          replace bx := Bl.ext hx bx (Nat.succ_pos _)
          replace fr := Fz.ext hx fr br (Nat.succ_pos _)
          replace br := Bl.ext hx br (Nat.succ_pos _)
          replace hs2q := hs2q.ext hx
          replace hs3 := hs3.ext hx
          replace hs4 := hs4.ext hx
          replace HE := HE.trans hx
          clear hx
          replace hs5 : Nc u5 a5 n5 c5 (z - X0 * z').natAbs := hs5
          refine wpE_b rfl rfl (fun K hK => ?_)
          go_simp
          refine hK.out _ _ ?_
          clear hK K
          try simp only [Act.put, List.setIfInBounds_toArray, List.set_cons_zero, List.set_cons_succ]
          refine absE (fun x5 hx5 => ?_)
          have hbut : But u5 x5 (u4.heap.size) := by rw [hx5]; exact (But.refl _ _).store.store
          have hbn : Bl x5 (u4.heap.size) #[.bool (decide (z - X0 * z' < 0)), .slice a5 n5 c5] := by rw [hx5]; exact (Bl.set (Bl.set br (by simp)) (by simp))
          replace hs2q := hs2q.but br (not_ints2 nb_bool nb_slice) hbut
          replace hs3 := hs3.but br (not_ints2 nb_bool nb_slice) hbut
          replace hs4 := hs4.but br (not_ints2 nb_bool nb_slice) hbut
          replace hs5 := hs5.but br (not_ints2 nb_bool nb_slice) hbut
          replace bp := But.bl hbut bp (Nat.succ_pos _) (by omega)
          replace bq := But.bl hbut bq (Nat.succ_pos _) (by omega)
          replace fs := But.fz hbut fs bs (Nat.succ_pos _) (by omega)
          replace bs := But.bl hbut bs (Nat.succ_pos _) (by omega)
          replace ft := But.fz hbut ft bt (Nat.succ_pos _) (by omega)
          replace bt := But.bl hbut bt (Nat.succ_pos _) (by omega)
          replace fx := But.fz hbut fx bx (Nat.succ_pos _) (by omega)
          replace bx := But.bl hbut bx (Nat.succ_pos _) (by omega)
          replace fr : Fz x5 (u4.heap.size) := by rw [hx5]; exact (Fz.set (Fz.set fr))
          replace HE : Ext x2 x5 := by rw [hx5]; exact ((HE.store (by show x2.heap.size ≤ u4.heap.size; omega) _).store (by show x2.heap.size ≤ u4.heap.size; omega) _)
          clear br hbut hx5
          have br := hbn
          clear hbn
          refine wpE_done ?_
          go_wp2_with fail
          go_meet
          exact ⟨u4.heap.size, a5, n5, c5, rfl, by omega, br, fr, hs5, HE⟩
      · refine wpE_l rfl rfl (fun K hK => ?_)
        go_simp
        refine hK.out _ _ ((Ext.refl _).alloc _) ?_
        clear hK K
        try simp only [Act.put, List.setIfInBounds_toArray, List.set_cons_zero, List.set_cons_succ]
        have lpr := bp.lt (Nat.succ_pos _)
        have lqr := bq.lt (Nat.succ_pos _)
        have lsr := bs.lt (Nat.succ_pos _)
        have ltr := bt.lt (Nat.succ_pos _)
        have lxr := bx.lt (Nat.succ_pos _)
        have l0r := HE.size
        refine absE (fun x4 hx4 => ?_)
        have hx : Ext x3 x4 := by rw [hx4]; exact ((Ext.refl _).alloc _)
        have br : Bl x4 (x3.heap.size) #[.bool false, .slice none 0 0] := by rw [hx4]; exact (Bl.new (by simp))
        have fr : Fz x4 (x3.heap.size) := by rw [hx4]; exact (Fz.new (by simp))
        replace bp := Bl.ext hx bp (Nat.succ_pos _)
        replace bq := Bl.ext hx bq (Nat.succ_pos _)
        replace fs := Fz.ext hx fs bs (Nat.succ_pos _)
        replace bs := Bl.ext hx bs (Nat.succ_pos _)
        replace ft := Fz.ext hx ft bt (Nat.succ_pos _)
        replace bt := Bl.ext hx bt (Nat.succ_pos _)
        replace fx := Fz.ext hx fx bx (Nat.succ_pos _)
        replace bx := Bl.ext hx bx (Nat.succ_pos _)
        replace hs2q := hs2q.ext hx
        replace hs3 := hs3.ext hx
        replace HE := HE.trans hx
        clear hx
        clear hx4
        refine wpE_l rfl rfl (fun K hK => ?_)
        go_simp
        refine (r02_Mul_any _ neg' a3 a' n3 c3 n' cap' X0 z' _ (hs3.wh (by have := HD1.out; omega)) ((HW'.out.ext HE0.out).ext HE)).mono ?_
        rintro e u4 ⟨a4, n4, c4, rfl, hs4, hx⟩
        refine hK.out _ _ hx ?_
        clear hK K
        try simp only [Act.put, List.setIfInBounds_toArray, List.set_cons_zero, List.set_cons_succ]
        replace bp := Bl.ext hx bp (Nat.succ_pos _)
        replace bq := Bl.ext hx bq (Nat.succ_pos _)
        replace fs := Fz.ext hx fs bs (Nat.succ_pos _)
        replace bs := Bl.ext hx bs (Nat.succ_pos _)
        replace ft := Fz.ext hx ft bt (Nat.succ_pos _)
        replace bt := Bl.ext hx bt (Nat.succ_pos _)
        replace fx := Fz.ext hx fx bx (Nat.succ_pos _)
        replace bx := Bl.ext hx bx (Nat.succ_pos _)
        replace fr := Fz.ext hx fr br (Nat.succ_pos _)
        replace br := Bl.ext hx br (Nat.succ_pos _)
        replace hs2q := hs2q.ext hx
        replace hs3 := hs3.ext hx
        replace HE := HE.trans hx
        clear hx
        replace hs4 : Nc u4 a4 n4 c4 (X0 * z').natAbs := hs4
        refine wpE_l rfl rfl (fun K hK => ?_)
        go_simp
        refine (r02_Sub_any neg _ a a4 n cap n4 c4 z (X0 * z') _ ((HW.out.ext HE0.out).ext HE) (hs4.wh (by have := HD2.out; omega))).mono ?_
        rintro e u5 ⟨a5, n5, c5, rfl, hs5, hx⟩
        refine hK.out _ _ hx ?_
        clear hK K
        try simp only [Act.put, List.setIfInBounds_toArray, List.set_cons_zero, List.set_cons_succ]
        replace bp := Bl.ext hx bp (Nat.succ_pos _)
        replace bq := Bl.ext hx bq (Nat.succ_pos _)
        replace fs := Fz.ext hx fs bs (Nat.succ_pos _)
        replace bs := Bl.ext hx bs (Nat.succ_pos _)
        replace ft := Fz.ext hx ft bt (Nat.succ_pos _)
        replace bt := Bl.ext hx bt (Nat.succ_pos _)
        replace fx := Fz.ext hx fx bx (Nat.succ_pos _)
        replace bx := Bl.ext hx bx (Nat.succ_pos _)
        replace fr := Fz.ext hx fr br (Nat.succ_pos _)
        replace br := Bl.ext hx br (Nat.succ_pos _)
        replace hs2q := hs2q.ext hx
        replace hs3 := hs3.ext hx
        replace hs4 := hs4.ext hx
        replace HE := HE.trans hx
        clear hx
        replace hs5 : Nc u5 a5 n5 c5 (z - X0 * z').natAbs := hs5
        refine wpE_b rfl rfl (fun K hK => ?_)
        go_simp
        refine hK.out _ _ ?_
        clear hK K
        try simp only [Act.put, List.setIfInBounds_toArray, List.set_cons_zero, List.set_cons_succ]
        refine absE (fun x5 hx5 => ?_)
        have hbut : But u5 x5 (x3.heap.size) := by rw [hx5]; exact (But.refl _ _).store.store
        have hbn : Bl x5 (x3.heap.size) #[.bool (decide (z - X0 * z' < 0)), .slice a5 n5 c5] := by rw [hx5]; exact (Bl.set (Bl.set br (by simp)) (by simp))
        replace hs2q := hs2q.but br (not_ints2 nb_bool nb_slice) hbut
        replace hs3 := hs3.but br (not_ints2 nb_bool nb_slice) hbut
        replace hs4 := hs4.but br (not_ints2 nb_bool nb_slice) hbut
        replace hs5 := hs5.but br (not_ints2 nb_bool nb_slice) hbut
        replace bp := But.bl hbut bp (Nat.succ_pos _) (by omega)
        replace bq := But.bl hbut bq (Nat.succ_pos _) (by omega)
        replace fs := But.fz hbut fs bs (Nat.succ_pos _) (by omega)
        replace bs := But.bl hbut bs (Nat.succ_pos _) (by omega)
        replace ft := But.fz hbut ft bt (Nat.succ_pos _) (by omega)
        replace bt := But.bl hbut bt (Nat.succ_pos _) (by omega)
        replace fx := But.fz hbut fx bx (Nat.succ_pos _) (by omega)
        replace bx := But.bl hbut bx (Nat.succ_pos _) (by omega)
        replace fr : Fz x5 (x3.heap.size) := by rw [hx5]; exact (Fz.set (Fz.set fr))
        replace HE : Ext x2 x5 := by rw [hx5]; exact ((HE.store (by show x2.heap.size ≤ x3.heap.size; omega) _).store (by show x2.heap.size ≤ x3.heap.size; omega) _)
        clear br hbut hx5
        have br := hbn
        clear hbn
        refine wpE_done ?_
        go_wp2_with fail
        go_meet
        exact ⟨x3.heap.size, a5, n5, c5, rfl, by omega, br, fr, hs5, HE⟩
    case rest =>
      obtain ⟨gr, ar, nr, cr, rfl, hgr, br, fr, hsr, hx⟩ := hcut
      have lpr := Nat.lt_of_lt_of_le (bp.lt (Nat.succ_pos _)) hgr
      have lqr := Nat.lt_of_lt_of_le (bq.lt (Nat.succ_pos _)) hgr
      have lsr := Nat.lt_of_lt_of_le (bs.lt (Nat.succ_pos _)) hgr
      have ltr := Nat.lt_of_lt_of_le (bt.lt (Nat.succ_pos _)) hgr
      have lxr := Nat.lt_of_lt_of_le (bx.lt (Nat.succ_pos _)) hgr
      have l0r := Nat.le_trans HE.size hgr
      clear hgr
      replace bp := Bl.ext hx bp (Nat.succ_pos _)
      replace bq := Bl.ext hx bq (Nat.succ_pos _)
      replace fs := Fz.ext hx fs bs (Nat.succ_pos _)
      replace bs := Bl.ext hx bs (Nat.succ_pos _)
      replace ft := Fz.ext hx ft bt (Nat.succ_pos _)
      replace bt := Bl.ext hx bt (Nat.succ_pos _)
      replace fx := Fz.ext hx fx bx (Nat.succ_pos _)
      replace bx := Bl.ext hx bx (Nat.succ_pos _)
      replace hs2q := hs2q.ext hx
      replace hs3 := hs3.ext hx
      replace HE := HE.trans hx
      clear hx
      have hsg := HL2.out
      by_cases hup : neg = true ∧ A % B ≠ 0
      · have HLW := hidP (hsg.1 hup)
        have HSG : Hid (sgn (z - X0 * z') = -1) := hidP (sgn_m1 (by rw [HGL.out, hup.1]; show (-((A % B : Nat) : Int)) < 0; have := hup.2; omega))
        clear hup hsg
        go_wp2_with fail
        refine (r02_Sign_any _ ar nr cr (z - X0 * z') _ (hsr.wh (by have := HD3.out; omega))).mono ?_
        rw [HSG.out]
        rintro e u6 ⟨rfl, hx⟩
        replace bp := Bl.ext hx bp (Nat.succ_pos _)
        replace bq := Bl.ext hx bq (Nat.succ_pos _)
        replace fs := Fz.ext hx fs bs (Nat.succ_pos _)
        replace bs := Bl.ext hx bs (Nat.succ_pos _)
        replace ft := Fz.ext hx ft bt (Nat.succ_pos _)
        replace bt := Bl.ext hx bt (Nat.succ_pos _)
        replace fx := Fz.ext hx fx bx (Nat.succ_pos _)
        replace bx := Bl.ext hx bx (Nat.succ_pos _)
        replace fr := Fz.ext hx fr br (Nat.succ_pos _)
        replace br := Bl.ext hx br (Nat.succ_pos _)
        replace hs2q := hs2q.ext hx
        replace hs3 := hs3.ext hx
        replace hsr := hsr.ext hx
        replace HE := HE.trans hx
        clear hx
        go_wp2_with fail
        refine wp_region_plan (R := Ext) (.q 0 (.q 1 (.q 2 (.q 3 (.q 4 (.q 5 (.l 6 (.l 7 (.l 8 (.b 9 .done)))))))))) (by kernel_rfl) (by kernel_rfl) (by kernel_rfl) (by kernel_rfl) Ext.refl (fun _ _ _ => Ext.trans) ?_
        refine absE (fun x3 hx3 => ?_)
        have hx : Ext u6 x3 := by rw [hx3]; exact (Ext.refl _).drew
        replace bp := Bl.ext hx bp (Nat.succ_pos _)
        replace bq := Bl.ext hx bq (Nat.succ_pos _)
        replace fs := Fz.ext hx fs bs (Nat.succ_pos _)
        replace bs := Bl.ext hx bs (Nat.succ_pos _)
        replace ft := Fz.ext hx ft bt (Nat.succ_pos _)
        replace bt := Bl.ext hx bt (Nat.succ_pos _)
        replace fx := Fz.ext hx fx bx (Nat.succ_pos _)
        replace bx := Bl.ext hx bx (Nat.succ_pos _)
        replace fr := Fz.ext hx fr br (Nat.succ_pos _)
        replace br := Bl.ext hx br (Nat.succ_pos _)
        replace hs2q := hs2q.ext hx
        replace hs3 := hs3.ext hx
        replace hsr := hsr.ext hx
        replace HE := HE.trans hx
        clear hx
        clear hx3
        repeat (refine wpE_q (v := ?_) rfl rfl (fun u hu => ?_) ?_; rotate_left 1; (focus (have kp := Bl.ext hu bp (Nat.succ_pos _); have kq := Bl.ext hu bq (Nat.succ_pos _); have ks := Bl.ext hu bs (Nat.succ_pos _); have kt := Bl.ext hu bt (Nat.succ_pos _); have kx := Bl.ext hu bx (Nat.succ_pos _); have kr := Bl.ext hu br (Nat.succ_pos _); go_simp; (try rfl))); simp only [Act.put, List.setIfInBounds_toArray, List.set_cons_zero, List.set_cons_succ])
        refine wpE_l rfl rfl (fun K hK => ?_)
        go_simp
        refine hK.out _ _ ((Ext.refl _).alloc _) ?_
        clear hK K
        try simp only [Act.put, List.setIfInBounds_toArray, List.set_cons_zero, List.set_cons_succ]
        refine absE (fun x4 hx4 => ?_)
        have hx : Ext x3 x4 := by rw [hx4]; exact ((Ext.refl _).alloc _)
        replace bp := Bl.ext hx bp (Nat.succ_pos _)
        replace bq := Bl.ext hx bq (Nat.succ_pos _)
        replace fs := Fz.ext hx fs bs (Nat.succ_pos _)
        replace bs := Bl.ext hx bs (Nat.succ_pos _)
        replace ft := Fz.ext hx ft bt (Nat.succ_pos _)
        replace bt := Bl.ext hx bt (Nat.succ_pos _)
        replace fx := Fz.ext hx fx bx (Nat.succ_pos _)
        replace bx := Bl.ext hx bx (Nat.succ_pos _)
        replace fr := Fz.ext hx fr br (Nat.succ_pos _)
        replace br := Bl.ext hx br (Nat.succ_pos _)
        replace hs2q := hs2q.ext hx
        replace hs3 := hs3.ext hx
        replace hsr := hsr.ext hx
        replace HE := HE.trans hx
        clear hx
        have hlit : Nc x4 (some ⟨x3.heap.size, 0, none⟩) 1 1 1 := by rw [hx4]; exact Nc.lit1 _ 1 (by omega) (by omega) _
        clear hx4
        refine wpE_l rfl rfl (fun K hK => ?_)
        go_simp
        refine (d_Add (hs2q.nu (by have := HDQ.out; omega)) (hlit.nu (by rw [← hlit.len]; omega))).mono ?_
        rintro e u7 ⟨a7, n7, c7, rfl, hs7, hx⟩
        refine hK.out _ _ hx ?_
        clear hK K
        try simp only [Act.put, List.setIfInBounds_toArray, List.set_cons_zero, List.set_cons_succ]
        replace bp := Bl.ext hx bp (Nat.succ_pos _)
        replace bq := Bl.ext hx bq (Nat.succ_pos _)
        replace fs := Fz.ext hx fs bs (Nat.succ_pos _)
        replace bs := Bl.ext hx bs (Nat.succ_pos _)
        replace ft := Fz.ext hx ft bt (Nat.succ_pos _)
        replace bt := Bl.ext hx bt (Nat.succ_pos _)
        replace fx := Fz.ext hx fx bx (Nat.succ_pos _)
        replace bx := Bl.ext hx bx (Nat.succ_pos _)
        replace fr := Fz.ext hx fr br (Nat.succ_pos _)
        replace br := Bl.ext hx br (Nat.succ_pos _)
        replace hs2q := hs2q.ext hx
        replace hs3 := hs3.ext hx
        replace hsr := hsr.ext hx
        replace hlit := hlit.ext hx
        replace HE := HE.trans hx
        clear hx
        clear hlit
        refine wpE_l rfl rfl (fun K hK => ?_)
        go_simp
        refine (d_Make (neg != neg') (hs7.nu (by have := HD4.out; omega))).mono ?_
        rw [HX1.out]
        rintro e u8 ⟨a8, n8, c8, rfl, hs8, hx⟩
        refine hK.out _ _ hx ?_
        clear hK K
        try simp only [Act.put, List.setIfInBounds_toArray, List.set_cons_zero, List.set_cons_succ]
        replace bp := Bl.ext hx bp (Nat.succ_pos _)
        replace bq := Bl.ext hx bq (Nat.succ_pos _)
        replace fs := Fz.ext hx fs bs (Nat.succ_pos _)
        replace bs := Bl.ext hx bs (Nat.succ_pos _)
        replace ft := Fz.ext hx ft bt (Nat.succ_pos _)
        replace bt := Bl.ext hx bt (Nat.succ_pos _)
        replace fx := Fz.ext hx fx bx (Nat.succ_pos _)
        replace bx := Bl.ext hx bx (Nat.succ_pos _)
        replace fr := Fz.ext hx fr br (Nat.succ_pos _)
        replace br := Bl.ext hx br (Nat.succ_pos _)
        replace hs2q := hs2q.ext hx
        replace hs3 := hs3.ext hx
        replace hsr := hsr.ext hx
        replace hs7 := hs7.ext hx
        replace HE := HE.trans hx
        clear hx
        replace hs8 : Nc u8 a8 n8 c8 (X1).natAbs := hs8
        refine wpE_b rfl rfl (fun K hK => ?_)
        go_simp
        refine hK.out _ _ ?_
        clear hK K
        try simp only [Act.put, List.setIfInBounds_toArray, List.set_cons_zero, List.set_cons_succ]
        refine absE (fun x5 hx5 => ?_)
        have hbut : But u8 x5 (u3.heap.size) := by rw [hx5]; exact (But.refl _ _).store.store
        have hbn : Bl x5 (u3.heap.size) #[.bool (decide (X1 < 0)), .slice a8 n8 c8] := by rw [hx5]; exact (Bl.set (Bl.set bx (by simp)) (by simp))
        replace hs2q := hs2q.but bx (not_ints2 nb_bool nb_slice) hbut
        replace hs3 := hs3.but bx (not_ints2 nb_bool nb_slice) hbut
        replace hsr := hsr.but bx (not_ints2 nb_bool nb_slice) hbut
        replace hs7 := hs7.but bx (not_ints2 nb_bool nb_slice) hbut
        replace hs8 := hs8.but bx (not_ints2 nb_bool nb_slice) hbut
        replace bp := But.bl hbut bp (Nat.succ_pos _) (by omega)
        replace bq := But.bl hbut bq (Nat.succ_pos _) (by omega)
        replace fs := But.fz hbut fs bs (Nat.succ_pos _) (by omega)
        replace bs := But.bl hbut bs (Nat.succ_pos _) (by omega)
        replace ft := But.fz hbut ft bt (Nat.succ_pos _) (by omega)
        replace bt := But.bl hbut bt (Nat.succ_pos _) (by omega)
        replace fr := But.fz hbut fr br (Nat.succ_pos _) (by omega)
        replace br := But.bl hbut br (Nat.succ_pos _) (by omega)
        replace fx : Fz x5 (u3.heap.size) := by rw [hx5]; exact (Fz.set (Fz.set fx))
        replace HE : Ext w x5 := by rw [hx5]; exact ((HE.store (by show w.heap.size ≤ u3.heap.size; omega) _).store (by show w.heap.size ≤ u3.heap.size; omega) _)
        clear bx hbut hx5
        have bx := hbn
        clear hbn
        refine wpE_done ?_
        go_wp2_with fail
        refine wp_region_plan (R := Ext) (.q 0 (.q 1 (.q 2 (.l 3 (.l 4 (.b 5 .done)))))) (by kernel_rfl) (by kernel_rfl) (by kernel_rfl) (by kernel_rfl) Ext.refl (fun _ _ _ => Ext.trans) ?_
        refine absE (fun x6 hx6 => ?_)
        have hx : Ext x5 x6 := by rw [hx6]; exact (Ext.refl _).drew
        replace bp := Bl.ext hx bp (Nat.succ_pos _)
        replace bq := Bl.ext hx bq (Nat.succ_pos _)
        replace fs := Fz.ext hx fs bs (Nat.succ_pos _)
        replace bs := Bl.ext hx bs (Nat.succ_pos _)
        replace ft := Fz.ext hx ft bt (Nat.succ_pos _)
        replace bt := Bl.ext hx bt (Nat.succ_pos _)
        replace fx := Fz.ext hx fx bx (Nat.succ_pos _)
        replace bx := Bl.ext hx bx (Nat.succ_pos _)
        replace fr := Fz.ext hx fr br (Nat.succ_pos _)
        replace br := Bl.ext hx br (Nat.succ_pos _)
        replace hs2q := hs2q.ext hx
        replace hs3 := hs3.ext hx
        replace hsr := hsr.ext hx
        replace hs7 := hs7.ext hx
        replace hs8 := hs8.ext hx
        replace HE := HE.trans hx
        clear hx
        clear hx6
        repeat (refine wpE_q (v := ?_) rfl rfl (fun u hu => ?_) ?_; rotate_left 1; (focus (have kp := Bl.ext hu bp (Nat.succ_pos _); have kq := Bl.ext hu bq (Nat.succ_pos _); have ks := Bl.ext hu bs (Nat.succ_pos _); have kt := Bl.ext hu bt (Nat.succ_pos _); have kx := Bl.ext hu bx (Nat.succ_pos _); have kr := Bl.ext hu br (Nat.succ_pos _); go_simp; (try rfl))); simp only [Act.put, List.setIfInBounds_toArray, List.set_cons_zero, List.set_cons_succ])
        refine wpE_l rfl rfl (fun K hK => ?_)
        go_simp
        refine (r02_Mul_any _ neg' a8 a' n8 c8 n' cap' X1 z' _ (hs8.wh (by have := HD5.out; omega)) (HW'.out.ext HE)).mono ?_
        rintro e u9 ⟨a9, n9, c9, rfl, hs9, hx⟩
        refine hK.out _ _ hx ?_
        clear hK K
        try simp only [Act.put, List.setIfInBounds_toArray, List.set_cons_zero, List.set_cons_succ]
        replace bp := Bl.ext hx bp (Nat.succ_pos _)
        replace bq := Bl.ext hx bq (Nat.succ_pos _)
        replace fs := Fz.ext hx fs bs (Nat.succ_pos _)
        replace bs := Bl.ext hx bs (Nat.succ_pos _)
        replace ft := Fz.ext hx ft bt (Nat.succ_pos _)
        replace bt := Bl.ext hx bt (Nat.succ_pos _)
        replace fx := Fz.ext hx fx bx (Nat.succ_pos _)
        replace bx := Bl.ext hx bx (Nat.succ_pos _)
        replace fr := Fz.ext hx fr br (Nat.succ_pos _)
        replace br := Bl.ext hx br (Nat.succ_pos _)
        replace hs2q := hs2q.ext hx
        replace hs3 := hs3.ext hx
        replace hsr := hsr.ext hx
        replace hs7 := hs7.ext hx
        replace hs8 := hs8.ext hx
        replace HE := HE.trans hx
        clear hx
        replace hs9 : Nc u9 a9 n9 c9 (X1 * z').natAbs := hs9
        refine wpE_l rfl rfl (fun K hK => ?_)
        go_simp
        refine (r02_Sub_any neg _ a a9 n cap n9 c9 z (X1 * z') _ (HW.out.ext HE) (hs9.wh (by have := HD6.out; omega))).mono ?_
        rintro e u10 ⟨a10, n10, c10, rfl, hs10, hx⟩
        refine hK.out _ _ hx ?_
        clear hK K
        try simp only [Act.put, List.setIfInBounds_toArray, List.set_cons_zero, List.set_cons_succ]
        replace bp := Bl.ext hx bp (Nat.succ_pos _)
        replace bq := Bl.ext hx bq (Nat.succ_pos _)
        replace fs := Fz.ext hx fs bs (Nat.succ_pos _)
        replace bs := Bl.ext hx bs (Nat.succ_pos _)
        replace ft := Fz.ext hx ft bt (Nat.succ_pos _)
        replace bt := Bl.ext hx bt (Nat.succ_pos _)
        replace fx := Fz.ext hx fx bx (Nat.succ_pos _)
        replace bx := Bl.ext hx bx (Nat.succ_pos _)
        replace fr := Fz.ext hx fr br (Nat.succ_pos _)
        replace br := Bl.ext hx br (Nat.succ_pos _)
        replace hs2q := hs2q.ext hx
        replace hs3 := hs3.ext hx
        replace hsr := hsr.ext hx
        replace hs7 := hs7.ext hx
        replace hs8 := hs8.ext hx
        replace hs9 := hs9.ext hx
        replace HE := HE.trans hx
        clear hx
        replace hs10 : Nc u10 a10 n10 c10 (z - X1 * z').natAbs := hs10
        refine wpE_b rfl rfl (fun K hK => ?_)
        go_simp
        refine hK.out _ _ ?_
        clear hK K
        try simp only [Act.put, List.setIfInBounds_toArray, List.set_cons_zero, List.set_cons_succ]
        refine absE (fun x7 hx7 => ?_)
        have hbut : But u10 x7 (gr) := by rw [hx7]; exact (But.refl _ _).store.store
        have hbn : Bl x7 (gr) #[(.bool (decide (z - X1 * z' < 0))), .slice a10 n10 c10] := by rw [hx7]; exact (Bl.set (Bl.set br (by simp)) (by simp))
        replace hs2q := hs2q.but br (not_ints2 nb_bool nb_slice) hbut
        replace hs3 := hs3.but br (not_ints2 nb_bool nb_slice) hbut
        replace hsr := hsr.but br (not_ints2 nb_bool nb_slice) hbut
        replace hs7 := hs7.but br (not_ints2 nb_bool nb_slice) hbut
        replace hs8 := hs8.but br (not_ints2 nb_bool nb_slice) hbut
        replace hs9 := hs9.but br (not_ints2 nb_bool nb_slice) hbut
        replace hs10 := hs10.but br (not_ints2 nb_bool nb_slice) hbut
        replace bp := But.bl hbut bp (Nat.succ_pos _) (by omega)
        replace bq := But.bl hbut bq (Nat.succ_pos _) (by omega)
        replace fs := But.fz hbut fs bs (Nat.succ_pos _) (by omega)
        replace bs := But.bl hbut bs (Nat.succ_pos _) (by omega)
        replace ft := But.fz hbut ft bt (Nat.succ_pos _) (by omega)
        replace bt := But.bl hbut bt (Nat.succ_pos _) (by omega)
        replace fx := But.fz hbut fx bx (Nat.succ_pos _) (by omega)
        replace bx := But.bl hbut bx (Nat.succ_pos _) (by omega)
        replace fr : Fz x7 (gr) := by rw [hx7]; exact (Fz.set (Fz.set fr))
        replace HE : Ext w x7 := by rw [hx7]; exact ((HE.store (by show w.heap.size ≤ gr; omega) _).store (by show w.heap.size ≤ gr; omega) _)
        clear br hbut hx7
        have br := hbn
        clear hbn
        refine wpE_done ?_
        go_wp2_with fail
        have hmx : u3.heap.size ∉ [w.heap.size + 1 + 1, w.heap.size + 1 + 1 + 1] := by simp; omega
        have hmr : gr ∉ [w.heap.size + 1 + 1, w.heap.size + 1 + 1 + 1] := by simp; omega
        refine wp_region_plan (R := ButS [w.heap.size + 1 + 1, w.heap.size + 1 + 1 + 1]) (.q 0 (.q 1 (.l 2 (.b 3 (.q 4 .done))))) (by kernel_rfl) (by kernel_rfl) (by kernel_rfl) (by kernel_rfl) (ButS.refl _) (ButS.trans _) ?_
        refine absE (fun x8 hx8 => ?_)
        have hx : Ext x7 x8 := by rw [hx8]; exact (Ext.refl _).drew
        replace bp := Bl.ext hx bp (Nat.succ_pos _)
        replace bq := Bl.ext hx bq (Nat.succ_pos _)
        replace fs := Fz.ext hx fs bs (Nat.succ_pos _)
        replace bs := Bl.ext hx bs (Nat.succ_pos _)
        replace ft := Fz.ext hx ft bt (Nat.succ_pos _)
        replace bt := Bl.ext hx bt (Nat.succ_pos _)
        replace fx := Fz.ext hx fx bx (Nat.succ_pos _)
        replace bx := Bl.ext hx bx (Nat.succ_pos _)
        replace fr := Fz.ext hx fr br (Nat.succ_pos _)
        replace br := Bl.ext hx br (Nat.succ_pos _)
        replace hs2q := hs2q.ext hx
        replace hs3 := hs3.ext hx
        replace hsr := hsr.ext hx
        replace hs7 := hs7.ext hx
        replace hs8 := hs8.ext hx
        replace hs9 := hs9.ext hx
        replace hs10 := hs10.ext hx
        replace HE := HE.trans hx
        clear hx
        clear hx8
        repeat (refine wpE_q (v := ?_) rfl rfl (fun u hu => ?_) ?_; rotate_left 1; (focus (have kx := ButS.bl hu bx (Nat.succ_pos _) hmx; have kr := ButS.bl hu br (Nat.succ_pos _) hmr; go_simp; (try rfl))); simp only [Act.put, List.setIfInBounds_toArray, List.set_cons_zero, List.set_cons_succ])
        refine wpE_l rfl rfl (fun K hK => ?_)
        go_simp
        refine hK.out _ _ (((ButS.refl _ _).store (by simp)).store (by simp)) ?_
        clear hK K
        try simp only [Act.put, List.setIfInBounds_toArray, List.set_cons_zero, List.set_cons_succ]
        refine absE (fun x9 hx9 => ?_)
        have hbut : But x8 x9 (w.heap.size + 1 + 1) := by rw [hx9]; exact (But.refl _ _).store.store
        have hbn : Bl x9 (w.heap.size + 1 + 1) #[.bool (decide (X1 < 0)), .slice a8 n8 c8] := by rw [hx9]; exact (Bl.set (Bl.set bs (by simp)) (by simp))
        replace hs2q := hs2q.but bs (not_ints2 nb_bool nb_slice) hbut
        replace hs3 := hs3.but bs (not_ints2 nb_bool nb_slice) hbut
        replace hsr := hsr.but bs (not_ints2 nb_bool nb_slice) hbut
        replace hs7 := hs7.but bs (not_ints2 nb_bool nb_slice) hbut
        replace hs8 := hs8.but bs (not_ints2 nb_bool nb_slice) hbut
        replace hs9 := hs9.but bs (not_ints2 nb_bool nb_slice) hbut
        replace hs10 := hs10.but bs (not_ints2 nb_bool nb_slice) hbut
        replace bp := But.bl hbut bp (Nat.succ_pos _) (by omega)
        replace bq := But.bl hbut bq (Nat.succ_pos _) (by omega)
        replace ft := But.fz hbut ft bt (Nat.succ_pos _) (by omega)
        replace bt := But.bl hbut bt (Nat.succ_pos _) (by omega)
        replace fx := But.fz hbut fx bx (Nat.succ_pos _) (by omega)
        replace bx := But.bl hbut bx (Nat.succ_pos _) (by omega)
        replace fr := But.fz hbut fr br (Nat.succ_pos _) (by omega)
        replace br := But.bl hbut br (Nat.succ_pos _) (by omega)
        replace fs : Fz x9 (w.heap.size + 1 + 1) := by rw [hx9]; exact (Fz.set (Fz.set fs))
        replace HE : Ext w x9 := by rw [hx9]; exact ((HE.store (by show w.heap.size ≤ w.heap.size + 1 + 1; omega) _).store (by show w.heap.size ≤ w.heap.size + 1 + 1; omega) _)
        clear bs hbut hx9
        have bs := hbn
        clear hbn
        refine wpE_b rfl rfl (fun K hK => ?_)
        go_simp
        refine hK.out _ _ ?_
        clear hK K
        try simp only [Act.put, List.setIfInBounds_toArray, List.set_cons_zero, List.set_cons_succ]
        refine absE (fun x10 hx10 => ?_)
        have hbut : But x9 x10 (w.heap.size + 1 + 1 + 1) := by rw [hx10]; exact (But.refl _ _).store.store
        have hbn : Bl x10 (w.heap.size + 1 + 1 + 1) #[.bool (decide (z - X1 * z' < 0)), .slice a10 n10 c10] := by rw [hx10]; exact (Bl.set (Bl.set bt (by simp)) (by simp))
        replace hs2q := hs2q.but bt (not_ints2 nb_bool nb_slice) hbut
        replace hs3 := hs3.but bt (not_ints2 nb_bool nb_slice) hbut
        replace hsr := hsr.but bt (not_ints2 nb_bool nb_slice) hbut
        replace hs7 := hs7.but bt (not_ints2 nb_bool nb_slice) hbut
        replace hs8 := hs8.but bt (not_ints2 nb_bool nb_slice) hbut
        replace hs9 := hs9.but bt (not_ints2 nb_bool nb_slice) hbut
        replace hs10 := hs10.but bt (not_ints2 nb_bool nb_slice) hbut
        replace bp := But.bl hbut bp (Nat.succ_pos _) (by omega)
        replace bq := But.bl hbut bq (Nat.succ_pos _) (by omega)
        replace fs := But.fz hbut fs bs (Nat.succ_pos _) (by omega)
        replace bs := But.bl hbut bs (Nat.succ_pos _) (by omega)
        replace fx := But.fz hbut fx bx (Nat.succ_pos _) (by omega)
        replace bx := But.bl hbut bx (Nat.succ_pos _) (by omega)
        replace fr := But.fz hbut fr br (Nat.succ_pos _) (by omega)
        replace br := But.bl hbut br (Nat.succ_pos _) (by omega)
        replace ft : Fz x10 (w.heap.size + 1 + 1 + 1) := by rw [hx10]; exact (Fz.set (Fz.set ft))
        replace HE : Ext w x10 := by rw [hx10]; exact ((HE.store (by show w.heap.size ≤ w.heap.size + 1 + 1 + 1; omega) _).store (by show w.heap.size ≤ w.heap.size + 1 + 1 + 1; omega) _)
        clear bt hbut hx10
        have bt := hbn
        clear hbn
        repeat (refine wpE_q (v := ?_) rfl rfl (fun u hu => ?_) ?_; rotate_left 1; (focus (go_simp; (try rfl))); simp only [Act.put, List.setIfInBounds_toArray, List.set_cons_zero, List.set_cons_succ])
        refine wpE_done ?_
        go_wp2_with fail
        refine bodyPost_cells2_tmp rfl rfl rfl Try.underlying51 rfl (by kernel_rfl) (by kernel_rfl) (bl_two bs) (bl_two bt) rfl rfl ?_
        refine RetWD.of (q := X1) (r := z - X1 * z') HLW.out.1 ?_ HZ1.out rfl rfl hs8 hs10 HE
        rw [HZM.out, Int.emod_def, HLW.out.1, Int.mul_comm]
      · have HLW := hidP (hsg.2 hup)
        have hnn : 0 ≤ sgn (z - X0 * z') := sgn_nn (by have h1 := (hsg.2 hup).2; have h2 := (hsg.2 hup).1; rw [← h2, Int.mul_comm, ← Int.emod_def, h1]; omega)
        generalize hsv : sgn (z - X0 * z') = sv at *
        have HSV := hidP hsv
        clear hup hsg hsv
        go_wp2_with fail
        refine (r02_Sign_any _ ar nr cr (z - X0 * z') _ (hsr.wh (by have := HD3.out; omega))).mono ?_
        rw [HSV.out]
        rintro e u6 ⟨rfl, hx⟩
        replace bp := Bl.ext hx bp (Nat.succ_pos _)
        replace bq := Bl.ext hx bq (Nat.succ_pos _)
        replace fs := Fz.ext hx fs bs (Nat.succ_pos _)
        replace bs := Bl.ext hx bs (Nat.succ_pos _)
        replace ft := Fz.ext hx ft bt (Nat.succ_pos _)
        replace bt := Bl.ext hx bt (Nat.succ_pos _)
        replace fx := Fz.ext hx fx bx (Nat.succ_pos _)
        replace bx := Bl.ext hx bx (Nat.succ_pos _)
        replace fr := Fz.ext hx fr br (Nat.succ_pos _)
        replace br := Bl.ext hx br (Nat.succ_pos _)
        replace hs2q := hs2q.ext hx
        replace hs3 := hs3.ext hx
        replace hsr := hsr.ext hx
        replace HE := HE.trans hx
        clear hx
        go_wp2_with fail
        have hmx : u3.heap.size ∉ [w.heap.size + 1 + 1, w.heap.size + 1 + 1 + 1] := by simp; omega
        have hmr : gr ∉ [w.heap.size + 1 + 1, w.heap.size + 1 + 1 + 1] := by simp; omega
        refine wp_region_plan (R := ButS [w.heap.size + 1 + 1, w.heap.size + 1 + 1 + 1]) (.q 0 (.q 1 (.l 2 (.b 3 (.q 4 .done))))) (by kernel_rfl) (by kernel_rfl) (by kernel_rfl) (by kernel_rfl) (ButS.refl _) (ButS.trans _) ?_
        refine absE (fun x3 hx3 => ?_)
        have hx : Ext u6 x3 := by rw [hx3]; exact (Ext.refl _).drew
        replace bp := Bl.ext hx bp (Nat.succ_pos _)
        replace bq := Bl.ext hx bq (Nat.succ_pos _)
        replace fs := Fz.ext hx fs bs (Nat.succ_pos _)
        replace bs := Bl.ext hx bs (Nat.succ_pos _)
        replace ft := Fz.ext hx ft bt (Nat.succ_pos _)
        replace bt := Bl.ext hx bt (Nat.succ_pos _)
        replace fx := Fz.ext hx fx bx (Nat.succ_pos _)
        replace bx := Bl.ext hx bx (Nat.succ_pos _)
        replace fr := Fz.ext hx fr br (Nat.succ_pos _)
        replace br := Bl.ext hx br (Nat.succ_pos _)
        replace hs2q := hs2q.ext hx
        replace hs3 := hs3.ext hx
        replace hsr := hsr.ext hx
        replace HE := HE.trans hx
        clear hx
        clear hx3
        repeat (refine wpE_q (v := ?_) rfl rfl (fun u hu => ?_) ?_; rotate_left 1; (focus (have kx := ButS.bl hu bx (Nat.succ_pos _) hmx; have kr := ButS.bl hu br (Nat.succ_pos _) hmr; go_simp; (try rfl))); simp only [Act.put, List.setIfInBounds_toArray, List.set_cons_zero, List.set_cons_succ])
        refine wpE_l rfl rfl (fun K hK => ?_)
        go_simp
        refine hK.out _ _ (((ButS.refl _ _).store (by simp)).store (by simp)) ?_
        clear hK K
        try simp only [Act.put, List.setIfInBounds_toArray, List.set_cons_zero, List.set_cons_succ]
        refine absE (fun x4 hx4 => ?_)
        have hbut : But x3 x4 (w.heap.size + 1 + 1) := by rw [hx4]; exact (But.refl _ _).store.store
        have hbn : Bl x4 (w.heap.size + 1 + 1) #[.bool (decide (X0 < 0)), .slice a3 n3 c3] := by rw [hx4]; exact (Bl.set (Bl.set bs (by simp)) (by simp))
        replace hs2q := hs2q.but bs (not_ints2 nb_bool nb_slice) hbut
        replace hs3 := hs3.but bs (not_ints2 nb_bool nb_slice) hbut
        replace hsr := hsr.but bs (not_ints2 nb_bool nb_slice) hbut
        replace bp := But.bl hbut bp (Nat.succ_pos _) (by omega)
        replace bq := But.bl hbut bq (Nat.succ_pos _) (by omega)
        replace ft := But.fz hbut ft bt (Nat.succ_pos _) (by omega)
        replace bt := But.bl hbut bt (Nat.succ_pos _) (by omega)
        replace fx := But.fz hbut fx bx (Nat.succ_pos _) (by omega)
        replace bx := But.bl hbut bx (Nat.succ_pos _) (by omega)
        replace fr := But.fz hbut fr br (Nat.succ_pos _) (by omega)
        replace br := But.bl hbut br (Nat.succ_pos _) (by omega)
        replace fs : Fz x4 (w.heap.size + 1 + 1) := by rw [hx4]; exact (Fz.set (Fz.set fs))
        replace HE : Ext w x4 := by rw [hx4]; exact ((HE.store (by show w.heap.size ≤ w.heap.size + 1 + 1; omega) _).store (by show w.heap.size ≤ w.heap.size + 1 + 1; omega) _)
        clear bs hbut hx4
        have bs := hbn
        clear hbn
        refine wpE_b rfl rfl (fun K hK => ?_)
        go_simp
        refine hK.out _ _ ?_
        clear hK K
        try simp only [Act.put, List.setIfInBounds_toArray, List.set_cons_zero, List.set_cons_succ]
        refine absE (fun x5 hx5 => ?_)
        have hbut : But x4 x5 (w.heap.size + 1 + 1 + 1) := by rw [hx5]; exact (But.refl _ _).store.store
        have hbn : Bl x5 (w.heap.size + 1 + 1 + 1) #[.bool (decide (z - X0 * z' < 0)), .slice ar nr cr] := by rw [hx5]; exact (Bl.set (Bl.set bt (by simp)) (by simp))
        replace hs2q := hs2q.but bt (not_ints2 nb_bool nb_slice) hbut
        replace hs3 := hs3.but bt (not_ints2 nb_bool nb_slice) hbut
        replace hsr := hsr.but bt (not_ints2 nb_bool nb_slice) hbut
        replace bp := But.bl hbut bp (Nat.succ_pos _) (by omega)
        replace bq := But.bl hbut bq (Nat.succ_pos _) (by omega)
        replace fs := But.fz hbut fs bs (Nat.succ_pos _) (by omega)
        replace bs := But.bl hbut bs (Nat.succ_pos _) (by omega)
        replace fx := But.fz hbut fx bx (Nat.succ_pos _) (by omega)
        replace bx := But.bl hbut bx (Nat.succ_pos _) (by omega)
        replace fr := But.fz hbut fr br (Nat.succ_pos _) (by omega)
        replace br := But.bl hbut br (Nat.succ_pos _) (by omega)
        replace ft : Fz x5 (w.heap.size + 1 + 1 + 1) := by rw [hx5]; exact (Fz.set (Fz.set ft))
        replace HE : Ext w x5 := by rw [hx5]; exact ((HE.store (by show w.heap.size ≤ w.heap.size + 1 + 1 + 1; omega) _).store (by show w.heap.size ≤ w.heap.size + 1 + 1 + 1; omega) _)
        clear bt hbut hx5
        have bt := hbn
        clear hbn
        repeat (refine wpE_q (v := ?_) rfl rfl (fun u hu => ?_) ?_; rotate_left 1; (focus (go_simp; (try rfl))); simp only [Act.put, List.setIfInBounds_toArray, List.set_cons_zero, List.set_cons_succ])
        refine wpE_done ?_
        go_wp2_with fail
        refine bodyPost_cells2_tmp rfl rfl rfl Try.underlying51 rfl (by kernel_rfl) (by kernel_rfl) (bl_two bs) (bl_two bt) rfl rfl ?_
        refine RetWD.of (q := X0) (r := z - X0 * z') HLW.out.1 ?_ HZ1.out rfl rfl hs3 hsr HE
        rw [HZM.out, Int.emod_def, HLW.out.1, Int.mul_comm]

end Go.Proofs.Ytcipcpbjkcpgdaa

namespace Go.Proofs.Ytcipcpbjkcpgdaa
set_option linter.unusedVariables false
open Go Go.RowKit

theorem d_SameW {b : Bool} {a a' : Option Addr} {n cap n' cap' V : Nat} {w : World} (h : Nc w a n cap V) (h' : Nc w a' n' cap' V) (hn : dl V ≤ 1099511627776) :
    Calls Try.prog 49 #[.agg #[.bool b, .slice a n cap], .agg #[.bool b, .slice a' n' cap']] w fun e w' => e = .returned (.bool true) ∧ Ext w w' :=
  r02_Same_eq b a a' n cap n' cap' (dig B32 V) w h h' (by rw [h.len]; exact hn)
theorem wh_of {w : World} {neg : Bool} {a : Option Addr} {n cap : Nat} {l : List Nat} (hs : Sl w a n cap (ints .u32 l)) (hl : Ws l) (hn : n ≤ 549755813888) : WhIn w neg a n cap (wz neg (val B32 l)) ∧ dl (wz neg (val B32 l)).natAbs ≤ n := by
  refine ⟨⟨⟨l, hs, hl, rfl⟩, hn⟩, ?_⟩
  rw [wz_abs]
  have := dig_val_len B32_two l hl
  rw [hs.int_len] at this
  exact this
theorem zmod_len {z z' : Int} : dl (zmod z z').natAbs ≤ dl z'.natAbs := by
  unfold zmod
  split
  · simp [dl_zero]
  · next h =>
    refine dl_mono ?_
    have h1 := Int.emod_nonneg z h
    have h2 := Int.emod_lt z h
    omega
theorem zdiv_len {z z' : Int} : dl (z / z').natAbs ≤ dl z.natAbs := dl_mono (Int.natAbs_ediv_le_natAbs z z')

end Go.Proofs.Ytcipcpbjkcpgdaa
