/- Joined: Q1 Q2 Q3 Q4 Q6 Q7 Q8 Q9 Q10 Q11 Q12 Q13 Q15 Q16 Q17 QR Q18 Q19 R7 R11. -/
import Derived.Test.YtlhaepcnhkaclaaM5
import Derived.Test.YtlhaepcnhkaclaaM6
import Derived.Deep.DeepCutAuto
namespace Go.Proofs.Ytlhaepcnhkaclaa
set_option linter.unusedVariables false
open Go Go.RowKit

theorem bl_three {w : World} {g : Nat} {v0 v1 v2 : Value} (h : Bl w g #[v0, v1, v2]) : ∀ j v, (#[v0, v1, v2] : Array Value).toList[j]? = some v → w.cell? ⟨g, j, none⟩ = some v := by
  intro j v hv
  rw [h j]
  simpa using hv
/-- The call hands back a fraction in its own words: a sign, an upper and a lower part. -/
def RetF (w : World) (z : Int) (D : Nat) (e : Ending) (w' : World) : Prop :=
  ∃ a n c d m k, e = .returned (.agg #[.bool (decide (z < 0)), .slice a n c, .slice d m k]) ∧ Nc w' a n c z.natAbs ∧ Nc w' d m k D ∧ Ext w w'
theorem RetF.of {w u : World} {z z' : Int} {D D' : Nat} {b : Bool} {a d : Option Addr} {n c m k : Nat} (hz : z' = z) (hD : D' = D) (hb : b = decide (z < 0)) (h1 : Nc u a n c z.natAbs) (h2 : Nc u d m k D) (he : Ext w u) : RetF w z' D' (.returned (.agg #[.bool b, .slice a n c, .slice d m k])) u := by
  subst hz; subst hD; subst hb
  exact ⟨a, n, c, d, m, k, rfl, h1, h2, he⟩
theorem dl_pos {V : Nat} (h : V ≠ 0) : 0 < dl V := by
  rcases Nat.eq_zero_or_pos (dl V) with h1 | h1
  · exact absurd (dl_eq_zero.1 h1) h
  · exact h1

end Go.Proofs.Ytlhaepcnhkaclaa

namespace Go.Proofs.Ytlhaepcnhkaclaa
set_option linter.unusedVariables false
open Go Go.RowKit

/-- The common factor of a fraction's parts. -/
def fg (z : Int) (D : Nat) : Nat := Nat.gcd z.natAbs D
theorem fg_pos {z : Int} {D : Nat} (h : D ≠ 0) : 0 < fg z D := by
  unfold fg
  rcases Nat.eq_zero_or_pos (Nat.gcd z.natAbs D) with h0 | h0
  · exact absurd (Nat.eq_zero_of_gcd_eq_zero_right h0) h
  · exact h0
theorem fg_sign {z : Int} {D : Nat} (hD : D ≠ 0) : wz (decide (z < 0)) (z.natAbs / fg z D) = z / (fg z D : Int) := by
  have hp := fg_pos (z := z) hD
  have hd : fg z D ∣ z.natAbs := Nat.gcd_dvd_left _ _
  generalize fg z D = g at *
  obtain ⟨k, hk⟩ := hd
  have h1 : z.natAbs / g = k := by rw [hk, Nat.mul_div_cancel_left _ hp]
  rw [h1]
  rcases Int.lt_or_le z 0 with h | h
  · have e : z = (g : Int) * (-(k : Int)) := by
      rw [Int.mul_neg, ← Int.natCast_mul, ← hk]; omega
    rw [decide_eq_true h]
    show -(k : Int) = _
    rw [e, Int.mul_ediv_cancel_left _ (by omega)]
  · have e : z = (g : Int) * (k : Int) := by
      rw [← Int.natCast_mul, ← hk]; omega
    rw [decide_eq_false (by omega)]
    show (k : Int) = _
    rw [e, Int.mul_ediv_cancel_left _ (by omega)]
theorem fg_zero {D : Nat} (h : D ≠ 0) : (0 : Int) / (fg 0 D : Int) = 0 ∧ D / fg 0 D = 1 := by
  have e : fg 0 D = D := by unfold fg; simp
  rw [e]
  exact ⟨Int.zero_ediv _, Nat.div_self (Nat.pos_of_ne_zero h)⟩
theorem fg_one {z : Int} : z / (fg z 1 : Int) = z ∧ 1 / fg z 1 = 1 := by
  have e : fg z 1 = 1 := by unfold fg; exact Nat.gcd_one_right _
  rw [e]
  exact ⟨Int.ediv_one z, rfl⟩
theorem zabs_pos {z : Int} (h : z ≠ 0) : z.natAbs ≠ 0 := by omega

end Go.Proofs.Ytlhaepcnhkaclaa

namespace Go.Proofs.Ytlhaepcnhkaclaa
set_option linter.unusedVariables false
open Go Go.RowKit

/-- What a fraction's parts stand for: 0 where the lower one is 0. -/
def pz (z : Int) (D : Nat) : Int := if D = 0 then 0 else z
def pd (D : Nat) : Nat := if D = 0 then 1 else D
theorem pd_ne (D : Nat) : pd D ≠ 0 := by unfold pd; split <;> omega
theorem pz_len (z : Int) (D : Nat) : dl (pz z D).natAbs ≤ dl z.natAbs := by
  unfold pz
  split
  · rw [Int.natAbs_zero, dl_zero]; omega
  · exact Nat.le_refl _
theorem pd_len (D : Nat) : dl (pd D) ≤ dl D + 1 := by
  unfold pd
  split
  · have := dl_small (a := 1) (by omega); omega
  · omega
/-- Reduced. -/
def rz (z : Int) (D : Nat) : Int := z / (fg z D : Int)
def rd (z : Int) (D : Nat) : Nat := D / fg z D

end Go.Proofs.Ytlhaepcnhkaclaa

namespace Go.Proofs.Ytlhaepcnhkaclaa
set_option linter.unusedVariables false
open Go Go.RowKit

/-- A fraction in its own words, and a number of an error. -/
def RetFE (w : World) (z : Int) (D : Nat) (err : Int) (e : Ending) (w' : World) : Prop :=
  ∃ a n c d m k, e = .returned (.tuple #[.agg #[.bool (decide (z < 0)), .slice a n c, .slice d m k], .int .i64 err]) ∧ Nc w' a n c z.natAbs ∧ Nc w' d m k D ∧ Ext w w'
theorem RetFE.of {w u : World} {z z' : Int} {D D' : Nat} {b : Bool} {a d : Option Addr} {n c m k : Nat} {err err' : Int} (hz : z' = z) (hD : D' = D) (he' : err' = err) (hb : b = decide (z < 0)) (h1 : Nc u a n c z.natAbs) (h2 : Nc u d m k D) (he : Ext w u) :
    RetFE w z' D' err' (.returned (.tuple #[.agg #[.bool b, .slice a n c, .slice d m k], .int .i64 err])) u := by
  subst hz; subst hD; subst hb; subst he'
  exact ⟨a, n, c, d, m, k, rfl, h1, h2, he⟩
/-- The upper part of a number by another one. -/
def mz (z z' : Int) : Int := if z' < 0 then -z else z
theorem mz_of {neg neg' : Bool} {A B : Nat} (hB : B ≠ 0) : wz (neg != neg') A = mz (wz neg A) (wz neg' B) := by
  unfold mz
  cases neg'
  · rw [if_neg (by show ¬ ((B : Nat) : Int) < 0; omega)]
    cases neg <;> rfl
  · rw [if_pos (by show -((B : Nat) : Int) < 0; omega)]
    cases neg
    · rfl
    · show ((A : Nat) : Int) = - -((A : Nat) : Int)
      omega
theorem mz_abs (z z' : Int) : (mz z z').natAbs = z.natAbs := by unfold mz; split <;> omega
theorem WhIn.flag {w : World} {neg : Bool} {a : Option Addr} {n cap : Nat} {z : Int} (h : WhIn w neg a n cap z) (b : Bool) : WhIn w b a n cap (wz b z.natAbs) := by
  obtain ⟨⟨l, hs, hl, hz⟩, hn⟩ := h
  have h2 : z.natAbs = val B32 l := by rw [← hz, wz_abs]
  exact ⟨⟨l, hs, hl, by rw [h2]⟩, hn⟩
def mkz (z z' : Int) : Int := if z' = 0 then 0 else rz (mz z z') z'.natAbs
def mkd (z z' : Int) : Nat := if z' = 0 then 0 else rd (mz z z') z'.natAbs
def mke (z' : Int) : Int := if z' = 0 then 5 else 0

theorem wd_int {n : Int} (h1 : -9223372036854775808 ≤ n) (h2 : n ≤ 9223372036854775807) : dl n.natAbs ≤ 2 := dl_u64 (by omega)

end Go.Proofs.Ytlhaepcnhkaclaa

namespace Go.Proofs.Ytlhaepcnhkaclaa
set_option linter.unusedVariables false
open Go Go.RowKit

theorem nc_litAt {w : World} {g : Nat} (hg : g = w.heap.size) (d : Nat) (h : 1 ≤ d) (h2 : d ≤ 4294967295) (e : TypeId) : Nc (w.alloc (.cells #[.int .u32 (d : Int)] e)) (some ⟨g, 0, none⟩) 1 1 d := by
  subst hg; exact Nc.lit1 w d h h2 e
theorem neg_of {neg : Bool} {z : Int} (h : z = wz neg z.natAbs) (h0 : z ≠ 0) : neg = decide (z < 0) := by
  cases neg
  · exact (decide_eq_false (by rw [h]; show ¬ ((z.natAbs : Nat) : Int) < 0; omega)).symm
  · exact (decide_eq_true (by rw [h]; show -((z.natAbs : Nat) : Int) < 0; omega)).symm
theorem bits_ne {V : Nat} (h : V ≠ 0) : ((bitlen V : Int) == 0) = false := by
  have := (bitlen_low h).1
  simp
  omega

set_option maxRecDepth 100000 in
set_option maxHeartbeats 4000000 in
theorem g_Reduce (neg : Bool) (a d : Option Addr) (n cap m c : Nat) (z : Int) (D : Nat) (w : World) (hz : WhIn w neg a n cap z) (hd : Nu w d m c D) :
    Calls Try.prog 102 #[.agg #[.bool neg, .slice a n cap, .slice d m c]] w (RetF w (rz (pz z D) (pd D)) (rd (pz z D) (pd D))) := by
  have hsn := hz.sgn
  have hnz := hz.nu
  have HZ := hidP hz; have HD := hidP hd; have HN := hidP hnz
  have HNE : Hid (∀ u, Ext w u → Nu u a n cap z.natAbs) := hidP (fun u h => hnz.ext h)
  by_cases hD0 : D = 0
  · have HR : Hid (rz (pz z D) (pd D) = 0 ∧ rd (pz z D) (pd D) = 1) := hidP (by
      unfold rz rd pz pd
      rw [if_pos hD0, if_pos hD0]
      exact fg_zero (by omega))
    have HBD : Hid (bitlen D = 0) := hidP (by rw [hD0]; rfl)
    clear hz hd hsn hnz hD0
    go_enter Try.func102, Try.ntmps102
    go_wp2_with fail
    refine absC (fun x1 hx1 => ?_)
    have hx : Ext w x1 := by rw [hx1]; exact (((Ext.refl _).alloc _).alloc _)
    have bp : Bl x1 (w.heap.size) #[.bool neg, .slice a n cap, .slice d m c] := by rw [hx1]; exact ((Bl.new (by simp)).alloc (by simp))
    have bs : Bl x1 (w.heap.size + 1) #[.bool false, .slice none 0 0, .slice none 0 0] := by rw [hx1]; exact (Bl.new (by simp))
    have fs : Fz x1 (w.heap.size + 1) := by rw [hx1]; exact (Fz.new (by simp))
    have HE := hx
    clear hx
    clear hx1
    refine (d_Bits (HD.out.ext HE)).mono ?_
    rw [HBD.out]
    rintro e u1 ⟨rfl, hx⟩
    replace bp := Bl.ext hx bp (Nat.succ_pos _)
    replace fs := Fz.ext hx fs bs (Nat.succ_pos _)
    replace bs := Bl.ext hx bs (Nat.succ_pos _)
    replace HE := HE.trans hx
    clear hx
    have lsu := bs.lt (Nat.succ_pos _)
    have lsn : w.heap.size + 1 ≠ u1.heap.size := by omega
    go_wp2_with fail
    refine absB (fun ue hue => ?_)
    have hbs : Bl ue (w.heap.size + 1) #[.bool false, .slice none 0 0, .slice (some ⟨u1.heap.size, 0, none⟩) 1 1] := by rw [hue]; exact Bl.alloc (((bs.set (by simp)).set (by simp)).set (by simp)) (by simp)
    have hl2 : Nc ue (some ⟨u1.heap.size, 0, none⟩) 1 1 1 := by rw [hue]; exact nc_litAt (by simp) 1 (by omega) (by omega) _
    have heu : Ext w ue := by rw [hue]; exact (((HE.store (by show w.heap.size ≤ w.heap.size + 1; omega) _).store (by show w.heap.size ≤ w.heap.size + 1; omega) _).store (by show w.heap.size ≤ w.heap.size + 1; omega) _).alloc _
    clear hue
    refine bodyPost_cells rfl rfl Try.underlying99 rfl (by kernel_rfl) (bl_three hbs) rfl ?_
    exact RetF.of HR.out.1 HR.out.2 rfl (Nc.zero _) hl2 heu
  · have HBN := hidP (bits_ne hD0)
    have HP : Hid (pz z D = z ∧ pd D = D) := hidP ⟨if_neg hD0, if_neg hD0⟩
    have hbd := bits_ne hD0
    by_cases hz0 : z = 0
    · have HR : Hid (rz (pz z D) (pd D) = 0 ∧ rd (pz z D) (pd D) = 1) := hidP (by
        unfold rz rd
        rw [HP.out.1, HP.out.2, hz0]
        exact fg_zero hD0)
      have HBZ : Hid (bitlen z.natAbs = 0) := hidP (by rw [hz0]; rfl)
      have D1 := hidP (fun u (hh : Nu u d m c D) => d_Bits hh)
      generalize bitlen D = bd at *
      clear hz hd hsn hnz hD0 hz0
      go_enter Try.func102, Try.ntmps102
      go_wp2_with fail
      refine absC (fun x1 hx1 => ?_)
      have hx : Ext w x1 := by rw [hx1]; exact (((Ext.refl _).alloc _).alloc _)
      have bp : Bl x1 (w.heap.size) #[.bool neg, .slice a n cap, .slice d m c] := by rw [hx1]; exact ((Bl.new (by simp)).alloc (by simp))
      have bs : Bl x1 (w.heap.size + 1) #[.bool false, .slice none 0 0, .slice none 0 0] := by rw [hx1]; exact (Bl.new (by simp))
      have fs : Fz x1 (w.heap.size + 1) := by rw [hx1]; exact (Fz.new (by simp))
      have HE := hx
      clear hx
      clear hx1
      refine (D1.out _ (HD.out.ext HE)).mono ?_
      rintro e u1 ⟨rfl, hx⟩
      replace bp := Bl.ext hx bp (Nat.succ_pos _)
      replace fs := Fz.ext hx fs bs (Nat.succ_pos _)
      replace bs := Bl.ext hx bs (Nat.succ_pos _)
      replace HE := HE.trans hx
      clear hx
      go_wp2_with fail
      refine (d_Bits (HNE.out _ HE)).mono ?_
      rw [HBZ.out]
      rintro e u2 ⟨rfl, hx⟩
      replace bp := Bl.ext hx bp (Nat.succ_pos _)
      replace fs := Fz.ext hx fs bs (Nat.succ_pos _)
      replace bs := Bl.ext hx bs (Nat.succ_pos _)
      replace HE := HE.trans hx
      clear hx
      have lsu := bs.lt (Nat.succ_pos _)
      have lsn : w.heap.size + 1 ≠ u2.heap.size := by omega
      go_wp2_with fail
      refine absB (fun ue hue => ?_)
      have hbs : Bl ue (w.heap.size + 1) #[.bool false, .slice none 0 0, .slice (some ⟨u2.heap.size, 0, none⟩) 1 1] := by rw [hue]; exact Bl.alloc (((bs.set (by simp)).set (by simp)).set (by simp)) (by simp)
      have hl2 : Nc ue (some ⟨u2.heap.size, 0, none⟩) 1 1 1 := by rw [hue]; exact nc_litAt (by simp) 1 (by omega) (by omega) _
      have heu : Ext w ue := by rw [hue]; exact (((HE.store (by show w.heap.size ≤ w.heap.size + 1; omega) _).store (by show w.heap.size ≤ w.heap.size + 1; omega) _).store (by show w.heap.size ≤ w.heap.size + 1; omega) _).alloc _
      clear hue
      refine bodyPost_cells rfl rfl Try.underlying99 rfl (by kernel_rfl) (bl_three hbs) rfl ?_
      exact RetF.of HR.out.1 HR.out.2 rfl (Nc.zero _) hl2 heu
    · have hbz := bits_ne (zabs_pos hz0)
      have HSG := hidP (fg_sign (z := z) hD0)
      have HNG := hidP (neg_of hsn hz0)
      have HR : Hid (rz (pz z D) (pd D) = z / (fg z D : Int) ∧ rd (pz z D) (pd D) = D / fg z D) := hidP (by rw [HP.out.1, HP.out.2]; exact ⟨rfl, rfl⟩)
      have D1 := hidP (fun u (hh : Nu u d m c D) => d_Bits hh)
      have D2 := hidP (fun u (hh : Nu u a n cap z.natAbs) => d_Bits hh)
      have D3 : Hid (∀ u, Nu u a n cap z.natAbs → Nu u d m c D → Calls Try.prog 125 #[.slice a n cap, .slice d m c] u (RetN2 u (z.natAbs / fg z D) (D / fg z D))) := hidP (fun u t1 t2 => q_Reduce t1 t2)
      have HDQ : Hid (dl (z.natAbs / fg z D) ≤ 1099511627776) := hidP (by have := dl_div z.natAbs (fg z D); have := hnz.dl; have := hnz.2; omega)
      generalize bitlen D = bd at *
      generalize bitlen z.natAbs = bz at *
      clear hz hd hsn hnz hD0 hz0
      go_enter Try.func102, Try.ntmps102
      go_wp2_with fail
      refine absC (fun x1 hx1 => ?_)
      have hx : Ext w x1 := by rw [hx1]; exact (((Ext.refl _).alloc _).alloc _)
      have bp : Bl x1 (w.heap.size) #[.bool neg, .slice a n cap, .slice d m c] := by rw [hx1]; exact ((Bl.new (by simp)).alloc (by simp))
      have bs : Bl x1 (w.heap.size + 1) #[.bool false, .slice none 0 0, .slice none 0 0] := by rw [hx1]; exact (Bl.new (by simp))
      have fs : Fz x1 (w.heap.size + 1) := by rw [hx1]; exact (Fz.new (by simp))
      have HE := hx
      clear hx
      clear hx1
      refine (D1.out _ (HD.out.ext HE)).mono ?_
      rintro e u1 ⟨rfl, hx⟩
      replace bp := Bl.ext hx bp (Nat.succ_pos _)
      replace fs := Fz.ext hx fs bs (Nat.succ_pos _)
      replace bs := Bl.ext hx bs (Nat.succ_pos _)
      replace HE := HE.trans hx
      clear hx
      go_wp2_with fail
      refine (D2.out _ (HNE.out _ HE)).mono ?_
      rintro e u2 ⟨rfl, hx⟩
      replace bp := Bl.ext hx bp (Nat.succ_pos _)
      replace fs := Fz.ext hx fs bs (Nat.succ_pos _)
      replace bs := Bl.ext hx bs (Nat.succ_pos _)
      replace HE := HE.trans hx
      clear hx
      go_wp2_with fail
      refine (D3.out _ (HNE.out _ HE) (HD.out.ext HE)).mono ?_
      rintro e u3 ⟨a3, n3, c3, a4, n4, c4, rfl, hs3, hs4, hx⟩
      replace bp := Bl.ext hx bp (Nat.succ_pos _)
      replace fs := Fz.ext hx fs bs (Nat.succ_pos _)
      replace bs := Bl.ext hx bs (Nat.succ_pos _)
      replace HE := HE.trans hx
      clear hx
      go_wp2_with fail
      refine (d_Make neg (hs3.nu HDQ.out)).mono ?_
      rw [show wz neg (z.natAbs / fg z D) = z / (fg z D : Int) by rw [HNG.out]; exact HSG.out]
      rintro e u5 ⟨a5, n5, c5, rfl, hs5, hx⟩
      replace bp := Bl.ext hx bp (Nat.succ_pos _)
      replace fs := Fz.ext hx fs bs (Nat.succ_pos _)
      replace bs := Bl.ext hx bs (Nat.succ_pos _)
      replace hs3 := hs3.ext hx
      replace hs4 := hs4.ext hx
      replace HE := HE.trans hx
      clear hx
      replace hs5 : Nc u5 a5 n5 c5 (z / (fg z D : Int)).natAbs := hs5
      clear hs3
      have HS4 := hidP hs4; have HS5 := hidP hs5
      clear hs4 hs5
      go_wp2_with fail
      refine absB (fun ue hue => ?_)
      have hbs : Bl ue (w.heap.size + 1) #[.bool (decide (z / (fg z D : Int) < 0)), .slice a5 n5 c5, .slice a4 n4 c4] := by rw [hue]; exact (((bs.set (by simp)).set (by simp)).set (by simp))
      have hnc : ∀ {aa : Option Addr} {nn cc VV : Nat}, Nc u5 aa nn cc VV → Nc ue aa nn cc VV := fun h => by
        rw [hue]
        exact h.but bs (not_ints3 nb_bool nb_slice nb_slice) ((But.refl _ _).store.store.store)
      have heu : Ext w ue := by rw [hue]; exact ((HE.store (by show w.heap.size ≤ w.heap.size + 1; omega) _).store (by show w.heap.size ≤ w.heap.size + 1; omega) _).store (by show w.heap.size ≤ w.heap.size + 1; omega) _
      clear hue
      refine bodyPost_cells rfl rfl Try.underlying99 rfl (by kernel_rfl) (bl_three hbs) rfl ?_
      exact RetF.of HR.out.1 HR.out.2 rfl (hnc HS5.out) (hnc HS4.out) heu

end Go.Proofs.Ytlhaepcnhkaclaa

namespace Go.Proofs.Ytlhaepcnhkaclaa
set_option linter.unusedVariables false
open Go Go.RowKit

set_option maxRecDepth 100000 in
set_option maxHeartbeats 2000000 in
theorem g_Int (n : Int) (w : World) (h1 : -9223372036854775808 ≤ n) (h2 : n ≤ 9223372036854775807) :
    Calls Try.prog 76 #[.int .i64 n] w (RetF w n 1) := by
  have H := hidP (fun u => r02_Of_any n u h1 h2)
  clear h1 h2
  go_enter Try.func76, Try.ntmps76
  go_wp2_with fail
  refine absC (fun x1 hx1 => ?_)
  have hx : Ext w x1 := by rw [hx1]; exact ((Ext.refl _).alloc _)
  have bs : Bl x1 (w.heap.size) #[.bool false, .slice none 0 0, .slice none 0 0] := by rw [hx1]; exact (Bl.new (by simp))
  have fs : Fz x1 (w.heap.size) := by rw [hx1]; exact (Fz.new (by simp))
  have HE := hx
  clear hx
  clear hx1
  refine (H.out _).mono ?_
  rintro e u1 ⟨a1, n1, c1, rfl, hs1, hx⟩
  replace fs := Fz.ext hx fs bs (Nat.succ_pos _)
  replace bs := Bl.ext hx bs (Nat.succ_pos _)
  replace HE := HE.trans hx
  clear hx
  replace hs1 : Nc u1 a1 n1 c1 (n).natAbs := hs1
  have lsu := bs.lt (Nat.succ_pos _)
  have lsn : w.heap.size ≠ u1.heap.size := by omega
  have HS1 := hidP hs1
  clear hs1
  go_wp2_with fail
  refine absB (fun ue hue => ?_)
  have hbs : Bl ue (w.heap.size) #[.bool (decide (n < 0)), .slice a1 n1 c1, .slice (some ⟨u1.heap.size, 0, none⟩) 1 1] := by rw [hue]; exact Bl.alloc (((bs.set (by simp)).set (by simp)).set (by simp)) (by simp)
  have hl2 : Nc ue (some ⟨u1.heap.size, 0, none⟩) 1 1 1 := by rw [hue]; exact nc_litAt (by simp) 1 (by omega) (by omega) _
  have hl1 : Nc ue a1 n1 c1 n.natAbs := by rw [hue]; exact (HS1.out.but bs (not_ints3 nb_bool nb_slice nb_slice) ((But.refl _ _).store.store.store)).ext ((Ext.refl _).alloc _)
  have heu : Ext w ue := by rw [hue]; exact (((HE.store (by show w.heap.size ≤ w.heap.size; omega) _).store (by show w.heap.size ≤ w.heap.size; omega) _).store (by show w.heap.size ≤ w.heap.size; omega) _).alloc _
  clear hue
  refine bodyPost_cells rfl rfl Try.underlying99 rfl (by kernel_rfl) (bl_three hbs) rfl ?_
  exact RetF.of rfl rfl rfl hl1 hl2 heu

set_option maxRecDepth 100000 in
set_option maxHeartbeats 4000000 in
theorem g_Make (neg neg' : Bool) (a a' : Option Addr) (n cap n' cap' : Nat) (z z' : Int) (w : World) (hz : WhIn w neg a n cap z) (hz' : WhIn w neg' a' n' cap' z') :
    Calls Try.prog 105 #[.agg #[.bool neg, .slice a n cap], .agg #[.bool neg', .slice a' n' cap']] w (RetFE w (mkz z z') (mkd z z') (mke z')) := by
  have hsn : z = wz neg z.natAbs := hz.sgn
  have hsn' : z' = wz neg' z'.natAbs := hz'.sgn
  have HZ := hidP hz; have HZ' := hidP hz'
  by_cases h0 : z' = 0
  · have HS : Hid (sgn z' = 0) := hidP (by rw [h0]; rfl)
    have HR : Hid (mkz z z' = 0 ∧ mkd z z' = 0 ∧ mke z' = 5) := hidP ⟨if_pos h0, if_pos h0, if_pos h0⟩
    clear hz hz' hsn hsn' h0
    go_enter Try.func105, Try.ntmps105
    go_wp2_with fail
    refine absC (fun x1 hx1 => ?_)
    have hx : Ext w x1 := by rw [hx1]; exact ((((Ext.refl _).alloc _).alloc _).alloc _)
    have bp : Bl x1 (w.heap.size) #[.bool neg, .slice a n cap] := by rw [hx1]; exact (((Bl.new (by simp)).alloc (by simp)).alloc (by simp))
    have bq : Bl x1 (w.heap.size + 1) #[.bool neg', .slice a' n' cap'] := by rw [hx1]; exact ((Bl.new (by simp)).alloc (by simp))
    have bs : Bl x1 (w.heap.size + 1 + 1) #[.bool false, .slice none 0 0, .slice none 0 0] := by rw [hx1]; exact (Bl.new (by simp))
    have fs : Fz x1 (w.heap.size + 1 + 1) := by rw [hx1]; exact (Fz.new (by simp))
    have HE := hx
    clear hx
    clear hx1
    refine (r02_Sign_any neg' a' n' cap' z' _ (HZ'.out.ext HE)).mono ?_
    rw [HS.out]
    rintro e u1 ⟨rfl, hx⟩
    replace bp := Bl.ext hx bp (Nat.succ_pos _)
    replace bq := Bl.ext hx bq (Nat.succ_pos _)
    replace fs := Fz.ext hx fs bs (Nat.succ_pos _)
    replace bs := Bl.ext hx bs (Nat.succ_pos _)
    replace HE := HE.trans hx
    clear hx
    go_wp2_with fail
    refine absB (fun ue hue => ?_)
    have hbs : Bl ue (w.heap.size + 1 + 1) #[.bool false, .slice none 0 0, .slice none 0 0] := by rw [hue]; exact (((bs.set (by simp)).set (by simp)).set (by simp))
    have hnc : ∀ {aa : Option Addr} {nn cc VV : Nat}, Nc u1 aa nn cc VV → Nc ue aa nn cc VV := fun h => by
      rw [hue]
      exact h.but bs (not_ints3 nb_bool nb_slice nb_slice) ((But.refl _ _).store.store.store)
    have heu : Ext w ue := by rw [hue]; exact ((HE.store (by show w.heap.size ≤ w.heap.size + 1 + 1; omega) _).store (by show w.heap.size ≤ w.heap.size + 1 + 1; omega) _).store (by show w.heap.size ≤ w.heap.size + 1 + 1; omega) _
    clear hue
    refine bodyPost_cells_tmp2 rfl rfl Try.underlying99 rfl (by kernel_rfl) (bl_three hbs) rfl rfl ?_
    exact RetFE.of HR.out.1 HR.out.2.1 HR.out.2.2 rfl (Nc.zero _) (Nc.zero _) heu
  · have hne : z'.natAbs ≠ 0 := by omega
    have HR : Hid (mkz z z' = rz (pz (mz z z') z'.natAbs) (pd z'.natAbs) ∧ mkd z z' = rd (pz (mz z z') z'.natAbs) (pd z'.natAbs) ∧ mke z' = 0) := hidP (by
      unfold pz pd mkz mkd mke
      rw [if_neg h0, if_neg h0, if_neg h0, if_neg hne, if_neg hne]
      exact ⟨rfl, rfl, rfl⟩)
    have hsg : ¬ sgn z' = 0 := by rcases sgn_cases z' with h | h | h <;> omega
    have hsz : (sgn z' == 0) = false := by simpa using hsg
    have HMZ : Hid (wz (neg != neg') z.natAbs = mz z z') := hidP (by
      have h9 := mz_of (neg := neg) (neg' := neg') (A := z.natAbs) (B := z'.natAbs) hne
      rw [← hsn, ← hsn'] at h9
      exact h9)
    have hbm : dl (mz z z').natAbs ≤ 549755813888 := by rw [mz_abs]; have := hz.nu.dl; have := hz.le; omega
    have HB := hidP hbm
    have HSG := hidP hsg
    have HNU : Hid (∀ u, Ext w u → Nu u a n cap z.natAbs) := hidP (fun u h => hz.nu.ext h)
    have HNU' : Hid (∀ u, Ext w u → Nu u a' n' cap' z'.natAbs) := hidP (fun u h => hz'.nu.ext h)
    generalize hM : mz z z' = M at *
    clear hz hz' hsn hsn' h0 hsg hM hne hbm
    go_enter Try.func105, Try.ntmps105
    go_wp2_with fail
    refine absC (fun x1 hx1 => ?_)
    have hx : Ext w x1 := by rw [hx1]; exact ((((Ext.refl _).alloc _).alloc _).alloc _)
    have bp : Bl x1 (w.heap.size) #[.bool neg, .slice a n cap] := by rw [hx1]; exact (((Bl.new (by simp)).alloc (by simp)).alloc (by simp))
    have bq : Bl x1 (w.heap.size + 1) #[.bool neg', .slice a' n' cap'] := by rw [hx1]; exact ((Bl.new (by simp)).alloc (by simp))
    have bs : Bl x1 (w.heap.size + 1 + 1) #[.bool false, .slice none 0 0, .slice none 0 0] := by rw [hx1]; exact (Bl.new (by simp))
    have fs : Fz x1 (w.heap.size + 1 + 1) := by rw [hx1]; exact (Fz.new (by simp))
    have HE := hx
    clear hx
    clear hx1
    refine (r02_Sign_any neg' a' n' cap' z' _ (HZ'.out.ext HE)).mono ?_
    rintro e u1 ⟨rfl, hx⟩
    replace bp := Bl.ext hx bp (Nat.succ_pos _)
    replace bq := Bl.ext hx bq (Nat.succ_pos _)
    replace fs := Fz.ext hx fs bs (Nat.succ_pos _)
    replace bs := Bl.ext hx bs (Nat.succ_pos _)
    replace HE := HE.trans hx
    clear hx
    go_wp2_with fail
    refine wp_region_plan (R := Ext) (.q 0 (.q 1 (.q 2 (.q 3 (.q 4 (.q 5 (.q 6 (.q 8 (.q 9 (.l 7 (.q 10 (.l 11 (.b 12 (.q 13 .done)))))))))))))) (by kernel_rfl) (by kernel_rfl) (by kernel_rfl) (by kernel_rfl) Ext.refl (fun _ _ _ => Ext.trans) ?_
    refine absE (fun x2 hx2 => ?_)
    have hx : Ext u1 x2 := by rw [hx2]; exact (Ext.refl _).drew
    replace bp := Bl.ext hx bp (Nat.succ_pos _)
    replace bq := Bl.ext hx bq (Nat.succ_pos _)
    replace fs := Fz.ext hx fs bs (Nat.succ_pos _)
    replace bs := Bl.ext hx bs (Nat.succ_pos _)
    replace HE := HE.trans hx
    clear hx
    clear hx2
    repeat (refine wpE_q (v := ?_) rfl rfl (fun u hu => ?_) ?_; rotate_left 1; (focus (have kp := Bl.ext hu bp (Nat.succ_pos _); have kq := Bl.ext hu bq (Nat.succ_pos _); have ks := Bl.ext hu bs (Nat.succ_pos _); go_simp; (try rfl))); simp only [Act.put, List.setIfInBounds_toArray, List.set_cons_zero, List.set_cons_succ])
    refine wpE_l rfl rfl (fun K hK => ?_)
    go_simp
    refine (d_Make (neg != neg') (HNU.out _ HE)).mono ?_
    rw [HMZ.out]
    rintro e u2 ⟨a2, n2, c2, rfl, hs2, hx⟩
    refine hK.out _ _ hx ?_
    clear hK K
    try simp only [Act.put, List.setIfInBounds_toArray, List.set_cons_zero, List.set_cons_succ]
    replace bp := Bl.ext hx bp (Nat.succ_pos _)
    replace bq := Bl.ext hx bq (Nat.succ_pos _)
    replace fs := Fz.ext hx fs bs (Nat.succ_pos _)
    replace bs := Bl.ext hx bs (Nat.succ_pos _)
    replace HE := HE.trans hx
    clear hx
    replace hs2 : Nc u2 a2 n2 c2 (M).natAbs := hs2
    repeat (refine wpE_q (v := ?_) rfl rfl (fun u hu => ?_) ?_; rotate_left 1; (focus (have kp := Bl.ext hu bp (Nat.succ_pos _); have kq := Bl.ext hu bq (Nat.succ_pos _); have ks := Bl.ext hu bs (Nat.succ_pos _); go_simp; (try rfl))); simp only [Act.put, List.setIfInBounds_toArray, List.set_cons_zero, List.set_cons_succ])
    refine wpE_l rfl rfl (fun K hK => ?_)
    go_simp
    refine (g_Reduce _ a2 a' n2 c2 n' cap' M z'.natAbs _ (hs2.wh HB.out) (HNU'.out _ HE)).mono ?_
    rintro e u4 ⟨a4, n4, c4, d4, m4, k4, rfl, hs4, ht4, hx⟩
    refine hK.out _ _ hx ?_
    clear hK K
    try simp only [Act.put, List.setIfInBounds_toArray, List.set_cons_zero, List.set_cons_succ]
    replace bp := Bl.ext hx bp (Nat.succ_pos _)
    replace bq := Bl.ext hx bq (Nat.succ_pos _)
    replace fs := Fz.ext hx fs bs (Nat.succ_pos _)
    replace bs := Bl.ext hx bs (Nat.succ_pos _)
    replace hs2 := hs2.ext hx
    replace HE := HE.trans hx
    clear hx
    replace hs4 : Nc u4 a4 n4 c4 (rz (pz M z'.natAbs) (pd z'.natAbs)).natAbs := hs4
    replace ht4 : Nc u4 d4 m4 k4 (rd (pz M z'.natAbs) (pd z'.natAbs)) := ht4
    refine wpE_b rfl rfl (fun K hK => ?_)
    go_simp
    refine hK.out _ _ ?_
    clear hK K
    try simp only [Act.put, List.setIfInBounds_toArray, List.set_cons_zero, List.set_cons_succ]
    refine absE (fun x3 hx3 => ?_)
    have hbut : But u4 x3 (w.heap.size + 1 + 1) := by rw [hx3]; exact (But.refl _ _).store.store.store
    have hbn : Bl x3 (w.heap.size + 1 + 1) #[(.bool (decide (rz (pz M z'.natAbs) (pd z'.natAbs) < 0))), .slice a4 n4 c4, .slice d4 m4 k4] := by rw [hx3]; exact (Bl.set (Bl.set (Bl.set bs (by simp)) (by simp)) (by simp))
    replace hs2 := hs2.but bs (not_ints3 nb_bool nb_slice nb_slice) hbut
    replace hs4 := hs4.but bs (not_ints3 nb_bool nb_slice nb_slice) hbut
    replace ht4 := ht4.but bs (not_ints3 nb_bool nb_slice nb_slice) hbut
    replace bp := But.bl hbut bp (Nat.succ_pos _) (by omega)
    replace bq := But.bl hbut bq (Nat.succ_pos _) (by omega)
    replace fs : Fz x3 (w.heap.size + 1 + 1) := by rw [hx3]; exact (Fz.set (Fz.set (Fz.set fs)))
    replace HE : Ext w x3 := by rw [hx3]; exact (((HE.store (by show w.heap.size ≤ w.heap.size + 1 + 1; omega) _).store (by show w.heap.size ≤ w.heap.size + 1 + 1; omega) _).store (by show w.heap.size ≤ w.heap.size + 1 + 1; omega) _)
    clear bs hbut hx3
    have bs := hbn
    clear hbn
    repeat (refine wpE_q (v := ?_) rfl rfl (fun u hu => ?_) ?_; rotate_left 1; (focus (have kp := Bl.ext hu bp (Nat.succ_pos _); have kq := Bl.ext hu bq (Nat.succ_pos _); have ks := Bl.ext hu bs (Nat.succ_pos _); go_simp; (try rfl))); simp only [Act.put, List.setIfInBounds_toArray, List.set_cons_zero, List.set_cons_succ])
    refine wpE_done ?_
    go_wp2_with fail
    refine bodyPost_cells_tmp2 rfl rfl Try.underlying99 rfl (by kernel_rfl) (bl_three bs) rfl rfl ?_
    exact RetFE.of HR.out.1 HR.out.2.1 HR.out.2.2 rfl hs4 ht4 HE

end Go.Proofs.Ytlhaepcnhkaclaa

namespace Go.Proofs.Ytlhaepcnhkaclaa
set_option linter.unusedVariables false
open Go Go.RowKit

/-- A fraction, in whatever words. -/
def RetI (w : World) (z : Int) (D : Nat) (e : Ending) (w' : World) : Prop :=
  ∃ b a n c d m k, e = .returned (.agg #[.bool b, .slice a n c, .slice d m k]) ∧ WhIn w' b a n c z ∧ Nu w' d m k D ∧ m ≤ 549755813888 ∧ Ext w w'
theorem whin_zero (w : World) : WhIn w false none 0 0 0 := ⟨⟨[], Sl.nil w, by simp [Ws], rfl⟩, by omega⟩

set_option maxRecDepth 100000 in
set_option maxHeartbeats 2000000 in
theorem g_worth (neg : Bool) (a d : Option Addr) (n cap m c : Nat) (z : Int) (D : Nat) (w : World) (hz : WhIn w neg a n cap z) (hd : Nu w d m c D) (hm : m ≤ 549755813888) :
    Calls Try.prog 101 #[.agg #[.bool neg, .slice a n cap, .slice d m c]] w (RetI w (pz z D) (pd D)) := by
  have HZ := hidP hz; have HD := hidP hd; have HM := hidP hm
  clear hz hd hm
  by_cases hD0 : D = 0
  · have HR : Hid (pz z D = 0 ∧ pd D = 1) := hidP ⟨if_pos hD0, if_pos hD0⟩
    have HBD : Hid (bitlen D = 0) := hidP (by rw [hD0]; rfl)
    clear hD0
    go_enter Try.func101, Try.ntmps101
    go_wp2_with fail
    refine absC (fun x1 hx1 => ?_)
    have hx : Ext w x1 := by rw [hx1]; exact (((Ext.refl _).alloc _).alloc _)
    have bp : Bl x1 (w.heap.size) #[.bool neg, .slice a n cap, .slice d m c] := by rw [hx1]; exact ((Bl.new (by simp)).alloc (by simp))
    have bs : Bl x1 (w.heap.size + 1) #[.bool false, .slice none 0 0, .slice none 0 0] := by rw [hx1]; exact (Bl.new (by simp))
    have fs : Fz x1 (w.heap.size + 1) := by rw [hx1]; exact (Fz.new (by simp))
    have HE := hx
    clear hx
    clear hx1
    refine (d_Bits (HD.out.ext HE)).mono ?_
    rw [HBD.out]
    rintro e u1 ⟨rfl, hx⟩
    replace bp := Bl.ext hx bp (Nat.succ_pos _)
    replace fs := Fz.ext hx fs bs (Nat.succ_pos _)
    replace bs := Bl.ext hx bs (Nat.succ_pos _)
    replace HE := HE.trans hx
    clear hx
    have lsu := bs.lt (Nat.succ_pos _)
    have lsn : w.heap.size + 1 ≠ u1.heap.size := by omega
    go_wp2_with fail
    refine absB (fun ue hue => ?_)
    have hbs : Bl ue (w.heap.size + 1) #[.bool false, .slice none 0 0, .slice (some ⟨u1.heap.size, 0, none⟩) 1 1] := by rw [hue]; exact Bl.alloc (((bs.set (by simp)).set (by simp)).set (by simp)) (by simp)
    have hl2 : Nc ue (some ⟨u1.heap.size, 0, none⟩) 1 1 1 := by rw [hue]; exact nc_litAt (by simp) 1 (by omega) (by omega) _
    have heu : Ext w ue := by rw [hue]; exact (((HE.store (by show w.heap.size ≤ w.heap.size + 1; omega) _).store (by show w.heap.size ≤ w.heap.size + 1; omega) _).store (by show w.heap.size ≤ w.heap.size + 1; omega) _).alloc _
    clear hue
    refine bodyPost_cells rfl rfl Try.underlying99 rfl (by kernel_rfl) (bl_three hbs) rfl ?_
    exact ⟨_, _, _, _, _, _, _, rfl, by rw [HR.out.1]; exact whin_zero _, by rw [HR.out.2]; exact hl2.nu (by have := dl_small (a := 1) (by omega); omega), by omega, heu⟩
  · have HR : Hid (pz z D = z ∧ pd D = D) := hidP ⟨if_neg hD0, if_neg hD0⟩
    have hbd := bits_ne hD0
    have D1 := hidP (fun u (hh : Nu u d m c D) => d_Bits hh)
    generalize bitlen D = bd at *
    clear hD0
    go_enter Try.func101, Try.ntmps101
    go_wp2_with fail
    refine absC (fun x1 hx1 => ?_)
    have hx : Ext w x1 := by rw [hx1]; exact (((Ext.refl _).alloc _).alloc _)
    have bp : Bl x1 (w.heap.size) #[.bool neg, .slice a n cap, .slice d m c] := by rw [hx1]; exact ((Bl.new (by simp)).alloc (by simp))
    have bs : Bl x1 (w.heap.size + 1) #[.bool false, .slice none 0 0, .slice none 0 0] := by rw [hx1]; exact (Bl.new (by simp))
    have fs : Fz x1 (w.heap.size + 1) := by rw [hx1]; exact (Fz.new (by simp))
    have HE := hx
    clear hx
    clear hx1
    refine (D1.out _ (HD.out.ext HE)).mono ?_
    rintro e u1 ⟨rfl, hx⟩
    replace bp := Bl.ext hx bp (Nat.succ_pos _)
    replace fs := Fz.ext hx fs bs (Nat.succ_pos _)
    replace bs := Bl.ext hx bs (Nat.succ_pos _)
    replace HE := HE.trans hx
    clear hx
    go_wp2_with fail
    refine absB (fun ue hue => ?_)
    have hbs : Bl ue (w.heap.size + 1) #[.bool neg, .slice a n cap, .slice d m c] := by rw [hue]; exact (((bs.set (by simp)).set (by simp)).set (by simp))
    have heu : Ext w ue := by rw [hue]; exact (((HE.store (by show w.heap.size ≤ w.heap.size + 1; omega) _).store (by show w.heap.size ≤ w.heap.size + 1; omega) _).store (by show w.heap.size ≤ w.heap.size + 1; omega) _)
    clear hue
    refine bodyPost_cells rfl rfl Try.underlying99 rfl (by kernel_rfl) (bl_three hbs) rfl ?_
    exact ⟨_, _, _, _, _, _, _, rfl, by rw [HR.out.1]; exact HZ.out.ext heu, by rw [HR.out.2]; exact HD.out.ext heu, HM.out, heu⟩

set_option maxRecDepth 100000 in
set_option maxHeartbeats 2000000 in
theorem g_up (v0 : Bool) (a d : Option Addr) (n cap m c : Nat) (w : World) :
    Calls Try.prog 106 #[.agg #[.bool v0, .slice a n cap, .slice d m c]] w fun e w' => e = .returned (.agg #[.bool false, .slice d m c]) ∧ Ext w w' := by
  go_enter Try.func106, Try.ntmps106
  go_wp2_with fail
  refine bodyPost_cells rfl rfl Try.underlying97 rfl (by kernel_rfl) (cs := #[.bool false, .slice d m c]) (g := w.heap.size + 1) (two (by go_simp; try rfl) (by go_simp; try rfl)) rfl ?_
  refine ⟨rfl, ?_⟩
  first | exact ((((Ext.refl _).alloc _).alloc _).store (by show w.heap.size ≤ _; simp) _).store (by show w.heap.size ≤ _; simp) _ | exact (((Ext.refl _).alloc _).alloc _)

end Go.Proofs.Ytlhaepcnhkaclaa

namespace Go.Proofs.Ytlhaepcnhkaclaa
set_option linter.unusedVariables false
open Go Go.RowKit

theorem WhIn.but {w u : World} {g : Nat} {cs : Array Value} {b : Bool} {a : Option Addr} {n cap : Nat} {z : Int} (h : WhIn w b a n cap z) (hb : Bl w g cs) (hcs : ∀ (j : Nat) (x : Int), cs[j]? ≠ some (Value.int .u32 x)) (hu : But w u g) : WhIn u b a n cap z :=
  let ⟨⟨l, h1, h2, h3⟩, h4⟩ := h; ⟨⟨l, h1.but hb hcs hu, h2, h3⟩, h4⟩
theorem Nu.but {w u : World} {g : Nat} {cs : Array Value} {a : Option Addr} {n cap V : Nat} (h : Nu w a n cap V) (hb : Bl w g cs) (hcs : ∀ (j : Nat) (x : Int), cs[j]? ≠ some (Value.int .u32 x)) (hu : But w u g) : Nu u a n cap V :=
  let ⟨⟨l, h1, h2, h3⟩, h4⟩ := h; ⟨⟨l, h1.but hb hcs hu, h2, h3⟩, h4⟩
theorem Nu.wh {w : World} {d : Option Addr} {m k D : Nat} (h : Nu w d m k D) (hm : m ≤ 549755813888) : WhIn w false d m k (D : Int) := by
  obtain ⟨⟨l, h1, h2, h3⟩, h4⟩ := h
  exact ⟨⟨l, h1, h2, by rw [h3]; rfl⟩, hm⟩

set_option maxRecDepth 100000 in
set_option maxHeartbeats 4000000 in
theorem g_Div (neg neg' : Bool) (a d a' d' : Option Addr) (n cap m c n' cap' m' c' : Nat) (z z' : Int) (D D' : Nat) (w : World) (hz : WhIn w neg a n cap z) (hd : Nu w d m c D) (hm : m ≤ 549755813888) (hz' : WhIn w neg' a' n' cap' z') (hd' : Nu w d' m' c' D') (hm' : m' ≤ 549755813888)
    (hb1 : dl z.natAbs ≤ 137438953472) (hb2 : dl D ≤ 137438953472) (hb3 : dl z'.natAbs ≤ 137438953472) (hb4 : dl D' ≤ 137438953472) :
    Calls Try.prog 77 #[.agg #[.bool neg, .slice a n cap, .slice d m c], .agg #[.bool neg', .slice a' n' cap', .slice d' m' c']] w
      (RetFE w (mkz (pz z D * pd D') (pz z' D' * pd D)) (mkd (pz z D * pd D') (pz z' D' * pd D)) (mke (pz z' D' * pd D))) := by
  have HP1 := hidP (fun u t1 t2 => g_worth neg a d n cap m c z D u t1 t2 hm)
  have HP2 := hidP (fun u t1 t2 => g_worth neg' a' d' n' cap' m' c' z' D' u t1 t2 hm')
  have B1 : Hid (dl (pz z D).natAbs ≤ 137438953473) := hidP (by have := pz_len z D; omega)
  have B2 : Hid (dl (pd D) ≤ 137438953473) := hidP (by have := pd_len D; omega)
  have B3 : Hid (dl (pz z' D').natAbs ≤ 137438953473) := hidP (by have := pz_len z' D'; omega)
  have B4 : Hid (dl (pd D') ≤ 137438953473) := hidP (by have := pd_len D'; omega)
  have HZ := hidP hz; have HD := hidP hd; have HZ' := hidP hz'; have HD' := hidP hd'
  clear hz hd hz' hd' hb1 hb2 hb3 hb4 hm hm'
  generalize pz z D = Z at *
  generalize pd D = E at *
  generalize pz z' D' = Y at *
  generalize pd D' = F at *
  have Q1 : Hid (dl (Z * (F : Int)).natAbs ≤ 549755813888) := hidP (by have := dz_mul Z (F : Int); have := B1.out; have := B4.out; rw [Int.natAbs_natCast] at *; omega)
  have Q2 : Hid (dl (Y * (E : Int)).natAbs ≤ 549755813888) := hidP (by have := dz_mul Y (E : Int); have := B3.out; have := B2.out; rw [Int.natAbs_natCast] at *; omega)
  go_enter Try.func77, Try.ntmps77
  go_wp2_with fail
  refine wp_region_plan (R := Ext) (.q 0 (.q 2 (.l 1 (.l 3 (.b 4 (.b 5 .done)))))) (by kernel_rfl) (by kernel_rfl) (by kernel_rfl) (by kernel_rfl) Ext.refl (fun _ _ _ => Ext.trans) ?_
  refine absE (fun x1 hx1 => ?_)
  have hx : Ext w x1 := by rw [hx1]; exact ((((Ext.refl _).alloc _).alloc _).alloc _).drew
  have bp : Bl x1 (w.heap.size) #[.bool neg, .slice a n cap, .slice d m c] := by rw [hx1]; exact (((Bl.new (by simp)).alloc (by simp)).alloc (by simp)).drew
  have fp : Fz x1 (w.heap.size) := by rw [hx1]; exact (((Fz.new (by simp)).alloc (Bl.new (by simp)) (by simp)).alloc ((Bl.new (by simp)).alloc (by simp)) (by simp)).drew
  have bq : Bl x1 (w.heap.size + 1) #[.bool neg', .slice a' n' cap', .slice d' m' c'] := by rw [hx1]; exact ((Bl.new (by simp)).alloc (by simp)).drew
  have fq : Fz x1 (w.heap.size + 1) := by rw [hx1]; exact ((Fz.new (by simp)).alloc (Bl.new (by simp)) (by simp)).drew
  have bs : Bl x1 (w.heap.size + 1 + 1) #[.bool false, .slice none 0 0, .slice none 0 0] := by rw [hx1]; exact (Bl.new (by simp)).drew
  have fs : Fz x1 (w.heap.size + 1 + 1) := by rw [hx1]; exact (Fz.new (by simp)).drew
  have HE := hx
  clear hx
  clear hx1
  repeat (refine wpE_q (v := ?_) rfl rfl (fun u hu => ?_) ?_; rotate_left 1; (focus (have kp := Bl.ext hu bp (Nat.succ_pos _); have kq := Bl.ext hu bq (Nat.succ_pos _); have ks := Bl.ext hu bs (Nat.succ_pos _); go_simp; (try rfl))); simp only [Act.put, List.setIfInBounds_toArray, List.set_cons_zero, List.set_cons_succ])
  refine wpE_l rfl rfl (fun K hK => ?_)
  go_simp
  refine (HP1.out _ (HZ.out.ext HE) (HD.out.ext HE)).mono ?_
  rintro e u1 ⟨b1, a1, n1, c1, d1, m1, k1, rfl, hw1, hu1, hm1, hx⟩
  refine hK.out _ _ hx ?_
  clear hK K
  try simp only [Act.put, List.setIfInBounds_toArray, List.set_cons_zero, List.set_cons_succ]
  replace fp := Fz.ext hx fp bp (Nat.succ_pos _)
  replace bp := Bl.ext hx bp (Nat.succ_pos _)
  replace fq := Fz.ext hx fq bq (Nat.succ_pos _)
  replace bq := Bl.ext hx bq (Nat.succ_pos _)
  replace fs := Fz.ext hx fs bs (Nat.succ_pos _)
  replace bs := Bl.ext hx bs (Nat.succ_pos _)
  replace HE := HE.trans hx
  clear hx
  have HM1 := hidP hm1
  clear hm1
  refine wpE_l rfl rfl (fun K hK => ?_)
  go_simp
  refine (HP2.out _ (HZ'.out.ext HE) (HD'.out.ext HE)).mono ?_
  rintro e u2 ⟨b2, a2, n2, c2, d2, m2, k2, rfl, hw2, hu2, hm2, hx⟩
  refine hK.out _ _ hx ?_
  clear hK K
  try simp only [Act.put, List.setIfInBounds_toArray, List.set_cons_zero, List.set_cons_succ]
  replace fp := Fz.ext hx fp bp (Nat.succ_pos _)
  replace bp := Bl.ext hx bp (Nat.succ_pos _)
  replace fq := Fz.ext hx fq bq (Nat.succ_pos _)
  replace bq := Bl.ext hx bq (Nat.succ_pos _)
  replace fs := Fz.ext hx fs bs (Nat.succ_pos _)
  replace bs := Bl.ext hx bs (Nat.succ_pos _)
  replace hw1 := hw1.ext hx
  replace hu1 := hu1.ext hx
  replace HE := HE.trans hx
  clear hx
  have HM2 := hidP hm2
  clear hm2
  refine wpE_b rfl rfl (fun K hK => ?_)
  go_simp
  refine hK.out _ _ ?_
  clear hK K
  try simp only [Act.put, List.setIfInBounds_toArray, List.set_cons_zero, List.set_cons_succ]
  refine absE (fun x2 hx2 => ?_)
  have hbut : But u2 x2 (w.heap.size) := by rw [hx2]; exact (But.refl _ _).store.store.store
  have hbn : Bl x2 (w.heap.size) #[.bool b1, .slice a1 n1 c1, .slice d1 m1 k1] := by rw [hx2]; exact (Bl.set (Bl.set (Bl.set bp (by simp)) (by simp)) (by simp))
  replace hw1 := hw1.but bp (not_ints3 nb_bool nb_slice nb_slice) hbut
  replace hu1 := hu1.but bp (not_ints3 nb_bool nb_slice nb_slice) hbut
  replace hw2 := hw2.but bp (not_ints3 nb_bool nb_slice nb_slice) hbut
  replace hu2 := hu2.but bp (not_ints3 nb_bool nb_slice nb_slice) hbut
  replace fq := But.fz hbut fq bq (Nat.succ_pos _) (by omega)
  replace bq := But.bl hbut bq (Nat.succ_pos _) (by omega)
  replace fs := But.fz hbut fs bs (Nat.succ_pos _) (by omega)
  replace bs := But.bl hbut bs (Nat.succ_pos _) (by omega)
  replace fp : Fz x2 (w.heap.size) := by rw [hx2]; exact (Fz.set (Fz.set (Fz.set fp)))
  replace HE : Ext w x2 := by rw [hx2]; exact (((HE.store (by show w.heap.size ≤ w.heap.size; omega) _).store (by show w.heap.size ≤ w.heap.size; omega) _).store (by show w.heap.size ≤ w.heap.size; omega) _)
  clear bp hbut hx2
  have bp := hbn
  clear hbn
  refine wpE_b rfl rfl (fun K hK => ?_)
  go_simp
  refine hK.out _ _ ?_
  clear hK K
  try simp only [Act.put, List.setIfInBounds_toArray, List.set_cons_zero, List.set_cons_succ]
  refine absE (fun x3 hx3 => ?_)
  have hbut : But x2 x3 (w.heap.size + 1) := by rw [hx3]; exact (But.refl _ _).store.store.store
  have hbn : Bl x3 (w.heap.size + 1) #[.bool b2, .slice a2 n2 c2, .slice d2 m2 k2] := by rw [hx3]; exact (Bl.set (Bl.set (Bl.set bq (by simp)) (by simp)) (by simp))
  replace hw1 := hw1.but bq (not_ints3 nb_bool nb_slice nb_slice) hbut
  replace hu1 := hu1.but bq (not_ints3 nb_bool nb_slice nb_slice) hbut
  replace hw2 := hw2.but bq (not_ints3 nb_bool nb_slice nb_slice) hbut
  replace hu2 := hu2.but bq (not_ints3 nb_bool nb_slice nb_slice) hbut
  replace fp := But.fz hbut fp bp (Nat.succ_pos _) (by omega)
  replace bp := But.bl hbut bp (Nat.succ_pos _) (by omega)
  replace fs := But.fz hbut fs bs (Nat.succ_pos _) (by omega)
  replace bs := But.bl hbut bs (Nat.succ_pos _) (by omega)
  replace fq : Fz x3 (w.heap.size + 1) := by rw [hx3]; exact (Fz.set (Fz.set (Fz.set fq)))
  replace HE : Ext w x3 := by rw [hx3]; exact (((HE.store (by show w.heap.size ≤ w.heap.size + 1; omega) _).store (by show w.heap.size ≤ w.heap.size + 1; omega) _).store (by show w.heap.size ≤ w.heap.size + 1; omega) _)
  clear bq hbut hx3
  have bq := hbn
  clear hbn
  refine wpE_done ?_
  go_wp2_with fail
  refine wp_region_plan (R := Ext) (.q 0 (.q 1 (.q 2 (.q 5 (.q 6 (.q 7 (.l 3 (.l 4 (.l 8 (.l 9 (.l 10 (.q 11 (.q 12 (.b 13 (.q 14 .done))))))))))))))) (by kernel_rfl) (by kernel_rfl) (by kernel_rfl) (by kernel_rfl) Ext.refl (fun _ _ _ => Ext.trans) ?_
  refine absE (fun x4 hx4 => ?_)
  have hx : Ext x3 x4 := by rw [hx4]; exact (Ext.refl _).drew
  replace fp := Fz.ext hx fp bp (Nat.succ_pos _)
  replace bp := Bl.ext hx bp (Nat.succ_pos _)
  replace fq := Fz.ext hx fq bq (Nat.succ_pos _)
  replace bq := Bl.ext hx bq (Nat.succ_pos _)
  replace fs := Fz.ext hx fs bs (Nat.succ_pos _)
  replace bs := Bl.ext hx bs (Nat.succ_pos _)
  replace hw1 := hw1.ext hx
  replace hu1 := hu1.ext hx
  replace hw2 := hw2.ext hx
  replace hu2 := hu2.ext hx
  replace HE := HE.trans hx
  clear hx
  clear hx4
  repeat (refine wpE_q (v := ?_) rfl rfl (fun u hu => ?_) ?_; rotate_left 1; (focus (have kp := Bl.ext hu bp (Nat.succ_pos _); have kq := Bl.ext hu bq (Nat.succ_pos _); have ks := Bl.ext hu bs (Nat.succ_pos _); go_simp; (try rfl))); simp only [Act.put, List.setIfInBounds_toArray, List.set_cons_zero, List.set_cons_succ])
  refine wpE_l rfl rfl (fun K hK => ?_)
  go_simp
  refine (g_up b2 a2 d2 n2 c2 m2 k2 _).mono ?_
  rintro e u3 ⟨rfl, hx⟩
  refine hK.out _ _ hx ?_
  clear hK K
  try simp only [Act.put, List.setIfInBounds_toArray, List.set_cons_zero, List.set_cons_succ]
  replace fp := Fz.ext hx fp bp (Nat.succ_pos _)
  replace bp := Bl.ext hx bp (Nat.succ_pos _)
  replace fq := Fz.ext hx fq bq (Nat.succ_pos _)
  replace bq := Bl.ext hx bq (Nat.succ_pos _)
  replace fs := Fz.ext hx fs bs (Nat.succ_pos _)
  replace bs := Bl.ext hx bs (Nat.succ_pos _)
  replace hw1 := hw1.ext hx
  replace hu1 := hu1.ext hx
  replace hw2 := hw2.ext hx
  replace hu2 := hu2.ext hx
  replace HE := HE.trans hx
  clear hx
  refine wpE_l rfl rfl (fun K hK => ?_)
  go_simp
  refine (r02_Mul_any b1 false a1 d2 n1 c1 m2 k2 Z (F : Int) _ hw1 (hu2.wh HM2.out)).mono ?_
  rintro e u4 ⟨a4, n4, c4, rfl, hs4, hx⟩
  refine hK.out _ _ hx ?_
  clear hK K
  try simp only [Act.put, List.setIfInBounds_toArray, List.set_cons_zero, List.set_cons_succ]
  replace fp := Fz.ext hx fp bp (Nat.succ_pos _)
  replace bp := Bl.ext hx bp (Nat.succ_pos _)
  replace fq := Fz.ext hx fq bq (Nat.succ_pos _)
  replace bq := Bl.ext hx bq (Nat.succ_pos _)
  replace fs := Fz.ext hx fs bs (Nat.succ_pos _)
  replace bs := Bl.ext hx bs (Nat.succ_pos _)
  replace hw1 := hw1.ext hx
  replace hu1 := hu1.ext hx
  replace hw2 := hw2.ext hx
  replace hu2 := hu2.ext hx
  replace HE := HE.trans hx
  clear hx
  replace hs4 : Nc u4 a4 n4 c4 (Z * (F : Int)).natAbs := hs4
  refine wpE_l rfl rfl (fun K hK => ?_)
  go_simp
  refine (g_up b1 a1 d1 n1 c1 m1 k1 _).mono ?_
  rintro e u5 ⟨rfl, hx⟩
  refine hK.out _ _ hx ?_
  clear hK K
  try simp only [Act.put, List.setIfInBounds_toArray, List.set_cons_zero, List.set_cons_succ]
  replace fp := Fz.ext hx fp bp (Nat.succ_pos _)
  replace bp := Bl.ext hx bp (Nat.succ_pos _)
  replace fq := Fz.ext hx fq bq (Nat.succ_pos _)
  replace bq := Bl.ext hx bq (Nat.succ_pos _)
  replace fs := Fz.ext hx fs bs (Nat.succ_pos _)
  replace bs := Bl.ext hx bs (Nat.succ_pos _)
  replace hw1 := hw1.ext hx
  replace hu1 := hu1.ext hx
  replace hw2 := hw2.ext hx
  replace hu2 := hu2.ext hx
  replace hs4 := hs4.ext hx
  replace HE := HE.trans hx
  clear hx
  refine wpE_l rfl rfl (fun K hK => ?_)
  go_simp
  refine (r02_Mul_any b2 false a2 d1 n2 c2 m1 k1 Y (E : Int) _ hw2 (hu1.wh HM1.out)).mono ?_
  rintro e u6 ⟨a6, n6, c6, rfl, hs6, hx⟩
  refine hK.out _ _ hx ?_
  clear hK K
  try simp only [Act.put, List.setIfInBounds_toArray, List.set_cons_zero, List.set_cons_succ]
  replace fp := Fz.ext hx fp bp (Nat.succ_pos _)
  replace bp := Bl.ext hx bp (Nat.succ_pos _)
  replace fq := Fz.ext hx fq bq (Nat.succ_pos _)
  replace bq := Bl.ext hx bq (Nat.succ_pos _)
  replace fs := Fz.ext hx fs bs (Nat.succ_pos _)
  replace bs := Bl.ext hx bs (Nat.succ_pos _)
  replace hw1 := hw1.ext hx
  replace hu1 := hu1.ext hx
  replace hw2 := hw2.ext hx
  replace hu2 := hu2.ext hx
  replace hs4 := hs4.ext hx
  replace HE := HE.trans hx
  clear hx
  replace hs6 : Nc u6 a6 n6 c6 (Y * (E : Int)).natAbs := hs6
  refine wpE_l rfl rfl (fun K hK => ?_)
  go_simp
  have hmk := g_Make _ _ a4 a6 n4 c4 n6 c6 (Z * (F : Int)) (Y * (E : Int)) u6 (hs4.wh Q1.out) (hs6.wh Q2.out)
  generalize mkz (Z * (F : Int)) (Y * (E : Int)) = MZ at *
  generalize mkd (Z * (F : Int)) (Y * (E : Int)) = MD at *
  generalize mke (Y * (E : Int)) = ME at *
  have HMK := hidP hmk
  clear hmk
  refine (HMK.out).mono ?_
  rintro e u7 ⟨a7, n7, c7, d7, m7, k7, rfl, hs7, ht7, hx⟩
  refine hK.out _ _ hx ?_
  clear hK K
  try simp only [Act.put, List.setIfInBounds_toArray, List.set_cons_zero, List.set_cons_succ]
  replace fp := Fz.ext hx fp bp (Nat.succ_pos _)
  replace bp := Bl.ext hx bp (Nat.succ_pos _)
  replace fq := Fz.ext hx fq bq (Nat.succ_pos _)
  replace bq := Bl.ext hx bq (Nat.succ_pos _)
  replace fs := Fz.ext hx fs bs (Nat.succ_pos _)
  replace bs := Bl.ext hx bs (Nat.succ_pos _)
  replace hw1 := hw1.ext hx
  replace hu1 := hu1.ext hx
  replace hw2 := hw2.ext hx
  replace hu2 := hu2.ext hx
  replace hs4 := hs4.ext hx
  replace hs6 := hs6.ext hx
  replace HE := HE.trans hx
  clear hx
  repeat (refine wpE_q (v := ?_) rfl rfl (fun u hu => ?_) ?_; rotate_left 1; (focus (have kp := Bl.ext hu bp (Nat.succ_pos _); have kq := Bl.ext hu bq (Nat.succ_pos _); have ks := Bl.ext hu bs (Nat.succ_pos _); go_simp; (try rfl))); simp only [Act.put, List.setIfInBounds_toArray, List.set_cons_zero, List.set_cons_succ])
  refine wpE_b rfl rfl (fun K hK => ?_)
  go_simp
  refine hK.out _ _ ?_
  clear hK K
  try simp only [Act.put, List.setIfInBounds_toArray, List.set_cons_zero, List.set_cons_succ]
  refine absE (fun x5 hx5 => ?_)
  have hbut : But u7 x5 (w.heap.size + 1 + 1) := by rw [hx5]; exact (But.refl _ _).store.store.store
  have hbn : Bl x5 (w.heap.size + 1 + 1) #[(.bool (decide (MZ < 0))), .slice a7 n7 c7, .slice d7 m7 k7] := by rw [hx5]; exact (Bl.set (Bl.set (Bl.set bs (by simp)) (by simp)) (by simp))
  replace hw1 := hw1.but bs (not_ints3 nb_bool nb_slice nb_slice) hbut
  replace hu1 := hu1.but bs (not_ints3 nb_bool nb_slice nb_slice) hbut
  replace hw2 := hw2.but bs (not_ints3 nb_bool nb_slice nb_slice) hbut
  replace hu2 := hu2.but bs (not_ints3 nb_bool nb_slice nb_slice) hbut
  replace hs4 := hs4.but bs (not_ints3 nb_bool nb_slice nb_slice) hbut
  replace hs6 := hs6.but bs (not_ints3 nb_bool nb_slice nb_slice) hbut
  replace hs7 := hs7.but bs (not_ints3 nb_bool nb_slice nb_slice) hbut
  replace ht7 := ht7.but bs (not_ints3 nb_bool nb_slice nb_slice) hbut
  replace fp := But.fz hbut fp bp (Nat.succ_pos _) (by omega)
  replace bp := But.bl hbut bp (Nat.succ_pos _) (by omega)
  replace fq := But.fz hbut fq bq (Nat.succ_pos _) (by omega)
  replace bq := But.bl hbut bq (Nat.succ_pos _) (by omega)
  replace fs : Fz x5 (w.heap.size + 1 + 1) := by rw [hx5]; exact (Fz.set (Fz.set (Fz.set fs)))
  replace HE : Ext w x5 := by rw [hx5]; exact (((HE.store (by show w.heap.size ≤ w.heap.size + 1 + 1; omega) _).store (by show w.heap.size ≤ w.heap.size + 1 + 1; omega) _).store (by show w.heap.size ≤ w.heap.size + 1 + 1; omega) _)
  clear bs hbut hx5
  have bs := hbn
  clear hbn
  repeat (refine wpE_q (v := ?_) rfl rfl (fun u hu => ?_) ?_; rotate_left 1; (focus (have kp := Bl.ext hu bp (Nat.succ_pos _); have kq := Bl.ext hu bq (Nat.succ_pos _); have ks := Bl.ext hu bs (Nat.succ_pos _); go_simp; (try rfl))); simp only [Act.put, List.setIfInBounds_toArray, List.set_cons_zero, List.set_cons_succ])
  refine wpE_done ?_
  go_wp2_with fail
  refine bodyPost_cells_tmp2 rfl rfl Try.underlying99 rfl (by kernel_rfl) (bl_three bs) rfl rfl ?_
  exact RetFE.of rfl rfl rfl rfl hs7 ht7 HE

end Go.Proofs.Ytlhaepcnhkaclaa

namespace Go.Proofs.Ytlhaepcnhkaclaa
set_option linter.unusedVariables false
open Go Go.RowKit

theorem Nc.wf {w : World} {d : Option Addr} {m k D : Nat} (h : Nc w d m k D) (hb : dl D ≤ 549755813888) : WhIn w false d m k (D : Int) :=
  (h.nu (by omega)).wh (by rw [h.len]; exact hb)
/-- A sum's parts. -/
def az (z : Int) (D : Nat) (z' : Int) (D' : Nat) : Int := if D = D' then z + z' else z * (D' : Int) + z' * (D : Int)
def ad (D D' : Nat) : Nat := if D = D' then D else D * D'

end Go.Proofs.Ytlhaepcnhkaclaa

namespace Go.Proofs.Ytlhaepcnhkaclaa
set_option linter.unusedVariables false
open Go Go.RowKit

theorem RetW.mk {w u : World} {z z' : Int} {b : Bool} {a : Option Addr} {n c : Nat} (hz : z' = z) (hb : b = decide (z < 0)) (h1 : Nc u a n c z.natAbs) (he : Ext w u) : RetW w z' (.returned (.agg #[.bool b, .slice a n c])) u := by
  subst hz; subst hb
  exact ⟨a, n, c, rfl, h1, he⟩

end Go.Proofs.Ytlhaepcnhkaclaa

namespace Go.Proofs.Ytlhaepcnhkaclaa
set_option linter.unusedVariables false
open Go Go.RowKit

theorem dec_len {V N : Nat} (h : dl V ≤ N) : (decD V).length ≤ 10 * N + 1 := by
  have := decD_len' (Ws.dig V) (n := N) h
  rwa [val_dig B32_two] at this
theorem textZ_sz (z : Int) : (textZ z).size ≤ (decD z.natAbs).length + 1 := by
  unfold textZ
  split
  · rw [ByteArray.size_append]; unfold decS; rw [decB_size]; simp [ByteArray.size]; omega
  · unfold decS; rw [decB_size]; omega
/-- A fraction's text. -/
def textF (z : Int) (D : Nat) : ByteArray := if D = 1 then textZ z else textZ z ++ ⟨#[47]⟩ ++ decS D

end Go.Proofs.Ytlhaepcnhkaclaa

namespace Go.Proofs.Ytlhaepcnhkaclaa
set_option linter.unusedVariables false
open Go Go.RowKit

theorem fl_text : textF (-3) 2 = ⟨#[45, 51, 47, 50]⟩ := by
  unfold textF
  rw [if_neg (by decide)]
  have h3 : decS 3 = ⟨#[51]⟩ := by unfold decS; rw [decD_small (by decide)]; rfl
  have h2 : decS 2 = ⟨#[50]⟩ := by unfold decS; rw [decD_small (by decide)]; rfl
  have hz : textZ (-3) = ⟨#[45]⟩ ++ decS 3 := by unfold textZ; rw [if_pos (by decide)]; rfl
  rw [hz, h3, h2]; rfl

end Go.Proofs.Ytlhaepcnhkaclaa

namespace Go.Proofs.Ytlhaepcnhkaclaa
set_option linter.unusedVariables false
open Go Go.RowKit

set_option maxRecDepth 100000 in
set_option maxHeartbeats 4000000 in
theorem g_Mul (neg neg' : Bool) (a d a' d' : Option Addr) (n cap m c n' cap' m' c' : Nat) (z z' : Int) (D D' : Nat) (w : World) (hz : WhIn w neg a n cap z) (hd : Nu w d m c D) (hm : m ≤ 549755813888) (hz' : WhIn w neg' a' n' cap' z') (hd' : Nu w d' m' c' D') (hm' : m' ≤ 549755813888)
    (hb1 : dl z.natAbs ≤ 137438953472) (hb2 : dl D ≤ 137438953472) (hb3 : dl z'.natAbs ≤ 137438953472) (hb4 : dl D' ≤ 137438953472) :
    Calls Try.prog 75 #[.agg #[.bool neg, .slice a n cap, .slice d m c], .agg #[.bool neg', .slice a' n' cap', .slice d' m' c']] w
      (RetF w (rz (pz z D * pz z' D') (pd D * pd D')) (rd (pz z D * pz z' D') (pd D * pd D'))) := by
  have HP1 := hidP (fun u t1 t2 => g_worth neg a d n cap m c z D u t1 t2 hm)
  have HP2 := hidP (fun u t1 t2 => g_worth neg' a' d' n' cap' m' c' z' D' u t1 t2 hm')
  have B1 : Hid (dl (pz z D).natAbs ≤ 137438953473) := hidP (by have := pz_len z D; omega)
  have B2 : Hid (dl (pd D) ≤ 137438953473) := hidP (by have := pd_len D; omega)
  have B3 : Hid (dl (pz z' D').natAbs ≤ 137438953473) := hidP (by have := pz_len z' D'; omega)
  have B4 : Hid (dl (pd D') ≤ 137438953473) := hidP (by have := pd_len D'; omega)
  have HZ := hidP hz; have HD := hidP hd; have HZ' := hidP hz'; have HD' := hidP hd'
  clear hz hd hz' hd' hb1 hb2 hb3 hb4 hm hm'
  have N1 := hidP (pd_ne D); have N2 := hidP (pd_ne D')
  generalize pz z D = Z at *
  generalize pd D = E at *
  generalize pz z' D' = Y at *
  generalize pd D' = F at *
  have Q1 : Hid (dl (Z * Y).natAbs ≤ 549755813888) := hidP (by have := dz_mul Z Y; have := B1.out; have := B3.out; omega)
  have Q2 : Hid (dl (E * F) ≤ 549755813888) := hidP (by have := dl_mul E F; have := B2.out; have := B4.out; omega)
  have Q3 : Hid (pz (Z * Y) (E * F) = Z * Y ∧ pd (E * F) = E * F) := hidP (by
    have := N1.out; have := N2.out
    have h : E * F ≠ 0 := Nat.mul_ne_zero N1.out N2.out
    exact ⟨if_neg h, if_neg h⟩)
  go_enter Try.func75, Try.ntmps75
  go_wp2_with fail
  refine wp_region_plan (R := Ext) (.q 0 (.q 2 (.l 1 (.l 3 (.b 4 (.b 5 .done)))))) (by kernel_rfl) (by kernel_rfl) (by kernel_rfl) (by kernel_rfl) Ext.refl (fun _ _ _ => Ext.trans) ?_
  refine absE (fun x1 hx1 => ?_)
  have hx : Ext w x1 := by rw [hx1]; exact ((((Ext.refl _).alloc _).alloc _).alloc _).drew
  have bp : Bl x1 (w.heap.size) #[.bool neg, .slice a n cap, .slice d m c] := by rw [hx1]; exact (((Bl.new (by simp)).alloc (by simp)).alloc (by simp)).drew
  have fp : Fz x1 (w.heap.size) := by rw [hx1]; exact (((Fz.new (by simp)).alloc (Bl.new (by simp)) (by simp)).alloc ((Bl.new (by simp)).alloc (by simp)) (by simp)).drew
  have bq : Bl x1 (w.heap.size + 1) #[.bool neg', .slice a' n' cap', .slice d' m' c'] := by rw [hx1]; exact ((Bl.new (by simp)).alloc (by simp)).drew
  have fq : Fz x1 (w.heap.size + 1) := by rw [hx1]; exact ((Fz.new (by simp)).alloc (Bl.new (by simp)) (by simp)).drew
  have bs : Bl x1 (w.heap.size + 1 + 1) #[.bool false, .slice none 0 0, .slice none 0 0] := by rw [hx1]; exact (Bl.new (by simp)).drew
  have fs : Fz x1 (w.heap.size + 1 + 1) := by rw [hx1]; exact (Fz.new (by simp)).drew
  have HE := hx
  clear hx
  clear hx1
  repeat (refine wpE_q (v := ?_) rfl rfl (fun u hu => ?_) ?_; rotate_left 1; (focus (have kp := Bl.ext hu bp (Nat.succ_pos _); have kq := Bl.ext hu bq (Nat.succ_pos _); have ks := Bl.ext hu bs (Nat.succ_pos _); go_simp; (try rfl))); simp only [Act.put, List.setIfInBounds_toArray, List.set_cons_zero, List.set_cons_succ])
  refine wpE_l rfl rfl (fun K hK => ?_)
  go_simp
  refine (HP1.out _ (HZ.out.ext HE) (HD.out.ext HE)).mono ?_
  rintro e u1 ⟨b1, a1, n1, c1, d1, m1, k1, rfl, hw1, hu1, hm1, hx⟩
  refine hK.out _ _ hx ?_
  clear hK K
  try simp only [Act.put, List.setIfInBounds_toArray, List.set_cons_zero, List.set_cons_succ]
  replace fp := Fz.ext hx fp bp (Nat.succ_pos _)
  replace bp := Bl.ext hx bp (Nat.succ_pos _)
  replace fq := Fz.ext hx fq bq (Nat.succ_pos _)
  replace bq := Bl.ext hx bq (Nat.succ_pos _)
  replace fs := Fz.ext hx fs bs (Nat.succ_pos _)
  replace bs := Bl.ext hx bs (Nat.succ_pos _)
  replace HE := HE.trans hx
  clear hx
  have HM1 := hidP hm1
  clear hm1
  refine wpE_l rfl rfl (fun K hK => ?_)
  go_simp
  refine (HP2.out _ (HZ'.out.ext HE) (HD'.out.ext HE)).mono ?_
  rintro e u2 ⟨b2, a2, n2, c2, d2, m2, k2, rfl, hw2, hu2, hm2, hx⟩
  refine hK.out _ _ hx ?_
  clear hK K
  try simp only [Act.put, List.setIfInBounds_toArray, List.set_cons_zero, List.set_cons_succ]
  replace fp := Fz.ext hx fp bp (Nat.succ_pos _)
  replace bp := Bl.ext hx bp (Nat.succ_pos _)
  replace fq := Fz.ext hx fq bq (Nat.succ_pos _)
  replace bq := Bl.ext hx bq (Nat.succ_pos _)
  replace fs := Fz.ext hx fs bs (Nat.succ_pos _)
  replace bs := Bl.ext hx bs (Nat.succ_pos _)
  replace hw1 := hw1.ext hx
  replace hu1 := hu1.ext hx
  replace HE := HE.trans hx
  clear hx
  have HM2 := hidP hm2
  clear hm2
  refine wpE_b rfl rfl (fun K hK => ?_)
  go_simp
  refine hK.out _ _ ?_
  clear hK K
  try simp only [Act.put, List.setIfInBounds_toArray, List.set_cons_zero, List.set_cons_succ]
  refine absE (fun x2 hx2 => ?_)
  have hbut : But u2 x2 (w.heap.size) := by rw [hx2]; exact (But.refl _ _).store.store.store
  have hbn : Bl x2 (w.heap.size) #[.bool b1, .slice a1 n1 c1, .slice d1 m1 k1] := by rw [hx2]; exact (Bl.set (Bl.set (Bl.set bp (by simp)) (by simp)) (by simp))
  replace hw1 := hw1.but bp (not_ints3 nb_bool nb_slice nb_slice) hbut
  replace hu1 := hu1.but bp (not_ints3 nb_bool nb_slice nb_slice) hbut
  replace hw2 := hw2.but bp (not_ints3 nb_bool nb_slice nb_slice) hbut
  replace hu2 := hu2.but bp (not_ints3 nb_bool nb_slice nb_slice) hbut
  replace fq := But.fz hbut fq bq (Nat.succ_pos _) (by omega)
  replace bq := But.bl hbut bq (Nat.succ_pos _) (by omega)
  replace fs := But.fz hbut fs bs (Nat.succ_pos _) (by omega)
  replace bs := But.bl hbut bs (Nat.succ_pos _) (by omega)
  replace fp : Fz x2 (w.heap.size) := by rw [hx2]; exact (Fz.set (Fz.set (Fz.set fp)))
  replace HE : Ext w x2 := by rw [hx2]; exact (((HE.store (by show w.heap.size ≤ w.heap.size; omega) _).store (by show w.heap.size ≤ w.heap.size; omega) _).store (by show w.heap.size ≤ w.heap.size; omega) _)
  clear bp hbut hx2
  have bp := hbn
  clear hbn
  refine wpE_b rfl rfl (fun K hK => ?_)
  go_simp
  refine hK.out _ _ ?_
  clear hK K
  try simp only [Act.put, List.setIfInBounds_toArray, List.set_cons_zero, List.set_cons_succ]
  refine absE (fun x3 hx3 => ?_)
  have hbut : But x2 x3 (w.heap.size + 1) := by rw [hx3]; exact (But.refl _ _).store.store.store
  have hbn : Bl x3 (w.heap.size + 1) #[.bool b2, .slice a2 n2 c2, .slice d2 m2 k2] := by rw [hx3]; exact (Bl.set (Bl.set (Bl.set bq (by simp)) (by simp)) (by simp))
  replace hw1 := hw1.but bq (not_ints3 nb_bool nb_slice nb_slice) hbut
  replace hu1 := hu1.but bq (not_ints3 nb_bool nb_slice nb_slice) hbut
  replace hw2 := hw2.but bq (not_ints3 nb_bool nb_slice nb_slice) hbut
  replace hu2 := hu2.but bq (not_ints3 nb_bool nb_slice nb_slice) hbut
  replace fp := But.fz hbut fp bp (Nat.succ_pos _) (by omega)
  replace bp := But.bl hbut bp (Nat.succ_pos _) (by omega)
  replace fs := But.fz hbut fs bs (Nat.succ_pos _) (by omega)
  replace bs := But.bl hbut bs (Nat.succ_pos _) (by omega)
  replace fq : Fz x3 (w.heap.size + 1) := by rw [hx3]; exact (Fz.set (Fz.set (Fz.set fq)))
  replace HE : Ext w x3 := by rw [hx3]; exact (((HE.store (by show w.heap.size ≤ w.heap.size + 1; omega) _).store (by show w.heap.size ≤ w.heap.size + 1; omega) _).store (by show w.heap.size ≤ w.heap.size + 1; omega) _)
  clear bq hbut hx3
  have bq := hbn
  clear hbn
  refine wpE_done ?_
  go_wp2_with fail
  refine wp_region_plan (R := Ext) (.q 0 (.q 1 (.q 2 (.q 3 (.q 5 (.q 6 (.q 7 (.q 8 (.l 4 (.l 9 (.q 10 (.l 11 (.b 12 .done))))))))))))) (by kernel_rfl) (by kernel_rfl) (by kernel_rfl) (by kernel_rfl) Ext.refl (fun _ _ _ => Ext.trans) ?_
  refine absE (fun x4 hx4 => ?_)
  have hx : Ext x3 x4 := by rw [hx4]; exact (Ext.refl _).drew
  replace fp := Fz.ext hx fp bp (Nat.succ_pos _)
  replace bp := Bl.ext hx bp (Nat.succ_pos _)
  replace fq := Fz.ext hx fq bq (Nat.succ_pos _)
  replace bq := Bl.ext hx bq (Nat.succ_pos _)
  replace fs := Fz.ext hx fs bs (Nat.succ_pos _)
  replace bs := Bl.ext hx bs (Nat.succ_pos _)
  replace hw1 := hw1.ext hx
  replace hu1 := hu1.ext hx
  replace hw2 := hw2.ext hx
  replace hu2 := hu2.ext hx
  replace HE := HE.trans hx
  clear hx
  clear hx4
  repeat (refine wpE_q (v := ?_) rfl rfl (fun u hu => ?_) ?_; rotate_left 1; (focus (have kp := Bl.ext hu bp (Nat.succ_pos _); have kq := Bl.ext hu bq (Nat.succ_pos _); have ks := Bl.ext hu bs (Nat.succ_pos _); go_simp; (try rfl))); simp only [Act.put, List.setIfInBounds_toArray, List.set_cons_zero, List.set_cons_succ])
  refine wpE_l rfl rfl (fun K hK => ?_)
  go_simp
  refine (r02_Mul_any b1 b2 a1 a2 n1 c1 n2 c2 Z Y _ hw1 hw2).mono ?_
  rintro e u4 ⟨a4, n4, c4, rfl, hs4, hx⟩
  refine hK.out _ _ hx ?_
  clear hK K
  try simp only [Act.put, List.setIfInBounds_toArray, List.set_cons_zero, List.set_cons_succ]
  replace fp := Fz.ext hx fp bp (Nat.succ_pos _)
  replace bp := Bl.ext hx bp (Nat.succ_pos _)
  replace fq := Fz.ext hx fq bq (Nat.succ_pos _)
  replace bq := Bl.ext hx bq (Nat.succ_pos _)
  replace fs := Fz.ext hx fs bs (Nat.succ_pos _)
  replace bs := Bl.ext hx bs (Nat.succ_pos _)
  replace hw1 := hw1.ext hx
  replace hu1 := hu1.ext hx
  replace hw2 := hw2.ext hx
  replace hu2 := hu2.ext hx
  replace HE := HE.trans hx
  clear hx
  replace hs4 : Nc u4 a4 n4 c4 (Z * Y).natAbs := hs4
  refine wpE_l rfl rfl (fun K hK => ?_)
  go_simp
  refine (d_Mul hu1 hu2).mono ?_
  rintro e u5 ⟨a5, n5, c5, rfl, hs5, hx⟩
  refine hK.out _ _ hx ?_
  clear hK K
  try simp only [Act.put, List.setIfInBounds_toArray, List.set_cons_zero, List.set_cons_succ]
  replace fp := Fz.ext hx fp bp (Nat.succ_pos _)
  replace bp := Bl.ext hx bp (Nat.succ_pos _)
  replace fq := Fz.ext hx fq bq (Nat.succ_pos _)
  replace bq := Bl.ext hx bq (Nat.succ_pos _)
  replace fs := Fz.ext hx fs bs (Nat.succ_pos _)
  replace bs := Bl.ext hx bs (Nat.succ_pos _)
  replace hw1 := hw1.ext hx
  replace hu1 := hu1.ext hx
  replace hw2 := hw2.ext hx
  replace hu2 := hu2.ext hx
  replace hs4 := hs4.ext hx
  replace HE := HE.trans hx
  clear hx
  repeat (refine wpE_q (v := ?_) rfl rfl (fun u hu => ?_) ?_; rotate_left 1; (focus (have kp := Bl.ext hu bp (Nat.succ_pos _); have kq := Bl.ext hu bq (Nat.succ_pos _); have ks := Bl.ext hu bs (Nat.succ_pos _); go_simp; (try rfl))); simp only [Act.put, List.setIfInBounds_toArray, List.set_cons_zero, List.set_cons_succ])
  refine wpE_l rfl rfl (fun K hK => ?_)
  go_simp
  refine (g_Reduce _ a4 a5 n4 c4 n5 c5 (Z * Y) (E * F) _ (hs4.wh Q1.out) (hs5.nu (by have := Q2.out; omega))).mono ?_
  rw [Q3.out.1, Q3.out.2]
  rintro e u6 ⟨a6, n6, c6, d6, m6, k6, rfl, hs6, ht6, hx⟩
  refine hK.out _ _ hx ?_
  clear hK K
  try simp only [Act.put, List.setIfInBounds_toArray, List.set_cons_zero, List.set_cons_succ]
  replace fp := Fz.ext hx fp bp (Nat.succ_pos _)
  replace bp := Bl.ext hx bp (Nat.succ_pos _)
  replace fq := Fz.ext hx fq bq (Nat.succ_pos _)
  replace bq := Bl.ext hx bq (Nat.succ_pos _)
  replace fs := Fz.ext hx fs bs (Nat.succ_pos _)
  replace bs := Bl.ext hx bs (Nat.succ_pos _)
  replace hw1 := hw1.ext hx
  replace hu1 := hu1.ext hx
  replace hw2 := hw2.ext hx
  replace hu2 := hu2.ext hx
  replace hs4 := hs4.ext hx
  replace hs5 := hs5.ext hx
  replace HE := HE.trans hx
  clear hx
  replace hs6 : Nc u6 a6 n6 c6 (rz (Z * Y) (E * F)).natAbs := hs6
  replace ht6 : Nc u6 d6 m6 k6 (rd (Z * Y) (E * F)) := ht6
  refine wpE_b rfl rfl (fun K hK => ?_)
  go_simp
  refine hK.out _ _ ?_
  clear hK K
  try simp only [Act.put, List.setIfInBounds_toArray, List.set_cons_zero, List.set_cons_succ]
  refine absE (fun x5 hx5 => ?_)
  have hbut : But u6 x5 (w.heap.size + 1 + 1) := by rw [hx5]; exact (But.refl _ _).store.store.store
  have hbn : Bl x5 (w.heap.size + 1 + 1) #[(.bool (decide (rz (Z * Y) (E * F) < 0))), .slice a6 n6 c6, .slice d6 m6 k6] := by rw [hx5]; exact (Bl.set (Bl.set (Bl.set bs (by simp)) (by simp)) (by simp))
  replace hw1 := hw1.but bs (not_ints3 nb_bool nb_slice nb_slice) hbut
  replace hu1 := hu1.but bs (not_ints3 nb_bool nb_slice nb_slice) hbut
  replace hw2 := hw2.but bs (not_ints3 nb_bool nb_slice nb_slice) hbut
  replace hu2 := hu2.but bs (not_ints3 nb_bool nb_slice nb_slice) hbut
  replace hs4 := hs4.but bs (not_ints3 nb_bool nb_slice nb_slice) hbut
  replace hs5 := hs5.but bs (not_ints3 nb_bool nb_slice nb_slice) hbut
  replace hs6 := hs6.but bs (not_ints3 nb_bool nb_slice nb_slice) hbut
  replace ht6 := ht6.but bs (not_ints3 nb_bool nb_slice nb_slice) hbut
  replace fp := But.fz hbut fp bp (Nat.succ_pos _) (by omega)
  replace bp := But.bl hbut bp (Nat.succ_pos _) (by omega)
  replace fq := But.fz hbut fq bq (Nat.succ_pos _) (by omega)
  replace bq := But.bl hbut bq (Nat.succ_pos _) (by omega)
  replace fs : Fz x5 (w.heap.size + 1 + 1) := by rw [hx5]; exact (Fz.set (Fz.set (Fz.set fs)))
  replace HE : Ext w x5 := by rw [hx5]; exact (((HE.store (by show w.heap.size ≤ w.heap.size + 1 + 1; omega) _).store (by show w.heap.size ≤ w.heap.size + 1 + 1; omega) _).store (by show w.heap.size ≤ w.heap.size + 1 + 1; omega) _)
  clear bs hbut hx5
  have bs := hbn
  clear hbn
  refine wpE_done ?_
  go_wp2_with fail
  refine bodyPost_cells rfl rfl Try.underlying99 rfl (by kernel_rfl) (bl_three bs) rfl ?_
  exact RetF.of rfl rfl rfl hs6 ht6 HE

end Go.Proofs.Ytlhaepcnhkaclaa

namespace Go.Proofs.Ytlhaepcnhkaclaa
set_option linter.unusedVariables false
open Go Go.RowKit

set_option maxRecDepth 100000 in
set_option maxHeartbeats 4000000 in
theorem g_Add (neg neg' : Bool) (a d a' d' : Option Addr) (n cap m c n' cap' m' c' : Nat) (z z' : Int) (D D' : Nat) (w : World) (hz : WhIn w neg a n cap z) (hd : Nu w d m c D) (hm : m ≤ 549755813888) (hz' : WhIn w neg' a' n' cap' z') (hd' : Nu w d' m' c' D') (hm' : m' ≤ 549755813888)
    (hb1 : dl z.natAbs ≤ 137438953472) (hb2 : dl D ≤ 137438953472) (hb3 : dl z'.natAbs ≤ 137438953472) (hb4 : dl D' ≤ 137438953472) :
    Calls Try.prog 98 #[.agg #[.bool neg, .slice a n cap, .slice d m c], .agg #[.bool neg', .slice a' n' cap', .slice d' m' c']] w
      (RetF w (rz (pz z D * (pd D' : Int) + pz z' D' * (pd D : Int)) (pd D * pd D')) (rd (pz z D * (pd D' : Int) + pz z' D' * (pd D : Int)) (pd D * pd D'))) := by
  have HP1 := hidP (fun u t1 t2 => g_worth neg a d n cap m c z D u t1 t2 hm)
  have HP2 := hidP (fun u t1 t2 => g_worth neg' a' d' n' cap' m' c' z' D' u t1 t2 hm')
  have B1 : Hid (dl (pz z D).natAbs ≤ 137438953473) := hidP (by have := pz_len z D; omega)
  have B2 : Hid (dl (pd D) ≤ 137438953473) := hidP (by have := pd_len D; omega)
  have B3 : Hid (dl (pz z' D').natAbs ≤ 137438953473) := hidP (by have := pz_len z' D'; omega)
  have B4 : Hid (dl (pd D') ≤ 137438953473) := hidP (by have := pd_len D'; omega)
  have HZ := hidP hz; have HD := hidP hd; have HZ' := hidP hz'; have HD' := hidP hd'
  clear hz hd hz' hd' hb1 hb2 hb3 hb4 hm hm'
  have N1 := hidP (pd_ne D); have N2 := hidP (pd_ne D')
  generalize pz z D = Z at *
  generalize pd D = E at *
  generalize pz z' D' = Y at *
  generalize pd D' = F at *
  have Q1 : Hid (dl (Z * (F : Int)).natAbs ≤ 274877906946) := hidP (by have := dz_mul Z (F : Int); have := B1.out; have := B4.out; rw [Int.natAbs_natCast] at *; omega)
  have Q2 : Hid (dl (Y * (E : Int)).natAbs ≤ 274877906946) := hidP (by have := dz_mul Y (E : Int); have := B3.out; have := B2.out; rw [Int.natAbs_natCast] at *; omega)
  have Q4 : Hid (dl (Z * (F : Int) + Y * (E : Int)).natAbs ≤ 549755813888) := hidP (by have := dz_add Q1.out Q2.out; omega)
  have Q5 : Hid (dl (E * F) ≤ 549755813888) := hidP (by have := dl_mul E F; have := B2.out; have := B4.out; omega)
  have Q3 : Hid (pz (Z * (F : Int) + Y * (E : Int)) (E * F) = (Z * (F : Int) + Y * (E : Int)) ∧ pd (E * F) = (E * F)) := hidP (by
    have h : E * F ≠ 0 := Nat.mul_ne_zero N1.out N2.out
    exact ⟨if_neg h, if_neg h⟩)
  go_enter Try.func98, Try.ntmps98
  go_wp2_with fail
  refine wp_region_plan (R := Ext) (.q 0 (.q 2 (.l 1 (.l 3 (.b 4 (.b 5 .done)))))) (by kernel_rfl) (by kernel_rfl) (by kernel_rfl) (by kernel_rfl) Ext.refl (fun _ _ _ => Ext.trans) ?_
  refine absE (fun x1 hx1 => ?_)
  have hx : Ext w x1 := by rw [hx1]; exact ((((Ext.refl _).alloc _).alloc _).alloc _).drew
  have bp : Bl x1 (w.heap.size) #[.bool neg, .slice a n cap, .slice d m c] := by rw [hx1]; exact (((Bl.new (by simp)).alloc (by simp)).alloc (by simp)).drew
  have fp : Fz x1 (w.heap.size) := by rw [hx1]; exact (((Fz.new (by simp)).alloc (Bl.new (by simp)) (by simp)).alloc ((Bl.new (by simp)).alloc (by simp)) (by simp)).drew
  have bq : Bl x1 (w.heap.size + 1) #[.bool neg', .slice a' n' cap', .slice d' m' c'] := by rw [hx1]; exact ((Bl.new (by simp)).alloc (by simp)).drew
  have fq : Fz x1 (w.heap.size + 1) := by rw [hx1]; exact ((Fz.new (by simp)).alloc (Bl.new (by simp)) (by simp)).drew
  have bs : Bl x1 (w.heap.size + 1 + 1) #[.bool false, .slice none 0 0, .slice none 0 0] := by rw [hx1]; exact (Bl.new (by simp)).drew
  have fs : Fz x1 (w.heap.size + 1 + 1) := by rw [hx1]; exact (Fz.new (by simp)).drew
  have HE := hx
  clear hx
  clear hx1
  repeat (refine wpE_q (v := ?_) rfl rfl (fun u hu => ?_) ?_; rotate_left 1; (focus (have kp := Bl.ext hu bp (Nat.succ_pos _); have kq := Bl.ext hu bq (Nat.succ_pos _); have ks := Bl.ext hu bs (Nat.succ_pos _); go_simp; (try rfl))); simp only [Act.put, List.setIfInBounds_toArray, List.set_cons_zero, List.set_cons_succ])
  refine wpE_l rfl rfl (fun K hK => ?_)
  go_simp
  refine (HP1.out _ (HZ.out.ext HE) (HD.out.ext HE)).mono ?_
  rintro e u1 ⟨b1, a1, n1, c1, d1, m1, k1, rfl, hw1, hu1, hm1, hx⟩
  refine hK.out _ _ hx ?_
  clear hK K
  try simp only [Act.put, List.setIfInBounds_toArray, List.set_cons_zero, List.set_cons_succ]
  replace fp := Fz.ext hx fp bp (Nat.succ_pos _)
  replace bp := Bl.ext hx bp (Nat.succ_pos _)
  replace fq := Fz.ext hx fq bq (Nat.succ_pos _)
  replace bq := Bl.ext hx bq (Nat.succ_pos _)
  replace fs := Fz.ext hx fs bs (Nat.succ_pos _)
  replace bs := Bl.ext hx bs (Nat.succ_pos _)
  replace HE := HE.trans hx
  clear hx
  have HM1 := hidP hm1
  clear hm1
  refine wpE_l rfl rfl (fun K hK => ?_)
  go_simp
  refine (HP2.out _ (HZ'.out.ext HE) (HD'.out.ext HE)).mono ?_
  rintro e u2 ⟨b2, a2, n2, c2, d2, m2, k2, rfl, hw2, hu2, hm2, hx⟩
  refine hK.out _ _ hx ?_
  clear hK K
  try simp only [Act.put, List.setIfInBounds_toArray, List.set_cons_zero, List.set_cons_succ]
  replace fp := Fz.ext hx fp bp (Nat.succ_pos _)
  replace bp := Bl.ext hx bp (Nat.succ_pos _)
  replace fq := Fz.ext hx fq bq (Nat.succ_pos _)
  replace bq := Bl.ext hx bq (Nat.succ_pos _)
  replace fs := Fz.ext hx fs bs (Nat.succ_pos _)
  replace bs := Bl.ext hx bs (Nat.succ_pos _)
  replace hw1 := hw1.ext hx
  replace hu1 := hu1.ext hx
  replace HE := HE.trans hx
  clear hx
  have HM2 := hidP hm2
  clear hm2
  refine wpE_b rfl rfl (fun K hK => ?_)
  go_simp
  refine hK.out _ _ ?_
  clear hK K
  try simp only [Act.put, List.setIfInBounds_toArray, List.set_cons_zero, List.set_cons_succ]
  refine absE (fun x2 hx2 => ?_)
  have hbut : But u2 x2 (w.heap.size) := by rw [hx2]; exact (But.refl _ _).store.store.store
  have hbn : Bl x2 (w.heap.size) #[.bool b1, .slice a1 n1 c1, .slice d1 m1 k1] := by rw [hx2]; exact (Bl.set (Bl.set (Bl.set bp (by simp)) (by simp)) (by simp))
  replace hw1 := hw1.but bp (not_ints3 nb_bool nb_slice nb_slice) hbut
  replace hu1 := hu1.but bp (not_ints3 nb_bool nb_slice nb_slice) hbut
  replace hw2 := hw2.but bp (not_ints3 nb_bool nb_slice nb_slice) hbut
  replace hu2 := hu2.but bp (not_ints3 nb_bool nb_slice nb_slice) hbut
  replace fq := But.fz hbut fq bq (Nat.succ_pos _) (by omega)
  replace bq := But.bl hbut bq (Nat.succ_pos _) (by omega)
  replace fs := But.fz hbut fs bs (Nat.succ_pos _) (by omega)
  replace bs := But.bl hbut bs (Nat.succ_pos _) (by omega)
  replace fp : Fz x2 (w.heap.size) := by rw [hx2]; exact (Fz.set (Fz.set (Fz.set fp)))
  replace HE : Ext w x2 := by rw [hx2]; exact (((HE.store (by show w.heap.size ≤ w.heap.size; omega) _).store (by show w.heap.size ≤ w.heap.size; omega) _).store (by show w.heap.size ≤ w.heap.size; omega) _)
  clear bp hbut hx2
  have bp := hbn
  clear hbn
  refine wpE_b rfl rfl (fun K hK => ?_)
  go_simp
  refine hK.out _ _ ?_
  clear hK K
  try simp only [Act.put, List.setIfInBounds_toArray, List.set_cons_zero, List.set_cons_succ]
  refine absE (fun x3 hx3 => ?_)
  have hbut : But x2 x3 (w.heap.size + 1) := by rw [hx3]; exact (But.refl _ _).store.store.store
  have hbn : Bl x3 (w.heap.size + 1) #[.bool b2, .slice a2 n2 c2, .slice d2 m2 k2] := by rw [hx3]; exact (Bl.set (Bl.set (Bl.set bq (by simp)) (by simp)) (by simp))
  replace hw1 := hw1.but bq (not_ints3 nb_bool nb_slice nb_slice) hbut
  replace hu1 := hu1.but bq (not_ints3 nb_bool nb_slice nb_slice) hbut
  replace hw2 := hw2.but bq (not_ints3 nb_bool nb_slice nb_slice) hbut
  replace hu2 := hu2.but bq (not_ints3 nb_bool nb_slice nb_slice) hbut
  replace fp := But.fz hbut fp bp (Nat.succ_pos _) (by omega)
  replace bp := But.bl hbut bp (Nat.succ_pos _) (by omega)
  replace fs := But.fz hbut fs bs (Nat.succ_pos _) (by omega)
  replace bs := But.bl hbut bs (Nat.succ_pos _) (by omega)
  replace fq : Fz x3 (w.heap.size + 1) := by rw [hx3]; exact (Fz.set (Fz.set (Fz.set fq)))
  replace HE : Ext w x3 := by rw [hx3]; exact (((HE.store (by show w.heap.size ≤ w.heap.size + 1; omega) _).store (by show w.heap.size ≤ w.heap.size + 1; omega) _).store (by show w.heap.size ≤ w.heap.size + 1; omega) _)
  clear bq hbut hx3
  have bq := hbn
  clear hbn
  refine wpE_done ?_
  go_wp2_with fail
  refine wp_region_plan (R := Ext) (.q 0 (.q 1 (.q 2 (.q 5 (.q 6 (.q 7 (.q 11 (.q 12 (.q 13 (.q 14 (.l 3 (.l 4 (.l 8 (.l 9 (.l 10 (.l 15 (.q 16 (.l 17 (.b 18 .done))))))))))))))))))) (by kernel_rfl) (by kernel_rfl) (by kernel_rfl) (by kernel_rfl) Ext.refl (fun _ _ _ => Ext.trans) ?_
  refine absE (fun x4 hx4 => ?_)
  have hx : Ext x3 x4 := by rw [hx4]; exact (Ext.refl _).drew
  replace fp := Fz.ext hx fp bp (Nat.succ_pos _)
  replace bp := Bl.ext hx bp (Nat.succ_pos _)
  replace fq := Fz.ext hx fq bq (Nat.succ_pos _)
  replace bq := Bl.ext hx bq (Nat.succ_pos _)
  replace fs := Fz.ext hx fs bs (Nat.succ_pos _)
  replace bs := Bl.ext hx bs (Nat.succ_pos _)
  replace hw1 := hw1.ext hx
  replace hu1 := hu1.ext hx
  replace hw2 := hw2.ext hx
  replace hu2 := hu2.ext hx
  replace HE := HE.trans hx
  clear hx
  clear hx4
  repeat (refine wpE_q (v := ?_) rfl rfl (fun u hu => ?_) ?_; rotate_left 1; (focus (have kp := Bl.ext hu bp (Nat.succ_pos _); have kq := Bl.ext hu bq (Nat.succ_pos _); have ks := Bl.ext hu bs (Nat.succ_pos _); go_simp; (try rfl))); simp only [Act.put, List.setIfInBounds_toArray, List.set_cons_zero, List.set_cons_succ])
  refine wpE_l rfl rfl (fun K hK => ?_)
  go_simp
  refine (g_up b2 a2 d2 n2 c2 m2 k2 _).mono ?_
  rintro e u3 ⟨rfl, hx⟩
  refine hK.out _ _ hx ?_
  clear hK K
  try simp only [Act.put, List.setIfInBounds_toArray, List.set_cons_zero, List.set_cons_succ]
  replace fp := Fz.ext hx fp bp (Nat.succ_pos _)
  replace bp := Bl.ext hx bp (Nat.succ_pos _)
  replace fq := Fz.ext hx fq bq (Nat.succ_pos _)
  replace bq := Bl.ext hx bq (Nat.succ_pos _)
  replace fs := Fz.ext hx fs bs (Nat.succ_pos _)
  replace bs := Bl.ext hx bs (Nat.succ_pos _)
  replace hw1 := hw1.ext hx
  replace hu1 := hu1.ext hx
  replace hw2 := hw2.ext hx
  replace hu2 := hu2.ext hx
  replace HE := HE.trans hx
  clear hx
  refine wpE_l rfl rfl (fun K hK => ?_)
  go_simp
  refine (r02_Mul_any b1 false a1 d2 n1 c1 m2 k2 Z (F : Int) _ hw1 (hu2.wh HM2.out)).mono ?_
  rintro e u4 ⟨a4, n4, c4, rfl, hs4, hx⟩
  refine hK.out _ _ hx ?_
  clear hK K
  try simp only [Act.put, List.setIfInBounds_toArray, List.set_cons_zero, List.set_cons_succ]
  replace fp := Fz.ext hx fp bp (Nat.succ_pos _)
  replace bp := Bl.ext hx bp (Nat.succ_pos _)
  replace fq := Fz.ext hx fq bq (Nat.succ_pos _)
  replace bq := Bl.ext hx bq (Nat.succ_pos _)
  replace fs := Fz.ext hx fs bs (Nat.succ_pos _)
  replace bs := Bl.ext hx bs (Nat.succ_pos _)
  replace hw1 := hw1.ext hx
  replace hu1 := hu1.ext hx
  replace hw2 := hw2.ext hx
  replace hu2 := hu2.ext hx
  replace HE := HE.trans hx
  clear hx
  replace hs4 : Nc u4 a4 n4 c4 (Z * (F : Int)).natAbs := hs4
  refine wpE_l rfl rfl (fun K hK => ?_)
  go_simp
  refine (g_up b1 a1 d1 n1 c1 m1 k1 _).mono ?_
  rintro e u5 ⟨rfl, hx⟩
  refine hK.out _ _ hx ?_
  clear hK K
  try simp only [Act.put, List.setIfInBounds_toArray, List.set_cons_zero, List.set_cons_succ]
  replace fp := Fz.ext hx fp bp (Nat.succ_pos _)
  replace bp := Bl.ext hx bp (Nat.succ_pos _)
  replace fq := Fz.ext hx fq bq (Nat.succ_pos _)
  replace bq := Bl.ext hx bq (Nat.succ_pos _)
  replace fs := Fz.ext hx fs bs (Nat.succ_pos _)
  replace bs := Bl.ext hx bs (Nat.succ_pos _)
  replace hw1 := hw1.ext hx
  replace hu1 := hu1.ext hx
  replace hw2 := hw2.ext hx
  replace hu2 := hu2.ext hx
  replace hs4 := hs4.ext hx
  replace HE := HE.trans hx
  clear hx
  refine wpE_l rfl rfl (fun K hK => ?_)
  go_simp
  refine (r02_Mul_any b2 false a2 d1 n2 c2 m1 k1 Y (E : Int) _ hw2 (hu1.wh HM1.out)).mono ?_
  rintro e u6 ⟨a6, n6, c6, rfl, hs6, hx⟩
  refine hK.out _ _ hx ?_
  clear hK K
  try simp only [Act.put, List.setIfInBounds_toArray, List.set_cons_zero, List.set_cons_succ]
  replace fp := Fz.ext hx fp bp (Nat.succ_pos _)
  replace bp := Bl.ext hx bp (Nat.succ_pos _)
  replace fq := Fz.ext hx fq bq (Nat.succ_pos _)
  replace bq := Bl.ext hx bq (Nat.succ_pos _)
  replace fs := Fz.ext hx fs bs (Nat.succ_pos _)
  replace bs := Bl.ext hx bs (Nat.succ_pos _)
  replace hw1 := hw1.ext hx
  replace hu1 := hu1.ext hx
  replace hw2 := hw2.ext hx
  replace hu2 := hu2.ext hx
  replace hs4 := hs4.ext hx
  replace HE := HE.trans hx
  clear hx
  replace hs6 : Nc u6 a6 n6 c6 (Y * (E : Int)).natAbs := hs6
  refine wpE_l rfl rfl (fun K hK => ?_)
  go_simp
  refine (r02_Add_any _ _ a4 a6 n4 c4 n6 c6 (Z * (F : Int)) (Y * (E : Int)) _ (hs4.wh (by have := Q1.out; omega)) (hs6.wh (by have := Q2.out; omega))).mono ?_
  rintro e u7 ⟨a7, n7, c7, rfl, hs7, hx⟩
  refine hK.out _ _ hx ?_
  clear hK K
  try simp only [Act.put, List.setIfInBounds_toArray, List.set_cons_zero, List.set_cons_succ]
  replace fp := Fz.ext hx fp bp (Nat.succ_pos _)
  replace bp := Bl.ext hx bp (Nat.succ_pos _)
  replace fq := Fz.ext hx fq bq (Nat.succ_pos _)
  replace bq := Bl.ext hx bq (Nat.succ_pos _)
  replace fs := Fz.ext hx fs bs (Nat.succ_pos _)
  replace bs := Bl.ext hx bs (Nat.succ_pos _)
  replace hw1 := hw1.ext hx
  replace hu1 := hu1.ext hx
  replace hw2 := hw2.ext hx
  replace hu2 := hu2.ext hx
  replace hs4 := hs4.ext hx
  replace hs6 := hs6.ext hx
  replace HE := HE.trans hx
  clear hx
  replace hs7 : Nc u7 a7 n7 c7 (Z * (F : Int) + Y * (E : Int)).natAbs := hs7
  refine wpE_l rfl rfl (fun K hK => ?_)
  go_simp
  refine (d_Mul hu1 hu2).mono ?_
  rintro e u8 ⟨a8, n8, c8, rfl, hs8, hx⟩
  refine hK.out _ _ hx ?_
  clear hK K
  try simp only [Act.put, List.setIfInBounds_toArray, List.set_cons_zero, List.set_cons_succ]
  replace fp := Fz.ext hx fp bp (Nat.succ_pos _)
  replace bp := Bl.ext hx bp (Nat.succ_pos _)
  replace fq := Fz.ext hx fq bq (Nat.succ_pos _)
  replace bq := Bl.ext hx bq (Nat.succ_pos _)
  replace fs := Fz.ext hx fs bs (Nat.succ_pos _)
  replace bs := Bl.ext hx bs (Nat.succ_pos _)
  replace hw1 := hw1.ext hx
  replace hu1 := hu1.ext hx
  replace hw2 := hw2.ext hx
  replace hu2 := hu2.ext hx
  replace hs4 := hs4.ext hx
  replace hs6 := hs6.ext hx
  replace hs7 := hs7.ext hx
  replace HE := HE.trans hx
  clear hx
  repeat (refine wpE_q (v := ?_) rfl rfl (fun u hu => ?_) ?_; rotate_left 1; (focus (have kp := Bl.ext hu bp (Nat.succ_pos _); have kq := Bl.ext hu bq (Nat.succ_pos _); have ks := Bl.ext hu bs (Nat.succ_pos _); go_simp; (try rfl))); simp only [Act.put, List.setIfInBounds_toArray, List.set_cons_zero, List.set_cons_succ])
  refine wpE_l rfl rfl (fun K hK => ?_)
  go_simp
  refine (g_Reduce _ a7 a8 n7 c7 n8 c8 (Z * (F : Int) + Y * (E : Int)) (E * F) _ (hs7.wh Q4.out) (hs8.nu (by have := Q5.out; omega))).mono ?_
  rw [Q3.out.1, Q3.out.2]
  rintro e u9 ⟨a9, n9, c9, d9, m9, k9, rfl, hs9, ht9, hx⟩
  refine hK.out _ _ hx ?_
  clear hK K
  try simp only [Act.put, List.setIfInBounds_toArray, List.set_cons_zero, List.set_cons_succ]
  replace fp := Fz.ext hx fp bp (Nat.succ_pos _)
  replace bp := Bl.ext hx bp (Nat.succ_pos _)
  replace fq := Fz.ext hx fq bq (Nat.succ_pos _)
  replace bq := Bl.ext hx bq (Nat.succ_pos _)
  replace fs := Fz.ext hx fs bs (Nat.succ_pos _)
  replace bs := Bl.ext hx bs (Nat.succ_pos _)
  replace hw1 := hw1.ext hx
  replace hu1 := hu1.ext hx
  replace hw2 := hw2.ext hx
  replace hu2 := hu2.ext hx
  replace hs4 := hs4.ext hx
  replace hs6 := hs6.ext hx
  replace hs7 := hs7.ext hx
  replace hs8 := hs8.ext hx
  replace HE := HE.trans hx
  clear hx
  replace hs9 : Nc u9 a9 n9 c9 (rz (Z * (F : Int) + Y * (E : Int)) (E * F)).natAbs := hs9
  replace ht9 : Nc u9 d9 m9 k9 (rd (Z * (F : Int) + Y * (E : Int)) (E * F)) := ht9
  refine wpE_b rfl rfl (fun K hK => ?_)
  go_simp
  refine hK.out _ _ ?_
  clear hK K
  try simp only [Act.put, List.setIfInBounds_toArray, List.set_cons_zero, List.set_cons_succ]
  refine absE (fun x5 hx5 => ?_)
  have hbut : But u9 x5 (w.heap.size + 1 + 1) := by rw [hx5]; exact (But.refl _ _).store.store.store
  have hbn : Bl x5 (w.heap.size + 1 + 1) #[(.bool (decide (rz (Z * (F : Int) + Y * (E : Int)) (E * F) < 0))), .slice a9 n9 c9, .slice d9 m9 k9] := by rw [hx5]; exact (Bl.set (Bl.set (Bl.set bs (by simp)) (by simp)) (by simp))
  replace hw1 := hw1.but bs (not_ints3 nb_bool nb_slice nb_slice) hbut
  replace hu1 := hu1.but bs (not_ints3 nb_bool nb_slice nb_slice) hbut
  replace hw2 := hw2.but bs (not_ints3 nb_bool nb_slice nb_slice) hbut
  replace hu2 := hu2.but bs (not_ints3 nb_bool nb_slice nb_slice) hbut
  replace hs4 := hs4.but bs (not_ints3 nb_bool nb_slice nb_slice) hbut
  replace hs6 := hs6.but bs (not_ints3 nb_bool nb_slice nb_slice) hbut
  replace hs7 := hs7.but bs (not_ints3 nb_bool nb_slice nb_slice) hbut
  replace hs8 := hs8.but bs (not_ints3 nb_bool nb_slice nb_slice) hbut
  replace hs9 := hs9.but bs (not_ints3 nb_bool nb_slice nb_slice) hbut
  replace ht9 := ht9.but bs (not_ints3 nb_bool nb_slice nb_slice) hbut
  replace fp := But.fz hbut fp bp (Nat.succ_pos _) (by omega)
  replace bp := But.bl hbut bp (Nat.succ_pos _) (by omega)
  replace fq := But.fz hbut fq bq (Nat.succ_pos _) (by omega)
  replace bq := But.bl hbut bq (Nat.succ_pos _) (by omega)
  replace fs : Fz x5 (w.heap.size + 1 + 1) := by rw [hx5]; exact (Fz.set (Fz.set (Fz.set fs)))
  replace HE : Ext w x5 := by rw [hx5]; exact (((HE.store (by show w.heap.size ≤ w.heap.size + 1 + 1; omega) _).store (by show w.heap.size ≤ w.heap.size + 1 + 1; omega) _).store (by show w.heap.size ≤ w.heap.size + 1 + 1; omega) _)
  clear bs hbut hx5
  have bs := hbn
  clear hbn
  refine wpE_done ?_
  go_wp2_with fail
  refine bodyPost_cells rfl rfl Try.underlying99 rfl (by kernel_rfl) (bl_three bs) rfl ?_
  exact RetF.of rfl rfl rfl hs9 ht9 HE

end Go.Proofs.Ytlhaepcnhkaclaa

namespace Go.Proofs.Ytlhaepcnhkaclaa
set_option linter.unusedVariables false
open Go Go.RowKit

set_option maxRecDepth 100000 in
set_option maxHeartbeats 4000000 in
theorem g_Neg (neg : Bool) (a d : Option Addr) (n cap m c : Nat) (z : Int) (D : Nat) (w : World) (hz : WhIn w neg a n cap z) (hd : Nu w d m c D) (hm : m ≤ 549755813888)
    (hb1 : dl z.natAbs ≤ 137438953472) (hb2 : dl D ≤ 137438953472) :
    Calls Try.prog 99 #[.agg #[.bool neg, .slice a n cap, .slice d m c]] w
      (RetF w (rz (-pz z D) (pd D)) (rd (-pz z D) (pd D))) := by
  have HP1 := hidP (fun u t1 t2 => g_worth neg a d n cap m c z D u t1 t2 hm)
  have B1 : Hid (dl (pz z D).natAbs ≤ 137438953473) := hidP (by have := pz_len z D; omega)
  have B2 : Hid (dl (pd D) ≤ 137438953473) := hidP (by have := pd_len D; omega)
  have HZ := hidP hz; have HD := hidP hd
  clear hz hd hb1 hb2 hm
  have N1 := hidP (pd_ne D)
  generalize pz z D = Z at *
  generalize pd D = E at *
  have Q1 : Hid (dl (-Z).natAbs ≤ 549755813888) := hidP (by have := B1.out; rw [Int.natAbs_neg]; omega)
  have Q3 : Hid (pz (-Z) E = -Z ∧ pd E = E) := hidP ⟨if_neg N1.out, if_neg N1.out⟩
  have HNG : Hid (∀ b a n c u, WhIn u b a n c Z → Calls Try.prog 123 #[.agg #[.bool b, .slice a n c]] u (RetW u (-Z))) := hidP (fun b a n c u t => r02_Neg_any b a n c Z u t)
  generalize -Z = Y at *
  go_enter Try.func99, Try.ntmps99
  go_wp2_with fail
  refine absC (fun x1 hx1 => ?_)
  have hx : Ext w x1 := by rw [hx1]; exact (((Ext.refl _).alloc _).alloc _)
  have bp : Bl x1 (w.heap.size) #[.bool neg, .slice a n cap, .slice d m c] := by rw [hx1]; exact ((Bl.new (by simp)).alloc (by simp))
  have fp : Fz x1 (w.heap.size) := by rw [hx1]; exact ((Fz.new (by simp)).alloc (Bl.new (by simp)) (by simp))
  have bs : Bl x1 (w.heap.size + 1) #[.bool false, .slice none 0 0, .slice none 0 0] := by rw [hx1]; exact (Bl.new (by simp))
  have fs : Fz x1 (w.heap.size + 1) := by rw [hx1]; exact (Fz.new (by simp))
  have HE := hx
  clear hx
  clear hx1
  refine (HP1.out _ (HZ.out.ext HE) (HD.out.ext HE)).mono ?_
  rintro e u1 ⟨b1, a1, n1, c1, d1, m1, k1, rfl, hw1, hu1, hm1, hx⟩
  replace fp := Fz.ext hx fp bp (Nat.succ_pos _)
  replace bp := Bl.ext hx bp (Nat.succ_pos _)
  replace fs := Fz.ext hx fs bs (Nat.succ_pos _)
  replace bs := Bl.ext hx bs (Nat.succ_pos _)
  replace HE := HE.trans hx
  clear hx
  have HM1 := hidP hm1
  clear hm1
  go_wp2_with fail
  refine absW (fun x2 hx2 => ?_)
  have hbut : But u1 x2 (w.heap.size) := by rw [hx2]; exact (But.refl _ _).store.store.store
  have hbn : Bl x2 (w.heap.size) #[.bool b1, .slice a1 n1 c1, .slice d1 m1 k1] := by rw [hx2]; exact (Bl.set (Bl.set (Bl.set bp (by simp)) (by simp)) (by simp))
  replace hw1 := hw1.but bp (not_ints3 nb_bool nb_slice nb_slice) hbut
  replace hu1 := hu1.but bp (not_ints3 nb_bool nb_slice nb_slice) hbut
  replace fs := But.fz hbut fs bs (Nat.succ_pos _) (by omega)
  replace bs := But.bl hbut bs (Nat.succ_pos _) (by omega)
  replace fp : Fz x2 (w.heap.size) := by rw [hx2]; exact (Fz.set (Fz.set (Fz.set fp)))
  replace HE : Ext w x2 := by rw [hx2]; exact (((HE.store (by show w.heap.size ≤ w.heap.size; omega) _).store (by show w.heap.size ≤ w.heap.size; omega) _).store (by show w.heap.size ≤ w.heap.size; omega) _)
  clear bp hbut hx2
  have bp := hbn
  clear hbn
  refine wp_region_plan (R := Ext) (.q 0 (.q 1 (.q 3 (.q 4 (.l 2 (.q 5 (.l 6 (.b 7 .done)))))))) (by kernel_rfl) (by kernel_rfl) (by kernel_rfl) (by kernel_rfl) Ext.refl (fun _ _ _ => Ext.trans) ?_
  refine absE (fun x3 hx3 => ?_)
  have hx : Ext x2 x3 := by rw [hx3]; exact (Ext.refl _).drew
  replace fp := Fz.ext hx fp bp (Nat.succ_pos _)
  replace bp := Bl.ext hx bp (Nat.succ_pos _)
  replace fs := Fz.ext hx fs bs (Nat.succ_pos _)
  replace bs := Bl.ext hx bs (Nat.succ_pos _)
  replace hw1 := hw1.ext hx
  replace hu1 := hu1.ext hx
  replace HE := HE.trans hx
  clear hx
  clear hx3
  repeat (refine wpE_q (v := ?_) rfl rfl (fun u hu => ?_) ?_; rotate_left 1; (focus (have kp := Bl.ext hu bp (Nat.succ_pos _); have ks := Bl.ext hu bs (Nat.succ_pos _); go_simp; (try rfl))); simp only [Act.put, List.setIfInBounds_toArray, List.set_cons_zero, List.set_cons_succ])
  refine wpE_l rfl rfl (fun K hK => ?_)
  go_simp
  refine (HNG.out b1 a1 n1 c1 _ hw1).mono ?_
  rintro e u2 ⟨a2, n2, c2, rfl, hs2, hx⟩
  refine hK.out _ _ hx ?_
  clear hK K
  try simp only [Act.put, List.setIfInBounds_toArray, List.set_cons_zero, List.set_cons_succ]
  replace fp := Fz.ext hx fp bp (Nat.succ_pos _)
  replace bp := Bl.ext hx bp (Nat.succ_pos _)
  replace fs := Fz.ext hx fs bs (Nat.succ_pos _)
  replace bs := Bl.ext hx bs (Nat.succ_pos _)
  replace hw1 := hw1.ext hx
  replace hu1 := hu1.ext hx
  replace HE := HE.trans hx
  clear hx
  replace hs2 : Nc u2 a2 n2 c2 (Y).natAbs := hs2
  repeat (refine wpE_q (v := ?_) rfl rfl (fun u hu => ?_) ?_; rotate_left 1; (focus (have kp := Bl.ext hu bp (Nat.succ_pos _); have ks := Bl.ext hu bs (Nat.succ_pos _); go_simp; (try rfl))); simp only [Act.put, List.setIfInBounds_toArray, List.set_cons_zero, List.set_cons_succ])
  refine wpE_l rfl rfl (fun K hK => ?_)
  go_simp
  refine (g_Reduce _ a2 d1 n2 c2 m1 k1 Y E _ (hs2.wh Q1.out) hu1).mono ?_
  rw [Q3.out.1, Q3.out.2]
  rintro e u3 ⟨a3, n3, c3, d3, m3, k3, rfl, hs3, ht3, hx⟩
  refine hK.out _ _ hx ?_
  clear hK K
  try simp only [Act.put, List.setIfInBounds_toArray, List.set_cons_zero, List.set_cons_succ]
  replace fp := Fz.ext hx fp bp (Nat.succ_pos _)
  replace bp := Bl.ext hx bp (Nat.succ_pos _)
  replace fs := Fz.ext hx fs bs (Nat.succ_pos _)
  replace bs := Bl.ext hx bs (Nat.succ_pos _)
  replace hw1 := hw1.ext hx
  replace hu1 := hu1.ext hx
  replace hs2 := hs2.ext hx
  replace HE := HE.trans hx
  clear hx
  replace hs3 : Nc u3 a3 n3 c3 (rz Y E).natAbs := hs3
  replace ht3 : Nc u3 d3 m3 k3 (rd Y E) := ht3
  refine wpE_b rfl rfl (fun K hK => ?_)
  go_simp
  refine hK.out _ _ ?_
  clear hK K
  try simp only [Act.put, List.setIfInBounds_toArray, List.set_cons_zero, List.set_cons_succ]
  refine absE (fun x4 hx4 => ?_)
  have hbut : But u3 x4 (w.heap.size + 1) := by rw [hx4]; exact (But.refl _ _).store.store.store
  have hbn : Bl x4 (w.heap.size + 1) #[(.bool (decide (rz Y E < 0))), .slice a3 n3 c3, .slice d3 m3 k3] := by rw [hx4]; exact (Bl.set (Bl.set (Bl.set bs (by simp)) (by simp)) (by simp))
  replace hw1 := hw1.but bs (not_ints3 nb_bool nb_slice nb_slice) hbut
  replace hu1 := hu1.but bs (not_ints3 nb_bool nb_slice nb_slice) hbut
  replace hs2 := hs2.but bs (not_ints3 nb_bool nb_slice nb_slice) hbut
  replace hs3 := hs3.but bs (not_ints3 nb_bool nb_slice nb_slice) hbut
  replace ht3 := ht3.but bs (not_ints3 nb_bool nb_slice nb_slice) hbut
  replace fp := But.fz hbut fp bp (Nat.succ_pos _) (by omega)
  replace bp := But.bl hbut bp (Nat.succ_pos _) (by omega)
  replace fs : Fz x4 (w.heap.size + 1) := by rw [hx4]; exact (Fz.set (Fz.set (Fz.set fs)))
  replace HE : Ext w x4 := by rw [hx4]; exact (((HE.store (by show w.heap.size ≤ w.heap.size + 1; omega) _).store (by show w.heap.size ≤ w.heap.size + 1; omega) _).store (by show w.heap.size ≤ w.heap.size + 1; omega) _)
  clear bs hbut hx4
  have bs := hbn
  clear hbn
  refine wpE_done ?_
  go_wp2_with fail
  refine bodyPost_cells rfl rfl Try.underlying99 rfl (by kernel_rfl) (bl_three bs) rfl ?_
  exact RetF.of rfl rfl rfl hs3 ht3 HE

end Go.Proofs.Ytlhaepcnhkaclaa

namespace Go.Proofs.Ytlhaepcnhkaclaa
set_option linter.unusedVariables false
open Go Go.RowKit

theorem rz_num {z : Int} {D : Nat} (h : D ≠ 0) : rz z D = (mkRat z D).num ∧ rd z D = (mkRat z D).den := by
  rw [Rat.num_mkRat, Rat.den_mkRat, if_neg h, if_neg h, Nat.gcd_comm]
  exact ⟨rfl, rfl⟩
theorem mk_pr (z : Int) (D : Nat) : mkRat (pz z D) (pd D) = mkRat z D := by
  by_cases h : D = 0
  · subst h; simp [pz, pd]
  · have e1 : pz z D = z := if_neg h
    have e2 : pd D = D := if_neg h
    rw [e1, e2]
theorem pr_num (z : Int) (D : Nat) : rz (pz z D) (pd D) = (mkRat z D).num ∧ rd (pz z D) (pd D) = (mkRat z D).den := by
  rw [← mk_pr z D]; exact rz_num (pd_ne D)
theorem mz_div {n d : Int} (h : d ≠ 0) : Rat.divInt n d = mkRat (mz n d) d.natAbs := by
  cases d with
  | ofNat k =>
    have : mz n (Int.ofNat k) = n := by unfold mz; rw [if_neg (by simp)]
    rw [this]; rfl
  | negSucc k =>
    have : mz n (Int.negSucc k) = -n := by unfold mz; rw [if_pos (by omega)]
    rw [this]
    show Rat.normalize (-n) k.succ (Nat.succ_ne_zero k) = _
    rw [Rat.normalize_eq_mkRat]; rfl
theorem mkz_div {n d : Int} (h : d ≠ 0) : mkz n d = (Rat.divInt n d).num ∧ mkd n d = (Rat.divInt n d).den ∧ mke d = 0 := by
  unfold mkz mkd mke
  rw [if_neg h, if_neg h, if_neg h, mz_div h]
  have := rz_num (z := mz n d) (D := d.natAbs) (by omega)
  exact ⟨this.1, this.2, rfl⟩
/-- A quotient across. -/
theorem mk_across {z z' : Int} {D D' : Nat} : Rat.divInt (z * (D' : Int)) (z' * (D : Int)) = mkRat z D / mkRat z' D' := by
  rw [Rat.div_def, ← Rat.divInt_ofNat, ← Rat.divInt_ofNat, Rat.inv_divInt, Rat.divInt_mul_divInt, Int.mul_comm z' (D : Int)]

/-- How many words a rational's parts have. -/
def ql (q : Rat) : Nat := max (dl q.num.natAbs) (dl q.den)
theorem ql_num {q : Rat} {N : Nat} (h : ql q ≤ N) : dl q.num.natAbs ≤ N := Nat.le_trans (Nat.le_max_left _ _) h
theorem ql_den {q : Rat} {N : Nat} (h : ql q ≤ N) : dl q.den ≤ N := Nat.le_trans (Nat.le_max_right _ _) h
theorem dl_one : dl 1 = 1 := by
  have h1 := dl_small (a := 1) (by omega)
  have h2 := dl_pos (V := 1) (by omega)
  omega
theorem ql_mk {z : Int} {D N : Nat} (h1 : dl z.natAbs ≤ N) (h2 : dl D ≤ N) (h0 : 1 ≤ N) : ql (mkRat z D) ≤ N := by
  unfold ql
  rw [Rat.num_mkRat, Rat.den_mkRat]
  refine Nat.max_le.2 ⟨?_, ?_⟩
  · split
    · rw [Int.natAbs_zero, dl_zero]; omega
    · exact Nat.le_trans (dl_mono (Int.natAbs_ediv_le_natAbs _ _)) h1
  · split
    · rw [dl_one]; exact h0
    · exact Nat.le_trans (dl_div _ _) h2
theorem ql_add {q q' : Rat} {N N' : Nat} (h : ql q ≤ N) (h' : ql q' ≤ N') : ql (q + q') ≤ N + N' + 1 := by
  rw [Rat.add_def']
  have a1 := dz_mul q.num (q'.den : Int); have a2 := dz_mul q'.num (q.den : Int)
  rw [Int.natAbs_natCast] at a1 a2
  have b1 := ql_num h; have b2 := ql_den h; have b3 := ql_num h'; have b4 := ql_den h'
  refine ql_mk (dz_add (by omega) (by omega)) ?_ (by omega)
  have := dl_mul q.den q'.den; omega
theorem ql_mul {q q' : Rat} {N N' : Nat} (h : ql q ≤ N) (h' : ql q' ≤ N') (h0 : 1 ≤ N) : ql (q * q') ≤ N + N' := by
  rw [Rat.mul_def']
  have a1 := dz_mul q.num q'.num
  have b1 := ql_num h; have b2 := ql_den h; have b3 := ql_num h'; have b4 := ql_den h'
  refine ql_mk (by omega) ?_ (by omega)
  have := dl_mul q.den q'.den; omega
theorem ql_neg (q : Rat) : ql (-q) = ql q := by unfold ql; rw [Rat.neg_num, Rat.neg_den, Int.natAbs_neg]
theorem ql_sub {q q' : Rat} {N N' : Nat} (h : ql q ≤ N) (h' : ql q' ≤ N') : ql (q - q') ≤ N + N' + 1 := by
  rw [Rat.sub_eq_add_neg]; exact ql_add h (by rw [ql_neg]; exact h')
theorem ql_inv {q : Rat} {N : Nat} (h : ql q ≤ N) (h0 : 1 ≤ N) : ql q⁻¹ ≤ N := by
  unfold ql
  rw [Rat.num_inv, Rat.den_inv]
  have b1 := ql_num h; have b2 := ql_den h
  refine Nat.max_le.2 ⟨?_, ?_⟩
  · rw [Int.natAbs_mul, Int.natAbs_natCast]
    refine Nat.le_trans (dl_mono ?_) b2
    have : q.num.sign.natAbs ≤ 1 := by
      rcases Int.lt_trichotomy q.num 0 with h | h | h
      · rw [Int.sign_eq_neg_one_of_neg h]; decide
      · rw [h]; decide
      · rw [Int.sign_eq_one_of_pos h]; decide
    have := Nat.mul_le_mul_right q.den this
    omega
  · split
    · rw [dl_one]; exact h0
    · exact b1
theorem ql_div {q q' : Rat} {N N' : Nat} (h : ql q ≤ N) (h' : ql q' ≤ N') (h0 : 1 ≤ N) (h1 : 1 ≤ N') : ql (q / q') ≤ N + N' := by
  rw [Rat.div_def]; exact ql_mul h (ql_inv h' h1) h0
theorem ql_int {n : Int} (h1 : -9223372036854775808 ≤ n) (h2 : n ≤ 9223372036854775807) : ql (n : Rat) ≤ 2 := by
  unfold ql
  rw [Rat.num_intCast, Rat.den_intCast, dl_one]
  have := wd_int h1 h2
  omega
theorem ql_floor {q : Rat} {N : Nat} (h : ql q ≤ N) : dl q.floor.natAbs ≤ N := by
  rw [Rat.floor_def]
  exact Nat.le_trans (dl_mono (Int.natAbs_ediv_le_natAbs _ _)) (ql_num h)

/-- A fraction that stands for a rational, in parts of at most so many words. -/
def Fq (w : World) (b : Bool) (a : Option Addr) (n c : Nat) (d : Option Addr) (m k : Nat) (q : Rat) (N : Nat) : Prop :=
  ∃ (z : Int) (D : Nat), WhIn w b a n c z ∧ Nu w d m k D ∧ m ≤ 549755813888 ∧ dl z.natAbs ≤ N ∧ dl D ≤ N ∧ mkRat z D = q
theorem Fq.ext {w u : World} {b : Bool} {a d : Option Addr} {n c m k N : Nat} {q : Rat} (h : Fq w b a n c d m k q N) (he : Ext w u) : Fq u b a n c d m k q N := by
  obtain ⟨z, D, h1, h2, h3, h4, h5, h6⟩ := h
  exact ⟨z, D, h1.ext he, h2.ext he, h3, h4, h5, h6⟩
theorem Fq.but {w u : World} {b : Bool} {a d : Option Addr} {n c m k N g : Nat} {q : Rat} {cs : Array Value} (h : Fq w b a n c d m k q N) (hb : Bl w g cs) (hcs : ∀ (j : Nat) (x : Int), cs[j]? ≠ some (Value.int .u32 x)) (hu : But w u g) : Fq u b a n c d m k q N := by
  obtain ⟨z, D, h1, h2, h3, h4, h5, h6⟩ := h
  exact ⟨z, D, h1.but hb hcs hu, h2.but hb hcs hu, h3, h4, h5, h6⟩
theorem Fq.ql {w : World} {b : Bool} {a d : Option Addr} {n c m k N : Nat} {q : Rat} (h : Fq w b a n c d m k q N) (h0 : 1 ≤ N) : ql q ≤ N := by
  obtain ⟨z, D, h1, h2, h3, h4, h5, rfl⟩ := h
  exact ql_mk h4 h5 h0
/-- What a call handed back, as an argument. -/
theorem fq_of {w : World} {a d : Option Addr} {n c m k N : Nat} {q : Rat} (h1 : Nc w a n c q.num.natAbs) (h2 : Nc w d m k q.den) (h : Go.Proofs.Ytlhaepcnhkaclaa.ql q ≤ N) (hN : N ≤ 549755813888) : Fq w (decide (q.num < 0)) a n c d m k q N := by
  have b1 := ql_num h; have b2 := ql_den h
  refine ⟨q.num, q.den, h1.wh (by omega), h2.nu (by omega), ?_, b1, b2, Rat.mkRat_self q⟩
  rw [h2.len]; omega

section
variable {b b' : Bool} {a d a' d' : Option Addr} {n c m k n' c' m' k' N N' : Nat} {q q' : Rat} {w : World}

theorem gq_Reduce (h : Fq w b a n c d m k q N) : Calls Try.prog 102 #[.agg #[.bool b, .slice a n c, .slice d m k]] w (RetF w q.num q.den) := by
  obtain ⟨z, D, h1, h2, h3, h4, h5, rfl⟩ := h
  rw [← (pr_num z D).1, ← (pr_num z D).2]
  exact g_Reduce b a d n c m k z D w h1 h2
theorem gq_Int (z : Int) (w : World) (h1 : -9223372036854775808 ≤ z) (h2 : z ≤ 9223372036854775807) : Calls Try.prog 76 #[.int .i64 z] w (RetF w (z : Rat).num (z : Rat).den) := g_Int z w h1 h2
theorem gq_Mul (h : Fq w b a n c d m k q N) (h' : Fq w b' a' n' c' d' m' k' q' N') (hN : N ≤ 137438953472) (hN' : N' ≤ 137438953472) :
    Calls Try.prog 75 #[.agg #[.bool b, .slice a n c, .slice d m k], .agg #[.bool b', .slice a' n' c', .slice d' m' k']] w (RetF w (q * q').num (q * q').den) := by
  obtain ⟨z, D, h1, h2, h3, h4, h5, rfl⟩ := h
  obtain ⟨z', D', h1', h2', h3', h4', h5', rfl⟩ := h'
  have e : mkRat z D * mkRat z' D' = mkRat (pz z D * pz z' D') (pd D * pd D') := by
    rw [← mk_pr z D, ← mk_pr z' D', Rat.mkRat_mul_mkRat]
  have h := rz_num (z := pz z D * pz z' D') (D := pd D * pd D') (Nat.mul_ne_zero (pd_ne D) (pd_ne D'))
  rw [e, ← h.1, ← h.2]
  exact g_Mul b b' a d a' d' n c m k n' c' m' k' z z' D D' w h1 h2 h3 h1' h2' h3' (by omega) (by omega) (by omega) (by omega)
theorem gq_Add (h : Fq w b a n c d m k q N) (h' : Fq w b' a' n' c' d' m' k' q' N') (hN : N ≤ 137438953472) (hN' : N' ≤ 137438953472) :
    Calls Try.prog 98 #[.agg #[.bool b, .slice a n c, .slice d m k], .agg #[.bool b', .slice a' n' c', .slice d' m' k']] w (RetF w (q + q').num (q + q').den) := by
  obtain ⟨z, D, h1, h2, h3, h4, h5, rfl⟩ := h
  obtain ⟨z', D', h1', h2', h3', h4', h5', rfl⟩ := h'
  have e : mkRat z D + mkRat z' D' = mkRat (pz z D * (pd D' : Int) + pz z' D' * (pd D : Int)) (pd D * pd D') := by
    rw [← mk_pr z D, ← mk_pr z' D', Rat.mkRat_add_mkRat _ _ (pd_ne D) (pd_ne D')]
  have h := rz_num (z := pz z D * (pd D' : Int) + pz z' D' * (pd D : Int)) (D := pd D * pd D') (Nat.mul_ne_zero (pd_ne D) (pd_ne D'))
  rw [e, ← h.1, ← h.2]
  exact g_Add b b' a d a' d' n c m k n' c' m' k' z z' D D' w h1 h2 h3 h1' h2' h3' (by omega) (by omega) (by omega) (by omega)
theorem gq_Neg (h : Fq w b a n c d m k q N) (hN : N ≤ 137438953472) :
    Calls Try.prog 99 #[.agg #[.bool b, .slice a n c, .slice d m k]] w (RetF w (-q).num (-q).den) := by
  obtain ⟨z, D, h1, h2, h3, h4, h5, rfl⟩ := h
  have e : -mkRat z D = mkRat (-pz z D) (pd D) := by rw [← mk_pr z D, Rat.neg_mkRat]
  have h := rz_num (z := -pz z D) (D := pd D) (pd_ne D)
  rw [e, ← h.1, ← h.2]
  exact g_Neg b a d n c m k z D w h1 h2 h3 (by omega) (by omega)
/-- A quotient, where the divisor isn't 0. -/
theorem mk_quot {z z' : Int} {D D' : Nat} (h0 : mkRat z' D' ≠ 0) : mkz (pz z D * pd D') (pz z' D' * pd D) = (mkRat z D / mkRat z' D').num ∧ mkd (pz z D * pd D') (pz z' D' * pd D) = (mkRat z D / mkRat z' D').den ∧ mke (pz z' D' * pd D) = 0 := by
  rw [← mk_pr z D, ← mk_pr z' D', ← mk_across]
  refine mkz_div ?_
  have h1 : pz z' D' ≠ 0 := fun h => h0 (by rw [← mk_pr, h, Rat.zero_mkRat])
  exact Int.mul_ne_zero h1 (by have := pd_ne D; omega)
theorem mk_quot0 {z z' : Int} {D D' : Nat} (h0 : mkRat z' D' = 0) : mkz (pz z D * pd D') (pz z' D' * pd D) = 0 ∧ mkd (pz z D * pd D') (pz z' D' * pd D) = 0 ∧ mke (pz z' D' * pd D) = 5 := by
  have h1 : pz z' D' = 0 := by
    rw [← mk_pr, Rat.mkRat_eq_zero (pd_ne D')] at h0
    exact h0
  rw [h1, Int.zero_mul]
  exact ⟨if_pos rfl, if_pos rfl, if_pos rfl⟩
theorem gq_Div (h : Fq w b a n c d m k q N) (h' : Fq w b' a' n' c' d' m' k' q' N') (hN : N ≤ 137438953472) (hN' : N' ≤ 137438953472) (h0 : q' ≠ 0) :
    Calls Try.prog 77 #[.agg #[.bool b, .slice a n c, .slice d m k], .agg #[.bool b', .slice a' n' c', .slice d' m' k']] w (RetFE w (q / q').num (q / q').den 0) := by
  obtain ⟨z, D, h1, h2, h3, h4, h5, rfl⟩ := h
  obtain ⟨z', D', h1', h2', h3', h4', h5', rfl⟩ := h'
  have e := mk_quot (z := z) (D := D) h0
  have := g_Div b b' a d a' d' n c m k n' c' m' k' z z' D D' w h1 h2 h3 h1' h2' h3' (by omega) (by omega) (by omega) (by omega)
  rwa [e.1, e.2.1, e.2.2] at this
theorem gq_Div0 (h : Fq w b a n c d m k q N) (h' : Fq w b' a' n' c' d' m' k' q' N') (hN : N ≤ 137438953472) (hN' : N' ≤ 137438953472) (h0 : q' = 0) :
    Calls Try.prog 77 #[.agg #[.bool b, .slice a n c, .slice d m k], .agg #[.bool b', .slice a' n' c', .slice d' m' k']] w (RetFE w 0 0 5) := by
  obtain ⟨z, D, h1, h2, h3, h4, h5, rfl⟩ := h
  obtain ⟨z', D', h1', h2', h3', h4', h5', rfl⟩ := h'
  have e := mk_quot0 (z := z) (D := D) h0
  have := g_Div b b' a d a' d' n c m k n' c' m' k' z z' D D' w h1 h2 h3 h1' h2' h3' (by omega) (by omega) (by omega) (by omega)
  rwa [e.1, e.2.1, e.2.2] at this
theorem gq_worth (h : Fq w b a n c d m k q N) : Calls Try.prog 101 #[.agg #[.bool b, .slice a n c, .slice d m k]] w fun e w' => ∃ b a n c d m k z D, e = .returned (.agg #[.bool b, .slice a n c, .slice d m k]) ∧ WhIn w' b a n c z ∧ Nu w' d m k D ∧ m ≤ 549755813888 ∧ (D ≠ 0 ∧ mkRat z D = q ∧ dl z.natAbs ≤ N ∧ dl D ≤ N + 1) ∧ Ext w w' := by
  obtain ⟨z, D, h1, h2, h3, h4, h5, rfl⟩ := h
  refine (g_worth b a d n c m k z D w h1 h2 h3).mono ?_
  rintro e w' ⟨b1, a1, n1, c1, d1, m1, k1, rfl, hw, hu, hm, hx⟩
  refine ⟨b1, a1, n1, c1, d1, m1, k1, pz z D, pd D, rfl, hw, hu, hm, ⟨pd_ne D, mk_pr z D, ?_, ?_⟩, hx⟩
  · have := pz_len z D; omega
  · have := pd_len D; omega
end
end Go.Proofs.Ytlhaepcnhkaclaa

namespace Go.Proofs.Ytlhaepcnhkaclaa
set_option linter.unusedVariables false
open Go Go.RowKit

theorem Bl.low {n0 : Nat} {w u : World} {g : Nat} {cs : Array Value} (he : Below n0 w u) (h : Bl w g cs) (hl : g < n0) : Bl u g cs := fun j =>
  (Below.cell (p := ⟨g, j, none⟩) he hl).trans (h j)
theorem floor_mk {z : Int} {D : Nat} (h : D ≠ 0) : (mkRat z D).floor = z / (D : Int) := by
  rw [Rat.floor_def]
  have hn := rz_num (z := z) h
  rw [← hn.1, ← hn.2]
  unfold rz rd
  have hg := fg_pos (z := z) h
  have d1 : (fg z D : Int) ∣ z := by
    unfold fg
    exact Int.ofNat_dvd_left.2 (Nat.gcd_dvd_left _ _)
  have d2 : fg z D ∣ D := Nat.gcd_dvd_right _ _
  generalize fg z D = g at *
  obtain ⟨x, rfl⟩ := d1
  obtain ⟨y, rfl⟩ := d2
  rw [Int.mul_ediv_cancel_left _ (by omega), Nat.mul_div_cancel_left _ hg, Int.natCast_mul, Int.mul_ediv_mul_of_pos _ _ (by omega)]
theorem sgn_mk {z : Int} {D : Nat} (h : D ≠ 0) : sgn (mkRat z D).num = sgn z := by
  have hn := rz_num (z := z) h
  rw [← hn.1]
  unfold rz
  have hg := fg_pos (z := z) h
  have d1 : (fg z D : Int) ∣ z := by
    unfold fg
    exact Int.ofNat_dvd_left.2 (Nat.gcd_dvd_left _ _)
  generalize fg z D = g at *
  obtain ⟨x, rfl⟩ := d1
  rw [Int.mul_ediv_cancel_left _ (by omega)]
  have hg' : (0 : Int) < (g : Int) := by omega
  unfold sgn
  rcases Int.lt_trichotomy x 0 with h | h | h
  · have := Int.mul_neg_of_pos_of_neg hg' h
    rw [if_neg (by omega), if_pos h, if_neg (by omega), if_pos this]
  · subst h; simp
  · have := Int.mul_pos hg' h
    rw [if_neg (by omega), if_neg (by omega), if_neg (by omega), if_neg (by omega)]
/-- How two rationals stand. -/
def cmpQ (q q' : Rat) : Int := sgn (q.num * (q'.den : Int) - q'.num * (q.den : Int))
theorem cmpQ_mk {z z' : Int} {D D' : Nat} (h : D ≠ 0) (h' : D' ≠ 0) : sgn (z * (D' : Int) - z' * (D : Int)) = cmpQ (mkRat z D) (mkRat z' D') := by
  unfold cmpQ
  have hn := rz_num (z := z) h
  have hn' := rz_num (z := z') h'
  rw [← hn.1, ← hn.2, ← hn'.1, ← hn'.2]
  unfold rz rd
  have hg := fg_pos (z := z) h
  have hg' := fg_pos (z := z') h'
  have d1 : (fg z D : Int) ∣ z := by unfold fg; exact Int.ofNat_dvd_left.2 (Nat.gcd_dvd_left _ _)
  have d2 : fg z D ∣ D := Nat.gcd_dvd_right _ _
  have d1' : (fg z' D' : Int) ∣ z' := by unfold fg; exact Int.ofNat_dvd_left.2 (Nat.gcd_dvd_left _ _)
  have d2' : fg z' D' ∣ D' := Nat.gcd_dvd_right _ _
  generalize fg z D = g at *
  generalize fg z' D' = g' at *
  obtain ⟨x, rfl⟩ := d1
  obtain ⟨y, rfl⟩ := d2
  obtain ⟨x', rfl⟩ := d1'
  obtain ⟨y', rfl⟩ := d2'
  rw [Int.mul_ediv_cancel_left _ (by omega), Nat.mul_div_cancel_left _ hg, Int.mul_ediv_cancel_left _ (by omega), Nat.mul_div_cancel_left _ hg', Int.natCast_mul, Int.natCast_mul]
  have e : (g : Int) * x * ((g' : Int) * (y' : Int)) - (g' : Int) * x' * ((g : Int) * (y : Int)) = ((g : Int) * (g' : Int)) * (x * (y' : Int) - x' * (y : Int)) := by grind
  rw [e]
  have hp : (0 : Int) < (g : Int) * (g' : Int) := Int.mul_pos (by omega) (by omega)
  generalize (g : Int) * (g' : Int) = G at *
  generalize x * (y' : Int) - x' * (y : Int) = X at *
  unfold sgn
  rcases Int.lt_trichotomy X 0 with h | h | h
  · have := Int.mul_neg_of_pos_of_neg hp h
    rw [if_neg (by omega), if_pos this, if_neg (by omega), if_pos h]
  · subst h; simp
  · have := Int.mul_pos hp h
    rw [if_neg (by omega), if_neg (by omega), if_neg (by omega), if_neg (by omega)]

section
variable {b b' : Bool} {a d a' d' : Option Addr} {n c m k n' c' m' k' N N' : Nat} {q q' : Rat} {w : World}

set_option maxRecDepth 100000 in
set_option maxHeartbeats 4000000 in
theorem gq_Sub (h : Fq w b a n c d m k q N) (h' : Fq w b' a' n' c' d' m' k' q' N') (hN : N ≤ 137438953472) (hN' : N' ≤ 137438953472) (hN1 : 1 ≤ N') :
    Calls Try.prog 73 #[.agg #[.bool b, .slice a n c, .slice d m k], .agg #[.bool b', .slice a' n' c', .slice d' m' k']] w (RetF w (q - q').num (q - q').den) := by
  have H := hidP h; have H' := hidP h'
  have hl := h'.ql hN1
  have hl2 : ql (-q') ≤ 137438953472 := by rw [ql_neg]; omega
  have HL := hidP hl2
  have H1 := hidP (fun (u : World) (t : Fq u b' a' n' c' d' m' k' q' N') => gq_Neg t hN')
  rw [Rat.sub_eq_add_neg]
  generalize -q' = t at *
  have H2 := hidP (fun (u : World) (b2 : Bool) (a2 d2 : Option Addr) (n2 c2 m2 k2 : Nat) (t1 : Fq u b a n c d m k q N) (t2 : Fq u b2 a2 n2 c2 d2 m2 k2 t 137438953472) => gq_Add t1 t2 hN (by omega))
  generalize q + t = r at *
  clear h h' hl hl2 hN hN' hN1
  go_enter Try.func73, Try.ntmps73
  go_wp2_with fail
  refine wp_region_plan (R := Ext) (.q 0 (.q 1 (.l 2 (.l 3 (.b 4 .done))))) (by kernel_rfl) (by kernel_rfl) (by kernel_rfl) (by kernel_rfl) Ext.refl (fun _ _ _ => Ext.trans) ?_
  refine absE (fun x1 hx1 => ?_)
  have hx : Ext w x1 := by rw [hx1]; exact ((((Ext.refl _).alloc _).alloc _).alloc _).drew
  have bp : Bl x1 (w.heap.size) #[.bool b, .slice a n c, .slice d m k] := by rw [hx1]; exact (((Bl.new (by simp)).alloc (by simp)).alloc (by simp)).drew
  have bq : Bl x1 (w.heap.size + 1) #[.bool b', .slice a' n' c', .slice d' m' k'] := by rw [hx1]; exact ((Bl.new (by simp)).alloc (by simp)).drew
  have bs : Bl x1 (w.heap.size + 1 + 1) #[.bool false, .slice none 0 0, .slice none 0 0] := by rw [hx1]; exact (Bl.new (by simp)).drew
  have fs : Fz x1 (w.heap.size + 1 + 1) := by rw [hx1]; exact (Fz.new (by simp)).drew
  have HE := hx
  clear hx
  clear hx1
  repeat (refine wpE_q (v := ?_) rfl rfl (fun u hu => ?_) ?_; rotate_left 1; (focus (have kp := Bl.ext hu bp (Nat.succ_pos _); have kq := Bl.ext hu bq (Nat.succ_pos _); have ks := Bl.ext hu bs (Nat.succ_pos _); go_simp; (try rfl))); simp only [Act.put, List.setIfInBounds_toArray, List.set_cons_zero, List.set_cons_succ])
  refine wpE_l rfl rfl (fun K hK => ?_)
  go_simp
  refine (H1.out _ (H'.out.ext HE)).mono ?_
  rintro e u1 ⟨a1, n1, c1, d1, m1, k1, rfl, hs1, ht1, hx⟩
  refine hK.out _ _ hx ?_
  clear hK K
  try simp only [Act.put, List.setIfInBounds_toArray, List.set_cons_zero, List.set_cons_succ]
  replace bp := Bl.ext hx bp (Nat.succ_pos _)
  replace bq := Bl.ext hx bq (Nat.succ_pos _)
  replace fs := Fz.ext hx fs bs (Nat.succ_pos _)
  replace bs := Bl.ext hx bs (Nat.succ_pos _)
  replace HE := HE.trans hx
  clear hx
  replace hs1 : Nc u1 a1 n1 c1 (t.num).natAbs := hs1
  replace ht1 : Nc u1 d1 m1 k1 (t.den) := ht1
  refine wpE_l rfl rfl (fun K hK => ?_)
  go_simp
  refine (H2.out _ _ _ _ _ _ _ _ (H.out.ext HE) (fq_of hs1 ht1 HL.out (by omega))).mono ?_
  rintro e u2 ⟨a2, n2, c2, d2, m2, k2, rfl, hs2, ht2, hx⟩
  refine hK.out _ _ hx ?_
  clear hK K
  try simp only [Act.put, List.setIfInBounds_toArray, List.set_cons_zero, List.set_cons_succ]
  replace bp := Bl.ext hx bp (Nat.succ_pos _)
  replace bq := Bl.ext hx bq (Nat.succ_pos _)
  replace fs := Fz.ext hx fs bs (Nat.succ_pos _)
  replace bs := Bl.ext hx bs (Nat.succ_pos _)
  replace hs1 := hs1.ext hx
  replace ht1 := ht1.ext hx
  replace HE := HE.trans hx
  clear hx
  replace hs2 : Nc u2 a2 n2 c2 (r.num).natAbs := hs2
  replace ht2 : Nc u2 d2 m2 k2 (r.den) := ht2
  refine wpE_b rfl rfl (fun K hK => ?_)
  go_simp
  refine hK.out _ _ ?_
  clear hK K
  try simp only [Act.put, List.setIfInBounds_toArray, List.set_cons_zero, List.set_cons_succ]
  refine absE (fun x2 hx2 => ?_)
  have hbut : But u2 x2 (w.heap.size + 1 + 1) := by rw [hx2]; exact (But.refl _ _).store.store.store
  have hbn : Bl x2 (w.heap.size + 1 + 1) #[(.bool (decide (r.num < 0))), .slice a2 n2 c2, .slice d2 m2 k2] := by rw [hx2]; exact (Bl.set (Bl.set (Bl.set bs (by simp)) (by simp)) (by simp))
  replace hs1 := hs1.but bs (not_ints3 nb_bool nb_slice nb_slice) hbut
  replace ht1 := ht1.but bs (not_ints3 nb_bool nb_slice nb_slice) hbut
  replace hs2 := hs2.but bs (not_ints3 nb_bool nb_slice nb_slice) hbut
  replace ht2 := ht2.but bs (not_ints3 nb_bool nb_slice nb_slice) hbut
  replace bp := But.bl hbut bp (Nat.succ_pos _) (by omega)
  replace bq := But.bl hbut bq (Nat.succ_pos _) (by omega)
  replace fs : Fz x2 (w.heap.size + 1 + 1) := by rw [hx2]; exact (Fz.set (Fz.set (Fz.set fs)))
  replace HE : Ext w x2 := by rw [hx2]; exact (((HE.store (by show w.heap.size ≤ w.heap.size + 1 + 1; omega) _).store (by show w.heap.size ≤ w.heap.size + 1 + 1; omega) _).store (by show w.heap.size ≤ w.heap.size + 1 + 1; omega) _)
  clear bs hbut hx2
  have bs := hbn
  clear hbn
  refine wpE_done ?_
  go_wp2_with fail
  refine bodyPost_cells rfl rfl Try.underlying99 rfl (by kernel_rfl) (bl_three bs) rfl ?_
  exact RetF.of rfl rfl rfl hs2 ht2 HE

set_option maxRecDepth 100000 in
set_option maxHeartbeats 4000000 in
theorem gq_Half (w : World) : Calls Try.prog 74 #[] w (RetF w (mkRat 1 2).num (mkRat 1 2).den) := by
  have e1 : (mkRat 1 2).num = 1 := by decide
  have e2 : (mkRat 1 2).den = 2 := by decide
  rw [e1, e2]
  clear e1 e2
  go_enter Try.func74, Try.ntmps74
  go_wp2_with fail
  refine absC (fun x1 hx1 => ?_)
  have hx : Ext w x1 := by rw [hx1]; exact ((Ext.refl _).alloc _)
  have bs : Bl x1 (w.heap.size) #[.bool false, .slice none 0 0, .slice none 0 0] := by rw [hx1]; exact (Bl.new (by simp))
  have fs : Fz x1 (w.heap.size) := by rw [hx1]; exact (Fz.new (by simp))
  have HE := hx
  clear hx
  clear hx1
  refine (r02_Of_any 1 _ (by omega) (by omega)).mono ?_
  rintro e u1 ⟨a1, n1, c1, rfl, hs1, hx⟩
  replace fs := Fz.ext hx fs bs (Nat.succ_pos _)
  replace bs := Bl.ext hx bs (Nat.succ_pos _)
  replace HE := HE.trans hx
  clear hx
  replace hs1 : Nc u1 a1 n1 c1 ((1 : Int)).natAbs := hs1
  have lsu := bs.lt (Nat.succ_pos _)
  have lsn : w.heap.size ≠ u1.heap.size := by omega
  go_wp2_with fail
  refine absB (fun ue hue => ?_)
  have hbs : Bl ue (w.heap.size) #[.bool false, .slice a1 n1 c1, .slice (some ⟨u1.heap.size, 0, none⟩) 1 1] := by rw [hue]; exact Bl.alloc (((bs.set (by simp)).set (by simp)).set (by simp)) (by simp)
  have hn1 : Nc ue a1 n1 c1 ((1 : Int)).natAbs := by
    rw [hue]
    exact (hs1.but bs (not_ints3 nb_bool nb_slice nb_slice) ((But.refl _ _).store.store.store)).ext ((Ext.refl _).alloc _)
  have h2 : Nc ue (some ⟨u1.heap.size, 0, none⟩) 1 1 2 := by rw [hue]; exact nc_litAt (by simp) 2 (by omega) (by omega) _
  have heu : Ext w ue := by rw [hue]; exact (((HE.store (by show w.heap.size ≤ w.heap.size; omega) _).store (by show w.heap.size ≤ w.heap.size; omega) _).store (by show w.heap.size ≤ w.heap.size; omega) _).alloc _
  clear hue
  refine bodyPost_cells rfl rfl Try.underlying99 rfl (by kernel_rfl) (bl_three hbs) rfl ?_
  exact RetF.of rfl rfl (by decide) hn1 h2 heu

end
end Go.Proofs.Ytlhaepcnhkaclaa

namespace Go.Proofs.Ytlhaepcnhkaclaa
set_option linter.unusedVariables false
open Go Go.RowKit

theorem pd_len' (D : Nat) : dl (pd D) ≤ max (dl D) 1 := by
  unfold pd
  split
  · rw [dl_one]; exact Nat.le_max_right _ _
  · exact Nat.le_max_left _ _
section
variable {b b' : Bool} {a d a' d' : Option Addr} {n c m k n' c' m' k' N N' : Nat} {q q' : Rat} {w : World}

set_option maxRecDepth 100000 in
set_option maxHeartbeats 4000000 in
theorem gq_Floor (h : Fq w b a n c d m k q N) (hN : N ≤ 137438953472) :
    Calls Try.prog 97 #[.agg #[.bool b, .slice a n c, .slice d m k]] w (RetW w q.floor) := by
  obtain ⟨z, D, hz, hd, hm, hb1, hb2, rfl⟩ := h
  have HP1 := hidP (fun u t1 t2 => g_worth b a d n c m k z D u t1 t2 hm)
  have B1 : Hid (dl (pz z D).natAbs ≤ 137438953472) := hidP (by have := pz_len z D; omega)
  have B2 : Hid (dl (pd D) ≤ 137438953472) := hidP (by have := pd_len' D; omega)
  have hr := floor_mk (z := pz z D) (pd_ne D)
  rw [mk_pr] at hr
  have E0 : Hid (((pd D : Nat) : Int) ≠ 0) := hidP (by have := pd_ne D; omega)
  have HR := hidP hr
  clear hr
  generalize (mkRat z D).floor = rr at *
  have HZ := hidP hz; have HD := hidP hd
  clear hz hd hb1 hb2 hm hN
  generalize pz z D = Z at *
  generalize pd D = E at *
  have hv := fun u b1 a1 n1 c1 b2 a2 n2 c2 (t1 : WhIn u b1 a1 n1 c1 Z) (t2 : WhIn u b2 a2 n2 c2 (E : Int)) => r02_Div_any b1 b2 a1 a2 n1 c1 n2 c2 Z (E : Int) u t1 t2 B1.out (by rw [Int.natAbs_natCast]; have := B2.out; omega)
  unfold RetWD at hv
  rw [← HR.out] at hv
  generalize hqb : decide (rr < 0) = qb at *
  generalize decide (zmod Z (E : Int) < 0) = rb at *
  generalize decide ((E : Int) ≠ 0) = ok at *
  generalize (zmod Z (E : Int)).natAbs = mm at *
  have HV := hidP hv; have HQB := hidP hqb
  clear hv hqb HR B1 B2 E0
  go_enter Try.func97, Try.ntmps97
  go_wp2_with fail
  refine absC (fun x1 hx1 => ?_)
  have hx : Ext w x1 := by rw [hx1]; exact (((Ext.refl _).alloc _).alloc _)
  have bp : Bl x1 (w.heap.size) #[.bool b, .slice a n c, .slice d m k] := by rw [hx1]; exact ((Bl.new (by simp)).alloc (by simp))
  have fp : Fz x1 (w.heap.size) := by rw [hx1]; exact ((Fz.new (by simp)).alloc (Bl.new (by simp)) (by simp))
  have bs : Bl x1 (w.heap.size + 1) #[.bool false, .slice none 0 0] := by rw [hx1]; exact (Bl.new (by simp))
  have fs : Fz x1 (w.heap.size + 1) := by rw [hx1]; exact (Fz.new (by simp))
  have HE := hx
  clear hx
  clear hx1
  refine (HP1.out _ (HZ.out.ext HE) (HD.out.ext HE)).mono ?_
  rintro e u1 ⟨b1, a1, n1, c1, d1, m1, k1, rfl, hw1, hu1, hm1, hx⟩
  replace fp := Fz.ext hx fp bp (Nat.succ_pos _)
  replace bp := Bl.ext hx bp (Nat.succ_pos _)
  replace fs := Fz.ext hx fs bs (Nat.succ_pos _)
  replace bs := Bl.ext hx bs (Nat.succ_pos _)
  replace HE := HE.trans hx
  clear hx
  have HM1 := hidP hm1
  clear hm1
  go_upto_region 2 with fail
  refine absW (fun x2 hx2 => ?_)
  have hbut : But u1 x2 (w.heap.size) := by rw [hx2]; exact (But.refl _ _).store.store.store
  have hbn : Bl x2 (w.heap.size) #[.bool b1, .slice a1 n1 c1, .slice d1 m1 k1] := by rw [hx2]; exact (Bl.set (Bl.set (Bl.set bp (by simp)) (by simp)) (by simp))
  replace hw1 := hw1.but bp (not_ints3 nb_bool nb_slice nb_slice) hbut
  replace hu1 := hu1.but bp (not_ints3 nb_bool nb_slice nb_slice) hbut
  replace fs := But.fz hbut fs bs (Nat.succ_pos _) (by omega)
  replace bs := But.bl hbut bs (Nat.succ_pos _) (by omega)
  replace fp : Fz x2 (w.heap.size) := by rw [hx2]; exact (Fz.set (Fz.set (Fz.set fp)))
  replace HE : Ext w x2 := by rw [hx2]; exact (((HE.store (by show w.heap.size ≤ w.heap.size; omega) _).store (by show w.heap.size ≤ w.heap.size; omega) _).store (by show w.heap.size ≤ w.heap.size; omega) _)
  clear bp hbut hx2
  have bp := hbn
  clear hbn
  have lop := bp.lt (Nat.succ_pos _)
  have los := bs.lt (Nat.succ_pos _)
  have hlo : x2.heap.size ≤ x2.heap.size := Nat.le_refl _
  refine wp_region_plan (R := Below x2.heap.size) (.q 0 (.q 1 (.q 2 (.br 3 (.br 4 (.q 5 (.q 6 (.q 7 (.q 8 (.br 9 (.l 10 (.l 11 (.l 12 (.q 13 .done)))) (.l 10 (.l 9 (.l 11 (.l 12 (.q 13 .done)))))))))) (.br 9 (.br 4 (.q 5 (.q 6 (.q 7 (.q 8 (.l 10 (.l 11 (.l 12 (.q 13 .done)))))))) (.l 10 (.l 4 (.q 5 (.q 6 (.q 7 (.q 8 (.l 11 (.l 12 (.q 13 .done)))))))))) (.l 10 (.br 4 (.q 5 (.q 6 (.q 7 (.q 8 (.l 9 (.l 11 (.l 12 (.q 13 .done)))))))) (.l 9 (.l 4 (.q 5 (.q 6 (.q 7 (.q 8 (.l 11 (.l 12 (.q 13 .done))))))))))))) (.br 9 (.br 3 (.br 4 (.q 5 (.q 6 (.q 7 (.q 8 (.l 10 (.l 11 (.l 12 (.q 13 .done)))))))) (.l 10 (.l 4 (.q 5 (.q 6 (.q 7 (.q 8 (.l 11 (.l 12 (.q 13 .done)))))))))) (.l 10 (.l 3 (.l 4 (.q 5 (.q 6 (.q 7 (.q 8 (.l 11 (.l 12 (.q 13 .done))))))))))) (.l 10 (.br 3 (.br 4 (.q 5 (.q 6 (.q 7 (.q 8 (.l 9 (.l 11 (.l 12 (.q 13 .done)))))))) (.l 9 (.l 4 (.q 5 (.q 6 (.q 7 (.q 8 (.l 11 (.l 12 (.q 13 .done)))))))))) (.l 9 (.l 3 (.l 4 (.q 5 (.q 6 (.q 7 (.q 8 (.l 11 (.l 12 (.q 13 .done))))))))))))))))) (by kernel_rfl) (by kernel_rfl) (by kernel_rfl) (by kernel_rfl) (Below.refl _) (fun _ _ _ => Below.trans) ?_
  refine absE (fun x3 hx3 => ?_)
  have hx : Ext x2 x3 := by rw [hx3]; exact (Ext.refl _).drew
  replace hlo := Nat.le_trans hlo hx.size
  replace fp := Fz.ext hx fp bp (Nat.succ_pos _)
  replace bp := Bl.ext hx bp (Nat.succ_pos _)
  replace fs := Fz.ext hx fs bs (Nat.succ_pos _)
  replace bs := Bl.ext hx bs (Nat.succ_pos _)
  replace hw1 := hw1.ext hx
  replace hu1 := hu1.ext hx
  replace HE := HE.trans hx
  clear hx
  clear hx3
  repeat (refine wpE_q (v := ?_) rfl rfl (fun u hu => ?_) ?_; rotate_left 1; (focus (have kp := Bl.low hu bp lop; have ks := Bl.low hu bs los; go_simp; (try rfl))); simp only [Act.put, List.setIfInBounds_toArray, List.set_cons_zero, List.set_cons_succ])
  refine wpE_br rfl rfl (fun K hK => ?_) ?_
  · go_simp
    refine (g_up b1 a1 d1 n1 c1 m1 k1 _).mono ?_
    rintro e u3 ⟨rfl, hx⟩
    refine hK.out _ _ (Below.mono hx hlo) ?_
    clear hK K
    try simp only [Act.put, List.setIfInBounds_toArray, List.set_cons_zero, List.set_cons_succ]
    replace hlo := Nat.le_trans hlo hx.size
    replace fp := Fz.ext hx fp bp (Nat.succ_pos _)
    replace bp := Bl.ext hx bp (Nat.succ_pos _)
    replace fs := Fz.ext hx fs bs (Nat.succ_pos _)
    replace bs := Bl.ext hx bs (Nat.succ_pos _)
    replace hw1 := hw1.ext hx
    replace hu1 := hu1.ext hx
    replace HE := HE.trans hx
    clear hx
    refine wpE_br rfl rfl (fun K hK => ?_) ?_
    · go_simp
      refine (HV.out _ _ _ _ _ _ _ _ _ hw1 (hu1.wh HM1.out)).mono ?_
      rintro e u4 ⟨a4q, n4q, c4q, a4r, n4r, c4r, rfl, hs4q, hs4r, hx⟩
      refine hK.out _ _ (Below.mono hx hlo) ?_
      clear hK K
      try simp only [Act.put, List.setIfInBounds_toArray, List.set_cons_zero, List.set_cons_succ]
      replace hlo := Nat.le_trans hlo hx.size
      replace fp := Fz.ext hx fp bp (Nat.succ_pos _)
      replace bp := Bl.ext hx bp (Nat.succ_pos _)
      replace fs := Fz.ext hx fs bs (Nat.succ_pos _)
      replace bs := Bl.ext hx bs (Nat.succ_pos _)
      replace hw1 := hw1.ext hx
      replace hu1 := hu1.ext hx
      replace HE := HE.trans hx
      clear hx
      repeat (refine wpE_q (v := ?_) rfl rfl (fun u hu => ?_) ?_; rotate_left 1; (focus (have kp := Bl.low hu bp lop; have ks := Bl.low hu bs los; go_simp; (try rfl))); simp only [Act.put, List.setIfInBounds_toArray, List.set_cons_zero, List.set_cons_succ])
      refine wpE_br rfl rfl (fun K hK => ?_) ?_
      · go_simp
        refine hK.out _ _ ((Below.refl _ _).alloc hlo _) ?_
        clear hK K
        try simp only [Act.put, List.setIfInBounds_toArray, List.set_cons_zero, List.set_cons_succ]
        have gex := hlo
        have lpx := bp.lt (Nat.succ_pos _)
        have lsx := bs.lt (Nat.succ_pos _)
        have l0x := HE.size
        refine absE (fun x4 hx4 => ?_)
        have hx : Ext u4 x4 := by rw [hx4]; exact ((Ext.refl _).alloc _)
        have bx : Bl x4 (u4.heap.size) #[.bool false, .slice none 0 0] := by rw [hx4]; exact (Bl.new (by simp))
        have fx : Fz x4 (u4.heap.size) := by rw [hx4]; exact (Fz.new (by simp))
        replace hlo := Nat.le_trans hlo hx.size
        replace fp := Fz.ext hx fp bp (Nat.succ_pos _)
        replace bp := Bl.ext hx bp (Nat.succ_pos _)
        replace fs := Fz.ext hx fs bs (Nat.succ_pos _)
        replace bs := Bl.ext hx bs (Nat.succ_pos _)
        replace hw1 := hw1.ext hx
        replace hu1 := hu1.ext hx
        replace hs4q := hs4q.ext hx
        replace hs4r := hs4r.ext hx
        replace HE := HE.trans hx
        clear hx
        clear hx4
        refine wpE_l rfl rfl (fun K hK => ?_)
        go_simp
        refine hK.out _ _ ((Below.refl _ _).alloc hlo _) ?_
        clear hK K
        try simp only [Act.put, List.setIfInBounds_toArray, List.set_cons_zero, List.set_cons_succ]
        have gev := hlo
        have lpv := bp.lt (Nat.succ_pos _)
        have lsv := bs.lt (Nat.succ_pos _)
        have lxv := bx.lt (Nat.succ_pos _)
        have l0v := HE.size
        refine absE (fun x5 hx5 => ?_)
        have hx : Ext x4 x5 := by rw [hx5]; exact ((Ext.refl _).alloc _)
        have bv : Bl x5 (x4.heap.size) #[.bool false, .slice none 0 0] := by rw [hx5]; exact (Bl.new (by simp))
        have fv : Fz x5 (x4.heap.size) := by rw [hx5]; exact (Fz.new (by simp))
        replace hlo := Nat.le_trans hlo hx.size
        replace fp := Fz.ext hx fp bp (Nat.succ_pos _)
        replace bp := Bl.ext hx bp (Nat.succ_pos _)
        replace fs := Fz.ext hx fs bs (Nat.succ_pos _)
        replace bs := Bl.ext hx bs (Nat.succ_pos _)
        replace fx := Fz.ext hx fx bx (Nat.succ_pos _)
        replace bx := Bl.ext hx bx (Nat.succ_pos _)
        replace hw1 := hw1.ext hx
        replace hu1 := hu1.ext hx
        replace hs4q := hs4q.ext hx
        replace hs4r := hs4r.ext hx
        replace HE := HE.trans hx
        clear hx
        clear hx5
        refine wpE_l rfl rfl (fun K hK => ?_)
        go_simp
        refine hK.out _ _ (((Below.refl _ _).setCell (by show x2.heap.size ≤ u4.heap.size; omega) _).setCell (by show x2.heap.size ≤ u4.heap.size; omega) _) ?_
        clear hK K
        try simp only [Act.put, List.setIfInBounds_toArray, List.set_cons_zero, List.set_cons_succ]
        refine absE (fun x6 hx6 => ?_)
        have hbut : But x5 x6 (u4.heap.size) := by rw [hx6]; exact (But.refl _ _).store.store
        have hbn : Bl x6 (u4.heap.size) #[.bool qb, .slice a4q n4q c4q] := by rw [hx6]; exact (Bl.set (Bl.set bx (by simp)) (by simp))
        replace hw1 := hw1.but bx (not_ints2 nb_bool nb_slice) hbut
        replace hu1 := hu1.but bx (not_ints2 nb_bool nb_slice) hbut
        replace hs4q := hs4q.but bx (not_ints2 nb_bool nb_slice) hbut
        replace hs4r := hs4r.but bx (not_ints2 nb_bool nb_slice) hbut
        replace fp := But.fz hbut fp bp (Nat.succ_pos _) (by omega)
        replace bp := But.bl hbut bp (Nat.succ_pos _) (by omega)
        replace fs := But.fz hbut fs bs (Nat.succ_pos _) (by omega)
        replace bs := But.bl hbut bs (Nat.succ_pos _) (by omega)
        replace fv := But.fz hbut fv bv (Nat.succ_pos _) (by omega)
        replace bv := But.bl hbut bv (Nat.succ_pos _) (by omega)
        replace fx : Fz x6 (u4.heap.size) := by rw [hx6]; exact (Fz.set (Fz.set fx))
        replace HE : Ext w x6 := by rw [hx6]; exact ((HE.store (by show w.heap.size ≤ u4.heap.size; omega) _).store (by show w.heap.size ≤ u4.heap.size; omega) _)
        replace hlo : x2.heap.size ≤ x6.heap.size := Nat.le_trans hlo hbut.1
        clear bx hbut hx6
        have bx := hbn
        clear hbn
        refine wpE_l rfl rfl (fun K hK => ?_)
        go_simp
        refine hK.out _ _ (((Below.refl _ _).setCell (by show x2.heap.size ≤ x4.heap.size; omega) _).setCell (by show x2.heap.size ≤ x4.heap.size; omega) _) ?_
        clear hK K
        try simp only [Act.put, List.setIfInBounds_toArray, List.set_cons_zero, List.set_cons_succ]
        refine absE (fun x7 hx7 => ?_)
        have hbut : But x6 x7 (x4.heap.size) := by rw [hx7]; exact (But.refl _ _).store.store
        have hbn : Bl x7 (x4.heap.size) #[.bool rb, .slice a4r n4r c4r] := by rw [hx7]; exact (Bl.set (Bl.set bv (by simp)) (by simp))
        replace hw1 := hw1.but bv (not_ints2 nb_bool nb_slice) hbut
        replace hu1 := hu1.but bv (not_ints2 nb_bool nb_slice) hbut
        replace hs4q := hs4q.but bv (not_ints2 nb_bool nb_slice) hbut
        replace hs4r := hs4r.but bv (not_ints2 nb_bool nb_slice) hbut
        replace fp := But.fz hbut fp bp (Nat.succ_pos _) (by omega)
        replace bp := But.bl hbut bp (Nat.succ_pos _) (by omega)
        replace fs := But.fz hbut fs bs (Nat.succ_pos _) (by omega)
        replace bs := But.bl hbut bs (Nat.succ_pos _) (by omega)
        replace fx := But.fz hbut fx bx (Nat.succ_pos _) (by omega)
        replace bx := But.bl hbut bx (Nat.succ_pos _) (by omega)
        replace fv : Fz x7 (x4.heap.size) := by rw [hx7]; exact (Fz.set (Fz.set fv))
        replace HE : Ext w x7 := by rw [hx7]; exact ((HE.store (by show w.heap.size ≤ x4.heap.size; omega) _).store (by show w.heap.size ≤ x4.heap.size; omega) _)
        replace hlo : x2.heap.size ≤ x7.heap.size := Nat.le_trans hlo hbut.1
        clear bv hbut hx7
        have bv := hbn
        clear hbn
        repeat (refine wpE_q (v := ?_) rfl rfl (fun u hu => ?_) ?_; rotate_left 1; (focus (have kp := Bl.low hu bp lop; have ks := Bl.low hu bs los; go_simp; (try rfl))); simp only [Act.put, List.setIfInBounds_toArray, List.set_cons_zero, List.set_cons_succ])
        refine wpE_done ?_
        clear hlo
        go_wp2_with fail
        refine absB (fun ue hue => ?_)
        have hbs : Bl ue (w.heap.size + 1) #[.bool qb, .slice a4q n4q c4q] := by rw [hue]; exact ((bs.set (by simp)).set (by simp))
        have hnc : ∀ {aa : Option Addr} {nn cc VV : Nat}, Nc x7 aa nn cc VV → Nc ue aa nn cc VV := fun h => by
          rw [hue]
          exact h.but bs (not_ints2 nb_bool nb_slice) ((But.refl _ _).store.store)
        have heu : Ext w ue := by rw [hue]; exact (HE.store (by show w.heap.size ≤ w.heap.size + 1; omega) _).store (by show w.heap.size ≤ w.heap.size + 1; omega) _
        clear hue
        refine bodyPost_cells rfl rfl Try.underlying97 rfl (by kernel_rfl) (bl_two hbs) rfl ?_
        exact RetW.mk rfl HQB.out.symm (hnc hs4q) heu
      · refine wpE_l rfl rfl (fun K hK => ?_)
        go_simp
        refine hK.out _ _ ((Below.refl _ _).alloc hlo _) ?_
        clear hK K
        try simp only [Act.put, List.setIfInBounds_toArray, List.set_cons_zero, List.set_cons_succ]
        have gev := hlo
        have lpv := bp.lt (Nat.succ_pos _)
        have lsv := bs.lt (Nat.succ_pos _)
        have l0v := HE.size
        refine absE (fun x4 hx4 => ?_)
        have hx : Ext u4 x4 := by rw [hx4]; exact ((Ext.refl _).alloc _)
        have bv : Bl x4 (u4.heap.size) #[.bool false, .slice none 0 0] := by rw [hx4]; exact (Bl.new (by simp))
        have fv : Fz x4 (u4.heap.size) := by rw [hx4]; exact (Fz.new (by simp))
        replace hlo := Nat.le_trans hlo hx.size
        replace fp := Fz.ext hx fp bp (Nat.succ_pos _)
        replace bp := Bl.ext hx bp (Nat.succ_pos _)
        replace fs := Fz.ext hx fs bs (Nat.succ_pos _)
        replace bs := Bl.ext hx bs (Nat.succ_pos _)
        replace hw1 := hw1.ext hx
        replace hu1 := hu1.ext hx
        replace hs4q := hs4q.ext hx
        replace hs4r := hs4r.ext hx
        replace HE := HE.trans hx
        clear hx
        clear hx4
        refine wpE_l rfl rfl (fun K hK => ?_)
        go_simp
        refine hK.out _ _ ((Below.refl _ _).alloc hlo _) ?_
        clear hK K
        try simp only [Act.put, List.setIfInBounds_toArray, List.set_cons_zero, List.set_cons_succ]
        have gex := hlo
        have lpx := bp.lt (Nat.succ_pos _)
        have lsx := bs.lt (Nat.succ_pos _)
        have lvx := bv.lt (Nat.succ_pos _)
        have l0x := HE.size
        refine absE (fun x5 hx5 => ?_)
        have hx : Ext x4 x5 := by rw [hx5]; exact ((Ext.refl _).alloc _)
        have bx : Bl x5 (x4.heap.size) #[.bool false, .slice none 0 0] := by rw [hx5]; exact (Bl.new (by simp))
        have fx : Fz x5 (x4.heap.size) := by rw [hx5]; exact (Fz.new (by simp))
        replace hlo := Nat.le_trans hlo hx.size
        replace fp := Fz.ext hx fp bp (Nat.succ_pos _)
        replace bp := Bl.ext hx bp (Nat.succ_pos _)
        replace fs := Fz.ext hx fs bs (Nat.succ_pos _)
        replace bs := Bl.ext hx bs (Nat.succ_pos _)
        replace fv := Fz.ext hx fv bv (Nat.succ_pos _)
        replace bv := Bl.ext hx bv (Nat.succ_pos _)
        replace hw1 := hw1.ext hx
        replace hu1 := hu1.ext hx
        replace hs4q := hs4q.ext hx
        replace hs4r := hs4r.ext hx
        replace HE := HE.trans hx
        clear hx
        clear hx5
        refine wpE_l rfl rfl (fun K hK => ?_)
        go_simp
        refine hK.out _ _ (((Below.refl _ _).setCell (by show x2.heap.size ≤ x4.heap.size; omega) _).setCell (by show x2.heap.size ≤ x4.heap.size; omega) _) ?_
        clear hK K
        try simp only [Act.put, List.setIfInBounds_toArray, List.set_cons_zero, List.set_cons_succ]
        refine absE (fun x6 hx6 => ?_)
        have hbut : But x5 x6 (x4.heap.size) := by rw [hx6]; exact (But.refl _ _).store.store
        have hbn : Bl x6 (x4.heap.size) #[.bool qb, .slice a4q n4q c4q] := by rw [hx6]; exact (Bl.set (Bl.set bx (by simp)) (by simp))
        replace hw1 := hw1.but bx (not_ints2 nb_bool nb_slice) hbut
        replace hu1 := hu1.but bx (not_ints2 nb_bool nb_slice) hbut
        replace hs4q := hs4q.but bx (not_ints2 nb_bool nb_slice) hbut
        replace hs4r := hs4r.but bx (not_ints2 nb_bool nb_slice) hbut
        replace fp := But.fz hbut fp bp (Nat.succ_pos _) (by omega)
        replace bp := But.bl hbut bp (Nat.succ_pos _) (by omega)
        replace fs := But.fz hbut fs bs (Nat.succ_pos _) (by omega)
        replace bs := But.bl hbut bs (Nat.succ_pos _) (by omega)
        replace fv := But.fz hbut fv bv (Nat.succ_pos _) (by omega)
        replace bv := But.bl hbut bv (Nat.succ_pos _) (by omega)
        replace fx : Fz x6 (x4.heap.size) := by rw [hx6]; exact (Fz.set (Fz.set fx))
        replace HE : Ext w x6 := by rw [hx6]; exact ((HE.store (by show w.heap.size ≤ x4.heap.size; omega) _).store (by show w.heap.size ≤ x4.heap.size; omega) _)
        replace hlo : x2.heap.size ≤ x6.heap.size := Nat.le_trans hlo hbut.1
        clear bx hbut hx6
        have bx := hbn
        clear hbn
        refine wpE_l rfl rfl (fun K hK => ?_)
        go_simp
        refine hK.out _ _ (((Below.refl _ _).setCell (by show x2.heap.size ≤ u4.heap.size; omega) _).setCell (by show x2.heap.size ≤ u4.heap.size; omega) _) ?_
        clear hK K
        try simp only [Act.put, List.setIfInBounds_toArray, List.set_cons_zero, List.set_cons_succ]
        refine absE (fun x7 hx7 => ?_)
        have hbut : But x6 x7 (u4.heap.size) := by rw [hx7]; exact (But.refl _ _).store.store
        have hbn : Bl x7 (u4.heap.size) #[.bool rb, .slice a4r n4r c4r] := by rw [hx7]; exact (Bl.set (Bl.set bv (by simp)) (by simp))
        replace hw1 := hw1.but bv (not_ints2 nb_bool nb_slice) hbut
        replace hu1 := hu1.but bv (not_ints2 nb_bool nb_slice) hbut
        replace hs4q := hs4q.but bv (not_ints2 nb_bool nb_slice) hbut
        replace hs4r := hs4r.but bv (not_ints2 nb_bool nb_slice) hbut
        replace fp := But.fz hbut fp bp (Nat.succ_pos _) (by omega)
        replace bp := But.bl hbut bp (Nat.succ_pos _) (by omega)
        replace fs := But.fz hbut fs bs (Nat.succ_pos _) (by omega)
        replace bs := But.bl hbut bs (Nat.succ_pos _) (by omega)
        replace fx := But.fz hbut fx bx (Nat.succ_pos _) (by omega)
        replace bx := But.bl hbut bx (Nat.succ_pos _) (by omega)
        replace fv : Fz x7 (u4.heap.size) := by rw [hx7]; exact (Fz.set (Fz.set fv))
        replace HE : Ext w x7 := by rw [hx7]; exact ((HE.store (by show w.heap.size ≤ u4.heap.size; omega) _).store (by show w.heap.size ≤ u4.heap.size; omega) _)
        replace hlo : x2.heap.size ≤ x7.heap.size := Nat.le_trans hlo hbut.1
        clear bv hbut hx7
        have bv := hbn
        clear hbn
        repeat (refine wpE_q (v := ?_) rfl rfl (fun u hu => ?_) ?_; rotate_left 1; (focus (have kp := Bl.low hu bp lop; have ks := Bl.low hu bs los; go_simp; (try rfl))); simp only [Act.put, List.setIfInBounds_toArray, List.set_cons_zero, List.set_cons_succ])
        refine wpE_done ?_
        clear hlo
        go_wp2_with fail
        refine absB (fun ue hue => ?_)
        have hbs : Bl ue (w.heap.size + 1) #[.bool qb, .slice a4q n4q c4q] := by rw [hue]; exact ((bs.set (by simp)).set (by simp))
        have hnc : ∀ {aa : Option Addr} {nn cc VV : Nat}, Nc x7 aa nn cc VV → Nc ue aa nn cc VV := fun h => by
          rw [hue]
          exact h.but bs (not_ints2 nb_bool nb_slice) ((But.refl _ _).store.store)
        have heu : Ext w ue := by rw [hue]; exact (HE.store (by show w.heap.size ≤ w.heap.size + 1; omega) _).store (by show w.heap.size ≤ w.heap.size + 1; omega) _
        clear hue
        refine bodyPost_cells rfl rfl Try.underlying97 rfl (by kernel_rfl) (bl_two hbs) rfl ?_
        exact RetW.mk rfl HQB.out.symm (hnc hs4q) heu
    refine wpE_br rfl rfl (fun K hK => ?_) ?_
    · go_simp
      refine hK.out _ _ ((Below.refl _ _).alloc hlo _) ?_
      clear hK K
      try simp only [Act.put, List.setIfInBounds_toArray, List.set_cons_zero, List.set_cons_succ]
      have gex := hlo
      have lpx := bp.lt (Nat.succ_pos _)
      have lsx := bs.lt (Nat.succ_pos _)
      have l0x := HE.size
      refine absE (fun x4 hx4 => ?_)
      have hx : Ext u3 x4 := by rw [hx4]; exact ((Ext.refl _).alloc _)
      have bx : Bl x4 (u3.heap.size) #[.bool false, .slice none 0 0] := by rw [hx4]; exact (Bl.new (by simp))
      have fx : Fz x4 (u3.heap.size) := by rw [hx4]; exact (Fz.new (by simp))
      replace hlo := Nat.le_trans hlo hx.size
      replace fp := Fz.ext hx fp bp (Nat.succ_pos _)
      replace bp := Bl.ext hx bp (Nat.succ_pos _)
      replace fs := Fz.ext hx fs bs (Nat.succ_pos _)
      replace bs := Bl.ext hx bs (Nat.succ_pos _)
      replace hw1 := hw1.ext hx
      replace hu1 := hu1.ext hx
      replace HE := HE.trans hx
      clear hx
      clear hx4
      refine wpE_br rfl rfl (fun K hK => ?_) ?_
      · go_simp
        refine (HV.out _ _ _ _ _ _ _ _ _ hw1 (hu1.wh HM1.out)).mono ?_
        rintro e u4 ⟨a4q, n4q, c4q, a4r, n4r, c4r, rfl, hs4q, hs4r, hx⟩
        refine hK.out _ _ (Below.mono hx hlo) ?_
        clear hK K
        try simp only [Act.put, List.setIfInBounds_toArray, List.set_cons_zero, List.set_cons_succ]
        replace hlo := Nat.le_trans hlo hx.size
        replace fp := Fz.ext hx fp bp (Nat.succ_pos _)
        replace bp := Bl.ext hx bp (Nat.succ_pos _)
        replace fs := Fz.ext hx fs bs (Nat.succ_pos _)
        replace bs := Bl.ext hx bs (Nat.succ_pos _)
        replace fx := Fz.ext hx fx bx (Nat.succ_pos _)
        replace bx := Bl.ext hx bx (Nat.succ_pos _)
        replace hw1 := hw1.ext hx
        replace hu1 := hu1.ext hx
        replace HE := HE.trans hx
        clear hx
        repeat (refine wpE_q (v := ?_) rfl rfl (fun u hu => ?_) ?_; rotate_left 1; (focus (have kp := Bl.low hu bp lop; have ks := Bl.low hu bs los; go_simp; (try rfl))); simp only [Act.put, List.setIfInBounds_toArray, List.set_cons_zero, List.set_cons_succ])
        refine wpE_l rfl rfl (fun K hK => ?_)
        go_simp
        refine hK.out _ _ ((Below.refl _ _).alloc hlo _) ?_
        clear hK K
        try simp only [Act.put, List.setIfInBounds_toArray, List.set_cons_zero, List.set_cons_succ]
        have gev := hlo
        have lpv := bp.lt (Nat.succ_pos _)
        have lsv := bs.lt (Nat.succ_pos _)
        have lxv := bx.lt (Nat.succ_pos _)
        have l0v := HE.size
        refine absE (fun x5 hx5 => ?_)
        have hx : Ext u4 x5 := by rw [hx5]; exact ((Ext.refl _).alloc _)
        have bv : Bl x5 (u4.heap.size) #[.bool false, .slice none 0 0] := by rw [hx5]; exact (Bl.new (by simp))
        have fv : Fz x5 (u4.heap.size) := by rw [hx5]; exact (Fz.new (by simp))
        replace hlo := Nat.le_trans hlo hx.size
        replace fp := Fz.ext hx fp bp (Nat.succ_pos _)
        replace bp := Bl.ext hx bp (Nat.succ_pos _)
        replace fs := Fz.ext hx fs bs (Nat.succ_pos _)
        replace bs := Bl.ext hx bs (Nat.succ_pos _)
        replace fx := Fz.ext hx fx bx (Nat.succ_pos _)
        replace bx := Bl.ext hx bx (Nat.succ_pos _)
        replace hw1 := hw1.ext hx
        replace hu1 := hu1.ext hx
        replace hs4q := hs4q.ext hx
        replace hs4r := hs4r.ext hx
        replace HE := HE.trans hx
        clear hx
        clear hx5
        refine wpE_l rfl rfl (fun K hK => ?_)
        go_simp
        refine hK.out _ _ (((Below.refl _ _).setCell (by show x2.heap.size ≤ u3.heap.size; omega) _).setCell (by show x2.heap.size ≤ u3.heap.size; omega) _) ?_
        clear hK K
        try simp only [Act.put, List.setIfInBounds_toArray, List.set_cons_zero, List.set_cons_succ]
        refine absE (fun x6 hx6 => ?_)
        have hbut : But x5 x6 (u3.heap.size) := by rw [hx6]; exact (But.refl _ _).store.store
        have hbn : Bl x6 (u3.heap.size) #[.bool qb, .slice a4q n4q c4q] := by rw [hx6]; exact (Bl.set (Bl.set bx (by simp)) (by simp))
        replace hw1 := hw1.but bx (not_ints2 nb_bool nb_slice) hbut
        replace hu1 := hu1.but bx (not_ints2 nb_bool nb_slice) hbut
        replace hs4q := hs4q.but bx (not_ints2 nb_bool nb_slice) hbut
        replace hs4r := hs4r.but bx (not_ints2 nb_bool nb_slice) hbut
        replace fp := But.fz hbut fp bp (Nat.succ_pos _) (by omega)
        replace bp := But.bl hbut bp (Nat.succ_pos _) (by omega)
        replace fs := But.fz hbut fs bs (Nat.succ_pos _) (by omega)
        replace bs := But.bl hbut bs (Nat.succ_pos _) (by omega)
        replace fv := But.fz hbut fv bv (Nat.succ_pos _) (by omega)
        replace bv := But.bl hbut bv (Nat.succ_pos _) (by omega)
        replace fx : Fz x6 (u3.heap.size) := by rw [hx6]; exact (Fz.set (Fz.set fx))
        replace HE : Ext w x6 := by rw [hx6]; exact ((HE.store (by show w.heap.size ≤ u3.heap.size; omega) _).store (by show w.heap.size ≤ u3.heap.size; omega) _)
        replace hlo : x2.heap.size ≤ x6.heap.size := Nat.le_trans hlo hbut.1
        clear bx hbut hx6
        have bx := hbn
        clear hbn
        refine wpE_l rfl rfl (fun K hK => ?_)
        go_simp
        refine hK.out _ _ (((Below.refl _ _).setCell (by show x2.heap.size ≤ u4.heap.size; omega) _).setCell (by show x2.heap.size ≤ u4.heap.size; omega) _) ?_
        clear hK K
        try simp only [Act.put, List.setIfInBounds_toArray, List.set_cons_zero, List.set_cons_succ]
        refine absE (fun x7 hx7 => ?_)
        have hbut : But x6 x7 (u4.heap.size) := by rw [hx7]; exact (But.refl _ _).store.store
        have hbn : Bl x7 (u4.heap.size) #[.bool rb, .slice a4r n4r c4r] := by rw [hx7]; exact (Bl.set (Bl.set bv (by simp)) (by simp))
        replace hw1 := hw1.but bv (not_ints2 nb_bool nb_slice) hbut
        replace hu1 := hu1.but bv (not_ints2 nb_bool nb_slice) hbut
        replace hs4q := hs4q.but bv (not_ints2 nb_bool nb_slice) hbut
        replace hs4r := hs4r.but bv (not_ints2 nb_bool nb_slice) hbut
        replace fp := But.fz hbut fp bp (Nat.succ_pos _) (by omega)
        replace bp := But.bl hbut bp (Nat.succ_pos _) (by omega)
        replace fs := But.fz hbut fs bs (Nat.succ_pos _) (by omega)
        replace bs := But.bl hbut bs (Nat.succ_pos _) (by omega)
        replace fx := But.fz hbut fx bx (Nat.succ_pos _) (by omega)
        replace bx := But.bl hbut bx (Nat.succ_pos _) (by omega)
        replace fv : Fz x7 (u4.heap.size) := by rw [hx7]; exact (Fz.set (Fz.set fv))
        replace HE : Ext w x7 := by rw [hx7]; exact ((HE.store (by show w.heap.size ≤ u4.heap.size; omega) _).store (by show w.heap.size ≤ u4.heap.size; omega) _)
        replace hlo : x2.heap.size ≤ x7.heap.size := Nat.le_trans hlo hbut.1
        clear bv hbut hx7
        have bv := hbn
        clear hbn
        repeat (refine wpE_q (v := ?_) rfl rfl (fun u hu => ?_) ?_; rotate_left 1; (focus (have kp := Bl.low hu bp lop; have ks := Bl.low hu bs los; go_simp; (try rfl))); simp only [Act.put, List.setIfInBounds_toArray, List.set_cons_zero, List.set_cons_succ])
        refine wpE_done ?_
        clear hlo
        go_wp2_with fail
        refine absB (fun ue hue => ?_)
        have hbs : Bl ue (w.heap.size + 1) #[.bool qb, .slice a4q n4q c4q] := by rw [hue]; exact ((bs.set (by simp)).set (by simp))
        have hnc : ∀ {aa : Option Addr} {nn cc VV : Nat}, Nc x7 aa nn cc VV → Nc ue aa nn cc VV := fun h => by
          rw [hue]
          exact h.but bs (not_ints2 nb_bool nb_slice) ((But.refl _ _).store.store)
        have heu : Ext w ue := by rw [hue]; exact (HE.store (by show w.heap.size ≤ w.heap.size + 1; omega) _).store (by show w.heap.size ≤ w.heap.size + 1; omega) _
        clear hue
        refine bodyPost_cells rfl rfl Try.underlying97 rfl (by kernel_rfl) (bl_two hbs) rfl ?_
        exact RetW.mk rfl HQB.out.symm (hnc hs4q) heu
      · refine wpE_l rfl rfl (fun K hK => ?_)
        go_simp
        refine hK.out _ _ ((Below.refl _ _).alloc hlo _) ?_
        clear hK K
        try simp only [Act.put, List.setIfInBounds_toArray, List.set_cons_zero, List.set_cons_succ]
        have gev := hlo
        have lpv := bp.lt (Nat.succ_pos _)
        have lsv := bs.lt (Nat.succ_pos _)
        have lxv := bx.lt (Nat.succ_pos _)
        have l0v := HE.size
        refine absE (fun x5 hx5 => ?_)
        have hx : Ext x4 x5 := by rw [hx5]; exact ((Ext.refl _).alloc _)
        have bv : Bl x5 (x4.heap.size) #[.bool false, .slice none 0 0] := by rw [hx5]; exact (Bl.new (by simp))
        have fv : Fz x5 (x4.heap.size) := by rw [hx5]; exact (Fz.new (by simp))
        replace hlo := Nat.le_trans hlo hx.size
        replace fp := Fz.ext hx fp bp (Nat.succ_pos _)
        replace bp := Bl.ext hx bp (Nat.succ_pos _)
        replace fs := Fz.ext hx fs bs (Nat.succ_pos _)
        replace bs := Bl.ext hx bs (Nat.succ_pos _)
        replace fx := Fz.ext hx fx bx (Nat.succ_pos _)
        replace bx := Bl.ext hx bx (Nat.succ_pos _)
        replace hw1 := hw1.ext hx
        replace hu1 := hu1.ext hx
        replace HE := HE.trans hx
        clear hx
        clear hx5
        refine wpE_l rfl rfl (fun K hK => ?_)
        go_simp
        refine (HV.out _ _ _ _ _ _ _ _ _ hw1 (hu1.wh HM1.out)).mono ?_
        rintro e u4 ⟨a4q, n4q, c4q, a4r, n4r, c4r, rfl, hs4q, hs4r, hx⟩
        refine hK.out _ _ (Below.mono hx hlo) ?_
        clear hK K
        try simp only [Act.put, List.setIfInBounds_toArray, List.set_cons_zero, List.set_cons_succ]
        replace hlo := Nat.le_trans hlo hx.size
        replace fp := Fz.ext hx fp bp (Nat.succ_pos _)
        replace bp := Bl.ext hx bp (Nat.succ_pos _)
        replace fs := Fz.ext hx fs bs (Nat.succ_pos _)
        replace bs := Bl.ext hx bs (Nat.succ_pos _)
        replace fx := Fz.ext hx fx bx (Nat.succ_pos _)
        replace bx := Bl.ext hx bx (Nat.succ_pos _)
        replace fv := Fz.ext hx fv bv (Nat.succ_pos _)
        replace bv := Bl.ext hx bv (Nat.succ_pos _)
        replace hw1 := hw1.ext hx
        replace hu1 := hu1.ext hx
        replace HE := HE.trans hx
        clear hx
        repeat (refine wpE_q (v := ?_) rfl rfl (fun u hu => ?_) ?_; rotate_left 1; (focus (have kp := Bl.low hu bp lop; have ks := Bl.low hu bs los; go_simp; (try rfl))); simp only [Act.put, List.setIfInBounds_toArray, List.set_cons_zero, List.set_cons_succ])
        refine wpE_l rfl rfl (fun K hK => ?_)
        go_simp
        refine hK.out _ _ (((Below.refl _ _).setCell (by show x2.heap.size ≤ u3.heap.size; omega) _).setCell (by show x2.heap.size ≤ u3.heap.size; omega) _) ?_
        clear hK K
        try simp only [Act.put, List.setIfInBounds_toArray, List.set_cons_zero, List.set_cons_succ]
        refine absE (fun x6 hx6 => ?_)
        have hbut : But u4 x6 (u3.heap.size) := by rw [hx6]; exact (But.refl _ _).store.store
        have hbn : Bl x6 (u3.heap.size) #[.bool qb, .slice a4q n4q c4q] := by rw [hx6]; exact (Bl.set (Bl.set bx (by simp)) (by simp))
        replace hw1 := hw1.but bx (not_ints2 nb_bool nb_slice) hbut
        replace hu1 := hu1.but bx (not_ints2 nb_bool nb_slice) hbut
        replace hs4q := hs4q.but bx (not_ints2 nb_bool nb_slice) hbut
        replace hs4r := hs4r.but bx (not_ints2 nb_bool nb_slice) hbut
        replace fp := But.fz hbut fp bp (Nat.succ_pos _) (by omega)
        replace bp := But.bl hbut bp (Nat.succ_pos _) (by omega)
        replace fs := But.fz hbut fs bs (Nat.succ_pos _) (by omega)
        replace bs := But.bl hbut bs (Nat.succ_pos _) (by omega)
        replace fv := But.fz hbut fv bv (Nat.succ_pos _) (by omega)
        replace bv := But.bl hbut bv (Nat.succ_pos _) (by omega)
        replace fx : Fz x6 (u3.heap.size) := by rw [hx6]; exact (Fz.set (Fz.set fx))
        replace HE : Ext w x6 := by rw [hx6]; exact ((HE.store (by show w.heap.size ≤ u3.heap.size; omega) _).store (by show w.heap.size ≤ u3.heap.size; omega) _)
        replace hlo : x2.heap.size ≤ x6.heap.size := Nat.le_trans hlo hbut.1
        clear bx hbut hx6
        have bx := hbn
        clear hbn
        refine wpE_l rfl rfl (fun K hK => ?_)
        go_simp
        refine hK.out _ _ (((Below.refl _ _).setCell (by show x2.heap.size ≤ x4.heap.size; omega) _).setCell (by show x2.heap.size ≤ x4.heap.size; omega) _) ?_
        clear hK K
        try simp only [Act.put, List.setIfInBounds_toArray, List.set_cons_zero, List.set_cons_succ]
        refine absE (fun x7 hx7 => ?_)
        have hbut : But x6 x7 (x4.heap.size) := by rw [hx7]; exact (But.refl _ _).store.store
        have hbn : Bl x7 (x4.heap.size) #[.bool rb, .slice a4r n4r c4r] := by rw [hx7]; exact (Bl.set (Bl.set bv (by simp)) (by simp))
        replace hw1 := hw1.but bv (not_ints2 nb_bool nb_slice) hbut
        replace hu1 := hu1.but bv (not_ints2 nb_bool nb_slice) hbut
        replace hs4q := hs4q.but bv (not_ints2 nb_bool nb_slice) hbut
        replace hs4r := hs4r.but bv (not_ints2 nb_bool nb_slice) hbut
        replace fp := But.fz hbut fp bp (Nat.succ_pos _) (by omega)
        replace bp := But.bl hbut bp (Nat.succ_pos _) (by omega)
        replace fs := But.fz hbut fs bs (Nat.succ_pos _) (by omega)
        replace bs := But.bl hbut bs (Nat.succ_pos _) (by omega)
        replace fx := But.fz hbut fx bx (Nat.succ_pos _) (by omega)
        replace bx := But.bl hbut bx (Nat.succ_pos _) (by omega)
        replace fv : Fz x7 (x4.heap.size) := by rw [hx7]; exact (Fz.set (Fz.set fv))
        replace HE : Ext w x7 := by rw [hx7]; exact ((HE.store (by show w.heap.size ≤ x4.heap.size; omega) _).store (by show w.heap.size ≤ x4.heap.size; omega) _)
        replace hlo : x2.heap.size ≤ x7.heap.size := Nat.le_trans hlo hbut.1
        clear bv hbut hx7
        have bv := hbn
        clear hbn
        repeat (refine wpE_q (v := ?_) rfl rfl (fun u hu => ?_) ?_; rotate_left 1; (focus (have kp := Bl.low hu bp lop; have ks := Bl.low hu bs los; go_simp; (try rfl))); simp only [Act.put, List.setIfInBounds_toArray, List.set_cons_zero, List.set_cons_succ])
        refine wpE_done ?_
        clear hlo
        go_wp2_with fail
        refine absB (fun ue hue => ?_)
        have hbs : Bl ue (w.heap.size + 1) #[.bool qb, .slice a4q n4q c4q] := by rw [hue]; exact ((bs.set (by simp)).set (by simp))
        have hnc : ∀ {aa : Option Addr} {nn cc VV : Nat}, Nc x7 aa nn cc VV → Nc ue aa nn cc VV := fun h => by
          rw [hue]
          exact h.but bs (not_ints2 nb_bool nb_slice) ((But.refl _ _).store.store)
        have heu : Ext w ue := by rw [hue]; exact (HE.store (by show w.heap.size ≤ w.heap.size + 1; omega) _).store (by show w.heap.size ≤ w.heap.size + 1; omega) _
        clear hue
        refine bodyPost_cells rfl rfl Try.underlying97 rfl (by kernel_rfl) (bl_two hbs) rfl ?_
        exact RetW.mk rfl HQB.out.symm (hnc hs4q) heu
    · refine wpE_l rfl rfl (fun K hK => ?_)
      go_simp
      refine hK.out _ _ ((Below.refl _ _).alloc hlo _) ?_
      clear hK K
      try simp only [Act.put, List.setIfInBounds_toArray, List.set_cons_zero, List.set_cons_succ]
      have gev := hlo
      have lpv := bp.lt (Nat.succ_pos _)
      have lsv := bs.lt (Nat.succ_pos _)
      have l0v := HE.size
      refine absE (fun x4 hx4 => ?_)
      have hx : Ext u3 x4 := by rw [hx4]; exact ((Ext.refl _).alloc _)
      have bv : Bl x4 (u3.heap.size) #[.bool false, .slice none 0 0] := by rw [hx4]; exact (Bl.new (by simp))
      have fv : Fz x4 (u3.heap.size) := by rw [hx4]; exact (Fz.new (by simp))
      replace hlo := Nat.le_trans hlo hx.size
      replace fp := Fz.ext hx fp bp (Nat.succ_pos _)
      replace bp := Bl.ext hx bp (Nat.succ_pos _)
      replace fs := Fz.ext hx fs bs (Nat.succ_pos _)
      replace bs := Bl.ext hx bs (Nat.succ_pos _)
      replace hw1 := hw1.ext hx
      replace hu1 := hu1.ext hx
      replace HE := HE.trans hx
      clear hx
      clear hx4
      refine wpE_br rfl rfl (fun K hK => ?_) ?_
      · go_simp
        refine (HV.out _ _ _ _ _ _ _ _ _ hw1 (hu1.wh HM1.out)).mono ?_
        rintro e u4 ⟨a4q, n4q, c4q, a4r, n4r, c4r, rfl, hs4q, hs4r, hx⟩
        refine hK.out _ _ (Below.mono hx hlo) ?_
        clear hK K
        try simp only [Act.put, List.setIfInBounds_toArray, List.set_cons_zero, List.set_cons_succ]
        replace hlo := Nat.le_trans hlo hx.size
        replace fp := Fz.ext hx fp bp (Nat.succ_pos _)
        replace bp := Bl.ext hx bp (Nat.succ_pos _)
        replace fs := Fz.ext hx fs bs (Nat.succ_pos _)
        replace bs := Bl.ext hx bs (Nat.succ_pos _)
        replace fv := Fz.ext hx fv bv (Nat.succ_pos _)
        replace bv := Bl.ext hx bv (Nat.succ_pos _)
        replace hw1 := hw1.ext hx
        replace hu1 := hu1.ext hx
        replace HE := HE.trans hx
        clear hx
        repeat (refine wpE_q (v := ?_) rfl rfl (fun u hu => ?_) ?_; rotate_left 1; (focus (have kp := Bl.low hu bp lop; have ks := Bl.low hu bs los; go_simp; (try rfl))); simp only [Act.put, List.setIfInBounds_toArray, List.set_cons_zero, List.set_cons_succ])
        refine wpE_l rfl rfl (fun K hK => ?_)
        go_simp
        refine hK.out _ _ ((Below.refl _ _).alloc hlo _) ?_
        clear hK K
        try simp only [Act.put, List.setIfInBounds_toArray, List.set_cons_zero, List.set_cons_succ]
        have gex := hlo
        have lpx := bp.lt (Nat.succ_pos _)
        have lsx := bs.lt (Nat.succ_pos _)
        have lvx := bv.lt (Nat.succ_pos _)
        have l0x := HE.size
        refine absE (fun x5 hx5 => ?_)
        have hx : Ext u4 x5 := by rw [hx5]; exact ((Ext.refl _).alloc _)
        have bx : Bl x5 (u4.heap.size) #[.bool false, .slice none 0 0] := by rw [hx5]; exact (Bl.new (by simp))
        have fx : Fz x5 (u4.heap.size) := by rw [hx5]; exact (Fz.new (by simp))
        replace hlo := Nat.le_trans hlo hx.size
        replace fp := Fz.ext hx fp bp (Nat.succ_pos _)
        replace bp := Bl.ext hx bp (Nat.succ_pos _)
        replace fs := Fz.ext hx fs bs (Nat.succ_pos _)
        replace bs := Bl.ext hx bs (Nat.succ_pos _)
        replace fv := Fz.ext hx fv bv (Nat.succ_pos _)
        replace bv := Bl.ext hx bv (Nat.succ_pos _)
        replace hw1 := hw1.ext hx
        replace hu1 := hu1.ext hx
        replace hs4q := hs4q.ext hx
        replace hs4r := hs4r.ext hx
        replace HE := HE.trans hx
        clear hx
        clear hx5
        refine wpE_l rfl rfl (fun K hK => ?_)
        go_simp
        refine hK.out _ _ (((Below.refl _ _).setCell (by show x2.heap.size ≤ u4.heap.size; omega) _).setCell (by show x2.heap.size ≤ u4.heap.size; omega) _) ?_
        clear hK K
        try simp only [Act.put, List.setIfInBounds_toArray, List.set_cons_zero, List.set_cons_succ]
        refine absE (fun x6 hx6 => ?_)
        have hbut : But x5 x6 (u4.heap.size) := by rw [hx6]; exact (But.refl _ _).store.store
        have hbn : Bl x6 (u4.heap.size) #[.bool qb, .slice a4q n4q c4q] := by rw [hx6]; exact (Bl.set (Bl.set bx (by simp)) (by simp))
        replace hw1 := hw1.but bx (not_ints2 nb_bool nb_slice) hbut
        replace hu1 := hu1.but bx (not_ints2 nb_bool nb_slice) hbut
        replace hs4q := hs4q.but bx (not_ints2 nb_bool nb_slice) hbut
        replace hs4r := hs4r.but bx (not_ints2 nb_bool nb_slice) hbut
        replace fp := But.fz hbut fp bp (Nat.succ_pos _) (by omega)
        replace bp := But.bl hbut bp (Nat.succ_pos _) (by omega)
        replace fs := But.fz hbut fs bs (Nat.succ_pos _) (by omega)
        replace bs := But.bl hbut bs (Nat.succ_pos _) (by omega)
        replace fv := But.fz hbut fv bv (Nat.succ_pos _) (by omega)
        replace bv := But.bl hbut bv (Nat.succ_pos _) (by omega)
        replace fx : Fz x6 (u4.heap.size) := by rw [hx6]; exact (Fz.set (Fz.set fx))
        replace HE : Ext w x6 := by rw [hx6]; exact ((HE.store (by show w.heap.size ≤ u4.heap.size; omega) _).store (by show w.heap.size ≤ u4.heap.size; omega) _)
        replace hlo : x2.heap.size ≤ x6.heap.size := Nat.le_trans hlo hbut.1
        clear bx hbut hx6
        have bx := hbn
        clear hbn
        refine wpE_l rfl rfl (fun K hK => ?_)
        go_simp
        refine hK.out _ _ (((Below.refl _ _).setCell (by show x2.heap.size ≤ u3.heap.size; omega) _).setCell (by show x2.heap.size ≤ u3.heap.size; omega) _) ?_
        clear hK K
        try simp only [Act.put, List.setIfInBounds_toArray, List.set_cons_zero, List.set_cons_succ]
        refine absE (fun x7 hx7 => ?_)
        have hbut : But x6 x7 (u3.heap.size) := by rw [hx7]; exact (But.refl _ _).store.store
        have hbn : Bl x7 (u3.heap.size) #[.bool rb, .slice a4r n4r c4r] := by rw [hx7]; exact (Bl.set (Bl.set bv (by simp)) (by simp))
        replace hw1 := hw1.but bv (not_ints2 nb_bool nb_slice) hbut
        replace hu1 := hu1.but bv (not_ints2 nb_bool nb_slice) hbut
        replace hs4q := hs4q.but bv (not_ints2 nb_bool nb_slice) hbut
        replace hs4r := hs4r.but bv (not_ints2 nb_bool nb_slice) hbut
        replace fp := But.fz hbut fp bp (Nat.succ_pos _) (by omega)
        replace bp := But.bl hbut bp (Nat.succ_pos _) (by omega)
        replace fs := But.fz hbut fs bs (Nat.succ_pos _) (by omega)
        replace bs := But.bl hbut bs (Nat.succ_pos _) (by omega)
        replace fx := But.fz hbut fx bx (Nat.succ_pos _) (by omega)
        replace bx := But.bl hbut bx (Nat.succ_pos _) (by omega)
        replace fv : Fz x7 (u3.heap.size) := by rw [hx7]; exact (Fz.set (Fz.set fv))
        replace HE : Ext w x7 := by rw [hx7]; exact ((HE.store (by show w.heap.size ≤ u3.heap.size; omega) _).store (by show w.heap.size ≤ u3.heap.size; omega) _)
        replace hlo : x2.heap.size ≤ x7.heap.size := Nat.le_trans hlo hbut.1
        clear bv hbut hx7
        have bv := hbn
        clear hbn
        repeat (refine wpE_q (v := ?_) rfl rfl (fun u hu => ?_) ?_; rotate_left 1; (focus (have kp := Bl.low hu bp lop; have ks := Bl.low hu bs los; go_simp; (try rfl))); simp only [Act.put, List.setIfInBounds_toArray, List.set_cons_zero, List.set_cons_succ])
        refine wpE_done ?_
        clear hlo
        go_wp2_with fail
        refine absB (fun ue hue => ?_)
        have hbs : Bl ue (w.heap.size + 1) #[.bool qb, .slice a4q n4q c4q] := by rw [hue]; exact ((bs.set (by simp)).set (by simp))
        have hnc : ∀ {aa : Option Addr} {nn cc VV : Nat}, Nc x7 aa nn cc VV → Nc ue aa nn cc VV := fun h => by
          rw [hue]
          exact h.but bs (not_ints2 nb_bool nb_slice) ((But.refl _ _).store.store)
        have heu : Ext w ue := by rw [hue]; exact (HE.store (by show w.heap.size ≤ w.heap.size + 1; omega) _).store (by show w.heap.size ≤ w.heap.size + 1; omega) _
        clear hue
        refine bodyPost_cells rfl rfl Try.underlying97 rfl (by kernel_rfl) (bl_two hbs) rfl ?_
        exact RetW.mk rfl HQB.out.symm (hnc hs4q) heu
      · refine wpE_l rfl rfl (fun K hK => ?_)
        go_simp
        refine hK.out _ _ ((Below.refl _ _).alloc hlo _) ?_
        clear hK K
        try simp only [Act.put, List.setIfInBounds_toArray, List.set_cons_zero, List.set_cons_succ]
        have gex := hlo
        have lpx := bp.lt (Nat.succ_pos _)
        have lsx := bs.lt (Nat.succ_pos _)
        have lvx := bv.lt (Nat.succ_pos _)
        have l0x := HE.size
        refine absE (fun x5 hx5 => ?_)
        have hx : Ext x4 x5 := by rw [hx5]; exact ((Ext.refl _).alloc _)
        have bx : Bl x5 (x4.heap.size) #[.bool false, .slice none 0 0] := by rw [hx5]; exact (Bl.new (by simp))
        have fx : Fz x5 (x4.heap.size) := by rw [hx5]; exact (Fz.new (by simp))
        replace hlo := Nat.le_trans hlo hx.size
        replace fp := Fz.ext hx fp bp (Nat.succ_pos _)
        replace bp := Bl.ext hx bp (Nat.succ_pos _)
        replace fs := Fz.ext hx fs bs (Nat.succ_pos _)
        replace bs := Bl.ext hx bs (Nat.succ_pos _)
        replace fv := Fz.ext hx fv bv (Nat.succ_pos _)
        replace bv := Bl.ext hx bv (Nat.succ_pos _)
        replace hw1 := hw1.ext hx
        replace hu1 := hu1.ext hx
        replace HE := HE.trans hx
        clear hx
        clear hx5
        refine wpE_l rfl rfl (fun K hK => ?_)
        go_simp
        refine (HV.out _ _ _ _ _ _ _ _ _ hw1 (hu1.wh HM1.out)).mono ?_
        rintro e u4 ⟨a4q, n4q, c4q, a4r, n4r, c4r, rfl, hs4q, hs4r, hx⟩
        refine hK.out _ _ (Below.mono hx hlo) ?_
        clear hK K
        try simp only [Act.put, List.setIfInBounds_toArray, List.set_cons_zero, List.set_cons_succ]
        replace hlo := Nat.le_trans hlo hx.size
        replace fp := Fz.ext hx fp bp (Nat.succ_pos _)
        replace bp := Bl.ext hx bp (Nat.succ_pos _)
        replace fs := Fz.ext hx fs bs (Nat.succ_pos _)
        replace bs := Bl.ext hx bs (Nat.succ_pos _)
        replace fv := Fz.ext hx fv bv (Nat.succ_pos _)
        replace bv := Bl.ext hx bv (Nat.succ_pos _)
        replace fx := Fz.ext hx fx bx (Nat.succ_pos _)
        replace bx := Bl.ext hx bx (Nat.succ_pos _)
        replace hw1 := hw1.ext hx
        replace hu1 := hu1.ext hx
        replace HE := HE.trans hx
        clear hx
        repeat (refine wpE_q (v := ?_) rfl rfl (fun u hu => ?_) ?_; rotate_left 1; (focus (have kp := Bl.low hu bp lop; have ks := Bl.low hu bs los; go_simp; (try rfl))); simp only [Act.put, List.setIfInBounds_toArray, List.set_cons_zero, List.set_cons_succ])
        refine wpE_l rfl rfl (fun K hK => ?_)
        go_simp
        refine hK.out _ _ (((Below.refl _ _).setCell (by show x2.heap.size ≤ x4.heap.size; omega) _).setCell (by show x2.heap.size ≤ x4.heap.size; omega) _) ?_
        clear hK K
        try simp only [Act.put, List.setIfInBounds_toArray, List.set_cons_zero, List.set_cons_succ]
        refine absE (fun x6 hx6 => ?_)
        have hbut : But u4 x6 (x4.heap.size) := by rw [hx6]; exact (But.refl _ _).store.store
        have hbn : Bl x6 (x4.heap.size) #[.bool qb, .slice a4q n4q c4q] := by rw [hx6]; exact (Bl.set (Bl.set bx (by simp)) (by simp))
        replace hw1 := hw1.but bx (not_ints2 nb_bool nb_slice) hbut
        replace hu1 := hu1.but bx (not_ints2 nb_bool nb_slice) hbut
        replace hs4q := hs4q.but bx (not_ints2 nb_bool nb_slice) hbut
        replace hs4r := hs4r.but bx (not_ints2 nb_bool nb_slice) hbut
        replace fp := But.fz hbut fp bp (Nat.succ_pos _) (by omega)
        replace bp := But.bl hbut bp (Nat.succ_pos _) (by omega)
        replace fs := But.fz hbut fs bs (Nat.succ_pos _) (by omega)
        replace bs := But.bl hbut bs (Nat.succ_pos _) (by omega)
        replace fv := But.fz hbut fv bv (Nat.succ_pos _) (by omega)
        replace bv := But.bl hbut bv (Nat.succ_pos _) (by omega)
        replace fx : Fz x6 (x4.heap.size) := by rw [hx6]; exact (Fz.set (Fz.set fx))
        replace HE : Ext w x6 := by rw [hx6]; exact ((HE.store (by show w.heap.size ≤ x4.heap.size; omega) _).store (by show w.heap.size ≤ x4.heap.size; omega) _)
        replace hlo : x2.heap.size ≤ x6.heap.size := Nat.le_trans hlo hbut.1
        clear bx hbut hx6
        have bx := hbn
        clear hbn
        refine wpE_l rfl rfl (fun K hK => ?_)
        go_simp
        refine hK.out _ _ (((Below.refl _ _).setCell (by show x2.heap.size ≤ u3.heap.size; omega) _).setCell (by show x2.heap.size ≤ u3.heap.size; omega) _) ?_
        clear hK K
        try simp only [Act.put, List.setIfInBounds_toArray, List.set_cons_zero, List.set_cons_succ]
        refine absE (fun x7 hx7 => ?_)
        have hbut : But x6 x7 (u3.heap.size) := by rw [hx7]; exact (But.refl _ _).store.store
        have hbn : Bl x7 (u3.heap.size) #[.bool rb, .slice a4r n4r c4r] := by rw [hx7]; exact (Bl.set (Bl.set bv (by simp)) (by simp))
        replace hw1 := hw1.but bv (not_ints2 nb_bool nb_slice) hbut
        replace hu1 := hu1.but bv (not_ints2 nb_bool nb_slice) hbut
        replace hs4q := hs4q.but bv (not_ints2 nb_bool nb_slice) hbut
        replace hs4r := hs4r.but bv (not_ints2 nb_bool nb_slice) hbut
        replace fp := But.fz hbut fp bp (Nat.succ_pos _) (by omega)
        replace bp := But.bl hbut bp (Nat.succ_pos _) (by omega)
        replace fs := But.fz hbut fs bs (Nat.succ_pos _) (by omega)
        replace bs := But.bl hbut bs (Nat.succ_pos _) (by omega)
        replace fx := But.fz hbut fx bx (Nat.succ_pos _) (by omega)
        replace bx := But.bl hbut bx (Nat.succ_pos _) (by omega)
        replace fv : Fz x7 (u3.heap.size) := by rw [hx7]; exact (Fz.set (Fz.set fv))
        replace HE : Ext w x7 := by rw [hx7]; exact ((HE.store (by show w.heap.size ≤ u3.heap.size; omega) _).store (by show w.heap.size ≤ u3.heap.size; omega) _)
        replace hlo : x2.heap.size ≤ x7.heap.size := Nat.le_trans hlo hbut.1
        clear bv hbut hx7
        have bv := hbn
        clear hbn
        repeat (refine wpE_q (v := ?_) rfl rfl (fun u hu => ?_) ?_; rotate_left 1; (focus (have kp := Bl.low hu bp lop; have ks := Bl.low hu bs los; go_simp; (try rfl))); simp only [Act.put, List.setIfInBounds_toArray, List.set_cons_zero, List.set_cons_succ])
        refine wpE_done ?_
        clear hlo
        go_wp2_with fail
        refine absB (fun ue hue => ?_)
        have hbs : Bl ue (w.heap.size + 1) #[.bool qb, .slice a4q n4q c4q] := by rw [hue]; exact ((bs.set (by simp)).set (by simp))
        have hnc : ∀ {aa : Option Addr} {nn cc VV : Nat}, Nc x7 aa nn cc VV → Nc ue aa nn cc VV := fun h => by
          rw [hue]
          exact h.but bs (not_ints2 nb_bool nb_slice) ((But.refl _ _).store.store)
        have heu : Ext w ue := by rw [hue]; exact (HE.store (by show w.heap.size ≤ w.heap.size + 1; omega) _).store (by show w.heap.size ≤ w.heap.size + 1; omega) _
        clear hue
        refine bodyPost_cells rfl rfl Try.underlying97 rfl (by kernel_rfl) (bl_two hbs) rfl ?_
        exact RetW.mk rfl HQB.out.symm (hnc hs4q) heu
  refine wpE_br rfl rfl (fun K hK => ?_) ?_
  · go_simp
    refine hK.out _ _ ((Below.refl _ _).alloc hlo _) ?_
    clear hK K
    try simp only [Act.put, List.setIfInBounds_toArray, List.set_cons_zero, List.set_cons_succ]
    have gex := hlo
    have lpx := bp.lt (Nat.succ_pos _)
    have lsx := bs.lt (Nat.succ_pos _)
    have l0x := HE.size
    refine absE (fun x4 hx4 => ?_)
    have hx : Ext x3 x4 := by rw [hx4]; exact ((Ext.refl _).alloc _)
    have bx : Bl x4 (x3.heap.size) #[.bool false, .slice none 0 0] := by rw [hx4]; exact (Bl.new (by simp))
    have fx : Fz x4 (x3.heap.size) := by rw [hx4]; exact (Fz.new (by simp))
    replace hlo := Nat.le_trans hlo hx.size
    replace fp := Fz.ext hx fp bp (Nat.succ_pos _)
    replace bp := Bl.ext hx bp (Nat.succ_pos _)
    replace fs := Fz.ext hx fs bs (Nat.succ_pos _)
    replace bs := Bl.ext hx bs (Nat.succ_pos _)
    replace hw1 := hw1.ext hx
    replace hu1 := hu1.ext hx
    replace HE := HE.trans hx
    clear hx
    clear hx4
    refine wpE_br rfl rfl (fun K hK => ?_) ?_
    · go_simp
      refine (g_up b1 a1 d1 n1 c1 m1 k1 _).mono ?_
      rintro e u3 ⟨rfl, hx⟩
      refine hK.out _ _ (Below.mono hx hlo) ?_
      clear hK K
      try simp only [Act.put, List.setIfInBounds_toArray, List.set_cons_zero, List.set_cons_succ]
      replace hlo := Nat.le_trans hlo hx.size
      replace fp := Fz.ext hx fp bp (Nat.succ_pos _)
      replace bp := Bl.ext hx bp (Nat.succ_pos _)
      replace fs := Fz.ext hx fs bs (Nat.succ_pos _)
      replace bs := Bl.ext hx bs (Nat.succ_pos _)
      replace fx := Fz.ext hx fx bx (Nat.succ_pos _)
      replace bx := Bl.ext hx bx (Nat.succ_pos _)
      replace hw1 := hw1.ext hx
      replace hu1 := hu1.ext hx
      replace HE := HE.trans hx
      clear hx
      refine wpE_br rfl rfl (fun K hK => ?_) ?_
      · go_simp
        refine (HV.out _ _ _ _ _ _ _ _ _ hw1 (hu1.wh HM1.out)).mono ?_
        rintro e u4 ⟨a4q, n4q, c4q, a4r, n4r, c4r, rfl, hs4q, hs4r, hx⟩
        refine hK.out _ _ (Below.mono hx hlo) ?_
        clear hK K
        try simp only [Act.put, List.setIfInBounds_toArray, List.set_cons_zero, List.set_cons_succ]
        replace hlo := Nat.le_trans hlo hx.size
        replace fp := Fz.ext hx fp bp (Nat.succ_pos _)
        replace bp := Bl.ext hx bp (Nat.succ_pos _)
        replace fs := Fz.ext hx fs bs (Nat.succ_pos _)
        replace bs := Bl.ext hx bs (Nat.succ_pos _)
        replace fx := Fz.ext hx fx bx (Nat.succ_pos _)
        replace bx := Bl.ext hx bx (Nat.succ_pos _)
        replace hw1 := hw1.ext hx
        replace hu1 := hu1.ext hx
        replace HE := HE.trans hx
        clear hx
        repeat (refine wpE_q (v := ?_) rfl rfl (fun u hu => ?_) ?_; rotate_left 1; (focus (have kp := Bl.low hu bp lop; have ks := Bl.low hu bs los; go_simp; (try rfl))); simp only [Act.put, List.setIfInBounds_toArray, List.set_cons_zero, List.set_cons_succ])
        refine wpE_l rfl rfl (fun K hK => ?_)
        go_simp
        refine hK.out _ _ ((Below.refl _ _).alloc hlo _) ?_
        clear hK K
        try simp only [Act.put, List.setIfInBounds_toArray, List.set_cons_zero, List.set_cons_succ]
        have gev := hlo
        have lpv := bp.lt (Nat.succ_pos _)
        have lsv := bs.lt (Nat.succ_pos _)
        have lxv := bx.lt (Nat.succ_pos _)
        have l0v := HE.size
        refine absE (fun x5 hx5 => ?_)
        have hx : Ext u4 x5 := by rw [hx5]; exact ((Ext.refl _).alloc _)
        have bv : Bl x5 (u4.heap.size) #[.bool false, .slice none 0 0] := by rw [hx5]; exact (Bl.new (by simp))
        have fv : Fz x5 (u4.heap.size) := by rw [hx5]; exact (Fz.new (by simp))
        replace hlo := Nat.le_trans hlo hx.size
        replace fp := Fz.ext hx fp bp (Nat.succ_pos _)
        replace bp := Bl.ext hx bp (Nat.succ_pos _)
        replace fs := Fz.ext hx fs bs (Nat.succ_pos _)
        replace bs := Bl.ext hx bs (Nat.succ_pos _)
        replace fx := Fz.ext hx fx bx (Nat.succ_pos _)
        replace bx := Bl.ext hx bx (Nat.succ_pos _)
        replace hw1 := hw1.ext hx
        replace hu1 := hu1.ext hx
        replace hs4q := hs4q.ext hx
        replace hs4r := hs4r.ext hx
        replace HE := HE.trans hx
        clear hx
        clear hx5
        refine wpE_l rfl rfl (fun K hK => ?_)
        go_simp
        refine hK.out _ _ (((Below.refl _ _).setCell (by show x2.heap.size ≤ x3.heap.size; omega) _).setCell (by show x2.heap.size ≤ x3.heap.size; omega) _) ?_
        clear hK K
        try simp only [Act.put, List.setIfInBounds_toArray, List.set_cons_zero, List.set_cons_succ]
        refine absE (fun x6 hx6 => ?_)
        have hbut : But x5 x6 (x3.heap.size) := by rw [hx6]; exact (But.refl _ _).store.store
        have hbn : Bl x6 (x3.heap.size) #[.bool qb, .slice a4q n4q c4q] := by rw [hx6]; exact (Bl.set (Bl.set bx (by simp)) (by simp))
        replace hw1 := hw1.but bx (not_ints2 nb_bool nb_slice) hbut
        replace hu1 := hu1.but bx (not_ints2 nb_bool nb_slice) hbut
        replace hs4q := hs4q.but bx (not_ints2 nb_bool nb_slice) hbut
        replace hs4r := hs4r.but bx (not_ints2 nb_bool nb_slice) hbut
        replace fp := But.fz hbut fp bp (Nat.succ_pos _) (by omega)
        replace bp := But.bl hbut bp (Nat.succ_pos _) (by omega)
        replace fs := But.fz hbut fs bs (Nat.succ_pos _) (by omega)
        replace bs := But.bl hbut bs (Nat.succ_pos _) (by omega)
        replace fv := But.fz hbut fv bv (Nat.succ_pos _) (by omega)
        replace bv := But.bl hbut bv (Nat.succ_pos _) (by omega)
        replace fx : Fz x6 (x3.heap.size) := by rw [hx6]; exact (Fz.set (Fz.set fx))
        replace HE : Ext w x6 := by rw [hx6]; exact ((HE.store (by show w.heap.size ≤ x3.heap.size; omega) _).store (by show w.heap.size ≤ x3.heap.size; omega) _)
        replace hlo : x2.heap.size ≤ x6.heap.size := Nat.le_trans hlo hbut.1
        clear bx hbut hx6
        have bx := hbn
        clear hbn
        refine wpE_l rfl rfl (fun K hK => ?_)
        go_simp
        refine hK.out _ _ (((Below.refl _ _).setCell (by show x2.heap.size ≤ u4.heap.size; omega) _).setCell (by show x2.heap.size ≤ u4.heap.size; omega) _) ?_
        clear hK K
        try simp only [Act.put, List.setIfInBounds_toArray, List.set_cons_zero, List.set_cons_succ]
        refine absE (fun x7 hx7 => ?_)
        have hbut : But x6 x7 (u4.heap.size) := by rw [hx7]; exact (But.refl _ _).store.store
        have hbn : Bl x7 (u4.heap.size) #[.bool rb, .slice a4r n4r c4r] := by rw [hx7]; exact (Bl.set (Bl.set bv (by simp)) (by simp))
        replace hw1 := hw1.but bv (not_ints2 nb_bool nb_slice) hbut
        replace hu1 := hu1.but bv (not_ints2 nb_bool nb_slice) hbut
        replace hs4q := hs4q.but bv (not_ints2 nb_bool nb_slice) hbut
        replace hs4r := hs4r.but bv (not_ints2 nb_bool nb_slice) hbut
        replace fp := But.fz hbut fp bp (Nat.succ_pos _) (by omega)
        replace bp := But.bl hbut bp (Nat.succ_pos _) (by omega)
        replace fs := But.fz hbut fs bs (Nat.succ_pos _) (by omega)
        replace bs := But.bl hbut bs (Nat.succ_pos _) (by omega)
        replace fx := But.fz hbut fx bx (Nat.succ_pos _) (by omega)
        replace bx := But.bl hbut bx (Nat.succ_pos _) (by omega)
        replace fv : Fz x7 (u4.heap.size) := by rw [hx7]; exact (Fz.set (Fz.set fv))
        replace HE : Ext w x7 := by rw [hx7]; exact ((HE.store (by show w.heap.size ≤ u4.heap.size; omega) _).store (by show w.heap.size ≤ u4.heap.size; omega) _)
        replace hlo : x2.heap.size ≤ x7.heap.size := Nat.le_trans hlo hbut.1
        clear bv hbut hx7
        have bv := hbn
        clear hbn
        repeat (refine wpE_q (v := ?_) rfl rfl (fun u hu => ?_) ?_; rotate_left 1; (focus (have kp := Bl.low hu bp lop; have ks := Bl.low hu bs los; go_simp; (try rfl))); simp only [Act.put, List.setIfInBounds_toArray, List.set_cons_zero, List.set_cons_succ])
        refine wpE_done ?_
        clear hlo
        go_wp2_with fail
        refine absB (fun ue hue => ?_)
        have hbs : Bl ue (w.heap.size + 1) #[.bool qb, .slice a4q n4q c4q] := by rw [hue]; exact ((bs.set (by simp)).set (by simp))
        have hnc : ∀ {aa : Option Addr} {nn cc VV : Nat}, Nc x7 aa nn cc VV → Nc ue aa nn cc VV := fun h => by
          rw [hue]
          exact h.but bs (not_ints2 nb_bool nb_slice) ((But.refl _ _).store.store)
        have heu : Ext w ue := by rw [hue]; exact (HE.store (by show w.heap.size ≤ w.heap.size + 1; omega) _).store (by show w.heap.size ≤ w.heap.size + 1; omega) _
        clear hue
        refine bodyPost_cells rfl rfl Try.underlying97 rfl (by kernel_rfl) (bl_two hbs) rfl ?_
        exact RetW.mk rfl HQB.out.symm (hnc hs4q) heu
      · refine wpE_l rfl rfl (fun K hK => ?_)
        go_simp
        refine hK.out _ _ ((Below.refl _ _).alloc hlo _) ?_
        clear hK K
        try simp only [Act.put, List.setIfInBounds_toArray, List.set_cons_zero, List.set_cons_succ]
        have gev := hlo
        have lpv := bp.lt (Nat.succ_pos _)
        have lsv := bs.lt (Nat.succ_pos _)
        have lxv := bx.lt (Nat.succ_pos _)
        have l0v := HE.size
        refine absE (fun x5 hx5 => ?_)
        have hx : Ext u3 x5 := by rw [hx5]; exact ((Ext.refl _).alloc _)
        have bv : Bl x5 (u3.heap.size) #[.bool false, .slice none 0 0] := by rw [hx5]; exact (Bl.new (by simp))
        have fv : Fz x5 (u3.heap.size) := by rw [hx5]; exact (Fz.new (by simp))
        replace hlo := Nat.le_trans hlo hx.size
        replace fp := Fz.ext hx fp bp (Nat.succ_pos _)
        replace bp := Bl.ext hx bp (Nat.succ_pos _)
        replace fs := Fz.ext hx fs bs (Nat.succ_pos _)
        replace bs := Bl.ext hx bs (Nat.succ_pos _)
        replace fx := Fz.ext hx fx bx (Nat.succ_pos _)
        replace bx := Bl.ext hx bx (Nat.succ_pos _)
        replace hw1 := hw1.ext hx
        replace hu1 := hu1.ext hx
        replace HE := HE.trans hx
        clear hx
        clear hx5
        refine wpE_l rfl rfl (fun K hK => ?_)
        go_simp
        refine (HV.out _ _ _ _ _ _ _ _ _ hw1 (hu1.wh HM1.out)).mono ?_
        rintro e u4 ⟨a4q, n4q, c4q, a4r, n4r, c4r, rfl, hs4q, hs4r, hx⟩
        refine hK.out _ _ (Below.mono hx hlo) ?_
        clear hK K
        try simp only [Act.put, List.setIfInBounds_toArray, List.set_cons_zero, List.set_cons_succ]
        replace hlo := Nat.le_trans hlo hx.size
        replace fp := Fz.ext hx fp bp (Nat.succ_pos _)
        replace bp := Bl.ext hx bp (Nat.succ_pos _)
        replace fs := Fz.ext hx fs bs (Nat.succ_pos _)
        replace bs := Bl.ext hx bs (Nat.succ_pos _)
        replace fx := Fz.ext hx fx bx (Nat.succ_pos _)
        replace bx := Bl.ext hx bx (Nat.succ_pos _)
        replace fv := Fz.ext hx fv bv (Nat.succ_pos _)
        replace bv := Bl.ext hx bv (Nat.succ_pos _)
        replace hw1 := hw1.ext hx
        replace hu1 := hu1.ext hx
        replace HE := HE.trans hx
        clear hx
        repeat (refine wpE_q (v := ?_) rfl rfl (fun u hu => ?_) ?_; rotate_left 1; (focus (have kp := Bl.low hu bp lop; have ks := Bl.low hu bs los; go_simp; (try rfl))); simp only [Act.put, List.setIfInBounds_toArray, List.set_cons_zero, List.set_cons_succ])
        refine wpE_l rfl rfl (fun K hK => ?_)
        go_simp
        refine hK.out _ _ (((Below.refl _ _).setCell (by show x2.heap.size ≤ x3.heap.size; omega) _).setCell (by show x2.heap.size ≤ x3.heap.size; omega) _) ?_
        clear hK K
        try simp only [Act.put, List.setIfInBounds_toArray, List.set_cons_zero, List.set_cons_succ]
        refine absE (fun x6 hx6 => ?_)
        have hbut : But u4 x6 (x3.heap.size) := by rw [hx6]; exact (But.refl _ _).store.store
        have hbn : Bl x6 (x3.heap.size) #[.bool qb, .slice a4q n4q c4q] := by rw [hx6]; exact (Bl.set (Bl.set bx (by simp)) (by simp))
        replace hw1 := hw1.but bx (not_ints2 nb_bool nb_slice) hbut
        replace hu1 := hu1.but bx (not_ints2 nb_bool nb_slice) hbut
        replace hs4q := hs4q.but bx (not_ints2 nb_bool nb_slice) hbut
        replace hs4r := hs4r.but bx (not_ints2 nb_bool nb_slice) hbut
        replace fp := But.fz hbut fp bp (Nat.succ_pos _) (by omega)
        replace bp := But.bl hbut bp (Nat.succ_pos _) (by omega)
        replace fs := But.fz hbut fs bs (Nat.succ_pos _) (by omega)
        replace bs := But.bl hbut bs (Nat.succ_pos _) (by omega)
        replace fv := But.fz hbut fv bv (Nat.succ_pos _) (by omega)
        replace bv := But.bl hbut bv (Nat.succ_pos _) (by omega)
        replace fx : Fz x6 (x3.heap.size) := by rw [hx6]; exact (Fz.set (Fz.set fx))
        replace HE : Ext w x6 := by rw [hx6]; exact ((HE.store (by show w.heap.size ≤ x3.heap.size; omega) _).store (by show w.heap.size ≤ x3.heap.size; omega) _)
        replace hlo : x2.heap.size ≤ x6.heap.size := Nat.le_trans hlo hbut.1
        clear bx hbut hx6
        have bx := hbn
        clear hbn
        refine wpE_l rfl rfl (fun K hK => ?_)
        go_simp
        refine hK.out _ _ (((Below.refl _ _).setCell (by show x2.heap.size ≤ u3.heap.size; omega) _).setCell (by show x2.heap.size ≤ u3.heap.size; omega) _) ?_
        clear hK K
        try simp only [Act.put, List.setIfInBounds_toArray, List.set_cons_zero, List.set_cons_succ]
        refine absE (fun x7 hx7 => ?_)
        have hbut : But x6 x7 (u3.heap.size) := by rw [hx7]; exact (But.refl _ _).store.store
        have hbn : Bl x7 (u3.heap.size) #[.bool rb, .slice a4r n4r c4r] := by rw [hx7]; exact (Bl.set (Bl.set bv (by simp)) (by simp))
        replace hw1 := hw1.but bv (not_ints2 nb_bool nb_slice) hbut
        replace hu1 := hu1.but bv (not_ints2 nb_bool nb_slice) hbut
        replace hs4q := hs4q.but bv (not_ints2 nb_bool nb_slice) hbut
        replace hs4r := hs4r.but bv (not_ints2 nb_bool nb_slice) hbut
        replace fp := But.fz hbut fp bp (Nat.succ_pos _) (by omega)
        replace bp := But.bl hbut bp (Nat.succ_pos _) (by omega)
        replace fs := But.fz hbut fs bs (Nat.succ_pos _) (by omega)
        replace bs := But.bl hbut bs (Nat.succ_pos _) (by omega)
        replace fx := But.fz hbut fx bx (Nat.succ_pos _) (by omega)
        replace bx := But.bl hbut bx (Nat.succ_pos _) (by omega)
        replace fv : Fz x7 (u3.heap.size) := by rw [hx7]; exact (Fz.set (Fz.set fv))
        replace HE : Ext w x7 := by rw [hx7]; exact ((HE.store (by show w.heap.size ≤ u3.heap.size; omega) _).store (by show w.heap.size ≤ u3.heap.size; omega) _)
        replace hlo : x2.heap.size ≤ x7.heap.size := Nat.le_trans hlo hbut.1
        clear bv hbut hx7
        have bv := hbn
        clear hbn
        repeat (refine wpE_q (v := ?_) rfl rfl (fun u hu => ?_) ?_; rotate_left 1; (focus (have kp := Bl.low hu bp lop; have ks := Bl.low hu bs los; go_simp; (try rfl))); simp only [Act.put, List.setIfInBounds_toArray, List.set_cons_zero, List.set_cons_succ])
        refine wpE_done ?_
        clear hlo
        go_wp2_with fail
        refine absB (fun ue hue => ?_)
        have hbs : Bl ue (w.heap.size + 1) #[.bool qb, .slice a4q n4q c4q] := by rw [hue]; exact ((bs.set (by simp)).set (by simp))
        have hnc : ∀ {aa : Option Addr} {nn cc VV : Nat}, Nc x7 aa nn cc VV → Nc ue aa nn cc VV := fun h => by
          rw [hue]
          exact h.but bs (not_ints2 nb_bool nb_slice) ((But.refl _ _).store.store)
        have heu : Ext w ue := by rw [hue]; exact (HE.store (by show w.heap.size ≤ w.heap.size + 1; omega) _).store (by show w.heap.size ≤ w.heap.size + 1; omega) _
        clear hue
        refine bodyPost_cells rfl rfl Try.underlying97 rfl (by kernel_rfl) (bl_two hbs) rfl ?_
        exact RetW.mk rfl HQB.out.symm (hnc hs4q) heu
    · refine wpE_l rfl rfl (fun K hK => ?_)
      go_simp
      refine hK.out _ _ ((Below.refl _ _).alloc hlo _) ?_
      clear hK K
      try simp only [Act.put, List.setIfInBounds_toArray, List.set_cons_zero, List.set_cons_succ]
      have gev := hlo
      have lpv := bp.lt (Nat.succ_pos _)
      have lsv := bs.lt (Nat.succ_pos _)
      have lxv := bx.lt (Nat.succ_pos _)
      have l0v := HE.size
      refine absE (fun x5 hx5 => ?_)
      have hx : Ext x4 x5 := by rw [hx5]; exact ((Ext.refl _).alloc _)
      have bv : Bl x5 (x4.heap.size) #[.bool false, .slice none 0 0] := by rw [hx5]; exact (Bl.new (by simp))
      have fv : Fz x5 (x4.heap.size) := by rw [hx5]; exact (Fz.new (by simp))
      replace hlo := Nat.le_trans hlo hx.size
      replace fp := Fz.ext hx fp bp (Nat.succ_pos _)
      replace bp := Bl.ext hx bp (Nat.succ_pos _)
      replace fs := Fz.ext hx fs bs (Nat.succ_pos _)
      replace bs := Bl.ext hx bs (Nat.succ_pos _)
      replace fx := Fz.ext hx fx bx (Nat.succ_pos _)
      replace bx := Bl.ext hx bx (Nat.succ_pos _)
      replace hw1 := hw1.ext hx
      replace hu1 := hu1.ext hx
      replace HE := HE.trans hx
      clear hx
      clear hx5
      refine wpE_l rfl rfl (fun K hK => ?_)
      go_simp
      refine (g_up b1 a1 d1 n1 c1 m1 k1 _).mono ?_
      rintro e u3 ⟨rfl, hx⟩
      refine hK.out _ _ (Below.mono hx hlo) ?_
      clear hK K
      try simp only [Act.put, List.setIfInBounds_toArray, List.set_cons_zero, List.set_cons_succ]
      replace hlo := Nat.le_trans hlo hx.size
      replace fp := Fz.ext hx fp bp (Nat.succ_pos _)
      replace bp := Bl.ext hx bp (Nat.succ_pos _)
      replace fs := Fz.ext hx fs bs (Nat.succ_pos _)
      replace bs := Bl.ext hx bs (Nat.succ_pos _)
      replace fx := Fz.ext hx fx bx (Nat.succ_pos _)
      replace bx := Bl.ext hx bx (Nat.succ_pos _)
      replace fv := Fz.ext hx fv bv (Nat.succ_pos _)
      replace bv := Bl.ext hx bv (Nat.succ_pos _)
      replace hw1 := hw1.ext hx
      replace hu1 := hu1.ext hx
      replace HE := HE.trans hx
      clear hx
      refine wpE_l rfl rfl (fun K hK => ?_)
      go_simp
      refine (HV.out _ _ _ _ _ _ _ _ _ hw1 (hu1.wh HM1.out)).mono ?_
      rintro e u4 ⟨a4q, n4q, c4q, a4r, n4r, c4r, rfl, hs4q, hs4r, hx⟩
      refine hK.out _ _ (Below.mono hx hlo) ?_
      clear hK K
      try simp only [Act.put, List.setIfInBounds_toArray, List.set_cons_zero, List.set_cons_succ]
      replace hlo := Nat.le_trans hlo hx.size
      replace fp := Fz.ext hx fp bp (Nat.succ_pos _)
      replace bp := Bl.ext hx bp (Nat.succ_pos _)
      replace fs := Fz.ext hx fs bs (Nat.succ_pos _)
      replace bs := Bl.ext hx bs (Nat.succ_pos _)
      replace fx := Fz.ext hx fx bx (Nat.succ_pos _)
      replace bx := Bl.ext hx bx (Nat.succ_pos _)
      replace fv := Fz.ext hx fv bv (Nat.succ_pos _)
      replace bv := Bl.ext hx bv (Nat.succ_pos _)
      replace hw1 := hw1.ext hx
      replace hu1 := hu1.ext hx
      replace HE := HE.trans hx
      clear hx
      repeat (refine wpE_q (v := ?_) rfl rfl (fun u hu => ?_) ?_; rotate_left 1; (focus (have kp := Bl.low hu bp lop; have ks := Bl.low hu bs los; go_simp; (try rfl))); simp only [Act.put, List.setIfInBounds_toArray, List.set_cons_zero, List.set_cons_succ])
      refine wpE_l rfl rfl (fun K hK => ?_)
      go_simp
      refine hK.out _ _ (((Below.refl _ _).setCell (by show x2.heap.size ≤ x3.heap.size; omega) _).setCell (by show x2.heap.size ≤ x3.heap.size; omega) _) ?_
      clear hK K
      try simp only [Act.put, List.setIfInBounds_toArray, List.set_cons_zero, List.set_cons_succ]
      refine absE (fun x6 hx6 => ?_)
      have hbut : But u4 x6 (x3.heap.size) := by rw [hx6]; exact (But.refl _ _).store.store
      have hbn : Bl x6 (x3.heap.size) #[.bool qb, .slice a4q n4q c4q] := by rw [hx6]; exact (Bl.set (Bl.set bx (by simp)) (by simp))
      replace hw1 := hw1.but bx (not_ints2 nb_bool nb_slice) hbut
      replace hu1 := hu1.but bx (not_ints2 nb_bool nb_slice) hbut
      replace hs4q := hs4q.but bx (not_ints2 nb_bool nb_slice) hbut
      replace hs4r := hs4r.but bx (not_ints2 nb_bool nb_slice) hbut
      replace fp := But.fz hbut fp bp (Nat.succ_pos _) (by omega)
      replace bp := But.bl hbut bp (Nat.succ_pos _) (by omega)
      replace fs := But.fz hbut fs bs (Nat.succ_pos _) (by omega)
      replace bs := But.bl hbut bs (Nat.succ_pos _) (by omega)
      replace fv := But.fz hbut fv bv (Nat.succ_pos _) (by omega)
      replace bv := But.bl hbut bv (Nat.succ_pos _) (by omega)
      replace fx : Fz x6 (x3.heap.size) := by rw [hx6]; exact (Fz.set (Fz.set fx))
      replace HE : Ext w x6 := by rw [hx6]; exact ((HE.store (by show w.heap.size ≤ x3.heap.size; omega) _).store (by show w.heap.size ≤ x3.heap.size; omega) _)
      replace hlo : x2.heap.size ≤ x6.heap.size := Nat.le_trans hlo hbut.1
      clear bx hbut hx6
      have bx := hbn
      clear hbn
      refine wpE_l rfl rfl (fun K hK => ?_)
      go_simp
      refine hK.out _ _ (((Below.refl _ _).setCell (by show x2.heap.size ≤ x4.heap.size; omega) _).setCell (by show x2.heap.size ≤ x4.heap.size; omega) _) ?_
      clear hK K
      try simp only [Act.put, List.setIfInBounds_toArray, List.set_cons_zero, List.set_cons_succ]
      refine absE (fun x7 hx7 => ?_)
      have hbut : But x6 x7 (x4.heap.size) := by rw [hx7]; exact (But.refl _ _).store.store
      have hbn : Bl x7 (x4.heap.size) #[.bool rb, .slice a4r n4r c4r] := by rw [hx7]; exact (Bl.set (Bl.set bv (by simp)) (by simp))
      replace hw1 := hw1.but bv (not_ints2 nb_bool nb_slice) hbut
      replace hu1 := hu1.but bv (not_ints2 nb_bool nb_slice) hbut
      replace hs4q := hs4q.but bv (not_ints2 nb_bool nb_slice) hbut
      replace hs4r := hs4r.but bv (not_ints2 nb_bool nb_slice) hbut
      replace fp := But.fz hbut fp bp (Nat.succ_pos _) (by omega)
      replace bp := But.bl hbut bp (Nat.succ_pos _) (by omega)
      replace fs := But.fz hbut fs bs (Nat.succ_pos _) (by omega)
      replace bs := But.bl hbut bs (Nat.succ_pos _) (by omega)
      replace fx := But.fz hbut fx bx (Nat.succ_pos _) (by omega)
      replace bx := But.bl hbut bx (Nat.succ_pos _) (by omega)
      replace fv : Fz x7 (x4.heap.size) := by rw [hx7]; exact (Fz.set (Fz.set fv))
      replace HE : Ext w x7 := by rw [hx7]; exact ((HE.store (by show w.heap.size ≤ x4.heap.size; omega) _).store (by show w.heap.size ≤ x4.heap.size; omega) _)
      replace hlo : x2.heap.size ≤ x7.heap.size := Nat.le_trans hlo hbut.1
      clear bv hbut hx7
      have bv := hbn
      clear hbn
      repeat (refine wpE_q (v := ?_) rfl rfl (fun u hu => ?_) ?_; rotate_left 1; (focus (have kp := Bl.low hu bp lop; have ks := Bl.low hu bs los; go_simp; (try rfl))); simp only [Act.put, List.setIfInBounds_toArray, List.set_cons_zero, List.set_cons_succ])
      refine wpE_done ?_
      clear hlo
      go_wp2_with fail
      refine absB (fun ue hue => ?_)
      have hbs : Bl ue (w.heap.size + 1) #[.bool qb, .slice a4q n4q c4q] := by rw [hue]; exact ((bs.set (by simp)).set (by simp))
      have hnc : ∀ {aa : Option Addr} {nn cc VV : Nat}, Nc x7 aa nn cc VV → Nc ue aa nn cc VV := fun h => by
        rw [hue]
        exact h.but bs (not_ints2 nb_bool nb_slice) ((But.refl _ _).store.store)
      have heu : Ext w ue := by rw [hue]; exact (HE.store (by show w.heap.size ≤ w.heap.size + 1; omega) _).store (by show w.heap.size ≤ w.heap.size + 1; omega) _
      clear hue
      refine bodyPost_cells rfl rfl Try.underlying97 rfl (by kernel_rfl) (bl_two hbs) rfl ?_
      exact RetW.mk rfl HQB.out.symm (hnc hs4q) heu
  · refine wpE_l rfl rfl (fun K hK => ?_)
    go_simp
    refine hK.out _ _ ((Below.refl _ _).alloc hlo _) ?_
    clear hK K
    try simp only [Act.put, List.setIfInBounds_toArray, List.set_cons_zero, List.set_cons_succ]
    have gev := hlo
    have lpv := bp.lt (Nat.succ_pos _)
    have lsv := bs.lt (Nat.succ_pos _)
    have l0v := HE.size
    refine absE (fun x4 hx4 => ?_)
    have hx : Ext x3 x4 := by rw [hx4]; exact ((Ext.refl _).alloc _)
    have bv : Bl x4 (x3.heap.size) #[.bool false, .slice none 0 0] := by rw [hx4]; exact (Bl.new (by simp))
    have fv : Fz x4 (x3.heap.size) := by rw [hx4]; exact (Fz.new (by simp))
    replace hlo := Nat.le_trans hlo hx.size
    replace fp := Fz.ext hx fp bp (Nat.succ_pos _)
    replace bp := Bl.ext hx bp (Nat.succ_pos _)
    replace fs := Fz.ext hx fs bs (Nat.succ_pos _)
    replace bs := Bl.ext hx bs (Nat.succ_pos _)
    replace hw1 := hw1.ext hx
    replace hu1 := hu1.ext hx
    replace HE := HE.trans hx
    clear hx
    clear hx4
    refine wpE_br rfl rfl (fun K hK => ?_) ?_
    · go_simp
      refine (g_up b1 a1 d1 n1 c1 m1 k1 _).mono ?_
      rintro e u3 ⟨rfl, hx⟩
      refine hK.out _ _ (Below.mono hx hlo) ?_
      clear hK K
      try simp only [Act.put, List.setIfInBounds_toArray, List.set_cons_zero, List.set_cons_succ]
      replace hlo := Nat.le_trans hlo hx.size
      replace fp := Fz.ext hx fp bp (Nat.succ_pos _)
      replace bp := Bl.ext hx bp (Nat.succ_pos _)
      replace fs := Fz.ext hx fs bs (Nat.succ_pos _)
      replace bs := Bl.ext hx bs (Nat.succ_pos _)
      replace fv := Fz.ext hx fv bv (Nat.succ_pos _)
      replace bv := Bl.ext hx bv (Nat.succ_pos _)
      replace hw1 := hw1.ext hx
      replace hu1 := hu1.ext hx
      replace HE := HE.trans hx
      clear hx
      refine wpE_br rfl rfl (fun K hK => ?_) ?_
      · go_simp
        refine (HV.out _ _ _ _ _ _ _ _ _ hw1 (hu1.wh HM1.out)).mono ?_
        rintro e u4 ⟨a4q, n4q, c4q, a4r, n4r, c4r, rfl, hs4q, hs4r, hx⟩
        refine hK.out _ _ (Below.mono hx hlo) ?_
        clear hK K
        try simp only [Act.put, List.setIfInBounds_toArray, List.set_cons_zero, List.set_cons_succ]
        replace hlo := Nat.le_trans hlo hx.size
        replace fp := Fz.ext hx fp bp (Nat.succ_pos _)
        replace bp := Bl.ext hx bp (Nat.succ_pos _)
        replace fs := Fz.ext hx fs bs (Nat.succ_pos _)
        replace bs := Bl.ext hx bs (Nat.succ_pos _)
        replace fv := Fz.ext hx fv bv (Nat.succ_pos _)
        replace bv := Bl.ext hx bv (Nat.succ_pos _)
        replace hw1 := hw1.ext hx
        replace hu1 := hu1.ext hx
        replace HE := HE.trans hx
        clear hx
        repeat (refine wpE_q (v := ?_) rfl rfl (fun u hu => ?_) ?_; rotate_left 1; (focus (have kp := Bl.low hu bp lop; have ks := Bl.low hu bs los; go_simp; (try rfl))); simp only [Act.put, List.setIfInBounds_toArray, List.set_cons_zero, List.set_cons_succ])
        refine wpE_l rfl rfl (fun K hK => ?_)
        go_simp
        refine hK.out _ _ ((Below.refl _ _).alloc hlo _) ?_
        clear hK K
        try simp only [Act.put, List.setIfInBounds_toArray, List.set_cons_zero, List.set_cons_succ]
        have gex := hlo
        have lpx := bp.lt (Nat.succ_pos _)
        have lsx := bs.lt (Nat.succ_pos _)
        have lvx := bv.lt (Nat.succ_pos _)
        have l0x := HE.size
        refine absE (fun x5 hx5 => ?_)
        have hx : Ext u4 x5 := by rw [hx5]; exact ((Ext.refl _).alloc _)
        have bx : Bl x5 (u4.heap.size) #[.bool false, .slice none 0 0] := by rw [hx5]; exact (Bl.new (by simp))
        have fx : Fz x5 (u4.heap.size) := by rw [hx5]; exact (Fz.new (by simp))
        replace hlo := Nat.le_trans hlo hx.size
        replace fp := Fz.ext hx fp bp (Nat.succ_pos _)
        replace bp := Bl.ext hx bp (Nat.succ_pos _)
        replace fs := Fz.ext hx fs bs (Nat.succ_pos _)
        replace bs := Bl.ext hx bs (Nat.succ_pos _)
        replace fv := Fz.ext hx fv bv (Nat.succ_pos _)
        replace bv := Bl.ext hx bv (Nat.succ_pos _)
        replace hw1 := hw1.ext hx
        replace hu1 := hu1.ext hx
        replace hs4q := hs4q.ext hx
        replace hs4r := hs4r.ext hx
        replace HE := HE.trans hx
        clear hx
        clear hx5
        refine wpE_l rfl rfl (fun K hK => ?_)
        go_simp
        refine hK.out _ _ (((Below.refl _ _).setCell (by show x2.heap.size ≤ u4.heap.size; omega) _).setCell (by show x2.heap.size ≤ u4.heap.size; omega) _) ?_
        clear hK K
        try simp only [Act.put, List.setIfInBounds_toArray, List.set_cons_zero, List.set_cons_succ]
        refine absE (fun x6 hx6 => ?_)
        have hbut : But x5 x6 (u4.heap.size) := by rw [hx6]; exact (But.refl _ _).store.store
        have hbn : Bl x6 (u4.heap.size) #[.bool qb, .slice a4q n4q c4q] := by rw [hx6]; exact (Bl.set (Bl.set bx (by simp)) (by simp))
        replace hw1 := hw1.but bx (not_ints2 nb_bool nb_slice) hbut
        replace hu1 := hu1.but bx (not_ints2 nb_bool nb_slice) hbut
        replace hs4q := hs4q.but bx (not_ints2 nb_bool nb_slice) hbut
        replace hs4r := hs4r.but bx (not_ints2 nb_bool nb_slice) hbut
        replace fp := But.fz hbut fp bp (Nat.succ_pos _) (by omega)
        replace bp := But.bl hbut bp (Nat.succ_pos _) (by omega)
        replace fs := But.fz hbut fs bs (Nat.succ_pos _) (by omega)
        replace bs := But.bl hbut bs (Nat.succ_pos _) (by omega)
        replace fv := But.fz hbut fv bv (Nat.succ_pos _) (by omega)
        replace bv := But.bl hbut bv (Nat.succ_pos _) (by omega)
        replace fx : Fz x6 (u4.heap.size) := by rw [hx6]; exact (Fz.set (Fz.set fx))
        replace HE : Ext w x6 := by rw [hx6]; exact ((HE.store (by show w.heap.size ≤ u4.heap.size; omega) _).store (by show w.heap.size ≤ u4.heap.size; omega) _)
        replace hlo : x2.heap.size ≤ x6.heap.size := Nat.le_trans hlo hbut.1
        clear bx hbut hx6
        have bx := hbn
        clear hbn
        refine wpE_l rfl rfl (fun K hK => ?_)
        go_simp
        refine hK.out _ _ (((Below.refl _ _).setCell (by show x2.heap.size ≤ x3.heap.size; omega) _).setCell (by show x2.heap.size ≤ x3.heap.size; omega) _) ?_
        clear hK K
        try simp only [Act.put, List.setIfInBounds_toArray, List.set_cons_zero, List.set_cons_succ]
        refine absE (fun x7 hx7 => ?_)
        have hbut : But x6 x7 (x3.heap.size) := by rw [hx7]; exact (But.refl _ _).store.store
        have hbn : Bl x7 (x3.heap.size) #[.bool rb, .slice a4r n4r c4r] := by rw [hx7]; exact (Bl.set (Bl.set bv (by simp)) (by simp))
        replace hw1 := hw1.but bv (not_ints2 nb_bool nb_slice) hbut
        replace hu1 := hu1.but bv (not_ints2 nb_bool nb_slice) hbut
        replace hs4q := hs4q.but bv (not_ints2 nb_bool nb_slice) hbut
        replace hs4r := hs4r.but bv (not_ints2 nb_bool nb_slice) hbut
        replace fp := But.fz hbut fp bp (Nat.succ_pos _) (by omega)
        replace bp := But.bl hbut bp (Nat.succ_pos _) (by omega)
        replace fs := But.fz hbut fs bs (Nat.succ_pos _) (by omega)
        replace bs := But.bl hbut bs (Nat.succ_pos _) (by omega)
        replace fx := But.fz hbut fx bx (Nat.succ_pos _) (by omega)
        replace bx := But.bl hbut bx (Nat.succ_pos _) (by omega)
        replace fv : Fz x7 (x3.heap.size) := by rw [hx7]; exact (Fz.set (Fz.set fv))
        replace HE : Ext w x7 := by rw [hx7]; exact ((HE.store (by show w.heap.size ≤ x3.heap.size; omega) _).store (by show w.heap.size ≤ x3.heap.size; omega) _)
        replace hlo : x2.heap.size ≤ x7.heap.size := Nat.le_trans hlo hbut.1
        clear bv hbut hx7
        have bv := hbn
        clear hbn
        repeat (refine wpE_q (v := ?_) rfl rfl (fun u hu => ?_) ?_; rotate_left 1; (focus (have kp := Bl.low hu bp lop; have ks := Bl.low hu bs los; go_simp; (try rfl))); simp only [Act.put, List.setIfInBounds_toArray, List.set_cons_zero, List.set_cons_succ])
        refine wpE_done ?_
        clear hlo
        go_wp2_with fail
        refine absB (fun ue hue => ?_)
        have hbs : Bl ue (w.heap.size + 1) #[.bool qb, .slice a4q n4q c4q] := by rw [hue]; exact ((bs.set (by simp)).set (by simp))
        have hnc : ∀ {aa : Option Addr} {nn cc VV : Nat}, Nc x7 aa nn cc VV → Nc ue aa nn cc VV := fun h => by
          rw [hue]
          exact h.but bs (not_ints2 nb_bool nb_slice) ((But.refl _ _).store.store)
        have heu : Ext w ue := by rw [hue]; exact (HE.store (by show w.heap.size ≤ w.heap.size + 1; omega) _).store (by show w.heap.size ≤ w.heap.size + 1; omega) _
        clear hue
        refine bodyPost_cells rfl rfl Try.underlying97 rfl (by kernel_rfl) (bl_two hbs) rfl ?_
        exact RetW.mk rfl HQB.out.symm (hnc hs4q) heu
      · refine wpE_l rfl rfl (fun K hK => ?_)
        go_simp
        refine hK.out _ _ ((Below.refl _ _).alloc hlo _) ?_
        clear hK K
        try simp only [Act.put, List.setIfInBounds_toArray, List.set_cons_zero, List.set_cons_succ]
        have gex := hlo
        have lpx := bp.lt (Nat.succ_pos _)
        have lsx := bs.lt (Nat.succ_pos _)
        have lvx := bv.lt (Nat.succ_pos _)
        have l0x := HE.size
        refine absE (fun x5 hx5 => ?_)
        have hx : Ext u3 x5 := by rw [hx5]; exact ((Ext.refl _).alloc _)
        have bx : Bl x5 (u3.heap.size) #[.bool false, .slice none 0 0] := by rw [hx5]; exact (Bl.new (by simp))
        have fx : Fz x5 (u3.heap.size) := by rw [hx5]; exact (Fz.new (by simp))
        replace hlo := Nat.le_trans hlo hx.size
        replace fp := Fz.ext hx fp bp (Nat.succ_pos _)
        replace bp := Bl.ext hx bp (Nat.succ_pos _)
        replace fs := Fz.ext hx fs bs (Nat.succ_pos _)
        replace bs := Bl.ext hx bs (Nat.succ_pos _)
        replace fv := Fz.ext hx fv bv (Nat.succ_pos _)
        replace bv := Bl.ext hx bv (Nat.succ_pos _)
        replace hw1 := hw1.ext hx
        replace hu1 := hu1.ext hx
        replace HE := HE.trans hx
        clear hx
        clear hx5
        refine wpE_l rfl rfl (fun K hK => ?_)
        go_simp
        refine (HV.out _ _ _ _ _ _ _ _ _ hw1 (hu1.wh HM1.out)).mono ?_
        rintro e u4 ⟨a4q, n4q, c4q, a4r, n4r, c4r, rfl, hs4q, hs4r, hx⟩
        refine hK.out _ _ (Below.mono hx hlo) ?_
        clear hK K
        try simp only [Act.put, List.setIfInBounds_toArray, List.set_cons_zero, List.set_cons_succ]
        replace hlo := Nat.le_trans hlo hx.size
        replace fp := Fz.ext hx fp bp (Nat.succ_pos _)
        replace bp := Bl.ext hx bp (Nat.succ_pos _)
        replace fs := Fz.ext hx fs bs (Nat.succ_pos _)
        replace bs := Bl.ext hx bs (Nat.succ_pos _)
        replace fv := Fz.ext hx fv bv (Nat.succ_pos _)
        replace bv := Bl.ext hx bv (Nat.succ_pos _)
        replace fx := Fz.ext hx fx bx (Nat.succ_pos _)
        replace bx := Bl.ext hx bx (Nat.succ_pos _)
        replace hw1 := hw1.ext hx
        replace hu1 := hu1.ext hx
        replace HE := HE.trans hx
        clear hx
        repeat (refine wpE_q (v := ?_) rfl rfl (fun u hu => ?_) ?_; rotate_left 1; (focus (have kp := Bl.low hu bp lop; have ks := Bl.low hu bs los; go_simp; (try rfl))); simp only [Act.put, List.setIfInBounds_toArray, List.set_cons_zero, List.set_cons_succ])
        refine wpE_l rfl rfl (fun K hK => ?_)
        go_simp
        refine hK.out _ _ (((Below.refl _ _).setCell (by show x2.heap.size ≤ u3.heap.size; omega) _).setCell (by show x2.heap.size ≤ u3.heap.size; omega) _) ?_
        clear hK K
        try simp only [Act.put, List.setIfInBounds_toArray, List.set_cons_zero, List.set_cons_succ]
        refine absE (fun x6 hx6 => ?_)
        have hbut : But u4 x6 (u3.heap.size) := by rw [hx6]; exact (But.refl _ _).store.store
        have hbn : Bl x6 (u3.heap.size) #[.bool qb, .slice a4q n4q c4q] := by rw [hx6]; exact (Bl.set (Bl.set bx (by simp)) (by simp))
        replace hw1 := hw1.but bx (not_ints2 nb_bool nb_slice) hbut
        replace hu1 := hu1.but bx (not_ints2 nb_bool nb_slice) hbut
        replace hs4q := hs4q.but bx (not_ints2 nb_bool nb_slice) hbut
        replace hs4r := hs4r.but bx (not_ints2 nb_bool nb_slice) hbut
        replace fp := But.fz hbut fp bp (Nat.succ_pos _) (by omega)
        replace bp := But.bl hbut bp (Nat.succ_pos _) (by omega)
        replace fs := But.fz hbut fs bs (Nat.succ_pos _) (by omega)
        replace bs := But.bl hbut bs (Nat.succ_pos _) (by omega)
        replace fv := But.fz hbut fv bv (Nat.succ_pos _) (by omega)
        replace bv := But.bl hbut bv (Nat.succ_pos _) (by omega)
        replace fx : Fz x6 (u3.heap.size) := by rw [hx6]; exact (Fz.set (Fz.set fx))
        replace HE : Ext w x6 := by rw [hx6]; exact ((HE.store (by show w.heap.size ≤ u3.heap.size; omega) _).store (by show w.heap.size ≤ u3.heap.size; omega) _)
        replace hlo : x2.heap.size ≤ x6.heap.size := Nat.le_trans hlo hbut.1
        clear bx hbut hx6
        have bx := hbn
        clear hbn
        refine wpE_l rfl rfl (fun K hK => ?_)
        go_simp
        refine hK.out _ _ (((Below.refl _ _).setCell (by show x2.heap.size ≤ x3.heap.size; omega) _).setCell (by show x2.heap.size ≤ x3.heap.size; omega) _) ?_
        clear hK K
        try simp only [Act.put, List.setIfInBounds_toArray, List.set_cons_zero, List.set_cons_succ]
        refine absE (fun x7 hx7 => ?_)
        have hbut : But x6 x7 (x3.heap.size) := by rw [hx7]; exact (But.refl _ _).store.store
        have hbn : Bl x7 (x3.heap.size) #[.bool rb, .slice a4r n4r c4r] := by rw [hx7]; exact (Bl.set (Bl.set bv (by simp)) (by simp))
        replace hw1 := hw1.but bv (not_ints2 nb_bool nb_slice) hbut
        replace hu1 := hu1.but bv (not_ints2 nb_bool nb_slice) hbut
        replace hs4q := hs4q.but bv (not_ints2 nb_bool nb_slice) hbut
        replace hs4r := hs4r.but bv (not_ints2 nb_bool nb_slice) hbut
        replace fp := But.fz hbut fp bp (Nat.succ_pos _) (by omega)
        replace bp := But.bl hbut bp (Nat.succ_pos _) (by omega)
        replace fs := But.fz hbut fs bs (Nat.succ_pos _) (by omega)
        replace bs := But.bl hbut bs (Nat.succ_pos _) (by omega)
        replace fx := But.fz hbut fx bx (Nat.succ_pos _) (by omega)
        replace bx := But.bl hbut bx (Nat.succ_pos _) (by omega)
        replace fv : Fz x7 (x3.heap.size) := by rw [hx7]; exact (Fz.set (Fz.set fv))
        replace HE : Ext w x7 := by rw [hx7]; exact ((HE.store (by show w.heap.size ≤ x3.heap.size; omega) _).store (by show w.heap.size ≤ x3.heap.size; omega) _)
        replace hlo : x2.heap.size ≤ x7.heap.size := Nat.le_trans hlo hbut.1
        clear bv hbut hx7
        have bv := hbn
        clear hbn
        repeat (refine wpE_q (v := ?_) rfl rfl (fun u hu => ?_) ?_; rotate_left 1; (focus (have kp := Bl.low hu bp lop; have ks := Bl.low hu bs los; go_simp; (try rfl))); simp only [Act.put, List.setIfInBounds_toArray, List.set_cons_zero, List.set_cons_succ])
        refine wpE_done ?_
        clear hlo
        go_wp2_with fail
        refine absB (fun ue hue => ?_)
        have hbs : Bl ue (w.heap.size + 1) #[.bool qb, .slice a4q n4q c4q] := by rw [hue]; exact ((bs.set (by simp)).set (by simp))
        have hnc : ∀ {aa : Option Addr} {nn cc VV : Nat}, Nc x7 aa nn cc VV → Nc ue aa nn cc VV := fun h => by
          rw [hue]
          exact h.but bs (not_ints2 nb_bool nb_slice) ((But.refl _ _).store.store)
        have heu : Ext w ue := by rw [hue]; exact (HE.store (by show w.heap.size ≤ w.heap.size + 1; omega) _).store (by show w.heap.size ≤ w.heap.size + 1; omega) _
        clear hue
        refine bodyPost_cells rfl rfl Try.underlying97 rfl (by kernel_rfl) (bl_two hbs) rfl ?_
        exact RetW.mk rfl HQB.out.symm (hnc hs4q) heu
    · refine wpE_l rfl rfl (fun K hK => ?_)
      go_simp
      refine hK.out _ _ ((Below.refl _ _).alloc hlo _) ?_
      clear hK K
      try simp only [Act.put, List.setIfInBounds_toArray, List.set_cons_zero, List.set_cons_succ]
      have gex := hlo
      have lpx := bp.lt (Nat.succ_pos _)
      have lsx := bs.lt (Nat.succ_pos _)
      have lvx := bv.lt (Nat.succ_pos _)
      have l0x := HE.size
      refine absE (fun x5 hx5 => ?_)
      have hx : Ext x4 x5 := by rw [hx5]; exact ((Ext.refl _).alloc _)
      have bx : Bl x5 (x4.heap.size) #[.bool false, .slice none 0 0] := by rw [hx5]; exact (Bl.new (by simp))
      have fx : Fz x5 (x4.heap.size) := by rw [hx5]; exact (Fz.new (by simp))
      replace hlo := Nat.le_trans hlo hx.size
      replace fp := Fz.ext hx fp bp (Nat.succ_pos _)
      replace bp := Bl.ext hx bp (Nat.succ_pos _)
      replace fs := Fz.ext hx fs bs (Nat.succ_pos _)
      replace bs := Bl.ext hx bs (Nat.succ_pos _)
      replace fv := Fz.ext hx fv bv (Nat.succ_pos _)
      replace bv := Bl.ext hx bv (Nat.succ_pos _)
      replace hw1 := hw1.ext hx
      replace hu1 := hu1.ext hx
      replace HE := HE.trans hx
      clear hx
      clear hx5
      refine wpE_l rfl rfl (fun K hK => ?_)
      go_simp
      refine (g_up b1 a1 d1 n1 c1 m1 k1 _).mono ?_
      rintro e u3 ⟨rfl, hx⟩
      refine hK.out _ _ (Below.mono hx hlo) ?_
      clear hK K
      try simp only [Act.put, List.setIfInBounds_toArray, List.set_cons_zero, List.set_cons_succ]
      replace hlo := Nat.le_trans hlo hx.size
      replace fp := Fz.ext hx fp bp (Nat.succ_pos _)
      replace bp := Bl.ext hx bp (Nat.succ_pos _)
      replace fs := Fz.ext hx fs bs (Nat.succ_pos _)
      replace bs := Bl.ext hx bs (Nat.succ_pos _)
      replace fv := Fz.ext hx fv bv (Nat.succ_pos _)
      replace bv := Bl.ext hx bv (Nat.succ_pos _)
      replace fx := Fz.ext hx fx bx (Nat.succ_pos _)
      replace bx := Bl.ext hx bx (Nat.succ_pos _)
      replace hw1 := hw1.ext hx
      replace hu1 := hu1.ext hx
      replace HE := HE.trans hx
      clear hx
      refine wpE_l rfl rfl (fun K hK => ?_)
      go_simp
      refine (HV.out _ _ _ _ _ _ _ _ _ hw1 (hu1.wh HM1.out)).mono ?_
      rintro e u4 ⟨a4q, n4q, c4q, a4r, n4r, c4r, rfl, hs4q, hs4r, hx⟩
      refine hK.out _ _ (Below.mono hx hlo) ?_
      clear hK K
      try simp only [Act.put, List.setIfInBounds_toArray, List.set_cons_zero, List.set_cons_succ]
      replace hlo := Nat.le_trans hlo hx.size
      replace fp := Fz.ext hx fp bp (Nat.succ_pos _)
      replace bp := Bl.ext hx bp (Nat.succ_pos _)
      replace fs := Fz.ext hx fs bs (Nat.succ_pos _)
      replace bs := Bl.ext hx bs (Nat.succ_pos _)
      replace fv := Fz.ext hx fv bv (Nat.succ_pos _)
      replace bv := Bl.ext hx bv (Nat.succ_pos _)
      replace fx := Fz.ext hx fx bx (Nat.succ_pos _)
      replace bx := Bl.ext hx bx (Nat.succ_pos _)
      replace hw1 := hw1.ext hx
      replace hu1 := hu1.ext hx
      replace HE := HE.trans hx
      clear hx
      repeat (refine wpE_q (v := ?_) rfl rfl (fun u hu => ?_) ?_; rotate_left 1; (focus (have kp := Bl.low hu bp lop; have ks := Bl.low hu bs los; go_simp; (try rfl))); simp only [Act.put, List.setIfInBounds_toArray, List.set_cons_zero, List.set_cons_succ])
      refine wpE_l rfl rfl (fun K hK => ?_)
      go_simp
      refine hK.out _ _ (((Below.refl _ _).setCell (by show x2.heap.size ≤ x4.heap.size; omega) _).setCell (by show x2.heap.size ≤ x4.heap.size; omega) _) ?_
      clear hK K
      try simp only [Act.put, List.setIfInBounds_toArray, List.set_cons_zero, List.set_cons_succ]
      refine absE (fun x6 hx6 => ?_)
      have hbut : But u4 x6 (x4.heap.size) := by rw [hx6]; exact (But.refl _ _).store.store
      have hbn : Bl x6 (x4.heap.size) #[.bool qb, .slice a4q n4q c4q] := by rw [hx6]; exact (Bl.set (Bl.set bx (by simp)) (by simp))
      replace hw1 := hw1.but bx (not_ints2 nb_bool nb_slice) hbut
      replace hu1 := hu1.but bx (not_ints2 nb_bool nb_slice) hbut
      replace hs4q := hs4q.but bx (not_ints2 nb_bool nb_slice) hbut
      replace hs4r := hs4r.but bx (not_ints2 nb_bool nb_slice) hbut
      replace fp := But.fz hbut fp bp (Nat.succ_pos _) (by omega)
      replace bp := But.bl hbut bp (Nat.succ_pos _) (by omega)
      replace fs := But.fz hbut fs bs (Nat.succ_pos _) (by omega)
      replace bs := But.bl hbut bs (Nat.succ_pos _) (by omega)
      replace fv := But.fz hbut fv bv (Nat.succ_pos _) (by omega)
      replace bv := But.bl hbut bv (Nat.succ_pos _) (by omega)
      replace fx : Fz x6 (x4.heap.size) := by rw [hx6]; exact (Fz.set (Fz.set fx))
      replace HE : Ext w x6 := by rw [hx6]; exact ((HE.store (by show w.heap.size ≤ x4.heap.size; omega) _).store (by show w.heap.size ≤ x4.heap.size; omega) _)
      replace hlo : x2.heap.size ≤ x6.heap.size := Nat.le_trans hlo hbut.1
      clear bx hbut hx6
      have bx := hbn
      clear hbn
      refine wpE_l rfl rfl (fun K hK => ?_)
      go_simp
      refine hK.out _ _ (((Below.refl _ _).setCell (by show x2.heap.size ≤ x3.heap.size; omega) _).setCell (by show x2.heap.size ≤ x3.heap.size; omega) _) ?_
      clear hK K
      try simp only [Act.put, List.setIfInBounds_toArray, List.set_cons_zero, List.set_cons_succ]
      refine absE (fun x7 hx7 => ?_)
      have hbut : But x6 x7 (x3.heap.size) := by rw [hx7]; exact (But.refl _ _).store.store
      have hbn : Bl x7 (x3.heap.size) #[.bool rb, .slice a4r n4r c4r] := by rw [hx7]; exact (Bl.set (Bl.set bv (by simp)) (by simp))
      replace hw1 := hw1.but bv (not_ints2 nb_bool nb_slice) hbut
      replace hu1 := hu1.but bv (not_ints2 nb_bool nb_slice) hbut
      replace hs4q := hs4q.but bv (not_ints2 nb_bool nb_slice) hbut
      replace hs4r := hs4r.but bv (not_ints2 nb_bool nb_slice) hbut
      replace fp := But.fz hbut fp bp (Nat.succ_pos _) (by omega)
      replace bp := But.bl hbut bp (Nat.succ_pos _) (by omega)
      replace fs := But.fz hbut fs bs (Nat.succ_pos _) (by omega)
      replace bs := But.bl hbut bs (Nat.succ_pos _) (by omega)
      replace fx := But.fz hbut fx bx (Nat.succ_pos _) (by omega)
      replace bx := But.bl hbut bx (Nat.succ_pos _) (by omega)
      replace fv : Fz x7 (x3.heap.size) := by rw [hx7]; exact (Fz.set (Fz.set fv))
      replace HE : Ext w x7 := by rw [hx7]; exact ((HE.store (by show w.heap.size ≤ x3.heap.size; omega) _).store (by show w.heap.size ≤ x3.heap.size; omega) _)
      replace hlo : x2.heap.size ≤ x7.heap.size := Nat.le_trans hlo hbut.1
      clear bv hbut hx7
      have bv := hbn
      clear hbn
      repeat (refine wpE_q (v := ?_) rfl rfl (fun u hu => ?_) ?_; rotate_left 1; (focus (have kp := Bl.low hu bp lop; have ks := Bl.low hu bs los; go_simp; (try rfl))); simp only [Act.put, List.setIfInBounds_toArray, List.set_cons_zero, List.set_cons_succ])
      refine wpE_done ?_
      clear hlo
      go_wp2_with fail
      refine absB (fun ue hue => ?_)
      have hbs : Bl ue (w.heap.size + 1) #[.bool qb, .slice a4q n4q c4q] := by rw [hue]; exact ((bs.set (by simp)).set (by simp))
      have hnc : ∀ {aa : Option Addr} {nn cc VV : Nat}, Nc x7 aa nn cc VV → Nc ue aa nn cc VV := fun h => by
        rw [hue]
        exact h.but bs (not_ints2 nb_bool nb_slice) ((But.refl _ _).store.store)
      have heu : Ext w ue := by rw [hue]; exact (HE.store (by show w.heap.size ≤ w.heap.size + 1; omega) _).store (by show w.heap.size ≤ w.heap.size + 1; omega) _
      clear hue
      refine bodyPost_cells rfl rfl Try.underlying97 rfl (by kernel_rfl) (bl_two hbs) rfl ?_
      exact RetW.mk rfl HQB.out.symm (hnc hs4q) heu
end
end Go.Proofs.Ytlhaepcnhkaclaa

namespace Go.Proofs.Ytlhaepcnhkaclaa
set_option linter.unusedVariables false
open Go Go.RowKit

theorem Nc.litAt {w : World} {g : Nat} (hg : g = w.heap.size) (d : Nat) (h : 1 ≤ d) (h2 : d ≤ 4294967295) (e : TypeId) : Nc (w.alloc (.cells #[.int .u32 (d : Int)] e)) (some ⟨g, 0, none⟩) 1 1 d := by
  subst hg; exact Nc.lit1 w d h h2 e
theorem isq_24 : isq 24 = 4 := (isq_uniq (by decide) (by decide)).symm
theorem isq_25 : isq 25 = 5 := (isq_uniq (by decide) (by decide)).symm

end Go.Proofs.Ytlhaepcnhkaclaa

namespace Go.Proofs.Ytlhaepcnhkaclaa
set_option linter.unusedVariables false
open Go Go.RowKit

theorem bits_Len64_any (x : Nat) (w : World) (hx : x ≤ 18446744073709551615) :
    Calls Try.prog 95 #[.int .u64 x] w fun e w' => e = .returned (.int .i64 (bitlen x : Nat)) ∧ w = w' := by
  refine (Try.bits_Len64 x w (by omega) (by omega)).mono ?_
  rintro e w' ⟨rfl, rfl⟩
  refine ⟨ret_int ?_, rfl⟩
  rw [Int.toNat_natCast, Lib.bitLen, bitLen_eq 64 x (by omega)]

/-- What holds at the label. -/
def SiJ (n : Int) (v : Nat) (w : World) (a' : Act) (w' : World) : Prop :=
  ∃ (X : Nat) (u5 u6 u7 u8 u9 u10 u11 u12 u13 u14 u15 u16 u17 u18 u19 u20 u21 u22 u23 u24 u25 u26 : Value), a' = { tmps := #[.int .i64 n, undef, .int .i64 0, .int .u64 (v : Int), .int .u64 (X : Int), u5, u6, u7, u8, u9, u10, u11, u12, u13, u14, u15, u16, u17, u18, u19, u20, u21, u22, u23, u24, u25, u26], defers := [] } ∧ isq v ≤ X ∧ X ≤ 4294967296 ∧ v ≠ 0 ∧ w = w'

set_option maxRecDepth 100000 in
set_option maxHeartbeats 2000000 in
theorem p_SqrtInt (n : Int) (w : World) (h1 : -9223372036854775808 ≤ n) (h2 : n ≤ 9223372036854775807) :
    Calls Try.prog 81 #[.int .i64 n] w fun e w' => e = .returned (.int .i64 (isq n.toNat : Nat)) ∧ w = w' := by
  by_cases hn : n ≤ 0
  · have HZ : Hid (isq n.toNat = 0) := hidP (by rw [show n.toNat = 0 by omega]; rfl)
    have hnd : decide (n ≤ 0) = true := decide_eq_true hn
    go_enter Try.func81, Try.ntmps81
    go_wp2
    refine wp_scope_again 0 (fun _ _ => False) (fun _ _ => 0) rfl (fun _ _ h => h.elim) ?_
    intro _
    go_wp2
    simp only [Exit.jump]
    go_ret
    exact ⟨ret_int (by rw [HZ.out]; rfl), rfl⟩
  · obtain ⟨v, rfl⟩ : ∃ v : Nat, n = v := ⟨n.toNat, by omega⟩
    have hv0 : v ≠ 0 := by omega
    have hvb : v ≤ 9223372036854775807 := by omega
    rw [Int.toNat_natCast]
    have hvd : decide ((v : Int) ≤ 0) = false := decide_eq_false hn
    have hblt := lt_bitlen v
    have hbl1 := (bitlen_low hv0).1
    have hbl2 : bitlen v ≤ 63 := bitlen_le (by omega)
    have HPOW : Hid (isq v ≤ 2 ^ ((bitlen v + 1) / 2)) := hidP (by
      obtain ⟨h1, h2⟩ := isq_spec v
      refine Nat.le_of_lt (sq_lt (Nat.lt_of_le_of_lt h1 (Nat.lt_of_lt_of_le hblt ?_)))
      rw [← Nat.pow_add]
      exact Nat.pow_le_pow_right (by decide) (by omega))
    have HPB : Hid (2 ^ ((bitlen v + 1) / 2) ≤ 4294967296) := hidP (by
      have : 2 ^ ((bitlen v + 1) / 2) ≤ 2 ^ 32 := Nat.pow_le_pow_right (by decide) (by omega)
      omega)
    have BL := hidP (fun u => bits_Len64_any v u (by omega))
    generalize hb : bitlen v = bl at *
    have hex : ((bl : Int) + 1) / 2 = (((bl + 1) / 2 : Nat) : Int) := by omega
    have hexb : (bl + 1) / 2 ≤ 32 := by omega
    generalize (bl + 1) / 2 = ex at *
    have HV0 := hidP hv0
    obtain ⟨p, hp⟩ : ∃ p, p = 2 ^ ex := ⟨_, rfl⟩
    rw [← hp] at HPOW HPB
    have hpb := HPB.out
    have hsh : IntKind.u64.wrap ((2 : Int) ^ ex) = (p : Int) := by
      have e : (2 : Int) ^ ex = ((2 ^ ex : Nat) : Int) := by rw [Int.natCast_pow]; rfl
      rw [e, ← hp]
      exact IntWalk.u64_in _ (by omega)
    have hsh2 : (2 : Int) ^ ex = (p : Int) := by
      have e : (2 : Int) ^ ex = ((2 ^ ex : Nat) : Int) := by rw [Int.natCast_pow]; rfl
      rw [e, ← hp]
    clear hn hv0 hblt hb hp
    go_enter Try.func81, Try.ntmps81
    go_wp2
    refine wp_scope_again 0 (SiJ (v : Int) v w) (fun a' _ => (intOf (a'.tmps.getD 4 undef)).toNat) rfl ?_ ?_
    · rintro a' w' ⟨X, u5, u6, u7, u8, u9, u10, u11, u12, u13, u14, u15, u16, u17, u18, u19, u20, u21, u22, u23, u24, u25, u26, rfl, hge, hXb, hv, rfl⟩
      have hX0 : 0 < X := by have := isq_pos hv; omega
      have hNG := newton_ge (A := v) hX0
      have hNE := fun h => newton_end (A := v) hX0 h
      have hw1 : IntKind.u64.wrap ((v : Int) / (X : Int)) = ((v / X : Nat) : Int) := by
        rw [← Int.natCast_ediv]
        have : v / X ≤ v := Nat.div_le_self _ _
        generalize v / X = q at *
        exact IntWalk.u64_in _ (by omega)
      have hqb : v / X ≤ v := Nat.div_le_self _ _
      have hXz : ¬ X = 0 := by omega
      generalize v / X = q at *
      obtain ⟨Y, hY⟩ : ∃ Y, Y = (X + q) / 2 := ⟨_, rfl⟩
      have hYi : ((X : Int) + (q : Int)) / 2 = (Y : Int) := by omega
      rw [← hY] at hNG hNE
      have HNG := hidP hNG; have HNE := hidP hNE; have HGE := hidP hge
      have hYb : Y ≤ 9223372036854775807 := by omega
      clear hY hNG hNE hge
      by_cases hlt : Y < X
      · have hd : decide ((X : Int) ≤ (Y : Int)) = false := decide_eq_false (by omega)
        have hd2 : decide (X ≤ Y) = false := decide_eq_false (by omega)
        go_wp2
        go_step3
        rw [hYi]
        refine ⟨rfl, ⟨Y, _, _, _, _, _, _, _, _, _, _, _, _, _, _, _, _, _, _, _, _, _, _, rfl, HNG.out, by omega, hv, rfl⟩, ?_⟩
        show Y < X
        exact hlt
      · have hd : decide ((X : Int) ≤ (Y : Int)) = true := decide_eq_true (by omega)
        have hd2 : decide (X ≤ Y) = true := decide_eq_true (by omega)
        have HEQ : Hid (X = isq v) := hidP (by have := HNE.out (by omega); have := HGE.out; omega)
        go_wp2
        simp only [Exit.jump]
        go_ret
        exact ⟨ret_int (by rw [HEQ.out]), rfl⟩
    · intro hrest
      have HREST := hidP hrest
      clear hrest
      go_wp2_with fail
      refine (BL.out _).mono ?_
      rintro e u ⟨rfl, rfl⟩
      go_wp2_with fail
      go_step3
      refine ‹∀ (a : Act) (w : World), Code.wp _ _ _ a w → _› _ _ ?_
      exact HREST.out _ _ ⟨p, _, _, _, _, _, _, _, _, _, _, _, _, _, _, _, _, _, _, _, _, _, _, rfl, HPOW.out, HPB.out, HV0.out, rfl⟩

theorem cmpI_le {a b : Nat} (h : a ≤ b) : cmpI a b ≤ 0 := by
  unfold cmpI
  split
  · omega
  · rw [if_neg (by omega)]; exact Int.le_refl _
theorem cmpI_gt {a b : Nat} (h : b < a) : cmpI a b = 1 := by
  unfold cmpI
  rw [if_neg (by omega), if_pos h]
theorem sq_step (R e : Nat) : (R + e + e) = R + 2 * e := by omega

set_option maxRecDepth 100000 in
set_option maxHeartbeats 2000000 in
theorem q_Sqrt {a : Option Addr} {n cap A : Nat} {w : World} (h : Nu w a n cap A) (hb : dl A ≤ 274877906944) :
    Calls Try.prog 82 #[.slice a n cap] w (RetN w (isq A)) := by
  have H := hidP h
  have hblt := lt_bitlen A
  have hbl : bitlen A ≤ 32 * dl A := bitlen_le (by rw [Nat.pow_mul]; exact dl_lt A)
  have HST : Hid (A < (0 + 2 ^ (bitlen A / 2 + 1 + 1)) * (0 + 2 ^ (bitlen A / 2 + 1 + 1))) := hidP (by
    rw [Nat.zero_add, ← Nat.pow_add]
    exact Nat.lt_of_lt_of_le hblt (Nat.pow_le_pow_right (by decide) (by omega)))
  have BL := hidP (fun u hh => @d_Bits a n cap A u hh)
  generalize bitlen A = bl at *
  have hbd : (bl : Int) / 2 = ((bl / 2 : Nat) : Int) := by omega
  have hblb : bl ≤ 8796093022208 := by omega
  have hb2 : bl / 2 ≤ 4398046511104 := by omega
  have hb3 : bl / 2 + 1 ≤ 16 * dl A + 1 := by omega
  generalize bl / 2 = h2 at *
  have HB := hidP hb; have HB3 := hidP hb3
  clear h hblt hbl hb hb3
  go_enter Try.func82, Try.ntmps82
  go_wp2_with fail
  refine (BL.out _ H.out).mono ?_
  rintro e u1 ⟨rfl, he⟩
  go_wp2_with fail
  go_loopw [3, 4] (fun rv iv wr => ∃ (k R : Nat) (ar : Option Addr) (nr cr : Nat), k ≤ h2 + 2 ∧ iv = .int .i64 ((k : Int) - 1) ∧ rv = .slice ar nr cr ∧ Nc wr ar nr cr R ∧ R * R ≤ A ∧ A < (R + 2 ^ k) * (R + 2 ^ k) ∧ Ext w wr) (fun _ iv _ => (intOf iv + 1).toNat)
  case atStart => exact ⟨h2 + 1 + 1, 0, none, 0, 0, by omega, by go_num, rfl, Nc.zero _, by omega, HST.out, he⟩
  case round =>
    clear HST he
    obtain ⟨k, R, ar, nr, cr, hk, rfl, rfl, hr, hRA, hAR, he⟩ := hrel
    have HR := hidP hr; have HRA := hidP hRA; have HAR := hidP hAR; have HE := hidP he
    have HDR : Hid (dl R ≤ dl A) := hidP (by
      refine dl_mono ?_
      rcases Nat.eq_zero_or_pos R with h0 | h0
      · omega
      · exact Nat.le_trans (Nat.le_mul_of_pos_right _ h0) hRA)
    clear hr hRA hAR he
    by_cases h0 : 0 < k
    · obtain ⟨i, rfl⟩ : ∃ i, k = i + 1 := ⟨k - 1, by omega⟩
      have e1 : ((i + 1 : Nat) : Int) - 1 = (i : Int) := by omega
      rw [e1]
      clear e1
      have HDP : Hid (dl (2 ^ i) ≤ dl A + 2) := hidP (by have := dl_pow i; have := HB3.out; omega)
      have HDX : Hid (dl (R + 2 ^ i) ≤ dl A + 3) := hidP (dl_add (by have := HDR.out; omega) HDP.out)
      have HDXX : Hid (dl ((R + 2 ^ i) * (R + 2 ^ i)) ≤ 1099511627776) := hidP (by have := dl_mul (R + 2 ^ i) (R + 2 ^ i); have := HDX.out; have := HB.out; omega)
      have HUP : Hid (A < (R + 2 ^ i + 2 ^ i) * (R + 2 ^ i + 2 ^ i)) := hidP (by
        have h9 := HAR.out
        rw [sq_step, show 2 * 2 ^ i = 2 ^ (i + 1) by rw [Nat.pow_succ, Nat.mul_comm]]
        exact h9)
      have hib : i ≤ 35184372088832 := by omega
      go_wp2_with fail
      refine (d_Power i _ hib).mono ?_
      generalize hpi : 2 ^ i = p at *
      have HPI := hidP hpi
      clear hpi
      rintro e u2 ⟨a2, n2, c2, rfl, hs2, he2⟩
      have HS2 := hidP hs2; have HR2 := hidP (HR.out.ext he2); have HE2 := hidP (HE.out.trans he2)
      clear hs2 he2
      go_wp2_with fail
      refine (d_Add (HR2.out.nu (by have := HDR.out; have := HB.out; omega)) (HS2.out.nu (by have := HDP.out; have := HB.out; omega))).mono ?_
      obtain ⟨X, hX⟩ : ∃ X, X = R + p := ⟨_, rfl⟩
      rw [← hX] at HDX HDXX HUP
      rw [← hX]
      have HXE := hidP hX
      clear hX
      rintro e u3 ⟨a3, n3, c3, rfl, hs3, he3⟩
      have HS3 := hidP hs3; have HR3 := hidP (HR2.out.ext he3); have HE3 := hidP (HE2.out.trans he3)
      clear hs3 he3
      go_wp2_with fail
      refine (d_Mul (HS3.out.nu (by have := HDX.out; have := HB.out; omega)) (HS3.out.nu (by have := HDX.out; have := HB.out; omega))).mono ?_
      rintro e u4 ⟨a4, n4, c4, rfl, hs4, he4⟩
      have HS4 := hidP hs4; have HX4 := hidP (HS3.out.ext he4); have HR4 := hidP (HR3.out.ext he4); have HE4 := hidP (HE3.out.trans he4)
      clear hs4 he4
      have hcm := d_Cmp (HS4.out.nu HDXX.out) (H.out.ext HE4.out)
      by_cases hle : X * X ≤ A
      · have hc := cmpI_le hle
        have HLE := hidP hle
        generalize cmpI (X * X) A = cc at *
        have HCM := hidP hcm
        clear hcm hle
        go_wp2_with fail
        refine HCM.out.mono ?_
        rintro e u5 ⟨rfl, he5⟩
        have HX5 := hidP (HX4.out.ext he5); have HE5 := hidP (HE4.out.trans he5)
        clear he5
        go_wp2_with fail
        go_roundw
        case rel => exact ⟨i, X, a3, n3, c3, by omega, rfl, rfl, HX5.out, HLE.out, by rw [HPI.out]; exact HUP.out, HE5.out⟩
        case measure => simp [intOf]
      · have hc := cmpI_gt (a := X * X) (b := A) (by omega)
        have HLE := hidP hle
        rw [hc] at hcm
        have HCM := hidP hcm
        clear hcm hle hc
        go_wp2_with fail
        refine HCM.out.mono ?_
        rintro e u5 ⟨rfl, he5⟩
        have HR5 := hidP (HR4.out.ext he5); have HE5 := hidP (HE4.out.trans he5)
        clear he5
        go_wp2_with fail
        go_roundw
        case rel => exact ⟨i, R, ar, nr, cr, by omega, rfl, rfl, HR5.out, HRA.out, by have h8 := HLE.out; rw [HXE.out] at h8; rw [HPI.out]; omega, HE5.out⟩
        case measure => simp [intOf]
    · obtain rfl : k = 0 := by omega
      have HEQ : Hid (R = isq A) := hidP (isq_uniq HRA.out (by have := HAR.out; rwa [Nat.pow_zero] at this))
      go_wp2_with fail
      go_ret
      exact ⟨_, _, _, rfl, by rw [← HEQ.out]; exact HR.out, HE.out⟩

end Go.Proofs.Ytlhaepcnhkaclaa
