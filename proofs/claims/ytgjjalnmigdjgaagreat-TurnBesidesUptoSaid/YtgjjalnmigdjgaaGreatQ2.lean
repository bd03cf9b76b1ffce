/- The program's fractions (frac): what is reduced. -/
import Derived.Test.YtgjjalnmigdjgaaGreatQ1
namespace Go.Proofs.YtgjjalnmigdjgaaGreat
set_option linter.unusedVariables false
open Go Go.RowKit
/-- The common factor of a fraction's parts. -/
def fg (z : Int) (D : Nat) : Nat := Nat.gcd z.natAbs D
theorem fg_pos {z : Int} {D : Nat} (h : D ≠ 0) : 0 < fg z D := by
  unfold fg
  rcases Nat.eq_zero_or_pos (Nat.gcd z.natAbs D) with h0 | h0
  · exact absurd (Nat.eq_zero_of_gcd_eq_zero_right h0) h
  · exact h0
theorem fg_sign {z : Int} {D : Nat} (hD : D ≠ 0) : wz (decide (z < 0)) (z.natAbs / fg z D) = z / (fg z D : Int) := by
  have hp := fg_pos (z := z) hD
  have hd : fg z D ∣ z.natAbs := Nat.gcd_dvd_left _ _
  generalize fg z D = g at *
  obtain ⟨k, hk⟩ := hd
  have h1 : z.natAbs / g = k := by rw [hk, Nat.mul_div_cancel_left _ hp]
  rw [h1]
  rcases Int.lt_or_le z 0 with h | h
  · have e : z = (g : Int) * (-(k : Int)) := by
      rw [Int.mul_neg, ← Int.natCast_mul, ← hk]; omega
    rw [decide_eq_true h]
    show -(k : Int) = _
    rw [e, Int.mul_ediv_cancel_left _ (by omega)]
  · have e : z = (g : Int) * (k : Int) := by
      rw [← Int.natCast_mul, ← hk]; omega
    rw [decide_eq_false (by omega)]
    show (k : Int) = _
    rw [e, Int.mul_ediv_cancel_left _ (by omega)]
theorem fg_zero {D : Nat} (h : D ≠ 0) : (0 : Int) / (fg 0 D : Int) = 0 ∧ D / fg 0 D = 1 := by
  have e : fg 0 D = D := by unfold fg; simp
  rw [e]
  exact ⟨Int.zero_ediv _, Nat.div_self (Nat.pos_of_ne_zero h)⟩
theorem fg_one {z : Int} : z / (fg z 1 : Int) = z ∧ 1 / fg z 1 = 1 := by
  have e : fg z 1 = 1 := by unfold fg; exact Nat.gcd_one_right _
  rw [e]
  exact ⟨Int.ediv_one z, rfl⟩
theorem zabs_pos {z : Int} (h : z ≠ 0) : z.natAbs ≠ 0 := by omega
set_option maxRecDepth 100000 in
set_option maxHeartbeats 4000000 in
theorem f_frac {a d : Option Addr} {n cap m c : Nat} {z : Int} {D : Nat} {w : World} (hz : Nc w a n cap z.natAbs) (hd : Nc w d m c D) (hD0 : D ≠ 0) (hb : dl z.natAbs ≤ 549755813888) (hb' : dl D ≤ 549755813888) :
    Calls Tryz.prog 132 #[.agg #[.bool (decide (z < 0)), .slice a n cap, .slice d m c]] w (RetF w (z / (fg z D : Int)) (D / fg z D)) := by
 have hlen := hz.len
 have hsg := fg_sign (z := z) hD0
 have HZ := hidP hz; have HD := hidP hd; have HB := hidP hb; have HB' := hidP hb'; have HD0 := hidP hD0
 by_cases hz0 : z = 0
 · subst hz0
   have hn0 : n = 0 := by rw [hlen]; exact dl_zero
   subst hn0
   have HR := hidP (fg_zero hD0)
   clear hlen hsg hz hd hb hb' hD0
   generalize decide ((0 : Int) < 0) = b0 at *
   go_enter Tryz.func132, Tryz.ntmps132
   go_wp2_with fail
   refine absC (fun x1 hx1 => ?_)
   have hx : Ext w x1 := by rw [hx1]; exact (((Ext.refl _).alloc _).alloc _)
   have bp : Bl x1 (w.heap.size) #[.bool b0, .slice a 0 cap, .slice d m c] := by rw [hx1]; exact ((Bl.new (by simp)).alloc (by simp))
   have bs : Bl x1 (w.heap.size + 1) #[.bool false, .slice none 0 0, .slice none 0 0] := by rw [hx1]; exact (Bl.new (by simp))
   have fs : Fz x1 (w.heap.size + 1) := by rw [hx1]; exact (Fz.new (by simp))
   have HE := hx
   clear hx
   clear hx1
   refine (f_unit _).mono ?_
   rintro e u2 ⟨a2, n2, c2, rfl, hs2, hx⟩
   replace bp := q1b hx bp
   replace fs := q1f hx fs bs
   replace bs := q1b hx bs
   replace HE := HE.trans hx
   clear hx
   have HS2 := hidP hs2
   clear hs2
   go_wp2_with fail
   refine absB (fun ue hue => ?_)
   have hbs : Bl ue (w.heap.size + 1) #[.bool false, .slice none 0 0, .slice a2 n2 c2] := by rw [hue]; exact (((bs.set (by simp)).set (by simp)).set (by simp))
   have hnc : ∀ {aa : Option Addr} {nn cc VV : Nat}, Nc u2 aa nn cc VV → Nc ue aa nn cc VV := fun h => by
    rw [hue]
    exact h.but bs (not_ints3 nb_bool nb_slice nb_slice) ((But.refl _ _).store.store.store)
   have heu : Ext w ue := by rw [hue]; exact ((HE.store (by show w.heap.size ≤ w.heap.size + 1; omega) _).store (by show w.heap.size ≤ w.heap.size + 1; omega) _).store (by show w.heap.size ≤ w.heap.size + 1; omega) _
   clear hue
   refine bodyPost_cells rfl rfl Tryz.underlying29 rfl (by kernel_rfl) (bl_three hbs) rfl ?_
   exact RetF.of HR.out.1 HR.out.2 rfl (Nc.zero _) (hnc HS2.out) heu
 have hnp : 0 < n := by rw [hlen]; exact dl_pos (zabs_pos hz0)
 have hnz : ((n : Int) == 0) = false := by simp; omega
 have HLEN := hidP hlen
 have HU := hidP (fun u (hh : Nc u d m c D) => f_isUnit hh)
 by_cases hD1 : D = 1
 · have HD1 := hidP hD1
   have HR := hidP (@fg_one z)
   clear hlen hsg hz hd hb hb' hD0 hD1 hz0
   generalize hbz : decide (z < 0) = bz at *
   have HBZ := hidP hbz; clear hbz
   go_enter Tryz.func132, Tryz.ntmps132
   go_wp2_with fail
   refine absC (fun x1 hx1 => ?_)
   have hx : Ext w x1 := by rw [hx1]; exact (((Ext.refl _).alloc _).alloc _)
   have bp : Bl x1 (w.heap.size) #[.bool bz, .slice a n cap, .slice d m c] := by rw [hx1]; exact ((Bl.new (by simp)).alloc (by simp))
   have bs : Bl x1 (w.heap.size + 1) #[.bool false, .slice none 0 0, .slice none 0 0] := by rw [hx1]; exact (Bl.new (by simp))
   have fs : Fz x1 (w.heap.size + 1) := by rw [hx1]; exact (Fz.new (by simp))
   have HE := hx
   clear hx
   clear hx1
   refine (HU.out _ (HD.out.ext HE)).mono ?_
   rw [decide_eq_true HD1.out]
   rintro e u1 ⟨rfl, rfl⟩
   go_wp2_with fail
   have hz1 := HZ.out.ext HE
   refine wp_region_plan (R := Ext) (.q 0 (.q 1 (.l 2 (.q 3 (.b 4 .done))))) (by kernel_rfl) (by kernel_rfl) (by kernel_rfl) (by kernel_rfl) Ext.refl (fun _ _ _ => Ext.trans) ?_
   refine absE (fun x2 hx2 => ?_)
   have hx : Ext x1 x2 := by rw [hx2]; exact (Ext.refl _).drew
   replace bp := q1b hx bp
   replace fs := q1f hx fs bs
   replace bs := q1b hx bs
   replace hz1 := hz1.ext hx
   replace HE := HE.trans hx
   clear hx
   clear hx2
   repeat (refine wpE_q (v := ?_) rfl rfl (fun u hu => ?_) ?_; rotate_left 1; (focus (have kp := q1b hu bp; have ks := q1b hu bs; go_simp; (try rfl))); simp only [PU])
   refine wpE_l rfl rfl (fun K hK => ?_)
   go_simp
   refine (f_unit _).mono ?_
   rintro e u2 ⟨a2, n2, c2, rfl, hs2, hx⟩
   refine hK.out _ _ hx ?_
   clear hK K
   try simp only [PU]
   replace bp := q1b hx bp
   replace fs := q1f hx fs bs
   replace bs := q1b hx bs
   replace hz1 := hz1.ext hx
   replace HE := HE.trans hx
   clear hx
   repeat (refine wpE_q (v := ?_) rfl rfl (fun u hu => ?_) ?_; rotate_left 1; (focus (have kp := q1b hu bp; have ks := q1b hu bs; go_simp; (try rfl))); simp only [PU])
   refine wpE_b rfl rfl (fun K hK => ?_)
   go_simp
   refine hK.out _ _ ?_
   clear hK K
   try simp only [PU]
   refine absE (fun x3 hx3 => ?_)
   have hbut : But u2 x3 (w.heap.size + 1) := by rw [hx3]; exact (But.refl _ _).store.store.store
   have hbn : Bl x3 (w.heap.size + 1) #[.bool bz, .slice a n cap, .slice a2 n2 c2] := by rw [hx3]; exact (Bl.set (Bl.set (Bl.set bs (by simp)) (by simp)) (by simp))
   replace hz1 := hz1.but bs (not_ints3 nb_bool nb_slice nb_slice) hbut
   replace hs2 := hs2.but bs (not_ints3 nb_bool nb_slice nb_slice) hbut
   replace bp := But.bl hbut bp (Nat.succ_pos _) (by omega)
   replace fs : Fz x3 (w.heap.size + 1) := by rw [hx3]; exact (Fz.set (Fz.set (Fz.set fs)))
   replace HE : Ext w x3 := by rw [hx3]; exact (((HE.store (by show w.heap.size ≤ w.heap.size + 1; omega) _).store (by show w.heap.size ≤ w.heap.size + 1; omega) _).store (by show w.heap.size ≤ w.heap.size + 1; omega) _)
   clear bs hbut hx3
   have bs := hbn
   clear hbn
   refine wpE_done ?_
   go_wp2_with fail
   refine bodyPost_cells rfl rfl Tryz.underlying29 rfl (by kernel_rfl) (bl_three bs) rfl ?_
   exact RetF.of (by rw [HD1.out]; exact HR.out.1) (by rw [HD1.out]; exact HR.out.2) HBZ.out.symm hz1 hs2 HE
 have HD1 : Hid (decide (D = 1) = false) := hidP (decide_eq_false hD1)
 have hgp := fg_pos (z := z) hD0
 have hdq1 := dl_div z.natAbs (fg z D)
 have HDQ : Hid (dl (z.natAbs / fg z D) ≤ 549755813888) := hidP (by omega)
 have hrd := fun u (t1 : Nu u a n cap z.natAbs) (t2 : Nu u d m c D) => p_Reduce t1 t2
 have HRD : Hid (∀ u, Nu u a n cap z.natAbs → Nu u d m c D → Calls Tryz.prog 173 #[.slice a n cap, .slice d m c] u (RetN2 u (z.natAbs / fg z D) (D / fg z D))) := hidP hrd
 have HSG := hidP hsg
 clear hlen hsg hz hd hb hb' hD0 hD1 hz0 hdq1 hrd hgp
 generalize hbz : decide (z < 0) = bz at *
 have HBZ := hidP hbz; clear hbz
 go_enter Tryz.func132, Tryz.ntmps132
 go_wp2_with fail
 refine absC (fun x1 hx1 => ?_)
 have hx : Ext w x1 := by rw [hx1]; exact (((Ext.refl _).alloc _).alloc _)
 have bp : Bl x1 (w.heap.size) #[.bool bz, .slice a n cap, .slice d m c] := by rw [hx1]; exact ((Bl.new (by simp)).alloc (by simp))
 have bs : Bl x1 (w.heap.size + 1) #[.bool false, .slice none 0 0, .slice none 0 0] := by rw [hx1]; exact (Bl.new (by simp))
 have fs : Fz x1 (w.heap.size + 1) := by rw [hx1]; exact (Fz.new (by simp))
 have HE := hx
 clear hx
 clear hx1
 refine (HU.out _ (HD.out.ext HE)).mono ?_
 rw [HD1.out]
 rintro e u1 ⟨rfl, rfl⟩
 go_wp2_with fail
 refine (HRD.out _ ((HZ.out.ext HE).nu (by have := HB.out; omega)) ((HD.out.ext HE).nu (by have := HB'.out; omega))).mono ?_
 rintro e u3 ⟨a3, n3, c3, a4, n4, c4, rfl, hs3, hs4, hx⟩
 replace bp := q1b hx bp
 replace fs := q1f hx fs bs
 replace bs := q1b hx bs
 replace HE := HE.trans hx
 clear hx
 have hwz : WhIn u3 bz a3 n3 c3 (wz bz (z.natAbs / fg z D)) := ⟨⟨_, hs3, Ws.dig _, by rw [val_dig B32_two]⟩, by have := Nc.len hs3; have := HDQ.out; omega⟩
 have HWZ := hidP hwz
 clear hwz
 clear hs3
 go_wp2_with fail
 refine (w_Make HWZ.out).mono ?_
 rintro e u5 ⟨a5, n5, c5, rfl, hs5, hx⟩
 replace bp := q1b hx bp
 replace fs := q1f hx fs bs
 replace bs := q1b hx bs
 replace hs4 := hs4.ext hx
 replace HE := HE.trans hx
 clear hx
 replace hs5 : Nc u5 a5 n5 c5 (wz bz (z.natAbs / fg z D)).natAbs := hs5
 have HS4 := hidP hs4; have HS5 := hidP hs5
 clear hs4 hs5
 go_wp2_with fail
 refine absB (fun ue hue => ?_)
 have hbs : Bl ue (w.heap.size + 1) #[.bool (decide (wz bz (z.natAbs / fg z D) < 0)), .slice a5 n5 c5, .slice a4 n4 c4] := by rw [hue]; exact (((bs.set (by simp)).set (by simp)).set (by simp))
 have hnc : ∀ {aa : Option Addr} {nn cc VV : Nat}, Nc u5 aa nn cc VV → Nc ue aa nn cc VV := fun h => by
  rw [hue]
  exact h.but bs (not_ints3 nb_bool nb_slice nb_slice) ((But.refl _ _).store.store.store)
 have heu : Ext w ue := by rw [hue]; exact ((HE.store (by show w.heap.size ≤ w.heap.size + 1; omega) _).store (by show w.heap.size ≤ w.heap.size + 1; omega) _).store (by show w.heap.size ≤ w.heap.size + 1; omega) _
 clear hue
 refine bodyPost_cells rfl rfl Tryz.underlying29 rfl (by kernel_rfl) (bl_three hbs) rfl ?_
 exact RetF.of HSG.out.symm rfl rfl (hnc HS5.out) (hnc HS4.out) heu
end Go.Proofs.YtgjjalnmigdjgaaGreat
