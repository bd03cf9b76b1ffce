/- The document's fractions on rationals: differences, halves, signs, order, floors. -/
import Derived.Test.YtgjjalnmigdjgaaGreatQR
import Derived.Deep.DeepCutAuto
namespace Go.Proofs.YtgjjalnmigdjgaaGreat
set_option linter.unusedVariables false
open Go Go.RowKit
theorem Bl.low {n0 : Nat} {w u : World} {g : Nat} {cs : Array Value} (he : Below n0 w u) (h : Bl w g cs) (hl : g < n0) : Bl u g cs := fun j =>
  (Below.cell (p := ⟨g, j, none⟩) he hl).trans (h j)
theorem sgn_mk {z : Int} {D : Nat} (h : D ≠ 0) : sgn (mkRat z D).num = sgn z := by
  have hn := rz_num (z := z) h
  rw [← hn.1]
  unfold rz
  have hg := fg_pos (z := z) h
  have d1 : (fg z D : Int) ∣ z := by
    unfold fg
    exact Int.ofNat_dvd_left.2 (Nat.gcd_dvd_left _ _)
  generalize fg z D = g at *
  obtain ⟨x, rfl⟩ := d1
  rw [Int.mul_ediv_cancel_left _ (by omega)]
  have hg' : (0 : Int) < (g : Int) := by omega
  unfold sgn
  rcases Int.lt_trichotomy x 0 with h | h | h
  · have := Int.mul_neg_of_pos_of_neg hg' h
    rw [if_neg (by omega), if_pos h, if_neg (by omega), if_pos this]
  · subst h; simp
  · have := Int.mul_pos hg' h
    rw [if_neg (by omega), if_neg (by omega), if_neg (by omega), if_neg (by omega)]
/-- How two rationals stand. -/
def cmpQ (q q' : Rat) : Int := sgn (q.num * (q'.den : Int) - q'.num * (q.den : Int))
theorem cmpQ_mk {z z' : Int} {D D' : Nat} (h : D ≠ 0) (h' : D' ≠ 0) : sgn (z * (D' : Int) - z' * (D : Int)) = cmpQ (mkRat z D) (mkRat z' D') := by
  unfold cmpQ
  have hn := rz_num (z := z) h
  have hn' := rz_num (z := z') h'
  rw [← hn.1, ← hn.2, ← hn'.1, ← hn'.2]
  unfold rz rd
  have hg := fg_pos (z := z) h
  have hg' := fg_pos (z := z') h'
  have d1 : (fg z D : Int) ∣ z := by unfold fg; exact Int.ofNat_dvd_left.2 (Nat.gcd_dvd_left _ _)
  have d2 : fg z D ∣ D := Nat.gcd_dvd_right _ _
  have d1' : (fg z' D' : Int) ∣ z' := by unfold fg; exact Int.ofNat_dvd_left.2 (Nat.gcd_dvd_left _ _)
  have d2' : fg z' D' ∣ D' := Nat.gcd_dvd_right _ _
  generalize fg z D = g at *
  generalize fg z' D' = g' at *
  obtain ⟨x, rfl⟩ := d1
  obtain ⟨y, rfl⟩ := d2
  obtain ⟨x', rfl⟩ := d1'
  obtain ⟨y', rfl⟩ := d2'
  rw [Int.mul_ediv_cancel_left _ (by omega), Nat.mul_div_cancel_left _ hg, Int.mul_ediv_cancel_left _ (by omega), Nat.mul_div_cancel_left _ hg', Int.natCast_mul, Int.natCast_mul]
  have e : (g : Int) * x * ((g' : Int) * (y' : Int)) - (g' : Int) * x' * ((g : Int) * (y : Int)) = ((g : Int) * (g' : Int)) * (x * (y' : Int) - x' * (y : Int)) := by grind
  rw [e]
  have hp : (0 : Int) < (g : Int) * (g' : Int) := Int.mul_pos (by omega) (by omega)
  generalize (g : Int) * (g' : Int) = G at *
  generalize x * (y' : Int) - x' * (y : Int) = X at *
  unfold sgn
  rcases Int.lt_trichotomy X 0 with h | h | h
  · have := Int.mul_neg_of_pos_of_neg hp h
    rw [if_neg (by omega), if_pos this, if_neg (by omega), if_pos h]
  · subst h; simp
  · have := Int.mul_pos hp h
    rw [if_neg (by omega), if_neg (by omega), if_neg (by omega), if_neg (by omega)]
section
variable {b b' : Bool} {a d a' d' : Option Addr} {n c m k n' c' m' k' N N' : Nat} {q q' : Rat} {w : World}
set_option maxRecDepth 100000 in
set_option maxHeartbeats 4000000 in
theorem gq_Sub (h : Fq w b a n c d m k q N) (h' : Fq w b' a' n' c' d' m' k' q' N') (hN : N ≤ 137438953472) (hN' : N' ≤ 137438953472) (hN1 : 1 ≤ N') :
    Calls Tryz.prog 55 #[.agg #[.bool b, .slice a n c, .slice d m k], .agg #[.bool b', .slice a' n' c', .slice d' m' k']] w (RetF w (q - q').num (q - q').den) := by
 have H := hidP h; have H' := hidP h'
 have hl := h'.ql hN1
 have hl2 : ql (-q') ≤ 137438953472 := by rw [ql_neg]; omega
 have HL := hidP hl2
 have H1 := hidP (fun (u : World) (t : Fq u b' a' n' c' d' m' k' q' N') => gq_Neg t hN')
 rw [Rat.sub_eq_add_neg]
 generalize -q' = t at *
 have H2 := hidP (fun (u : World) (b2 : Bool) (a2 d2 : Option Addr) (n2 c2 m2 k2 : Nat) (t1 : Fq u b a n c d m k q N) (t2 : Fq u b2 a2 n2 c2 d2 m2 k2 t 137438953472) => gq_Add t1 t2 hN (by omega))
 generalize q + t = r at *
 clear h h' hl hl2 hN hN' hN1
 go_enter Tryz.func55, Tryz.ntmps55
 go_wp2_with fail
 refine wp_region_plan (R := Ext) (.q 0 (.q 1 (.l 2 (.l 3 (.b 4 .done))))) (by kernel_rfl) (by kernel_rfl) (by kernel_rfl) (by kernel_rfl) Ext.refl (fun _ _ _ => Ext.trans) ?_
 refine absE (fun x1 hx1 => ?_)
 have hx : Ext w x1 := by rw [hx1]; exact ((((Ext.refl _).alloc _).alloc _).alloc _).drew
 have bp : Bl x1 (w.heap.size) #[.bool b, .slice a n c, .slice d m k] := by rw [hx1]; exact (((Bl.new (by simp)).alloc (by simp)).alloc (by simp)).drew
 have bq : Bl x1 (w.heap.size + 1) #[.bool b', .slice a' n' c', .slice d' m' k'] := by rw [hx1]; exact ((Bl.new (by simp)).alloc (by simp)).drew
 have bs : Bl x1 (w.heap.size + 1 + 1) #[.bool false, .slice none 0 0, .slice none 0 0] := by rw [hx1]; exact (Bl.new (by simp)).drew
 have fs : Fz x1 (w.heap.size + 1 + 1) := by rw [hx1]; exact (Fz.new (by simp)).drew
 have HE := hx
 clear hx
 clear hx1
 repeat (refine wpE_q (v := ?_) rfl rfl (fun u hu => ?_) ?_; rotate_left 1; (focus (have kp := q1b hu bp; have kq := q1b hu bq; have ks := q1b hu bs; go_simp; (try rfl))); simp only [PU])
 refine wpE_l rfl rfl (fun K hK => ?_)
 go_simp
 refine (H1.out _ (H'.out.ext HE)).mono ?_
 rintro e u1 ⟨a1, n1, c1, d1, m1, k1, rfl, hs1, ht1, hx⟩
 refine hK.out _ _ hx ?_
 clear hK K
 try simp only [PU]
 replace bp := q1b hx bp
 replace bq := q1b hx bq
 replace fs := q1f hx fs bs
 replace bs := q1b hx bs
 replace HE := HE.trans hx
 clear hx
 replace hs1 : Nc u1 a1 n1 c1 (t.num).natAbs := hs1
 replace ht1 : Nc u1 d1 m1 k1 (t.den) := ht1
 refine wpE_l rfl rfl (fun K hK => ?_)
 go_simp
 refine (H2.out _ _ _ _ _ _ _ _ (H.out.ext HE) (fq_of hs1 ht1 HL.out (by omega))).mono ?_
 rintro e u2 ⟨a2, n2, c2, d2, m2, k2, rfl, hs2, ht2, hx⟩
 refine hK.out _ _ hx ?_
 clear hK K
 try simp only [PU]
 replace bp := q1b hx bp
 replace bq := q1b hx bq
 replace fs := q1f hx fs bs
 replace bs := q1b hx bs
 replace hs1 := hs1.ext hx
 replace ht1 := ht1.ext hx
 replace HE := HE.trans hx
 clear hx
 replace hs2 : Nc u2 a2 n2 c2 (r.num).natAbs := hs2
 replace ht2 : Nc u2 d2 m2 k2 (r.den) := ht2
 refine wpE_b rfl rfl (fun K hK => ?_)
 go_simp
 refine hK.out _ _ ?_
 clear hK K
 try simp only [PU]
 refine absE (fun x2 hx2 => ?_)
 have hbut : But u2 x2 (w.heap.size + 1 + 1) := by rw [hx2]; exact (But.refl _ _).store.store.store
 have hbn : Bl x2 (w.heap.size + 1 + 1) #[(.bool (decide (r.num < 0))), .slice a2 n2 c2, .slice d2 m2 k2] := by rw [hx2]; exact (Bl.set (Bl.set (Bl.set bs (by simp)) (by simp)) (by simp))
 replace hs1 := hs1.but bs (not_ints3 nb_bool nb_slice nb_slice) hbut
 replace ht1 := ht1.but bs (not_ints3 nb_bool nb_slice nb_slice) hbut
 replace hs2 := hs2.but bs (not_ints3 nb_bool nb_slice nb_slice) hbut
 replace ht2 := ht2.but bs (not_ints3 nb_bool nb_slice nb_slice) hbut
 replace bp := But.bl hbut bp (Nat.succ_pos _) (by omega)
 replace bq := But.bl hbut bq (Nat.succ_pos _) (by omega)
 replace fs : Fz x2 (w.heap.size + 1 + 1) := by rw [hx2]; exact (Fz.set (Fz.set (Fz.set fs)))
 replace HE : Ext w x2 := by rw [hx2]; exact (((HE.store (by show w.heap.size ≤ w.heap.size + 1 + 1; omega) _).store (by show w.heap.size ≤ w.heap.size + 1 + 1; omega) _).store (by show w.heap.size ≤ w.heap.size + 1 + 1; omega) _)
 clear bs hbut hx2
 have bs := hbn
 clear hbn
 refine wpE_done ?_
 go_wp2_with fail
 refine bodyPost_cells rfl rfl Tryz.underlying29 rfl (by kernel_rfl) (bl_three bs) rfl ?_
 exact RetF.of rfl rfl rfl hs2 ht2 HE
set_option maxRecDepth 100000 in
set_option maxHeartbeats 4000000 in
theorem gq_Half (w : World) : Calls Tryz.prog 19 #[] w (RetF w (mkRat 1 2).num (mkRat 1 2).den) := by
  have e1 : (mkRat 1 2).num = 1 := by decide
  have e2 : (mkRat 1 2).den = 2 := by decide
  rw [e1, e2]
  clear e1 e2
  go_enter Tryz.func19, Tryz.ntmps19
  go_wp2_with fail
  refine absC (fun x1 hx1 => ?_)
  have hx : Ext w x1 := by rw [hx1]; exact ((Ext.refl _).alloc _)
  have bs : Bl x1 (w.heap.size) #[.bool false, .slice none 0 0, .slice none 0 0] := by rw [hx1]; exact (Bl.new (by simp))
  have fs : Fz x1 (w.heap.size) := by rw [hx1]; exact (Fz.new (by simp))
  have HE := hx
  clear hx
  clear hx1
  refine (r02_Of_any 1 _ (by omega) (by omega)).mono ?_
  rintro e u1 ⟨a1, n1, c1, rfl, hs1, hx⟩
  replace fs := q1f hx fs bs
  replace bs := q1b hx bs
  replace HE := HE.trans hx
  clear hx
  replace hs1 : Nc u1 a1 n1 c1 ((1 : Int)).natAbs := hs1
  have lsu := bs.lt (Nat.succ_pos _)
  have lsn : w.heap.size ≠ u1.heap.size := by omega
  go_wp2_with fail
  refine absB (fun ue hue => ?_)
  have hbs : Bl ue (w.heap.size) #[.bool false, .slice a1 n1 c1, .slice (some ⟨u1.heap.size, 0, none⟩) 1 1] := by rw [hue]; exact Bl.alloc (((bs.set (by simp)).set (by simp)).set (by simp)) (by simp)
  have hn1 : Nc ue a1 n1 c1 ((1 : Int)).natAbs := by
    rw [hue]
    exact (hs1.but bs (not_ints3 nb_bool nb_slice nb_slice) ((But.refl _ _).store.store.store)).ext ((Ext.refl _).alloc _)
  have h2 : Nc ue (some ⟨u1.heap.size, 0, none⟩) 1 1 2 := by rw [hue]; exact nc_litAt (by simp) 2 (by omega) (by omega) _
  have heu : Ext w ue := by rw [hue]; exact (((HE.store (by show w.heap.size ≤ w.heap.size; omega) _).store (by show w.heap.size ≤ w.heap.size; omega) _).store (by show w.heap.size ≤ w.heap.size; omega) _).alloc _
  clear hue
  refine bodyPost_cells rfl rfl Tryz.underlying29 rfl (by kernel_rfl) (bl_three hbs) rfl ?_
  exact RetF.of rfl rfl (by decide) hn1 h2 heu
set_option maxRecDepth 100000 in
set_option maxHeartbeats 4000000 in
theorem gq_Cmp (h : Fq w b a n c d m k q N) (h' : Fq w b' a' n' c' d' m' k' q' N') (hN : N ≤ 137438953472) (hN' : N' ≤ 137438953472) :
    Calls Tryz.prog 48 #[.agg #[.bool b, .slice a n c, .slice d m k], .agg #[.bool b', .slice a' n' c', .slice d' m' k']] w (fun e w' => e = .returned (.int .i64 (cmpQ q q')) ∧ Ext w w') := by
 obtain ⟨z, D, hz, hd, hm, hb1, hb2, rfl⟩ := h
 obtain ⟨z', D', hz', hd', hm', hb3, hb4, rfl⟩ := h'
 have HP1 := hidP (fun u t1 t2 => g_worth b a d n c m k z D u t1 t2 hm)
 have HP2 := hidP (fun u t1 t2 => g_worth b' a' d' n' c' m' k' z' D' u t1 t2 hm')
 have B1 : Hid (dl (pz z D).natAbs ≤ 137438953473) := hidP (by have := pz_len z D; omega)
 have B2 : Hid (dl (pd D) ≤ 137438953473) := hidP (by have := pd_len D; omega)
 have B3 : Hid (dl (pz z' D').natAbs ≤ 137438953473) := hidP (by have := pz_len z' D'; omega)
 have B4 : Hid (dl (pd D') ≤ 137438953473) := hidP (by have := pd_len D'; omega)
 have HR := hidP (cmpQ_mk (z := pz z D) (z' := pz z' D') (pd_ne D) (pd_ne D'))
 have HR2 := HR.out
 rw [mk_pr, mk_pr] at HR2
 clear HR
 have HR := hidP HR2
 clear HR2
 generalize cmpQ (mkRat z D) (mkRat z' D') = rr at *
 have HZ := hidP hz; have HD := hidP hd; have HZ' := hidP hz'; have HD' := hidP hd'
 clear hz hd hz' hd' hb1 hb2 hb3 hb4 hm hm' hN hN'
 generalize pz z D = Z at *
 generalize pd D = E at *
 generalize pz z' D' = Y at *
 generalize pd D' = F at *
 have Q1 : Hid (dl (Z * (F : Int)).natAbs ≤ 274877906946) := hidP (by have := dz_mul Z (F : Int); have := B1.out; have := B4.out; rw [Int.natAbs_natCast] at *; omega)
 have Q2 : Hid (dl (Y * (E : Int)).natAbs ≤ 274877906946) := hidP (by have := dz_mul Y (E : Int); have := B3.out; have := B2.out; rw [Int.natAbs_natCast] at *; omega)
 have Q3 : Hid (dl (Z * (F : Int) - Y * (E : Int)).natAbs ≤ 549755813888) := hidP (by have := dz_sub Q1.out Q2.out; omega)
 go_enter Tryz.func48, Tryz.ntmps48
 go_wp2_with fail
 refine wp_region_plan (R := Ext) (.q 0 (.q 2 (.l 1 (.l 3 (.b 4 (.b 5 .done)))))) (by kernel_rfl) (by kernel_rfl) (by kernel_rfl) (by kernel_rfl) Ext.refl (fun _ _ _ => Ext.trans) ?_
 refine absE (fun x1 hx1 => ?_)
 have hx : Ext w x1 := by rw [hx1]; exact (((Ext.refl _).alloc _).alloc _).drew
 have bp : Bl x1 (w.heap.size) #[.bool b, .slice a n c, .slice d m k] := by rw [hx1]; exact ((Bl.new (by simp)).alloc (by simp)).drew
 have fp : Fz x1 (w.heap.size) := by rw [hx1]; exact ((Fz.new (by simp)).alloc (Bl.new (by simp)) (by simp)).drew
 have bq : Bl x1 (w.heap.size + 1) #[.bool b', .slice a' n' c', .slice d' m' k'] := by rw [hx1]; exact (Bl.new (by simp)).drew
 have fq : Fz x1 (w.heap.size + 1) := by rw [hx1]; exact (Fz.new (by simp)).drew
 have HE := hx
 clear hx
 clear hx1
 repeat (refine wpE_q (v := ?_) rfl rfl (fun u hu => ?_) ?_; rotate_left 1; (focus (have kp := q1b hu bp; have kq := q1b hu bq; go_simp; (try rfl))); simp only [PU])
 refine wpE_l rfl rfl (fun K hK => ?_)
 go_simp
 refine (HP1.out _ (HZ.out.ext HE) (HD.out.ext HE)).mono ?_
 rintro e u1 ⟨b1, a1, n1, c1, d1, m1, k1, rfl, hw1, hu1, hm1, hx⟩
 refine hK.out _ _ hx ?_
 clear hK K
 try simp only [PU]
 replace fp := q1f hx fp bp
 replace bp := q1b hx bp
 replace fq := q1f hx fq bq
 replace bq := q1b hx bq
 replace HE := HE.trans hx
 clear hx
 have HM1 := hidP hm1
 clear hm1
 refine wpE_l rfl rfl (fun K hK => ?_)
 go_simp
 refine (HP2.out _ (HZ'.out.ext HE) (HD'.out.ext HE)).mono ?_
 rintro e u2 ⟨b2, a2, n2, c2, d2, m2, k2, rfl, hw2, hu2, hm2, hx⟩
 refine hK.out _ _ hx ?_
 clear hK K
 try simp only [PU]
 replace fp := q1f hx fp bp
 replace bp := q1b hx bp
 replace fq := q1f hx fq bq
 replace bq := q1b hx bq
 replace hw1 := hw1.ext hx
 replace hu1 := hu1.ext hx
 replace HE := HE.trans hx
 clear hx
 have HM2 := hidP hm2
 clear hm2
 refine wpE_b rfl rfl (fun K hK => ?_)
 go_simp
 refine hK.out _ _ ?_
 clear hK K
 try simp only [PU]
 refine absE (fun x2 hx2 => ?_)
 have hbut : But u2 x2 (w.heap.size) := by rw [hx2]; exact (But.refl _ _).store.store.store
 have hbn : Bl x2 (w.heap.size) #[.bool b1, .slice a1 n1 c1, .slice d1 m1 k1] := by rw [hx2]; exact (Bl.set (Bl.set (Bl.set bp (by simp)) (by simp)) (by simp))
 replace hw1 := hw1.but bp (not_ints3 nb_bool nb_slice nb_slice) hbut
 replace hu1 := hu1.but bp (not_ints3 nb_bool nb_slice nb_slice) hbut
 replace hw2 := hw2.but bp (not_ints3 nb_bool nb_slice nb_slice) hbut
 replace hu2 := hu2.but bp (not_ints3 nb_bool nb_slice nb_slice) hbut
 replace fq := But.fz hbut fq bq (Nat.succ_pos _) (by omega)
 replace bq := But.bl hbut bq (Nat.succ_pos _) (by omega)
 replace fp : Fz x2 (w.heap.size) := by rw [hx2]; exact (Fz.set (Fz.set (Fz.set fp)))
 replace HE : Ext w x2 := by rw [hx2]; exact (((HE.store (by show w.heap.size ≤ w.heap.size; omega) _).store (by show w.heap.size ≤ w.heap.size; omega) _).store (by show w.heap.size ≤ w.heap.size; omega) _)
 clear bp hbut hx2
 have bp := hbn
 clear hbn
 refine wpE_b rfl rfl (fun K hK => ?_)
 go_simp
 refine hK.out _ _ ?_
 clear hK K
 try simp only [PU]
 refine absE (fun x3 hx3 => ?_)
 have hbut : But x2 x3 (w.heap.size + 1) := by rw [hx3]; exact (But.refl _ _).store.store.store
 have hbn : Bl x3 (w.heap.size + 1) #[.bool b2, .slice a2 n2 c2, .slice d2 m2 k2] := by rw [hx3]; exact (Bl.set (Bl.set (Bl.set bq (by simp)) (by simp)) (by simp))
 replace hw1 := hw1.but bq (not_ints3 nb_bool nb_slice nb_slice) hbut
 replace hu1 := hu1.but bq (not_ints3 nb_bool nb_slice nb_slice) hbut
 replace hw2 := hw2.but bq (not_ints3 nb_bool nb_slice nb_slice) hbut
 replace hu2 := hu2.but bq (not_ints3 nb_bool nb_slice nb_slice) hbut
 replace fp := But.fz hbut fp bp (Nat.succ_pos _) (by omega)
 replace bp := But.bl hbut bp (Nat.succ_pos _) (by omega)
 replace fq : Fz x3 (w.heap.size + 1) := by rw [hx3]; exact (Fz.set (Fz.set (Fz.set fq)))
 replace HE : Ext w x3 := by rw [hx3]; exact (((HE.store (by show w.heap.size ≤ w.heap.size + 1; omega) _).store (by show w.heap.size ≤ w.heap.size + 1; omega) _).store (by show w.heap.size ≤ w.heap.size + 1; omega) _)
 clear bq hbut hx3
 have bq := hbn
 clear hbn
 refine wpE_done ?_
 go_wp2_with fail
 refine wp_region_plan (R := Ext) (.q 0 (.q 1 (.q 2 (.q 5 (.q 6 (.q 7 (.l 3 (.l 4 (.l 8 (.l 9 (.l 10 (.q 11 .done)))))))))))) (by kernel_rfl) (by kernel_rfl) (by kernel_rfl) (by kernel_rfl) Ext.refl (fun _ _ _ => Ext.trans) ?_
 refine absE (fun x4 hx4 => ?_)
 have hx : Ext x3 x4 := by rw [hx4]; exact (Ext.refl _).drew
 replace fp := q1f hx fp bp
 replace bp := q1b hx bp
 replace fq := q1f hx fq bq
 replace bq := q1b hx bq
 replace hw1 := hw1.ext hx
 replace hu1 := hu1.ext hx
 replace hw2 := hw2.ext hx
 replace hu2 := hu2.ext hx
 replace HE := HE.trans hx
 clear hx
 clear hx4
 repeat (refine wpE_q (v := ?_) rfl rfl (fun u hu => ?_) ?_; rotate_left 1; (focus (have kp := q1b hu bp; have kq := q1b hu bq; go_simp; (try rfl))); simp only [PU])
 refine wpE_l rfl rfl (fun K hK => ?_)
 go_simp
 refine (g_up b2 a2 d2 n2 c2 m2 k2 _).mono ?_
 rintro e u3 ⟨rfl, hx⟩
 refine hK.out _ _ hx ?_
 clear hK K
 try simp only [PU]
 replace fp := q1f hx fp bp
 replace bp := q1b hx bp
 replace fq := q1f hx fq bq
 replace bq := q1b hx bq
 replace hw1 := hw1.ext hx
 replace hu1 := hu1.ext hx
 replace hw2 := hw2.ext hx
 replace hu2 := hu2.ext hx
 replace HE := HE.trans hx
 clear hx
 refine wpE_l rfl rfl (fun K hK => ?_)
 go_simp
 refine (r02_Mul_any b1 false a1 d2 n1 c1 m2 k2 Z (F : Int) _ hw1 (hu2.wh HM2.out)).mono ?_
 rintro e u4 ⟨a4, n4, c4, rfl, hs4, hx⟩
 refine hK.out _ _ hx ?_
 clear hK K
 try simp only [PU]
 replace fp := q1f hx fp bp
 replace bp := q1b hx bp
 replace fq := q1f hx fq bq
 replace bq := q1b hx bq
 replace hw1 := hw1.ext hx
 replace hu1 := hu1.ext hx
 replace hw2 := hw2.ext hx
 replace hu2 := hu2.ext hx
 replace HE := HE.trans hx
 clear hx
 replace hs4 : Nc u4 a4 n4 c4 (Z * (F : Int)).natAbs := hs4
 refine wpE_l rfl rfl (fun K hK => ?_)
 go_simp
 refine (g_up b1 a1 d1 n1 c1 m1 k1 _).mono ?_
 rintro e u5 ⟨rfl, hx⟩
 refine hK.out _ _ hx ?_
 clear hK K
 try simp only [PU]
 replace fp := q1f hx fp bp
 replace bp := q1b hx bp
 replace fq := q1f hx fq bq
 replace bq := q1b hx bq
 replace hw1 := hw1.ext hx
 replace hu1 := hu1.ext hx
 replace hw2 := hw2.ext hx
 replace hu2 := hu2.ext hx
 replace hs4 := hs4.ext hx
 replace HE := HE.trans hx
 clear hx
 refine wpE_l rfl rfl (fun K hK => ?_)
 go_simp
 refine (r02_Mul_any b2 false a2 d1 n2 c2 m1 k1 Y (E : Int) _ hw2 (hu1.wh HM1.out)).mono ?_
 rintro e u6 ⟨a6, n6, c6, rfl, hs6, hx⟩
 refine hK.out _ _ hx ?_
 clear hK K
 try simp only [PU]
 replace fp := q1f hx fp bp
 replace bp := q1b hx bp
 replace fq := q1f hx fq bq
 replace bq := q1b hx bq
 replace hw1 := hw1.ext hx
 replace hu1 := hu1.ext hx
 replace hw2 := hw2.ext hx
 replace hu2 := hu2.ext hx
 replace hs4 := hs4.ext hx
 replace HE := HE.trans hx
 clear hx
 replace hs6 : Nc u6 a6 n6 c6 (Y * (E : Int)).natAbs := hs6
 refine wpE_l rfl rfl (fun K hK => ?_)
 go_simp
 refine (r02_Cmp_any _ _ a4 a6 n4 c4 n6 c6 (Z * (F : Int)) (Y * (E : Int)) _ (hs4.wh (by have := Q1.out; omega)) (hs6.wh (by have := Q2.out; omega)) Q3.out).mono ?_
 rw [HR.out]
 rintro e u7 ⟨rfl, hx⟩
 refine hK.out _ _ hx ?_
 clear hK K
 try simp only [PU]
 replace fp := q1f hx fp bp
 replace bp := q1b hx bp
 replace fq := q1f hx fq bq
 replace bq := q1b hx bq
 replace hw1 := hw1.ext hx
 replace hu1 := hu1.ext hx
 replace hw2 := hw2.ext hx
 replace hu2 := hu2.ext hx
 replace hs4 := hs4.ext hx
 replace hs6 := hs6.ext hx
 replace HE := HE.trans hx
 clear hx
 repeat (refine wpE_q (v := ?_) rfl rfl (fun u hu => ?_) ?_; rotate_left 1; (focus (have kp := q1b hu bp; have kq := q1b hu bq; go_simp; (try rfl))); simp only [PU])
 refine wpE_done ?_
 go_wp2_with fail
 go_ret
 exact ⟨rfl, HE⟩
set_option maxRecDepth 100000 in
set_option maxHeartbeats 4000000 in
theorem gq_Sign (h : Fq w b a n c d m k q N) (hN : N ≤ 137438953472) :
    Calls Tryz.prog 96 #[.agg #[.bool b, .slice a n c, .slice d m k]] w (fun e w' => e = .returned (.int .i64 (sgn q.num)) ∧ Ext w w') := by
  obtain ⟨z, D, hz, hd, hm, hb1, hb2, rfl⟩ := h
  have HP1 := hidP (fun u t1 t2 => g_worth b a d n c m k z D u t1 t2 hm)
  have B1 : Hid (dl (pz z D).natAbs ≤ 137438953472) := hidP (by have := pz_len z D; omega)
  have B2 : Hid (dl (pd D) ≤ 137438953473) := hidP (by have := pd_len D; omega)
  have hr := sgn_mk (z := pz z D) (pd_ne D)
  rw [mk_pr] at hr
  have HR := hidP hr
  clear hr
  generalize sgn (mkRat z D).num = rr at *
  have HZ := hidP hz; have HD := hidP hd
  clear hz hd hb1 hb2 hm hN
  generalize pz z D = Z at *
  generalize pd D = E at *
  go_enter Tryz.func96, Tryz.ntmps96
  go_wp2_with fail
  refine absC (fun x1 hx1 => ?_)
  have hx : Ext w x1 := by rw [hx1]; exact ((Ext.refl _).alloc _)
  have bp : Bl x1 (w.heap.size) #[.bool b, .slice a n c, .slice d m k] := by rw [hx1]; exact (Bl.new (by simp))
  have HE := hx
  clear hx
  clear hx1
  refine (HP1.out _ (HZ.out.ext HE) (HD.out.ext HE)).mono ?_
  rintro e u1 ⟨b1, a1, n1, c1, d1, m1, k1, rfl, hw1, hu1, hm1, hx⟩
  replace bp := q1b hx bp
  replace HE := HE.trans hx
  clear hx
  have hfl : ∀ u : World, (Instr.field 29 (.agg #[.bool b1, .slice a1 n1 c1, .slice d1 m1 k1]) 0).run Tryz.prog u = .ok (.agg #[.bool b1, .slice a1 n1 c1]) u := fun u => by kernel_rfl
  go_wp2_with fail
  refine (r02_Sign_any b1 a1 n1 c1 Z _ hw1).mono ?_
  rw [← HR.out]
  rintro e u2 ⟨rfl, hx⟩
  replace bp := q1b hx bp
  replace hw1 := hw1.ext hx
  replace hu1 := hu1.ext hx
  replace HE := HE.trans hx
  clear hx
  go_wp2_with fail
  go_ret
  exact ⟨rfl, HE⟩
end
end Go.Proofs.YtgjjalnmigdjgaaGreat
