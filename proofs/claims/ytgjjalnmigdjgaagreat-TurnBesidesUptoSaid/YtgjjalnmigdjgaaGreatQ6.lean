/- The document's fractions (frisketref04): reduced, of ints, made. -/
import Derived.Test.YtgjjalnmigdjgaaGreatQ4
namespace Go.Proofs.YtgjjalnmigdjgaaGreat
set_option linter.unusedVariables false
open Go Go.RowKit
theorem nc_litAt {w : World} {g : Nat} (hg : g = w.heap.size) (d : Nat) (h : 1 ≤ d) (h2 : d ≤ 4294967295) (e : TypeId) : Nc (w.alloc (.cells #[.int .u32 (d : Int)] e)) (some ⟨g, 0, none⟩) 1 1 d := by
  subst hg; exact Nc.lit1 w d h h2 e
theorem neg_of {neg : Bool} {z : Int} (h : z = wz neg z.natAbs) (h0 : z ≠ 0) : neg = decide (z < 0) := by
  cases neg
  · exact (decide_eq_false (by rw [h]; show ¬ ((z.natAbs : Nat) : Int) < 0; omega)).symm
  · exact (decide_eq_true (by rw [h]; show -((z.natAbs : Nat) : Int) < 0; omega)).symm
theorem bits_ne {V : Nat} (h : V ≠ 0) : ((bitlen V : Int) == 0) = false := by
  have := (bitlen_low h).1
  simp
  omega
set_option maxRecDepth 100000 in
set_option maxHeartbeats 4000000 in
theorem g_Reduce (neg : Bool) (a d : Option Addr) (n cap m c : Nat) (z : Int) (D : Nat) (w : World) (hz : WhIn w neg a n cap z) (hd : Nu w d m c D) :
    Calls Tryz.prog 101 #[.agg #[.bool neg, .slice a n cap, .slice d m c]] w (RetF w (rz (pz z D) (pd D)) (rd (pz z D) (pd D))) := by
 have hsn := hz.sgn
 have hnz := hz.nu
 have HZ := hidP hz; have HD := hidP hd; have HN := hidP hnz
 have HNE : Hid (∀ u, Ext w u → Nu u a n cap z.natAbs) := hidP (fun u h => hnz.ext h)
 by_cases hD0 : D = 0
 · have HR : Hid (rz (pz z D) (pd D) = 0 ∧ rd (pz z D) (pd D) = 1) := hidP (by
    unfold rz rd pz pd
    rw [if_pos hD0, if_pos hD0]
    exact fg_zero (by omega))
   have HBD : Hid (bitlen D = 0) := hidP (by rw [hD0]; rfl)
   clear hz hd hsn hnz hD0
   go_enter Tryz.func101, Tryz.ntmps101
   go_wp2_with fail
   refine absC (fun x1 hx1 => ?_)
   have hx : Ext w x1 := by rw [hx1]; exact (((Ext.refl _).alloc _).alloc _)
   have bp : Bl x1 (w.heap.size) #[.bool neg, .slice a n cap, .slice d m c] := by rw [hx1]; exact ((Bl.new (by simp)).alloc (by simp))
   have bs : Bl x1 (w.heap.size + 1) #[.bool false, .slice none 0 0, .slice none 0 0] := by rw [hx1]; exact (Bl.new (by simp))
   have fs : Fz x1 (w.heap.size + 1) := by rw [hx1]; exact (Fz.new (by simp))
   have HE := hx
   clear hx
   clear hx1
   refine (d_Bits (HD.out.ext HE)).mono ?_
   rw [HBD.out]
   rintro e u1 ⟨rfl, hx⟩
   replace bp := q1b hx bp
   replace fs := q1f hx fs bs
   replace bs := q1b hx bs
   replace HE := HE.trans hx
   clear hx
   have lsu := bs.lt (Nat.succ_pos _)
   have lsn : w.heap.size + 1 ≠ u1.heap.size := by omega
   go_wp2_with fail
   refine absB (fun ue hue => ?_)
   have hbs : Bl ue (w.heap.size + 1) #[.bool false, .slice none 0 0, .slice (some ⟨u1.heap.size, 0, none⟩) 1 1] := by rw [hue]; exact Bl.alloc (((bs.set (by simp)).set (by simp)).set (by simp)) (by simp)
   have hl2 : Nc ue (some ⟨u1.heap.size, 0, none⟩) 1 1 1 := by rw [hue]; exact nc_litAt (by simp) 1 (by omega) (by omega) _
   have heu : Ext w ue := by rw [hue]; exact (((HE.store (by show w.heap.size ≤ w.heap.size + 1; omega) _).store (by show w.heap.size ≤ w.heap.size + 1; omega) _).store (by show w.heap.size ≤ w.heap.size + 1; omega) _).alloc _
   clear hue
   refine bodyPost_cells rfl rfl Tryz.underlying29 rfl (by kernel_rfl) (bl_three hbs) rfl ?_
   exact RetF.of HR.out.1 HR.out.2 rfl (Nc.zero _) hl2 heu
 have HBN := hidP (bits_ne hD0)
 have HP : Hid (pz z D = z ∧ pd D = D) := hidP ⟨if_neg hD0, if_neg hD0⟩
 have hbd := bits_ne hD0
 by_cases hz0 : z = 0
 · have HR : Hid (rz (pz z D) (pd D) = 0 ∧ rd (pz z D) (pd D) = 1) := hidP (by
    unfold rz rd
    rw [HP.out.1, HP.out.2, hz0]
    exact fg_zero hD0)
   have HBZ : Hid (bitlen z.natAbs = 0) := hidP (by rw [hz0]; rfl)
   have D1 := hidP (fun u (hh : Nu u d m c D) => d_Bits hh)
   generalize bitlen D = bd at *
   clear hz hd hsn hnz hD0 hz0
   go_enter Tryz.func101, Tryz.ntmps101
   go_wp2_with fail
   refine absC (fun x1 hx1 => ?_)
   have hx : Ext w x1 := by rw [hx1]; exact (((Ext.refl _).alloc _).alloc _)
   have bp : Bl x1 (w.heap.size) #[.bool neg, .slice a n cap, .slice d m c] := by rw [hx1]; exact ((Bl.new (by simp)).alloc (by simp))
   have bs : Bl x1 (w.heap.size + 1) #[.bool false, .slice none 0 0, .slice none 0 0] := by rw [hx1]; exact (Bl.new (by simp))
   have fs : Fz x1 (w.heap.size + 1) := by rw [hx1]; exact (Fz.new (by simp))
   have HE := hx
   clear hx
   clear hx1
   refine (D1.out _ (HD.out.ext HE)).mono ?_
   rintro e u1 ⟨rfl, hx⟩
   replace bp := q1b hx bp
   replace fs := q1f hx fs bs
   replace bs := q1b hx bs
   replace HE := HE.trans hx
   clear hx
   go_wp2_with fail
   refine (d_Bits (HNE.out _ HE)).mono ?_
   rw [HBZ.out]
   rintro e u2 ⟨rfl, hx⟩
   replace bp := q1b hx bp
   replace fs := q1f hx fs bs
   replace bs := q1b hx bs
   replace HE := HE.trans hx
   clear hx
   have lsu := bs.lt (Nat.succ_pos _)
   have lsn : w.heap.size + 1 ≠ u2.heap.size := by omega
   go_wp2_with fail
   refine absB (fun ue hue => ?_)
   have hbs : Bl ue (w.heap.size + 1) #[.bool false, .slice none 0 0, .slice (some ⟨u2.heap.size, 0, none⟩) 1 1] := by rw [hue]; exact Bl.alloc (((bs.set (by simp)).set (by simp)).set (by simp)) (by simp)
   have hl2 : Nc ue (some ⟨u2.heap.size, 0, none⟩) 1 1 1 := by rw [hue]; exact nc_litAt (by simp) 1 (by omega) (by omega) _
   have heu : Ext w ue := by rw [hue]; exact (((HE.store (by show w.heap.size ≤ w.heap.size + 1; omega) _).store (by show w.heap.size ≤ w.heap.size + 1; omega) _).store (by show w.heap.size ≤ w.heap.size + 1; omega) _).alloc _
   clear hue
   refine bodyPost_cells rfl rfl Tryz.underlying29 rfl (by kernel_rfl) (bl_three hbs) rfl ?_
   exact RetF.of HR.out.1 HR.out.2 rfl (Nc.zero _) hl2 heu
 have hbz := bits_ne (zabs_pos hz0)
 have HSG := hidP (fg_sign (z := z) hD0)
 have HNG := hidP (neg_of hsn hz0)
 have HR : Hid (rz (pz z D) (pd D) = z / (fg z D : Int) ∧ rd (pz z D) (pd D) = D / fg z D) := hidP (by rw [HP.out.1, HP.out.2]; exact ⟨rfl, rfl⟩)
 have D1 := hidP (fun u (hh : Nu u d m c D) => d_Bits hh)
 have D2 := hidP (fun u (hh : Nu u a n cap z.natAbs) => d_Bits hh)
 have D3 : Hid (∀ u, Nu u a n cap z.natAbs → Nu u d m c D → Calls Tryz.prog 145 #[.slice a n cap, .slice d m c] u (RetN2 u (z.natAbs / fg z D) (D / fg z D))) := hidP (fun u t1 t2 => q_Reduce t1 t2)
 have HDQ : Hid (dl (z.natAbs / fg z D) ≤ 1099511627776) := hidP (by have := dl_div z.natAbs (fg z D); have := hnz.dl; have := hnz.2; omega)
 generalize bitlen D = bd at *
 generalize bitlen z.natAbs = bz at *
 clear hz hd hsn hnz hD0 hz0
 go_enter Tryz.func101, Tryz.ntmps101
 go_wp2_with fail
 refine absC (fun x1 hx1 => ?_)
 have hx : Ext w x1 := by rw [hx1]; exact (((Ext.refl _).alloc _).alloc _)
 have bp : Bl x1 (w.heap.size) #[.bool neg, .slice a n cap, .slice d m c] := by rw [hx1]; exact ((Bl.new (by simp)).alloc (by simp))
 have bs : Bl x1 (w.heap.size + 1) #[.bool false, .slice none 0 0, .slice none 0 0] := by rw [hx1]; exact (Bl.new (by simp))
 have fs : Fz x1 (w.heap.size + 1) := by rw [hx1]; exact (Fz.new (by simp))
 have HE := hx
 clear hx
 clear hx1
 refine (D1.out _ (HD.out.ext HE)).mono ?_
 rintro e u1 ⟨rfl, hx⟩
 replace bp := q1b hx bp
 replace fs := q1f hx fs bs
 replace bs := q1b hx bs
 replace HE := HE.trans hx
 clear hx
 go_wp2_with fail
 refine (D2.out _ (HNE.out _ HE)).mono ?_
 rintro e u2 ⟨rfl, hx⟩
 replace bp := q1b hx bp
 replace fs := q1f hx fs bs
 replace bs := q1b hx bs
 replace HE := HE.trans hx
 clear hx
 go_wp2_with fail
 refine (D3.out _ (HNE.out _ HE) (HD.out.ext HE)).mono ?_
 rintro e u3 ⟨a3, n3, c3, a4, n4, c4, rfl, hs3, hs4, hx⟩
 replace bp := q1b hx bp
 replace fs := q1f hx fs bs
 replace bs := q1b hx bs
 replace HE := HE.trans hx
 clear hx
 go_wp2_with fail
 refine (d_Make neg (hs3.nu HDQ.out)).mono ?_
 rw [show wz neg (z.natAbs / fg z D) = z / (fg z D : Int) by rw [HNG.out]; exact HSG.out]
 rintro e u5 ⟨a5, n5, c5, rfl, hs5, hx⟩
 replace bp := q1b hx bp
 replace fs := q1f hx fs bs
 replace bs := q1b hx bs
 replace hs3 := hs3.ext hx
 replace hs4 := hs4.ext hx
 replace HE := HE.trans hx
 clear hx
 replace hs5 : Nc u5 a5 n5 c5 (z / (fg z D : Int)).natAbs := hs5
 clear hs3
 have HS4 := hidP hs4; have HS5 := hidP hs5
 clear hs4 hs5
 go_wp2_with fail
 refine absB (fun ue hue => ?_)
 have hbs : Bl ue (w.heap.size + 1) #[.bool (decide (z / (fg z D : Int) < 0)), .slice a5 n5 c5, .slice a4 n4 c4] := by rw [hue]; exact (((bs.set (by simp)).set (by simp)).set (by simp))
 have hnc : ∀ {aa : Option Addr} {nn cc VV : Nat}, Nc u5 aa nn cc VV → Nc ue aa nn cc VV := fun h => by
  rw [hue]
  exact h.but bs (not_ints3 nb_bool nb_slice nb_slice) ((But.refl _ _).store.store.store)
 have heu : Ext w ue := by rw [hue]; exact ((HE.store (by show w.heap.size ≤ w.heap.size + 1; omega) _).store (by show w.heap.size ≤ w.heap.size + 1; omega) _).store (by show w.heap.size ≤ w.heap.size + 1; omega) _
 clear hue
 refine bodyPost_cells rfl rfl Tryz.underlying29 rfl (by kernel_rfl) (bl_three hbs) rfl ?_
 exact RetF.of HR.out.1 HR.out.2 rfl (hnc HS5.out) (hnc HS4.out) heu
end Go.Proofs.YtgjjalnmigdjgaaGreat
