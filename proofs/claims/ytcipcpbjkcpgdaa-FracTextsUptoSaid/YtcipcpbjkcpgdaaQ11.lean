/- The program's fractions (frac): floors, roundings; the document's sameness. -/
import Derived.Test.YtcipcpbjkcpgdaaQ10
import Derived.Deep.DeepCutAuto
namespace Go.Proofs.Ytcipcpbjkcpgdaa
set_option linter.unusedVariables false
open Go Go.RowKit

theorem RetW.mk {w u : World} {z z' : Int} {b : Bool} {a : Option Addr} {n c : Nat} (hz : z' = z) (hb : b = decide (z < 0)) (h1 : Nc u a n c z.natAbs) (he : Ext w u) : RetW w z' (.returned (.agg #[.bool b, .slice a n c])) u := by
  subst hz; subst hb
  exact ⟨a, n, c, rfl, h1, he⟩

set_option maxRecDepth 100000 in
set_option maxHeartbeats 4000000 in
theorem f_floor (neg : Bool) (a d : Option Addr) (n cap m c : Nat) (z : Int) (D : Nat) (w : World) (hz : WhIn w neg a n cap z) (hd : Nc w d m c D) (hD0 : D ≠ 0) (hb : dl D ≤ 549755813888) :
    Calls Try.prog 156 #[.agg #[.bool neg, .slice a n cap, .slice d m c]] w (RetW w (z / (D : Int))) := by
  have HZ := hidP hz; have HD := hidP hd; have HB := hidP hb
  have hv := fun u (t1 : WhIn u neg a n cap z) (t2 : WhIn u false d m c (D : Int)) => w_Div_any neg false a d n cap m c z (D : Int) u t1 t2
  unfold RetWD at hv
  generalize hqb : decide (z / (D : Int) < 0) = qb at *
  generalize decide (zmod z (D : Int) < 0) = rb at *
  generalize decide ((D : Int) ≠ 0) = ok at *
  have HV := hidP hv; have HQB := hidP hqb
  clear hz hd hb hv hqb hD0
  go_enter Try.func156, Try.ntmps156
  go_wp2_with fail
  refine absC (fun x1 hx1 => ?_)
  have hx : Ext w x1 := by rw [hx1]; exact (((Ext.refl _).alloc _).alloc _)
  have bp : Bl x1 (w.heap.size) #[.bool neg, .slice a n cap, .slice d m c] := by rw [hx1]; exact ((Bl.new (by simp)).alloc (by simp))
  have bs : Bl x1 (w.heap.size + 1) #[.bool false, .slice none 0 0] := by rw [hx1]; exact (Bl.new (by simp))
  have fs : Fz x1 (w.heap.size + 1) := by rw [hx1]; exact (Fz.new (by simp))
  have HE := hx
  clear hx
  clear hx1
  refine (HV.out _ (HZ.out.ext HE) ((HD.out.ext HE).wf HB.out)).mono ?_
  rintro e u1 ⟨a1q, n1q, c1q, a1r, n1r, c1r, rfl, hs1q, hs1r, hx⟩
  replace bp := Bl.ext hx bp (Nat.succ_pos _)
  replace fs := Fz.ext hx fs bs (Nat.succ_pos _)
  replace bs := Bl.ext hx bs (Nat.succ_pos _)
  replace HE := HE.trans hx
  clear hx
  clear hs1r
  go_upto_region 2 with fail
  have lpx := bp.lt (Nat.succ_pos _)
  have lsx := bs.lt (Nat.succ_pos _)
  refine absW (fun x2 hx2 => ?_)
  have hx : Ext u1 x2 := by rw [hx2]; exact (((Ext.refl _).alloc _).alloc _)
  have bx : Bl x2 (u1.heap.size) #[.bool qb, .slice a1q n1q c1q] := by rw [hx2]; exact ((Bl.new (by simp)).alloc (by simp))
  have bv : Bl x2 (u1.heap.size + 1) #[.bool rb, .slice a1r n1r c1r] := by rw [hx2]; exact (Bl.new (by simp))
  replace bp := Bl.ext hx bp (Nat.succ_pos _)
  replace fs := Fz.ext hx fs bs (Nat.succ_pos _)
  replace bs := Bl.ext hx bs (Nat.succ_pos _)
  replace hs1q := hs1q.ext hx
  replace HE := HE.trans hx
  clear hx
  clear hx2
  have HQ := hidP hs1q
  clear hs1q
  go_wp2_with fail
  refine absB (fun ue hue => ?_)
  have hbs : Bl ue (w.heap.size + 1) #[.bool qb, .slice a1q n1q c1q] := by rw [hue]; exact ((bs.set (by simp)).set (by simp))
  have hnc : ∀ {aa : Option Addr} {nn cc VV : Nat}, Nc x2 aa nn cc VV → Nc ue aa nn cc VV := fun h => by
    rw [hue]
    exact h.but bs (not_ints2 nb_bool nb_slice) ((But.refl _ _).store.store)
  have heu : Ext w ue := by rw [hue]; exact (HE.store (by show w.heap.size ≤ w.heap.size + 1; omega) _).store (by show w.heap.size ≤ w.heap.size + 1; omega) _
  clear hue
  refine bodyPost_cells rfl rfl Try.underlying51 rfl (by kernel_rfl) (bl_two hbs) rfl ?_
  exact RetW.mk rfl HQB.out.symm (hnc HQ.out) heu

set_option maxRecDepth 100000 in
set_option maxHeartbeats 4000000 in
theorem f_Floor (neg : Bool) (a d : Option Addr) (n cap m c : Nat) (z : Int) (D : Nat) (w : World) (hz : WhIn w neg a n cap z) (hd : Nu w d m c D) (hb : dl z.natAbs ≤ 137438953472) (hb' : dl D ≤ 137438953472) :
    Calls Try.prog 113 #[.agg #[.bool neg, .slice a n cap, .slice d m c]] w (RetW w (pz z D / (pd D : Int))) := by
  have HP : Hid (∀ u, WhIn u neg a n cap z → Nu u d m c D → Calls Try.prog 147 #[.agg #[.bool neg, .slice a n cap, .slice d m c]] u (RetF u (pz z D) (pd D))) := hidP (fun u t1 t2 => f_parts neg a d n cap m c z D u t1 t2)
  have B1 : Hid (dl (pz z D).natAbs ≤ 137438953473) := hidP (by have := pz_len z D; omega)
  have B2 : Hid (dl (pd D) ≤ 137438953473) := hidP (by have := pd_len D; omega)
  have E0 := hidP (pd_ne D)
  have HZ := hidP hz; have HD := hidP hd
  clear hz hd hb hb'
  generalize pz z D = Z at *
  generalize pd D = E at *
  go_enter Try.func113, Try.ntmps113
  go_wp2_with fail
  refine absC (fun x1 hx1 => ?_)
  have hx : Ext w x1 := by rw [hx1]; exact (((Ext.refl _).alloc _).alloc _)
  have bp : Bl x1 (w.heap.size) #[.bool neg, .slice a n cap, .slice d m c] := by rw [hx1]; exact ((Bl.new (by simp)).alloc (by simp))
  have bs : Bl x1 (w.heap.size + 1) #[.bool false, .slice none 0 0] := by rw [hx1]; exact (Bl.new (by simp))
  have fs : Fz x1 (w.heap.size + 1) := by rw [hx1]; exact (Fz.new (by simp))
  have HE := hx
  clear hx
  clear hx1
  refine (HP.out _ (HZ.out.ext HE) (HD.out.ext HE)).mono ?_
  rintro e u1 ⟨a1, n1, c1, d1, m1, k1, rfl, hs1, ht1, hx⟩
  replace bp := Bl.ext hx bp (Nat.succ_pos _)
  replace fs := Fz.ext hx fs bs (Nat.succ_pos _)
  replace bs := Bl.ext hx bs (Nat.succ_pos _)
  replace HE := HE.trans hx
  clear hx
  replace hs1 : Nc u1 a1 n1 c1 (Z).natAbs := hs1
  replace ht1 : Nc u1 d1 m1 k1 (E) := ht1
  go_wp2_with fail
  refine (f_floor _ a1 d1 n1 c1 m1 k1 Z E _ (hs1.wh (by have := B1.out; omega)) ht1 E0.out (by have := B2.out; omega)).mono ?_
  rintro e u2 ⟨a2, n2, c2, rfl, hs2, hx⟩
  replace bp := Bl.ext hx bp (Nat.succ_pos _)
  replace fs := Fz.ext hx fs bs (Nat.succ_pos _)
  replace bs := Bl.ext hx bs (Nat.succ_pos _)
  replace hs1 := hs1.ext hx
  replace ht1 := ht1.ext hx
  replace HE := HE.trans hx
  clear hx
  replace hs2 : Nc u2 a2 n2 c2 (Z / (E : Int)).natAbs := hs2
  clear hs1 ht1
  have HQ := hidP hs2
  clear hs2
  go_wp2_with fail
  refine absB (fun ue hue => ?_)
  have hbs : Bl ue (w.heap.size + 1) #[.bool (decide (Z / (E : Int) < 0)), .slice a2 n2 c2] := by rw [hue]; exact ((bs.set (by simp)).set (by simp))
  have hnc : ∀ {aa : Option Addr} {nn cc VV : Nat}, Nc u2 aa nn cc VV → Nc ue aa nn cc VV := fun h => by
    rw [hue]
    exact h.but bs (not_ints2 nb_bool nb_slice) ((But.refl _ _).store.store)
  have heu : Ext w ue := by rw [hue]; exact (HE.store (by show w.heap.size ≤ w.heap.size + 1; omega) _).store (by show w.heap.size ≤ w.heap.size + 1; omega) _
  clear hue
  refine bodyPost_cells rfl rfl Try.underlying51 rfl (by kernel_rfl) (bl_two hbs) rfl ?_
  exact RetW.mk rfl rfl (hnc HQ.out) heu

set_option maxRecDepth 100000 in
set_option maxHeartbeats 4000000 in
theorem f_Round (neg : Bool) (a d : Option Addr) (n cap m c : Nat) (z : Int) (D : Nat) (w : World) (hz : WhIn w neg a n cap z) (hd : Nu w d m c D) (hb : dl z.natAbs ≤ 137438953472) (hb' : dl D ≤ 137438953472) :
    Calls Try.prog 114 #[.agg #[.bool neg, .slice a n cap, .slice d m c]] w (RetW w (az (pz z D) (pd D) 1 2 / (ad (pd D) 2 : Int))) := by
  have HP : Hid (∀ u, WhIn u neg a n cap z → Nu u d m c D → Calls Try.prog 147 #[.agg #[.bool neg, .slice a n cap, .slice d m c]] u (RetF u (pz z D) (pd D))) := hidP (fun u t1 t2 => f_parts neg a d n cap m c z D u t1 t2)
  have B1 : Hid (dl (pz z D).natAbs ≤ 137438953473) := hidP (by have := pz_len z D; omega)
  have B2 : Hid (dl (pd D) ≤ 137438953473) := hidP (by have := pd_len D; omega)
  have E0 := hidP (pd_ne D)
  have B5 : Hid (dl 2 ≤ 137438953473) := hidP (by have := dl_small (a := 2) (by omega); omega)
  have B6 : Hid (dl ((1 : Int)).natAbs ≤ 137438953473) := hidP (by have := dl_small (a := 1) (by omega); simp; omega)
  have HZ := hidP hz; have HD := hidP hd
  clear hz hd hb hb'
  generalize pz z D = Z at *
  generalize pd D = E at *
  have B3 : Hid (dl (az Z E 1 2).natAbs ≤ 549755813888) := hidP (by
    unfold az
    split
    · have := dz_add (z := Z) (z' := 1) (N := 137438953473) B1.out B6.out; omega
    · have h1 := dz_mul Z ((2 : Nat) : Int)
      have h2 := dz_mul 1 (E : Int)
      rw [Int.natAbs_natCast] at h1 h2
      have := B1.out; have := B2.out; have := B5.out; have := B6.out
      have := dz_add (z := Z * ((2 : Nat) : Int)) (z' := 1 * (E : Int)) (N := 274877906946) (by omega) (by omega)
      omega)
  have B4 : Hid (dl (ad E 2) ≤ 549755813888) := hidP (by
    unfold ad
    split
    · have := B2.out; omega
    · have := dl_mul E 2; have := B2.out; have := B5.out; omega)
  have E1 : Hid (ad E 2 ≠ 0) := hidP (by
    unfold ad
    split
    · exact E0.out
    · have := E0.out; omega)
  go_enter Try.func114, Try.ntmps114
  go_wp2_with fail
  refine absC (fun x1 hx1 => ?_)
  have hx : Ext w x1 := by rw [hx1]; exact (((Ext.refl _).alloc _).alloc _)
  have bp : Bl x1 (w.heap.size) #[.bool neg, .slice a n cap, .slice d m c] := by rw [hx1]; exact ((Bl.new (by simp)).alloc (by simp))
  have bs : Bl x1 (w.heap.size + 1) #[.bool false, .slice none 0 0] := by rw [hx1]; exact (Bl.new (by simp))
  have fs : Fz x1 (w.heap.size + 1) := by rw [hx1]; exact (Fz.new (by simp))
  have HE := hx
  clear hx
  clear hx1
  refine (HP.out _ (HZ.out.ext HE) (HD.out.ext HE)).mono ?_
  rintro e u1 ⟨a1, n1, c1, d1, m1, k1, rfl, hs1, ht1, hx⟩
  replace bp := Bl.ext hx bp (Nat.succ_pos _)
  replace fs := Fz.ext hx fs bs (Nat.succ_pos _)
  replace bs := Bl.ext hx bs (Nat.succ_pos _)
  replace HE := HE.trans hx
  clear hx
  replace hs1 : Nc u1 a1 n1 c1 (Z).natAbs := hs1
  replace ht1 : Nc u1 d1 m1 k1 (E) := ht1
  go_wp2_with fail
  refine (w_Of 1 _ (by omega) (by omega)).mono ?_
  rintro e u2 ⟨a2, n2, c2, rfl, hs2, hx⟩
  replace bp := Bl.ext hx bp (Nat.succ_pos _)
  replace fs := Fz.ext hx fs bs (Nat.succ_pos _)
  replace bs := Bl.ext hx bs (Nat.succ_pos _)
  replace hs1 := hs1.ext hx
  replace ht1 := ht1.ext hx
  replace HE := HE.trans hx
  clear hx
  replace hs2 : Nc u2 a2 n2 c2 ((1 : Int)).natAbs := hs2
  go_wp2_with fail
  refine absC (fun x2 hx2 => ?_)
  have hx : Ext u2 x2 := by rw [hx2]; exact ((Ext.refl _).alloc _)
  replace bp := Bl.ext hx bp (Nat.succ_pos _)
  replace fs := Fz.ext hx fs bs (Nat.succ_pos _)
  replace bs := Bl.ext hx bs (Nat.succ_pos _)
  replace hs1 := hs1.ext hx
  replace ht1 := ht1.ext hx
  replace hs2 := hs2.ext hx
  replace HE := HE.trans hx
  clear hx
  have l2 : Nc x2 (some ⟨u2.heap.size, 0, none⟩) 1 1 2 := by rw [hx2]; exact nc_litAt rfl 2 (by omega) (by omega) _
  clear hx2
  refine (f_add _ _ a1 d1 a2 (some ⟨u2.heap.size, 0, none⟩) n1 c1 m1 k1 n2 c2 1 1 Z 1 E 2 _ (hs1.wh (by have := B1.out; omega)) ht1 (hs2.wh (by have := B6.out; omega)) l2 B1.out B2.out B6.out B5.out).mono ?_
  rintro e u3 ⟨a3, n3, c3, d3, m3, k3, rfl, hs3, ht3, hx⟩
  replace bp := Bl.ext hx bp (Nat.succ_pos _)
  replace fs := Fz.ext hx fs bs (Nat.succ_pos _)
  replace bs := Bl.ext hx bs (Nat.succ_pos _)
  replace hs1 := hs1.ext hx
  replace ht1 := ht1.ext hx
  replace hs2 := hs2.ext hx
  replace HE := HE.trans hx
  clear hx
  replace hs3 : Nc u3 a3 n3 c3 (az Z E 1 2).natAbs := hs3
  replace ht3 : Nc u3 d3 m3 k3 (ad E 2) := ht3
  clear l2
  clear hs1 ht1 hs2
  go_wp2_with fail
  refine (f_floor _ a3 d3 n3 c3 m3 k3 (az Z E 1 2) (ad E 2) _ (hs3.wh B3.out) ht3 E1.out B4.out).mono ?_
  rintro e u4 ⟨a4, n4, c4, rfl, hs4, hx⟩
  replace bp := Bl.ext hx bp (Nat.succ_pos _)
  replace fs := Fz.ext hx fs bs (Nat.succ_pos _)
  replace bs := Bl.ext hx bs (Nat.succ_pos _)
  replace hs3 := hs3.ext hx
  replace ht3 := ht3.ext hx
  replace HE := HE.trans hx
  clear hx
  replace hs4 : Nc u4 a4 n4 c4 (az Z E 1 2 / (ad E 2 : Int)).natAbs := hs4
  clear hs3 ht3
  have HQ := hidP hs4
  clear hs4
  go_wp2_with fail
  refine absB (fun ue hue => ?_)
  have hbs : Bl ue (w.heap.size + 1) #[.bool (decide (az Z E 1 2 / (ad E 2 : Int) < 0)), .slice a4 n4 c4] := by rw [hue]; exact ((bs.set (by simp)).set (by simp))
  have hnc : ∀ {aa : Option Addr} {nn cc VV : Nat}, Nc u4 aa nn cc VV → Nc ue aa nn cc VV := fun h => by
    rw [hue]
    exact h.but bs (not_ints2 nb_bool nb_slice) ((But.refl _ _).store.store)
  have heu : Ext w ue := by rw [hue]; exact (HE.store (by show w.heap.size ≤ w.heap.size + 1; omega) _).store (by show w.heap.size ≤ w.heap.size + 1; omega) _
  clear hue
  refine bodyPost_cells rfl rfl Try.underlying51 rfl (by kernel_rfl) (bl_two hbs) rfl ?_
  exact RetW.mk rfl rfl (hnc HQ.out) heu

set_option maxRecDepth 100000 in
set_option maxHeartbeats 2000000 in
theorem g_Same {b : Bool} {a d a' d' : Option Addr} {n cap m c n' cap' m' c' V D : Nat} {w : World} (h1 : Nc w a n cap V) (h2 : Nc w a' n' cap' V) (h3 : Nc w d m c D) (h4 : Nc w d' m' c' D) (hb : dl V ≤ 1099511627776) (hb' : dl D ≤ 1099511627776) :
    Calls Try.prog 90 #[.agg #[.bool b, .slice a n cap, .slice d m c], .agg #[.bool b, .slice a' n' cap', .slice d' m' c']] w fun e w' => e = .returned (.bool true) ∧ Ext w w' := by
  have H1 := hidP h1; have H2 := hidP h2; have H3 := hidP h3; have H4 := hidP h4; have HB := hidP hb; have HB' := hidP hb'
  clear h1 h2 h3 h4 hb hb'
  go_enter Try.func90, Try.ntmps90
  go_wp2_with fail
  refine absC (fun x1 hx1 => ?_)
  have hx : Ext w x1 := by rw [hx1]; exact (((Ext.refl _).alloc _).alloc _)
  have bp : Bl x1 (w.heap.size) #[.bool b, .slice a n cap, .slice d m c] := by rw [hx1]; exact ((Bl.new (by simp)).alloc (by simp))
  have bq : Bl x1 (w.heap.size + 1) #[.bool b, .slice a' n' cap', .slice d' m' c'] := by rw [hx1]; exact (Bl.new (by simp))
  have HE := hx
  clear hx
  clear hx1
  refine (d_SameW (H1.out.ext HE) (H2.out.ext HE) HB.out).mono ?_
  rintro e u1 ⟨rfl, hx⟩
  replace bp := Bl.ext hx bp (Nat.succ_pos _)
  replace bq := Bl.ext hx bq (Nat.succ_pos _)
  replace HE := HE.trans hx
  clear hx
  go_wp2_with fail
  refine (d_Same_eq (H3.out.ext HE) (H4.out.ext HE) HB'.out).mono ?_
  rintro e u2 ⟨rfl, hx⟩
  replace bp := Bl.ext hx bp (Nat.succ_pos _)
  replace bq := Bl.ext hx bq (Nat.succ_pos _)
  replace HE := HE.trans hx
  clear hx
  go_wp2_with fail
  go_ret
  exact ⟨rfl, HE⟩

end Go.Proofs.Ytcipcpbjkcpgdaa
