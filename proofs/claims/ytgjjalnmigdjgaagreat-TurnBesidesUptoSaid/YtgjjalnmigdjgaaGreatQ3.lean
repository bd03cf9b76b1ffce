/- The program's fractions (frac): reduced, of ints, products. -/
import Derived.Test.YtgjjalnmigdjgaaGreatQ2
namespace Go.Proofs.YtgjjalnmigdjgaaGreat
set_option linter.unusedVariables false
open Go Go.RowKit
/-- What a fraction's parts stand for: 0 where the lower one is 0. -/
def pz (z : Int) (D : Nat) : Int := if D = 0 then 0 else z
def pd (D : Nat) : Nat := if D = 0 then 1 else D
theorem pd_ne (D : Nat) : pd D ≠ 0 := by unfold pd; split <;> omega
theorem pz_len (z : Int) (D : Nat) : dl (pz z D).natAbs ≤ dl z.natAbs := by
  unfold pz
  split
  · rw [Int.natAbs_zero, dl_zero]; omega
  · exact Nat.le_refl _
theorem pd_len (D : Nat) : dl (pd D) ≤ dl D + 1 := by
  unfold pd
  split
  · have := dl_small (a := 1) (by omega); omega
  · omega
/-- Reduced. -/
def rz (z : Int) (D : Nat) : Int := z / (fg z D : Int)
def rd (z : Int) (D : Nat) : Nat := D / fg z D
theorem w_Of (n : Int) (w : World) (h1 : -9223372036854775808 ≤ n) (h2 : n ≤ 9223372036854775807) : Calls Tryz.prog 108 #[.int .i64 n] w (RetW w n) := w_Of_any n w h1 h2
set_option maxRecDepth 100000 in
set_option maxHeartbeats 2000000 in
theorem f_Int (n : Int) (w : World) (h1 : -9223372036854775808 ≤ n) (h2 : n ≤ 9223372036854775807) :
    Calls Tryz.prog 61 #[.int .i64 n] w (RetF w n 1) := by
  have H := hidP (And.intro h1 h2)
  go_enter Tryz.func61, Tryz.ntmps61
  go_wp2_with fail
  refine absC (fun x1 hx1 => ?_)
  have hx : Ext w x1 := by rw [hx1]; exact ((Ext.refl _).alloc _)
  have bs : Bl x1 (w.heap.size) #[.bool false, .slice none 0 0, .slice none 0 0] := by rw [hx1]; exact (Bl.new (by simp))
  have fs : Fz x1 (w.heap.size) := by rw [hx1]; exact (Fz.new (by simp))
  have HE := hx
  clear hx
  clear hx1
  refine (w_Of n _ H.out.1 H.out.2).mono ?_
  rintro e u1 ⟨a1, n1, c1, rfl, hs1, hx⟩
  replace fs := q1f hx fs bs
  replace bs := q1b hx bs
  replace HE := HE.trans hx
  clear hx
  replace hs1 : Nc u1 a1 n1 c1 (n).natAbs := hs1
  go_wp2_with fail
  refine (f_unit _).mono ?_
  rintro e u2 ⟨a2, n2, c2, rfl, hs2, hx⟩
  replace fs := q1f hx fs bs
  replace bs := q1b hx bs
  replace hs1 := hs1.ext hx
  replace HE := HE.trans hx
  clear hx
  have HS1 := hidP hs1; have HS2 := hidP hs2
  clear hs1 hs2
  go_wp2_with fail
  refine absB (fun ue hue => ?_)
  have hbs : Bl ue (w.heap.size) #[.bool (decide (n < 0)), .slice a1 n1 c1, .slice a2 n2 c2] := by rw [hue]; exact (((bs.set (by simp)).set (by simp)).set (by simp))
  have hnc : ∀ {aa : Option Addr} {nn cc VV : Nat}, Nc u2 aa nn cc VV → Nc ue aa nn cc VV := fun h => by
    rw [hue]
    exact h.but bs (not_ints3 nb_bool nb_slice nb_slice) ((But.refl _ _).store.store.store)
  have heu : Ext w ue := by rw [hue]; exact ((HE.store (by show w.heap.size ≤ w.heap.size; omega) _).store (by show w.heap.size ≤ w.heap.size; omega) _).store (by show w.heap.size ≤ w.heap.size; omega) _
  clear hue
  refine bodyPost_cells rfl rfl Tryz.underlying29 rfl (by kernel_rfl) (bl_three hbs) rfl ?_
  exact RetF.of rfl rfl rfl (hnc HS1.out) (hnc HS2.out) heu
theorem w_Mul {neg neg' : Bool} {a a' : Option Addr} {n cap n' cap' : Nat} {z z' : Int} {w : World} (h : WhIn w neg a n cap z) (h' : WhIn w neg' a' n' cap' z') :
    Calls Tryz.prog 91 #[.agg #[.bool neg, .slice a n cap], .agg #[.bool neg', .slice a' n' cap']] w (RetW w (z * z')) := w_Mul_any neg neg' a a' n cap n' cap' z z' w h h'
set_option maxRecDepth 100000 in
set_option maxHeartbeats 2000000 in
theorem f_mul (neg neg' : Bool) (a d a' d' : Option Addr) (n cap m c n' cap' m' c' : Nat) (z z' : Int) (D D' : Nat) (w : World) (hz : WhIn w neg a n cap z) (hd : Nu w d m c D) (hz' : WhIn w neg' a' n' cap' z') (hd' : Nu w d' m' c' D') :
    Calls Tryz.prog 195 #[.agg #[.bool neg, .slice a n cap, .slice d m c], .agg #[.bool neg', .slice a' n' cap', .slice d' m' c']] w (RetF w (z * z') (D * D')) := by
 have HZ := hidP hz; have HD := hidP hd; have HZ' := hidP hz'; have HD' := hidP hd'
 clear hz hd hz' hd'
 go_enter Tryz.func195, Tryz.ntmps195
 go_wp2_with fail
 refine wp_region_plan (R := Ext) (.q 0 (.q 1 (.q 2 (.q 3 (.q 5 (.q 6 (.q 7 (.q 8 (.l 4 (.l 9 (.q 10 (.b 11 .done)))))))))))) (by kernel_rfl) (by kernel_rfl) (by kernel_rfl) (by kernel_rfl) Ext.refl (fun _ _ _ => Ext.trans) ?_
 refine absE (fun x1 hx1 => ?_)
 have hx : Ext w x1 := by rw [hx1]; exact ((((Ext.refl _).alloc _).alloc _).alloc _).drew
 have bp : Bl x1 (w.heap.size) #[.bool neg, .slice a n cap, .slice d m c] := by rw [hx1]; exact (((Bl.new (by simp)).alloc (by simp)).alloc (by simp)).drew
 have bq : Bl x1 (w.heap.size + 1) #[.bool neg', .slice a' n' cap', .slice d' m' c'] := by rw [hx1]; exact ((Bl.new (by simp)).alloc (by simp)).drew
 have bs : Bl x1 (w.heap.size + 1 + 1) #[.bool false, .slice none 0 0, .slice none 0 0] := by rw [hx1]; exact (Bl.new (by simp)).drew
 have fs : Fz x1 (w.heap.size + 1 + 1) := by rw [hx1]; exact (Fz.new (by simp)).drew
 have HE := hx
 clear hx
 clear hx1
 repeat (refine wpE_q (v := ?_) rfl rfl (fun u hu => ?_) ?_; rotate_left 1; (focus (have kp := q1b hu bp; have kq := q1b hu bq; have ks := q1b hu bs; go_simp; (try rfl))); simp only [PU])
 refine wpE_l rfl rfl (fun K hK => ?_)
 go_simp
 refine (w_Mul (HZ.out.ext HE) (HZ'.out.ext HE)).mono ?_
 rintro e u1 ⟨a1, n1, c1, rfl, hs1, hx⟩
 refine hK.out _ _ hx ?_
 clear hK K
 try simp only [PU]
 replace bp := q1b hx bp
 replace bq := q1b hx bq
 replace fs := q1f hx fs bs
 replace bs := q1b hx bs
 replace HE := HE.trans hx
 clear hx
 replace hs1 : Nc u1 a1 n1 c1 (z * z').natAbs := hs1
 refine wpE_l rfl rfl (fun K hK => ?_)
 go_simp
 refine (n_Mul (HD.out.ext HE) (HD'.out.ext HE)).mono ?_
 rintro e u2 ⟨a2, n2, c2, rfl, hs2, hx⟩
 refine hK.out _ _ hx ?_
 clear hK K
 try simp only [PU]
 replace bp := q1b hx bp
 replace bq := q1b hx bq
 replace fs := q1f hx fs bs
 replace bs := q1b hx bs
 replace hs1 := hs1.ext hx
 replace HE := HE.trans hx
 clear hx
 repeat (refine wpE_q (v := ?_) rfl rfl (fun u hu => ?_) ?_; rotate_left 1; (focus (have kp := q1b hu bp; have kq := q1b hu bq; have ks := q1b hu bs; go_simp; (try rfl))); simp only [PU])
 refine wpE_b rfl rfl (fun K hK => ?_)
 go_simp
 refine hK.out _ _ ?_
 clear hK K
 try simp only [PU]
 refine absE (fun x2 hx2 => ?_)
 have hbut : But u2 x2 (w.heap.size + 1 + 1) := by rw [hx2]; exact (But.refl _ _).store.store.store
 have hbn : Bl x2 (w.heap.size + 1 + 1) #[(.bool (decide (z * z' < 0))), .slice a1 n1 c1, .slice a2 n2 c2] := by rw [hx2]; exact (Bl.set (Bl.set (Bl.set bs (by simp)) (by simp)) (by simp))
 replace hs1 := hs1.but bs (not_ints3 nb_bool nb_slice nb_slice) hbut
 replace hs2 := hs2.but bs (not_ints3 nb_bool nb_slice nb_slice) hbut
 replace bp := But.bl hbut bp (Nat.succ_pos _) (by omega)
 replace bq := But.bl hbut bq (Nat.succ_pos _) (by omega)
 replace fs : Fz x2 (w.heap.size + 1 + 1) := by rw [hx2]; exact (Fz.set (Fz.set (Fz.set fs)))
 replace HE : Ext w x2 := by rw [hx2]; exact (((HE.store (by show w.heap.size ≤ w.heap.size + 1 + 1; omega) _).store (by show w.heap.size ≤ w.heap.size + 1 + 1; omega) _).store (by show w.heap.size ≤ w.heap.size + 1 + 1; omega) _)
 clear bs hbut hx2
 have bs := hbn
 clear hbn
 refine wpE_done ?_
 go_wp2_with fail
 refine bodyPost_cells rfl rfl Tryz.underlying129 rfl (by kernel_rfl) (bl_three bs) rfl ?_
 exact RetF.of rfl rfl rfl hs1 hs2 HE
end Go.Proofs.YtgjjalnmigdjgaaGreat
