/- The program's fractions (frac): made. -/
import Derived.Test.YtcipcpbjkcpgdaaQ3
namespace Go.Proofs.Ytcipcpbjkcpgdaa
set_option linter.unusedVariables false
open Go Go.RowKit

/-- A fraction in its own words, and a number of an error. -/
def RetFE (w : World) (z : Int) (D : Nat) (err : Int) (e : Ending) (w' : World) : Prop :=
  ∃ a n c d m k, e = .returned (.tuple #[.agg #[.bool (decide (z < 0)), .slice a n c, .slice d m k], .int .i64 err]) ∧ Nc w' a n c z.natAbs ∧ Nc w' d m k D ∧ Ext w w'
theorem RetFE.of {w u : World} {z z' : Int} {D D' : Nat} {b : Bool} {a d : Option Addr} {n c m k : Nat} {err err' : Int} (hz : z' = z) (hD : D' = D) (he' : err' = err) (hb : b = decide (z < 0)) (h1 : Nc u a n c z.natAbs) (h2 : Nc u d m k D) (he : Ext w u) :
    RetFE w z' D' err' (.returned (.tuple #[.agg #[.bool b, .slice a n c, .slice d m k], .int .i64 err])) u := by
  subst hz; subst hD; subst hb; subst he'
  exact ⟨a, n, c, d, m, k, rfl, h1, h2, he⟩
/-- The upper part of a number by another one. -/
def mz (z z' : Int) : Int := if z' < 0 then -z else z
theorem mz_of {neg neg' : Bool} {A B : Nat} (hB : B ≠ 0) : wz (neg != neg') A = mz (wz neg A) (wz neg' B) := by
  unfold mz
  cases neg'
  · rw [if_neg (by show ¬ ((B : Nat) : Int) < 0; omega)]
    cases neg <;> rfl
  · rw [if_pos (by show -((B : Nat) : Int) < 0; omega)]
    cases neg
    · rfl
    · show ((A : Nat) : Int) = - -((A : Nat) : Int)
      omega
theorem mz_abs (z z' : Int) : (mz z z').natAbs = z.natAbs := by unfold mz; split <;> omega
theorem WhIn.flag {w : World} {neg : Bool} {a : Option Addr} {n cap : Nat} {z : Int} (h : WhIn w neg a n cap z) (b : Bool) : WhIn w b a n cap (wz b z.natAbs) := by
  obtain ⟨⟨l, hs, hl, hz⟩, hn⟩ := h
  have h2 : z.natAbs = val B32 l := by rw [← hz, wz_abs]
  exact ⟨⟨l, hs, hl, by rw [h2]⟩, hn⟩
def mkz (z z' : Int) : Int := if z' = 0 then 0 else rz (mz z z') z'.natAbs
def mkd (z z' : Int) : Nat := if z' = 0 then 0 else rd (mz z z') z'.natAbs
def mke (z' : Int) : Int := if z' = 0 then 5 else 0

set_option maxRecDepth 100000 in
set_option maxHeartbeats 4000000 in
theorem f_Make (neg neg' : Bool) (a a' : Option Addr) (n cap n' cap' : Nat) (z z' : Int) (w : World) (hz : WhIn w neg a n cap z) (hz' : WhIn w neg' a' n' cap' z') (hb : dl z.natAbs ≤ 274877906944) (hb' : dl z'.natAbs ≤ 274877906944) :
    Calls Try.prog 89 #[.agg #[.bool neg, .slice a n cap], .agg #[.bool neg', .slice a' n' cap']] w (RetFE w (mkz z z') (mkd z z') (mke z')) := by
  have hsn : z = wz neg z.natAbs := hz.sgn
  have hsn' : z' = wz neg' z'.natAbs := hz'.sgn
  have HZ := hidP hz; have HZ' := hidP hz'
  by_cases h0 : z' = 0
  · have HS : Hid (sgn z' = 0) := hidP (by rw [h0]; rfl)
    have HR : Hid (mkz z z' = 0 ∧ mkd z z' = 0 ∧ mke z' = 5) := hidP ⟨if_pos h0, if_pos h0, if_pos h0⟩
    clear hz hz' hsn hsn' hb hb' h0
    go_enter Try.func89, Try.ntmps89
    go_wp2_with fail
    refine absC (fun x1 hx1 => ?_)
    have hx : Ext w x1 := by rw [hx1]; exact ((((Ext.refl _).alloc _).alloc _).alloc _)
    have bp : Bl x1 (w.heap.size) #[.bool neg, .slice a n cap] := by rw [hx1]; exact (((Bl.new (by simp)).alloc (by simp)).alloc (by simp))
    have bq : Bl x1 (w.heap.size + 1) #[.bool neg', .slice a' n' cap'] := by rw [hx1]; exact ((Bl.new (by simp)).alloc (by simp))
    have bs : Bl x1 (w.heap.size + 1 + 1) #[.bool false, .slice none 0 0, .slice none 0 0] := by rw [hx1]; exact (Bl.new (by simp))
    have fs : Fz x1 (w.heap.size + 1 + 1) := by rw [hx1]; exact (Fz.new (by simp))
    have HE := hx
    clear hx
    clear hx1
    refine (w_Sign_any neg' a' n' cap' z' _ (HZ'.out.ext HE)).mono ?_
    rw [HS.out]
    rintro e u1 ⟨rfl, hx⟩
    replace bp := Bl.ext hx bp (Nat.succ_pos _)
    replace bq := Bl.ext hx bq (Nat.succ_pos _)
    replace fs := Fz.ext hx fs bs (Nat.succ_pos _)
    replace bs := Bl.ext hx bs (Nat.succ_pos _)
    replace HE := HE.trans hx
    clear hx
    go_wp2_with fail
    refine absB (fun ue hue => ?_)
    have hbs : Bl ue (w.heap.size + 1 + 1) #[.bool false, .slice none 0 0, .slice none 0 0] := by rw [hue]; exact (((bs.set (by simp)).set (by simp)).set (by simp))
    have hnc : ∀ {aa : Option Addr} {nn cc VV : Nat}, Nc u1 aa nn cc VV → Nc ue aa nn cc VV := fun h => by
      rw [hue]
      exact h.but bs (not_ints3 nb_bool nb_slice nb_slice) ((But.refl _ _).store.store.store)
    have heu : Ext w ue := by rw [hue]; exact ((HE.store (by show w.heap.size ≤ w.heap.size + 1 + 1; omega) _).store (by show w.heap.size ≤ w.heap.size + 1 + 1; omega) _).store (by show w.heap.size ≤ w.heap.size + 1 + 1; omega) _
    clear hue
    refine bodyPost_cells_tmp2 rfl rfl Try.underlying79 rfl (by kernel_rfl) (bl_three hbs) rfl rfl ?_
    exact RetFE.of HR.out.1 HR.out.2.1 HR.out.2.2 rfl (Nc.zero _) (Nc.zero _) heu
  · have HR : Hid (mkz z z' = mz z z' / (fg (mz z z') z'.natAbs : Int) ∧ mkd z z' = z'.natAbs / fg (mz z z') z'.natAbs ∧ mke z' = 0) := hidP ⟨if_neg h0, if_neg h0, if_neg h0⟩
    have hsg : ¬ sgn z' = 0 := by rcases sgn_cases z' with h | h | h <;> omega
    have hsz : (sgn z' == 0) = false := by simpa using hsg
    have HMZ : Hid (wz (neg != neg') z.natAbs = mz z z') := hidP (by
      have h9 := mz_of (neg := neg) (neg' := neg') (A := z.natAbs) (B := z'.natAbs) (by omega)
      rw [← hsn, ← hsn'] at h9
      exact h9)
    have HWF : Hid (∀ u, WhIn u neg a n cap z → WhIn u (neg != neg') a n cap (mz z z')) := hidP (fun u h => by rw [← HMZ.out]; exact h.flag _)
    have HB : Hid (dl (mz z z').natAbs ≤ 549755813888) := hidP (by rw [mz_abs]; omega)
    have HB' : Hid (dl z'.natAbs ≤ 549755813888) := hidP (by omega)
    have HN0 : Hid (z'.natAbs ≠ 0) := hidP (by omega)
    have HSG := hidP hsg
    generalize hM : mz z z' = M at *
    clear hz hz' hsn hsn' hb hb' h0 hsg hM
    go_enter Try.func89, Try.ntmps89
    go_wp2_with fail
    refine absC (fun x1 hx1 => ?_)
    have hx : Ext w x1 := by rw [hx1]; exact ((((Ext.refl _).alloc _).alloc _).alloc _)
    have bp : Bl x1 (w.heap.size) #[.bool neg, .slice a n cap] := by rw [hx1]; exact (((Bl.new (by simp)).alloc (by simp)).alloc (by simp))
    have bq : Bl x1 (w.heap.size + 1) #[.bool neg', .slice a' n' cap'] := by rw [hx1]; exact ((Bl.new (by simp)).alloc (by simp))
    have bs : Bl x1 (w.heap.size + 1 + 1) #[.bool false, .slice none 0 0, .slice none 0 0] := by rw [hx1]; exact (Bl.new (by simp))
    have fs : Fz x1 (w.heap.size + 1 + 1) := by rw [hx1]; exact (Fz.new (by simp))
    have HE := hx
    clear hx
    clear hx1
    refine (w_Sign_any neg' a' n' cap' z' _ (HZ'.out.ext HE)).mono ?_
    rintro e u1 ⟨rfl, hx⟩
    replace bp := Bl.ext hx bp (Nat.succ_pos _)
    replace bq := Bl.ext hx bq (Nat.succ_pos _)
    replace fs := Fz.ext hx fs bs (Nat.succ_pos _)
    replace bs := Bl.ext hx bs (Nat.succ_pos _)
    replace HE := HE.trans hx
    clear hx
    go_wp2_with fail
    refine wp_region_plan (R := Ext) (.q 0 (.q 1 (.q 2 (.q 3 (.q 4 (.q 5 (.q 6 (.q 8 (.q 9 (.l 7 (.l 10 (.q 11 (.l 12 (.b 13 (.q 14 .done))))))))))))))) (by kernel_rfl) (by kernel_rfl) (by kernel_rfl) (by kernel_rfl) Ext.refl (fun _ _ _ => Ext.trans) ?_
    refine absE (fun x2 hx2 => ?_)
    have hx : Ext u1 x2 := by rw [hx2]; exact (Ext.refl _).drew
    replace bp := Bl.ext hx bp (Nat.succ_pos _)
    replace bq := Bl.ext hx bq (Nat.succ_pos _)
    replace fs := Fz.ext hx fs bs (Nat.succ_pos _)
    replace bs := Bl.ext hx bs (Nat.succ_pos _)
    replace HE := HE.trans hx
    clear hx
    clear hx2
    repeat (refine wpE_q (v := ?_) rfl rfl (fun u hu => ?_) ?_; rotate_left 1; (focus (have kp := Bl.ext hu bp (Nat.succ_pos _); have kq := Bl.ext hu bq (Nat.succ_pos _); have ks := Bl.ext hu bs (Nat.succ_pos _); go_simp; (try rfl))); simp only [Act.put, List.setIfInBounds_toArray, List.set_cons_zero, List.set_cons_succ])
    refine wpE_l rfl rfl (fun K hK => ?_)
    go_simp
    refine (w_Make (HWF.out _ (HZ.out.ext HE))).mono ?_
    rintro e u2 ⟨a2, n2, c2, rfl, hs2, hx⟩
    refine hK.out _ _ hx ?_
    clear hK K
    try simp only [Act.put, List.setIfInBounds_toArray, List.set_cons_zero, List.set_cons_succ]
    replace bp := Bl.ext hx bp (Nat.succ_pos _)
    replace bq := Bl.ext hx bq (Nat.succ_pos _)
    replace fs := Fz.ext hx fs bs (Nat.succ_pos _)
    replace bs := Bl.ext hx bs (Nat.succ_pos _)
    replace HE := HE.trans hx
    clear hx
    replace hs2 : Nc u2 a2 n2 c2 (M).natAbs := hs2
    refine wpE_l rfl rfl (fun K hK => ?_)
    go_simp
    refine (n_Trim (HZ'.out.ext HE).nu).mono ?_
    rintro e u3 ⟨a3, n3, c3, rfl, hs3, hx⟩
    refine hK.out _ _ hx ?_
    clear hK K
    try simp only [Act.put, List.setIfInBounds_toArray, List.set_cons_zero, List.set_cons_succ]
    replace bp := Bl.ext hx bp (Nat.succ_pos _)
    replace bq := Bl.ext hx bq (Nat.succ_pos _)
    replace fs := Fz.ext hx fs bs (Nat.succ_pos _)
    replace bs := Bl.ext hx bs (Nat.succ_pos _)
    replace hs2 := hs2.ext hx
    replace HE := HE.trans hx
    clear hx
    repeat (refine wpE_q (v := ?_) rfl rfl (fun u hu => ?_) ?_; rotate_left 1; (focus (have kp := Bl.ext hu bp (Nat.succ_pos _); have kq := Bl.ext hu bq (Nat.succ_pos _); have ks := Bl.ext hu bs (Nat.succ_pos _); go_simp; (try rfl))); simp only [Act.put, List.setIfInBounds_toArray, List.set_cons_zero, List.set_cons_succ])
    refine wpE_l rfl rfl (fun K hK => ?_)
    go_simp
    refine (f_frac hs2 hs3 HN0.out HB.out HB'.out).mono ?_
    rintro e u4 ⟨a4, n4, c4, d4, m4, k4, rfl, hs4, ht4, hx⟩
    refine hK.out _ _ hx ?_
    clear hK K
    try simp only [Act.put, List.setIfInBounds_toArray, List.set_cons_zero, List.set_cons_succ]
    replace bp := Bl.ext hx bp (Nat.succ_pos _)
    replace bq := Bl.ext hx bq (Nat.succ_pos _)
    replace fs := Fz.ext hx fs bs (Nat.succ_pos _)
    replace bs := Bl.ext hx bs (Nat.succ_pos _)
    replace hs2 := hs2.ext hx
    replace hs3 := hs3.ext hx
    replace HE := HE.trans hx
    clear hx
    replace hs4 : Nc u4 a4 n4 c4 (M / (fg M z'.natAbs : Int)).natAbs := hs4
    replace ht4 : Nc u4 d4 m4 k4 (z'.natAbs / fg M z'.natAbs) := ht4
    refine wpE_b rfl rfl (fun K hK => ?_)
    go_simp
    refine hK.out _ _ ?_
    clear hK K
    try simp only [Act.put, List.setIfInBounds_toArray, List.set_cons_zero, List.set_cons_succ]
    refine absE (fun x3 hx3 => ?_)
    have hbut : But u4 x3 (w.heap.size + 1 + 1) := by rw [hx3]; exact (But.refl _ _).store.store.store
    have hbn : Bl x3 (w.heap.size + 1 + 1) #[(.bool (decide (M / (fg M z'.natAbs : Int) < 0))), .slice a4 n4 c4, .slice d4 m4 k4] := by rw [hx3]; exact (Bl.set (Bl.set (Bl.set bs (by simp)) (by simp)) (by simp))
    replace hs2 := hs2.but bs (not_ints3 nb_bool nb_slice nb_slice) hbut
    replace hs3 := hs3.but bs (not_ints3 nb_bool nb_slice nb_slice) hbut
    replace hs4 := hs4.but bs (not_ints3 nb_bool nb_slice nb_slice) hbut
    replace ht4 := ht4.but bs (not_ints3 nb_bool nb_slice nb_slice) hbut
    replace bp := But.bl hbut bp (Nat.succ_pos _) (by omega)
    replace bq := But.bl hbut bq (Nat.succ_pos _) (by omega)
    replace fs : Fz x3 (w.heap.size + 1 + 1) := by rw [hx3]; exact (Fz.set (Fz.set (Fz.set fs)))
    replace HE : Ext w x3 := by rw [hx3]; exact (((HE.store (by show w.heap.size ≤ w.heap.size + 1 + 1; omega) _).store (by show w.heap.size ≤ w.heap.size + 1 + 1; omega) _).store (by show w.heap.size ≤ w.heap.size + 1 + 1; omega) _)
    clear bs hbut hx3
    have bs := hbn
    clear hbn
    repeat (refine wpE_q (v := ?_) rfl rfl (fun u hu => ?_) ?_; rotate_left 1; (focus (have kp := Bl.ext hu bp (Nat.succ_pos _); have kq := Bl.ext hu bq (Nat.succ_pos _); have ks := Bl.ext hu bs (Nat.succ_pos _); go_simp; (try rfl))); simp only [Act.put, List.setIfInBounds_toArray, List.set_cons_zero, List.set_cons_succ])
    refine wpE_done ?_
    go_wp2_with fail
    refine bodyPost_cells_tmp2 rfl rfl Try.underlying79 rfl (by kernel_rfl) (bl_three bs) rfl rfl ?_
    exact RetFE.of HR.out.1 HR.out.2.1 HR.out.2.2 rfl hs4 ht4 HE

theorem wd_int {n : Int} (h1 : -9223372036854775808 ≤ n) (h2 : n ≤ 9223372036854775807) : dl n.natAbs ≤ 2 := dl_u64 (by omega)

set_option maxRecDepth 100000 in
set_option maxHeartbeats 2000000 in
theorem f_Of (n d : Int) (w : World) (h1 : -9223372036854775808 ≤ n) (h2 : n ≤ 9223372036854775807) (h3 : -9223372036854775808 ≤ d) (h4 : d ≤ 9223372036854775807) :
    Calls Try.prog 87 #[.int .i64 n, .int .i64 d] w (RetFE w (mkz n d) (mkd n d) (mke d)) := by
  have W1 := hidP (fun u => w_Of n u h1 h2); have W2 := hidP (fun u => w_Of d u h3 h4)
  have L1 := hidP (wd_int h1 h2); have L2 := hidP (wd_int h3 h4)
  clear h1 h2 h3 h4
  go_enter Try.func87, Try.ntmps87
  go_wp2_with fail
  refine absC (fun x1 hx1 => ?_)
  have hx : Ext w x1 := by rw [hx1]; exact ((Ext.refl _).alloc _)
  have bs : Bl x1 (w.heap.size) #[.bool false, .slice none 0 0, .slice none 0 0] := by rw [hx1]; exact (Bl.new (by simp))
  have fs : Fz x1 (w.heap.size) := by rw [hx1]; exact (Fz.new (by simp))
  have HE := hx
  clear hx
  clear hx1
  refine (W1.out _).mono ?_
  rintro e u1 ⟨a1, n1, c1, rfl, hs1, hx⟩
  replace fs := Fz.ext hx fs bs (Nat.succ_pos _)
  replace bs := Bl.ext hx bs (Nat.succ_pos _)
  replace HE := HE.trans hx
  clear hx
  replace hs1 : Nc u1 a1 n1 c1 (n).natAbs := hs1
  go_wp2_with fail
  refine (W2.out _).mono ?_
  rintro e u2 ⟨a2, n2, c2, rfl, hs2, hx⟩
  replace fs := Fz.ext hx fs bs (Nat.succ_pos _)
  replace bs := Bl.ext hx bs (Nat.succ_pos _)
  replace hs1 := hs1.ext hx
  replace HE := HE.trans hx
  clear hx
  replace hs2 : Nc u2 a2 n2 c2 (d).natAbs := hs2
  have hm := f_Make _ _ a1 a2 n1 c1 n2 c2 n d u2 (hs1.wh (by have := L1.out; omega)) (hs2.wh (by have := L2.out; omega)) (by have := L1.out; omega) (by have := L2.out; omega)
  generalize mkz n d = Z at *
  generalize mkd n d = E at *
  generalize mke d = er at *
  have HM := hidP hm
  clear hm
  clear hs1 hs2
  go_wp2_with fail
  refine (HM.out).mono ?_
  rintro e u3 ⟨a3, n3, c3, d3, m3, k3, rfl, hs3, ht3, hx⟩
  replace fs := Fz.ext hx fs bs (Nat.succ_pos _)
  replace bs := Bl.ext hx bs (Nat.succ_pos _)
  replace HE := HE.trans hx
  clear hx
  have HS3 := hidP hs3; have HT3 := hidP ht3
  clear hs3 ht3
  go_wp2_with fail
  refine absB (fun ue hue => ?_)
  have hbs : Bl ue (w.heap.size) #[.bool (decide (Z < 0)), .slice a3 n3 c3, .slice d3 m3 k3] := by rw [hue]; exact (((bs.set (by simp)).set (by simp)).set (by simp))
  have hnc : ∀ {aa : Option Addr} {nn cc VV : Nat}, Nc u3 aa nn cc VV → Nc ue aa nn cc VV := fun h => by
    rw [hue]
    exact h.but bs (not_ints3 nb_bool nb_slice nb_slice) ((But.refl _ _).store.store.store)
  have heu : Ext w ue := by rw [hue]; exact ((HE.store (by show w.heap.size ≤ w.heap.size; omega) _).store (by show w.heap.size ≤ w.heap.size; omega) _).store (by show w.heap.size ≤ w.heap.size; omega) _
  clear hue
  refine bodyPost_cells_tmp2 rfl rfl Try.underlying79 rfl (by kernel_rfl) (bl_three hbs) rfl rfl ?_
  exact RetFE.of rfl rfl rfl rfl (hnc HS3.out) (hnc HT3.out) heu

end Go.Proofs.Ytcipcpbjkcpgdaa
