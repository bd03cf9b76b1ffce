/- The program's fractions on rationals: sums, differences, products. -/
import Derived.Test.YtgjjalnmigdjgaaGreatQ20
namespace Go.Proofs.YtgjjalnmigdjgaaGreat
set_option linter.unusedVariables false
open Go Go.RowKit
theorem fn_enters {P : Program} {F : FuncId} {fn : Func} (hf : P.funcs[F]? = some fn) (hn : (fn.name == "runtime.NumGoroutine") = false) (hb : fn.body.isNone = false) (args : Array Value) (u : World) :
    (callFunc F args).run P u = .ok (.enter F args) u := by
  have hn' : ¬ fn.name = "runtime.NumGoroutine" := by simpa using hn
  have hb' : ¬ fn.body = none := fun h => by rw [h] at hb; cases hb
  simp [callFunc, Sem.run_bind, hf, hn', hb']
theorem az_mk {z z' : Int} {D D' : Nat} (h : D ≠ 0) (h' : D' ≠ 0) : mkRat (az z D z' D') (ad D D') = mkRat z D + mkRat z' D' ∧ ad D D' ≠ 0 := by
  unfold az ad
  by_cases hd : D = D'
  · subst hd
    rw [if_pos rfl, if_pos rfl]
    refine ⟨?_, h⟩
    rw [Rat.mkRat_add_mkRat _ _ h h]
    have := Rat.mkRat_mul_right (n := z + z') (d := D) h
    rw [← this, Int.add_mul]
  · rw [if_neg hd, if_neg hd]
    exact ⟨(Rat.mkRat_add_mkRat _ _ h h').symm, Nat.mul_ne_zero h h'⟩
theorem az_len {z z' : Int} {D D' : Nat} (h1 : dl z.natAbs ≤ 137438953473) (h2 : dl D ≤ 137438953473) (h3 : dl z'.natAbs ≤ 137438953473) (h4 : dl D' ≤ 137438953473) : dl (az z D z' D').natAbs ≤ 549755813888 ∧ dl (ad D D') ≤ 549755813888 := by
  unfold az ad
  split
  · exact ⟨by have := dz_add h1 h3; omega, by omega⟩
  · have a1 := dz_mul z (D' : Int)
    have a2 := dz_mul z' (D : Int)
    rw [Int.natAbs_natCast] at a1 a2
    refine ⟨?_, by have := dl_mul D D'; omega⟩
    have := dz_add (z := z * (D' : Int)) (z' := z' * (D : Int)) (N := 274877906946) (by omega) (by omega)
    omega
set_option maxRecDepth 100000 in
set_option maxHeartbeats 4000000 in
theorem f_sub (neg : Bool) (a d a' d' : Option Addr) (n c m k n' c' m' k' : Nat) (z z' : Int) (D D' : Nat) (w : World) (hz : WhIn w neg a n c z) (hd : Nc w d m k D) (hz' : Nc w a' n' c' z'.natAbs) (hd' : Nc w d' m' k' D')
    (hb1 : dl z.natAbs ≤ 137438953473) (hb2 : dl D ≤ 137438953473) (hb3 : dl z'.natAbs ≤ 137438953473) (hb4 : dl D' ≤ 137438953473) :
    Calls Tryz.prog 196 #[.agg #[.bool neg, .slice a n c, .slice d m k], .agg #[.bool (decide (z' < 0)), .slice a' n' c', .slice d' m' k']] w
      (RetF w (az z D (-z') D') (ad D D')) := by
 have HZ := hidP hz; have HD := hidP hd; have HZ' := hidP hz'; have HD' := hidP hd'
 have B3 : Hid (dl z'.natAbs ≤ 549755813888) := hidP (by omega)
 have HNG : Hid (∀ u, Nc u a' n' c' z'.natAbs → Calls Tryz.prog 215 #[.agg #[.bool (decide (z' < 0)), .slice a' n' c']] u (RetW u (-z'))) := hidP (fun u t => w_Neg (t.wh (by omega)))
 have hl : dl (-z').natAbs ≤ 137438953473 := by rw [Int.natAbs_neg]; omega
 generalize -z' = y at *
 have HL : Hid (dl y.natAbs ≤ 549755813888) := hidP (by omega)
 have HAD := hidP (fun u b2 a2 n2 c2 (t1 : WhIn u neg a n c z) (t2 : Nc u d m k D) (t3 : WhIn u b2 a2 n2 c2 y) (t4 : Nc u d' m' k' D') => f_add neg b2 a d a2 d' n c m k n2 c2 m' k' z y D D' u t1 t2 t3 t4 hb1 hb2 hl hb4)
 generalize decide (z' < 0) = nb at *
 generalize az z D y D' = X at *
 generalize ad D D' = G at *
 clear hz hd hz' hd' hb1 hb2 hb3 hb4 hl B3
 go_enter Tryz.func196, Tryz.ntmps196
 go_wp2_with fail
 refine wp_region_plan (R := Ext) (.q 0 (.q 1 (.q 2 (.q 4 (.q 5 (.l 3 (.q 6 (.l 7 (.b 8 .done))))))))) (by kernel_rfl) (by kernel_rfl) (by kernel_rfl) (by kernel_rfl) Ext.refl (fun _ _ _ => Ext.trans) ?_
 refine absE (fun x1 hx1 => ?_)
 have hx : Ext w x1 := by rw [hx1]; exact ((((Ext.refl _).alloc _).alloc _).alloc _).drew
 have bp : Bl x1 (w.heap.size) #[.bool neg, .slice a n c, .slice d m k] := by rw [hx1]; exact (((Bl.new (by simp)).alloc (by simp)).alloc (by simp)).drew
 have bq : Bl x1 (w.heap.size + 1) #[.bool nb, .slice a' n' c', .slice d' m' k'] := by rw [hx1]; exact ((Bl.new (by simp)).alloc (by simp)).drew
 have bs : Bl x1 (w.heap.size + 1 + 1) #[.bool false, .slice none 0 0, .slice none 0 0] := by rw [hx1]; exact (Bl.new (by simp)).drew
 have fs : Fz x1 (w.heap.size + 1 + 1) := by rw [hx1]; exact (Fz.new (by simp)).drew
 have HE := hx
 clear hx
 clear hx1
 repeat (refine wpE_q (v := ?_) rfl rfl (fun u hu => ?_) ?_; rotate_left 1; (focus (have kp := q1b hu bp; have kq := q1b hu bq; have ks := q1b hu bs; go_simp; (try rfl))); simp only [PU])
 refine wpE_l rfl rfl (fun K hK => ?_)
 go_simp
 refine (HNG.out _ (HZ'.out.ext HE)).mono ?_
 rintro e u1 ⟨a1, n1, c1, rfl, hs1, hx⟩
 refine hK.out _ _ hx ?_
 clear hK K
 try simp only [PU]
 replace bp := q1b hx bp
 replace bq := q1b hx bq
 replace fs := q1f hx fs bs
 replace bs := q1b hx bs
 replace HE := HE.trans hx
 clear hx
 replace hs1 : Nc u1 a1 n1 c1 (y).natAbs := hs1
 repeat (refine wpE_q (v := ?_) rfl rfl (fun u hu => ?_) ?_; rotate_left 1; (focus (have kp := q1b hu bp; have kq := q1b hu bq; have ks := q1b hu bs; go_simp; (try rfl))); simp only [PU])
 refine wpE_l rfl rfl (fun K hK => ?_)
 go_simp
 refine (HAD.out _ _ _ _ _ (HZ.out.ext HE) (HD.out.ext HE) (hs1.wh HL.out) (HD'.out.ext HE)).mono ?_
 rintro e u2 ⟨a2, n2, c2, d2, m2, k2, rfl, hs2, ht2, hx⟩
 refine hK.out _ _ hx ?_
 clear hK K
 try simp only [PU]
 replace bp := q1b hx bp
 replace bq := q1b hx bq
 replace fs := q1f hx fs bs
 replace bs := q1b hx bs
 replace hs1 := hs1.ext hx
 replace HE := HE.trans hx
 clear hx
 replace hs2 : Nc u2 a2 n2 c2 (X).natAbs := hs2
 replace ht2 : Nc u2 d2 m2 k2 (G) := ht2
 refine wpE_b rfl rfl (fun K hK => ?_)
 go_simp
 refine hK.out _ _ ?_
 clear hK K
 try simp only [PU]
 refine absE (fun x2 hx2 => ?_)
 have hbut : But u2 x2 (w.heap.size + 1 + 1) := by rw [hx2]; exact (But.refl _ _).store.store.store
 have hbn : Bl x2 (w.heap.size + 1 + 1) #[(.bool (decide (X < 0))), .slice a2 n2 c2, .slice d2 m2 k2] := by rw [hx2]; exact (Bl.set (Bl.set (Bl.set bs (by simp)) (by simp)) (by simp))
 replace hs1 := hs1.but bs (not_ints3 nb_bool nb_slice nb_slice) hbut
 replace hs2 := hs2.but bs (not_ints3 nb_bool nb_slice nb_slice) hbut
 replace ht2 := ht2.but bs (not_ints3 nb_bool nb_slice nb_slice) hbut
 replace bp := But.bl hbut bp (Nat.succ_pos _) (by omega)
 replace bq := But.bl hbut bq (Nat.succ_pos _) (by omega)
 replace fs : Fz x2 (w.heap.size + 1 + 1) := by rw [hx2]; exact (Fz.set (Fz.set (Fz.set fs)))
 replace HE : Ext w x2 := by rw [hx2]; exact (((HE.store (by show w.heap.size ≤ w.heap.size + 1 + 1; omega) _).store (by show w.heap.size ≤ w.heap.size + 1 + 1; omega) _).store (by show w.heap.size ≤ w.heap.size + 1 + 1; omega) _)
 clear bs hbut hx2
 have bs := hbn
 clear hbn
 refine wpE_done ?_
 go_wp2_with fail
 refine bodyPost_cells rfl rfl Tryz.underlying129 rfl (by kernel_rfl) (bl_three bs) rfl ?_
 exact RetF.of rfl rfl rfl hs2 ht2 HE
section
variable {b b' : Bool} {a d a' d' : Option Addr} {n c m k n' c' m' k' N N' : Nat} {q q' : Rat} {w : World}
set_option maxRecDepth 100000 in
set_option maxHeartbeats 4000000 in
theorem f_two (F : FuncId) (r : Rat) (hcf : ∀ args u, (callFunc F args).run Tryz.prog u = .ok (.enter F args) u) (h : Fq w b a n c d m k q N) (h' : Fq w b' a' n' c' d' m' k' q' N') (hN : N ≤ 137438953472) (hN' : N' ≤ 137438953472)
    (hdo : ∀ (Z Y : Int) (E G : Nat), E ≠ 0 → G ≠ 0 → mkRat Z E = q → mkRat Y G = q' → dl Z.natAbs ≤ 137438953472 → dl E ≤ 137438953473 → dl Y.natAbs ≤ 137438953472 → dl G ≤ 137438953473 →
      ∃ (X : Int) (K : Nat), K ≠ 0 ∧ mkRat X K = r ∧ dl X.natAbs ≤ 549755813888 ∧ dl K ≤ 549755813888 ∧
        ∀ (u : World) (a d a' d' : Option Addr) (n c m k n' c' m' k' : Nat), Nc u a n c Z.natAbs → Nc u d m k E → Nc u a' n' c' Y.natAbs → Nc u d' m' k' G →
          Calls Tryz.prog F #[.agg #[.bool (decide (Z < 0)), .slice a n c, .slice d m k], .agg #[.bool (decide (Y < 0)), .slice a' n' c', .slice d' m' k']] u (RetF u X K)) :
    Calls Tryz.prog 133 #[.func (.func F) #[] #[], .agg #[.bool b, .slice a n c, .slice d m k], .agg #[.bool b', .slice a' n' c', .slice d' m' k']] w (RetF w r.num r.den) := by
 obtain ⟨z, D, hz, hd, hm, hb1, hb2, rfl⟩ := h
 obtain ⟨z', D', hz', hd', hm', hb3, hb4, rfl⟩ := h'
 have HP1 : Hid (∀ u, WhIn u b a n c z → Nu u d m k D → Calls Tryz.prog 88 #[.agg #[.bool b, .slice a n c, .slice d m k]] u (RetF u (pz z D) (pd D))) := hidP (fun u t1 t2 => f_parts b a d n c m k z D u t1 t2)
 have HP2 : Hid (∀ u, WhIn u b' a' n' c' z' → Nu u d' m' k' D' → Calls Tryz.prog 88 #[.agg #[.bool b', .slice a' n' c', .slice d' m' k']] u (RetF u (pz z' D') (pd D'))) := hidP (fun u t1 t2 => f_parts b' a' d' n' c' m' k' z' D' u t1 t2)
 obtain ⟨X, K, hK0, hK, hX1, hX2, hcall⟩ := hdo (pz z D) (pz z' D') (pd D) (pd D') (pd_ne D) (pd_ne D') (mk_pr z D) (mk_pr z' D') (by have := pz_len z D; omega) (by have := pd_len D; omega) (by have := pz_len z' D'; omega) (by have := pd_len D'; omega)
 have HC := hidP hcall
 have HR := hidP (rz_num (z := X) hK0)
 rw [← hK]
 generalize (mkRat X K).num = rn at *
 generalize (mkRat X K).den = rdn at *
 have H0 := hidP hK0; have HX1 := hidP hX1; have HX2 := hidP hX2
 have HZ := hidP hz; have HD := hidP hd; have HZ' := hidP hz'; have HD' := hidP hd'
 clear hz hd hz' hd' hb1 hb2 hb3 hb4 hm hm' hN hN' hdo hcall hK hK0 hX1 hX2
 generalize pz z D = Z at *
 generalize pd D = E at *
 generalize pz z' D' = Y at *
 generalize pd D' = Q at *
 go_enter Tryz.func133, Tryz.ntmps133
 go_wp2_with fail
 refine wp_region_plan (R := Ext) (.q 0 (.q 1 (.q 3 (.l 2 (.l 4 (.l 5 (.l 6 (.b 7 .done)))))))) (by kernel_rfl) (by kernel_rfl) (by kernel_rfl) (by kernel_rfl) Ext.refl (fun _ _ _ => Ext.trans) ?_
 refine absE (fun x1 hx1 => ?_)
 have hx : Ext w x1 := by rw [hx1]; exact ((((Ext.refl _).alloc _).alloc _).alloc _).drew
 have bp : Bl x1 (w.heap.size) #[.bool b, .slice a n c, .slice d m k] := by rw [hx1]; exact (((Bl.new (by simp)).alloc (by simp)).alloc (by simp)).drew
 have bq : Bl x1 (w.heap.size + 1) #[.bool b', .slice a' n' c', .slice d' m' k'] := by rw [hx1]; exact ((Bl.new (by simp)).alloc (by simp)).drew
 have bs : Bl x1 (w.heap.size + 1 + 1) #[.bool false, .slice none 0 0, .slice none 0 0] := by rw [hx1]; exact (Bl.new (by simp)).drew
 have fs : Fz x1 (w.heap.size + 1 + 1) := by rw [hx1]; exact (Fz.new (by simp)).drew
 have HE := hx
 clear hx
 clear hx1
 repeat (refine wpE_q (v := ?_) rfl rfl (fun u hu => ?_) ?_; rotate_left 1; (focus (have kp := q1b hu bp; have kq := q1b hu bq; have ks := q1b hu bs; go_simp; (try rfl))); simp only [PU])
 refine wpE_l rfl rfl (fun K hK => ?_)
 go_simp
 refine (HP1.out _ (HZ.out.ext HE) (HD.out.ext HE)).mono ?_
 rintro e u1 ⟨a1, n1, c1, d1, m1, k1, rfl, hs1, ht1, hx⟩
 refine hK.out _ _ hx ?_
 clear hK K
 try simp only [PU]
 replace bp := q1b hx bp
 replace bq := q1b hx bq
 replace fs := q1f hx fs bs
 replace bs := q1b hx bs
 replace HE := HE.trans hx
 clear hx
 replace hs1 : Nc u1 a1 n1 c1 (Z).natAbs := hs1
 replace ht1 : Nc u1 d1 m1 k1 (E) := ht1
 refine wpE_l rfl rfl (fun K hK => ?_)
 go_simp
 refine (HP2.out _ (HZ'.out.ext HE) (HD'.out.ext HE)).mono ?_
 rintro e u2 ⟨a2, n2, c2, d2, m2, k2, rfl, hs2, ht2, hx⟩
 refine hK.out _ _ hx ?_
 clear hK K
 try simp only [PU]
 replace bp := q1b hx bp
 replace bq := q1b hx bq
 replace fs := q1f hx fs bs
 replace bs := q1b hx bs
 replace hs1 := hs1.ext hx
 replace ht1 := ht1.ext hx
 replace HE := HE.trans hx
 clear hx
 replace hs2 : Nc u2 a2 n2 c2 (Y).natAbs := hs2
 replace ht2 : Nc u2 d2 m2 k2 (Q) := ht2
 refine wpE_l rfl rfl (fun K hK => ?_)
 go_simp
 refine (HC.out _ _ _ _ _ _ _ _ _ _ _ _ _ hs1 ht1 hs2 ht2).mono ?_
 rintro e u3 ⟨a3, n3, c3, d3, m3, k3, rfl, hs3, ht3, hx⟩
 refine hK.out _ _ hx ?_
 clear hK K
 try simp only [PU]
 replace bp := q1b hx bp
 replace bq := q1b hx bq
 replace fs := q1f hx fs bs
 replace bs := q1b hx bs
 replace hs1 := hs1.ext hx
 replace ht1 := ht1.ext hx
 replace hs2 := hs2.ext hx
 replace ht2 := ht2.ext hx
 replace HE := HE.trans hx
 clear hx
 replace hs3 : Nc u3 a3 n3 c3 (X).natAbs := hs3
 replace ht3 : Nc u3 d3 m3 k3 (K) := ht3
 refine wpE_l rfl rfl (fun K hK => ?_)
 go_simp
 refine (f_frac hs3 ht3 H0.out HX1.out HX2.out).mono ?_
 rintro e u4 ⟨a4, n4, c4, d4, m4, k4, rfl, hs4, ht4, hx⟩
 refine hK.out _ _ hx ?_
 clear hK K
 try simp only [PU]
 replace bp := q1b hx bp
 replace bq := q1b hx bq
 replace fs := q1f hx fs bs
 replace bs := q1b hx bs
 replace hs1 := hs1.ext hx
 replace ht1 := ht1.ext hx
 replace hs2 := hs2.ext hx
 replace ht2 := ht2.ext hx
 replace hs3 := hs3.ext hx
 replace ht3 := ht3.ext hx
 replace HE := HE.trans hx
 clear hx
 replace hs4 : Nc u4 a4 n4 c4 (rz X K).natAbs := hs4
 replace ht4 : Nc u4 d4 m4 k4 (rd X K) := ht4
 refine wpE_b rfl rfl (fun K hK => ?_)
 go_simp
 refine hK.out _ _ ?_
 clear hK K
 try simp only [PU]
 refine absE (fun x2 hx2 => ?_)
 have hbut : But u4 x2 (w.heap.size + 1 + 1) := by rw [hx2]; exact (But.refl _ _).store.store.store
 have hbn : Bl x2 (w.heap.size + 1 + 1) #[(.bool (decide (rz X K < 0))), .slice a4 n4 c4, .slice d4 m4 k4] := by rw [hx2]; exact (Bl.set (Bl.set (Bl.set bs (by simp)) (by simp)) (by simp))
 replace hs1 := hs1.but bs (not_ints3 nb_bool nb_slice nb_slice) hbut
 replace ht1 := ht1.but bs (not_ints3 nb_bool nb_slice nb_slice) hbut
 replace hs2 := hs2.but bs (not_ints3 nb_bool nb_slice nb_slice) hbut
 replace ht2 := ht2.but bs (not_ints3 nb_bool nb_slice nb_slice) hbut
 replace hs3 := hs3.but bs (not_ints3 nb_bool nb_slice nb_slice) hbut
 replace ht3 := ht3.but bs (not_ints3 nb_bool nb_slice nb_slice) hbut
 replace hs4 := hs4.but bs (not_ints3 nb_bool nb_slice nb_slice) hbut
 replace ht4 := ht4.but bs (not_ints3 nb_bool nb_slice nb_slice) hbut
 replace bp := But.bl hbut bp (Nat.succ_pos _) (by omega)
 replace bq := But.bl hbut bq (Nat.succ_pos _) (by omega)
 replace fs : Fz x2 (w.heap.size + 1 + 1) := by rw [hx2]; exact (Fz.set (Fz.set (Fz.set fs)))
 replace HE : Ext w x2 := by rw [hx2]; exact (((HE.store (by show w.heap.size ≤ w.heap.size + 1 + 1; omega) _).store (by show w.heap.size ≤ w.heap.size + 1 + 1; omega) _).store (by show w.heap.size ≤ w.heap.size + 1 + 1; omega) _)
 clear bs hbut hx2
 have bs := hbn
 clear hbn
 refine wpE_done ?_
 go_wp2_with fail
 refine bodyPost_cells rfl rfl Tryz.underlying29 rfl (by kernel_rfl) (bl_three bs) rfl ?_
 exact RetF.of HR.out.1.symm HR.out.2.symm rfl hs4 ht4 HE
set_option maxRecDepth 100000 in
set_option maxHeartbeats 4000000 in
theorem fq_Add (h : Fq w b a n c d m k q N) (h' : Fq w b' a' n' c' d' m' k' q' N') (hN : N ≤ 137438953472) (hN' : N' ≤ 137438953472) :
    Calls Tryz.prog 87 #[.agg #[.bool b, .slice a n c, .slice d m k], .agg #[.bool b', .slice a' n' c', .slice d' m' k']] w (RetF w (q + q').num (q + q').den) := by
 have HT := hidP (fun (u : World) (t1 : Fq u b a n c d m k q N) (t2 : Fq u b' a' n' c' d' m' k' q' N') => f_two 134 (q + q') (fn_enters Tryz.func134 (by kernel_rfl) (by kernel_rfl)) t1 t2 hN hN' (by
  intro Z Y E G e1 e2 m1 m2 b1 b2 b3 b4
  have hm := az_mk (z := Z) (z' := Y) e1 e2
  have hl := az_len (z := Z) (D := E) (z' := Y) (D' := G) (by omega) (by omega) (by omega) (by omega)
  refine ⟨az Z E Y G, ad E G, hm.2, by rw [hm.1, m1, m2], hl.1, hl.2, fun u a d a' d' n c m k n' c' m' k' h1 h2 h3 h4 => ?_⟩
  exact f_add _ _ a d a' d' n c m k n' c' m' k' Z Y E G u (h1.wh (by omega)) h2 (h3.wh (by omega)) h4 (by omega) (by omega) (by omega) (by omega)))
 have H := hidP h; have H' := hidP h'
 generalize q + q' = r at *
 clear h h' hN hN'
 go_enter Tryz.func87, Tryz.ntmps87
 go_wp2_with fail
 refine absC (fun x1 hx1 => ?_)
 have hx : Ext w x1 := by rw [hx1]; exact ((((Ext.refl _).alloc _).alloc _).alloc _)
 have bp : Bl x1 (w.heap.size) #[.bool b, .slice a n c, .slice d m k] := by rw [hx1]; exact (((Bl.new (by simp)).alloc (by simp)).alloc (by simp))
 have bq : Bl x1 (w.heap.size + 1) #[.bool b', .slice a' n' c', .slice d' m' k'] := by rw [hx1]; exact ((Bl.new (by simp)).alloc (by simp))
 have bs : Bl x1 (w.heap.size + 1 + 1) #[.bool false, .slice none 0 0, .slice none 0 0] := by rw [hx1]; exact (Bl.new (by simp))
 have fs : Fz x1 (w.heap.size + 1 + 1) := by rw [hx1]; exact (Fz.new (by simp))
 have HE := hx
 clear hx
 clear hx1
 refine (HT.out _ (H.out.ext HE) (H'.out.ext HE)).mono ?_
 rintro e u1 ⟨a1, n1, c1, d1, m1, k1, rfl, hs1, ht1, hx⟩
 replace bp := q1b hx bp
 replace bq := q1b hx bq
 replace fs := q1f hx fs bs
 replace bs := q1b hx bs
 replace HE := HE.trans hx
 clear hx
 replace hs1 : Nc u1 a1 n1 c1 (r.num).natAbs := hs1
 replace ht1 : Nc u1 d1 m1 k1 (r.den) := ht1
 have HS := hidP hs1; have HTT := hidP ht1
 clear hs1 ht1
 go_wp2_with fail
 refine absB (fun ue hue => ?_)
 have hbs : Bl ue (w.heap.size + 1 + 1) #[.bool (decide (r.num < 0)), .slice a1 n1 c1, .slice d1 m1 k1] := by rw [hue]; exact (((bs.set (by simp)).set (by simp)).set (by simp))
 have hnc : ∀ {aa : Option Addr} {nn cc VV : Nat}, Nc u1 aa nn cc VV → Nc ue aa nn cc VV := fun h => by
  rw [hue]
  exact h.but bs (not_ints3 nb_bool nb_slice nb_slice) ((But.refl _ _).store.store.store)
 have heu : Ext w ue := by rw [hue]; exact ((HE.store (by show w.heap.size ≤ w.heap.size + 1 + 1; omega) _).store (by show w.heap.size ≤ w.heap.size + 1 + 1; omega) _).store (by show w.heap.size ≤ w.heap.size + 1 + 1; omega) _
 clear hue
 refine bodyPost_cells rfl rfl Tryz.underlying29 rfl (by kernel_rfl) (bl_three hbs) rfl ?_
 exact RetF.of rfl rfl rfl (hnc HS.out) (hnc HTT.out) heu
set_option maxRecDepth 100000 in
set_option maxHeartbeats 4000000 in
theorem fq_Sub (h : Fq w b a n c d m k q N) (h' : Fq w b' a' n' c' d' m' k' q' N') (hN : N ≤ 137438953472) (hN' : N' ≤ 137438953472) :
    Calls Tryz.prog 169 #[.agg #[.bool b, .slice a n c, .slice d m k], .agg #[.bool b', .slice a' n' c', .slice d' m' k']] w (RetF w (q - q').num (q - q').den) := by
 have HT := hidP (fun (u : World) (t1 : Fq u b a n c d m k q N) (t2 : Fq u b' a' n' c' d' m' k' q' N') => f_two 196 (q - q') (fn_enters Tryz.func196 (by kernel_rfl) (by kernel_rfl)) t1 t2 hN hN' (by
  intro Z Y E G e1 e2 m1 m2 b1 b2 b3 b4
  have hm := az_mk (z := Z) (z' := -Y) e1 e2
  have hl := az_len (z := Z) (D := E) (z' := -Y) (D' := G) (by omega) (by omega) (by rw [Int.natAbs_neg]; omega) (by omega)
  refine ⟨az Z E (-Y) G, ad E G, hm.2, by rw [hm.1, m1, ← Rat.neg_mkRat, m2, Rat.sub_eq_add_neg], hl.1, hl.2, fun u a d a' d' n c m k n' c' m' k' h1 h2 h3 h4 => ?_⟩
  exact f_sub _ a d a' d' n c m k n' c' m' k' Z Y E G u (h1.wh (by omega)) h2 h3 h4 (by omega) (by omega) (by omega) (by omega)))
 have H := hidP h; have H' := hidP h'
 generalize q - q' = r at *
 clear h h' hN hN'
 go_enter Tryz.func169, Tryz.ntmps169
 go_wp2_with fail
 refine absC (fun x1 hx1 => ?_)
 have hx : Ext w x1 := by rw [hx1]; exact ((((Ext.refl _).alloc _).alloc _).alloc _)
 have bp : Bl x1 (w.heap.size) #[.bool b, .slice a n c, .slice d m k] := by rw [hx1]; exact (((Bl.new (by simp)).alloc (by simp)).alloc (by simp))
 have bq : Bl x1 (w.heap.size + 1) #[.bool b', .slice a' n' c', .slice d' m' k'] := by rw [hx1]; exact ((Bl.new (by simp)).alloc (by simp))
 have bs : Bl x1 (w.heap.size + 1 + 1) #[.bool false, .slice none 0 0, .slice none 0 0] := by rw [hx1]; exact (Bl.new (by simp))
 have fs : Fz x1 (w.heap.size + 1 + 1) := by rw [hx1]; exact (Fz.new (by simp))
 have HE := hx
 clear hx
 clear hx1
 refine (HT.out _ (H.out.ext HE) (H'.out.ext HE)).mono ?_
 rintro e u1 ⟨a1, n1, c1, d1, m1, k1, rfl, hs1, ht1, hx⟩
 replace bp := q1b hx bp
 replace bq := q1b hx bq
 replace fs := q1f hx fs bs
 replace bs := q1b hx bs
 replace HE := HE.trans hx
 clear hx
 replace hs1 : Nc u1 a1 n1 c1 (r.num).natAbs := hs1
 replace ht1 : Nc u1 d1 m1 k1 (r.den) := ht1
 have HS := hidP hs1; have HTT := hidP ht1
 clear hs1 ht1
 go_wp2_with fail
 refine absB (fun ue hue => ?_)
 have hbs : Bl ue (w.heap.size + 1 + 1) #[.bool (decide (r.num < 0)), .slice a1 n1 c1, .slice d1 m1 k1] := by rw [hue]; exact (((bs.set (by simp)).set (by simp)).set (by simp))
 have hnc : ∀ {aa : Option Addr} {nn cc VV : Nat}, Nc u1 aa nn cc VV → Nc ue aa nn cc VV := fun h => by
  rw [hue]
  exact h.but bs (not_ints3 nb_bool nb_slice nb_slice) ((But.refl _ _).store.store.store)
 have heu : Ext w ue := by rw [hue]; exact ((HE.store (by show w.heap.size ≤ w.heap.size + 1 + 1; omega) _).store (by show w.heap.size ≤ w.heap.size + 1 + 1; omega) _).store (by show w.heap.size ≤ w.heap.size + 1 + 1; omega) _
 clear hue
 refine bodyPost_cells rfl rfl Tryz.underlying29 rfl (by kernel_rfl) (bl_three hbs) rfl ?_
 exact RetF.of rfl rfl rfl (hnc HS.out) (hnc HTT.out) heu
set_option maxRecDepth 100000 in
set_option maxHeartbeats 4000000 in
theorem fq_Mul (h : Fq w b a n c d m k q N) (h' : Fq w b' a' n' c' d' m' k' q' N') (hN : N ≤ 137438953472) (hN' : N' ≤ 137438953472) :
    Calls Tryz.prog 168 #[.agg #[.bool b, .slice a n c, .slice d m k], .agg #[.bool b', .slice a' n' c', .slice d' m' k']] w (RetF w (q * q').num (q * q').den) := by
 have HT := hidP (fun (u : World) (t1 : Fq u b a n c d m k q N) (t2 : Fq u b' a' n' c' d' m' k' q' N') => f_two 195 (q * q') (fn_enters Tryz.func195 (by kernel_rfl) (by kernel_rfl)) t1 t2 hN hN' (by
  intro Z Y E G e1 e2 m1 m2 b1 b2 b3 b4
  have a1 := dz_mul Z Y
  have a2 := dl_mul E G
  refine ⟨Z * Y, E * G, Nat.mul_ne_zero e1 e2, by rw [← Rat.mkRat_mul_mkRat, m1, m2], by omega, by omega, fun u a d a' d' n c m k n' c' m' k' h1 h2 h3 h4 => ?_⟩
  exact f_mul _ _ a d a' d' n c m k n' c' m' k' Z Y E G u (h1.wh (by omega)) (h2.nu (by omega)) (h3.wh (by omega)) (h4.nu (by omega))))
 have H := hidP h; have H' := hidP h'
 generalize q * q' = r at *
 clear h h' hN hN'
 go_enter Tryz.func168, Tryz.ntmps168
 go_wp2_with fail
 refine absC (fun x1 hx1 => ?_)
 have hx : Ext w x1 := by rw [hx1]; exact ((((Ext.refl _).alloc _).alloc _).alloc _)
 have bp : Bl x1 (w.heap.size) #[.bool b, .slice a n c, .slice d m k] := by rw [hx1]; exact (((Bl.new (by simp)).alloc (by simp)).alloc (by simp))
 have bq : Bl x1 (w.heap.size + 1) #[.bool b', .slice a' n' c', .slice d' m' k'] := by rw [hx1]; exact ((Bl.new (by simp)).alloc (by simp))
 have bs : Bl x1 (w.heap.size + 1 + 1) #[.bool false, .slice none 0 0, .slice none 0 0] := by rw [hx1]; exact (Bl.new (by simp))
 have fs : Fz x1 (w.heap.size + 1 + 1) := by rw [hx1]; exact (Fz.new (by simp))
 have HE := hx
 clear hx
 clear hx1
 refine (HT.out _ (H.out.ext HE) (H'.out.ext HE)).mono ?_
 rintro e u1 ⟨a1, n1, c1, d1, m1, k1, rfl, hs1, ht1, hx⟩
 replace bp := q1b hx bp
 replace bq := q1b hx bq
 replace fs := q1f hx fs bs
 replace bs := q1b hx bs
 replace HE := HE.trans hx
 clear hx
 replace hs1 : Nc u1 a1 n1 c1 (r.num).natAbs := hs1
 replace ht1 : Nc u1 d1 m1 k1 (r.den) := ht1
 have HS := hidP hs1; have HTT := hidP ht1
 clear hs1 ht1
 go_wp2_with fail
 refine absB (fun ue hue => ?_)
 have hbs : Bl ue (w.heap.size + 1 + 1) #[.bool (decide (r.num < 0)), .slice a1 n1 c1, .slice d1 m1 k1] := by rw [hue]; exact (((bs.set (by simp)).set (by simp)).set (by simp))
 have hnc : ∀ {aa : Option Addr} {nn cc VV : Nat}, Nc u1 aa nn cc VV → Nc ue aa nn cc VV := fun h => by
  rw [hue]
  exact h.but bs (not_ints3 nb_bool nb_slice nb_slice) ((But.refl _ _).store.store.store)
 have heu : Ext w ue := by rw [hue]; exact ((HE.store (by show w.heap.size ≤ w.heap.size + 1 + 1; omega) _).store (by show w.heap.size ≤ w.heap.size + 1 + 1; omega) _).store (by show w.heap.size ≤ w.heap.size + 1 + 1; omega) _
 clear hue
 refine bodyPost_cells rfl rfl Tryz.underlying29 rfl (by kernel_rfl) (bl_three hbs) rfl ?_
 exact RetF.of rfl rfl rfl (hnc HS.out) (hnc HTT.out) heu
end
end Go.Proofs.YtgjjalnmigdjgaaGreat
