/- Spots: points of the grid; how ints and fractions stand. -/
import Derived.Test.YtgjjalnmigdjgaaGreatQ22
import Derived.Test.YtgjjalnmigdjgaaGreatG1
namespace Go.Proofs.YtgjjalnmigdjgaaGreat
set_option linter.unusedVariables false
set_option linter.unusedSimpArgs false
open Go Go.RowKit
theorem not_ints6 {k : IntKind} {v0 v1 v2 v3 v4 v5 : Value} (h0 : ∀ x, v0 ≠ .int k x) (h1 : ∀ x, v1 ≠ .int k x) (h2 : ∀ x, v2 ≠ .int k x) (h3 : ∀ x, v3 ≠ .int k x) (h4 : ∀ x, v4 ≠ .int k x) (h5 : ∀ x, v5 ≠ .int k x) : ∀ (j : Nat) (x : Int), (#[v0, v1, v2, v3, v4, v5] : Array Value)[j]? ≠ some (.int k x) := by
  intro j x
  match j with
  | 0 => simpa using h0 x
  | 1 => simpa using h1 x
  | 2 => simpa using h2 x
  | 3 => simpa using h3 x
  | 4 => simpa using h4 x
  | 5 => simpa using h5 x
  | j + 6 => simp
theorem bl_any {w : World} {g : Nat} {cs : Array Value} (h : Bl w g cs) : ∀ j v, cs.toList[j]? = some v → w.cell? ⟨g, j, none⟩ = some v := by
  intro j v hv
  rw [h j]
  simpa using hv
/-- The call hands back a spot, reduced. -/
def RetS (w : World) (x y : Rat) (e : Ending) (w' : World) : Prop := ∃ a n c d m k a' n' c' d' m' k', e = .returned (.agg #[.bool (decide (x.num < 0)), .slice a n c, .slice d m k, .bool (decide (y.num < 0)), .slice a' n' c', .slice d' m' k']) ∧
  Nc w' a n c x.num.natAbs ∧ Nc w' d m k x.den ∧ Nc w' a' n' c' y.num.natAbs ∧ Nc w' d' m' k' y.den ∧ Ext w w'
set_option maxRecDepth 100000 in
set_option maxHeartbeats 4000000 in
theorem sp_At (x y : Int) (w : World) (x1 : -9223372036854775808 ≤ x) (x2 : x ≤ 9223372036854775807) (y1 : -9223372036854775808 ≤ y) (y2 : y ≤ 9223372036854775807) :
    Calls Tryz.prog 129 #[.agg #[.int .i64 x, .int .i64 y]] w (RetS w (x : Rat) (y : Rat)) := by
 have HX := hidP (fun u => fq_Int x u x1 x2)
 have HY := hidP (fun u => fq_Int y u y1 y2)
 generalize (x : Rat) = q at *
 generalize (y : Rat) = r at *
 go_enter Tryz.func129, Tryz.ntmps129
 go_wp2_with fail
 refine absW (fun x1 hx1 => ?_)
 have hx : Ext w x1 := by rw [hx1]; exact (((Ext.refl _).alloc _).alloc _)
 have bp : Bl x1 (w.heap.size) #[.int .i64 x, .int .i64 y] := by rw [hx1]; exact ((Bl.new (by simp)).alloc (by simp))
 have bs : Bl x1 (w.heap.size + 1) #[.bool false, .slice none 0 0, .slice none 0 0, .bool false, .slice none 0 0, .slice none 0 0] := by rw [hx1]; exact (Bl.new (by simp))
 have fs : Fz x1 (w.heap.size + 1) := by rw [hx1]; exact (Fz.new (by simp))
 have HE := hx
 clear hx
 clear hx1
 refine wp_region_plan (R := Ext) (.q 0 (.q 1 (.q 3 (.q 4 (.l 2 (.l 5 (.q 6 (.b 7 .done)))))))) (by kernel_rfl) (by kernel_rfl) (by kernel_rfl) (by kernel_rfl) Ext.refl (fun _ _ _ => Ext.trans) ?_
 refine absE (fun x2 hx2 => ?_)
 have hx : Ext x1 x2 := by rw [hx2]; exact (Ext.refl _).drew
 replace bp := q1b hx bp
 replace fs := q1f hx fs bs
 replace bs := q1b hx bs
 replace HE := HE.trans hx
 clear hx
 clear hx2
 repeat (refine wpE_q (v := ?_) rfl rfl (fun u hu => ?_) ?_; rotate_left 1; (focus (have kp := q1b hu bp; have ks := q1b hu bs; go_simp; (try rfl))); simp only [PU])
 refine wpE_l rfl rfl (fun K hK => ?_)
 go_simp
 refine (HX.out _).mono ?_
 rintro e u1 ⟨a1, n1, c1, d1, m1, k1, rfl, hs1, ht1, hx⟩
 refine hK.out _ _ hx ?_
 clear hK K
 try simp only [PU]
 replace bp := q1b hx bp
 replace fs := q1f hx fs bs
 replace bs := q1b hx bs
 replace HE := HE.trans hx
 clear hx
 replace hs1 : Nc u1 a1 n1 c1 (q.num).natAbs := hs1
 replace ht1 : Nc u1 d1 m1 k1 (q.den) := ht1
 refine wpE_l rfl rfl (fun K hK => ?_)
 go_simp
 refine (HY.out _).mono ?_
 rintro e u2 ⟨a2, n2, c2, d2, m2, k2, rfl, hs2, ht2, hx⟩
 refine hK.out _ _ hx ?_
 clear hK K
 try simp only [PU]
 replace bp := q1b hx bp
 replace fs := q1f hx fs bs
 replace bs := q1b hx bs
 replace hs1 := hs1.ext hx
 replace ht1 := ht1.ext hx
 replace HE := HE.trans hx
 clear hx
 replace hs2 : Nc u2 a2 n2 c2 (r.num).natAbs := hs2
 replace ht2 : Nc u2 d2 m2 k2 (r.den) := ht2
 repeat (refine wpE_q (v := ?_) rfl rfl (fun u hu => ?_) ?_; rotate_left 1; (focus (have kp := q1b hu bp; have ks := q1b hu bs; go_simp; (try rfl))); simp only [PU])
 refine wpE_b rfl rfl (fun K hK => ?_)
 go_simp
 have lps := bs.lt (Nat.succ_pos _)
 refine hK.out _ _ ?_
 clear hK K
 try simp only [PU]
 refine absE (fun x3 hx3 => ?_)
 have hbut : But u2 x3 (w.heap.size + 1) := by rw [hx3]; exact (But.refl _ _).store.store.store.store.store.store
 have hbn : Bl x3 (w.heap.size + 1) #[.bool (decide (q.num < 0)), .slice a1 n1 c1, .slice d1 m1 k1, .bool (decide (r.num < 0)), .slice a2 n2 c2, .slice d2 m2 k2] := by rw [hx3]; exact (Bl.set (Bl.set (Bl.set (Bl.set (Bl.set (Bl.set bs (by simp)) (by simp)) (by simp)) (by simp)) (by simp)) (by simp))
 replace hs1 := hs1.but bs (not_ints6 nb_bool nb_slice nb_slice nb_bool nb_slice nb_slice) hbut
 replace ht1 := ht1.but bs (not_ints6 nb_bool nb_slice nb_slice nb_bool nb_slice nb_slice) hbut
 replace hs2 := hs2.but bs (not_ints6 nb_bool nb_slice nb_slice nb_bool nb_slice nb_slice) hbut
 replace ht2 := ht2.but bs (not_ints6 nb_bool nb_slice nb_slice nb_bool nb_slice nb_slice) hbut
 replace bp := But.bl hbut bp (Nat.succ_pos _) (by omega)
 replace fs : Fz x3 (w.heap.size + 1) := by rw [hx3]; exact (Fz.set (Fz.set (Fz.set (Fz.set (Fz.set (Fz.set fs))))))
 replace HE : Ext w x3 := by rw [hx3]; exact ((((((HE.store (by show w.heap.size ≤ w.heap.size + 1; omega) _).store (by show w.heap.size ≤ w.heap.size + 1; omega) _).store (by show w.heap.size ≤ w.heap.size + 1; omega) _).store (by show w.heap.size ≤ w.heap.size + 1; omega) _).store (by show w.heap.size ≤ w.heap.size + 1; omega) _).store (by show w.heap.size ≤ w.heap.size + 1; omega) _)
 clear bs hbut hx3
 have bs := hbn
 clear hbn
 refine wpE_done ?_
 go_wp2_with fail
 refine bodyPost_cells rfl rfl Tryz.underlying31 rfl (by kernel_rfl) (bl_any bs) rfl ?_
 exact ⟨_, _, _, _, _, _, _, _, _, _, _, _, rfl, hs1, ht1, hs2, ht2, HE⟩
set_option maxRecDepth 100000 in
set_option maxHeartbeats 4000000 in
theorem rp_At (x y : Int) (w : World) (x1 : -9223372036854775808 ≤ x) (x2 : x ≤ 9223372036854775807) (y1 : -9223372036854775808 ≤ y) (y2 : y ≤ 9223372036854775807) :
    Calls Tryz.prog 20 #[.agg #[.int .i64 x, .int .i64 y]] w (RetS w (x : Rat) (y : Rat)) := by
 have HX := hidP (fun u => gq_Int x u x1 x2)
 have HY := hidP (fun u => gq_Int y u y1 y2)
 generalize (x : Rat) = q at *
 generalize (y : Rat) = r at *
 go_enter Tryz.func20, Tryz.ntmps20
 go_wp2_with fail
 refine absW (fun x1 hx1 => ?_)
 have hx : Ext w x1 := by rw [hx1]; exact (((Ext.refl _).alloc _).alloc _)
 have bp : Bl x1 (w.heap.size) #[.int .i64 x, .int .i64 y] := by rw [hx1]; exact ((Bl.new (by simp)).alloc (by simp))
 have bs : Bl x1 (w.heap.size + 1) #[.bool false, .slice none 0 0, .slice none 0 0, .bool false, .slice none 0 0, .slice none 0 0] := by rw [hx1]; exact (Bl.new (by simp))
 have fs : Fz x1 (w.heap.size + 1) := by rw [hx1]; exact (Fz.new (by simp))
 have HE := hx
 clear hx
 clear hx1
 refine wp_region_plan (R := Ext) (.q 0 (.q 1 (.q 3 (.q 4 (.l 2 (.l 5 (.q 6 (.b 7 .done)))))))) (by kernel_rfl) (by kernel_rfl) (by kernel_rfl) (by kernel_rfl) Ext.refl (fun _ _ _ => Ext.trans) ?_
 refine absE (fun x2 hx2 => ?_)
 have hx : Ext x1 x2 := by rw [hx2]; exact (Ext.refl _).drew
 replace bp := q1b hx bp
 replace fs := q1f hx fs bs
 replace bs := q1b hx bs
 replace HE := HE.trans hx
 clear hx
 clear hx2
 repeat (refine wpE_q (v := ?_) rfl rfl (fun u hu => ?_) ?_; rotate_left 1; (focus (have kp := q1b hu bp; have ks := q1b hu bs; go_simp; (try rfl))); simp only [PU])
 refine wpE_l rfl rfl (fun K hK => ?_)
 go_simp
 refine (HX.out _).mono ?_
 rintro e u1 ⟨a1, n1, c1, d1, m1, k1, rfl, hs1, ht1, hx⟩
 refine hK.out _ _ hx ?_
 clear hK K
 try simp only [PU]
 replace bp := q1b hx bp
 replace fs := q1f hx fs bs
 replace bs := q1b hx bs
 replace HE := HE.trans hx
 clear hx
 replace hs1 : Nc u1 a1 n1 c1 (q.num).natAbs := hs1
 replace ht1 : Nc u1 d1 m1 k1 (q.den) := ht1
 refine wpE_l rfl rfl (fun K hK => ?_)
 go_simp
 refine (HY.out _).mono ?_
 rintro e u2 ⟨a2, n2, c2, d2, m2, k2, rfl, hs2, ht2, hx⟩
 refine hK.out _ _ hx ?_
 clear hK K
 try simp only [PU]
 replace bp := q1b hx bp
 replace fs := q1f hx fs bs
 replace bs := q1b hx bs
 replace hs1 := hs1.ext hx
 replace ht1 := ht1.ext hx
 replace HE := HE.trans hx
 clear hx
 replace hs2 : Nc u2 a2 n2 c2 (r.num).natAbs := hs2
 replace ht2 : Nc u2 d2 m2 k2 (r.den) := ht2
 repeat (refine wpE_q (v := ?_) rfl rfl (fun u hu => ?_) ?_; rotate_left 1; (focus (have kp := q1b hu bp; have ks := q1b hu bs; go_simp; (try rfl))); simp only [PU])
 refine wpE_b rfl rfl (fun K hK => ?_)
 go_simp
 have lps := bs.lt (Nat.succ_pos _)
 refine hK.out _ _ ?_
 clear hK K
 try simp only [PU]
 refine absE (fun x3 hx3 => ?_)
 have hbut : But u2 x3 (w.heap.size + 1) := by rw [hx3]; exact (But.refl _ _).store.store.store.store.store.store
 have hbn : Bl x3 (w.heap.size + 1) #[.bool (decide (q.num < 0)), .slice a1 n1 c1, .slice d1 m1 k1, .bool (decide (r.num < 0)), .slice a2 n2 c2, .slice d2 m2 k2] := by rw [hx3]; exact (Bl.set (Bl.set (Bl.set (Bl.set (Bl.set (Bl.set bs (by simp)) (by simp)) (by simp)) (by simp)) (by simp)) (by simp))
 replace hs1 := hs1.but bs (not_ints6 nb_bool nb_slice nb_slice nb_bool nb_slice nb_slice) hbut
 replace ht1 := ht1.but bs (not_ints6 nb_bool nb_slice nb_slice nb_bool nb_slice nb_slice) hbut
 replace hs2 := hs2.but bs (not_ints6 nb_bool nb_slice nb_slice nb_bool nb_slice nb_slice) hbut
 replace ht2 := ht2.but bs (not_ints6 nb_bool nb_slice nb_slice nb_bool nb_slice nb_slice) hbut
 replace bp := But.bl hbut bp (Nat.succ_pos _) (by omega)
 replace fs : Fz x3 (w.heap.size + 1) := by rw [hx3]; exact (Fz.set (Fz.set (Fz.set (Fz.set (Fz.set (Fz.set fs))))))
 replace HE : Ext w x3 := by rw [hx3]; exact ((((((HE.store (by show w.heap.size ≤ w.heap.size + 1; omega) _).store (by show w.heap.size ≤ w.heap.size + 1; omega) _).store (by show w.heap.size ≤ w.heap.size + 1; omega) _).store (by show w.heap.size ≤ w.heap.size + 1; omega) _).store (by show w.heap.size ≤ w.heap.size + 1; omega) _).store (by show w.heap.size ≤ w.heap.size + 1; omega) _)
 clear bs hbut hx3
 have bs := hbn
 clear hbn
 refine wpE_done ?_
 go_wp2_with fail
 refine bodyPost_cells rfl rfl Tryz.underlying31 rfl (by kernel_rfl) (bl_any bs) rfl ?_
 exact ⟨_, _, _, _, _, _, _, _, _, _, _, _, rfl, hs1, ht1, hs2, ht2, HE⟩
theorem sgn_bd (z : Int) : sgn z = -1 ∨ sgn z = 0 ∨ sgn z = 1 := by
  unfold sgn
  split
  · exact .inr (.inl rfl)
  · split
    · exact .inl rfl
    · exact .inr (.inr rfl)
theorem cmpQ_bd (q r : Rat) : cmpQ q r = -1 ∨ cmpQ q r = 0 ∨ cmpQ q r = 1 := sgn_bd _
theorem sgn_le (z : Int) : (sgn z ≤ 0) = (z ≤ 0) := by
  unfold sgn
  apply propext
  split
  · constructor <;> intro _ <;> omega
  · split
    · constructor <;> intro _ <;> omega
    · constructor <;> intro _ <;> omega
theorem sgn_lt (z : Int) : (sgn z < 0) = (z < 0) := by
  unfold sgn
  apply propext
  split
  · constructor <;> intro _ <;> omega
  · split
    · constructor <;> intro _ <;> omega
    · constructor <;> intro _ <;> omega
theorem cmpQ_le (q r : Rat) : decide (cmpQ q r ≤ 0) = decide (q ≤ r) := by
  unfold cmpQ
  have h := Rat.le_iff q r
  refine decide_eq_decide.2 ?_
  rw [sgn_le, h]
  omega
theorem cmpQ_lt (q r : Rat) : decide (cmpQ q r < 0) = decide (q < r) := by
  unfold cmpQ
  have h := Rat.lt_iff q r
  refine decide_eq_decide.2 ?_
  rw [sgn_lt, h]
  omega
set_option maxRecDepth 100000 in
set_option maxHeartbeats 4000000 in
theorem tu_upTo {b : Bool} {a d : Option Addr} {n c m k N : Nat} {q : Rat} (z : Int) (w : World) (h : Fq w b a n c d m k q N) (hN : N ≤ 137438953472) (z1 : -9223372036854775808 ≤ z) (z2 : z ≤ 9223372036854775807) :
    Calls Tryz.prog 36 #[.int .i64 z, .agg #[.bool b, .slice a n c, .slice d m k]] w fun e w' => e = .returned (.bool (decide ((z : Rat) ≤ q))) ∧ Ext w w' := by
 have H := hidP h
 have HI := hidP (fun u => fq_Int z u z1 z2)
 have HQ := hidP (ql_int z1 z2)
 have hcm := cmpQ_le (z : Rat) q
 generalize (z : Rat) = r at *
 have HC := hidP (fun u b1 a1 n1 c1 d1 m1 k1 (t1 : Fq u b1 a1 n1 c1 d1 m1 k1 r 2) (t2 : Fq u b a n c d m k q N) => fq_Cmp t1 t2 (by omega) hN)
 have hcb := cmpQ_bd r q
 generalize cmpQ r q = cc at *
 have HCM := hidP hcm
 clear h hcm
 go_enter Tryz.func36, Tryz.ntmps36
 go_wp2_with fail
 refine absW (fun x1 hx1 => ?_)
 have hx : Ext w x1 := by rw [hx1]; exact ((Ext.refl _).alloc _)
 have bp : Bl x1 (w.heap.size) #[.bool b, .slice a n c, .slice d m k] := by rw [hx1]; exact (Bl.new (by simp))
 have HE := hx
 clear hx
 clear hx1
 refine wp_region_plan (R := Ext) (.q 0 (.q 2 (.l 1 (.l 3 (.q 4 (.q 5 .done)))))) (by kernel_rfl) (by kernel_rfl) (by kernel_rfl) (by kernel_rfl) Ext.refl (fun _ _ _ => Ext.trans) ?_
 refine absE (fun x2 hx2 => ?_)
 have hx : Ext x1 x2 := by rw [hx2]; exact (Ext.refl _).drew
 replace bp := q1b hx bp
 replace HE := HE.trans hx
 clear hx
 clear hx2
 repeat (refine wpE_q (v := ?_) rfl rfl (fun u hu => ?_) ?_; rotate_left 1; (focus (have kp := q1b hu bp; go_simp; (try rfl))); simp only [PU])
 refine wpE_l rfl rfl (fun K hK => ?_)
 go_simp
 refine (HI.out _).mono ?_
 rintro e u1 ⟨a1, n1, c1, d1, m1, k1, rfl, hs1, ht1, hx⟩
 refine hK.out _ _ hx ?_
 clear hK K
 try simp only [PU]
 replace bp := q1b hx bp
 replace HE := HE.trans hx
 clear hx
 replace hs1 : Nc u1 a1 n1 c1 (r.num).natAbs := hs1
 replace ht1 : Nc u1 d1 m1 k1 (r.den) := ht1
 refine wpE_l rfl rfl (fun K hK => ?_)
 go_simp
 refine (HC.out _ _ _ _ _ _ _ _ (fq_of hs1 ht1 HQ.out (by omega)) (H.out.ext HE)).mono ?_
 rintro e u2 ⟨rfl, hx⟩
 refine hK.out _ _ hx ?_
 clear hK K
 try simp only [PU]
 replace bp := q1b hx bp
 replace hs1 := hs1.ext hx
 replace ht1 := ht1.ext hx
 replace HE := HE.trans hx
 clear hx
 repeat (refine wpE_q (v := ?_) rfl rfl (fun u hu => ?_) ?_; rotate_left 1; (focus (have kp := q1b hu bp; go_simp; (try rfl))); simp only [PU])
 refine wpE_done ?_
 go_wp2_with fail
 go_ret
 exact ⟨congrArg (fun x => Ending.returned (Value.bool x)) HCM.out, HE⟩
set_option maxRecDepth 100000 in
set_option maxHeartbeats 4000000 in
theorem tu_below {b : Bool} {a d : Option Addr} {n c m k N : Nat} {q : Rat} (z : Int) (w : World) (h : Fq w b a n c d m k q N) (hN : N ≤ 137438953472) (z1 : -9223372036854775808 ≤ z) (z2 : z ≤ 9223372036854775807) :
    Calls Tryz.prog 78 #[.int .i64 z, .agg #[.bool b, .slice a n c, .slice d m k]] w fun e w' => e = .returned (.bool (decide ((z : Rat) < q))) ∧ Ext w w' := by
 have H := hidP h
 have HI := hidP (fun u => fq_Int z u z1 z2)
 have HQ := hidP (ql_int z1 z2)
 have hcm := cmpQ_lt (z : Rat) q
 generalize (z : Rat) = r at *
 have HC := hidP (fun u b1 a1 n1 c1 d1 m1 k1 (t1 : Fq u b1 a1 n1 c1 d1 m1 k1 r 2) (t2 : Fq u b a n c d m k q N) => fq_Cmp t1 t2 (by omega) hN)
 have hcb := cmpQ_bd r q
 generalize cmpQ r q = cc at *
 have HCM := hidP hcm
 clear h hcm
 go_enter Tryz.func78, Tryz.ntmps78
 go_wp2_with fail
 refine absW (fun x1 hx1 => ?_)
 have hx : Ext w x1 := by rw [hx1]; exact ((Ext.refl _).alloc _)
 have bp : Bl x1 (w.heap.size) #[.bool b, .slice a n c, .slice d m k] := by rw [hx1]; exact (Bl.new (by simp))
 have HE := hx
 clear hx
 clear hx1
 refine wp_region_plan (R := Ext) (.q 0 (.q 2 (.l 1 (.l 3 (.q 4 (.q 5 .done)))))) (by kernel_rfl) (by kernel_rfl) (by kernel_rfl) (by kernel_rfl) Ext.refl (fun _ _ _ => Ext.trans) ?_
 refine absE (fun x2 hx2 => ?_)
 have hx : Ext x1 x2 := by rw [hx2]; exact (Ext.refl _).drew
 replace bp := q1b hx bp
 replace HE := HE.trans hx
 clear hx
 clear hx2
 repeat (refine wpE_q (v := ?_) rfl rfl (fun u hu => ?_) ?_; rotate_left 1; (focus (have kp := q1b hu bp; go_simp; (try rfl))); simp only [PU])
 refine wpE_l rfl rfl (fun K hK => ?_)
 go_simp
 refine (HI.out _).mono ?_
 rintro e u1 ⟨a1, n1, c1, d1, m1, k1, rfl, hs1, ht1, hx⟩
 refine hK.out _ _ hx ?_
 clear hK K
 try simp only [PU]
 replace bp := q1b hx bp
 replace HE := HE.trans hx
 clear hx
 replace hs1 : Nc u1 a1 n1 c1 (r.num).natAbs := hs1
 replace ht1 : Nc u1 d1 m1 k1 (r.den) := ht1
 refine wpE_l rfl rfl (fun K hK => ?_)
 go_simp
 refine (HC.out _ _ _ _ _ _ _ _ (fq_of hs1 ht1 HQ.out (by omega)) (H.out.ext HE)).mono ?_
 rintro e u2 ⟨rfl, hx⟩
 refine hK.out _ _ hx ?_
 clear hK K
 try simp only [PU]
 replace bp := q1b hx bp
 replace hs1 := hs1.ext hx
 replace ht1 := ht1.ext hx
 replace HE := HE.trans hx
 clear hx
 repeat (refine wpE_q (v := ?_) rfl rfl (fun u hu => ?_) ?_; rotate_left 1; (focus (have kp := q1b hu bp; go_simp; (try rfl))); simp only [PU])
 refine wpE_done ?_
 go_wp2_with fail
 go_ret
 exact ⟨congrArg (fun x => Ending.returned (Value.bool x)) HCM.out, HE⟩
set_option maxRecDepth 100000 in
set_option maxHeartbeats 4000000 in
theorem tu_may (ax ay bx by_ : Int) (w : World) :
    Calls Tryz.prog 37 #[.agg #[.int .i64 ax, .int .i64 ay, .int .i64 bx, .int .i64 by_]] w fun e w' => e = .returned (.bool (fitP ax ay && fitP bx by_)) ∧ Ext w w' := by
  have H1 := hidP (fun u => a_Fits ax ay u)
  have H2 := hidP (fun u => a_Fits bx by_ u)
  generalize fitP ax ay = f1 at *
  generalize fitP bx by_ = f2 at *
  cases f1
  · go_enter Tryz.func37, Tryz.ntmps37
    go_wp2_with fail
    refine absC (fun x1 hx1 => ?_)
    have hx : Ext w x1 := by rw [hx1]; exact ((Ext.refl _).alloc _)
    have bp : Bl x1 (w.heap.size) #[.int .i64 ax, .int .i64 ay, .int .i64 bx, .int .i64 by_] := by rw [hx1]; exact (Bl.new (by simp))
    have HE := hx
    clear hx
    clear hx1
    refine (H1.out _).mono ?_
    rintro e u1 ⟨rfl, hx⟩
    replace bp := q1b hx bp
    replace HE := HE.trans hx
    clear hx
    go_wp2_with fail
    go_ret
    exact ⟨rfl, HE⟩
  · go_enter Tryz.func37, Tryz.ntmps37
    go_wp2_with fail
    refine absC (fun x1 hx1 => ?_)
    have hx : Ext w x1 := by rw [hx1]; exact ((Ext.refl _).alloc _)
    have bp : Bl x1 (w.heap.size) #[.int .i64 ax, .int .i64 ay, .int .i64 bx, .int .i64 by_] := by rw [hx1]; exact (Bl.new (by simp))
    have HE := hx
    clear hx
    clear hx1
    refine (H1.out _).mono ?_
    rintro e u1 ⟨rfl, hx⟩
    replace bp := q1b hx bp
    replace HE := HE.trans hx
    clear hx
    go_wp2_with fail
    refine (H2.out _).mono ?_
    rintro e u2 ⟨rfl, hx⟩
    replace bp := q1b hx bp
    replace HE := HE.trans hx
    clear hx
    go_wp2_with fail
    go_ret
    exact ⟨rfl, HE⟩
set_option maxRecDepth 100000 in
set_option maxHeartbeats 4000000 in
theorem sp_small (x y : Int) (w : World) (x1 : -1073741824 ≤ x) (x2 : x ≤ 1073741824) (y1 : -1073741824 ≤ y) (y2 : y ≤ 1073741824) :
    Calls Tryz.prog 126 #[.agg #[.int .i64 x, .int .i64 y]] w fun e w' => e = .returned (.bool true) ∧ Ext w w' := by
  go_enter Tryz.func126, Tryz.ntmps126
  go_wp2_with fail
  go_ret
  exact ⟨rfl, (Ext.refl _).alloc _⟩
end Go.Proofs.YtgjjalnmigdjgaaGreat
