/- TurnTurns: the law, walked. -/
import Derived.Test.YtgjjalnmigdjgaaGreatU10
namespace Go.Proofs.YtgjjalnmigdjgaaGreat
set_option linter.unusedVariables false
set_option linter.unusedSimpArgs false
open Go Go.RowKit
set_option maxRecDepth 100000 in
set_option maxHeartbeats 8000000 in
theorem tt_any {b b' : Bool} {a d a' d' : Option Addr} {n c m k n' c' m' k' : Nat} {q r : Rat} {N : Nat} (sa : Option Addr) (sn sc : Nat) (l : List Sg) (rule : Int) (out : Bool) (kk : Int) (w : World) (hlv : ∀ u, Calls Tryz.prog 13 #[] u fun e w' => e = .returned (.bool true) ∧ Ext u w') (h : SlG w sa sn sc l) (hx : Fq w b a n c d m k q N) (hy : Fq w b' a' n' c' d' m' k' r N) (hN : N ≤ 8589934592) (hN1 : 2 ≤ N) (hsn : sn ≤ 4194304) (k1 : -9223372036854775808 ≤ kk) (k2 : kk ≤ 9223372036854775807) :
 Calls Tryz.prog 3 #[.agg #[.slice sa sn sc, .int .i64 rule, .bool out], .agg #[.bool b, .slice a n c, .slice d m k, .bool b', .slice a' n' c', .slice d' m' k'], .int .i64 kk] w fun e w' => e = .returned (.bool true) ∧ Ext w w' := by
 have H := hidP h; have HX := hidP hx; have HY := hidP hy
 have HLV := hidP hlv
 have T1 := hidP (fun u (t0 : SlG u sa sn sc l) (t5 : Fq u b a n c d m k q N) (t6 : Fq u b' a' n' c' d' m' k' r N) => tu_Turns sa sn sc l u t0 t5 t6 (by omega) hN1 hsn)
 have T2 := hidP (fun u (t0 : SlG u sa sn sc l) (t5 : Fq u b a n c d m k q N) (t6 : Fq u b' a' n' c' d' m' k' r N) => r19_Turns sa sn sc l u t0 t5 t6 (by omega) hN1 hsn)
 have T3 := hidP (fun u (t0 : SlG u sa sn sc l) (t5 : Fq u b a n c d m k q N) (t6 : Fq u b' a' n' c' d' m' k' r N) => tu_Term sa sn sc l rule out u t0 t5 t6 (by omega) hN1 hsn)
 have T4 := hidP (fun u (t0 : SlG u sa sn sc l) (t5 : Fq u b a n c d m k q N) (t6 : Fq u b' a' n' c' d' m' k' r N) => r19_Term sa sn sc l rule out u t0 t5 t6 (by omega) hN1 hsn)
 have I1 := hidP (fun u => tu_In kk rule u k1 k2)
 have I2 := hidP (fun u => r19_In kk rule u k1 k2)
 clear h hx hy hlv
 generalize turnsF q r l 0 = R at *
 generalize termF q r l rule out = S at *
 generalize inF kk rule = f1 at *
 obtain ⟨R1, R2⟩ := R
 obtain ⟨S1, S2⟩ := S
 simp only [] at T1 T2 T3 T4
 have eb : ∀ z : Bool, (z == z) = true := fun z => by cases z <;> rfl
 have ei : ∀ z : Int, (z == z) = true := fun z => by simp
 go_enter Tryz.func3, Tryz.ntmps3
 go_wp2_with fail
 refine absC (fun x1 hx1 => ?_)
 have hx : Ext w x1 := by rw [hx1]; exact (((Ext.refl _).alloc _).alloc _)
 have bt : Bl x1 (w.heap.size) #[.slice sa sn sc, .int .i64 rule, .bool out] := by rw [hx1]; exact ((Bl.new (by simp)).alloc (by simp))
 have bp : Bl x1 (w.heap.size + 1) #[.bool b, .slice a n c, .slice d m k, .bool b', .slice a' n' c', .slice d' m' k'] := by rw [hx1]; exact (Bl.new (by simp))
 have HE := hx
 clear hx
 clear hx1
 refine (T1.out _ (H.out.ext HE) (HX.out.ext HE) (HY.out.ext HE)).mono ?_
 rintro e u1 ⟨rfl, hx⟩
 replace bt := be hx bt
 replace bp := be hx bp
 replace HE := HE.trans hx
 clear hx
 go_wp2_with fail
 refine (T2.out _ (H.out.ext HE) (HX.out.ext HE) (HY.out.ext HE)).mono ?_
 rintro e u2 ⟨rfl, hx⟩
 replace bt := be hx bt
 replace bp := be hx bp
 replace HE := HE.trans hx
 clear hx
 go_wp2_with fail
 refine (T3.out _ (H.out.ext HE) (HX.out.ext HE) (HY.out.ext HE)).mono ?_
 rintro e u3 ⟨rfl, hx⟩
 replace bt := be hx bt
 replace bp := be hx bp
 replace HE := HE.trans hx
 clear hx
 go_wp2_with fail
 refine (T4.out _ (H.out.ext HE) (HX.out.ext HE) (HY.out.ext HE)).mono ?_
 rintro e u4 ⟨rfl, hx⟩
 replace bt := be hx bt
 replace bp := be hx bp
 replace HE := HE.trans hx
 clear hx
 go_wp2_with fail
 refine wp_region_plan (R := Ext) (.q 0 (.q 1 (.q 2 (.q 3 (.q 4 (.q 5 (.q 6 (.q 7 (.q 8 (.q 9 (.q 10 (.q 11 (.q 12 (.q 13 (.q 14 (.q 15 (.q 16 (.q 17 (.q 18 (.q 19 (.q 20 (.q 21 (.q 23 (.q 24 (.q 25 (.l 22 (.l 26 (.q 27 (.q 28 (.q 29 (.l 30 (.q 31 (.q 32 .done))))))))))))))))))))))))))))))))) (by kernel_rfl) (by kernel_rfl) (by kernel_rfl) (by kernel_rfl) Ext.refl (fun _ _ _ => Ext.trans) ?_
 refine absE (fun x2 hx2 => ?_)
 have hx : Ext u4 x2 := by rw [hx2]; exact (Ext.refl _).drew
 replace bt := be hx bt
 replace bp := be hx bp
 replace HE := HE.trans hx
 clear hx
 clear hx2
 repeat (refine wpE_q (v := ?_) rfl rfl (fun u hu => ?_) ?_; rotate_left 1; (focus (have kt := be hu bt; have kp := be hu bp; go_simp; (try rfl))); simp only [PU])
 refine wpE_l rfl rfl (fun K hK => ?_)
 go_simp
 refine (I1.out _).mono ?_
 rintro e u5 ⟨rfl, hx⟩
 refine hK.out _ _ hx ?_
 clear hK K
 try simp only [PU]
 replace bt := be hx bt
 replace bp := be hx bp
 replace HE := HE.trans hx
 clear hx
 refine wpE_l rfl rfl (fun K hK => ?_)
 go_simp
 refine (I2.out _).mono ?_
 rintro e u6 ⟨rfl, hx⟩
 refine hK.out _ _ hx ?_
 clear hK K
 try simp only [PU]
 replace bt := be hx bt
 replace bp := be hx bp
 replace HE := HE.trans hx
 clear hx
 repeat (refine wpE_q (v := ?_) rfl rfl (fun u hu => ?_) ?_; rotate_left 1; (focus (have kt := be hu bt; have kp := be hu bp; go_simp; (try rfl))); simp only [PU])
 refine wpE_l rfl rfl (fun K hK => ?_)
 go_simp
 refine (HLV.out _).mono ?_
 rintro e u7 ⟨rfl, hx⟩
 refine hK.out _ _ hx ?_
 clear hK K
 try simp only [PU]
 replace bt := be hx bt
 replace bp := be hx bp
 replace HE := HE.trans hx
 clear hx
 repeat (refine wpE_q (v := ?_) rfl rfl (fun u hu => ?_) ?_; rotate_left 1; (focus (have kt := be hu bt; have kp := be hu bp; go_simp; (try rfl))); simp only [PU])
 refine wpE_done ?_
 go_wp2_with fail
 go_ret
 exact ⟨rfl, HE⟩
end Go.Proofs.YtgjjalnmigdjgaaGreat
