/- Turns: a set of points. -/
import Derived.Test.YtgjjalnmigdjgaaGreatU9
namespace Go.Proofs.YtgjjalnmigdjgaaGreat
set_option linter.unusedVariables false
set_option linter.unusedSimpArgs false
open Go Go.RowKit
def termF (q r : Rat) (l : List Sg) (rule : Int) (out : Bool) : Bool × Bool := ((turnsF q r l 0).2 && (inF (turnsF q r l 0).1 rule != out), (turnsF q r l 0).2)
set_option maxRecDepth 100000 in
set_option maxHeartbeats 8000000 in
theorem tu_Term {b b' : Bool} {a d a' d' : Option Addr} {n c m k n' c' m' k' : Nat} {q r : Rat} {N : Nat} (sa : Option Addr) (sn sc : Nat) (l : List Sg) (rule : Int) (out : Bool) (w : World) (h : SlG w sa sn sc l) (hx : Fq w b a n c d m k q N) (hy : Fq w b' a' n' c' d' m' k' r N) (hN : N ≤ 8589934592) (hN1 : 2 ≤ N) (hsn : sn ≤ 4194304) :
 Calls Tryz.prog 9 #[.agg #[.slice sa sn sc, .int .i64 rule, .bool out], .agg #[.bool b, .slice a n c, .slice d m k, .bool b', .slice a' n' c', .slice d' m' k']] w fun e w' => e = .returned (.tuple #[.bool (termF q r l rule out).1, .bool (termF q r l rule out).2]) ∧ Ext w w' := by
 have H := hidP h; have HX := hidP hx; have HY := hidP hy
 have HLN := h.len
 have hbd := turns_bd (q := q) (r := r) l 0 0 (by omega) (by omega) (by omega)
 have HT := hidP (fun u (t0 : SlG u sa sn sc l) (t5 : Fq u b a n c d m k q N) (t6 : Fq u b' a' n' c' d' m' k' r N) => tu_Turns sa sn sc l u t0 t5 t6 (by omega) hN1 hsn)
 unfold termF
 clear h hx hy
 generalize turnsF q r l 0 = R at *
 obtain ⟨R1, R2⟩ := R
 simp only [] at hbd HT ⊢
 have HI := hidP (fun u => tu_In R1 rule u (by omega) (by omega))
 generalize inF R1 rule = f1 at *
 clear hbd HLN
 cases R2
 · go_enter Tryz.func9, Tryz.ntmps9
   go_wp2_with fail
   refine absC (fun x1 hx1 => ?_)
   have hx : Ext w x1 := by rw [hx1]; exact (((Ext.refl _).alloc _).alloc _)
   have bt : Bl x1 (w.heap.size) #[.slice sa sn sc, .int .i64 rule, .bool out] := by rw [hx1]; exact ((Bl.new (by simp)).alloc (by simp))
   have bp : Bl x1 (w.heap.size + 1) #[.bool b, .slice a n c, .slice d m k, .bool b', .slice a' n' c', .slice d' m' k'] := by rw [hx1]; exact (Bl.new (by simp))
   have HE := hx
   clear hx
   clear hx1
   refine (HT.out _ (H.out.ext HE) (HX.out.ext HE) (HY.out.ext HE)).mono ?_
   rintro e u1 ⟨rfl, hx⟩
   replace bt := be hx bt
   replace bp := be hx bp
   replace HE := HE.trans hx
   clear hx
   go_wp2_with fail
   refine wp_region_plan (R := Ext) (.q 0 (.q 1 (.q 2 (.q 3 (.q 4 (.q 6 (.q 7 (.q 10 (.l 5 (.q 8 (.q 9 (.q 11 (.q 12 .done))))))))))))) (by kernel_rfl) (by kernel_rfl) (by kernel_rfl) (by kernel_rfl) Ext.refl (fun _ _ _ => Ext.trans) ?_
   refine absE (fun x2 hx2 => ?_)
   have hx : Ext u1 x2 := by rw [hx2]; exact (Ext.refl _).drew
   replace bt := be hx bt
   replace bp := be hx bp
   replace HE := HE.trans hx
   clear hx
   clear hx2
   repeat (first | (refine wpE_q (v := ?_) rfl rfl (fun u hu => ?_) ?_; rotate_left 1; (focus (have kt := be hu bt; have kp := be hu bp; go_simp; (try rfl))); simp only [PU]) | (refine wpE_qs rfl rfl ?_; simp only [PU]))
   refine wpE_ls (Ext.refl _) rfl rfl ?_
   simp only [PU]
   repeat (first | (refine wpE_q (v := ?_) rfl rfl (fun u hu => ?_) ?_; rotate_left 1; (focus (have kt := be hu bt; have kp := be hu bp; go_simp; (try rfl))); simp only [PU]) | (refine wpE_qs rfl rfl ?_; simp only [PU]))
   refine wpE_done ?_
   go_wp2_with fail
   go_ret2
   exact ⟨rfl, HE⟩
 · cases out
   · cases f1
     all_goals (
      go_enter Tryz.func9, Tryz.ntmps9
      go_wp2_with fail
      refine absC (fun x1 hx1 => ?_)
      have hx : Ext w x1 := by rw [hx1]; exact (((Ext.refl _).alloc _).alloc _)
      have bt : Bl x1 (w.heap.size) #[.slice sa sn sc, .int .i64 rule, .bool false] := by rw [hx1]; exact ((Bl.new (by simp)).alloc (by simp))
      have bp : Bl x1 (w.heap.size + 1) #[.bool b, .slice a n c, .slice d m k, .bool b', .slice a' n' c', .slice d' m' k'] := by rw [hx1]; exact (Bl.new (by simp))
      have HE := hx
      clear hx
      clear hx1
      refine (HT.out _ (H.out.ext HE) (HX.out.ext HE) (HY.out.ext HE)).mono ?_
      rintro e u1 ⟨rfl, hx⟩
      replace bt := be hx bt
      replace bp := be hx bp
      replace HE := HE.trans hx
      clear hx
      go_wp2_with fail
      refine wp_region_plan (R := Ext) (.q 0 (.q 1 (.q 2 (.q 3 (.q 4 (.q 6 (.q 7 (.q 10 (.l 5 (.q 8 (.q 9 (.q 11 (.q 12 .done))))))))))))) (by kernel_rfl) (by kernel_rfl) (by kernel_rfl) (by kernel_rfl) Ext.refl (fun _ _ _ => Ext.trans) ?_
      refine absE (fun x2 hx2 => ?_)
      have hx : Ext u1 x2 := by rw [hx2]; exact (Ext.refl _).drew
      replace bt := be hx bt
      replace bp := be hx bp
      replace HE := HE.trans hx
      clear hx
      clear hx2
      repeat (refine wpE_q (v := ?_) rfl rfl (fun u hu => ?_) ?_; rotate_left 1; (focus (have kt := be hu bt; have kp := be hu bp; go_simp; (try rfl))); simp only [PU])
      refine wpE_l rfl rfl (fun K hK => ?_)
      go_simp
      refine (HI.out _).mono ?_
      rintro e u2 ⟨rfl, hx⟩
      refine hK.out _ _ hx ?_
      clear hK K
      try simp only [PU]
      replace bt := be hx bt
      replace bp := be hx bp
      replace HE := HE.trans hx
      clear hx
      repeat (refine wpE_q (v := ?_) rfl rfl (fun u hu => ?_) ?_; rotate_left 1; (focus (have kt := be hu bt; have kp := be hu bp; go_simp; (try rfl))); simp only [PU])
      refine wpE_done ?_
      go_wp2_with fail
      go_ret2
      exact ⟨rfl, HE⟩)
   · cases f1
     all_goals (
      go_enter Tryz.func9, Tryz.ntmps9
      go_wp2_with fail
      refine absC (fun x1 hx1 => ?_)
      have hx : Ext w x1 := by rw [hx1]; exact (((Ext.refl _).alloc _).alloc _)
      have bt : Bl x1 (w.heap.size) #[.slice sa sn sc, .int .i64 rule, .bool true] := by rw [hx1]; exact ((Bl.new (by simp)).alloc (by simp))
      have bp : Bl x1 (w.heap.size + 1) #[.bool b, .slice a n c, .slice d m k, .bool b', .slice a' n' c', .slice d' m' k'] := by rw [hx1]; exact (Bl.new (by simp))
      have HE := hx
      clear hx
      clear hx1
      refine (HT.out _ (H.out.ext HE) (HX.out.ext HE) (HY.out.ext HE)).mono ?_
      rintro e u1 ⟨rfl, hx⟩
      replace bt := be hx bt
      replace bp := be hx bp
      replace HE := HE.trans hx
      clear hx
      go_wp2_with fail
      refine wp_region_plan (R := Ext) (.q 0 (.q 1 (.q 2 (.q 3 (.q 4 (.q 6 (.q 7 (.q 10 (.l 5 (.q 8 (.q 9 (.q 11 (.q 12 .done))))))))))))) (by kernel_rfl) (by kernel_rfl) (by kernel_rfl) (by kernel_rfl) Ext.refl (fun _ _ _ => Ext.trans) ?_
      refine absE (fun x2 hx2 => ?_)
      have hx : Ext u1 x2 := by rw [hx2]; exact (Ext.refl _).drew
      replace bt := be hx bt
      replace bp := be hx bp
      replace HE := HE.trans hx
      clear hx
      clear hx2
      repeat (refine wpE_q (v := ?_) rfl rfl (fun u hu => ?_) ?_; rotate_left 1; (focus (have kt := be hu bt; have kp := be hu bp; go_simp; (try rfl))); simp only [PU])
      refine wpE_l rfl rfl (fun K hK => ?_)
      go_simp
      refine (HI.out _).mono ?_
      rintro e u2 ⟨rfl, hx⟩
      refine hK.out _ _ hx ?_
      clear hK K
      try simp only [PU]
      replace bt := be hx bt
      replace bp := be hx bp
      replace HE := HE.trans hx
      clear hx
      repeat (refine wpE_q (v := ?_) rfl rfl (fun u hu => ?_) ?_; rotate_left 1; (focus (have kt := be hu bt; have kp := be hu bp; go_simp; (try rfl))); simp only [PU])
      refine wpE_done ?_
      go_wp2_with fail
      go_ret2
      exact ⟨rfl, HE⟩)
set_option maxRecDepth 100000 in
set_option maxHeartbeats 8000000 in
theorem r19_Term {b b' : Bool} {a d a' d' : Option Addr} {n c m k n' c' m' k' : Nat} {q r : Rat} {N : Nat} (sa : Option Addr) (sn sc : Nat) (l : List Sg) (rule : Int) (out : Bool) (w : World) (h : SlG w sa sn sc l) (hx : Fq w b a n c d m k q N) (hy : Fq w b' a' n' c' d' m' k' r N) (hN : N ≤ 8589934592) (hN1 : 2 ≤ N) (hsn : sn ≤ 4194304) :
 Calls Tryz.prog 10 #[.agg #[.slice sa sn sc, .int .i64 rule, .bool out], .agg #[.bool b, .slice a n c, .slice d m k, .bool b', .slice a' n' c', .slice d' m' k']] w fun e w' => e = .returned (.tuple #[.bool (termF q r l rule out).1, .bool (termF q r l rule out).2]) ∧ Ext w w' := by
 have H := hidP h; have HX := hidP hx; have HY := hidP hy
 have HLN := h.len
 have hbd := turns_bd (q := q) (r := r) l 0 0 (by omega) (by omega) (by omega)
 have HT := hidP (fun u (t0 : SlG u sa sn sc l) (t5 : Fq u b a n c d m k q N) (t6 : Fq u b' a' n' c' d' m' k' r N) => r19_Turns sa sn sc l u t0 t5 t6 (by omega) hN1 hsn)
 unfold termF
 clear h hx hy
 generalize turnsF q r l 0 = R at *
 obtain ⟨R1, R2⟩ := R
 simp only [] at hbd HT ⊢
 have HI := hidP (fun u => r19_In R1 rule u (by omega) (by omega))
 generalize inF R1 rule = f1 at *
 clear hbd HLN
 cases R2
 · go_enter Tryz.func10, Tryz.ntmps10
   go_wp2_with fail
   refine absC (fun x1 hx1 => ?_)
   have hx : Ext w x1 := by rw [hx1]; exact (((Ext.refl _).alloc _).alloc _)
   have bt : Bl x1 (w.heap.size) #[.slice sa sn sc, .int .i64 rule, .bool out] := by rw [hx1]; exact ((Bl.new (by simp)).alloc (by simp))
   have bp : Bl x1 (w.heap.size + 1) #[.bool b, .slice a n c, .slice d m k, .bool b', .slice a' n' c', .slice d' m' k'] := by rw [hx1]; exact (Bl.new (by simp))
   have HE := hx
   clear hx
   clear hx1
   refine (HT.out _ (H.out.ext HE) (HX.out.ext HE) (HY.out.ext HE)).mono ?_
   rintro e u1 ⟨rfl, hx⟩
   replace bt := be hx bt
   replace bp := be hx bp
   replace HE := HE.trans hx
   clear hx
   go_wp2_with fail
   go_ret2
   exact ⟨rfl, HE⟩
 · cases out
   · cases f1
     all_goals (
      go_enter Tryz.func10, Tryz.ntmps10
      go_wp2_with fail
      refine absC (fun x1 hx1 => ?_)
      have hx : Ext w x1 := by rw [hx1]; exact (((Ext.refl _).alloc _).alloc _)
      have bt : Bl x1 (w.heap.size) #[.slice sa sn sc, .int .i64 rule, .bool false] := by rw [hx1]; exact ((Bl.new (by simp)).alloc (by simp))
      have bp : Bl x1 (w.heap.size + 1) #[.bool b, .slice a n c, .slice d m k, .bool b', .slice a' n' c', .slice d' m' k'] := by rw [hx1]; exact (Bl.new (by simp))
      have HE := hx
      clear hx
      clear hx1
      refine (HT.out _ (H.out.ext HE) (HX.out.ext HE) (HY.out.ext HE)).mono ?_
      rintro e u1 ⟨rfl, hx⟩
      replace bt := be hx bt
      replace bp := be hx bp
      replace HE := HE.trans hx
      clear hx
      go_wp2_with fail
      refine wp_region_plan (R := Ext) (.q 0 (.q 1 (.q 2 (.q 4 (.q 5 (.l 3 (.q 6 (.q 7 (.q 8 .done))))))))) (by kernel_rfl) (by kernel_rfl) (by kernel_rfl) (by kernel_rfl) Ext.refl (fun _ _ _ => Ext.trans) ?_
      refine absE (fun x2 hx2 => ?_)
      have hx : Ext u1 x2 := by rw [hx2]; exact (Ext.refl _).drew
      replace bt := be hx bt
      replace bp := be hx bp
      replace HE := HE.trans hx
      clear hx
      clear hx2
      repeat (refine wpE_q (v := ?_) rfl rfl (fun u hu => ?_) ?_; rotate_left 1; (focus (have kt := be hu bt; have kp := be hu bp; go_simp; (try rfl))); simp only [PU])
      refine wpE_l rfl rfl (fun K hK => ?_)
      go_simp
      refine (HI.out _).mono ?_
      rintro e u2 ⟨rfl, hx⟩
      refine hK.out _ _ hx ?_
      clear hK K
      try simp only [PU]
      replace bt := be hx bt
      replace bp := be hx bp
      replace HE := HE.trans hx
      clear hx
      repeat (refine wpE_q (v := ?_) rfl rfl (fun u hu => ?_) ?_; rotate_left 1; (focus (have kt := be hu bt; have kp := be hu bp; go_simp; (try rfl))); simp only [PU])
      refine wpE_done ?_
      go_wp2_with fail
      go_ret2
      exact ⟨rfl, HE⟩)
   · cases f1
     all_goals (
      go_enter Tryz.func10, Tryz.ntmps10
      go_wp2_with fail
      refine absC (fun x1 hx1 => ?_)
      have hx : Ext w x1 := by rw [hx1]; exact (((Ext.refl _).alloc _).alloc _)
      have bt : Bl x1 (w.heap.size) #[.slice sa sn sc, .int .i64 rule, .bool true] := by rw [hx1]; exact ((Bl.new (by simp)).alloc (by simp))
      have bp : Bl x1 (w.heap.size + 1) #[.bool b, .slice a n c, .slice d m k, .bool b', .slice a' n' c', .slice d' m' k'] := by rw [hx1]; exact (Bl.new (by simp))
      have HE := hx
      clear hx
      clear hx1
      refine (HT.out _ (H.out.ext HE) (HX.out.ext HE) (HY.out.ext HE)).mono ?_
      rintro e u1 ⟨rfl, hx⟩
      replace bt := be hx bt
      replace bp := be hx bp
      replace HE := HE.trans hx
      clear hx
      go_wp2_with fail
      refine wp_region_plan (R := Ext) (.q 0 (.q 1 (.q 2 (.q 4 (.q 5 (.l 3 (.q 6 (.q 7 (.q 8 .done))))))))) (by kernel_rfl) (by kernel_rfl) (by kernel_rfl) (by kernel_rfl) Ext.refl (fun _ _ _ => Ext.trans) ?_
      refine absE (fun x2 hx2 => ?_)
      have hx : Ext u1 x2 := by rw [hx2]; exact (Ext.refl _).drew
      replace bt := be hx bt
      replace bp := be hx bp
      replace HE := HE.trans hx
      clear hx
      clear hx2
      repeat (refine wpE_q (v := ?_) rfl rfl (fun u hu => ?_) ?_; rotate_left 1; (focus (have kt := be hu bt; have kp := be hu bp; go_simp; (try rfl))); simp only [PU])
      refine wpE_l rfl rfl (fun K hK => ?_)
      go_simp
      refine (HI.out _).mono ?_
      rintro e u2 ⟨rfl, hx⟩
      refine hK.out _ _ hx ?_
      clear hK K
      try simp only [PU]
      replace bt := be hx bt
      replace bp := be hx bp
      replace HE := HE.trans hx
      clear hx
      repeat (refine wpE_q (v := ?_) rfl rfl (fun u hu => ?_) ?_; rotate_left 1; (focus (have kt := be hu bt; have kp := be hu bp; go_simp; (try rfl))); simp only [PU])
      refine wpE_done ?_
      go_wp2_with fail
      go_ret2
      exact ⟨rfl, HE⟩)
end Go.Proofs.YtgjjalnmigdjgaaGreat
