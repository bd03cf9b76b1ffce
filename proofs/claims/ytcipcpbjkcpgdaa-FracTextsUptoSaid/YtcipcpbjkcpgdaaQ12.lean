/- The program's fractions (frac): texts. -/
import Derived.Test.YtcipcpbjkcpgdaaQ11
namespace Go.Proofs.Ytcipcpbjkcpgdaa
set_option linter.unusedVariables false
open Go Go.RowKit

theorem dec_len {V N : Nat} (h : dl V ≤ N) : (decD V).length ≤ 10 * N + 1 := by
  have := decD_len' (Ws.dig V) (n := N) h
  rwa [val_dig B32_two] at this
theorem textZ_sz (z : Int) : (textZ z).size ≤ (decD z.natAbs).length + 1 := by
  unfold textZ
  split
  · rw [ByteArray.size_append]; unfold decS; rw [decB_size]; simp [ByteArray.size]; omega
  · unfold decS; rw [decB_size]; omega
/-- A fraction's text. -/
def textF (z : Int) (D : Nat) : ByteArray := if D = 1 then textZ z else textZ z ++ ⟨#[47]⟩ ++ decS D

set_option maxRecDepth 100000 in
set_option maxHeartbeats 4000000 in
theorem f_Text (neg : Bool) (a d : Option Addr) (n cap m c : Nat) (z : Int) (D : Nat) (w : World) (hz : WhIn w neg a n cap z) (hd : Nu w d m c D) (hb : dl z.natAbs ≤ 137438953472) (hb' : dl D ≤ 137438953472) :
    Calls Try.prog 117 #[.agg #[.bool neg, .slice a n cap, .slice d m c]] w fun e w' => e = .returned (.string (textF (rz (pz z D) (pd D)) (rd (pz z D) (pd D)))) ∧ Ext w w' := by
  have HP := hidP (fun u t1 t2 => f_Reduce neg a d n cap m c z D u t1 t2 (by omega) (by omega))
  have hg1 : dl (rz (pz z D) (pd D)).natAbs ≤ 137438953472 := by
    unfold rz
    exact Nat.le_trans (dl_mono (Int.natAbs_ediv_le_natAbs _ _)) (by have := pz_len z D; omega)
  have hg2 : dl (rd (pz z D) (pd D)) ≤ 137438953473 := by
    unfold rd
    have := dl_div (pd D) (fg (pz z D) (pd D)); have := pd_len D; omega
  generalize rz (pz z D) (pd D) = Z at *
  generalize rd (pz z D) (pd D) = E at *
  have T1 := hidP (dec_len hg1)
  have B1 := hidP hg1; have B2 := hidP hg2
  have HZ := hidP hz; have HD := hidP hd
  clear hz hd hb hb' hg1 hg2
  by_cases h1 : E = 1
  · have HR : Hid (textF Z E = textZ Z) := hidP (if_pos h1)
    have H1 := hidP (decide_eq_true h1)
    clear h1
    generalize textF Z E = tf at *
    go_enter Try.func117, Try.ntmps117
    go_wp2_with fail
    refine absC (fun x1 hx1 => ?_)
    have hx : Ext w x1 := by rw [hx1]; exact ((Ext.refl _).alloc _)
    have bp : Bl x1 (w.heap.size) #[.bool neg, .slice a n cap, .slice d m c] := by rw [hx1]; exact (Bl.new (by simp))
    have HE := hx
    clear hx
    clear hx1
    refine (HP.out _ (HZ.out.ext HE) (HD.out.ext HE)).mono ?_
    rintro e u1 ⟨a1, n1, c1, d1, m1, k1, rfl, hs1, ht1, hx⟩
    replace bp := Bl.ext hx bp (Nat.succ_pos _)
    replace HE := HE.trans hx
    clear hx
    replace hs1 : Nc u1 a1 n1 c1 (Z).natAbs := hs1
    replace ht1 : Nc u1 d1 m1 k1 (E) := ht1
    go_upto_region 2 with fail
    have lpx := bp.lt (Nat.succ_pos _)
    generalize hzb : decide (Z < 0) = zb at *
    have HZB := hidP hzb
    clear hzb
    refine absW (fun x2 hx2 => ?_)
    have hx : Ext u1 x2 := by rw [hx2]; exact ((Ext.refl _).alloc _)
    have bx : Bl x2 (u1.heap.size) #[.bool zb, .slice a1 n1 c1, .slice d1 m1 k1] := by rw [hx2]; exact (Bl.new (by simp))
    replace bp := Bl.ext hx bp (Nat.succ_pos _)
    replace hs1 := hs1.ext hx
    replace ht1 := ht1.ext hx
    replace HE := HE.trans hx
    clear hx
    clear hx2
    go_wp2_with fail
    refine (f_isUnit ht1).mono ?_
    rw [H1.out]
    rintro e u2 ⟨rfl, rfl⟩
    go_wp2_with fail
    refine (w_Text_any zb a1 n1 c1 Z _ (by rw [← HZB.out]; exact hs1.wh (by have := B1.out; omega)) (by have := T1.out; omega)).mono ?_
    rintro e u3 ⟨rfl, hx⟩
    replace bp := Bl.ext hx bp (Nat.succ_pos _)
    replace bx := Bl.ext hx bx (Nat.succ_pos _)
    replace hs1 := hs1.ext hx
    replace ht1 := ht1.ext hx
    replace HE := HE.trans hx
    clear hx
    go_wp2_with fail
    go_ret
    exact ⟨by rw [HR.out]; rfl, HE⟩
  · have HR : Hid (textF Z E = textZ Z ++ ⟨#[47]⟩ ++ decS E) := hidP (if_neg h1)
    have H1 := hidP (decide_eq_false h1)
    clear h1
    generalize textF Z E = tf at *
    go_enter Try.func117, Try.ntmps117
    go_wp2_with fail
    refine absC (fun x1 hx1 => ?_)
    have hx : Ext w x1 := by rw [hx1]; exact ((Ext.refl _).alloc _)
    have bp : Bl x1 (w.heap.size) #[.bool neg, .slice a n cap, .slice d m c] := by rw [hx1]; exact (Bl.new (by simp))
    have HE := hx
    clear hx
    clear hx1
    refine (HP.out _ (HZ.out.ext HE) (HD.out.ext HE)).mono ?_
    rintro e u1 ⟨a1, n1, c1, d1, m1, k1, rfl, hs1, ht1, hx⟩
    replace bp := Bl.ext hx bp (Nat.succ_pos _)
    replace HE := HE.trans hx
    clear hx
    replace hs1 : Nc u1 a1 n1 c1 (Z).natAbs := hs1
    replace ht1 : Nc u1 d1 m1 k1 (E) := ht1
    go_upto_region 2 with fail
    have lpx := bp.lt (Nat.succ_pos _)
    generalize hzb : decide (Z < 0) = zb at *
    have HZB := hidP hzb
    clear hzb
    refine absW (fun x2 hx2 => ?_)
    have hx : Ext u1 x2 := by rw [hx2]; exact ((Ext.refl _).alloc _)
    have bx : Bl x2 (u1.heap.size) #[.bool zb, .slice a1 n1 c1, .slice d1 m1 k1] := by rw [hx2]; exact (Bl.new (by simp))
    replace bp := Bl.ext hx bp (Nat.succ_pos _)
    replace hs1 := hs1.ext hx
    replace ht1 := ht1.ext hx
    replace HE := HE.trans hx
    clear hx
    clear hx2
    go_wp2_with fail
    refine (f_isUnit ht1).mono ?_
    rw [H1.out]
    rintro e u2 ⟨rfl, rfl⟩
    go_wp2_with fail
    refine wp_region_plan (R := Ext) (.q 0 (.q 1 (.q 4 (.q 5 (.l 2 (.q 3 (.l 6 (.q 7 (.q 8 .done))))))))) (by kernel_rfl) (by kernel_rfl) (by kernel_rfl) (by kernel_rfl) Ext.refl (fun _ _ _ => Ext.trans) ?_
    refine absE (fun x3 hx3 => ?_)
    have hx : Ext x2 x3 := by rw [hx3]; exact (Ext.refl _).drew
    replace bp := Bl.ext hx bp (Nat.succ_pos _)
    replace bx := Bl.ext hx bx (Nat.succ_pos _)
    replace hs1 := hs1.ext hx
    replace ht1 := ht1.ext hx
    replace HE := HE.trans hx
    clear hx
    clear hx3
    repeat (refine wpE_q (v := ?_) rfl rfl (fun u hu => ?_) ?_; rotate_left 1; (focus (have kp := Bl.ext hu bp (Nat.succ_pos _); have kx := Bl.ext hu bx (Nat.succ_pos _); go_simp; (try rfl))); simp only [Act.put, List.setIfInBounds_toArray, List.set_cons_zero, List.set_cons_succ])
    refine wpE_l rfl rfl (fun K hK => ?_)
    go_simp
    refine (w_Text_any zb a1 n1 c1 Z _ (by rw [← HZB.out]; exact hs1.wh (by have := B1.out; omega)) (by have := T1.out; omega)).mono ?_
    rintro e u3 ⟨rfl, hx⟩
    refine hK.out _ _ hx ?_
    clear hK K
    try simp only [Act.put, List.setIfInBounds_toArray, List.set_cons_zero, List.set_cons_succ]
    replace bp := Bl.ext hx bp (Nat.succ_pos _)
    replace bx := Bl.ext hx bx (Nat.succ_pos _)
    replace hs1 := hs1.ext hx
    replace ht1 := ht1.ext hx
    replace HE := HE.trans hx
    clear hx
    have hts : (textZ Z).size ≤ 1374389534723 := by have := textZ_sz Z; have := T1.out; omega
    generalize htz : textZ Z = tz at *
    have HTZ := hidP htz
    have hk1 : ¬ 9223372036854775807 < tz.size + 1 := by omega
    clear htz
    repeat (refine wpE_q (v := ?_) rfl rfl (fun u hu => ?_) ?_; rotate_left 1; (focus (have kp := Bl.ext hu bp (Nat.succ_pos _); have kx := Bl.ext hu bx (Nat.succ_pos _); go_simp; (try rfl))); simp only [Act.put, List.setIfInBounds_toArray, List.set_cons_zero, List.set_cons_succ])
    refine wpE_l rfl rfl (fun K hK => ?_)
    go_simp
    refine (n_Text (ht1.nu (by have := B2.out; omega))).mono ?_
    rintro e u4 ⟨rfl, hx⟩
    refine hK.out _ _ hx ?_
    clear hK K
    try simp only [Act.put, List.setIfInBounds_toArray, List.set_cons_zero, List.set_cons_succ]
    replace bp := Bl.ext hx bp (Nat.succ_pos _)
    replace bx := Bl.ext hx bx (Nat.succ_pos _)
    replace hs1 := hs1.ext hx
    replace ht1 := ht1.ext hx
    replace HE := HE.trans hx
    clear hx
    have hds : (decS E).size ≤ 1374389534731 := by unfold decS; rw [decB_size]; exact dec_len B2.out
    generalize htd : decS E = td at *
    have HTD := hidP htd
    have hk2 : ¬ 9223372036854775807 < tz.size + 1 + td.size := by omega
    clear htd
    repeat (refine wpE_q (v := ?_) rfl rfl (fun u hu => ?_) ?_; rotate_left 1; (focus (have kp := Bl.ext hu bp (Nat.succ_pos _); have kx := Bl.ext hu bx (Nat.succ_pos _); go_simp; (try rfl))); simp only [Act.put, List.setIfInBounds_toArray, List.set_cons_zero, List.set_cons_succ])
    refine wpE_done ?_
    go_wp2_with fail
    go_ret
    exact ⟨by rw [HR.out]; rfl, HE⟩

end Go.Proofs.Ytcipcpbjkcpgdaa
