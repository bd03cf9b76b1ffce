/- The law of the texts of fractions: its walk. -/
import Derived.Test.YtcipcpbjkcpgdaaQ38
import Derived.Test.YtcipcpbjkcpgdaaQ26
namespace Go.Proofs.Ytcipcpbjkcpgdaa
set_option linter.unusedVariables false
open Go Go.RowKit

theorem fp_len (l : List Nat) : dl (fpP l).1.natAbs ≤ 2000 ∧ dl (fpP l).2.1 ≤ 2000 := by
  have h0 : dl (0 : Int).natAbs ≤ 2000 ∧ dl 0 ≤ 2000 := by
    rw [Int.natAbs_zero, dl_zero]; omega
  have h1 : dl 1 ≤ 2000 := by rw [dl_one]; omega
  have hw := wh_len (l.take (slx l))
  unfold fpP
  split
  · exact h0
  · split
    · exact ⟨hw, h1⟩
    · split
      · exact h0
      · rename_i h2
        split
        · exact h0
        · have h3 := Decidable.not_not.1 h2
          exact ⟨hw, dval_len h3.1 h3.2⟩
theorem textF_sz (z : Int) (D : Nat) : (textF z D).size ≤ (decD z.natAbs).length + (decD D).length + 2 := by
  have h := textZ_sz z
  unfold textF
  split
  · omega
  · rw [ByteArray.size_append, ByteArray.size_append]
    unfold decS
    rw [decB_size]
    have : (⟨#[47]⟩ : ByteArray).size = 1 := rfl
    omega

set_option maxRecDepth 100000 in
set_option maxHeartbeats 8000000 in
theorem fracTexts_any (b : Bool) (a : Option Addr) (n c : Nat) (l : List Nat) (d : Option Addr) (m k : Nat) (e : List Nat) (s : ByteArray) (w : World)
    (hs : Sl w a n c (ints .u32 l)) (hl : Ws l) (hn : n ≤ 1048576) (ht : Sl w d m k (ints .u32 e)) (he : Ws e) (hm : m ≤ 1048576) (hz : s.size ≤ 1048576) :
    Calls Try.prog 20 #[.agg #[.bool b, .slice a n c, .slice d m k], .string s] w fun e w' => e = .returned (.bool true) ∧ Ext w w' := by
  have h := fq_lift (b := b) hs hl hn ht he hm
  generalize mkRat (wz b (val B32 l)) (val B32 e) = q at *
  have l1 := h.ql (by omega)
  have g1 := ql_num l1
  have g2 := ql_den l1
  have t1 := dec_len g1
  have t2 := dec_len g2
  have t3 := textF_sz q.num q.den
  have A1 := hidP (fun (u : World) => f_Parse s u (by omega))
  have A2 := hidP (fun (u : World) => g_Parse s u (by omega))
  have A3 := hidP (fun (u : World) (t : Fq u b a n c d m k q 1048576) => fq_Text t (by omega))
  have A4 := hidP (fun (u : World) => f_Parse (textF q.num q.den) u (by omega))
  have A5 := hidP (fun (u : World) (t : Fq u b a n c d m k q 1048576) => gq_Text t (by omega))
  have A6 := hidP (fun (u : World) (t : Fq u b a n c d m k q 1048576) => gq_Reduce t)
  have hfp := @fp_text q
  rw [natsOf_len] at hfp
  have L := hidP (fp_len (natsOf s))
  have G1 := hidP g1; have G2 := hidP g2
  have H := hidP h
  have hsz : (textF q.num q.den).size ≤ 1099511627776 := by omega
  clear h l1 g1 g2 t1 t2 t3 hs hl ht he hn hm
  generalize textF q.num q.den = tx at *
  generalize (fpP (natsOf s)).1 = z1 at *
  generalize (fpP (natsOf s)).2.1 = D1 at *
  generalize (fpP (natsOf s)).2.2 = e1 at *
  by_cases hbg : tx.size ≤ 2000
  · rw [hfp hbg] at A4
    obtain ⟨bg, HBI⟩ : ∃ bg, Hid (decide ((2000 : Int) < (tx.size : Int)) = bg) ∧ Hid (bg = false) := ⟨_, hidP rfl, hidP (decide_eq_false (by omega))⟩
    obtain ⟨HBI, HBF⟩ := HBI
    clear hfp
    go_enter Try.func20, Try.ntmps20
    go_wp2_with fail
    refine absC (fun x1 hx1 => ?_)
    have hx : Ext w x1 := by rw [hx1]; exact ((Ext.refl _).alloc _)
    have bp : Bl x1 (w.heap.size) #[.bool b, .slice a n c, .slice d m k] := by rw [hx1]; exact (Bl.new (by simp))
    have HE := hx
    clear hx
    clear hx1
    refine (A1.out _).mono ?_
    rintro e u1 ⟨a1, n1, c1, d1, m1, k1, rfl, hs1, ht1, hx⟩
    replace bp := Bl.ext hx bp (Nat.succ_pos _)
    replace HE := HE.trans hx
    clear hx
    replace hs1 : Nc u1 a1 n1 c1 (z1).natAbs := hs1
    replace ht1 : Nc u1 d1 m1 k1 (D1) := ht1
    go_upto_region 2 with fail
    refine absW (fun x2 hx2 => ?_)
    have hx : Ext u1 x2 := by rw [hx2]; exact ((Ext.refl _).alloc _)
    have bx : Bl x2 (u1.heap.size) #[.bool (decide (z1 < 0)), .slice a1 n1 c1, .slice d1 m1 k1] := by rw [hx2]; exact (Bl.new (by simp))
    replace bp := Bl.ext hx bp (Nat.succ_pos _)
    replace hs1 := hs1.ext hx
    replace ht1 := ht1.ext hx
    replace HE := HE.trans hx
    clear hx
    clear hx2
    go_wp2_with fail
    refine (A2.out _).mono ?_
    rintro e u2 ⟨a2, n2, c2, d2, m2, k2, rfl, hs2, ht2, hx⟩
    replace bp := Bl.ext hx bp (Nat.succ_pos _)
    replace bx := Bl.ext hx bx (Nat.succ_pos _)
    replace hs1 := hs1.ext hx
    replace ht1 := ht1.ext hx
    replace HE := HE.trans hx
    clear hx
    replace hs2 : Nc u2 a2 n2 c2 (z1).natAbs := hs2
    replace ht2 : Nc u2 d2 m2 k2 (D1) := ht2
    go_upto_region 3 with fail
    refine absW (fun x3 hx3 => ?_)
    have hx : Ext u2 x3 := by rw [hx3]; exact ((Ext.refl _).alloc _)
    have by1 : Bl x3 (u2.heap.size) #[.bool (decide (z1 < 0)), .slice a2 n2 c2, .slice d2 m2 k2] := by rw [hx3]; exact (Bl.new (by simp))
    replace bp := Bl.ext hx bp (Nat.succ_pos _)
    replace bx := Bl.ext hx bx (Nat.succ_pos _)
    replace hs1 := hs1.ext hx
    replace ht1 := ht1.ext hx
    replace hs2 := hs2.ext hx
    replace ht2 := ht2.ext hx
    replace HE := HE.trans hx
    clear hx
    clear hx3
    go_wp2_with fail
    refine (A3.out _ (H.out.ext HE)).mono ?_
    rintro e u3 ⟨rfl, hx⟩
    replace bp := Bl.ext hx bp (Nat.succ_pos _)
    replace bx := Bl.ext hx bx (Nat.succ_pos _)
    replace by1 := Bl.ext hx by1 (Nat.succ_pos _)
    replace hs1 := hs1.ext hx
    replace ht1 := ht1.ext hx
    replace hs2 := hs2.ext hx
    replace ht2 := ht2.ext hx
    replace HE := HE.trans hx
    clear hx
    go_wp2_with fail
    refine (A4.out _).mono ?_
    rintro e u4 ⟨a4, n4, c4, d4, m4, k4, rfl, hs4, ht4, hx⟩
    replace bp := Bl.ext hx bp (Nat.succ_pos _)
    replace bx := Bl.ext hx bx (Nat.succ_pos _)
    replace by1 := Bl.ext hx by1 (Nat.succ_pos _)
    replace hs1 := hs1.ext hx
    replace ht1 := ht1.ext hx
    replace hs2 := hs2.ext hx
    replace ht2 := ht2.ext hx
    replace HE := HE.trans hx
    clear hx
    replace hs4 : Nc u4 a4 n4 c4 (q.num).natAbs := hs4
    replace ht4 : Nc u4 d4 m4 k4 (q.den) := ht4
    go_upto_region 5 with fail
    refine absW (fun x4 hx4 => ?_)
    have hx : Ext u4 x4 := by rw [hx4]; exact ((Ext.refl _).alloc _)
    have bv : Bl x4 (u4.heap.size) #[.bool (decide (q.num < 0)), .slice a4 n4 c4, .slice d4 m4 k4] := by rw [hx4]; exact (Bl.new (by simp))
    replace bp := Bl.ext hx bp (Nat.succ_pos _)
    replace bx := Bl.ext hx bx (Nat.succ_pos _)
    replace by1 := Bl.ext hx by1 (Nat.succ_pos _)
    replace hs1 := hs1.ext hx
    replace ht1 := ht1.ext hx
    replace hs2 := hs2.ext hx
    replace ht2 := ht2.ext hx
    replace hs4 := hs4.ext hx
    replace ht4 := ht4.ext hx
    replace HE := HE.trans hx
    clear hx
    clear hx4
    go_wp2_with fail
    refine wp_region_plan (R := Ext) (.q 0 (.q 1 (.l 2 (.q 3 (.q 4 (.q 5 (.q 6 (.l 7 (.q 8 (.q 9 (.q 10 (.q 11 (.q 12 (.q 13 (.q 14 (.q 15 (.q 16 (.q 17 (.q 18 (.q 19 (.q 20 (.q 21 (.q 22 (.q 23 (.l 24 (.l 25 (.q 26 (.q 27 (.q 28 (.q 29 (.l 30 (.q 31 (.q 32 .done))))))))))))))))))))))))))))))))) (by kernel_rfl) (by kernel_rfl) (by kernel_rfl) (by kernel_rfl) Ext.refl (fun _ _ _ => Ext.trans) ?_
    refine absE (fun x5 hx5 => ?_)
    have hx : Ext x4 x5 := by rw [hx5]; exact (Ext.refl _).drew
    replace bp := Bl.ext hx bp (Nat.succ_pos _)
    replace bx := Bl.ext hx bx (Nat.succ_pos _)
    replace by1 := Bl.ext hx by1 (Nat.succ_pos _)
    replace bv := Bl.ext hx bv (Nat.succ_pos _)
    replace hs1 := hs1.ext hx
    replace ht1 := ht1.ext hx
    replace hs2 := hs2.ext hx
    replace ht2 := ht2.ext hx
    replace hs4 := hs4.ext hx
    replace ht4 := ht4.ext hx
    replace HE := HE.trans hx
    clear hx
    clear hx5
    repeat (refine wpE_q (v := ?_) rfl rfl (fun u hu => ?_) ?_; rotate_left 1; (focus (have kp := Bl.ext hu bp (Nat.succ_pos _); have kx := Bl.ext hu bx (Nat.succ_pos _); have ky1 := Bl.ext hu by1 (Nat.succ_pos _); have kv := Bl.ext hu bv (Nat.succ_pos _); have hbi := HBI.out; rw [HBF.out] at hbi; go_simp; (try rfl))); simp only [Act.put, List.setIfInBounds_toArray, List.set_cons_zero, List.set_cons_succ])
    refine wpE_l rfl rfl (fun K hK => ?_)
    go_simp
    refine (A5.out _ (H.out.ext HE)).mono ?_
    rintro e u5 ⟨rfl, hx⟩
    refine hK.out _ _ hx ?_
    clear hK K
    try simp only [Act.put, List.setIfInBounds_toArray, List.set_cons_zero, List.set_cons_succ]
    replace bp := Bl.ext hx bp (Nat.succ_pos _)
    replace bx := Bl.ext hx bx (Nat.succ_pos _)
    replace by1 := Bl.ext hx by1 (Nat.succ_pos _)
    replace bv := Bl.ext hx bv (Nat.succ_pos _)
    replace hs1 := hs1.ext hx
    replace ht1 := ht1.ext hx
    replace hs2 := hs2.ext hx
    replace ht2 := ht2.ext hx
    replace hs4 := hs4.ext hx
    replace ht4 := ht4.ext hx
    replace HE := HE.trans hx
    clear hx
    repeat (refine wpE_q (v := ?_) rfl rfl (fun u hu => ?_) ?_; rotate_left 1; (focus (have kp := Bl.ext hu bp (Nat.succ_pos _); have kx := Bl.ext hu bx (Nat.succ_pos _); have ky1 := Bl.ext hu by1 (Nat.succ_pos _); have kv := Bl.ext hu bv (Nat.succ_pos _); have hbi := HBI.out; rw [HBF.out] at hbi; go_simp; (try rfl))); simp only [Act.put, List.setIfInBounds_toArray, List.set_cons_zero, List.set_cons_succ])
    refine wpE_l rfl rfl (fun K hK => ?_)
    go_simp
    refine (g_Same hs1 hs2 ht1 ht2 (by have := L.out; omega) (by have := L.out; omega)).mono ?_
    rintro e u6 ⟨rfl, hx⟩
    refine hK.out _ _ hx ?_
    clear hK K
    try simp only [Act.put, List.setIfInBounds_toArray, List.set_cons_zero, List.set_cons_succ]
    replace bp := Bl.ext hx bp (Nat.succ_pos _)
    replace bx := Bl.ext hx bx (Nat.succ_pos _)
    replace by1 := Bl.ext hx by1 (Nat.succ_pos _)
    replace bv := Bl.ext hx bv (Nat.succ_pos _)
    replace hs1 := hs1.ext hx
    replace ht1 := ht1.ext hx
    replace hs2 := hs2.ext hx
    replace ht2 := ht2.ext hx
    replace hs4 := hs4.ext hx
    replace ht4 := ht4.ext hx
    replace HE := HE.trans hx
    clear hx
    repeat (refine wpE_q (v := ?_) rfl rfl (fun u hu => ?_) ?_; rotate_left 1; (focus (have kp := Bl.ext hu bp (Nat.succ_pos _); have kx := Bl.ext hu bx (Nat.succ_pos _); have ky1 := Bl.ext hu by1 (Nat.succ_pos _); have kv := Bl.ext hu bv (Nat.succ_pos _); have hbi := HBI.out; rw [HBF.out] at hbi; go_simp; (try rfl))); simp only [Act.put, List.setIfInBounds_toArray, List.set_cons_zero, List.set_cons_succ])
    refine wpE_l rfl rfl (fun K hK => ?_)
    go_simp
    refine (A6.out _ (H.out.ext HE)).mono ?_
    rintro e u7 ⟨a7, n7, c7, d7, m7, k7, rfl, hs7, ht7, hx⟩
    refine hK.out _ _ hx ?_
    clear hK K
    try simp only [Act.put, List.setIfInBounds_toArray, List.set_cons_zero, List.set_cons_succ]
    replace bp := Bl.ext hx bp (Nat.succ_pos _)
    replace bx := Bl.ext hx bx (Nat.succ_pos _)
    replace by1 := Bl.ext hx by1 (Nat.succ_pos _)
    replace bv := Bl.ext hx bv (Nat.succ_pos _)
    replace hs1 := hs1.ext hx
    replace ht1 := ht1.ext hx
    replace hs2 := hs2.ext hx
    replace ht2 := ht2.ext hx
    replace hs4 := hs4.ext hx
    replace ht4 := ht4.ext hx
    replace HE := HE.trans hx
    clear hx
    replace hs7 : Nc u7 a7 n7 c7 (q.num).natAbs := hs7
    replace ht7 : Nc u7 d7 m7 k7 (q.den) := ht7
    refine wpE_l rfl rfl (fun K hK => ?_)
    go_simp
    refine (g_Same hs4 hs7 ht4 ht7 (by have := G1.out; omega) (by have := G2.out; omega)).mono ?_
    rintro e u8 ⟨rfl, hx⟩
    refine hK.out _ _ hx ?_
    clear hK K
    try simp only [Act.put, List.setIfInBounds_toArray, List.set_cons_zero, List.set_cons_succ]
    replace bp := Bl.ext hx bp (Nat.succ_pos _)
    replace bx := Bl.ext hx bx (Nat.succ_pos _)
    replace by1 := Bl.ext hx by1 (Nat.succ_pos _)
    replace bv := Bl.ext hx bv (Nat.succ_pos _)
    replace hs1 := hs1.ext hx
    replace ht1 := ht1.ext hx
    replace hs2 := hs2.ext hx
    replace ht2 := ht2.ext hx
    replace hs4 := hs4.ext hx
    replace ht4 := ht4.ext hx
    replace hs7 := hs7.ext hx
    replace ht7 := ht7.ext hx
    replace HE := HE.trans hx
    clear hx
    repeat (refine wpE_q (v := ?_) rfl rfl (fun u hu => ?_) ?_; rotate_left 1; (focus (have kp := Bl.ext hu bp (Nat.succ_pos _); have kx := Bl.ext hu bx (Nat.succ_pos _); have ky1 := Bl.ext hu by1 (Nat.succ_pos _); have kv := Bl.ext hu bv (Nat.succ_pos _); have hbi := HBI.out; rw [HBF.out] at hbi; go_simp; (try rfl))); simp only [Act.put, List.setIfInBounds_toArray, List.set_cons_zero, List.set_cons_succ])
    refine wpE_l rfl rfl (fun K hK => ?_)
    go_simp
    refine (fr_lives _).mono ?_
    rintro e u9 ⟨rfl, hx⟩
    refine hK.out _ _ hx ?_
    clear hK K
    try simp only [Act.put, List.setIfInBounds_toArray, List.set_cons_zero, List.set_cons_succ]
    replace bp := Bl.ext hx bp (Nat.succ_pos _)
    replace bx := Bl.ext hx bx (Nat.succ_pos _)
    replace by1 := Bl.ext hx by1 (Nat.succ_pos _)
    replace bv := Bl.ext hx bv (Nat.succ_pos _)
    replace hs1 := hs1.ext hx
    replace ht1 := ht1.ext hx
    replace hs2 := hs2.ext hx
    replace ht2 := ht2.ext hx
    replace hs4 := hs4.ext hx
    replace ht4 := ht4.ext hx
    replace hs7 := hs7.ext hx
    replace ht7 := ht7.ext hx
    replace HE := HE.trans hx
    clear hx
    repeat (refine wpE_q (v := ?_) rfl rfl (fun u hu => ?_) ?_; rotate_left 1; (focus (have kp := Bl.ext hu bp (Nat.succ_pos _); have kx := Bl.ext hu bx (Nat.succ_pos _); have ky1 := Bl.ext hu by1 (Nat.succ_pos _); have kv := Bl.ext hu bv (Nat.succ_pos _); have hbi := HBI.out; rw [HBF.out] at hbi; go_simp; (try rfl))); simp only [Act.put, List.setIfInBounds_toArray, List.set_cons_zero, List.set_cons_succ])
    refine wpE_done ?_
    go_wp2_with fail
    go_ret
    exact ⟨rfl, HE⟩
  · obtain ⟨bg, HBI⟩ : ∃ bg, Hid (decide ((2000 : Int) < (tx.size : Int)) = bg) ∧ Hid (bg = true) := ⟨_, hidP rfl, hidP (decide_eq_true (by omega))⟩
    obtain ⟨HBI, HBF⟩ := HBI
    clear hfp
    generalize (fpP (natsOf tx)).1 = z2 at *
    generalize (fpP (natsOf tx)).2.1 = D2 at *
    generalize (fpP (natsOf tx)).2.2 = e2 at *
    go_enter Try.func20, Try.ntmps20
    go_wp2_with fail
    refine absC (fun x1 hx1 => ?_)
    have hx : Ext w x1 := by rw [hx1]; exact ((Ext.refl _).alloc _)
    have bp : Bl x1 (w.heap.size) #[.bool b, .slice a n c, .slice d m k] := by rw [hx1]; exact (Bl.new (by simp))
    have HE := hx
    clear hx
    clear hx1
    refine (A1.out _).mono ?_
    rintro e u1 ⟨a1, n1, c1, d1, m1, k1, rfl, hs1, ht1, hx⟩
    replace bp := Bl.ext hx bp (Nat.succ_pos _)
    replace HE := HE.trans hx
    clear hx
    replace hs1 : Nc u1 a1 n1 c1 (z1).natAbs := hs1
    replace ht1 : Nc u1 d1 m1 k1 (D1) := ht1
    go_upto_region 2 with fail
    refine absW (fun x2 hx2 => ?_)
    have hx : Ext u1 x2 := by rw [hx2]; exact ((Ext.refl _).alloc _)
    have bx : Bl x2 (u1.heap.size) #[.bool (decide (z1 < 0)), .slice a1 n1 c1, .slice d1 m1 k1] := by rw [hx2]; exact (Bl.new (by simp))
    replace bp := Bl.ext hx bp (Nat.succ_pos _)
    replace hs1 := hs1.ext hx
    replace ht1 := ht1.ext hx
    replace HE := HE.trans hx
    clear hx
    clear hx2
    go_wp2_with fail
    refine (A2.out _).mono ?_
    rintro e u2 ⟨a2, n2, c2, d2, m2, k2, rfl, hs2, ht2, hx⟩
    replace bp := Bl.ext hx bp (Nat.succ_pos _)
    replace bx := Bl.ext hx bx (Nat.succ_pos _)
    replace hs1 := hs1.ext hx
    replace ht1 := ht1.ext hx
    replace HE := HE.trans hx
    clear hx
    replace hs2 : Nc u2 a2 n2 c2 (z1).natAbs := hs2
    replace ht2 : Nc u2 d2 m2 k2 (D1) := ht2
    go_upto_region 3 with fail
    refine absW (fun x3 hx3 => ?_)
    have hx : Ext u2 x3 := by rw [hx3]; exact ((Ext.refl _).alloc _)
    have by1 : Bl x3 (u2.heap.size) #[.bool (decide (z1 < 0)), .slice a2 n2 c2, .slice d2 m2 k2] := by rw [hx3]; exact (Bl.new (by simp))
    replace bp := Bl.ext hx bp (Nat.succ_pos _)
    replace bx := Bl.ext hx bx (Nat.succ_pos _)
    replace hs1 := hs1.ext hx
    replace ht1 := ht1.ext hx
    replace hs2 := hs2.ext hx
    replace ht2 := ht2.ext hx
    replace HE := HE.trans hx
    clear hx
    clear hx3
    go_wp2_with fail
    refine (A3.out _ (H.out.ext HE)).mono ?_
    rintro e u3 ⟨rfl, hx⟩
    replace bp := Bl.ext hx bp (Nat.succ_pos _)
    replace bx := Bl.ext hx bx (Nat.succ_pos _)
    replace by1 := Bl.ext hx by1 (Nat.succ_pos _)
    replace hs1 := hs1.ext hx
    replace ht1 := ht1.ext hx
    replace hs2 := hs2.ext hx
    replace ht2 := ht2.ext hx
    replace HE := HE.trans hx
    clear hx
    go_wp2_with fail
    refine (A4.out _).mono ?_
    rintro e u4 ⟨a4, n4, c4, d4, m4, k4, rfl, hs4, ht4, hx⟩
    replace bp := Bl.ext hx bp (Nat.succ_pos _)
    replace bx := Bl.ext hx bx (Nat.succ_pos _)
    replace by1 := Bl.ext hx by1 (Nat.succ_pos _)
    replace hs1 := hs1.ext hx
    replace ht1 := ht1.ext hx
    replace hs2 := hs2.ext hx
    replace ht2 := ht2.ext hx
    replace HE := HE.trans hx
    clear hx
    replace hs4 : Nc u4 a4 n4 c4 (z2).natAbs := hs4
    replace ht4 : Nc u4 d4 m4 k4 (D2) := ht4
    go_upto_region 5 with fail
    refine absW (fun x4 hx4 => ?_)
    have hx : Ext u4 x4 := by rw [hx4]; exact ((Ext.refl _).alloc _)
    have bv : Bl x4 (u4.heap.size) #[.bool (decide (z2 < 0)), .slice a4 n4 c4, .slice d4 m4 k4] := by rw [hx4]; exact (Bl.new (by simp))
    replace bp := Bl.ext hx bp (Nat.succ_pos _)
    replace bx := Bl.ext hx bx (Nat.succ_pos _)
    replace by1 := Bl.ext hx by1 (Nat.succ_pos _)
    replace hs1 := hs1.ext hx
    replace ht1 := ht1.ext hx
    replace hs2 := hs2.ext hx
    replace ht2 := ht2.ext hx
    replace hs4 := hs4.ext hx
    replace ht4 := ht4.ext hx
    replace HE := HE.trans hx
    clear hx
    clear hx4
    go_wp2_with fail
    refine wp_region_plan (R := Ext) (.q 0 (.q 1 (.l 2 (.q 3 (.q 4 (.q 5 (.q 6 (.l 7 (.q 8 (.q 9 (.q 10 (.q 11 (.q 12 (.q 13 (.q 14 (.q 15 (.q 16 (.q 17 (.q 18 (.q 19 (.q 20 (.q 21 (.q 22 (.q 23 (.l 24 (.l 25 (.q 26 (.q 27 (.q 28 (.q 29 (.l 30 (.q 31 (.q 32 .done))))))))))))))))))))))))))))))))) (by kernel_rfl) (by kernel_rfl) (by kernel_rfl) (by kernel_rfl) Ext.refl (fun _ _ _ => Ext.trans) ?_
    refine absE (fun x5 hx5 => ?_)
    have hx : Ext x4 x5 := by rw [hx5]; exact (Ext.refl _).drew
    replace bp := Bl.ext hx bp (Nat.succ_pos _)
    replace bx := Bl.ext hx bx (Nat.succ_pos _)
    replace by1 := Bl.ext hx by1 (Nat.succ_pos _)
    replace bv := Bl.ext hx bv (Nat.succ_pos _)
    replace hs1 := hs1.ext hx
    replace ht1 := ht1.ext hx
    replace hs2 := hs2.ext hx
    replace ht2 := ht2.ext hx
    replace hs4 := hs4.ext hx
    replace ht4 := ht4.ext hx
    replace HE := HE.trans hx
    clear hx
    clear hx5
    repeat (first | (refine wpE_q (v := ?_) rfl rfl (fun u hu => ?_) ?_; rotate_left 1; (focus (have kp := Bl.ext hu bp (Nat.succ_pos _); have kx := Bl.ext hu bx (Nat.succ_pos _); have ky1 := Bl.ext hu by1 (Nat.succ_pos _); have kv := Bl.ext hu bv (Nat.succ_pos _); have hbi := HBI.out; rw [HBF.out] at hbi; go_simp; (try rfl))); simp only [Act.put, List.setIfInBounds_toArray, List.set_cons_zero, List.set_cons_succ]) | (refine wpE_qs rfl rfl ?_; simp only [Act.put, List.setIfInBounds_toArray, List.set_cons_zero, List.set_cons_succ]))
    refine wpE_l rfl rfl (fun K hK => ?_)
    go_simp
    refine (A5.out _ (H.out.ext HE)).mono ?_
    rintro e u5 ⟨rfl, hx⟩
    refine hK.out _ _ hx ?_
    clear hK K
    try simp only [Act.put, List.setIfInBounds_toArray, List.set_cons_zero, List.set_cons_succ]
    replace bp := Bl.ext hx bp (Nat.succ_pos _)
    replace bx := Bl.ext hx bx (Nat.succ_pos _)
    replace by1 := Bl.ext hx by1 (Nat.succ_pos _)
    replace bv := Bl.ext hx bv (Nat.succ_pos _)
    replace hs1 := hs1.ext hx
    replace ht1 := ht1.ext hx
    replace hs2 := hs2.ext hx
    replace ht2 := ht2.ext hx
    replace hs4 := hs4.ext hx
    replace ht4 := ht4.ext hx
    replace HE := HE.trans hx
    clear hx
    repeat (first | (refine wpE_q (v := ?_) rfl rfl (fun u hu => ?_) ?_; rotate_left 1; (focus (have kp := Bl.ext hu bp (Nat.succ_pos _); have kx := Bl.ext hu bx (Nat.succ_pos _); have ky1 := Bl.ext hu by1 (Nat.succ_pos _); have kv := Bl.ext hu bv (Nat.succ_pos _); have hbi := HBI.out; rw [HBF.out] at hbi; go_simp; (try rfl))); simp only [Act.put, List.setIfInBounds_toArray, List.set_cons_zero, List.set_cons_succ]) | (refine wpE_qs rfl rfl ?_; simp only [Act.put, List.setIfInBounds_toArray, List.set_cons_zero, List.set_cons_succ]))
    refine wpE_l rfl rfl (fun K hK => ?_)
    go_simp
    refine (g_Same hs1 hs2 ht1 ht2 (by have := L.out; omega) (by have := L.out; omega)).mono ?_
    rintro e u6 ⟨rfl, hx⟩
    refine hK.out _ _ hx ?_
    clear hK K
    try simp only [Act.put, List.setIfInBounds_toArray, List.set_cons_zero, List.set_cons_succ]
    replace bp := Bl.ext hx bp (Nat.succ_pos _)
    replace bx := Bl.ext hx bx (Nat.succ_pos _)
    replace by1 := Bl.ext hx by1 (Nat.succ_pos _)
    replace bv := Bl.ext hx bv (Nat.succ_pos _)
    replace hs1 := hs1.ext hx
    replace ht1 := ht1.ext hx
    replace hs2 := hs2.ext hx
    replace ht2 := ht2.ext hx
    replace hs4 := hs4.ext hx
    replace ht4 := ht4.ext hx
    replace HE := HE.trans hx
    clear hx
    repeat (first | (refine wpE_q (v := ?_) rfl rfl (fun u hu => ?_) ?_; rotate_left 1; (focus (have kp := Bl.ext hu bp (Nat.succ_pos _); have kx := Bl.ext hu bx (Nat.succ_pos _); have ky1 := Bl.ext hu by1 (Nat.succ_pos _); have kv := Bl.ext hu bv (Nat.succ_pos _); have hbi := HBI.out; rw [HBF.out] at hbi; go_simp; (try rfl))); simp only [Act.put, List.setIfInBounds_toArray, List.set_cons_zero, List.set_cons_succ]) | (refine wpE_qs rfl rfl ?_; simp only [Act.put, List.setIfInBounds_toArray, List.set_cons_zero, List.set_cons_succ]))
    refine wpE_ls (Ext.refl _) rfl rfl ?_
    simp only [Act.put, List.setIfInBounds_toArray, List.set_cons_zero, List.set_cons_succ]
    refine wpE_ls (Ext.refl _) rfl rfl ?_
    simp only [Act.put, List.setIfInBounds_toArray, List.set_cons_zero, List.set_cons_succ]
    repeat (first | (refine wpE_q (v := ?_) rfl rfl (fun u hu => ?_) ?_; rotate_left 1; (focus (have kp := Bl.ext hu bp (Nat.succ_pos _); have kx := Bl.ext hu bx (Nat.succ_pos _); have ky1 := Bl.ext hu by1 (Nat.succ_pos _); have kv := Bl.ext hu bv (Nat.succ_pos _); have hbi := HBI.out; rw [HBF.out] at hbi; go_simp; (try rfl))); simp only [Act.put, List.setIfInBounds_toArray, List.set_cons_zero, List.set_cons_succ]) | (refine wpE_qs rfl rfl ?_; simp only [Act.put, List.setIfInBounds_toArray, List.set_cons_zero, List.set_cons_succ]))
    refine wpE_l rfl rfl (fun K hK => ?_)
    go_simp
    refine (fr_lives _).mono ?_
    rintro e u9 ⟨rfl, hx⟩
    refine hK.out _ _ hx ?_
    clear hK K
    try simp only [Act.put, List.setIfInBounds_toArray, List.set_cons_zero, List.set_cons_succ]
    replace bp := Bl.ext hx bp (Nat.succ_pos _)
    replace bx := Bl.ext hx bx (Nat.succ_pos _)
    replace by1 := Bl.ext hx by1 (Nat.succ_pos _)
    replace bv := Bl.ext hx bv (Nat.succ_pos _)
    replace hs1 := hs1.ext hx
    replace ht1 := ht1.ext hx
    replace hs2 := hs2.ext hx
    replace ht2 := ht2.ext hx
    replace hs4 := hs4.ext hx
    replace ht4 := ht4.ext hx
    replace HE := HE.trans hx
    clear hx
    repeat (first | (refine wpE_q (v := ?_) rfl rfl (fun u hu => ?_) ?_; rotate_left 1; (focus (have kp := Bl.ext hu bp (Nat.succ_pos _); have kx := Bl.ext hu bx (Nat.succ_pos _); have ky1 := Bl.ext hu by1 (Nat.succ_pos _); have kv := Bl.ext hu bv (Nat.succ_pos _); have hbi := HBI.out; rw [HBF.out] at hbi; go_simp; (try rfl))); simp only [Act.put, List.setIfInBounds_toArray, List.set_cons_zero, List.set_cons_succ]) | (refine wpE_qs rfl rfl ?_; simp only [Act.put, List.setIfInBounds_toArray, List.set_cons_zero, List.set_cons_succ]))
    refine wpE_done ?_
    go_wp2_with fail
    go_ret
    exact ⟨rfl, HE⟩

end Go.Proofs.Ytcipcpbjkcpgdaa
