/- The law of lines: its walk. -/
import Derived.Test.YtogcmnagiepofaaG18
import Derived.Test.YtogcmnagiepofaaG13
namespace Go.Proofs.Ytogcmnagiepofaa
set_option linter.unusedVariables false
open Go Go.RowKit

set_option maxRecDepth 100000 in
set_option maxHeartbeats 4000000 in
theorem d_SameP (a a' : Option Addr) (n cap n' cap' : Nat) (l : List Pt) (w : World) (h : SlP w a n cap l) (h' : SlP w a' n' cap' l) :
    Calls Try.prog 34 #[.slice a n cap, .slice a' n' cap'] w fun e w' => e = .returned (.bool true) ∧ Ext w w' := by
  have H := hidP h; have H' := hidP h'
  have HLN := hidP h.len
  have hcap : n ≤ maxLen := Nat.le_trans h.2.1 h.2.2.1
  unfold maxLen at hcap
  obtain rfl : n = n' := by rw [← h.len, ← h'.len]
  clear h h'
  go_enter Try.func34, Try.ntmps34
  go_wp2_with fail
  go_loopw [5] (fun iv wr => ∃ j : Nat, j ≤ n ∧ iv = .int .i64 (j : Int) ∧ Ext w wr) (fun iv _ => n - (intOf iv).toNat)
  case atStart => exact ⟨0, by omega, rfl, Ext.refl _⟩
  case round =>
    obtain ⟨j, hj, rfl, HE⟩ := hrel
    by_cases hlt : j < n
    · obtain ⟨g, off, rfl, hc⟩ := (H.out.ext HE).at (by omega)
      obtain ⟨g2, off2, rfl, hc2⟩ := (H'.out.ext HE).at (by omega)
      have hjl : j < l.length := by rw [HLN.out]; exact hlt
      obtain ⟨h1, h2⟩ := hc j hjl
      obtain ⟨h3, h4⟩ := hc2 j hjl
      clear hc hc2
      generalize l[j] = pp at *
      obtain ⟨px, py⟩ := pp
      simp only at h1 h2 h3 h4
      go_wp2_with fail
      refine wp_region_plan (R := Ext) (.q 0 (.q 1 (.q 2 (.q 3 (.q 4 (.q 5 (.q 6 (.q 7 (.q 8 .done))))))))) (by kernel_rfl) (by kernel_rfl) (by kernel_rfl) (by kernel_rfl) Ext.refl (fun _ _ _ => Ext.trans) ?_
      refine absE (fun x1 hx1 => ?_)
      have hx : Ext wr x1 := by rw [hx1]; exact (Ext.refl _).drew
      replace h1 := hx.cell' h1
      replace h2 := hx.cell' h2
      replace h3 := hx.cell' h3
      replace h4 := hx.cell' h4
      replace HE := HE.trans hx
      clear hx
      clear hx1
      repeat (refine wpE_q (v := ?_) rfl rfl (fun u hu => ?_) ?_; rotate_left 1; (focus (have kh1 := hu.cell' h1; have kh2 := hu.cell' h2; have kh3 := hu.cell' h3; have kh4 := hu.cell' h4; go_simp; (try rfl))); simp only [Act.put, List.setIfInBounds_toArray, List.set_cons_zero, List.set_cons_succ])
      refine wpE_done ?_
      go_wp2_with fail
      go_roundw
      case rel => exact ⟨j + 1, by omega, by go_num, HE⟩
      case measure => simp only [intOf]; omega
    · obtain rfl : j = n := by omega
      go_wp2_with fail
      go_ret
      exact ⟨rfl, HE⟩

set_option maxRecDepth 100000 in
set_option maxHeartbeats 8000000 in
theorem gaugeLines_any (a : Option Addr) (n cap : Nat) (l : List Pt) (c : Bool) (w : World) (hs : SlP w a n cap l) (hw : ∀ p ∈ l, True) (hn : n ≤ 1048576) :
    Calls Try.prog 6 #[.agg #[.slice a n cap, .bool c]] w fun e w' => e = .returned (.bool true) ∧ Ext w w' := by
  have H := hidP hs
  have HB1 := hidP (fun (u : World) (t : SlP u a n cap l) => g_Box a n cap l u t)
  have HB2 := hidP (fun (u : World) (t : SlP u a n cap l) => d_Box a n cap l u t)
  unfold boxV at HB1 HB2
  have A1 := hidP (fun (u : World) (t : SlP u a n cap l) (h : n ≤ 10000) => g_Long a n cap l c u t h)
  have A2 := hidP (fun (u : World) (t : SlP u a n cap l) (h : n ≤ 10000) => d_Long a n cap l c u t h)
  have A3 := hidP (fun (u : World) (t : SlP u a n cap l) (h : n ≤ 10000) => g_Twice a n cap l u t h)
  have A4 := hidP (fun (u : World) (t : SlP u a n cap l) (h : n ≤ 10000) => d_Twice a n cap l u t h)
  have A5 := hidP (fun (u : World) (t : SlP u a n cap l) (h : n ≤ 10000) => g_Round a n cap l u t h)
  have A6 := hidP (fun (u : World) (t : SlP u a n cap l) (h : n ≤ 10000) => d_Round a n cap l u t h)
  generalize (bxS l n).1 = b1 at *
  generalize (bxS l n).2.1 = b2 at *
  generalize (bxS l n).2.2.1 = b3 at *
  generalize (bxS l n).2.2.2 = b4 at *
  generalize decide (0 < n) = bb at *
  generalize longL l c = lg at *
  generalize twI l = tw at *
  generalize roundL l = rl at *
  clear hs hw
  by_cases hfew : n ≤ 10000
  · have HFEW : Hid (decide (n ≤ 10000) = true) := hidP (decide_eq_true hfew)
    go_enter Try.func6, Try.ntmps6
    go_wp2_with fail
    refine absC (fun x1 hx1 => ?_)
    have hx : Ext w x1 := by rw [hx1]; exact ((Ext.refl _).alloc _)
    have bp : Bl x1 (w.heap.size) #[.slice a n cap, .bool c] := by rw [hx1]; exact (Bl.new (by simp))
    have HE := hx
    clear hx
    clear hx1
    refine (HB1.out _ (H.out.ext HE)).mono ?_
    rintro e u1 ⟨rfl, hx⟩
    replace bp := Bl.ext hx bp (Nat.succ_pos _)
    replace HE := HE.trans hx
    clear hx
    go_upto_region 2 with fail
    have lp2 := bp.lt (Nat.succ_pos _)
    refine absW (fun x2 hx2 => ?_)
    have hx : Ext u1 x2 := by rw [hx2]; exact (((Ext.refl _).alloc _).alloc _)
    have bq : Bl x2 (u1.heap.size) #[.int .i64 b1, .int .i64 b2] := by rw [hx2]; exact ((Bl.new (by simp)).alloc (by simp))
    have br : Bl x2 (u1.heap.size + 1) #[.int .i64 b3, .int .i64 b4] := by rw [hx2]; exact (Bl.new (by simp))
    replace bp := Bl.ext hx bp (Nat.succ_pos _)
    replace HE := HE.trans hx
    clear hx
    clear hx2
    go_wp2_with fail
    refine (HB2.out _ (H.out.ext HE)).mono ?_
    rintro e u2 ⟨rfl, hx⟩
    replace bp := Bl.ext hx bp (Nat.succ_pos _)
    replace bq := Bl.ext hx bq (Nat.succ_pos _)
    replace br := Bl.ext hx br (Nat.succ_pos _)
    replace HE := HE.trans hx
    clear hx
    go_upto_region 3 with fail
    have lp3 := bp.lt (Nat.succ_pos _)
    have lq3 := bq.lt (Nat.succ_pos _)
    have lr3 := br.lt (Nat.succ_pos _)
    refine absW (fun x3 hx3 => ?_)
    have hx : Ext u2 x3 := by rw [hx3]; exact (((Ext.refl _).alloc _).alloc _)
    have bs : Bl x3 (u2.heap.size) #[.int .i64 b1, .int .i64 b2] := by rw [hx3]; exact ((Bl.new (by simp)).alloc (by simp))
    have bt : Bl x3 (u2.heap.size + 1) #[.int .i64 b3, .int .i64 b4] := by rw [hx3]; exact (Bl.new (by simp))
    replace bp := Bl.ext hx bp (Nat.succ_pos _)
    replace bq := Bl.ext hx bq (Nat.succ_pos _)
    replace br := Bl.ext hx br (Nat.succ_pos _)
    replace HE := HE.trans hx
    clear hx
    clear hx3
    go_wp2_with fail
    refine (ga_few a n cap _).mono ?_
    rw [HFEW.out]
    rintro e u3 ⟨rfl, hx⟩
    replace bp := Bl.ext hx bp (Nat.succ_pos _)
    replace bq := Bl.ext hx bq (Nat.succ_pos _)
    replace br := Bl.ext hx br (Nat.succ_pos _)
    replace bs := Bl.ext hx bs (Nat.succ_pos _)
    replace bt := Bl.ext hx bt (Nat.succ_pos _)
    replace HE := HE.trans hx
    clear hx
    go_wp2_with fail
    refine wp_region_plan (R := Ext) (.q 0 (.q 2 (.l 1 (.l 3 (.q 4 (.q 5 (.q 6 (.q 7 (.q 8 (.q 9 (.q 10 (.q 11 (.q 12 (.q 13 (.q 14 (.q 15 (.q 16 (.q 17 (.q 18 (.q 19 (.q 20 (.q 21 (.q 22 (.q 24 (.q 25 (.l 23 (.l 26 (.q 27 (.q 28 (.q 29 (.q 30 (.q 31 (.q 33 (.q 34 (.l 32 (.l 35 (.l 36 (.q 37 (.q 38 (.l 39 (.q 40 (.q 41 .done)))))))))))))))))))))))))))))))))))))))))) (by kernel_rfl) (by kernel_rfl) (by kernel_rfl) (by kernel_rfl) Ext.refl (fun _ _ _ => Ext.trans) ?_
    refine absE (fun x4 hx4 => ?_)
    have hx : Ext u3 x4 := by rw [hx4]; exact (Ext.refl _).drew
    replace bp := Bl.ext hx bp (Nat.succ_pos _)
    replace bq := Bl.ext hx bq (Nat.succ_pos _)
    replace br := Bl.ext hx br (Nat.succ_pos _)
    replace bs := Bl.ext hx bs (Nat.succ_pos _)
    replace bt := Bl.ext hx bt (Nat.succ_pos _)
    replace HE := HE.trans hx
    clear hx
    clear hx4
    repeat (refine wpE_q (v := ?_) rfl rfl (fun u hu => ?_) ?_; rotate_left 1; (focus (have kp := Bl.ext hu bp (Nat.succ_pos _); have kq := Bl.ext hu bq (Nat.succ_pos _); have kr := Bl.ext hu br (Nat.succ_pos _); have ks := Bl.ext hu bs (Nat.succ_pos _); have kt := Bl.ext hu bt (Nat.succ_pos _); go_simp; (try rfl))); simp only [Act.put, List.setIfInBounds_toArray, List.set_cons_zero, List.set_cons_succ])
    refine wpE_l rfl rfl (fun K hK => ?_)
    go_simp
    refine (A1.out _ (H.out.ext HE) hfew).mono ?_
    rintro e u4 ⟨rfl, hx⟩
    refine hK.out _ _ hx ?_
    clear hK K
    try simp only [Act.put, List.setIfInBounds_toArray, List.set_cons_zero, List.set_cons_succ]
    replace bp := Bl.ext hx bp (Nat.succ_pos _)
    replace bq := Bl.ext hx bq (Nat.succ_pos _)
    replace br := Bl.ext hx br (Nat.succ_pos _)
    replace bs := Bl.ext hx bs (Nat.succ_pos _)
    replace bt := Bl.ext hx bt (Nat.succ_pos _)
    replace HE := HE.trans hx
    clear hx
    refine wpE_l rfl rfl (fun K hK => ?_)
    go_simp
    refine (A2.out _ (H.out.ext HE) hfew).mono ?_
    rintro e u5 ⟨rfl, hx⟩
    refine hK.out _ _ hx ?_
    clear hK K
    try simp only [Act.put, List.setIfInBounds_toArray, List.set_cons_zero, List.set_cons_succ]
    replace bp := Bl.ext hx bp (Nat.succ_pos _)
    replace bq := Bl.ext hx bq (Nat.succ_pos _)
    replace br := Bl.ext hx br (Nat.succ_pos _)
    replace bs := Bl.ext hx bs (Nat.succ_pos _)
    replace bt := Bl.ext hx bt (Nat.succ_pos _)
    replace HE := HE.trans hx
    clear hx
    repeat (refine wpE_q (v := ?_) rfl rfl (fun u hu => ?_) ?_; rotate_left 1; (focus (have kp := Bl.ext hu bp (Nat.succ_pos _); have kq := Bl.ext hu bq (Nat.succ_pos _); have kr := Bl.ext hu br (Nat.succ_pos _); have ks := Bl.ext hu bs (Nat.succ_pos _); have kt := Bl.ext hu bt (Nat.succ_pos _); go_simp; (try rfl))); simp only [Act.put, List.setIfInBounds_toArray, List.set_cons_zero, List.set_cons_succ])
    refine wpE_l rfl rfl (fun K hK => ?_)
    go_simp
    refine (A3.out _ (H.out.ext HE) hfew).mono ?_
    rintro e u6 ⟨rfl, hx⟩
    refine hK.out _ _ hx ?_
    clear hK K
    try simp only [Act.put, List.setIfInBounds_toArray, List.set_cons_zero, List.set_cons_succ]
    replace bp := Bl.ext hx bp (Nat.succ_pos _)
    replace bq := Bl.ext hx bq (Nat.succ_pos _)
    replace br := Bl.ext hx br (Nat.succ_pos _)
    replace bs := Bl.ext hx bs (Nat.succ_pos _)
    replace bt := Bl.ext hx bt (Nat.succ_pos _)
    replace HE := HE.trans hx
    clear hx
    refine wpE_l rfl rfl (fun K hK => ?_)
    go_simp
    refine (A4.out _ (H.out.ext HE) hfew).mono ?_
    rintro e u7 ⟨rfl, hx⟩
    refine hK.out _ _ hx ?_
    clear hK K
    try simp only [Act.put, List.setIfInBounds_toArray, List.set_cons_zero, List.set_cons_succ]
    replace bp := Bl.ext hx bp (Nat.succ_pos _)
    replace bq := Bl.ext hx bq (Nat.succ_pos _)
    replace br := Bl.ext hx br (Nat.succ_pos _)
    replace bs := Bl.ext hx bs (Nat.succ_pos _)
    replace bt := Bl.ext hx bt (Nat.succ_pos _)
    replace HE := HE.trans hx
    clear hx
    repeat (refine wpE_q (v := ?_) rfl rfl (fun u hu => ?_) ?_; rotate_left 1; (focus (have kp := Bl.ext hu bp (Nat.succ_pos _); have kq := Bl.ext hu bq (Nat.succ_pos _); have kr := Bl.ext hu br (Nat.succ_pos _); have ks := Bl.ext hu bs (Nat.succ_pos _); have kt := Bl.ext hu bt (Nat.succ_pos _); go_simp; (try rfl))); simp only [Act.put, List.setIfInBounds_toArray, List.set_cons_zero, List.set_cons_succ])
    refine wpE_l rfl rfl (fun K hK => ?_)
    go_simp
    refine (A5.out _ (H.out.ext HE) hfew).mono ?_
    rintro e u8 ⟨a8, n8, c8, rfl, hs8, hx⟩
    refine hK.out _ _ hx ?_
    clear hK K
    try simp only [Act.put, List.setIfInBounds_toArray, List.set_cons_zero, List.set_cons_succ]
    replace bp := Bl.ext hx bp (Nat.succ_pos _)
    replace bq := Bl.ext hx bq (Nat.succ_pos _)
    replace br := Bl.ext hx br (Nat.succ_pos _)
    replace bs := Bl.ext hx bs (Nat.succ_pos _)
    replace bt := Bl.ext hx bt (Nat.succ_pos _)
    replace HE := HE.trans hx
    clear hx
    refine wpE_l rfl rfl (fun K hK => ?_)
    go_simp
    refine (A6.out _ (H.out.ext HE) hfew).mono ?_
    rintro e u9 ⟨a9, n9, c9, rfl, hs9, hx⟩
    refine hK.out _ _ hx ?_
    clear hK K
    try simp only [Act.put, List.setIfInBounds_toArray, List.set_cons_zero, List.set_cons_succ]
    replace bp := Bl.ext hx bp (Nat.succ_pos _)
    replace bq := Bl.ext hx bq (Nat.succ_pos _)
    replace br := Bl.ext hx br (Nat.succ_pos _)
    replace bs := Bl.ext hx bs (Nat.succ_pos _)
    replace bt := Bl.ext hx bt (Nat.succ_pos _)
    replace hs8 := hs8.ext hx
    replace HE := HE.trans hx
    clear hx
    refine wpE_l rfl rfl (fun K hK => ?_)
    go_simp
    refine (d_SameP a8 a9 n8 c8 n9 c9 rl _ hs8 hs9).mono ?_
    rintro e u10 ⟨rfl, hx⟩
    refine hK.out _ _ hx ?_
    clear hK K
    try simp only [Act.put, List.setIfInBounds_toArray, List.set_cons_zero, List.set_cons_succ]
    replace bp := Bl.ext hx bp (Nat.succ_pos _)
    replace bq := Bl.ext hx bq (Nat.succ_pos _)
    replace br := Bl.ext hx br (Nat.succ_pos _)
    replace bs := Bl.ext hx bs (Nat.succ_pos _)
    replace bt := Bl.ext hx bt (Nat.succ_pos _)
    replace hs8 := hs8.ext hx
    replace hs9 := hs9.ext hx
    replace HE := HE.trans hx
    clear hx
    repeat (refine wpE_q (v := ?_) rfl rfl (fun u hu => ?_) ?_; rotate_left 1; (focus (have kp := Bl.ext hu bp (Nat.succ_pos _); have kq := Bl.ext hu bq (Nat.succ_pos _); have kr := Bl.ext hu br (Nat.succ_pos _); have ks := Bl.ext hu bs (Nat.succ_pos _); have kt := Bl.ext hu bt (Nat.succ_pos _); go_simp; (try rfl))); simp only [Act.put, List.setIfInBounds_toArray, List.set_cons_zero, List.set_cons_succ])
    refine wpE_l rfl rfl (fun K hK => ?_)
    go_simp
    refine (ga_lives _).mono ?_
    rintro e u11 ⟨rfl, hx⟩
    refine hK.out _ _ hx ?_
    clear hK K
    try simp only [Act.put, List.setIfInBounds_toArray, List.set_cons_zero, List.set_cons_succ]
    replace bp := Bl.ext hx bp (Nat.succ_pos _)
    replace bq := Bl.ext hx bq (Nat.succ_pos _)
    replace br := Bl.ext hx br (Nat.succ_pos _)
    replace bs := Bl.ext hx bs (Nat.succ_pos _)
    replace bt := Bl.ext hx bt (Nat.succ_pos _)
    replace hs8 := hs8.ext hx
    replace hs9 := hs9.ext hx
    replace HE := HE.trans hx
    clear hx
    repeat (refine wpE_q (v := ?_) rfl rfl (fun u hu => ?_) ?_; rotate_left 1; (focus (have kp := Bl.ext hu bp (Nat.succ_pos _); have kq := Bl.ext hu bq (Nat.succ_pos _); have kr := Bl.ext hu br (Nat.succ_pos _); have ks := Bl.ext hu bs (Nat.succ_pos _); have kt := Bl.ext hu bt (Nat.succ_pos _); go_simp; (try rfl))); simp only [Act.put, List.setIfInBounds_toArray, List.set_cons_zero, List.set_cons_succ])
    refine wpE_done ?_
    go_wp2_with fail
    go_ret
    exact ⟨rfl, HE⟩
  · have HFEW : Hid (decide (n ≤ 10000) = false) := hidP (decide_eq_false hfew)
    clear hfew
    go_enter Try.func6, Try.ntmps6
    go_wp2_with fail
    refine absC (fun x1 hx1 => ?_)
    have hx : Ext w x1 := by rw [hx1]; exact ((Ext.refl _).alloc _)
    have bp : Bl x1 (w.heap.size) #[.slice a n cap, .bool c] := by rw [hx1]; exact (Bl.new (by simp))
    have HE := hx
    clear hx
    clear hx1
    refine (HB1.out _ (H.out.ext HE)).mono ?_
    rintro e u1 ⟨rfl, hx⟩
    replace bp := Bl.ext hx bp (Nat.succ_pos _)
    replace HE := HE.trans hx
    clear hx
    go_upto_region 2 with fail
    have lp2 := bp.lt (Nat.succ_pos _)
    refine absW (fun x2 hx2 => ?_)
    have hx : Ext u1 x2 := by rw [hx2]; exact (((Ext.refl _).alloc _).alloc _)
    have bq : Bl x2 (u1.heap.size) #[.int .i64 b1, .int .i64 b2] := by rw [hx2]; exact ((Bl.new (by simp)).alloc (by simp))
    have br : Bl x2 (u1.heap.size + 1) #[.int .i64 b3, .int .i64 b4] := by rw [hx2]; exact (Bl.new (by simp))
    replace bp := Bl.ext hx bp (Nat.succ_pos _)
    replace HE := HE.trans hx
    clear hx
    clear hx2
    go_wp2_with fail
    refine (HB2.out _ (H.out.ext HE)).mono ?_
    rintro e u2 ⟨rfl, hx⟩
    replace bp := Bl.ext hx bp (Nat.succ_pos _)
    replace bq := Bl.ext hx bq (Nat.succ_pos _)
    replace br := Bl.ext hx br (Nat.succ_pos _)
    replace HE := HE.trans hx
    clear hx
    go_upto_region 3 with fail
    have lp3 := bp.lt (Nat.succ_pos _)
    have lq3 := bq.lt (Nat.succ_pos _)
    have lr3 := br.lt (Nat.succ_pos _)
    refine absW (fun x3 hx3 => ?_)
    have hx : Ext u2 x3 := by rw [hx3]; exact (((Ext.refl _).alloc _).alloc _)
    have bs : Bl x3 (u2.heap.size) #[.int .i64 b1, .int .i64 b2] := by rw [hx3]; exact ((Bl.new (by simp)).alloc (by simp))
    have bt : Bl x3 (u2.heap.size + 1) #[.int .i64 b3, .int .i64 b4] := by rw [hx3]; exact (Bl.new (by simp))
    replace bp := Bl.ext hx bp (Nat.succ_pos _)
    replace bq := Bl.ext hx bq (Nat.succ_pos _)
    replace br := Bl.ext hx br (Nat.succ_pos _)
    replace HE := HE.trans hx
    clear hx
    clear hx3
    go_wp2_with fail
    refine (ga_few a n cap _).mono ?_
    rw [HFEW.out]
    rintro e u3 ⟨rfl, hx⟩
    replace bp := Bl.ext hx bp (Nat.succ_pos _)
    replace bq := Bl.ext hx bq (Nat.succ_pos _)
    replace br := Bl.ext hx br (Nat.succ_pos _)
    replace bs := Bl.ext hx bs (Nat.succ_pos _)
    replace bt := Bl.ext hx bt (Nat.succ_pos _)
    replace HE := HE.trans hx
    clear hx
    go_wp2_with fail
    refine (ga_lives _).mono ?_
    rintro e u11 ⟨rfl, hx⟩
    replace bp := Bl.ext hx bp (Nat.succ_pos _)
    replace bq := Bl.ext hx bq (Nat.succ_pos _)
    replace br := Bl.ext hx br (Nat.succ_pos _)
    replace bs := Bl.ext hx bs (Nat.succ_pos _)
    replace bt := Bl.ext hx bt (Nat.succ_pos _)
    replace HE := HE.trans hx
    clear hx
    go_wp2_with fail
    go_ret
    exact ⟨rfl, HE⟩

end Go.Proofs.Ytogcmnagiepofaa
