/- The law of how fractions stand: its walk. -/
import Derived.Test.YtcipcpbjkcpgdaaQ26
import Derived.Test.YtcipcpbjkcpgdaaQ19
namespace Go.Proofs.Ytcipcpbjkcpgdaa
set_option linter.unusedVariables false
open Go Go.RowKit

theorem intR_pair (z : Int) : ∃ (x : Int) (t : Bool), intR z = .tuple #[.int .i64 x, .bool t] := by
  unfold intR
  split
  · exact ⟨_, _, rfl⟩
  · exact ⟨_, _, rfl⟩
theorem whole_yes {q : Rat} (h : q = ((q.floor : Int) : Rat)) : wholeR q = intR q.floor := by
  have hd : q.den = 1 := by rw [h]; rfl
  have hn : q.num = q.floor := by rw [Rat.floor_def, hd]; simp
  unfold wholeR
  rw [if_pos hd, hn]
theorem whole_no {q : Rat} (h : ¬ q = ((q.floor : Int) : Rat)) : wholeR q = .tuple #[.int .i64 0, .bool false] := by
  unfold wholeR
  rw [if_neg]
  intro hd
  refine h (Rat.ext ?_ hd)
  show q.num = q.floor
  rw [Rat.floor_def, hd]; simp
theorem ql_half : ql (mkRat 1 2) ≤ 1 := by
  refine ql_mk ?_ ?_ (by omega)
  · exact dl_small (by decide)
  · exact dl_small (by decide)

set_option maxRecDepth 100000 in
set_option maxHeartbeats 8000000 in
theorem fracStands_any (b : Bool) (a : Option Addr) (n c : Nat) (l : List Nat) (d : Option Addr) (m k : Nat) (e : List Nat) (b' : Bool) (a' : Option Addr) (n' c' : Nat) (l' : List Nat) (d' : Option Addr) (m' k' : Nat) (e' : List Nat) (w : World)
    (hs : Sl w a n c (ints .u32 l)) (hl : Ws l) (hn : n ≤ 1048576) (ht : Sl w d m k (ints .u32 e)) (he : Ws e) (hm : m ≤ 1048576) (hs' : Sl w a' n' c' (ints .u32 l')) (hl' : Ws l') (hn' : n' ≤ 1048576) (ht' : Sl w d' m' k' (ints .u32 e')) (he' : Ws e') (hm' : m' ≤ 1048576) :
    Calls Try.prog 19 #[.agg #[.bool b, .slice a n c, .slice d m k], .agg #[.bool b', .slice a' n' c', .slice d' m' k']] w fun e w' => e = .returned (.bool true) ∧ Ext w w' := by
  have h := fq_lift (b := b) hs hl hn ht he hm
  have h' := fq_lift (b := b') hs' hl' hn' ht' he' hm'
  generalize mkRat (wz b (val B32 l)) (val B32 e) = q at *
  generalize mkRat (wz b' (val B32 l')) (val B32 e') = q' at *
  have q1 := h.ql (by omega)
  have q2 := h'.ql (by omega)
  have q3 := ql_half
  have x1 : ql (q + mkRat 1 2) ≤ 1048578 := by have := ql_add q1 q3; omega
  have L0 := hidP q1; have L1 := hidP q3; have L2 := hidP x1
  have f1 := ql_floor q1
  have f2 := ql_floor x1
  have L3 : Hid (dl q.floor.natAbs ≤ 137438953472) := hidP (by omega)
  have L4 : Hid (dl (q + mkRat 1 2).floor.natAbs ≤ 1099511627776) := hidP (by omega)
  have hyes := @whole_yes q
  have hno := @whole_no q
  obtain ⟨im, is, him⟩ := intR_pair q.floor
  rw [him] at hyes
  have A1 := hidP (fun (u : World) (t1 : Fq u b a n c d m k q 1048576) => fq_Whole t1 (by omega))
  have A2 := hidP (fun (u : World) (t1 : Fq u b a n c d m k q 1048576) => gq_Floor t1 (by omega))
  have A3 := hidP (fun (u : World) (t1 : Fq u b a n c d m k q 1048576) => gq_Reduce t1)
  have A4 := hidP (fun (u : World) (t1 : Fq u b a n c d m k q 1048576) (t2 : Fq u b' a' n' c' d' m' k' q' 1048576) => fq_Cmp t1 t2 (by omega) (by omega))
  have A5 := hidP (fun (u : World) (t1 : Fq u b a n c d m k q 1048576) (t2 : Fq u b' a' n' c' d' m' k' q' 1048576) => gq_Cmp t1 t2 (by omega) (by omega))
  have A6 := hidP (fun (u : World) (t1 : Fq u b a n c d m k q 1048576) => fq_Sign t1 (by omega))
  have A7 := hidP (fun (u : World) (t1 : Fq u b a n c d m k q 1048576) => gq_Sign t1 (by omega))
  have A8 := hidP (fun (u : World) (t1 : Fq u b a n c d m k q 1048576) => fq_Floor t1 (by omega))
  have A9 := hidP (fun (u : World) (t1 : Fq u b a n c d m k q 1048576) => fq_Round t1 (by omega))
  have A10 := hidP (fun (u : World) => gq_Half u)
  have A11 := hidP (fun (u : World) (t1 : Fq u b a n c d m k q 1048576) (b2 : Bool) (a2 d2 : Option Addr) (n2 c2 m2 k2 : Nat) (t2 : Fq u b2 a2 n2 c2 d2 m2 k2 (mkRat 1 2) 1) => gq_Add t1 t2 (by omega) (by omega))
  have A12 := hidP (fun (u : World) (b2 : Bool) (a2 d2 : Option Addr) (n2 c2 m2 k2 : Nat) (t2 : Fq u b2 a2 n2 c2 d2 m2 k2 (q + mkRat 1 2) 1048578) => gq_Floor t2 (by omega))
  have A13 := hidP (fun (u : World) (a1 d1 a2 d2 : Option Addr) (n1 c1 m1 k1 n2 c2 m2 k2 : Nat) (t1 : Nc u a1 n1 c1 q.num.natAbs) (t2 : Nc u d1 m1 k1 q.den) (t3 : Nc u a2 n2 c2 q.floor.natAbs) (t4 : Nc u d2 m2 k2 1) => gq_Same (q' := ((q.floor : Int) : Rat)) t1 t2 t3 t4 (by omega))
  have A13b : Hid (∀ (u : World) (a1 d1 a2 d2 : Option Addr) (n1 c1 m1 k1 n2 c2 m2 k2 : Nat) (t1 : Nc u a1 n1 c1 q.num.natAbs) (t2 : Nc u d1 m1 k1 q.den) (t3 : Nc u a2 n2 c2 q.floor.natAbs) (t4 : Nc u d2 m2 k2 1), Calls Try.prog 90 #[.agg #[.bool (decide (q.num < 0)), .slice a1 n1 c1, .slice d1 m1 k1], .agg #[.bool (decide (q.floor < 0)), .slice a2 n2 c2, .slice d2 m2 k2]] u fun e w' => e = .returned (.bool (decide (q = ((q.floor : Int) : Rat)))) ∧ Ext u w') := A13
  clear A13
  have hdc : decide (q = ((q.floor : Int) : Rat)) = true ↔ q = ((q.floor : Int) : Rat) := decide_eq_true_iff
  generalize cmpQ q q' = cc at *
  generalize sgn q.num = ss at *
  generalize wholeR q = wr at *
  generalize (q + mkRat 1 2).floor = ff at *
  generalize q + mkRat 1 2 = r1 at *
  generalize mkRat 1 2 = hf at *
  generalize hsq : decide (q = ((q.floor : Int) : Rat)) = sq at *
  have HY : Hid (sq = true → wr = .tuple #[.int .i64 im, .bool is]) := hidP (fun h => hyes (hdc.1 h))
  have HNO : Hid (sq = false → wr = .tuple #[.int .i64 0, .bool false]) := hidP (fun h => hno (fun h2 => by have := hdc.2 h2; rw [h] at this; cases this))
  generalize q.floor = fl at *
  have HIM := hidP him
  have H := hidP h; have H' := hidP h'
  clear h h' hs ht hs' ht' hl he hl' he' q1 q2 q3 x1 f1 f2 hyes hno hdc hsq him
  cases hsq : sq
  · have HW := hidP (HNO.out hsq)
    have HSQ := hidP hsq
    clear hsq
    go_enter Try.func19, Try.ntmps19
    go_wp2_with fail
    refine absC (fun x1 hx1 => ?_)
    have hx : Ext w x1 := by rw [hx1]; exact (((Ext.refl _).alloc _).alloc _)
    have bp : Bl x1 (w.heap.size) #[.bool b, .slice a n c, .slice d m k] := by rw [hx1]; exact ((Bl.new (by simp)).alloc (by simp))
    have bq : Bl x1 (w.heap.size + 1) #[.bool b', .slice a' n' c', .slice d' m' k'] := by rw [hx1]; exact (Bl.new (by simp))
    have HE := hx
    clear hx
    clear hx1
    refine (A1.out _ (H.out.ext HE)).mono ?_
    rw [HW.out]
    rintro e u1 ⟨rfl, hx⟩
    replace bp := Bl.ext hx bp (Nat.succ_pos _)
    replace bq := Bl.ext hx bq (Nat.succ_pos _)
    replace HE := HE.trans hx
    clear hx
    go_wp2_with fail
    refine (A2.out _ (H.out.ext HE)).mono ?_
    rintro e u2 ⟨a2, n2, c2, rfl, hs2, hx⟩
    replace bp := Bl.ext hx bp (Nat.succ_pos _)
    replace bq := Bl.ext hx bq (Nat.succ_pos _)
    replace HE := HE.trans hx
    clear hx
    replace hs2 : Nc u2 a2 n2 c2 (fl).natAbs := hs2
    go_upto_region 3 with fail
    have lpr := bp.lt (Nat.succ_pos _)
    have lqr := bq.lt (Nat.succ_pos _)
    refine absW (fun x2 hx2 => ?_)
    have hx : Ext u2 x2 := by rw [hx2]; exact ((Ext.refl _).alloc _)
    have br : Bl x2 (u2.heap.size) #[.bool (decide (fl < 0)), .slice a2 n2 c2] := by rw [hx2]; exact (Bl.new (by simp))
    replace bp := Bl.ext hx bp (Nat.succ_pos _)
    replace bq := Bl.ext hx bq (Nat.succ_pos _)
    replace hs2 := hs2.ext hx
    replace HE := HE.trans hx
    clear hx
    clear hx2
    go_wp2_with fail
    refine (r02_Int_any _ a2 n2 c2 fl _ (hs2.wh (by have := L3.out; omega)) (by have := hs2.len; have := L3.out; omega)).mono ?_
    rw [HIM.out]
    rintro e u3 ⟨rfl, hx⟩
    replace bp := Bl.ext hx bp (Nat.succ_pos _)
    replace bq := Bl.ext hx bq (Nat.succ_pos _)
    replace br := Bl.ext hx br (Nat.succ_pos _)
    replace hs2 := hs2.ext hx
    replace HE := HE.trans hx
    clear hx
    go_upto_region 4 with fail
    go_cut [28] (fun vb wx => vb = .bool true ∧ Ext u3 wx)
    case first =>
      have HE0 := hidP HE
      clear HE
      have HE := Ext.refl u3
      refine wp_region_plan (R := Ext) (.q 0 (.q 2 (.br 1 (.l 3 (.q 4 (.l 5 (.q 6 .done)))) (.l 3 (.q 4 (.l 1 (.l 5 (.q 6 .done)))))))) (by kernel_rfl) (by kernel_rfl) (by kernel_rfl) (by kernel_rfl) Ext.refl (fun _ _ _ => Ext.trans) ?_
      refine absE (fun x3 hx3 => ?_)
      have hx : Ext u3 x3 := by rw [hx3]; exact (Ext.refl _).drew
      replace bp := Bl.ext hx bp (Nat.succ_pos _)
      replace bq := Bl.ext hx bq (Nat.succ_pos _)
      replace br := Bl.ext hx br (Nat.succ_pos _)
      replace hs2 := hs2.ext hx
      replace HE := HE.trans hx
      clear hx
      clear hx3
      repeat (refine wpE_q (v := ?_) rfl rfl (fun u hu => ?_) ?_; rotate_left 1; (focus (have kp := Bl.ext hu bp (Nat.succ_pos _); have kq := Bl.ext hu bq (Nat.succ_pos _); have kr := Bl.ext hu br (Nat.succ_pos _); go_simp; (try rfl))); simp only [Act.put, List.setIfInBounds_toArray, List.set_cons_zero, List.set_cons_succ])
      refine wpE_br rfl rfl (fun K hK => ?_) ?_
      · go_simp
        refine (A3.out _ ((H.out.ext HE0.out).ext HE)).mono ?_
        rintro e u4 ⟨a4, n4, c4, d4, m4, k4, rfl, hs4, ht4, hx⟩
        refine hK.out _ _ hx ?_
        clear hK K
        try simp only [Act.put, List.setIfInBounds_toArray, List.set_cons_zero, List.set_cons_succ]
        replace bp := Bl.ext hx bp (Nat.succ_pos _)
        replace bq := Bl.ext hx bq (Nat.succ_pos _)
        replace br := Bl.ext hx br (Nat.succ_pos _)
        replace hs2 := hs2.ext hx
        replace HE := HE.trans hx
        clear hx
        replace hs4 : Nc u4 a4 n4 c4 (q.num).natAbs := hs4
        replace ht4 : Nc u4 d4 m4 k4 (q.den) := ht4
        refine wpE_l rfl rfl (fun K hK => ?_)
        go_simp
        refine hK.out _ _ ((Ext.refl _).alloc _) ?_
        clear hK K
        try simp only [Act.put, List.setIfInBounds_toArray, List.set_cons_zero, List.set_cons_succ]
        refine absE (fun x4 hx4 => ?_)
        have hx : Ext u4 x4 := by rw [hx4]; exact ((Ext.refl _).alloc _)
        replace bp := Bl.ext hx bp (Nat.succ_pos _)
        replace bq := Bl.ext hx bq (Nat.succ_pos _)
        replace br := Bl.ext hx br (Nat.succ_pos _)
        replace hs2 := hs2.ext hx
        replace hs4 := hs4.ext hx
        replace ht4 := ht4.ext hx
        replace HE := HE.trans hx
        clear hx
        have hlt : Nc x4 (some ⟨u4.heap.size, 0, none⟩) 1 1 1 := by rw [hx4]; exact nc_litAt rfl 1 (by omega) (by omega) _
        clear hx4
        repeat (refine wpE_q (v := ?_) rfl rfl (fun u hu => ?_) ?_; rotate_left 1; (focus (have kp := Bl.ext hu bp (Nat.succ_pos _); have kq := Bl.ext hu bq (Nat.succ_pos _); have kr := Bl.ext hu br (Nat.succ_pos _); go_simp; (try rfl))); simp only [Act.put, List.setIfInBounds_toArray, List.set_cons_zero, List.set_cons_succ])
        refine wpE_l rfl rfl (fun K hK => ?_)
        go_simp
        refine (A13b.out _ _ _ _ _ _ _ _ _ _ _ _ _ hs4 ht4 hs2 hlt).mono ?_
        rw [HSQ.out]
        rintro e u5 ⟨rfl, hx⟩
        refine hK.out _ _ hx ?_
        clear hK K
        try simp only [Act.put, List.setIfInBounds_toArray, List.set_cons_zero, List.set_cons_succ]
        replace bp := Bl.ext hx bp (Nat.succ_pos _)
        replace bq := Bl.ext hx bq (Nat.succ_pos _)
        replace br := Bl.ext hx br (Nat.succ_pos _)
        replace hs2 := hs2.ext hx
        replace hs4 := hs4.ext hx
        replace ht4 := ht4.ext hx
        replace hlt := hlt.ext hx
        replace HE := HE.trans hx
        clear hx
        repeat (refine wpE_q (v := ?_) rfl rfl (fun u hu => ?_) ?_; rotate_left 1; (focus (have kp := Bl.ext hu bp (Nat.succ_pos _); have kq := Bl.ext hu bq (Nat.succ_pos _); have kr := Bl.ext hu br (Nat.succ_pos _); go_simp; (try rfl))); simp only [Act.put, List.setIfInBounds_toArray, List.set_cons_zero, List.set_cons_succ])
        refine wpE_done ?_
        go_wp2_with fail
        go_meet
        exact ⟨rfl, HE⟩
      · refine wpE_l rfl rfl (fun K hK => ?_)
        go_simp
        refine hK.out _ _ ((Ext.refl _).alloc _) ?_
        clear hK K
        try simp only [Act.put, List.setIfInBounds_toArray, List.set_cons_zero, List.set_cons_succ]
        refine absE (fun x4 hx4 => ?_)
        have hx : Ext x3 x4 := by rw [hx4]; exact ((Ext.refl _).alloc _)
        replace bp := Bl.ext hx bp (Nat.succ_pos _)
        replace bq := Bl.ext hx bq (Nat.succ_pos _)
        replace br := Bl.ext hx br (Nat.succ_pos _)
        replace hs2 := hs2.ext hx
        replace HE := HE.trans hx
        clear hx
        have hlt : Nc x4 (some ⟨x3.heap.size, 0, none⟩) 1 1 1 := by rw [hx4]; exact nc_litAt rfl 1 (by omega) (by omega) _
        clear hx4
        repeat (refine wpE_q (v := ?_) rfl rfl (fun u hu => ?_) ?_; rotate_left 1; (focus (have kp := Bl.ext hu bp (Nat.succ_pos _); have kq := Bl.ext hu bq (Nat.succ_pos _); have kr := Bl.ext hu br (Nat.succ_pos _); go_simp; (try rfl))); simp only [Act.put, List.setIfInBounds_toArray, List.set_cons_zero, List.set_cons_succ])
        refine wpE_l rfl rfl (fun K hK => ?_)
        go_simp
        refine (A3.out _ ((H.out.ext HE0.out).ext HE)).mono ?_
        rintro e u4 ⟨a4, n4, c4, d4, m4, k4, rfl, hs4, ht4, hx⟩
        refine hK.out _ _ hx ?_
        clear hK K
        try simp only [Act.put, List.setIfInBounds_toArray, List.set_cons_zero, List.set_cons_succ]
        replace bp := Bl.ext hx bp (Nat.succ_pos _)
        replace bq := Bl.ext hx bq (Nat.succ_pos _)
        replace br := Bl.ext hx br (Nat.succ_pos _)
        replace hs2 := hs2.ext hx
        replace hlt := hlt.ext hx
        replace HE := HE.trans hx
        clear hx
        replace hs4 : Nc u4 a4 n4 c4 (q.num).natAbs := hs4
        replace ht4 : Nc u4 d4 m4 k4 (q.den) := ht4
        refine wpE_l rfl rfl (fun K hK => ?_)
        go_simp
        refine (A13b.out _ _ _ _ _ _ _ _ _ _ _ _ _ hs4 ht4 hs2 hlt).mono ?_
        rw [HSQ.out]
        rintro e u5 ⟨rfl, hx⟩
        refine hK.out _ _ hx ?_
        clear hK K
        try simp only [Act.put, List.setIfInBounds_toArray, List.set_cons_zero, List.set_cons_succ]
        replace bp := Bl.ext hx bp (Nat.succ_pos _)
        replace bq := Bl.ext hx bq (Nat.succ_pos _)
        replace br := Bl.ext hx br (Nat.succ_pos _)
        replace hs2 := hs2.ext hx
        replace hlt := hlt.ext hx
        replace hs4 := hs4.ext hx
        replace ht4 := ht4.ext hx
        replace HE := HE.trans hx
        clear hx
        repeat (refine wpE_q (v := ?_) rfl rfl (fun u hu => ?_) ?_; rotate_left 1; (focus (have kp := Bl.ext hu bp (Nat.succ_pos _); have kq := Bl.ext hu bq (Nat.succ_pos _); have kr := Bl.ext hu br (Nat.succ_pos _); go_simp; (try rfl))); simp only [Act.put, List.setIfInBounds_toArray, List.set_cons_zero, List.set_cons_succ])
        refine wpE_done ?_
        go_wp2_with fail
        go_meet
        exact ⟨rfl, HE⟩
    case rest =>
      obtain ⟨rfl, hx⟩ := hcut
      replace bp := Bl.ext hx bp (Nat.succ_pos _)
      replace bq := Bl.ext hx bq (Nat.succ_pos _)
      replace br := Bl.ext hx br (Nat.succ_pos _)
      replace hs2 := hs2.ext hx
      replace HE := HE.trans hx
      clear hx
      go_wp2_with fail
      refine wp_region_plan (R := Ext) (.q 0 (.q 1 (.q 3 (.q 4 (.l 2 (.l 5 (.q 6 (.q 7 (.q 8 (.q 10 (.l 9 (.l 11 (.q 12 (.q 13 (.q 14 (.q 15 (.q 17 (.l 16 (.l 18 (.q 19 (.q 20 (.q 21 (.q 23 (.l 22 (.l 24 (.l 25 (.l 26 (.l 27 (.q 28 (.q 29 (.q 30 (.q 31 (.q 32 (.q 33 (.q 34 (.q 35 (.q 36 (.q 37 (.q 38 (.q 39 (.l 40 (.q 41 (.q 42 .done))))))))))))))))))))))))))))))))))))))))))) (by kernel_rfl) (by kernel_rfl) (by kernel_rfl) (by kernel_rfl) Ext.refl (fun _ _ _ => Ext.trans) ?_
      refine absE (fun x3 hx3 => ?_)
      have hx : Ext wc x3 := by rw [hx3]; exact (Ext.refl _).drew
      replace bp := Bl.ext hx bp (Nat.succ_pos _)
      replace bq := Bl.ext hx bq (Nat.succ_pos _)
      replace br := Bl.ext hx br (Nat.succ_pos _)
      replace hs2 := hs2.ext hx
      replace HE := HE.trans hx
      clear hx
      clear hx3
      repeat (refine wpE_q (v := ?_) rfl rfl (fun u hu => ?_) ?_; rotate_left 1; (focus (have kp := Bl.ext hu bp (Nat.succ_pos _); have kq := Bl.ext hu bq (Nat.succ_pos _); have kr := Bl.ext hu br (Nat.succ_pos _); go_simp; (try rfl))); simp only [Act.put, List.setIfInBounds_toArray, List.set_cons_zero, List.set_cons_succ])
      refine wpE_l rfl rfl (fun K hK => ?_)
      go_simp
      refine (A4.out _ (H.out.ext HE) (H'.out.ext HE)).mono ?_
      rintro e u6 ⟨rfl, hx⟩
      refine hK.out _ _ hx ?_
      clear hK K
      try simp only [Act.put, List.setIfInBounds_toArray, List.set_cons_zero, List.set_cons_succ]
      replace bp := Bl.ext hx bp (Nat.succ_pos _)
      replace bq := Bl.ext hx bq (Nat.succ_pos _)
      replace br := Bl.ext hx br (Nat.succ_pos _)
      replace hs2 := hs2.ext hx
      replace HE := HE.trans hx
      clear hx
      refine wpE_l rfl rfl (fun K hK => ?_)
      go_simp
      refine (A5.out _ (H.out.ext HE) (H'.out.ext HE)).mono ?_
      rintro e u7 ⟨rfl, hx⟩
      refine hK.out _ _ hx ?_
      clear hK K
      try simp only [Act.put, List.setIfInBounds_toArray, List.set_cons_zero, List.set_cons_succ]
      replace bp := Bl.ext hx bp (Nat.succ_pos _)
      replace bq := Bl.ext hx bq (Nat.succ_pos _)
      replace br := Bl.ext hx br (Nat.succ_pos _)
      replace hs2 := hs2.ext hx
      replace HE := HE.trans hx
      clear hx
      repeat (refine wpE_q (v := ?_) rfl rfl (fun u hu => ?_) ?_; rotate_left 1; (focus (have kp := Bl.ext hu bp (Nat.succ_pos _); have kq := Bl.ext hu bq (Nat.succ_pos _); have kr := Bl.ext hu br (Nat.succ_pos _); go_simp; (try rfl))); simp only [Act.put, List.setIfInBounds_toArray, List.set_cons_zero, List.set_cons_succ])
      refine wpE_l rfl rfl (fun K hK => ?_)
      go_simp
      refine (A6.out _ (H.out.ext HE)).mono ?_
      rintro e u8 ⟨rfl, hx⟩
      refine hK.out _ _ hx ?_
      clear hK K
      try simp only [Act.put, List.setIfInBounds_toArray, List.set_cons_zero, List.set_cons_succ]
      replace bp := Bl.ext hx bp (Nat.succ_pos _)
      replace bq := Bl.ext hx bq (Nat.succ_pos _)
      replace br := Bl.ext hx br (Nat.succ_pos _)
      replace hs2 := hs2.ext hx
      replace HE := HE.trans hx
      clear hx
      refine wpE_l rfl rfl (fun K hK => ?_)
      go_simp
      refine (A7.out _ (H.out.ext HE)).mono ?_
      rintro e u9 ⟨rfl, hx⟩
      refine hK.out _ _ hx ?_
      clear hK K
      try simp only [Act.put, List.setIfInBounds_toArray, List.set_cons_zero, List.set_cons_succ]
      replace bp := Bl.ext hx bp (Nat.succ_pos _)
      replace bq := Bl.ext hx bq (Nat.succ_pos _)
      replace br := Bl.ext hx br (Nat.succ_pos _)
      replace hs2 := hs2.ext hx
      replace HE := HE.trans hx
      clear hx
      repeat (refine wpE_q (v := ?_) rfl rfl (fun u hu => ?_) ?_; rotate_left 1; (focus (have kp := Bl.ext hu bp (Nat.succ_pos _); have kq := Bl.ext hu bq (Nat.succ_pos _); have kr := Bl.ext hu br (Nat.succ_pos _); go_simp; (try rfl))); simp only [Act.put, List.setIfInBounds_toArray, List.set_cons_zero, List.set_cons_succ])
      refine wpE_l rfl rfl (fun K hK => ?_)
      go_simp
      refine (A8.out _ (H.out.ext HE)).mono ?_
      rintro e u10 ⟨a10, n10, c10, rfl, hs10, hx⟩
      refine hK.out _ _ hx ?_
      clear hK K
      try simp only [Act.put, List.setIfInBounds_toArray, List.set_cons_zero, List.set_cons_succ]
      replace bp := Bl.ext hx bp (Nat.succ_pos _)
      replace bq := Bl.ext hx bq (Nat.succ_pos _)
      replace br := Bl.ext hx br (Nat.succ_pos _)
      replace hs2 := hs2.ext hx
      replace HE := HE.trans hx
      clear hx
      replace hs10 : Nc u10 a10 n10 c10 (fl).natAbs := hs10
      refine wpE_l rfl rfl (fun K hK => ?_)
      go_simp
      refine (d_SameW hs10 hs2 (by have := L3.out; omega)).mono ?_
      rintro e u11 ⟨rfl, hx⟩
      refine hK.out _ _ hx ?_
      clear hK K
      try simp only [Act.put, List.setIfInBounds_toArray, List.set_cons_zero, List.set_cons_succ]
      replace bp := Bl.ext hx bp (Nat.succ_pos _)
      replace bq := Bl.ext hx bq (Nat.succ_pos _)
      replace br := Bl.ext hx br (Nat.succ_pos _)
      replace hs2 := hs2.ext hx
      replace hs10 := hs10.ext hx
      replace HE := HE.trans hx
      clear hx
      repeat (refine wpE_q (v := ?_) rfl rfl (fun u hu => ?_) ?_; rotate_left 1; (focus (have kp := Bl.ext hu bp (Nat.succ_pos _); have kq := Bl.ext hu bq (Nat.succ_pos _); have kr := Bl.ext hu br (Nat.succ_pos _); go_simp; (try rfl))); simp only [Act.put, List.setIfInBounds_toArray, List.set_cons_zero, List.set_cons_succ])
      refine wpE_l rfl rfl (fun K hK => ?_)
      go_simp
      refine (A9.out _ (H.out.ext HE)).mono ?_
      rintro e u12 ⟨a12, n12, c12, rfl, hs12, hx⟩
      refine hK.out _ _ hx ?_
      clear hK K
      try simp only [Act.put, List.setIfInBounds_toArray, List.set_cons_zero, List.set_cons_succ]
      replace bp := Bl.ext hx bp (Nat.succ_pos _)
      replace bq := Bl.ext hx bq (Nat.succ_pos _)
      replace br := Bl.ext hx br (Nat.succ_pos _)
      replace hs2 := hs2.ext hx
      replace hs10 := hs10.ext hx
      replace HE := HE.trans hx
      clear hx
      replace hs12 : Nc u12 a12 n12 c12 (ff).natAbs := hs12
      refine wpE_l rfl rfl (fun K hK => ?_)
      go_simp
      refine (A10.out _).mono ?_
      rintro e u13 ⟨a13, n13, c13, d13, m13, k13, rfl, hs13, ht13, hx⟩
      refine hK.out _ _ hx ?_
      clear hK K
      try simp only [Act.put, List.setIfInBounds_toArray, List.set_cons_zero, List.set_cons_succ]
      replace bp := Bl.ext hx bp (Nat.succ_pos _)
      replace bq := Bl.ext hx bq (Nat.succ_pos _)
      replace br := Bl.ext hx br (Nat.succ_pos _)
      replace hs2 := hs2.ext hx
      replace hs10 := hs10.ext hx
      replace hs12 := hs12.ext hx
      replace HE := HE.trans hx
      clear hx
      replace hs13 : Nc u13 a13 n13 c13 (hf.num).natAbs := hs13
      replace ht13 : Nc u13 d13 m13 k13 (hf.den) := ht13
      refine wpE_l rfl rfl (fun K hK => ?_)
      go_simp
      refine (A11.out _ (H.out.ext HE) _ _ _ _ _ _ _ (fq_of hs13 ht13 L1.out (by omega))).mono ?_
      rintro e u14 ⟨a14, n14, c14, d14, m14, k14, rfl, hs14, ht14, hx⟩
      refine hK.out _ _ hx ?_
      clear hK K
      try simp only [Act.put, List.setIfInBounds_toArray, List.set_cons_zero, List.set_cons_succ]
      replace bp := Bl.ext hx bp (Nat.succ_pos _)
      replace bq := Bl.ext hx bq (Nat.succ_pos _)
      replace br := Bl.ext hx br (Nat.succ_pos _)
      replace hs2 := hs2.ext hx
      replace hs10 := hs10.ext hx
      replace hs12 := hs12.ext hx
      replace hs13 := hs13.ext hx
      replace ht13 := ht13.ext hx
      replace HE := HE.trans hx
      clear hx
      replace hs14 : Nc u14 a14 n14 c14 (r1.num).natAbs := hs14
      replace ht14 : Nc u14 d14 m14 k14 (r1.den) := ht14
      refine wpE_l rfl rfl (fun K hK => ?_)
      go_simp
      refine (A12.out _ _ _ _ _ _ _ _ (fq_of hs14 ht14 L2.out (by omega))).mono ?_
      rintro e u15 ⟨a15, n15, c15, rfl, hs15, hx⟩
      refine hK.out _ _ hx ?_
      clear hK K
      try simp only [Act.put, List.setIfInBounds_toArray, List.set_cons_zero, List.set_cons_succ]
      replace bp := Bl.ext hx bp (Nat.succ_pos _)
      replace bq := Bl.ext hx bq (Nat.succ_pos _)
      replace br := Bl.ext hx br (Nat.succ_pos _)
      replace hs2 := hs2.ext hx
      replace hs10 := hs10.ext hx
      replace hs12 := hs12.ext hx
      replace hs13 := hs13.ext hx
      replace ht13 := ht13.ext hx
      replace hs14 := hs14.ext hx
      replace ht14 := ht14.ext hx
      replace HE := HE.trans hx
      clear hx
      replace hs15 : Nc u15 a15 n15 c15 (ff).natAbs := hs15
      refine wpE_l rfl rfl (fun K hK => ?_)
      go_simp
      refine (d_SameW hs12 hs15 L4.out).mono ?_
      rintro e u16 ⟨rfl, hx⟩
      refine hK.out _ _ hx ?_
      clear hK K
      try simp only [Act.put, List.setIfInBounds_toArray, List.set_cons_zero, List.set_cons_succ]
      replace bp := Bl.ext hx bp (Nat.succ_pos _)
      replace bq := Bl.ext hx bq (Nat.succ_pos _)
      replace br := Bl.ext hx br (Nat.succ_pos _)
      replace hs2 := hs2.ext hx
      replace hs10 := hs10.ext hx
      replace hs12 := hs12.ext hx
      replace hs13 := hs13.ext hx
      replace ht13 := ht13.ext hx
      replace hs14 := hs14.ext hx
      replace ht14 := ht14.ext hx
      replace hs15 := hs15.ext hx
      replace HE := HE.trans hx
      clear hx
      repeat (refine wpE_q (v := ?_) rfl rfl (fun u hu => ?_) ?_; rotate_left 1; (focus (have kp := Bl.ext hu bp (Nat.succ_pos _); have kq := Bl.ext hu bq (Nat.succ_pos _); have kr := Bl.ext hu br (Nat.succ_pos _); go_simp; (try rfl))); simp only [Act.put, List.setIfInBounds_toArray, List.set_cons_zero, List.set_cons_succ])
      refine wpE_l rfl rfl (fun K hK => ?_)
      go_simp
      refine (fr_lives _).mono ?_
      rintro e u17 ⟨rfl, hx⟩
      refine hK.out _ _ hx ?_
      clear hK K
      try simp only [Act.put, List.setIfInBounds_toArray, List.set_cons_zero, List.set_cons_succ]
      replace bp := Bl.ext hx bp (Nat.succ_pos _)
      replace bq := Bl.ext hx bq (Nat.succ_pos _)
      replace br := Bl.ext hx br (Nat.succ_pos _)
      replace hs2 := hs2.ext hx
      replace hs10 := hs10.ext hx
      replace hs12 := hs12.ext hx
      replace hs13 := hs13.ext hx
      replace ht13 := ht13.ext hx
      replace hs14 := hs14.ext hx
      replace ht14 := ht14.ext hx
      replace hs15 := hs15.ext hx
      replace HE := HE.trans hx
      clear hx
      repeat (refine wpE_q (v := ?_) rfl rfl (fun u hu => ?_) ?_; rotate_left 1; (focus (have kp := Bl.ext hu bp (Nat.succ_pos _); have kq := Bl.ext hu bq (Nat.succ_pos _); have kr := Bl.ext hu br (Nat.succ_pos _); go_simp; (try rfl))); simp only [Act.put, List.setIfInBounds_toArray, List.set_cons_zero, List.set_cons_succ])
      refine wpE_done ?_
      go_wp2_with fail
      go_ret
      exact ⟨rfl, HE⟩
  · have HW := hidP (HY.out hsq)
    have HSQ := hidP hsq
    clear hsq
    go_enter Try.func19, Try.ntmps19
    go_wp2_with fail
    refine absC (fun x1 hx1 => ?_)
    have hx : Ext w x1 := by rw [hx1]; exact (((Ext.refl _).alloc _).alloc _)
    have bp : Bl x1 (w.heap.size) #[.bool b, .slice a n c, .slice d m k] := by rw [hx1]; exact ((Bl.new (by simp)).alloc (by simp))
    have bq : Bl x1 (w.heap.size + 1) #[.bool b', .slice a' n' c', .slice d' m' k'] := by rw [hx1]; exact (Bl.new (by simp))
    have HE := hx
    clear hx
    clear hx1
    refine (A1.out _ (H.out.ext HE)).mono ?_
    rw [HW.out]
    rintro e u1 ⟨rfl, hx⟩
    replace bp := Bl.ext hx bp (Nat.succ_pos _)
    replace bq := Bl.ext hx bq (Nat.succ_pos _)
    replace HE := HE.trans hx
    clear hx
    go_wp2_with fail
    refine (A2.out _ (H.out.ext HE)).mono ?_
    rintro e u2 ⟨a2, n2, c2, rfl, hs2, hx⟩
    replace bp := Bl.ext hx bp (Nat.succ_pos _)
    replace bq := Bl.ext hx bq (Nat.succ_pos _)
    replace HE := HE.trans hx
    clear hx
    replace hs2 : Nc u2 a2 n2 c2 (fl).natAbs := hs2
    go_upto_region 3 with fail
    have lpr := bp.lt (Nat.succ_pos _)
    have lqr := bq.lt (Nat.succ_pos _)
    refine absW (fun x2 hx2 => ?_)
    have hx : Ext u2 x2 := by rw [hx2]; exact ((Ext.refl _).alloc _)
    have br : Bl x2 (u2.heap.size) #[.bool (decide (fl < 0)), .slice a2 n2 c2] := by rw [hx2]; exact (Bl.new (by simp))
    replace bp := Bl.ext hx bp (Nat.succ_pos _)
    replace bq := Bl.ext hx bq (Nat.succ_pos _)
    replace hs2 := hs2.ext hx
    replace HE := HE.trans hx
    clear hx
    clear hx2
    go_wp2_with fail
    refine (r02_Int_any _ a2 n2 c2 fl _ (hs2.wh (by have := L3.out; omega)) (by have := hs2.len; have := L3.out; omega)).mono ?_
    rw [HIM.out]
    rintro e u3 ⟨rfl, hx⟩
    replace bp := Bl.ext hx bp (Nat.succ_pos _)
    replace bq := Bl.ext hx bq (Nat.succ_pos _)
    replace br := Bl.ext hx br (Nat.succ_pos _)
    replace hs2 := hs2.ext hx
    replace HE := HE.trans hx
    clear hx
    go_upto_region 4 with fail
    go_cut [28] (fun vb wx => vb = .bool false ∧ Ext u3 wx)
    case first =>
      have HE0 := hidP HE
      clear HE
      have HE := Ext.refl u3
      refine wp_region_plan (R := Ext) (.q 0 (.q 2 (.br 1 (.l 3 (.q 4 (.l 5 (.q 6 .done)))) (.l 3 (.q 4 (.l 1 (.l 5 (.q 6 .done)))))))) (by kernel_rfl) (by kernel_rfl) (by kernel_rfl) (by kernel_rfl) Ext.refl (fun _ _ _ => Ext.trans) ?_
      refine absE (fun x3 hx3 => ?_)
      have hx : Ext u3 x3 := by rw [hx3]; exact (Ext.refl _).drew
      replace bp := Bl.ext hx bp (Nat.succ_pos _)
      replace bq := Bl.ext hx bq (Nat.succ_pos _)
      replace br := Bl.ext hx br (Nat.succ_pos _)
      replace hs2 := hs2.ext hx
      replace HE := HE.trans hx
      clear hx
      clear hx3
      repeat (refine wpE_q (v := ?_) rfl rfl (fun u hu => ?_) ?_; rotate_left 1; (focus (have kp := Bl.ext hu bp (Nat.succ_pos _); have kq := Bl.ext hu bq (Nat.succ_pos _); have kr := Bl.ext hu br (Nat.succ_pos _); go_simp; (try rfl))); simp only [Act.put, List.setIfInBounds_toArray, List.set_cons_zero, List.set_cons_succ])
      refine wpE_br rfl rfl (fun K hK => ?_) ?_
      · go_simp
        refine (A3.out _ ((H.out.ext HE0.out).ext HE)).mono ?_
        rintro e u4 ⟨a4, n4, c4, d4, m4, k4, rfl, hs4, ht4, hx⟩
        refine hK.out _ _ hx ?_
        clear hK K
        try simp only [Act.put, List.setIfInBounds_toArray, List.set_cons_zero, List.set_cons_succ]
        replace bp := Bl.ext hx bp (Nat.succ_pos _)
        replace bq := Bl.ext hx bq (Nat.succ_pos _)
        replace br := Bl.ext hx br (Nat.succ_pos _)
        replace hs2 := hs2.ext hx
        replace HE := HE.trans hx
        clear hx
        replace hs4 : Nc u4 a4 n4 c4 (q.num).natAbs := hs4
        replace ht4 : Nc u4 d4 m4 k4 (q.den) := ht4
        refine wpE_l rfl rfl (fun K hK => ?_)
        go_simp
        refine hK.out _ _ ((Ext.refl _).alloc _) ?_
        clear hK K
        try simp only [Act.put, List.setIfInBounds_toArray, List.set_cons_zero, List.set_cons_succ]
        refine absE (fun x4 hx4 => ?_)
        have hx : Ext u4 x4 := by rw [hx4]; exact ((Ext.refl _).alloc _)
        replace bp := Bl.ext hx bp (Nat.succ_pos _)
        replace bq := Bl.ext hx bq (Nat.succ_pos _)
        replace br := Bl.ext hx br (Nat.succ_pos _)
        replace hs2 := hs2.ext hx
        replace hs4 := hs4.ext hx
        replace ht4 := ht4.ext hx
        replace HE := HE.trans hx
        clear hx
        have hlt : Nc x4 (some ⟨u4.heap.size, 0, none⟩) 1 1 1 := by rw [hx4]; exact nc_litAt rfl 1 (by omega) (by omega) _
        clear hx4
        repeat (refine wpE_q (v := ?_) rfl rfl (fun u hu => ?_) ?_; rotate_left 1; (focus (have kp := Bl.ext hu bp (Nat.succ_pos _); have kq := Bl.ext hu bq (Nat.succ_pos _); have kr := Bl.ext hu br (Nat.succ_pos _); go_simp; (try rfl))); simp only [Act.put, List.setIfInBounds_toArray, List.set_cons_zero, List.set_cons_succ])
        refine wpE_l rfl rfl (fun K hK => ?_)
        go_simp
        refine (A13b.out _ _ _ _ _ _ _ _ _ _ _ _ _ hs4 ht4 hs2 hlt).mono ?_
        rw [HSQ.out]
        rintro e u5 ⟨rfl, hx⟩
        refine hK.out _ _ hx ?_
        clear hK K
        try simp only [Act.put, List.setIfInBounds_toArray, List.set_cons_zero, List.set_cons_succ]
        replace bp := Bl.ext hx bp (Nat.succ_pos _)
        replace bq := Bl.ext hx bq (Nat.succ_pos _)
        replace br := Bl.ext hx br (Nat.succ_pos _)
        replace hs2 := hs2.ext hx
        replace hs4 := hs4.ext hx
        replace ht4 := ht4.ext hx
        replace hlt := hlt.ext hx
        replace HE := HE.trans hx
        clear hx
        repeat (refine wpE_q (v := ?_) rfl rfl (fun u hu => ?_) ?_; rotate_left 1; (focus (have kp := Bl.ext hu bp (Nat.succ_pos _); have kq := Bl.ext hu bq (Nat.succ_pos _); have kr := Bl.ext hu br (Nat.succ_pos _); go_simp; (try rfl))); simp only [Act.put, List.setIfInBounds_toArray, List.set_cons_zero, List.set_cons_succ])
        refine wpE_done ?_
        go_wp2_with fail
        go_meet
        exact ⟨rfl, HE⟩
      · refine wpE_l rfl rfl (fun K hK => ?_)
        go_simp
        refine hK.out _ _ ((Ext.refl _).alloc _) ?_
        clear hK K
        try simp only [Act.put, List.setIfInBounds_toArray, List.set_cons_zero, List.set_cons_succ]
        refine absE (fun x4 hx4 => ?_)
        have hx : Ext x3 x4 := by rw [hx4]; exact ((Ext.refl _).alloc _)
        replace bp := Bl.ext hx bp (Nat.succ_pos _)
        replace bq := Bl.ext hx bq (Nat.succ_pos _)
        replace br := Bl.ext hx br (Nat.succ_pos _)
        replace hs2 := hs2.ext hx
        replace HE := HE.trans hx
        clear hx
        have hlt : Nc x4 (some ⟨x3.heap.size, 0, none⟩) 1 1 1 := by rw [hx4]; exact nc_litAt rfl 1 (by omega) (by omega) _
        clear hx4
        repeat (refine wpE_q (v := ?_) rfl rfl (fun u hu => ?_) ?_; rotate_left 1; (focus (have kp := Bl.ext hu bp (Nat.succ_pos _); have kq := Bl.ext hu bq (Nat.succ_pos _); have kr := Bl.ext hu br (Nat.succ_pos _); go_simp; (try rfl))); simp only [Act.put, List.setIfInBounds_toArray, List.set_cons_zero, List.set_cons_succ])
        refine wpE_l rfl rfl (fun K hK => ?_)
        go_simp
        refine (A3.out _ ((H.out.ext HE0.out).ext HE)).mono ?_
        rintro e u4 ⟨a4, n4, c4, d4, m4, k4, rfl, hs4, ht4, hx⟩
        refine hK.out _ _ hx ?_
        clear hK K
        try simp only [Act.put, List.setIfInBounds_toArray, List.set_cons_zero, List.set_cons_succ]
        replace bp := Bl.ext hx bp (Nat.succ_pos _)
        replace bq := Bl.ext hx bq (Nat.succ_pos _)
        replace br := Bl.ext hx br (Nat.succ_pos _)
        replace hs2 := hs2.ext hx
        replace hlt := hlt.ext hx
        replace HE := HE.trans hx
        clear hx
        replace hs4 : Nc u4 a4 n4 c4 (q.num).natAbs := hs4
        replace ht4 : Nc u4 d4 m4 k4 (q.den) := ht4
        refine wpE_l rfl rfl (fun K hK => ?_)
        go_simp
        refine (A13b.out _ _ _ _ _ _ _ _ _ _ _ _ _ hs4 ht4 hs2 hlt).mono ?_
        rw [HSQ.out]
        rintro e u5 ⟨rfl, hx⟩
        refine hK.out _ _ hx ?_
        clear hK K
        try simp only [Act.put, List.setIfInBounds_toArray, List.set_cons_zero, List.set_cons_succ]
        replace bp := Bl.ext hx bp (Nat.succ_pos _)
        replace bq := Bl.ext hx bq (Nat.succ_pos _)
        replace br := Bl.ext hx br (Nat.succ_pos _)
        replace hs2 := hs2.ext hx
        replace hlt := hlt.ext hx
        replace hs4 := hs4.ext hx
        replace ht4 := ht4.ext hx
        replace HE := HE.trans hx
        clear hx
        repeat (refine wpE_q (v := ?_) rfl rfl (fun u hu => ?_) ?_; rotate_left 1; (focus (have kp := Bl.ext hu bp (Nat.succ_pos _); have kq := Bl.ext hu bq (Nat.succ_pos _); have kr := Bl.ext hu br (Nat.succ_pos _); go_simp; (try rfl))); simp only [Act.put, List.setIfInBounds_toArray, List.set_cons_zero, List.set_cons_succ])
        refine wpE_done ?_
        go_wp2_with fail
        go_meet
        exact ⟨rfl, HE⟩
    case rest =>
      obtain ⟨rfl, hx⟩ := hcut
      replace bp := Bl.ext hx bp (Nat.succ_pos _)
      replace bq := Bl.ext hx bq (Nat.succ_pos _)
      replace br := Bl.ext hx br (Nat.succ_pos _)
      replace hs2 := hs2.ext hx
      replace HE := HE.trans hx
      clear hx
      go_wp2_with fail
      refine wp_region_plan (R := Ext) (.q 0 (.q 1 (.q 3 (.q 4 (.l 2 (.l 5 (.q 6 (.q 7 (.q 8 (.q 10 (.l 9 (.l 11 (.q 12 (.q 13 (.q 14 (.q 15 (.q 17 (.l 16 (.l 18 (.q 19 (.q 20 (.q 21 (.q 23 (.l 22 (.l 24 (.l 25 (.l 26 (.l 27 (.q 28 (.q 29 (.q 30 (.q 31 (.q 32 (.q 33 (.q 34 (.q 35 (.q 36 (.q 37 (.q 38 (.q 39 (.l 40 (.q 41 (.q 42 .done))))))))))))))))))))))))))))))))))))))))))) (by kernel_rfl) (by kernel_rfl) (by kernel_rfl) (by kernel_rfl) Ext.refl (fun _ _ _ => Ext.trans) ?_
      refine absE (fun x3 hx3 => ?_)
      have hx : Ext wc x3 := by rw [hx3]; exact (Ext.refl _).drew
      replace bp := Bl.ext hx bp (Nat.succ_pos _)
      replace bq := Bl.ext hx bq (Nat.succ_pos _)
      replace br := Bl.ext hx br (Nat.succ_pos _)
      replace hs2 := hs2.ext hx
      replace HE := HE.trans hx
      clear hx
      clear hx3
      repeat (refine wpE_q (v := ?_) rfl rfl (fun u hu => ?_) ?_; rotate_left 1; (focus (have kp := Bl.ext hu bp (Nat.succ_pos _); have kq := Bl.ext hu bq (Nat.succ_pos _); have kr := Bl.ext hu br (Nat.succ_pos _); go_simp; (try rfl))); simp only [Act.put, List.setIfInBounds_toArray, List.set_cons_zero, List.set_cons_succ])
      refine wpE_l rfl rfl (fun K hK => ?_)
      go_simp
      refine (A4.out _ (H.out.ext HE) (H'.out.ext HE)).mono ?_
      rintro e u6 ⟨rfl, hx⟩
      refine hK.out _ _ hx ?_
      clear hK K
      try simp only [Act.put, List.setIfInBounds_toArray, List.set_cons_zero, List.set_cons_succ]
      replace bp := Bl.ext hx bp (Nat.succ_pos _)
      replace bq := Bl.ext hx bq (Nat.succ_pos _)
      replace br := Bl.ext hx br (Nat.succ_pos _)
      replace hs2 := hs2.ext hx
      replace HE := HE.trans hx
      clear hx
      refine wpE_l rfl rfl (fun K hK => ?_)
      go_simp
      refine (A5.out _ (H.out.ext HE) (H'.out.ext HE)).mono ?_
      rintro e u7 ⟨rfl, hx⟩
      refine hK.out _ _ hx ?_
      clear hK K
      try simp only [Act.put, List.setIfInBounds_toArray, List.set_cons_zero, List.set_cons_succ]
      replace bp := Bl.ext hx bp (Nat.succ_pos _)
      replace bq := Bl.ext hx bq (Nat.succ_pos _)
      replace br := Bl.ext hx br (Nat.succ_pos _)
      replace hs2 := hs2.ext hx
      replace HE := HE.trans hx
      clear hx
      repeat (refine wpE_q (v := ?_) rfl rfl (fun u hu => ?_) ?_; rotate_left 1; (focus (have kp := Bl.ext hu bp (Nat.succ_pos _); have kq := Bl.ext hu bq (Nat.succ_pos _); have kr := Bl.ext hu br (Nat.succ_pos _); go_simp; (try rfl))); simp only [Act.put, List.setIfInBounds_toArray, List.set_cons_zero, List.set_cons_succ])
      refine wpE_l rfl rfl (fun K hK => ?_)
      go_simp
      refine (A6.out _ (H.out.ext HE)).mono ?_
      rintro e u8 ⟨rfl, hx⟩
      refine hK.out _ _ hx ?_
      clear hK K
      try simp only [Act.put, List.setIfInBounds_toArray, List.set_cons_zero, List.set_cons_succ]
      replace bp := Bl.ext hx bp (Nat.succ_pos _)
      replace bq := Bl.ext hx bq (Nat.succ_pos _)
      replace br := Bl.ext hx br (Nat.succ_pos _)
      replace hs2 := hs2.ext hx
      replace HE := HE.trans hx
      clear hx
      refine wpE_l rfl rfl (fun K hK => ?_)
      go_simp
      refine (A7.out _ (H.out.ext HE)).mono ?_
      rintro e u9 ⟨rfl, hx⟩
      refine hK.out _ _ hx ?_
      clear hK K
      try simp only [Act.put, List.setIfInBounds_toArray, List.set_cons_zero, List.set_cons_succ]
      replace bp := Bl.ext hx bp (Nat.succ_pos _)
      replace bq := Bl.ext hx bq (Nat.succ_pos _)
      replace br := Bl.ext hx br (Nat.succ_pos _)
      replace hs2 := hs2.ext hx
      replace HE := HE.trans hx
      clear hx
      repeat (refine wpE_q (v := ?_) rfl rfl (fun u hu => ?_) ?_; rotate_left 1; (focus (have kp := Bl.ext hu bp (Nat.succ_pos _); have kq := Bl.ext hu bq (Nat.succ_pos _); have kr := Bl.ext hu br (Nat.succ_pos _); go_simp; (try rfl))); simp only [Act.put, List.setIfInBounds_toArray, List.set_cons_zero, List.set_cons_succ])
      refine wpE_l rfl rfl (fun K hK => ?_)
      go_simp
      refine (A8.out _ (H.out.ext HE)).mono ?_
      rintro e u10 ⟨a10, n10, c10, rfl, hs10, hx⟩
      refine hK.out _ _ hx ?_
      clear hK K
      try simp only [Act.put, List.setIfInBounds_toArray, List.set_cons_zero, List.set_cons_succ]
      replace bp := Bl.ext hx bp (Nat.succ_pos _)
      replace bq := Bl.ext hx bq (Nat.succ_pos _)
      replace br := Bl.ext hx br (Nat.succ_pos _)
      replace hs2 := hs2.ext hx
      replace HE := HE.trans hx
      clear hx
      replace hs10 : Nc u10 a10 n10 c10 (fl).natAbs := hs10
      refine wpE_l rfl rfl (fun K hK => ?_)
      go_simp
      refine (d_SameW hs10 hs2 (by have := L3.out; omega)).mono ?_
      rintro e u11 ⟨rfl, hx⟩
      refine hK.out _ _ hx ?_
      clear hK K
      try simp only [Act.put, List.setIfInBounds_toArray, List.set_cons_zero, List.set_cons_succ]
      replace bp := Bl.ext hx bp (Nat.succ_pos _)
      replace bq := Bl.ext hx bq (Nat.succ_pos _)
      replace br := Bl.ext hx br (Nat.succ_pos _)
      replace hs2 := hs2.ext hx
      replace hs10 := hs10.ext hx
      replace HE := HE.trans hx
      clear hx
      repeat (refine wpE_q (v := ?_) rfl rfl (fun u hu => ?_) ?_; rotate_left 1; (focus (have kp := Bl.ext hu bp (Nat.succ_pos _); have kq := Bl.ext hu bq (Nat.succ_pos _); have kr := Bl.ext hu br (Nat.succ_pos _); go_simp; (try rfl))); simp only [Act.put, List.setIfInBounds_toArray, List.set_cons_zero, List.set_cons_succ])
      refine wpE_l rfl rfl (fun K hK => ?_)
      go_simp
      refine (A9.out _ (H.out.ext HE)).mono ?_
      rintro e u12 ⟨a12, n12, c12, rfl, hs12, hx⟩
      refine hK.out _ _ hx ?_
      clear hK K
      try simp only [Act.put, List.setIfInBounds_toArray, List.set_cons_zero, List.set_cons_succ]
      replace bp := Bl.ext hx bp (Nat.succ_pos _)
      replace bq := Bl.ext hx bq (Nat.succ_pos _)
      replace br := Bl.ext hx br (Nat.succ_pos _)
      replace hs2 := hs2.ext hx
      replace hs10 := hs10.ext hx
      replace HE := HE.trans hx
      clear hx
      replace hs12 : Nc u12 a12 n12 c12 (ff).natAbs := hs12
      refine wpE_l rfl rfl (fun K hK => ?_)
      go_simp
      refine (A10.out _).mono ?_
      rintro e u13 ⟨a13, n13, c13, d13, m13, k13, rfl, hs13, ht13, hx⟩
      refine hK.out _ _ hx ?_
      clear hK K
      try simp only [Act.put, List.setIfInBounds_toArray, List.set_cons_zero, List.set_cons_succ]
      replace bp := Bl.ext hx bp (Nat.succ_pos _)
      replace bq := Bl.ext hx bq (Nat.succ_pos _)
      replace br := Bl.ext hx br (Nat.succ_pos _)
      replace hs2 := hs2.ext hx
      replace hs10 := hs10.ext hx
      replace hs12 := hs12.ext hx
      replace HE := HE.trans hx
      clear hx
      replace hs13 : Nc u13 a13 n13 c13 (hf.num).natAbs := hs13
      replace ht13 : Nc u13 d13 m13 k13 (hf.den) := ht13
      refine wpE_l rfl rfl (fun K hK => ?_)
      go_simp
      refine (A11.out _ (H.out.ext HE) _ _ _ _ _ _ _ (fq_of hs13 ht13 L1.out (by omega))).mono ?_
      rintro e u14 ⟨a14, n14, c14, d14, m14, k14, rfl, hs14, ht14, hx⟩
      refine hK.out _ _ hx ?_
      clear hK K
      try simp only [Act.put, List.setIfInBounds_toArray, List.set_cons_zero, List.set_cons_succ]
      replace bp := Bl.ext hx bp (Nat.succ_pos _)
      replace bq := Bl.ext hx bq (Nat.succ_pos _)
      replace br := Bl.ext hx br (Nat.succ_pos _)
      replace hs2 := hs2.ext hx
      replace hs10 := hs10.ext hx
      replace hs12 := hs12.ext hx
      replace hs13 := hs13.ext hx
      replace ht13 := ht13.ext hx
      replace HE := HE.trans hx
      clear hx
      replace hs14 : Nc u14 a14 n14 c14 (r1.num).natAbs := hs14
      replace ht14 : Nc u14 d14 m14 k14 (r1.den) := ht14
      refine wpE_l rfl rfl (fun K hK => ?_)
      go_simp
      refine (A12.out _ _ _ _ _ _ _ _ (fq_of hs14 ht14 L2.out (by omega))).mono ?_
      rintro e u15 ⟨a15, n15, c15, rfl, hs15, hx⟩
      refine hK.out _ _ hx ?_
      clear hK K
      try simp only [Act.put, List.setIfInBounds_toArray, List.set_cons_zero, List.set_cons_succ]
      replace bp := Bl.ext hx bp (Nat.succ_pos _)
      replace bq := Bl.ext hx bq (Nat.succ_pos _)
      replace br := Bl.ext hx br (Nat.succ_pos _)
      replace hs2 := hs2.ext hx
      replace hs10 := hs10.ext hx
      replace hs12 := hs12.ext hx
      replace hs13 := hs13.ext hx
      replace ht13 := ht13.ext hx
      replace hs14 := hs14.ext hx
      replace ht14 := ht14.ext hx
      replace HE := HE.trans hx
      clear hx
      replace hs15 : Nc u15 a15 n15 c15 (ff).natAbs := hs15
      refine wpE_l rfl rfl (fun K hK => ?_)
      go_simp
      refine (d_SameW hs12 hs15 L4.out).mono ?_
      rintro e u16 ⟨rfl, hx⟩
      refine hK.out _ _ hx ?_
      clear hK K
      try simp only [Act.put, List.setIfInBounds_toArray, List.set_cons_zero, List.set_cons_succ]
      replace bp := Bl.ext hx bp (Nat.succ_pos _)
      replace bq := Bl.ext hx bq (Nat.succ_pos _)
      replace br := Bl.ext hx br (Nat.succ_pos _)
      replace hs2 := hs2.ext hx
      replace hs10 := hs10.ext hx
      replace hs12 := hs12.ext hx
      replace hs13 := hs13.ext hx
      replace ht13 := ht13.ext hx
      replace hs14 := hs14.ext hx
      replace ht14 := ht14.ext hx
      replace hs15 := hs15.ext hx
      replace HE := HE.trans hx
      clear hx
      repeat (refine wpE_q (v := ?_) rfl rfl (fun u hu => ?_) ?_; rotate_left 1; (focus (have kp := Bl.ext hu bp (Nat.succ_pos _); have kq := Bl.ext hu bq (Nat.succ_pos _); have kr := Bl.ext hu br (Nat.succ_pos _); go_simp; (try rfl))); simp only [Act.put, List.setIfInBounds_toArray, List.set_cons_zero, List.set_cons_succ])
      refine wpE_l rfl rfl (fun K hK => ?_)
      go_simp
      refine (fr_lives _).mono ?_
      rintro e u17 ⟨rfl, hx⟩
      refine hK.out _ _ hx ?_
      clear hK K
      try simp only [Act.put, List.setIfInBounds_toArray, List.set_cons_zero, List.set_cons_succ]
      replace bp := Bl.ext hx bp (Nat.succ_pos _)
      replace bq := Bl.ext hx bq (Nat.succ_pos _)
      replace br := Bl.ext hx br (Nat.succ_pos _)
      replace hs2 := hs2.ext hx
      replace hs10 := hs10.ext hx
      replace hs12 := hs12.ext hx
      replace hs13 := hs13.ext hx
      replace ht13 := ht13.ext hx
      replace hs14 := hs14.ext hx
      replace ht14 := ht14.ext hx
      replace hs15 := hs15.ext hx
      replace HE := HE.trans hx
      clear hx
      repeat (refine wpE_q (v := ?_) rfl rfl (fun u hu => ?_) ?_; rotate_left 1; (focus (have kp := Bl.ext hu bp (Nat.succ_pos _); have kq := Bl.ext hu bq (Nat.succ_pos _); have kr := Bl.ext hu br (Nat.succ_pos _); go_simp; (try rfl))); simp only [Act.put, List.setIfInBounds_toArray, List.set_cons_zero, List.set_cons_succ])
      refine wpE_done ?_
      go_wp2_with fail
      go_ret
      exact ⟨rfl, HE⟩

end Go.Proofs.Ytcipcpbjkcpgdaa
