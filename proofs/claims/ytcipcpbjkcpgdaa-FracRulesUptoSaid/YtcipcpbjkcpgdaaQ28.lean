/- The law of the rules of fractions: its walk. -/
import Derived.Test.YtcipcpbjkcpgdaaQ26
namespace Go.Proofs.Ytcipcpbjkcpgdaa
set_option linter.unusedVariables false
open Go Go.RowKit

theorem cmpQ_zero (q q' : Rat) : (cmpQ q q' == 0) = decide (q = q') := by
  rw [Bool.eq_iff_iff, beq_iff_eq, decide_eq_true_iff, Rat.eq_iff_mul_eq_mul]
  unfold cmpQ
  have h : ∀ x : Int, sgn x = 0 ↔ x = 0 := fun x => by unfold sgn; split <;> (try split) <;> omega
  rw [h]
  omega
theorem sgn_num0 (q : Rat) : sgn q.num = 0 ↔ q = 0 := by
  rw [← Rat.num_eq_zero]
  unfold sgn
  split <;> (try split) <;> omega

set_option maxRecDepth 100000 in
set_option maxHeartbeats 8000000 in
theorem fracRules_any (b : Bool) (a : Option Addr) (n c : Nat) (l : List Nat) (d : Option Addr) (m k : Nat) (e : List Nat) (b' : Bool) (a' : Option Addr) (n' c' : Nat) (l' : List Nat) (d' : Option Addr) (m' k' : Nat) (e' : List Nat) (b'' : Bool) (a'' : Option Addr) (n'' c'' : Nat) (l'' : List Nat) (d'' : Option Addr) (m'' k'' : Nat) (e'' : List Nat) (w : World)
    (hs : Sl w a n c (ints .u32 l)) (hl : Ws l) (hn : n ≤ 1048576) (ht : Sl w d m k (ints .u32 e)) (he : Ws e) (hm : m ≤ 1048576) (hs' : Sl w a' n' c' (ints .u32 l')) (hl' : Ws l') (hn' : n' ≤ 1048576) (ht' : Sl w d' m' k' (ints .u32 e')) (he' : Ws e') (hm' : m' ≤ 1048576) (hs'' : Sl w a'' n'' c'' (ints .u32 l'')) (hl'' : Ws l'') (hn'' : n'' ≤ 1048576) (ht'' : Sl w d'' m'' k'' (ints .u32 e'')) (he'' : Ws e'') (hm'' : m'' ≤ 1048576) :
    Calls Try.prog 18 #[.agg #[.bool b, .slice a n c, .slice d m k], .agg #[.bool b', .slice a' n' c', .slice d' m' k'], .agg #[.bool b'', .slice a'' n'' c'', .slice d'' m'' k'']] w fun e w' => e = .returned (.bool true) ∧ Ext w w' := by
  have h := fq_lift (b := b) hs hl hn ht he hm
  have h' := fq_lift (b := b') hs' hl' hn' ht' he' hm'
  have h'' := fq_lift (b := b'') hs'' hl'' hn'' ht'' he'' hm''
  generalize mkRat (wz b (val B32 l)) (val B32 e) = q at *
  generalize mkRat (wz b' (val B32 l')) (val B32 e') = q' at *
  generalize mkRat (wz b'' (val B32 l'')) (val B32 e'') = q'' at *
  have l1 := h.ql (by omega)
  have l2 := h'.ql (by omega)
  have l3 := h''.ql (by omega)
  have x1 : ql (q' + q'') ≤ 2097153 := by have := ql_add l2 l3; omega
  have x2 : ql (q * q') ≤ 2097152 := by have := ql_mul l1 l2 (by omega); omega
  have x3 : ql (q * q'') ≤ 2097152 := by have := ql_mul l1 l3 (by omega); omega
  have x4 : ql (q + q') ≤ 2097153 := by have := ql_add l1 l2; omega
  have x5 : ql (q * (q' + q'')) ≤ 3145729 := by have := ql_mul l1 x1 (by omega); omega
  have L0 := hidP l1
  have L1 := hidP x1; have L2 := hidP x2; have L3 := hidP x3; have L4 := hidP x4; have L5 := hidP x5
  have hdist : q * q' + q * q'' = q * (q' + q'') := (Rat.mul_add q q' q'').symm
  have hsub : q + q' - q' = q := Rat.add_sub_cancel
  have hdiv : q' ≠ 0 → q * q' / q' = q := fun h => Rat.mul_div_cancel h
  have hcm := cmpQ_zero q q'
  have hs0 := sgn_num0 q'
  have A1 := hidP (fun (u : World) (t1 : Fq u b' a' n' c' d' m' k' q' 1048576) (t2 : Fq u b'' a'' n'' c'' d'' m'' k'' q'' 1048576) => fq_Add t1 t2 (by omega) (by omega))
  have A2 := hidP (fun (u : World) (t1 : Fq u b a n c d m k q 1048576) (t2 : Fq u b' a' n' c' d' m' k' q' 1048576) => fq_Mul t1 t2 (by omega) (by omega))
  have A3 := hidP (fun (u : World) (t1 : Fq u b a n c d m k q 1048576) (t2 : Fq u b'' a'' n'' c'' d'' m'' k'' q'' 1048576) => fq_Mul t1 t2 (by omega) (by omega))
  have A4 := hidP (fun (u : World) (t1 : Fq u b a n c d m k q 1048576) (t2 : Fq u b' a' n' c' d' m' k' q' 1048576) => fq_Add t1 t2 (by omega) (by omega))
  have A5 := hidP (fun (u : World) (t1 : Fq u b a n c d m k q 1048576) (b2 : Bool) (a2 d2 : Option Addr) (n2 c2 m2 k2 : Nat) (t2 : Fq u b2 a2 n2 c2 d2 m2 k2 (q' + q'') 2097153) => fq_Mul t1 t2 (by omega) (by omega))
  have A6 := hidP (fun (u : World) (b1 : Bool) (a1 d1 : Option Addr) (n1 c1 m1 k1 : Nat) (t1 : Fq u b1 a1 n1 c1 d1 m1 k1 (q * q') 2097152) (b2 : Bool) (a2 d2 : Option Addr) (n2 c2 m2 k2 : Nat) (t2 : Fq u b2 a2 n2 c2 d2 m2 k2 (q * q'') 2097152) => fq_Add t1 t2 (by omega) (by omega))
  have A7 := hidP (fun (u : World) (b1 : Bool) (a1 d1 : Option Addr) (n1 c1 m1 k1 : Nat) (t1 : Fq u b1 a1 n1 c1 d1 m1 k1 (q + q') 2097153) (t2 : Fq u b' a' n' c' d' m' k' q' 1048576) => fq_Sub t1 t2 (by omega) (by omega))
  have A8 := hidP (fun (u : World) (b1 : Bool) (a1 d1 : Option Addr) (n1 c1 m1 k1 : Nat) (t1 : Fq u b1 a1 n1 c1 d1 m1 k1 (q * q') 2097152) (t2 : Fq u b' a' n' c' d' m' k' q' 1048576) (h0 : q' ≠ 0) => fq_Div t1 t2 (by omega) (by omega) h0)
  have A9 := hidP (fun (u : World) (b1 : Bool) (a1 d1 : Option Addr) (n1 c1 m1 k1 : Nat) (t1 : Fq u b1 a1 n1 c1 d1 m1 k1 (q * q') 2097152) (t2 : Fq u b' a' n' c' d' m' k' q' 1048576) (h0 : q' = 0) => fq_Div0 t1 t2 (by omega) (by omega) h0)
  have A10 := hidP (fun (u : World) (t1 : Fq u b' a' n' c' d' m' k' q' 1048576) => fq_Sign t1 (by omega))
  have A11 := hidP (fun (u : World) (t1 : Fq u b a n c d m k q 1048576) => fq_Reduce t1 (by omega))
  have A12 := hidP (fun (u : World) (t1 : Fq u b' a' n' c' d' m' k' q' 1048576) => fq_Reduce t1 (by omega))
  have A13 := hidP (fun (u : World) (t1 : Fq u b a n c d m k q 1048576) (t2 : Fq u b' a' n' c' d' m' k' q' 1048576) => fq_Cmp t1 t2 (by omega) (by omega))
  have A6b := A6.out
  rw [hdist] at A6b
  clear A6
  have A6 := hidP A6b
  clear A6b
  have A7b := A7.out
  rw [hsub] at A7b
  clear A7
  have A7 := hidP A7b
  clear A7b
  generalize cmpQ q q' = cc at *
  have hcd : ∃ d, d = decide (q = q') := ⟨_, rfl⟩
  have S1 := hidP (fun (u : World) (a1 d1 a2 d2 : Option Addr) (n1 c1 m1 k1 n2 c2 m2 k2 : Nat) (t1 : Nc u a1 n1 c1 q.num.natAbs) (t2 : Nc u d1 m1 k1 q.den) (t3 : Nc u a2 n2 c2 q'.num.natAbs) (t4 : Nc u d2 m2 k2 q'.den) => gq_Same t1 t2 t3 t4 (by have := L0.out; omega))
  have S1b := S1.out
  rw [← hcm] at S1b
  clear S1
  have S1 := hidP S1b
  clear S1b
  generalize sgn q'.num = ss at *
  generalize q' + q'' = r1 at *
  generalize q * q' = r2 at *
  generalize q * q'' = r3 at *
  generalize q + q' = r4 at *
  generalize q * r1 = r5 at *
  clear x1 x2 x3 x4 x5 hdist hsub hcm hcd
  have HDIV := hidP hdiv; have HS0 := hidP hs0
  have H := hidP h
  have H' := hidP h'
  have H'' := hidP h''
  clear h hs hl ht he h' hs' hl' ht' he' h'' hs'' hl'' ht'' he'' l1 l2 l3 hdiv hs0
  by_cases h0 : q' = 0
  · have HQ0 := hidP h0
    have HSS : Hid (ss = 0) := hidP (HS0.out.2 h0)
    have hs1 := HSS.out
    subst hs1
    clear h0
    go_enter Try.func18, Try.ntmps18
    go_upto_region 1 with fail
    refine absW (fun x1 hx1 => ?_)
    have hx : Ext w x1 := by rw [hx1]; exact ((((Ext.refl _).alloc _).alloc _).alloc _)
    have bp : Bl x1 (w.heap.size) #[.bool b, .slice a n c, .slice d m k] := by rw [hx1]; exact (((Bl.new (by simp)).alloc (by simp)).alloc (by simp))
    have bq : Bl x1 (w.heap.size + 1) #[.bool b', .slice a' n' c', .slice d' m' k'] := by rw [hx1]; exact ((Bl.new (by simp)).alloc (by simp))
    have br : Bl x1 (w.heap.size + 1 + 1) #[.bool b'', .slice a'' n'' c'', .slice d'' m'' k''] := by rw [hx1]; exact (Bl.new (by simp))
    have HE := hx
    clear hx
    clear hx1
    go_cut [7] (fun vx wx => ∃ (gx : Nat) (ax dx : Option Addr) (nx cx mx kx : Nat), vx = .pointer (some ⟨gx, 0, none⟩) ∧ Bl wx gx #[.bool (decide (r5.num < 0)), .slice ax nx cx, .slice dx mx kx] ∧ Nc wx ax nx cx (r5.num).natAbs ∧ Nc wx dx mx kx (r5.den) ∧ Ext x1 wx)
    case first =>
      have HE0 := hidP HE
      clear HE
      have HE := Ext.refl x1
      refine wp_region_plan (R := Ext) (.q 0 (.q 1 (.q 2 (.br 3 (.br 4 (.l 5 (.b 6 .done)) (.l 5 (.l 4 (.b 6 .done)))) (.l 5 (.l 3 (.l 4 (.b 6 .done)))))))) (by kernel_rfl) (by kernel_rfl) (by kernel_rfl) (by kernel_rfl) Ext.refl (fun _ _ _ => Ext.trans) ?_
      refine absE (fun x2 hx2 => ?_)
      have hx : Ext x1 x2 := by rw [hx2]; exact (Ext.refl _).drew
      replace bp := Bl.ext hx bp (Nat.succ_pos _)
      replace bq := Bl.ext hx bq (Nat.succ_pos _)
      replace br := Bl.ext hx br (Nat.succ_pos _)
      replace HE := HE.trans hx
      clear hx
      clear hx2
      repeat (refine wpE_q (v := ?_) rfl rfl (fun u hu => ?_) ?_; rotate_left 1; (focus (have kp := Bl.ext hu bp (Nat.succ_pos _); have kq := Bl.ext hu bq (Nat.succ_pos _); have kr := Bl.ext hu br (Nat.succ_pos _); go_simp; (try rfl))); simp only [Act.put, List.setIfInBounds_toArray, List.set_cons_zero, List.set_cons_succ])
      refine wpE_br rfl rfl (fun K hK => ?_) ?_
      · go_simp
        refine (A1.out _ ((H'.out.ext HE0.out).ext HE) ((H''.out.ext HE0.out).ext HE)).mono ?_
        rintro e u3 ⟨a3, n3, c3, d3, m3, k3, rfl, hs3, ht3, hx⟩
        refine hK.out _ _ hx ?_
        clear hK K
        try simp only [Act.put, List.setIfInBounds_toArray, List.set_cons_zero, List.set_cons_succ]
        replace bp := Bl.ext hx bp (Nat.succ_pos _)
        replace bq := Bl.ext hx bq (Nat.succ_pos _)
        replace br := Bl.ext hx br (Nat.succ_pos _)
        replace HE := HE.trans hx
        clear hx
        replace hs3 : Nc u3 a3 n3 c3 (r1.num).natAbs := hs3
        replace ht3 : Nc u3 d3 m3 k3 (r1.den) := ht3
        refine wpE_br rfl rfl (fun K hK => ?_) ?_
        · go_simp
          refine (A5.out _ ((H.out.ext HE0.out).ext HE) _ _ _ _ _ _ _ (fq_of hs3 ht3 L1.out (by omega))).mono ?_
          rintro e u4 ⟨a4, n4, c4, d4, m4, k4, rfl, hs4, ht4, hx⟩
          refine hK.out _ _ hx ?_
          clear hK K
          try simp only [Act.put, List.setIfInBounds_toArray, List.set_cons_zero, List.set_cons_succ]
          replace bp := Bl.ext hx bp (Nat.succ_pos _)
          replace bq := Bl.ext hx bq (Nat.succ_pos _)
          replace br := Bl.ext hx br (Nat.succ_pos _)
          replace hs3 := hs3.ext hx
          replace ht3 := ht3.ext hx
          replace HE := HE.trans hx
          clear hx
          replace hs4 : Nc u4 a4 n4 c4 (r5.num).natAbs := hs4
          replace ht4 : Nc u4 d4 m4 k4 (r5.den) := ht4
          refine wpE_l rfl rfl (fun K hK => ?_)
          go_simp
          refine hK.out _ _ ((Ext.refl _).alloc _) ?_
          clear hK K
          try simp only [Act.put, List.setIfInBounds_toArray, List.set_cons_zero, List.set_cons_succ]
          have lpx := bp.lt (Nat.succ_pos _)
          have lqx := bq.lt (Nat.succ_pos _)
          have lrx := br.lt (Nat.succ_pos _)
          have l0x := HE.size
          refine absE (fun x3 hx3 => ?_)
          have hx : Ext u4 x3 := by rw [hx3]; exact ((Ext.refl _).alloc _)
          have bx : Bl x3 (u4.heap.size) #[.bool false, .slice none 0 0, .slice none 0 0] := by rw [hx3]; exact (Bl.new (by simp))
          have fx : Fz x3 (u4.heap.size) := by rw [hx3]; exact (Fz.new (by simp))
          replace bp := Bl.ext hx bp (Nat.succ_pos _)
          replace bq := Bl.ext hx bq (Nat.succ_pos _)
          replace br := Bl.ext hx br (Nat.succ_pos _)
          replace hs3 := hs3.ext hx
          replace ht3 := ht3.ext hx
          replace hs4 := hs4.ext hx
          replace ht4 := ht4.ext hx
          replace HE := HE.trans hx
          clear hx
          clear hx3
          refine wpE_b rfl rfl (fun K hK => ?_)
          go_simp
          refine hK.out _ _ ?_
          clear hK K
          try simp only [Act.put, List.setIfInBounds_toArray, List.set_cons_zero, List.set_cons_succ]
          refine absE (fun x4 hx4 => ?_)
          have hbut : But x3 x4 (u4.heap.size) := by rw [hx4]; exact (But.refl _ _).store.store.store
          have hbn : Bl x4 (u4.heap.size) #[(.bool (decide (r5.num < 0))), .slice a4 n4 c4, .slice d4 m4 k4] := by rw [hx4]; exact (Bl.set (Bl.set (Bl.set bx (by simp)) (by simp)) (by simp))
          replace hs3 := hs3.but bx (not_ints3 nb_bool nb_slice nb_slice) hbut
          replace ht3 := ht3.but bx (not_ints3 nb_bool nb_slice nb_slice) hbut
          replace hs4 := hs4.but bx (not_ints3 nb_bool nb_slice nb_slice) hbut
          replace ht4 := ht4.but bx (not_ints3 nb_bool nb_slice nb_slice) hbut
          replace bp := But.bl hbut bp (Nat.succ_pos _) (by omega)
          replace bq := But.bl hbut bq (Nat.succ_pos _) (by omega)
          replace br := But.bl hbut br (Nat.succ_pos _) (by omega)
          replace fx : Fz x4 (u4.heap.size) := by rw [hx4]; exact (Fz.set (Fz.set (Fz.set fx)))
          replace HE : Ext x1 x4 := by rw [hx4]; exact (((HE.store (by show x1.heap.size ≤ u4.heap.size; omega) _).store (by show x1.heap.size ≤ u4.heap.size; omega) _).store (by show x1.heap.size ≤ u4.heap.size; omega) _)
          clear bx hbut hx4
          have bx := hbn
          clear hbn
          refine wpE_done ?_
          go_wp2_with fail
          go_meet
          exact ⟨u4.heap.size, a4, d4, n4, c4, m4, k4, rfl, bx, hs4, ht4, HE⟩
        · refine wpE_l rfl rfl (fun K hK => ?_)
          go_simp
          refine hK.out _ _ ((Ext.refl _).alloc _) ?_
          clear hK K
          try simp only [Act.put, List.setIfInBounds_toArray, List.set_cons_zero, List.set_cons_succ]
          have lpx := bp.lt (Nat.succ_pos _)
          have lqx := bq.lt (Nat.succ_pos _)
          have lrx := br.lt (Nat.succ_pos _)
          have l0x := HE.size
          refine absE (fun x3 hx3 => ?_)
          have hx : Ext u3 x3 := by rw [hx3]; exact ((Ext.refl _).alloc _)
          have bx : Bl x3 (u3.heap.size) #[.bool false, .slice none 0 0, .slice none 0 0] := by rw [hx3]; exact (Bl.new (by simp))
          have fx : Fz x3 (u3.heap.size) := by rw [hx3]; exact (Fz.new (by simp))
          replace bp := Bl.ext hx bp (Nat.succ_pos _)
          replace bq := Bl.ext hx bq (Nat.succ_pos _)
          replace br := Bl.ext hx br (Nat.succ_pos _)
          replace hs3 := hs3.ext hx
          replace ht3 := ht3.ext hx
          replace HE := HE.trans hx
          clear hx
          clear hx3
          refine wpE_l rfl rfl (fun K hK => ?_)
          go_simp
          refine (A5.out _ ((H.out.ext HE0.out).ext HE) _ _ _ _ _ _ _ (fq_of hs3 ht3 L1.out (by omega))).mono ?_
          rintro e u4 ⟨a4, n4, c4, d4, m4, k4, rfl, hs4, ht4, hx⟩
          refine hK.out _ _ hx ?_
          clear hK K
          try simp only [Act.put, List.setIfInBounds_toArray, List.set_cons_zero, List.set_cons_succ]
          replace bp := Bl.ext hx bp (Nat.succ_pos _)
          replace bq := Bl.ext hx bq (Nat.succ_pos _)
          replace br := Bl.ext hx br (Nat.succ_pos _)
          replace fx := Fz.ext hx fx bx (Nat.succ_pos _)
          replace bx := Bl.ext hx bx (Nat.succ_pos _)
          replace hs3 := hs3.ext hx
          replace ht3 := ht3.ext hx
          replace HE := HE.trans hx
          clear hx
          replace hs4 : Nc u4 a4 n4 c4 (r5.num).natAbs := hs4
          replace ht4 : Nc u4 d4 m4 k4 (r5.den) := ht4
          refine wpE_b rfl rfl (fun K hK => ?_)
          go_simp
          refine hK.out _ _ ?_
          clear hK K
          try simp only [Act.put, List.setIfInBounds_toArray, List.set_cons_zero, List.set_cons_succ]
          refine absE (fun x4 hx4 => ?_)
          have hbut : But u4 x4 (u3.heap.size) := by rw [hx4]; exact (But.refl _ _).store.store.store
          have hbn : Bl x4 (u3.heap.size) #[(.bool (decide (r5.num < 0))), .slice a4 n4 c4, .slice d4 m4 k4] := by rw [hx4]; exact (Bl.set (Bl.set (Bl.set bx (by simp)) (by simp)) (by simp))
          replace hs3 := hs3.but bx (not_ints3 nb_bool nb_slice nb_slice) hbut
          replace ht3 := ht3.but bx (not_ints3 nb_bool nb_slice nb_slice) hbut
          replace hs4 := hs4.but bx (not_ints3 nb_bool nb_slice nb_slice) hbut
          replace ht4 := ht4.but bx (not_ints3 nb_bool nb_slice nb_slice) hbut
          replace bp := But.bl hbut bp (Nat.succ_pos _) (by omega)
          replace bq := But.bl hbut bq (Nat.succ_pos _) (by omega)
          replace br := But.bl hbut br (Nat.succ_pos _) (by omega)
          replace fx : Fz x4 (u3.heap.size) := by rw [hx4]; exact (Fz.set (Fz.set (Fz.set fx)))
          replace HE : Ext x1 x4 := by rw [hx4]; exact (((HE.store (by show x1.heap.size ≤ u3.heap.size; omega) _).store (by show x1.heap.size ≤ u3.heap.size; omega) _).store (by show x1.heap.size ≤ u3.heap.size; omega) _)
          clear bx hbut hx4
          have bx := hbn
          clear hbn
          refine wpE_done ?_
          go_wp2_with fail
          go_meet
          exact ⟨u3.heap.size, a4, d4, n4, c4, m4, k4, rfl, bx, hs4, ht4, HE⟩
      · refine wpE_l rfl rfl (fun K hK => ?_)
        go_simp
        refine hK.out _ _ ((Ext.refl _).alloc _) ?_
        clear hK K
        try simp only [Act.put, List.setIfInBounds_toArray, List.set_cons_zero, List.set_cons_succ]
        have lpx := bp.lt (Nat.succ_pos _)
        have lqx := bq.lt (Nat.succ_pos _)
        have lrx := br.lt (Nat.succ_pos _)
        have l0x := HE.size
        refine absE (fun x3 hx3 => ?_)
        have hx : Ext x2 x3 := by rw [hx3]; exact ((Ext.refl _).alloc _)
        have bx : Bl x3 (x2.heap.size) #[.bool false, .slice none 0 0, .slice none 0 0] := by rw [hx3]; exact (Bl.new (by simp))
        have fx : Fz x3 (x2.heap.size) := by rw [hx3]; exact (Fz.new (by simp))
        replace bp := Bl.ext hx bp (Nat.succ_pos _)
        replace bq := Bl.ext hx bq (Nat.succ_pos _)
        replace br := Bl.ext hx br (Nat.succ_pos _)
        replace HE := HE.trans hx
        clear hx
        clear hx3
        refine wpE_l rfl rfl (fun K hK => ?_)
        go_simp
        refine (A1.out _ ((H'.out.ext HE0.out).ext HE) ((H''.out.ext HE0.out).ext HE)).mono ?_
        rintro e u3 ⟨a3, n3, c3, d3, m3, k3, rfl, hs3, ht3, hx⟩
        refine hK.out _ _ hx ?_
        clear hK K
        try simp only [Act.put, List.setIfInBounds_toArray, List.set_cons_zero, List.set_cons_succ]
        replace bp := Bl.ext hx bp (Nat.succ_pos _)
        replace bq := Bl.ext hx bq (Nat.succ_pos _)
        replace br := Bl.ext hx br (Nat.succ_pos _)
        replace fx := Fz.ext hx fx bx (Nat.succ_pos _)
        replace bx := Bl.ext hx bx (Nat.succ_pos _)
        replace HE := HE.trans hx
        clear hx
        replace hs3 : Nc u3 a3 n3 c3 (r1.num).natAbs := hs3
        replace ht3 : Nc u3 d3 m3 k3 (r1.den) := ht3
        refine wpE_l rfl rfl (fun K hK => ?_)
        go_simp
        refine (A5.out _ ((H.out.ext HE0.out).ext HE) _ _ _ _ _ _ _ (fq_of hs3 ht3 L1.out (by omega))).mono ?_
        rintro e u4 ⟨a4, n4, c4, d4, m4, k4, rfl, hs4, ht4, hx⟩
        refine hK.out _ _ hx ?_
        clear hK K
        try simp only [Act.put, List.setIfInBounds_toArray, List.set_cons_zero, List.set_cons_succ]
        replace bp := Bl.ext hx bp (Nat.succ_pos _)
        replace bq := Bl.ext hx bq (Nat.succ_pos _)
        replace br := Bl.ext hx br (Nat.succ_pos _)
        replace fx := Fz.ext hx fx bx (Nat.succ_pos _)
        replace bx := Bl.ext hx bx (Nat.succ_pos _)
        replace hs3 := hs3.ext hx
        replace ht3 := ht3.ext hx
        replace HE := HE.trans hx
        clear hx
        replace hs4 : Nc u4 a4 n4 c4 (r5.num).natAbs := hs4
        replace ht4 : Nc u4 d4 m4 k4 (r5.den) := ht4
        refine wpE_b rfl rfl (fun K hK => ?_)
        go_simp
        refine hK.out _ _ ?_
        clear hK K
        try simp only [Act.put, List.setIfInBounds_toArray, List.set_cons_zero, List.set_cons_succ]
        refine absE (fun x4 hx4 => ?_)
        have hbut : But u4 x4 (x2.heap.size) := by rw [hx4]; exact (But.refl _ _).store.store.store
        have hbn : Bl x4 (x2.heap.size) #[(.bool (decide (r5.num < 0))), .slice a4 n4 c4, .slice d4 m4 k4] := by rw [hx4]; exact (Bl.set (Bl.set (Bl.set bx (by simp)) (by simp)) (by simp))
        replace hs3 := hs3.but bx (not_ints3 nb_bool nb_slice nb_slice) hbut
        replace ht3 := ht3.but bx (not_ints3 nb_bool nb_slice nb_slice) hbut
        replace hs4 := hs4.but bx (not_ints3 nb_bool nb_slice nb_slice) hbut
        replace ht4 := ht4.but bx (not_ints3 nb_bool nb_slice nb_slice) hbut
        replace bp := But.bl hbut bp (Nat.succ_pos _) (by omega)
        replace bq := But.bl hbut bq (Nat.succ_pos _) (by omega)
        replace br := But.bl hbut br (Nat.succ_pos _) (by omega)
        replace fx : Fz x4 (x2.heap.size) := by rw [hx4]; exact (Fz.set (Fz.set (Fz.set fx)))
        replace HE : Ext x1 x4 := by rw [hx4]; exact (((HE.store (by show x1.heap.size ≤ x2.heap.size; omega) _).store (by show x1.heap.size ≤ x2.heap.size; omega) _).store (by show x1.heap.size ≤ x2.heap.size; omega) _)
        clear bx hbut hx4
        have bx := hbn
        clear hbn
        refine wpE_done ?_
        go_wp2_with fail
        go_meet
        exact ⟨x2.heap.size, a4, d4, n4, c4, m4, k4, rfl, bx, hs4, ht4, HE⟩
    case rest =>
      obtain ⟨gx, ax, dx, nx, cx, mx, kx, rfl, bx, hsx, htx, hx⟩ := hcut
      replace bp := Bl.ext hx bp (Nat.succ_pos _)
      replace bq := Bl.ext hx bq (Nat.succ_pos _)
      replace br := Bl.ext hx br (Nat.succ_pos _)
      replace HE := HE.trans hx
      clear hx
      go_upto_region 2 with fail
      go_cut [8] (fun vv wx => ∃ (gv : Nat) (av dv : Option Addr) (nv cv mv kv : Nat), vv = .pointer (some ⟨gv, 0, none⟩) ∧ Bl wx gv #[.bool (decide (r5.num < 0)), .slice av nv cv, .slice dv mv kv] ∧ Nc wx av nv cv (r5.num).natAbs ∧ Nc wx dv mv kv (r5.den) ∧ Ext wc wx)
      case first =>
        have HE0 := hidP HE
        clear HE
        have HE := Ext.refl wc
        refine wp_region_plan (R := Ext) (.q 0 (.q 1 (.q 3 (.q 4 (.br 2 (.br 5 (.br 6 (.l 7 (.b 8 .done)) (.l 7 (.l 6 (.b 8 .done)))) (.l 7 (.l 5 (.l 6 (.b 8 .done))))) (.l 7 (.l 2 (.l 5 (.l 6 (.b 8 .done)))))))))) (by kernel_rfl) (by kernel_rfl) (by kernel_rfl) (by kernel_rfl) Ext.refl (fun _ _ _ => Ext.trans) ?_
        refine absE (fun x2 hx2 => ?_)
        have hx : Ext wc x2 := by rw [hx2]; exact (Ext.refl _).drew
        replace bp := Bl.ext hx bp (Nat.succ_pos _)
        replace bq := Bl.ext hx bq (Nat.succ_pos _)
        replace br := Bl.ext hx br (Nat.succ_pos _)
        replace bx := Bl.ext hx bx (Nat.succ_pos _)
        replace hsx := hsx.ext hx
        replace htx := htx.ext hx
        replace HE := HE.trans hx
        clear hx
        clear hx2
        repeat (refine wpE_q (v := ?_) rfl rfl (fun u hu => ?_) ?_; rotate_left 1; (focus (have kp := Bl.ext hu bp (Nat.succ_pos _); have kq := Bl.ext hu bq (Nat.succ_pos _); have kr := Bl.ext hu br (Nat.succ_pos _); have kx := Bl.ext hu bx (Nat.succ_pos _); go_simp; (try rfl))); simp only [Act.put, List.setIfInBounds_toArray, List.set_cons_zero, List.set_cons_succ])
        refine wpE_br rfl rfl (fun K hK => ?_) ?_
        · go_simp
          refine (A2.out _ ((H.out.ext HE0.out).ext HE) ((H'.out.ext HE0.out).ext HE)).mono ?_
          rintro e u2 ⟨a2, n2, c2, d2, m2, k2, rfl, hs2, ht2, hx⟩
          refine hK.out _ _ hx ?_
          clear hK K
          try simp only [Act.put, List.setIfInBounds_toArray, List.set_cons_zero, List.set_cons_succ]
          replace bp := Bl.ext hx bp (Nat.succ_pos _)
          replace bq := Bl.ext hx bq (Nat.succ_pos _)
          replace br := Bl.ext hx br (Nat.succ_pos _)
          replace bx := Bl.ext hx bx (Nat.succ_pos _)
          replace hsx := hsx.ext hx
          replace htx := htx.ext hx
          replace HE := HE.trans hx
          clear hx
          replace hs2 : Nc u2 a2 n2 c2 (r2.num).natAbs := hs2
          replace ht2 : Nc u2 d2 m2 k2 (r2.den) := ht2
          refine wpE_br rfl rfl (fun K hK => ?_) ?_
          · go_simp
            refine (A3.out _ ((H.out.ext HE0.out).ext HE) ((H''.out.ext HE0.out).ext HE)).mono ?_
            rintro e u5 ⟨a5, n5, c5, d5, m5, k5, rfl, hs5, ht5, hx⟩
            refine hK.out _ _ hx ?_
            clear hK K
            try simp only [Act.put, List.setIfInBounds_toArray, List.set_cons_zero, List.set_cons_succ]
            replace bp := Bl.ext hx bp (Nat.succ_pos _)
            replace bq := Bl.ext hx bq (Nat.succ_pos _)
            replace br := Bl.ext hx br (Nat.succ_pos _)
            replace bx := Bl.ext hx bx (Nat.succ_pos _)
            replace hsx := hsx.ext hx
            replace htx := htx.ext hx
            replace hs2 := hs2.ext hx
            replace ht2 := ht2.ext hx
            replace HE := HE.trans hx
            clear hx
            replace hs5 : Nc u5 a5 n5 c5 (r3.num).natAbs := hs5
            replace ht5 : Nc u5 d5 m5 k5 (r3.den) := ht5
            refine wpE_br rfl rfl (fun K hK => ?_) ?_
            · go_simp
              refine (A6.out _ _ _ _ _ _ _ _ (fq_of hs2 ht2 L2.out (by omega)) _ _ _ _ _ _ _ (fq_of hs5 ht5 L3.out (by omega))).mono ?_
              rintro e u6 ⟨a6, n6, c6, d6, m6, k6, rfl, hs6, ht6, hx⟩
              refine hK.out _ _ hx ?_
              clear hK K
              try simp only [Act.put, List.setIfInBounds_toArray, List.set_cons_zero, List.set_cons_succ]
              replace bp := Bl.ext hx bp (Nat.succ_pos _)
              replace bq := Bl.ext hx bq (Nat.succ_pos _)
              replace br := Bl.ext hx br (Nat.succ_pos _)
              replace bx := Bl.ext hx bx (Nat.succ_pos _)
              replace hsx := hsx.ext hx
              replace htx := htx.ext hx
              replace hs2 := hs2.ext hx
              replace ht2 := ht2.ext hx
              replace hs5 := hs5.ext hx
              replace ht5 := ht5.ext hx
              replace HE := HE.trans hx
              clear hx
              replace hs6 : Nc u6 a6 n6 c6 (r5.num).natAbs := hs6
              replace ht6 : Nc u6 d6 m6 k6 (r5.den) := ht6
              refine wpE_l rfl rfl (fun K hK => ?_)
              go_simp
              refine hK.out _ _ ((Ext.refl _).alloc _) ?_
              clear hK K
              try simp only [Act.put, List.setIfInBounds_toArray, List.set_cons_zero, List.set_cons_succ]
              have lpv := bp.lt (Nat.succ_pos _)
              have lqv := bq.lt (Nat.succ_pos _)
              have lrv := br.lt (Nat.succ_pos _)
              have lxv := bx.lt (Nat.succ_pos _)
              have l0v := HE.size
              refine absE (fun x3 hx3 => ?_)
              have hx : Ext u6 x3 := by rw [hx3]; exact ((Ext.refl _).alloc _)
              have bv : Bl x3 (u6.heap.size) #[.bool false, .slice none 0 0, .slice none 0 0] := by rw [hx3]; exact (Bl.new (by simp))
              have fv : Fz x3 (u6.heap.size) := by rw [hx3]; exact (Fz.new (by simp))
              replace bp := Bl.ext hx bp (Nat.succ_pos _)
              replace bq := Bl.ext hx bq (Nat.succ_pos _)
              replace br := Bl.ext hx br (Nat.succ_pos _)
              replace bx := Bl.ext hx bx (Nat.succ_pos _)
              replace hsx := hsx.ext hx
              replace htx := htx.ext hx
              replace hs2 := hs2.ext hx
              replace ht2 := ht2.ext hx
              replace hs5 := hs5.ext hx
              replace ht5 := ht5.ext hx
              replace hs6 := hs6.ext hx
              replace ht6 := ht6.ext hx
              replace HE := HE.trans hx
              clear hx
              clear hx3
              refine wpE_b rfl rfl (fun K hK => ?_)
              go_simp
              refine hK.out _ _ ?_
              clear hK K
              try simp only [Act.put, List.setIfInBounds_toArray, List.set_cons_zero, List.set_cons_succ]
              refine absE (fun x4 hx4 => ?_)
              have hbut : But x3 x4 (u6.heap.size) := by rw [hx4]; exact (But.refl _ _).store.store.store
              have hbn : Bl x4 (u6.heap.size) #[(.bool (decide (r5.num < 0))), .slice a6 n6 c6, .slice d6 m6 k6] := by rw [hx4]; exact (Bl.set (Bl.set (Bl.set bv (by simp)) (by simp)) (by simp))
              replace hsx := hsx.but bv (not_ints3 nb_bool nb_slice nb_slice) hbut
              replace htx := htx.but bv (not_ints3 nb_bool nb_slice nb_slice) hbut
              replace hs2 := hs2.but bv (not_ints3 nb_bool nb_slice nb_slice) hbut
              replace ht2 := ht2.but bv (not_ints3 nb_bool nb_slice nb_slice) hbut
              replace hs5 := hs5.but bv (not_ints3 nb_bool nb_slice nb_slice) hbut
              replace ht5 := ht5.but bv (not_ints3 nb_bool nb_slice nb_slice) hbut
              replace hs6 := hs6.but bv (not_ints3 nb_bool nb_slice nb_slice) hbut
              replace ht6 := ht6.but bv (not_ints3 nb_bool nb_slice nb_slice) hbut
              replace bp := But.bl hbut bp (Nat.succ_pos _) (by omega)
              replace bq := But.bl hbut bq (Nat.succ_pos _) (by omega)
              replace br := But.bl hbut br (Nat.succ_pos _) (by omega)
              replace bx := But.bl hbut bx (Nat.succ_pos _) (by omega)
              replace fv : Fz x4 (u6.heap.size) := by rw [hx4]; exact (Fz.set (Fz.set (Fz.set fv)))
              replace HE : Ext wc x4 := by rw [hx4]; exact (((HE.store (by show wc.heap.size ≤ u6.heap.size; omega) _).store (by show wc.heap.size ≤ u6.heap.size; omega) _).store (by show wc.heap.size ≤ u6.heap.size; omega) _)
              clear bv hbut hx4
              have bv := hbn
              clear hbn
              refine wpE_done ?_
              go_wp2_with fail
              go_meet
              exact ⟨u6.heap.size, a6, d6, n6, c6, m6, k6, rfl, bv, hs6, ht6, HE⟩
            · refine wpE_l rfl rfl (fun K hK => ?_)
              go_simp
              refine hK.out _ _ ((Ext.refl _).alloc _) ?_
              clear hK K
              try simp only [Act.put, List.setIfInBounds_toArray, List.set_cons_zero, List.set_cons_succ]
              have lpv := bp.lt (Nat.succ_pos _)
              have lqv := bq.lt (Nat.succ_pos _)
              have lrv := br.lt (Nat.succ_pos _)
              have lxv := bx.lt (Nat.succ_pos _)
              have l0v := HE.size
              refine absE (fun x3 hx3 => ?_)
              have hx : Ext u5 x3 := by rw [hx3]; exact ((Ext.refl _).alloc _)
              have bv : Bl x3 (u5.heap.size) #[.bool false, .slice none 0 0, .slice none 0 0] := by rw [hx3]; exact (Bl.new (by simp))
              have fv : Fz x3 (u5.heap.size) := by rw [hx3]; exact (Fz.new (by simp))
              replace bp := Bl.ext hx bp (Nat.succ_pos _)
              replace bq := Bl.ext hx bq (Nat.succ_pos _)
              replace br := Bl.ext hx br (Nat.succ_pos _)
              replace bx := Bl.ext hx bx (Nat.succ_pos _)
              replace hsx := hsx.ext hx
              replace htx := htx.ext hx
              replace hs2 := hs2.ext hx
              replace ht2 := ht2.ext hx
              replace hs5 := hs5.ext hx
              replace ht5 := ht5.ext hx
              replace HE := HE.trans hx
              clear hx
              clear hx3
              refine wpE_l rfl rfl (fun K hK => ?_)
              go_simp
              refine (A6.out _ _ _ _ _ _ _ _ (fq_of hs2 ht2 L2.out (by omega)) _ _ _ _ _ _ _ (fq_of hs5 ht5 L3.out (by omega))).mono ?_
              rintro e u6 ⟨a6, n6, c6, d6, m6, k6, rfl, hs6, ht6, hx⟩
              refine hK.out _ _ hx ?_
              clear hK K
              try simp only [Act.put, List.setIfInBounds_toArray, List.set_cons_zero, List.set_cons_succ]
              replace bp := Bl.ext hx bp (Nat.succ_pos _)
              replace bq := Bl.ext hx bq (Nat.succ_pos _)
              replace br := Bl.ext hx br (Nat.succ_pos _)
              replace bx := Bl.ext hx bx (Nat.succ_pos _)
              replace fv := Fz.ext hx fv bv (Nat.succ_pos _)
              replace bv := Bl.ext hx bv (Nat.succ_pos _)
              replace hsx := hsx.ext hx
              replace htx := htx.ext hx
              replace hs2 := hs2.ext hx
              replace ht2 := ht2.ext hx
              replace hs5 := hs5.ext hx
              replace ht5 := ht5.ext hx
              replace HE := HE.trans hx
              clear hx
              replace hs6 : Nc u6 a6 n6 c6 (r5.num).natAbs := hs6
              replace ht6 : Nc u6 d6 m6 k6 (r5.den) := ht6
              refine wpE_b rfl rfl (fun K hK => ?_)
              go_simp
              refine hK.out _ _ ?_
              clear hK K
              try simp only [Act.put, List.setIfInBounds_toArray, List.set_cons_zero, List.set_cons_succ]
              refine absE (fun x4 hx4 => ?_)
              have hbut : But u6 x4 (u5.heap.size) := by rw [hx4]; exact (But.refl _ _).store.store.store
              have hbn : Bl x4 (u5.heap.size) #[(.bool (decide (r5.num < 0))), .slice a6 n6 c6, .slice d6 m6 k6] := by rw [hx4]; exact (Bl.set (Bl.set (Bl.set bv (by simp)) (by simp)) (by simp))
              replace hsx := hsx.but bv (not_ints3 nb_bool nb_slice nb_slice) hbut
              replace htx := htx.but bv (not_ints3 nb_bool nb_slice nb_slice) hbut
              replace hs2 := hs2.but bv (not_ints3 nb_bool nb_slice nb_slice) hbut
              replace ht2 := ht2.but bv (not_ints3 nb_bool nb_slice nb_slice) hbut
              replace hs5 := hs5.but bv (not_ints3 nb_bool nb_slice nb_slice) hbut
              replace ht5 := ht5.but bv (not_ints3 nb_bool nb_slice nb_slice) hbut
              replace hs6 := hs6.but bv (not_ints3 nb_bool nb_slice nb_slice) hbut
              replace ht6 := ht6.but bv (not_ints3 nb_bool nb_slice nb_slice) hbut
              replace bp := But.bl hbut bp (Nat.succ_pos _) (by omega)
              replace bq := But.bl hbut bq (Nat.succ_pos _) (by omega)
              replace br := But.bl hbut br (Nat.succ_pos _) (by omega)
              replace bx := But.bl hbut bx (Nat.succ_pos _) (by omega)
              replace fv : Fz x4 (u5.heap.size) := by rw [hx4]; exact (Fz.set (Fz.set (Fz.set fv)))
              replace HE : Ext wc x4 := by rw [hx4]; exact (((HE.store (by show wc.heap.size ≤ u5.heap.size; omega) _).store (by show wc.heap.size ≤ u5.heap.size; omega) _).store (by show wc.heap.size ≤ u5.heap.size; omega) _)
              clear bv hbut hx4
              have bv := hbn
              clear hbn
              refine wpE_done ?_
              go_wp2_with fail
              go_meet
              exact ⟨u5.heap.size, a6, d6, n6, c6, m6, k6, rfl, bv, hs6, ht6, HE⟩
          · refine wpE_l rfl rfl (fun K hK => ?_)
            go_simp
            refine hK.out _ _ ((Ext.refl _).alloc _) ?_
            clear hK K
            try simp only [Act.put, List.setIfInBounds_toArray, List.set_cons_zero, List.set_cons_succ]
            have lpv := bp.lt (Nat.succ_pos _)
            have lqv := bq.lt (Nat.succ_pos _)
            have lrv := br.lt (Nat.succ_pos _)
            have lxv := bx.lt (Nat.succ_pos _)
            have l0v := HE.size
            refine absE (fun x3 hx3 => ?_)
            have hx : Ext u2 x3 := by rw [hx3]; exact ((Ext.refl _).alloc _)
            have bv : Bl x3 (u2.heap.size) #[.bool false, .slice none 0 0, .slice none 0 0] := by rw [hx3]; exact (Bl.new (by simp))
            have fv : Fz x3 (u2.heap.size) := by rw [hx3]; exact (Fz.new (by simp))
            replace bp := Bl.ext hx bp (Nat.succ_pos _)
            replace bq := Bl.ext hx bq (Nat.succ_pos _)
            replace br := Bl.ext hx br (Nat.succ_pos _)
            replace bx := Bl.ext hx bx (Nat.succ_pos _)
            replace hsx := hsx.ext hx
            replace htx := htx.ext hx
            replace hs2 := hs2.ext hx
            replace ht2 := ht2.ext hx
            replace HE := HE.trans hx
            clear hx
            clear hx3
            refine wpE_l rfl rfl (fun K hK => ?_)
            go_simp
            refine (A3.out _ ((H.out.ext HE0.out).ext HE) ((H''.out.ext HE0.out).ext HE)).mono ?_
            rintro e u5 ⟨a5, n5, c5, d5, m5, k5, rfl, hs5, ht5, hx⟩
            refine hK.out _ _ hx ?_
            clear hK K
            try simp only [Act.put, List.setIfInBounds_toArray, List.set_cons_zero, List.set_cons_succ]
            replace bp := Bl.ext hx bp (Nat.succ_pos _)
            replace bq := Bl.ext hx bq (Nat.succ_pos _)
            replace br := Bl.ext hx br (Nat.succ_pos _)
            replace bx := Bl.ext hx bx (Nat.succ_pos _)
            replace fv := Fz.ext hx fv bv (Nat.succ_pos _)
            replace bv := Bl.ext hx bv (Nat.succ_pos _)
            replace hsx := hsx.ext hx
            replace htx := htx.ext hx
            replace hs2 := hs2.ext hx
            replace ht2 := ht2.ext hx
            replace HE := HE.trans hx
            clear hx
            replace hs5 : Nc u5 a5 n5 c5 (r3.num).natAbs := hs5
            replace ht5 : Nc u5 d5 m5 k5 (r3.den) := ht5
            refine wpE_l rfl rfl (fun K hK => ?_)
            go_simp
            refine (A6.out _ _ _ _ _ _ _ _ (fq_of hs2 ht2 L2.out (by omega)) _ _ _ _ _ _ _ (fq_of hs5 ht5 L3.out (by omega))).mono ?_
            rintro e u6 ⟨a6, n6, c6, d6, m6, k6, rfl, hs6, ht6, hx⟩
            refine hK.out _ _ hx ?_
            clear hK K
            try simp only [Act.put, List.setIfInBounds_toArray, List.set_cons_zero, List.set_cons_succ]
            replace bp := Bl.ext hx bp (Nat.succ_pos _)
            replace bq := Bl.ext hx bq (Nat.succ_pos _)
            replace br := Bl.ext hx br (Nat.succ_pos _)
            replace bx := Bl.ext hx bx (Nat.succ_pos _)
            replace fv := Fz.ext hx fv bv (Nat.succ_pos _)
            replace bv := Bl.ext hx bv (Nat.succ_pos _)
            replace hsx := hsx.ext hx
            replace htx := htx.ext hx
            replace hs2 := hs2.ext hx
            replace ht2 := ht2.ext hx
            replace hs5 := hs5.ext hx
            replace ht5 := ht5.ext hx
            replace HE := HE.trans hx
            clear hx
            replace hs6 : Nc u6 a6 n6 c6 (r5.num).natAbs := hs6
            replace ht6 : Nc u6 d6 m6 k6 (r5.den) := ht6
            refine wpE_b rfl rfl (fun K hK => ?_)
            go_simp
            refine hK.out _ _ ?_
            clear hK K
            try simp only [Act.put, List.setIfInBounds_toArray, List.set_cons_zero, List.set_cons_succ]
            refine absE (fun x4 hx4 => ?_)
            have hbut : But u6 x4 (u2.heap.size) := by rw [hx4]; exact (But.refl _ _).store.store.store
            have hbn : Bl x4 (u2.heap.size) #[(.bool (decide (r5.num < 0))), .slice a6 n6 c6, .slice d6 m6 k6] := by rw [hx4]; exact (Bl.set (Bl.set (Bl.set bv (by simp)) (by simp)) (by simp))
            replace hsx := hsx.but bv (not_ints3 nb_bool nb_slice nb_slice) hbut
            replace htx := htx.but bv (not_ints3 nb_bool nb_slice nb_slice) hbut
            replace hs2 := hs2.but bv (not_ints3 nb_bool nb_slice nb_slice) hbut
            replace ht2 := ht2.but bv (not_ints3 nb_bool nb_slice nb_slice) hbut
            replace hs5 := hs5.but bv (not_ints3 nb_bool nb_slice nb_slice) hbut
            replace ht5 := ht5.but bv (not_ints3 nb_bool nb_slice nb_slice) hbut
            replace hs6 := hs6.but bv (not_ints3 nb_bool nb_slice nb_slice) hbut
            replace ht6 := ht6.but bv (not_ints3 nb_bool nb_slice nb_slice) hbut
            replace bp := But.bl hbut bp (Nat.succ_pos _) (by omega)
            replace bq := But.bl hbut bq (Nat.succ_pos _) (by omega)
            replace br := But.bl hbut br (Nat.succ_pos _) (by omega)
            replace bx := But.bl hbut bx (Nat.succ_pos _) (by omega)
            replace fv : Fz x4 (u2.heap.size) := by rw [hx4]; exact (Fz.set (Fz.set (Fz.set fv)))
            replace HE : Ext wc x4 := by rw [hx4]; exact (((HE.store (by show wc.heap.size ≤ u2.heap.size; omega) _).store (by show wc.heap.size ≤ u2.heap.size; omega) _).store (by show wc.heap.size ≤ u2.heap.size; omega) _)
            clear bv hbut hx4
            have bv := hbn
            clear hbn
            refine wpE_done ?_
            go_wp2_with fail
            go_meet
            exact ⟨u2.heap.size, a6, d6, n6, c6, m6, k6, rfl, bv, hs6, ht6, HE⟩
        · refine wpE_l rfl rfl (fun K hK => ?_)
          go_simp
          refine hK.out _ _ ((Ext.refl _).alloc _) ?_
          clear hK K
          try simp only [Act.put, List.setIfInBounds_toArray, List.set_cons_zero, List.set_cons_succ]
          have lpv := bp.lt (Nat.succ_pos _)
          have lqv := bq.lt (Nat.succ_pos _)
          have lrv := br.lt (Nat.succ_pos _)
          have lxv := bx.lt (Nat.succ_pos _)
          have l0v := HE.size
          refine absE (fun x3 hx3 => ?_)
          have hx : Ext x2 x3 := by rw [hx3]; exact ((Ext.refl _).alloc _)
          have bv : Bl x3 (x2.heap.size) #[.bool false, .slice none 0 0, .slice none 0 0] := by rw [hx3]; exact (Bl.new (by simp))
          have fv : Fz x3 (x2.heap.size) := by rw [hx3]; exact (Fz.new (by simp))
          replace bp := Bl.ext hx bp (Nat.succ_pos _)
          replace bq := Bl.ext hx bq (Nat.succ_pos _)
          replace br := Bl.ext hx br (Nat.succ_pos _)
          replace bx := Bl.ext hx bx (Nat.succ_pos _)
          replace hsx := hsx.ext hx
          replace htx := htx.ext hx
          replace HE := HE.trans hx
          clear hx
          clear hx3
          refine wpE_l rfl rfl (fun K hK => ?_)
          go_simp
          refine (A2.out _ ((H.out.ext HE0.out).ext HE) ((H'.out.ext HE0.out).ext HE)).mono ?_
          rintro e u2 ⟨a2, n2, c2, d2, m2, k2, rfl, hs2, ht2, hx⟩
          refine hK.out _ _ hx ?_
          clear hK K
          try simp only [Act.put, List.setIfInBounds_toArray, List.set_cons_zero, List.set_cons_succ]
          replace bp := Bl.ext hx bp (Nat.succ_pos _)
          replace bq := Bl.ext hx bq (Nat.succ_pos _)
          replace br := Bl.ext hx br (Nat.succ_pos _)
          replace bx := Bl.ext hx bx (Nat.succ_pos _)
          replace fv := Fz.ext hx fv bv (Nat.succ_pos _)
          replace bv := Bl.ext hx bv (Nat.succ_pos _)
          replace hsx := hsx.ext hx
          replace htx := htx.ext hx
          replace HE := HE.trans hx
          clear hx
          replace hs2 : Nc u2 a2 n2 c2 (r2.num).natAbs := hs2
          replace ht2 : Nc u2 d2 m2 k2 (r2.den) := ht2
          refine wpE_l rfl rfl (fun K hK => ?_)
          go_simp
          refine (A3.out _ ((H.out.ext HE0.out).ext HE) ((H''.out.ext HE0.out).ext HE)).mono ?_
          rintro e u5 ⟨a5, n5, c5, d5, m5, k5, rfl, hs5, ht5, hx⟩
          refine hK.out _ _ hx ?_
          clear hK K
          try simp only [Act.put, List.setIfInBounds_toArray, List.set_cons_zero, List.set_cons_succ]
          replace bp := Bl.ext hx bp (Nat.succ_pos _)
          replace bq := Bl.ext hx bq (Nat.succ_pos _)
          replace br := Bl.ext hx br (Nat.succ_pos _)
          replace bx := Bl.ext hx bx (Nat.succ_pos _)
          replace fv := Fz.ext hx fv bv (Nat.succ_pos _)
          replace bv := Bl.ext hx bv (Nat.succ_pos _)
          replace hsx := hsx.ext hx
          replace htx := htx.ext hx
          replace hs2 := hs2.ext hx
          replace ht2 := ht2.ext hx
          replace HE := HE.trans hx
          clear hx
          replace hs5 : Nc u5 a5 n5 c5 (r3.num).natAbs := hs5
          replace ht5 : Nc u5 d5 m5 k5 (r3.den) := ht5
          refine wpE_l rfl rfl (fun K hK => ?_)
          go_simp
          refine (A6.out _ _ _ _ _ _ _ _ (fq_of hs2 ht2 L2.out (by omega)) _ _ _ _ _ _ _ (fq_of hs5 ht5 L3.out (by omega))).mono ?_
          rintro e u6 ⟨a6, n6, c6, d6, m6, k6, rfl, hs6, ht6, hx⟩
          refine hK.out _ _ hx ?_
          clear hK K
          try simp only [Act.put, List.setIfInBounds_toArray, List.set_cons_zero, List.set_cons_succ]
          replace bp := Bl.ext hx bp (Nat.succ_pos _)
          replace bq := Bl.ext hx bq (Nat.succ_pos _)
          replace br := Bl.ext hx br (Nat.succ_pos _)
          replace bx := Bl.ext hx bx (Nat.succ_pos _)
          replace fv := Fz.ext hx fv bv (Nat.succ_pos _)
          replace bv := Bl.ext hx bv (Nat.succ_pos _)
          replace hsx := hsx.ext hx
          replace htx := htx.ext hx
          replace hs2 := hs2.ext hx
          replace ht2 := ht2.ext hx
          replace hs5 := hs5.ext hx
          replace ht5 := ht5.ext hx
          replace HE := HE.trans hx
          clear hx
          replace hs6 : Nc u6 a6 n6 c6 (r5.num).natAbs := hs6
          replace ht6 : Nc u6 d6 m6 k6 (r5.den) := ht6
          refine wpE_b rfl rfl (fun K hK => ?_)
          go_simp
          refine hK.out _ _ ?_
          clear hK K
          try simp only [Act.put, List.setIfInBounds_toArray, List.set_cons_zero, List.set_cons_succ]
          refine absE (fun x4 hx4 => ?_)
          have hbut : But u6 x4 (x2.heap.size) := by rw [hx4]; exact (But.refl _ _).store.store.store
          have hbn : Bl x4 (x2.heap.size) #[(.bool (decide (r5.num < 0))), .slice a6 n6 c6, .slice d6 m6 k6] := by rw [hx4]; exact (Bl.set (Bl.set (Bl.set bv (by simp)) (by simp)) (by simp))
          replace hsx := hsx.but bv (not_ints3 nb_bool nb_slice nb_slice) hbut
          replace htx := htx.but bv (not_ints3 nb_bool nb_slice nb_slice) hbut
          replace hs2 := hs2.but bv (not_ints3 nb_bool nb_slice nb_slice) hbut
          replace ht2 := ht2.but bv (not_ints3 nb_bool nb_slice nb_slice) hbut
          replace hs5 := hs5.but bv (not_ints3 nb_bool nb_slice nb_slice) hbut
          replace ht5 := ht5.but bv (not_ints3 nb_bool nb_slice nb_slice) hbut
          replace hs6 := hs6.but bv (not_ints3 nb_bool nb_slice nb_slice) hbut
          replace ht6 := ht6.but bv (not_ints3 nb_bool nb_slice nb_slice) hbut
          replace bp := But.bl hbut bp (Nat.succ_pos _) (by omega)
          replace bq := But.bl hbut bq (Nat.succ_pos _) (by omega)
          replace br := But.bl hbut br (Nat.succ_pos _) (by omega)
          replace bx := But.bl hbut bx (Nat.succ_pos _) (by omega)
          replace fv : Fz x4 (x2.heap.size) := by rw [hx4]; exact (Fz.set (Fz.set (Fz.set fv)))
          replace HE : Ext wc x4 := by rw [hx4]; exact (((HE.store (by show wc.heap.size ≤ x2.heap.size; omega) _).store (by show wc.heap.size ≤ x2.heap.size; omega) _).store (by show wc.heap.size ≤ x2.heap.size; omega) _)
          clear bv hbut hx4
          have bv := hbn
          clear hbn
          refine wpE_done ?_
          go_wp2_with fail
          go_meet
          exact ⟨x2.heap.size, a6, d6, n6, c6, m6, k6, rfl, bv, hs6, ht6, HE⟩
      case rest =>
        obtain ⟨gv, av, dv, nv, cv, mv, kv, rfl, bv, hsv, htv, hx⟩ := hcut
        replace bp := Bl.ext hx bp (Nat.succ_pos _)
        replace bq := Bl.ext hx bq (Nat.succ_pos _)
        replace br := Bl.ext hx br (Nat.succ_pos _)
        replace bx := Bl.ext hx bx (Nat.succ_pos _)
        replace hsx := hsx.ext hx
        replace htx := htx.ext hx
        replace HE := HE.trans hx
        clear hx
        go_upto_region 3 with fail
        go_cut [9, 10] (fun vh ve wx => ∃ (gh : Nat) (ah dh : Option Addr) (nh ch mh kh : Nat), vh = .pointer (some ⟨gh, 0, none⟩) ∧ ve = .int .i64 5 ∧ Bl wx gh #[.bool (decide ((0 : Int) < 0)), .slice ah nh ch, .slice dh mh kh] ∧ Nc wx ah nh ch ((0 : Int)).natAbs ∧ Nc wx dh mh kh ((0 : Nat)) ∧ Ext wc wx)
        case first =>
          have HE0 := hidP HE
          clear HE
          have HE := Ext.refl wc
          have lop := bp.lt (Nat.succ_pos _)
          have loq := bq.lt (Nat.succ_pos _)
          have lor := br.lt (Nat.succ_pos _)
          have lox := bx.lt (Nat.succ_pos _)
          have lov := bv.lt (Nat.succ_pos _)
          have hlo : wc.heap.size ≤ wc.heap.size := Nat.le_refl _
          refine wp_region_plan (R := Below wc.heap.size) (.q 0 (.q 1 (.q 3 (.br 2 (.br 4 (.q 5 (.q 6 (.q 7 (.l 8 (.l 9 (.q 10 .done)))))) (.l 8 (.l 4 (.q 5 (.q 6 (.q 7 (.l 9 (.q 10 .done)))))))) (.l 8 (.l 2 (.l 4 (.q 5 (.q 6 (.q 7 (.l 9 (.q 10 .done)))))))))))) (by kernel_rfl) (by kernel_rfl) (by kernel_rfl) (by kernel_rfl) (Below.refl _) (fun _ _ _ => Below.trans) ?_
          refine absE (fun x2 hx2 => ?_)
          have hx : Ext wc x2 := by rw [hx2]; exact (Ext.refl _).drew
          replace hlo := Nat.le_trans hlo hx.size
          replace bp := Bl.ext hx bp (Nat.succ_pos _)
          replace bq := Bl.ext hx bq (Nat.succ_pos _)
          replace br := Bl.ext hx br (Nat.succ_pos _)
          replace bx := Bl.ext hx bx (Nat.succ_pos _)
          replace bv := Bl.ext hx bv (Nat.succ_pos _)
          replace hsx := hsx.ext hx
          replace htx := htx.ext hx
          replace hsv := hsv.ext hx
          replace htv := htv.ext hx
          replace HE := HE.trans hx
          clear hx
          clear hx2
          repeat (refine wpE_q (v := ?_) rfl rfl (fun u hu => ?_) ?_; rotate_left 1; (focus (have kp := Bl.low hu bp lop; have kq := Bl.low hu bq loq; have kr := Bl.low hu br lor; have kx := Bl.low hu bx lox; have kv := Bl.low hu bv lov; go_simp; (try rfl))); simp only [Act.put, List.setIfInBounds_toArray, List.set_cons_zero, List.set_cons_succ])
          refine wpE_br rfl rfl (fun K hK => ?_) ?_
          · go_simp
            refine (A2.out _ ((H.out.ext HE0.out).ext HE) ((H'.out.ext HE0.out).ext HE)).mono ?_
            rintro e u2 ⟨a2, n2, c2, d2, m2, k2, rfl, hs2, ht2, hx⟩
            refine hK.out _ _ (Below.mono hx hlo) ?_
            clear hK K
            try simp only [Act.put, List.setIfInBounds_toArray, List.set_cons_zero, List.set_cons_succ]
            replace hlo := Nat.le_trans hlo hx.size
            replace bp := Bl.ext hx bp (Nat.succ_pos _)
            replace bq := Bl.ext hx bq (Nat.succ_pos _)
            replace br := Bl.ext hx br (Nat.succ_pos _)
            replace bx := Bl.ext hx bx (Nat.succ_pos _)
            replace bv := Bl.ext hx bv (Nat.succ_pos _)
            replace hsx := hsx.ext hx
            replace htx := htx.ext hx
            replace hsv := hsv.ext hx
            replace htv := htv.ext hx
            replace HE := HE.trans hx
            clear hx
            replace hs2 : Nc u2 a2 n2 c2 (r2.num).natAbs := hs2
            replace ht2 : Nc u2 d2 m2 k2 (r2.den) := ht2
            refine wpE_br rfl rfl (fun K hK => ?_) ?_
            · go_simp
              refine (A9.out _ _ _ _ _ _ _ _ (fq_of hs2 ht2 L2.out (by omega)) ((H'.out.ext HE0.out).ext HE) HQ0.out).mono ?_
              rintro e u4 ⟨a4, n4, c4, d4, m4, k4, rfl, hs4, ht4, hx⟩
              refine hK.out _ _ (Below.mono hx hlo) ?_
              clear hK K
              try simp only [Act.put, List.setIfInBounds_toArray, List.set_cons_zero, List.set_cons_succ]
              replace hlo := Nat.le_trans hlo hx.size
              replace bp := Bl.ext hx bp (Nat.succ_pos _)
              replace bq := Bl.ext hx bq (Nat.succ_pos _)
              replace br := Bl.ext hx br (Nat.succ_pos _)
              replace bx := Bl.ext hx bx (Nat.succ_pos _)
              replace bv := Bl.ext hx bv (Nat.succ_pos _)
              replace hsx := hsx.ext hx
              replace htx := htx.ext hx
              replace hsv := hsv.ext hx
              replace htv := htv.ext hx
              replace hs2 := hs2.ext hx
              replace ht2 := ht2.ext hx
              replace HE := HE.trans hx
              clear hx
              replace hs4 : Nc u4 a4 n4 c4 ((0 : Int)).natAbs := hs4
              replace ht4 : Nc u4 d4 m4 k4 ((0 : Nat)) := ht4
              repeat (refine wpE_q (v := ?_) rfl rfl (fun u hu => ?_) ?_; rotate_left 1; (focus (have kp := Bl.low hu bp lop; have kq := Bl.low hu bq loq; have kr := Bl.low hu br lor; have kx := Bl.low hu bx lox; have kv := Bl.low hu bv lov; go_simp; (try rfl))); simp only [Act.put, List.setIfInBounds_toArray, List.set_cons_zero, List.set_cons_succ])
              refine wpE_l rfl rfl (fun K hK => ?_)
              go_simp
              refine hK.out _ _ ((Below.refl _ _).alloc hlo _) ?_
              clear hK K
              try simp only [Act.put, List.setIfInBounds_toArray, List.set_cons_zero, List.set_cons_succ]
              have geh := hlo
              have lph := bp.lt (Nat.succ_pos _)
              have lqh := bq.lt (Nat.succ_pos _)
              have lrh := br.lt (Nat.succ_pos _)
              have lxh := bx.lt (Nat.succ_pos _)
              have lvh := bv.lt (Nat.succ_pos _)
              have l0h := HE.size
              refine absE (fun x3 hx3 => ?_)
              have hx : Ext u4 x3 := by rw [hx3]; exact ((Ext.refl _).alloc _)
              have bh : Bl x3 (u4.heap.size) #[.bool false, .slice none 0 0, .slice none 0 0] := by rw [hx3]; exact (Bl.new (by simp))
              have fh : Fz x3 (u4.heap.size) := by rw [hx3]; exact (Fz.new (by simp))
              replace hlo := Nat.le_trans hlo hx.size
              replace bp := Bl.ext hx bp (Nat.succ_pos _)
              replace bq := Bl.ext hx bq (Nat.succ_pos _)
              replace br := Bl.ext hx br (Nat.succ_pos _)
              replace bx := Bl.ext hx bx (Nat.succ_pos _)
              replace bv := Bl.ext hx bv (Nat.succ_pos _)
              replace hsx := hsx.ext hx
              replace htx := htx.ext hx
              replace hsv := hsv.ext hx
              replace htv := htv.ext hx
              replace hs2 := hs2.ext hx
              replace ht2 := ht2.ext hx
              replace hs4 := hs4.ext hx
              replace ht4 := ht4.ext hx
              replace HE := HE.trans hx
              clear hx
              clear hx3
              refine wpE_l rfl rfl (fun K hK => ?_)
              go_simp
              refine hK.out _ _ ((((Below.refl _ _).setCell (by show wc.heap.size ≤ u4.heap.size; omega) _).setCell (by show wc.heap.size ≤ u4.heap.size; omega) _).setCell (by show wc.heap.size ≤ u4.heap.size; omega) _) ?_
              clear hK K
              try simp only [Act.put, List.setIfInBounds_toArray, List.set_cons_zero, List.set_cons_succ]
              refine absE (fun x4 hx4 => ?_)
              have hbut : But x3 x4 (u4.heap.size) := by rw [hx4]; exact (But.refl _ _).store.store.store
              have hbn : Bl x4 (u4.heap.size) #[(.bool (decide ((0 : Int) < 0))), .slice a4 n4 c4, .slice d4 m4 k4] := by rw [hx4]; exact (Bl.set (Bl.set (Bl.set bh (by simp)) (by simp)) (by simp))
              replace hsx := hsx.but bh (not_ints3 nb_bool nb_slice nb_slice) hbut
              replace htx := htx.but bh (not_ints3 nb_bool nb_slice nb_slice) hbut
              replace hsv := hsv.but bh (not_ints3 nb_bool nb_slice nb_slice) hbut
              replace htv := htv.but bh (not_ints3 nb_bool nb_slice nb_slice) hbut
              replace hs2 := hs2.but bh (not_ints3 nb_bool nb_slice nb_slice) hbut
              replace ht2 := ht2.but bh (not_ints3 nb_bool nb_slice nb_slice) hbut
              replace hs4 := hs4.but bh (not_ints3 nb_bool nb_slice nb_slice) hbut
              replace ht4 := ht4.but bh (not_ints3 nb_bool nb_slice nb_slice) hbut
              replace bp := But.bl hbut bp (Nat.succ_pos _) (by omega)
              replace bq := But.bl hbut bq (Nat.succ_pos _) (by omega)
              replace br := But.bl hbut br (Nat.succ_pos _) (by omega)
              replace bx := But.bl hbut bx (Nat.succ_pos _) (by omega)
              replace bv := But.bl hbut bv (Nat.succ_pos _) (by omega)
              replace fh : Fz x4 (u4.heap.size) := by rw [hx4]; exact (Fz.set (Fz.set (Fz.set fh)))
              replace HE : Ext wc x4 := by rw [hx4]; exact (((HE.store (by show wc.heap.size ≤ u4.heap.size; omega) _).store (by show wc.heap.size ≤ u4.heap.size; omega) _).store (by show wc.heap.size ≤ u4.heap.size; omega) _)
              replace hlo : wc.heap.size ≤ x4.heap.size := Nat.le_trans hlo hbut.1
              clear bh hbut hx4
              have bh := hbn
              clear hbn
              repeat (refine wpE_q (v := ?_) rfl rfl (fun u hu => ?_) ?_; rotate_left 1; (focus (have kp := Bl.low hu bp lop; have kq := Bl.low hu bq loq; have kr := Bl.low hu br lor; have kx := Bl.low hu bx lox; have kv := Bl.low hu bv lov; go_simp; (try rfl))); simp only [Act.put, List.setIfInBounds_toArray, List.set_cons_zero, List.set_cons_succ])
              refine wpE_done ?_
              clear hlo
              go_wp2_with fail
              go_meet
              exact ⟨u4.heap.size, a4, d4, n4, c4, m4, k4, rfl, rfl, bh, hs4, ht4, HE⟩
            · refine wpE_l rfl rfl (fun K hK => ?_)
              go_simp
              refine hK.out _ _ ((Below.refl _ _).alloc hlo _) ?_
              clear hK K
              try simp only [Act.put, List.setIfInBounds_toArray, List.set_cons_zero, List.set_cons_succ]
              have geh := hlo
              have lph := bp.lt (Nat.succ_pos _)
              have lqh := bq.lt (Nat.succ_pos _)
              have lrh := br.lt (Nat.succ_pos _)
              have lxh := bx.lt (Nat.succ_pos _)
              have lvh := bv.lt (Nat.succ_pos _)
              have l0h := HE.size
              refine absE (fun x3 hx3 => ?_)
              have hx : Ext u2 x3 := by rw [hx3]; exact ((Ext.refl _).alloc _)
              have bh : Bl x3 (u2.heap.size) #[.bool false, .slice none 0 0, .slice none 0 0] := by rw [hx3]; exact (Bl.new (by simp))
              have fh : Fz x3 (u2.heap.size) := by rw [hx3]; exact (Fz.new (by simp))
              replace hlo := Nat.le_trans hlo hx.size
              replace bp := Bl.ext hx bp (Nat.succ_pos _)
              replace bq := Bl.ext hx bq (Nat.succ_pos _)
              replace br := Bl.ext hx br (Nat.succ_pos _)
              replace bx := Bl.ext hx bx (Nat.succ_pos _)
              replace bv := Bl.ext hx bv (Nat.succ_pos _)
              replace hsx := hsx.ext hx
              replace htx := htx.ext hx
              replace hsv := hsv.ext hx
              replace htv := htv.ext hx
              replace hs2 := hs2.ext hx
              replace ht2 := ht2.ext hx
              replace HE := HE.trans hx
              clear hx
              clear hx3
              refine wpE_l rfl rfl (fun K hK => ?_)
              go_simp
              refine (A9.out _ _ _ _ _ _ _ _ (fq_of hs2 ht2 L2.out (by omega)) ((H'.out.ext HE0.out).ext HE) HQ0.out).mono ?_
              rintro e u4 ⟨a4, n4, c4, d4, m4, k4, rfl, hs4, ht4, hx⟩
              refine hK.out _ _ (Below.mono hx hlo) ?_
              clear hK K
              try simp only [Act.put, List.setIfInBounds_toArray, List.set_cons_zero, List.set_cons_succ]
              replace hlo := Nat.le_trans hlo hx.size
              replace bp := Bl.ext hx bp (Nat.succ_pos _)
              replace bq := Bl.ext hx bq (Nat.succ_pos _)
              replace br := Bl.ext hx br (Nat.succ_pos _)
              replace bx := Bl.ext hx bx (Nat.succ_pos _)
              replace bv := Bl.ext hx bv (Nat.succ_pos _)
              replace fh := Fz.ext hx fh bh (Nat.succ_pos _)
              replace bh := Bl.ext hx bh (Nat.succ_pos _)
              replace hsx := hsx.ext hx
              replace htx := htx.ext hx
              replace hsv := hsv.ext hx
              replace htv := htv.ext hx
              replace hs2 := hs2.ext hx
              replace ht2 := ht2.ext hx
              replace HE := HE.trans hx
              clear hx
              replace hs4 : Nc u4 a4 n4 c4 ((0 : Int)).natAbs := hs4
              replace ht4 : Nc u4 d4 m4 k4 ((0 : Nat)) := ht4
              repeat (refine wpE_q (v := ?_) rfl rfl (fun u hu => ?_) ?_; rotate_left 1; (focus (have kp := Bl.low hu bp lop; have kq := Bl.low hu bq loq; have kr := Bl.low hu br lor; have kx := Bl.low hu bx lox; have kv := Bl.low hu bv lov; go_simp; (try rfl))); simp only [Act.put, List.setIfInBounds_toArray, List.set_cons_zero, List.set_cons_succ])
              refine wpE_l rfl rfl (fun K hK => ?_)
              go_simp
              refine hK.out _ _ ((((Below.refl _ _).setCell (by show wc.heap.size ≤ u2.heap.size; omega) _).setCell (by show wc.heap.size ≤ u2.heap.size; omega) _).setCell (by show wc.heap.size ≤ u2.heap.size; omega) _) ?_
              clear hK K
              try simp only [Act.put, List.setIfInBounds_toArray, List.set_cons_zero, List.set_cons_succ]
              refine absE (fun x4 hx4 => ?_)
              have hbut : But u4 x4 (u2.heap.size) := by rw [hx4]; exact (But.refl _ _).store.store.store
              have hbn : Bl x4 (u2.heap.size) #[(.bool (decide ((0 : Int) < 0))), .slice a4 n4 c4, .slice d4 m4 k4] := by rw [hx4]; exact (Bl.set (Bl.set (Bl.set bh (by simp)) (by simp)) (by simp))
              replace hsx := hsx.but bh (not_ints3 nb_bool nb_slice nb_slice) hbut
              replace htx := htx.but bh (not_ints3 nb_bool nb_slice nb_slice) hbut
              replace hsv := hsv.but bh (not_ints3 nb_bool nb_slice nb_slice) hbut
              replace htv := htv.but bh (not_ints3 nb_bool nb_slice nb_slice) hbut
              replace hs2 := hs2.but bh (not_ints3 nb_bool nb_slice nb_slice) hbut
              replace ht2 := ht2.but bh (not_ints3 nb_bool nb_slice nb_slice) hbut
              replace hs4 := hs4.but bh (not_ints3 nb_bool nb_slice nb_slice) hbut
              replace ht4 := ht4.but bh (not_ints3 nb_bool nb_slice nb_slice) hbut
              replace bp := But.bl hbut bp (Nat.succ_pos _) (by omega)
              replace bq := But.bl hbut bq (Nat.succ_pos _) (by omega)
              replace br := But.bl hbut br (Nat.succ_pos _) (by omega)
              replace bx := But.bl hbut bx (Nat.succ_pos _) (by omega)
              replace bv := But.bl hbut bv (Nat.succ_pos _) (by omega)
              replace fh : Fz x4 (u2.heap.size) := by rw [hx4]; exact (Fz.set (Fz.set (Fz.set fh)))
              replace HE : Ext wc x4 := by rw [hx4]; exact (((HE.store (by show wc.heap.size ≤ u2.heap.size; omega) _).store (by show wc.heap.size ≤ u2.heap.size; omega) _).store (by show wc.heap.size ≤ u2.heap.size; omega) _)
              replace hlo : wc.heap.size ≤ x4.heap.size := Nat.le_trans hlo hbut.1
              clear bh hbut hx4
              have bh := hbn
              clear hbn
              repeat (refine wpE_q (v := ?_) rfl rfl (fun u hu => ?_) ?_; rotate_left 1; (focus (have kp := Bl.low hu bp lop; have kq := Bl.low hu bq loq; have kr := Bl.low hu br lor; have kx := Bl.low hu bx lox; have kv := Bl.low hu bv lov; go_simp; (try rfl))); simp only [Act.put, List.setIfInBounds_toArray, List.set_cons_zero, List.set_cons_succ])
              refine wpE_done ?_
              clear hlo
              go_wp2_with fail
              go_meet
              exact ⟨u2.heap.size, a4, d4, n4, c4, m4, k4, rfl, rfl, bh, hs4, ht4, HE⟩
          · refine wpE_l rfl rfl (fun K hK => ?_)
            go_simp
            refine hK.out _ _ ((Below.refl _ _).alloc hlo _) ?_
            clear hK K
            try simp only [Act.put, List.setIfInBounds_toArray, List.set_cons_zero, List.set_cons_succ]
            have geh := hlo
            have lph := bp.lt (Nat.succ_pos _)
            have lqh := bq.lt (Nat.succ_pos _)
            have lrh := br.lt (Nat.succ_pos _)
            have lxh := bx.lt (Nat.succ_pos _)
            have lvh := bv.lt (Nat.succ_pos _)
            have l0h := HE.size
            refine absE (fun x3 hx3 => ?_)
            have hx : Ext x2 x3 := by rw [hx3]; exact ((Ext.refl _).alloc _)
            have bh : Bl x3 (x2.heap.size) #[.bool false, .slice none 0 0, .slice none 0 0] := by rw [hx3]; exact (Bl.new (by simp))
            have fh : Fz x3 (x2.heap.size) := by rw [hx3]; exact (Fz.new (by simp))
            replace hlo := Nat.le_trans hlo hx.size
            replace bp := Bl.ext hx bp (Nat.succ_pos _)
            replace bq := Bl.ext hx bq (Nat.succ_pos _)
            replace br := Bl.ext hx br (Nat.succ_pos _)
            replace bx := Bl.ext hx bx (Nat.succ_pos _)
            replace bv := Bl.ext hx bv (Nat.succ_pos _)
            replace hsx := hsx.ext hx
            replace htx := htx.ext hx
            replace hsv := hsv.ext hx
            replace htv := htv.ext hx
            replace HE := HE.trans hx
            clear hx
            clear hx3
            refine wpE_l rfl rfl (fun K hK => ?_)
            go_simp
            refine (A2.out _ ((H.out.ext HE0.out).ext HE) ((H'.out.ext HE0.out).ext HE)).mono ?_
            rintro e u2 ⟨a2, n2, c2, d2, m2, k2, rfl, hs2, ht2, hx⟩
            refine hK.out _ _ (Below.mono hx hlo) ?_
            clear hK K
            try simp only [Act.put, List.setIfInBounds_toArray, List.set_cons_zero, List.set_cons_succ]
            replace hlo := Nat.le_trans hlo hx.size
            replace bp := Bl.ext hx bp (Nat.succ_pos _)
            replace bq := Bl.ext hx bq (Nat.succ_pos _)
            replace br := Bl.ext hx br (Nat.succ_pos _)
            replace bx := Bl.ext hx bx (Nat.succ_pos _)
            replace bv := Bl.ext hx bv (Nat.succ_pos _)
            replace fh := Fz.ext hx fh bh (Nat.succ_pos _)
            replace bh := Bl.ext hx bh (Nat.succ_pos _)
            replace hsx := hsx.ext hx
            replace htx := htx.ext hx
            replace hsv := hsv.ext hx
            replace htv := htv.ext hx
            replace HE := HE.trans hx
            clear hx
            replace hs2 : Nc u2 a2 n2 c2 (r2.num).natAbs := hs2
            replace ht2 : Nc u2 d2 m2 k2 (r2.den) := ht2
            refine wpE_l rfl rfl (fun K hK => ?_)
            go_simp
            refine (A9.out _ _ _ _ _ _ _ _ (fq_of hs2 ht2 L2.out (by omega)) ((H'.out.ext HE0.out).ext HE) HQ0.out).mono ?_
            rintro e u4 ⟨a4, n4, c4, d4, m4, k4, rfl, hs4, ht4, hx⟩
            refine hK.out _ _ (Below.mono hx hlo) ?_
            clear hK K
            try simp only [Act.put, List.setIfInBounds_toArray, List.set_cons_zero, List.set_cons_succ]
            replace hlo := Nat.le_trans hlo hx.size
            replace bp := Bl.ext hx bp (Nat.succ_pos _)
            replace bq := Bl.ext hx bq (Nat.succ_pos _)
            replace br := Bl.ext hx br (Nat.succ_pos _)
            replace bx := Bl.ext hx bx (Nat.succ_pos _)
            replace bv := Bl.ext hx bv (Nat.succ_pos _)
            replace fh := Fz.ext hx fh bh (Nat.succ_pos _)
            replace bh := Bl.ext hx bh (Nat.succ_pos _)
            replace hsx := hsx.ext hx
            replace htx := htx.ext hx
            replace hsv := hsv.ext hx
            replace htv := htv.ext hx
            replace hs2 := hs2.ext hx
            replace ht2 := ht2.ext hx
            replace HE := HE.trans hx
            clear hx
            replace hs4 : Nc u4 a4 n4 c4 ((0 : Int)).natAbs := hs4
            replace ht4 : Nc u4 d4 m4 k4 ((0 : Nat)) := ht4
            repeat (refine wpE_q (v := ?_) rfl rfl (fun u hu => ?_) ?_; rotate_left 1; (focus (have kp := Bl.low hu bp lop; have kq := Bl.low hu bq loq; have kr := Bl.low hu br lor; have kx := Bl.low hu bx lox; have kv := Bl.low hu bv lov; go_simp; (try rfl))); simp only [Act.put, List.setIfInBounds_toArray, List.set_cons_zero, List.set_cons_succ])
            refine wpE_l rfl rfl (fun K hK => ?_)
            go_simp
            refine hK.out _ _ ((((Below.refl _ _).setCell (by show wc.heap.size ≤ x2.heap.size; omega) _).setCell (by show wc.heap.size ≤ x2.heap.size; omega) _).setCell (by show wc.heap.size ≤ x2.heap.size; omega) _) ?_
            clear hK K
            try simp only [Act.put, List.setIfInBounds_toArray, List.set_cons_zero, List.set_cons_succ]
            refine absE (fun x4 hx4 => ?_)
            have hbut : But u4 x4 (x2.heap.size) := by rw [hx4]; exact (But.refl _ _).store.store.store
            have hbn : Bl x4 (x2.heap.size) #[(.bool (decide ((0 : Int) < 0))), .slice a4 n4 c4, .slice d4 m4 k4] := by rw [hx4]; exact (Bl.set (Bl.set (Bl.set bh (by simp)) (by simp)) (by simp))
            replace hsx := hsx.but bh (not_ints3 nb_bool nb_slice nb_slice) hbut
            replace htx := htx.but bh (not_ints3 nb_bool nb_slice nb_slice) hbut
            replace hsv := hsv.but bh (not_ints3 nb_bool nb_slice nb_slice) hbut
            replace htv := htv.but bh (not_ints3 nb_bool nb_slice nb_slice) hbut
            replace hs2 := hs2.but bh (not_ints3 nb_bool nb_slice nb_slice) hbut
            replace ht2 := ht2.but bh (not_ints3 nb_bool nb_slice nb_slice) hbut
            replace hs4 := hs4.but bh (not_ints3 nb_bool nb_slice nb_slice) hbut
            replace ht4 := ht4.but bh (not_ints3 nb_bool nb_slice nb_slice) hbut
            replace bp := But.bl hbut bp (Nat.succ_pos _) (by omega)
            replace bq := But.bl hbut bq (Nat.succ_pos _) (by omega)
            replace br := But.bl hbut br (Nat.succ_pos _) (by omega)
            replace bx := But.bl hbut bx (Nat.succ_pos _) (by omega)
            replace bv := But.bl hbut bv (Nat.succ_pos _) (by omega)
            replace fh : Fz x4 (x2.heap.size) := by rw [hx4]; exact (Fz.set (Fz.set (Fz.set fh)))
            replace HE : Ext wc x4 := by rw [hx4]; exact (((HE.store (by show wc.heap.size ≤ x2.heap.size; omega) _).store (by show wc.heap.size ≤ x2.heap.size; omega) _).store (by show wc.heap.size ≤ x2.heap.size; omega) _)
            replace hlo : wc.heap.size ≤ x4.heap.size := Nat.le_trans hlo hbut.1
            clear bh hbut hx4
            have bh := hbn
            clear hbn
            repeat (refine wpE_q (v := ?_) rfl rfl (fun u hu => ?_) ?_; rotate_left 1; (focus (have kp := Bl.low hu bp lop; have kq := Bl.low hu bq loq; have kr := Bl.low hu br lor; have kx := Bl.low hu bx lox; have kv := Bl.low hu bv lov; go_simp; (try rfl))); simp only [Act.put, List.setIfInBounds_toArray, List.set_cons_zero, List.set_cons_succ])
            refine wpE_done ?_
            clear hlo
            go_wp2_with fail
            go_meet
            exact ⟨x2.heap.size, a4, d4, n4, c4, m4, k4, rfl, rfl, bh, hs4, ht4, HE⟩
        case rest =>
          obtain ⟨gh, ah, dh, nh, ch, mh, kh, rfl, rfl, bh, hsh, hth, hx⟩ := hcut
          replace bp := Bl.ext hx bp (Nat.succ_pos _)
          replace bq := Bl.ext hx bq (Nat.succ_pos _)
          replace br := Bl.ext hx br (Nat.succ_pos _)
          replace bx := Bl.ext hx bx (Nat.succ_pos _)
          replace bv := Bl.ext hx bv (Nat.succ_pos _)
          replace hsx := hsx.ext hx
          replace htx := htx.ext hx
          replace hsv := hsv.ext hx
          replace htv := htv.ext hx
          replace HE := HE.trans hx
          clear hx
          go_wp2_with fail
          refine wp_region_plan (R := Ext) (.q 0 (.l 1 (.q 2 (.q 3 (.q 4 (.q 5 (.q 6 (.q 7 (.q 8 (.l 9 (.l 10 (.q 11 (.q 12 (.q 13 .done)))))))))))))) (by kernel_rfl) (by kernel_rfl) (by kernel_rfl) (by kernel_rfl) Ext.refl (fun _ _ _ => Ext.trans) ?_
          refine absE (fun x2 hx2 => ?_)
          have hx : Ext wc x2 := by rw [hx2]; exact (Ext.refl _).drew
          replace bp := Bl.ext hx bp (Nat.succ_pos _)
          replace bq := Bl.ext hx bq (Nat.succ_pos _)
          replace br := Bl.ext hx br (Nat.succ_pos _)
          replace bx := Bl.ext hx bx (Nat.succ_pos _)
          replace bv := Bl.ext hx bv (Nat.succ_pos _)
          replace bh := Bl.ext hx bh (Nat.succ_pos _)
          replace hsx := hsx.ext hx
          replace htx := htx.ext hx
          replace hsv := hsv.ext hx
          replace htv := htv.ext hx
          replace hsh := hsh.ext hx
          replace hth := hth.ext hx
          replace HE := HE.trans hx
          clear hx
          clear hx2
          repeat (first | (refine wpE_q (v := ?_) rfl rfl (fun u hu => ?_) ?_; rotate_left 1; (focus (have kp := Bl.ext hu bp (Nat.succ_pos _); have kq := Bl.ext hu bq (Nat.succ_pos _); have kr := Bl.ext hu br (Nat.succ_pos _); have kx := Bl.ext hu bx (Nat.succ_pos _); have kv := Bl.ext hu bv (Nat.succ_pos _); have kh := Bl.ext hu bh (Nat.succ_pos _); go_simp; (try rfl))); simp only [Act.put, List.setIfInBounds_toArray, List.set_cons_zero, List.set_cons_succ]) | (refine wpE_qs rfl rfl ?_; simp only [Act.put, List.setIfInBounds_toArray, List.set_cons_zero, List.set_cons_succ]))
          refine wpE_l rfl rfl (fun K hK => ?_)
          go_simp
          refine (A10.out _ (H'.out.ext HE)).mono ?_
          rintro e u5 ⟨rfl, hx⟩
          refine hK.out _ _ hx ?_
          clear hK K
          try simp only [Act.put, List.setIfInBounds_toArray, List.set_cons_zero, List.set_cons_succ]
          replace bp := Bl.ext hx bp (Nat.succ_pos _)
          replace bq := Bl.ext hx bq (Nat.succ_pos _)
          replace br := Bl.ext hx br (Nat.succ_pos _)
          replace bx := Bl.ext hx bx (Nat.succ_pos _)
          replace bv := Bl.ext hx bv (Nat.succ_pos _)
          replace bh := Bl.ext hx bh (Nat.succ_pos _)
          replace hsx := hsx.ext hx
          replace htx := htx.ext hx
          replace hsv := hsv.ext hx
          replace htv := htv.ext hx
          replace hsh := hsh.ext hx
          replace hth := hth.ext hx
          replace HE := HE.trans hx
          clear hx
          repeat (first | (refine wpE_q (v := ?_) rfl rfl (fun u hu => ?_) ?_; rotate_left 1; (focus (have kp := Bl.ext hu bp (Nat.succ_pos _); have kq := Bl.ext hu bq (Nat.succ_pos _); have kr := Bl.ext hu br (Nat.succ_pos _); have kx := Bl.ext hu bx (Nat.succ_pos _); have kv := Bl.ext hu bv (Nat.succ_pos _); have kh := Bl.ext hu bh (Nat.succ_pos _); go_simp; (try rfl))); simp only [Act.put, List.setIfInBounds_toArray, List.set_cons_zero, List.set_cons_succ]) | (refine wpE_qs rfl rfl ?_; simp only [Act.put, List.setIfInBounds_toArray, List.set_cons_zero, List.set_cons_succ]))
          refine wpE_ls (Ext.refl _) rfl rfl ?_
          simp only [Act.put, List.setIfInBounds_toArray, List.set_cons_zero, List.set_cons_succ]
          refine wpE_ls (Ext.refl _) rfl rfl ?_
          simp only [Act.put, List.setIfInBounds_toArray, List.set_cons_zero, List.set_cons_succ]
          repeat (first | (refine wpE_q (v := ?_) rfl rfl (fun u hu => ?_) ?_; rotate_left 1; (focus (have kp := Bl.ext hu bp (Nat.succ_pos _); have kq := Bl.ext hu bq (Nat.succ_pos _); have kr := Bl.ext hu br (Nat.succ_pos _); have kx := Bl.ext hu bx (Nat.succ_pos _); have kv := Bl.ext hu bv (Nat.succ_pos _); have kh := Bl.ext hu bh (Nat.succ_pos _); go_simp; (try rfl))); simp only [Act.put, List.setIfInBounds_toArray, List.set_cons_zero, List.set_cons_succ]) | (refine wpE_qs rfl rfl ?_; simp only [Act.put, List.setIfInBounds_toArray, List.set_cons_zero, List.set_cons_succ]))
          refine wpE_done ?_
          go_wp2_with fail
          refine wp_region_plan (R := Ext) (.q 0 (.q 1 (.l 2 (.q 3 (.q 4 (.q 5 (.q 7 (.q 9 (.l 6 (.l 8 (.l 10 (.l 11 (.q 12 (.q 13 (.q 14 (.q 15 (.q 18 (.q 20 (.l 16 (.q 17 (.l 19 (.l 21 (.l 22 (.q 23 (.q 24 (.q 25 (.l 26 (.q 27 (.q 28 .done))))))))))))))))))))))))))))) (by kernel_rfl) (by kernel_rfl) (by kernel_rfl) (by kernel_rfl) Ext.refl (fun _ _ _ => Ext.trans) ?_
          refine absE (fun x3 hx3 => ?_)
          have hx : Ext u5 x3 := by rw [hx3]; exact (Ext.refl _).drew
          replace bp := Bl.ext hx bp (Nat.succ_pos _)
          replace bq := Bl.ext hx bq (Nat.succ_pos _)
          replace br := Bl.ext hx br (Nat.succ_pos _)
          replace bx := Bl.ext hx bx (Nat.succ_pos _)
          replace bv := Bl.ext hx bv (Nat.succ_pos _)
          replace bh := Bl.ext hx bh (Nat.succ_pos _)
          replace hsx := hsx.ext hx
          replace htx := htx.ext hx
          replace hsv := hsv.ext hx
          replace htv := htv.ext hx
          replace hsh := hsh.ext hx
          replace hth := hth.ext hx
          replace HE := HE.trans hx
          clear hx
          clear hx3
          repeat (refine wpE_q (v := ?_) rfl rfl (fun u hu => ?_) ?_; rotate_left 1; (focus (have kp := Bl.ext hu bp (Nat.succ_pos _); have kq := Bl.ext hu bq (Nat.succ_pos _); have kr := Bl.ext hu br (Nat.succ_pos _); have kx := Bl.ext hu bx (Nat.succ_pos _); have kv := Bl.ext hu bv (Nat.succ_pos _); have kh := Bl.ext hu bh (Nat.succ_pos _); go_simp; (try rfl))); simp only [Act.put, List.setIfInBounds_toArray, List.set_cons_zero, List.set_cons_succ])
          refine wpE_l rfl rfl (fun K hK => ?_)
          go_simp
          refine (gq_Same hsx htx hsv htv (by have := L5.out; omega)).mono ?_
          rw [decide_eq_true (rfl : r5 = r5)]
          rintro e u8 ⟨rfl, hx⟩
          refine hK.out _ _ hx ?_
          clear hK K
          try simp only [Act.put, List.setIfInBounds_toArray, List.set_cons_zero, List.set_cons_succ]
          replace bp := Bl.ext hx bp (Nat.succ_pos _)
          replace bq := Bl.ext hx bq (Nat.succ_pos _)
          replace br := Bl.ext hx br (Nat.succ_pos _)
          replace bx := Bl.ext hx bx (Nat.succ_pos _)
          replace bv := Bl.ext hx bv (Nat.succ_pos _)
          replace bh := Bl.ext hx bh (Nat.succ_pos _)
          replace hsx := hsx.ext hx
          replace htx := htx.ext hx
          replace hsv := hsv.ext hx
          replace htv := htv.ext hx
          replace hsh := hsh.ext hx
          replace hth := hth.ext hx
          replace HE := HE.trans hx
          clear hx
          repeat (refine wpE_q (v := ?_) rfl rfl (fun u hu => ?_) ?_; rotate_left 1; (focus (have kp := Bl.ext hu bp (Nat.succ_pos _); have kq := Bl.ext hu bq (Nat.succ_pos _); have kr := Bl.ext hu br (Nat.succ_pos _); have kx := Bl.ext hu bx (Nat.succ_pos _); have kv := Bl.ext hu bv (Nat.succ_pos _); have kh := Bl.ext hu bh (Nat.succ_pos _); go_simp; (try rfl))); simp only [Act.put, List.setIfInBounds_toArray, List.set_cons_zero, List.set_cons_succ])
          refine wpE_l rfl rfl (fun K hK => ?_)
          go_simp
          refine (A4.out _ (H.out.ext HE) (H'.out.ext HE)).mono ?_
          rintro e u9 ⟨a9, n9, c9, d9, m9, k9, rfl, hs9, ht9, hx⟩
          refine hK.out _ _ hx ?_
          clear hK K
          try simp only [Act.put, List.setIfInBounds_toArray, List.set_cons_zero, List.set_cons_succ]
          replace bp := Bl.ext hx bp (Nat.succ_pos _)
          replace bq := Bl.ext hx bq (Nat.succ_pos _)
          replace br := Bl.ext hx br (Nat.succ_pos _)
          replace bx := Bl.ext hx bx (Nat.succ_pos _)
          replace bv := Bl.ext hx bv (Nat.succ_pos _)
          replace bh := Bl.ext hx bh (Nat.succ_pos _)
          replace hsx := hsx.ext hx
          replace htx := htx.ext hx
          replace hsv := hsv.ext hx
          replace htv := htv.ext hx
          replace hsh := hsh.ext hx
          replace hth := hth.ext hx
          replace HE := HE.trans hx
          clear hx
          replace hs9 : Nc u9 a9 n9 c9 (r4.num).natAbs := hs9
          replace ht9 : Nc u9 d9 m9 k9 (r4.den) := ht9
          refine wpE_l rfl rfl (fun K hK => ?_)
          go_simp
          refine (A7.out _ _ _ _ _ _ _ _ (fq_of hs9 ht9 L4.out (by omega)) (H'.out.ext HE)).mono ?_
          rintro e u10 ⟨a10, n10, c10, d10, m10, k10, rfl, hs10, ht10, hx⟩
          refine hK.out _ _ hx ?_
          clear hK K
          try simp only [Act.put, List.setIfInBounds_toArray, List.set_cons_zero, List.set_cons_succ]
          replace bp := Bl.ext hx bp (Nat.succ_pos _)
          replace bq := Bl.ext hx bq (Nat.succ_pos _)
          replace br := Bl.ext hx br (Nat.succ_pos _)
          replace bx := Bl.ext hx bx (Nat.succ_pos _)
          replace bv := Bl.ext hx bv (Nat.succ_pos _)
          replace bh := Bl.ext hx bh (Nat.succ_pos _)
          replace hsx := hsx.ext hx
          replace htx := htx.ext hx
          replace hsv := hsv.ext hx
          replace htv := htv.ext hx
          replace hsh := hsh.ext hx
          replace hth := hth.ext hx
          replace hs9 := hs9.ext hx
          replace ht9 := ht9.ext hx
          replace HE := HE.trans hx
          clear hx
          replace hs10 : Nc u10 a10 n10 c10 (q.num).natAbs := hs10
          replace ht10 : Nc u10 d10 m10 k10 (q.den) := ht10
          refine wpE_l rfl rfl (fun K hK => ?_)
          go_simp
          refine (A11.out _ (H.out.ext HE)).mono ?_
          rintro e u11 ⟨a11, n11, c11, d11, m11, k11, rfl, hs11, ht11, hx⟩
          refine hK.out _ _ hx ?_
          clear hK K
          try simp only [Act.put, List.setIfInBounds_toArray, List.set_cons_zero, List.set_cons_succ]
          replace bp := Bl.ext hx bp (Nat.succ_pos _)
          replace bq := Bl.ext hx bq (Nat.succ_pos _)
          replace br := Bl.ext hx br (Nat.succ_pos _)
          replace bx := Bl.ext hx bx (Nat.succ_pos _)
          replace bv := Bl.ext hx bv (Nat.succ_pos _)
          replace bh := Bl.ext hx bh (Nat.succ_pos _)
          replace hsx := hsx.ext hx
          replace htx := htx.ext hx
          replace hsv := hsv.ext hx
          replace htv := htv.ext hx
          replace hsh := hsh.ext hx
          replace hth := hth.ext hx
          replace hs9 := hs9.ext hx
          replace ht9 := ht9.ext hx
          replace hs10 := hs10.ext hx
          replace ht10 := ht10.ext hx
          replace HE := HE.trans hx
          clear hx
          replace hs11 : Nc u11 a11 n11 c11 (q.num).natAbs := hs11
          replace ht11 : Nc u11 d11 m11 k11 (q.den) := ht11
          refine wpE_l rfl rfl (fun K hK => ?_)
          go_simp
          refine (gq_Same hs10 ht10 hs11 ht11 (by have := L0.out; omega)).mono ?_
          rw [decide_eq_true (rfl : q = q)]
          rintro e u12 ⟨rfl, hx⟩
          refine hK.out _ _ hx ?_
          clear hK K
          try simp only [Act.put, List.setIfInBounds_toArray, List.set_cons_zero, List.set_cons_succ]
          replace bp := Bl.ext hx bp (Nat.succ_pos _)
          replace bq := Bl.ext hx bq (Nat.succ_pos _)
          replace br := Bl.ext hx br (Nat.succ_pos _)
          replace bx := Bl.ext hx bx (Nat.succ_pos _)
          replace bv := Bl.ext hx bv (Nat.succ_pos _)
          replace bh := Bl.ext hx bh (Nat.succ_pos _)
          replace hsx := hsx.ext hx
          replace htx := htx.ext hx
          replace hsv := hsv.ext hx
          replace htv := htv.ext hx
          replace hsh := hsh.ext hx
          replace hth := hth.ext hx
          replace hs9 := hs9.ext hx
          replace ht9 := ht9.ext hx
          replace hs10 := hs10.ext hx
          replace ht10 := ht10.ext hx
          replace hs11 := hs11.ext hx
          replace ht11 := ht11.ext hx
          replace HE := HE.trans hx
          clear hx
          repeat (refine wpE_q (v := ?_) rfl rfl (fun u hu => ?_) ?_; rotate_left 1; (focus (have kp := Bl.ext hu bp (Nat.succ_pos _); have kq := Bl.ext hu bq (Nat.succ_pos _); have kr := Bl.ext hu br (Nat.succ_pos _); have kx := Bl.ext hu bx (Nat.succ_pos _); have kv := Bl.ext hu bv (Nat.succ_pos _); have kh := Bl.ext hu bh (Nat.succ_pos _); go_simp; (try rfl))); simp only [Act.put, List.setIfInBounds_toArray, List.set_cons_zero, List.set_cons_succ])
          refine wpE_l rfl rfl (fun K hK => ?_)
          go_simp
          refine (A13.out _ (H.out.ext HE) (H'.out.ext HE)).mono ?_
          rintro e u13 ⟨rfl, hx⟩
          refine hK.out _ _ hx ?_
          clear hK K
          try simp only [Act.put, List.setIfInBounds_toArray, List.set_cons_zero, List.set_cons_succ]
          replace bp := Bl.ext hx bp (Nat.succ_pos _)
          replace bq := Bl.ext hx bq (Nat.succ_pos _)
          replace br := Bl.ext hx br (Nat.succ_pos _)
          replace bx := Bl.ext hx bx (Nat.succ_pos _)
          replace bv := Bl.ext hx bv (Nat.succ_pos _)
          replace bh := Bl.ext hx bh (Nat.succ_pos _)
          replace hsx := hsx.ext hx
          replace htx := htx.ext hx
          replace hsv := hsv.ext hx
          replace htv := htv.ext hx
          replace hsh := hsh.ext hx
          replace hth := hth.ext hx
          replace hs9 := hs9.ext hx
          replace ht9 := ht9.ext hx
          replace hs10 := hs10.ext hx
          replace ht10 := ht10.ext hx
          replace hs11 := hs11.ext hx
          replace ht11 := ht11.ext hx
          replace HE := HE.trans hx
          clear hx
          repeat (refine wpE_q (v := ?_) rfl rfl (fun u hu => ?_) ?_; rotate_left 1; (focus (have kp := Bl.ext hu bp (Nat.succ_pos _); have kq := Bl.ext hu bq (Nat.succ_pos _); have kr := Bl.ext hu br (Nat.succ_pos _); have kx := Bl.ext hu bx (Nat.succ_pos _); have kv := Bl.ext hu bv (Nat.succ_pos _); have kh := Bl.ext hu bh (Nat.succ_pos _); go_simp; (try rfl))); simp only [Act.put, List.setIfInBounds_toArray, List.set_cons_zero, List.set_cons_succ])
          refine wpE_l rfl rfl (fun K hK => ?_)
          go_simp
          refine (A11.out _ (H.out.ext HE)).mono ?_
          rintro e u14 ⟨a14, n14, c14, d14, m14, k14, rfl, hs14, ht14, hx⟩
          refine hK.out _ _ hx ?_
          clear hK K
          try simp only [Act.put, List.setIfInBounds_toArray, List.set_cons_zero, List.set_cons_succ]
          replace bp := Bl.ext hx bp (Nat.succ_pos _)
          replace bq := Bl.ext hx bq (Nat.succ_pos _)
          replace br := Bl.ext hx br (Nat.succ_pos _)
          replace bx := Bl.ext hx bx (Nat.succ_pos _)
          replace bv := Bl.ext hx bv (Nat.succ_pos _)
          replace bh := Bl.ext hx bh (Nat.succ_pos _)
          replace hsx := hsx.ext hx
          replace htx := htx.ext hx
          replace hsv := hsv.ext hx
          replace htv := htv.ext hx
          replace hsh := hsh.ext hx
          replace hth := hth.ext hx
          replace hs9 := hs9.ext hx
          replace ht9 := ht9.ext hx
          replace hs10 := hs10.ext hx
          replace ht10 := ht10.ext hx
          replace hs11 := hs11.ext hx
          replace ht11 := ht11.ext hx
          replace HE := HE.trans hx
          clear hx
          replace hs14 : Nc u14 a14 n14 c14 (q.num).natAbs := hs14
          replace ht14 : Nc u14 d14 m14 k14 (q.den) := ht14
          refine wpE_l rfl rfl (fun K hK => ?_)
          go_simp
          refine (A12.out _ (H'.out.ext HE)).mono ?_
          rintro e u15 ⟨a15, n15, c15, d15, m15, k15, rfl, hs15, ht15, hx⟩
          refine hK.out _ _ hx ?_
          clear hK K
          try simp only [Act.put, List.setIfInBounds_toArray, List.set_cons_zero, List.set_cons_succ]
          replace bp := Bl.ext hx bp (Nat.succ_pos _)
          replace bq := Bl.ext hx bq (Nat.succ_pos _)
          replace br := Bl.ext hx br (Nat.succ_pos _)
          replace bx := Bl.ext hx bx (Nat.succ_pos _)
          replace bv := Bl.ext hx bv (Nat.succ_pos _)
          replace bh := Bl.ext hx bh (Nat.succ_pos _)
          replace hsx := hsx.ext hx
          replace htx := htx.ext hx
          replace hsv := hsv.ext hx
          replace htv := htv.ext hx
          replace hsh := hsh.ext hx
          replace hth := hth.ext hx
          replace hs9 := hs9.ext hx
          replace ht9 := ht9.ext hx
          replace hs10 := hs10.ext hx
          replace ht10 := ht10.ext hx
          replace hs11 := hs11.ext hx
          replace ht11 := ht11.ext hx
          replace hs14 := hs14.ext hx
          replace ht14 := ht14.ext hx
          replace HE := HE.trans hx
          clear hx
          replace hs15 : Nc u15 a15 n15 c15 (q'.num).natAbs := hs15
          replace ht15 : Nc u15 d15 m15 k15 (q'.den) := ht15
          refine wpE_l rfl rfl (fun K hK => ?_)
          go_simp
          refine (S1.out _ _ _ _ _ _ _ _ _ _ _ _ _ hs14 ht14 hs15 ht15).mono ?_
          rintro e u16 ⟨rfl, hx⟩
          refine hK.out _ _ hx ?_
          clear hK K
          try simp only [Act.put, List.setIfInBounds_toArray, List.set_cons_zero, List.set_cons_succ]
          replace bp := Bl.ext hx bp (Nat.succ_pos _)
          replace bq := Bl.ext hx bq (Nat.succ_pos _)
          replace br := Bl.ext hx br (Nat.succ_pos _)
          replace bx := Bl.ext hx bx (Nat.succ_pos _)
          replace bv := Bl.ext hx bv (Nat.succ_pos _)
          replace bh := Bl.ext hx bh (Nat.succ_pos _)
          replace hsx := hsx.ext hx
          replace htx := htx.ext hx
          replace hsv := hsv.ext hx
          replace htv := htv.ext hx
          replace hsh := hsh.ext hx
          replace hth := hth.ext hx
          replace hs9 := hs9.ext hx
          replace ht9 := ht9.ext hx
          replace hs10 := hs10.ext hx
          replace ht10 := ht10.ext hx
          replace hs11 := hs11.ext hx
          replace ht11 := ht11.ext hx
          replace hs14 := hs14.ext hx
          replace ht14 := ht14.ext hx
          replace hs15 := hs15.ext hx
          replace ht15 := ht15.ext hx
          replace HE := HE.trans hx
          clear hx
          repeat (refine wpE_q (v := ?_) rfl rfl (fun u hu => ?_) ?_; rotate_left 1; (focus (have kp := Bl.ext hu bp (Nat.succ_pos _); have kq := Bl.ext hu bq (Nat.succ_pos _); have kr := Bl.ext hu br (Nat.succ_pos _); have kx := Bl.ext hu bx (Nat.succ_pos _); have kv := Bl.ext hu bv (Nat.succ_pos _); have kh := Bl.ext hu bh (Nat.succ_pos _); go_simp; (try rfl))); simp only [Act.put, List.setIfInBounds_toArray, List.set_cons_zero, List.set_cons_succ])
          refine wpE_l rfl rfl (fun K hK => ?_)
          go_simp
          refine (fr_lives _).mono ?_
          rintro e u17 ⟨rfl, hx⟩
          refine hK.out _ _ hx ?_
          clear hK K
          try simp only [Act.put, List.setIfInBounds_toArray, List.set_cons_zero, List.set_cons_succ]
          replace bp := Bl.ext hx bp (Nat.succ_pos _)
          replace bq := Bl.ext hx bq (Nat.succ_pos _)
          replace br := Bl.ext hx br (Nat.succ_pos _)
          replace bx := Bl.ext hx bx (Nat.succ_pos _)
          replace bv := Bl.ext hx bv (Nat.succ_pos _)
          replace bh := Bl.ext hx bh (Nat.succ_pos _)
          replace hsx := hsx.ext hx
          replace htx := htx.ext hx
          replace hsv := hsv.ext hx
          replace htv := htv.ext hx
          replace hsh := hsh.ext hx
          replace hth := hth.ext hx
          replace hs9 := hs9.ext hx
          replace ht9 := ht9.ext hx
          replace hs10 := hs10.ext hx
          replace ht10 := ht10.ext hx
          replace hs11 := hs11.ext hx
          replace ht11 := ht11.ext hx
          replace hs14 := hs14.ext hx
          replace ht14 := ht14.ext hx
          replace hs15 := hs15.ext hx
          replace ht15 := ht15.ext hx
          replace HE := HE.trans hx
          clear hx
          repeat (refine wpE_q (v := ?_) rfl rfl (fun u hu => ?_) ?_; rotate_left 1; (focus (have kp := Bl.ext hu bp (Nat.succ_pos _); have kq := Bl.ext hu bq (Nat.succ_pos _); have kr := Bl.ext hu br (Nat.succ_pos _); have kx := Bl.ext hu bx (Nat.succ_pos _); have kv := Bl.ext hu bv (Nat.succ_pos _); have kh := Bl.ext hu bh (Nat.succ_pos _); go_simp; (try rfl))); simp only [Act.put, List.setIfInBounds_toArray, List.set_cons_zero, List.set_cons_succ])
          refine wpE_done ?_
          go_wp2_with fail
          go_ret
          exact ⟨rfl, HE⟩
  · have HQ0 := hidP h0
    have HDV := hidP (HDIV.out h0)
    have hs1 : ¬ ss = 0 := fun h => h0 (HS0.out.1 h)
    have hsn : (ss != 0) = true := by simpa using hs1
    have HSN := hidP hs1
    clear h0 hs1
    go_enter Try.func18, Try.ntmps18
    go_upto_region 1 with fail
    refine absW (fun x1 hx1 => ?_)
    have hx : Ext w x1 := by rw [hx1]; exact ((((Ext.refl _).alloc _).alloc _).alloc _)
    have bp : Bl x1 (w.heap.size) #[.bool b, .slice a n c, .slice d m k] := by rw [hx1]; exact (((Bl.new (by simp)).alloc (by simp)).alloc (by simp))
    have bq : Bl x1 (w.heap.size + 1) #[.bool b', .slice a' n' c', .slice d' m' k'] := by rw [hx1]; exact ((Bl.new (by simp)).alloc (by simp))
    have br : Bl x1 (w.heap.size + 1 + 1) #[.bool b'', .slice a'' n'' c'', .slice d'' m'' k''] := by rw [hx1]; exact (Bl.new (by simp))
    have HE := hx
    clear hx
    clear hx1
    go_cut [7] (fun vx wx => ∃ (gx : Nat) (ax dx : Option Addr) (nx cx mx kx : Nat), vx = .pointer (some ⟨gx, 0, none⟩) ∧ Bl wx gx #[.bool (decide (r5.num < 0)), .slice ax nx cx, .slice dx mx kx] ∧ Nc wx ax nx cx (r5.num).natAbs ∧ Nc wx dx mx kx (r5.den) ∧ Ext x1 wx)
    case first =>
      have HE0 := hidP HE
      clear HE
      have HE := Ext.refl x1
      refine wp_region_plan (R := Ext) (.q 0 (.q 1 (.q 2 (.br 3 (.br 4 (.l 5 (.b 6 .done)) (.l 5 (.l 4 (.b 6 .done)))) (.l 5 (.l 3 (.l 4 (.b 6 .done)))))))) (by kernel_rfl) (by kernel_rfl) (by kernel_rfl) (by kernel_rfl) Ext.refl (fun _ _ _ => Ext.trans) ?_
      refine absE (fun x2 hx2 => ?_)
      have hx : Ext x1 x2 := by rw [hx2]; exact (Ext.refl _).drew
      replace bp := Bl.ext hx bp (Nat.succ_pos _)
      replace bq := Bl.ext hx bq (Nat.succ_pos _)
      replace br := Bl.ext hx br (Nat.succ_pos _)
      replace HE := HE.trans hx
      clear hx
      clear hx2
      repeat (refine wpE_q (v := ?_) rfl rfl (fun u hu => ?_) ?_; rotate_left 1; (focus (have kp := Bl.ext hu bp (Nat.succ_pos _); have kq := Bl.ext hu bq (Nat.succ_pos _); have kr := Bl.ext hu br (Nat.succ_pos _); go_simp; (try rfl))); simp only [Act.put, List.setIfInBounds_toArray, List.set_cons_zero, List.set_cons_succ])
      refine wpE_br rfl rfl (fun K hK => ?_) ?_
      · go_simp
        refine (A1.out _ ((H'.out.ext HE0.out).ext HE) ((H''.out.ext HE0.out).ext HE)).mono ?_
        rintro e u3 ⟨a3, n3, c3, d3, m3, k3, rfl, hs3, ht3, hx⟩
        refine hK.out _ _ hx ?_
        clear hK K
        try simp only [Act.put, List.setIfInBounds_toArray, List.set_cons_zero, List.set_cons_succ]
        replace bp := Bl.ext hx bp (Nat.succ_pos _)
        replace bq := Bl.ext hx bq (Nat.succ_pos _)
        replace br := Bl.ext hx br (Nat.succ_pos _)
        replace HE := HE.trans hx
        clear hx
        replace hs3 : Nc u3 a3 n3 c3 (r1.num).natAbs := hs3
        replace ht3 : Nc u3 d3 m3 k3 (r1.den) := ht3
        refine wpE_br rfl rfl (fun K hK => ?_) ?_
        · go_simp
          refine (A5.out _ ((H.out.ext HE0.out).ext HE) _ _ _ _ _ _ _ (fq_of hs3 ht3 L1.out (by omega))).mono ?_
          rintro e u4 ⟨a4, n4, c4, d4, m4, k4, rfl, hs4, ht4, hx⟩
          refine hK.out _ _ hx ?_
          clear hK K
          try simp only [Act.put, List.setIfInBounds_toArray, List.set_cons_zero, List.set_cons_succ]
          replace bp := Bl.ext hx bp (Nat.succ_pos _)
          replace bq := Bl.ext hx bq (Nat.succ_pos _)
          replace br := Bl.ext hx br (Nat.succ_pos _)
          replace hs3 := hs3.ext hx
          replace ht3 := ht3.ext hx
          replace HE := HE.trans hx
          clear hx
          replace hs4 : Nc u4 a4 n4 c4 (r5.num).natAbs := hs4
          replace ht4 : Nc u4 d4 m4 k4 (r5.den) := ht4
          refine wpE_l rfl rfl (fun K hK => ?_)
          go_simp
          refine hK.out _ _ ((Ext.refl _).alloc _) ?_
          clear hK K
          try simp only [Act.put, List.setIfInBounds_toArray, List.set_cons_zero, List.set_cons_succ]
          have lpx := bp.lt (Nat.succ_pos _)
          have lqx := bq.lt (Nat.succ_pos _)
          have lrx := br.lt (Nat.succ_pos _)
          have l0x := HE.size
          refine absE (fun x3 hx3 => ?_)
          have hx : Ext u4 x3 := by rw [hx3]; exact ((Ext.refl _).alloc _)
          have bx : Bl x3 (u4.heap.size) #[.bool false, .slice none 0 0, .slice none 0 0] := by rw [hx3]; exact (Bl.new (by simp))
          have fx : Fz x3 (u4.heap.size) := by rw [hx3]; exact (Fz.new (by simp))
          replace bp := Bl.ext hx bp (Nat.succ_pos _)
          replace bq := Bl.ext hx bq (Nat.succ_pos _)
          replace br := Bl.ext hx br (Nat.succ_pos _)
          replace hs3 := hs3.ext hx
          replace ht3 := ht3.ext hx
          replace hs4 := hs4.ext hx
          replace ht4 := ht4.ext hx
          replace HE := HE.trans hx
          clear hx
          clear hx3
          refine wpE_b rfl rfl (fun K hK => ?_)
          go_simp
          refine hK.out _ _ ?_
          clear hK K
          try simp only [Act.put, List.setIfInBounds_toArray, List.set_cons_zero, List.set_cons_succ]
          refine absE (fun x4 hx4 => ?_)
          have hbut : But x3 x4 (u4.heap.size) := by rw [hx4]; exact (But.refl _ _).store.store.store
          have hbn : Bl x4 (u4.heap.size) #[(.bool (decide (r5.num < 0))), .slice a4 n4 c4, .slice d4 m4 k4] := by rw [hx4]; exact (Bl.set (Bl.set (Bl.set bx (by simp)) (by simp)) (by simp))
          replace hs3 := hs3.but bx (not_ints3 nb_bool nb_slice nb_slice) hbut
          replace ht3 := ht3.but bx (not_ints3 nb_bool nb_slice nb_slice) hbut
          replace hs4 := hs4.but bx (not_ints3 nb_bool nb_slice nb_slice) hbut
          replace ht4 := ht4.but bx (not_ints3 nb_bool nb_slice nb_slice) hbut
          replace bp := But.bl hbut bp (Nat.succ_pos _) (by omega)
          replace bq := But.bl hbut bq (Nat.succ_pos _) (by omega)
          replace br := But.bl hbut br (Nat.succ_pos _) (by omega)
          replace fx : Fz x4 (u4.heap.size) := by rw [hx4]; exact (Fz.set (Fz.set (Fz.set fx)))
          replace HE : Ext x1 x4 := by rw [hx4]; exact (((HE.store (by show x1.heap.size ≤ u4.heap.size; omega) _).store (by show x1.heap.size ≤ u4.heap.size; omega) _).store (by show x1.heap.size ≤ u4.heap.size; omega) _)
          clear bx hbut hx4
          have bx := hbn
          clear hbn
          refine wpE_done ?_
          go_wp2_with fail
          go_meet
          exact ⟨u4.heap.size, a4, d4, n4, c4, m4, k4, rfl, bx, hs4, ht4, HE⟩
        · refine wpE_l rfl rfl (fun K hK => ?_)
          go_simp
          refine hK.out _ _ ((Ext.refl _).alloc _) ?_
          clear hK K
          try simp only [Act.put, List.setIfInBounds_toArray, List.set_cons_zero, List.set_cons_succ]
          have lpx := bp.lt (Nat.succ_pos _)
          have lqx := bq.lt (Nat.succ_pos _)
          have lrx := br.lt (Nat.succ_pos _)
          have l0x := HE.size
          refine absE (fun x3 hx3 => ?_)
          have hx : Ext u3 x3 := by rw [hx3]; exact ((Ext.refl _).alloc _)
          have bx : Bl x3 (u3.heap.size) #[.bool false, .slice none 0 0, .slice none 0 0] := by rw [hx3]; exact (Bl.new (by simp))
          have fx : Fz x3 (u3.heap.size) := by rw [hx3]; exact (Fz.new (by simp))
          replace bp := Bl.ext hx bp (Nat.succ_pos _)
          replace bq := Bl.ext hx bq (Nat.succ_pos _)
          replace br := Bl.ext hx br (Nat.succ_pos _)
          replace hs3 := hs3.ext hx
          replace ht3 := ht3.ext hx
          replace HE := HE.trans hx
          clear hx
          clear hx3
          refine wpE_l rfl rfl (fun K hK => ?_)
          go_simp
          refine (A5.out _ ((H.out.ext HE0.out).ext HE) _ _ _ _ _ _ _ (fq_of hs3 ht3 L1.out (by omega))).mono ?_
          rintro e u4 ⟨a4, n4, c4, d4, m4, k4, rfl, hs4, ht4, hx⟩
          refine hK.out _ _ hx ?_
          clear hK K
          try simp only [Act.put, List.setIfInBounds_toArray, List.set_cons_zero, List.set_cons_succ]
          replace bp := Bl.ext hx bp (Nat.succ_pos _)
          replace bq := Bl.ext hx bq (Nat.succ_pos _)
          replace br := Bl.ext hx br (Nat.succ_pos _)
          replace fx := Fz.ext hx fx bx (Nat.succ_pos _)
          replace bx := Bl.ext hx bx (Nat.succ_pos _)
          replace hs3 := hs3.ext hx
          replace ht3 := ht3.ext hx
          replace HE := HE.trans hx
          clear hx
          replace hs4 : Nc u4 a4 n4 c4 (r5.num).natAbs := hs4
          replace ht4 : Nc u4 d4 m4 k4 (r5.den) := ht4
          refine wpE_b rfl rfl (fun K hK => ?_)
          go_simp
          refine hK.out _ _ ?_
          clear hK K
          try simp only [Act.put, List.setIfInBounds_toArray, List.set_cons_zero, List.set_cons_succ]
          refine absE (fun x4 hx4 => ?_)
          have hbut : But u4 x4 (u3.heap.size) := by rw [hx4]; exact (But.refl _ _).store.store.store
          have hbn : Bl x4 (u3.heap.size) #[(.bool (decide (r5.num < 0))), .slice a4 n4 c4, .slice d4 m4 k4] := by rw [hx4]; exact (Bl.set (Bl.set (Bl.set bx (by simp)) (by simp)) (by simp))
          replace hs3 := hs3.but bx (not_ints3 nb_bool nb_slice nb_slice) hbut
          replace ht3 := ht3.but bx (not_ints3 nb_bool nb_slice nb_slice) hbut
          replace hs4 := hs4.but bx (not_ints3 nb_bool nb_slice nb_slice) hbut
          replace ht4 := ht4.but bx (not_ints3 nb_bool nb_slice nb_slice) hbut
          replace bp := But.bl hbut bp (Nat.succ_pos _) (by omega)
          replace bq := But.bl hbut bq (Nat.succ_pos _) (by omega)
          replace br := But.bl hbut br (Nat.succ_pos _) (by omega)
          replace fx : Fz x4 (u3.heap.size) := by rw [hx4]; exact (Fz.set (Fz.set (Fz.set fx)))
          replace HE : Ext x1 x4 := by rw [hx4]; exact (((HE.store (by show x1.heap.size ≤ u3.heap.size; omega) _).store (by show x1.heap.size ≤ u3.heap.size; omega) _).store (by show x1.heap.size ≤ u3.heap.size; omega) _)
          clear bx hbut hx4
          have bx := hbn
          clear hbn
          refine wpE_done ?_
          go_wp2_with fail
          go_meet
          exact ⟨u3.heap.size, a4, d4, n4, c4, m4, k4, rfl, bx, hs4, ht4, HE⟩
      · refine wpE_l rfl rfl (fun K hK => ?_)
        go_simp
        refine hK.out _ _ ((Ext.refl _).alloc _) ?_
        clear hK K
        try simp only [Act.put, List.setIfInBounds_toArray, List.set_cons_zero, List.set_cons_succ]
        have lpx := bp.lt (Nat.succ_pos _)
        have lqx := bq.lt (Nat.succ_pos _)
        have lrx := br.lt (Nat.succ_pos _)
        have l0x := HE.size
        refine absE (fun x3 hx3 => ?_)
        have hx : Ext x2 x3 := by rw [hx3]; exact ((Ext.refl _).alloc _)
        have bx : Bl x3 (x2.heap.size) #[.bool false, .slice none 0 0, .slice none 0 0] := by rw [hx3]; exact (Bl.new (by simp))
        have fx : Fz x3 (x2.heap.size) := by rw [hx3]; exact (Fz.new (by simp))
        replace bp := Bl.ext hx bp (Nat.succ_pos _)
        replace bq := Bl.ext hx bq (Nat.succ_pos _)
        replace br := Bl.ext hx br (Nat.succ_pos _)
        replace HE := HE.trans hx
        clear hx
        clear hx3
        refine wpE_l rfl rfl (fun K hK => ?_)
        go_simp
        refine (A1.out _ ((H'.out.ext HE0.out).ext HE) ((H''.out.ext HE0.out).ext HE)).mono ?_
        rintro e u3 ⟨a3, n3, c3, d3, m3, k3, rfl, hs3, ht3, hx⟩
        refine hK.out _ _ hx ?_
        clear hK K
        try simp only [Act.put, List.setIfInBounds_toArray, List.set_cons_zero, List.set_cons_succ]
        replace bp := Bl.ext hx bp (Nat.succ_pos _)
        replace bq := Bl.ext hx bq (Nat.succ_pos _)
        replace br := Bl.ext hx br (Nat.succ_pos _)
        replace fx := Fz.ext hx fx bx (Nat.succ_pos _)
        replace bx := Bl.ext hx bx (Nat.succ_pos _)
        replace HE := HE.trans hx
        clear hx
        replace hs3 : Nc u3 a3 n3 c3 (r1.num).natAbs := hs3
        replace ht3 : Nc u3 d3 m3 k3 (r1.den) := ht3
        refine wpE_l rfl rfl (fun K hK => ?_)
        go_simp
        refine (A5.out _ ((H.out.ext HE0.out).ext HE) _ _ _ _ _ _ _ (fq_of hs3 ht3 L1.out (by omega))).mono ?_
        rintro e u4 ⟨a4, n4, c4, d4, m4, k4, rfl, hs4, ht4, hx⟩
        refine hK.out _ _ hx ?_
        clear hK K
        try simp only [Act.put, List.setIfInBounds_toArray, List.set_cons_zero, List.set_cons_succ]
        replace bp := Bl.ext hx bp (Nat.succ_pos _)
        replace bq := Bl.ext hx bq (Nat.succ_pos _)
        replace br := Bl.ext hx br (Nat.succ_pos _)
        replace fx := Fz.ext hx fx bx (Nat.succ_pos _)
        replace bx := Bl.ext hx bx (Nat.succ_pos _)
        replace hs3 := hs3.ext hx
        replace ht3 := ht3.ext hx
        replace HE := HE.trans hx
        clear hx
        replace hs4 : Nc u4 a4 n4 c4 (r5.num).natAbs := hs4
        replace ht4 : Nc u4 d4 m4 k4 (r5.den) := ht4
        refine wpE_b rfl rfl (fun K hK => ?_)
        go_simp
        refine hK.out _ _ ?_
        clear hK K
        try simp only [Act.put, List.setIfInBounds_toArray, List.set_cons_zero, List.set_cons_succ]
        refine absE (fun x4 hx4 => ?_)
        have hbut : But u4 x4 (x2.heap.size) := by rw [hx4]; exact (But.refl _ _).store.store.store
        have hbn : Bl x4 (x2.heap.size) #[(.bool (decide (r5.num < 0))), .slice a4 n4 c4, .slice d4 m4 k4] := by rw [hx4]; exact (Bl.set (Bl.set (Bl.set bx (by simp)) (by simp)) (by simp))
        replace hs3 := hs3.but bx (not_ints3 nb_bool nb_slice nb_slice) hbut
        replace ht3 := ht3.but bx (not_ints3 nb_bool nb_slice nb_slice) hbut
        replace hs4 := hs4.but bx (not_ints3 nb_bool nb_slice nb_slice) hbut
        replace ht4 := ht4.but bx (not_ints3 nb_bool nb_slice nb_slice) hbut
        replace bp := But.bl hbut bp (Nat.succ_pos _) (by omega)
        replace bq := But.bl hbut bq (Nat.succ_pos _) (by omega)
        replace br := But.bl hbut br (Nat.succ_pos _) (by omega)
        replace fx : Fz x4 (x2.heap.size) := by rw [hx4]; exact (Fz.set (Fz.set (Fz.set fx)))
        replace HE : Ext x1 x4 := by rw [hx4]; exact (((HE.store (by show x1.heap.size ≤ x2.heap.size; omega) _).store (by show x1.heap.size ≤ x2.heap.size; omega) _).store (by show x1.heap.size ≤ x2.heap.size; omega) _)
        clear bx hbut hx4
        have bx := hbn
        clear hbn
        refine wpE_done ?_
        go_wp2_with fail
        go_meet
        exact ⟨x2.heap.size, a4, d4, n4, c4, m4, k4, rfl, bx, hs4, ht4, HE⟩
    case rest =>
      obtain ⟨gx, ax, dx, nx, cx, mx, kx, rfl, bx, hsx, htx, hx⟩ := hcut
      replace bp := Bl.ext hx bp (Nat.succ_pos _)
      replace bq := Bl.ext hx bq (Nat.succ_pos _)
      replace br := Bl.ext hx br (Nat.succ_pos _)
      replace HE := HE.trans hx
      clear hx
      go_upto_region 2 with fail
      go_cut [8] (fun vv wx => ∃ (gv : Nat) (av dv : Option Addr) (nv cv mv kv : Nat), vv = .pointer (some ⟨gv, 0, none⟩) ∧ Bl wx gv #[.bool (decide (r5.num < 0)), .slice av nv cv, .slice dv mv kv] ∧ Nc wx av nv cv (r5.num).natAbs ∧ Nc wx dv mv kv (r5.den) ∧ Ext wc wx)
      case first =>
        have HE0 := hidP HE
        clear HE
        have HE := Ext.refl wc
        refine wp_region_plan (R := Ext) (.q 0 (.q 1 (.q 3 (.q 4 (.br 2 (.br 5 (.br 6 (.l 7 (.b 8 .done)) (.l 7 (.l 6 (.b 8 .done)))) (.l 7 (.l 5 (.l 6 (.b 8 .done))))) (.l 7 (.l 2 (.l 5 (.l 6 (.b 8 .done)))))))))) (by kernel_rfl) (by kernel_rfl) (by kernel_rfl) (by kernel_rfl) Ext.refl (fun _ _ _ => Ext.trans) ?_
        refine absE (fun x2 hx2 => ?_)
        have hx : Ext wc x2 := by rw [hx2]; exact (Ext.refl _).drew
        replace bp := Bl.ext hx bp (Nat.succ_pos _)
        replace bq := Bl.ext hx bq (Nat.succ_pos _)
        replace br := Bl.ext hx br (Nat.succ_pos _)
        replace bx := Bl.ext hx bx (Nat.succ_pos _)
        replace hsx := hsx.ext hx
        replace htx := htx.ext hx
        replace HE := HE.trans hx
        clear hx
        clear hx2
        repeat (refine wpE_q (v := ?_) rfl rfl (fun u hu => ?_) ?_; rotate_left 1; (focus (have kp := Bl.ext hu bp (Nat.succ_pos _); have kq := Bl.ext hu bq (Nat.succ_pos _); have kr := Bl.ext hu br (Nat.succ_pos _); have kx := Bl.ext hu bx (Nat.succ_pos _); go_simp; (try rfl))); simp only [Act.put, List.setIfInBounds_toArray, List.set_cons_zero, List.set_cons_succ])
        refine wpE_br rfl rfl (fun K hK => ?_) ?_
        · go_simp
          refine (A2.out _ ((H.out.ext HE0.out).ext HE) ((H'.out.ext HE0.out).ext HE)).mono ?_
          rintro e u2 ⟨a2, n2, c2, d2, m2, k2, rfl, hs2, ht2, hx⟩
          refine hK.out _ _ hx ?_
          clear hK K
          try simp only [Act.put, List.setIfInBounds_toArray, List.set_cons_zero, List.set_cons_succ]
          replace bp := Bl.ext hx bp (Nat.succ_pos _)
          replace bq := Bl.ext hx bq (Nat.succ_pos _)
          replace br := Bl.ext hx br (Nat.succ_pos _)
          replace bx := Bl.ext hx bx (Nat.succ_pos _)
          replace hsx := hsx.ext hx
          replace htx := htx.ext hx
          replace HE := HE.trans hx
          clear hx
          replace hs2 : Nc u2 a2 n2 c2 (r2.num).natAbs := hs2
          replace ht2 : Nc u2 d2 m2 k2 (r2.den) := ht2
          refine wpE_br rfl rfl (fun K hK => ?_) ?_
          · go_simp
            refine (A3.out _ ((H.out.ext HE0.out).ext HE) ((H''.out.ext HE0.out).ext HE)).mono ?_
            rintro e u5 ⟨a5, n5, c5, d5, m5, k5, rfl, hs5, ht5, hx⟩
            refine hK.out _ _ hx ?_
            clear hK K
            try simp only [Act.put, List.setIfInBounds_toArray, List.set_cons_zero, List.set_cons_succ]
            replace bp := Bl.ext hx bp (Nat.succ_pos _)
            replace bq := Bl.ext hx bq (Nat.succ_pos _)
            replace br := Bl.ext hx br (Nat.succ_pos _)
            replace bx := Bl.ext hx bx (Nat.succ_pos _)
            replace hsx := hsx.ext hx
            replace htx := htx.ext hx
            replace hs2 := hs2.ext hx
            replace ht2 := ht2.ext hx
            replace HE := HE.trans hx
            clear hx
            replace hs5 : Nc u5 a5 n5 c5 (r3.num).natAbs := hs5
            replace ht5 : Nc u5 d5 m5 k5 (r3.den) := ht5
            refine wpE_br rfl rfl (fun K hK => ?_) ?_
            · go_simp
              refine (A6.out _ _ _ _ _ _ _ _ (fq_of hs2 ht2 L2.out (by omega)) _ _ _ _ _ _ _ (fq_of hs5 ht5 L3.out (by omega))).mono ?_
              rintro e u6 ⟨a6, n6, c6, d6, m6, k6, rfl, hs6, ht6, hx⟩
              refine hK.out _ _ hx ?_
              clear hK K
              try simp only [Act.put, List.setIfInBounds_toArray, List.set_cons_zero, List.set_cons_succ]
              replace bp := Bl.ext hx bp (Nat.succ_pos _)
              replace bq := Bl.ext hx bq (Nat.succ_pos _)
              replace br := Bl.ext hx br (Nat.succ_pos _)
              replace bx := Bl.ext hx bx (Nat.succ_pos _)
              replace hsx := hsx.ext hx
              replace htx := htx.ext hx
              replace hs2 := hs2.ext hx
              replace ht2 := ht2.ext hx
              replace hs5 := hs5.ext hx
              replace ht5 := ht5.ext hx
              replace HE := HE.trans hx
              clear hx
              replace hs6 : Nc u6 a6 n6 c6 (r5.num).natAbs := hs6
              replace ht6 : Nc u6 d6 m6 k6 (r5.den) := ht6
              refine wpE_l rfl rfl (fun K hK => ?_)
              go_simp
              refine hK.out _ _ ((Ext.refl _).alloc _) ?_
              clear hK K
              try simp only [Act.put, List.setIfInBounds_toArray, List.set_cons_zero, List.set_cons_succ]
              have lpv := bp.lt (Nat.succ_pos _)
              have lqv := bq.lt (Nat.succ_pos _)
              have lrv := br.lt (Nat.succ_pos _)
              have lxv := bx.lt (Nat.succ_pos _)
              have l0v := HE.size
              refine absE (fun x3 hx3 => ?_)
              have hx : Ext u6 x3 := by rw [hx3]; exact ((Ext.refl _).alloc _)
              have bv : Bl x3 (u6.heap.size) #[.bool false, .slice none 0 0, .slice none 0 0] := by rw [hx3]; exact (Bl.new (by simp))
              have fv : Fz x3 (u6.heap.size) := by rw [hx3]; exact (Fz.new (by simp))
              replace bp := Bl.ext hx bp (Nat.succ_pos _)
              replace bq := Bl.ext hx bq (Nat.succ_pos _)
              replace br := Bl.ext hx br (Nat.succ_pos _)
              replace bx := Bl.ext hx bx (Nat.succ_pos _)
              replace hsx := hsx.ext hx
              replace htx := htx.ext hx
              replace hs2 := hs2.ext hx
              replace ht2 := ht2.ext hx
              replace hs5 := hs5.ext hx
              replace ht5 := ht5.ext hx
              replace hs6 := hs6.ext hx
              replace ht6 := ht6.ext hx
              replace HE := HE.trans hx
              clear hx
              clear hx3
              refine wpE_b rfl rfl (fun K hK => ?_)
              go_simp
              refine hK.out _ _ ?_
              clear hK K
              try simp only [Act.put, List.setIfInBounds_toArray, List.set_cons_zero, List.set_cons_succ]
              refine absE (fun x4 hx4 => ?_)
              have hbut : But x3 x4 (u6.heap.size) := by rw [hx4]; exact (But.refl _ _).store.store.store
              have hbn : Bl x4 (u6.heap.size) #[(.bool (decide (r5.num < 0))), .slice a6 n6 c6, .slice d6 m6 k6] := by rw [hx4]; exact (Bl.set (Bl.set (Bl.set bv (by simp)) (by simp)) (by simp))
              replace hsx := hsx.but bv (not_ints3 nb_bool nb_slice nb_slice) hbut
              replace htx := htx.but bv (not_ints3 nb_bool nb_slice nb_slice) hbut
              replace hs2 := hs2.but bv (not_ints3 nb_bool nb_slice nb_slice) hbut
              replace ht2 := ht2.but bv (not_ints3 nb_bool nb_slice nb_slice) hbut
              replace hs5 := hs5.but bv (not_ints3 nb_bool nb_slice nb_slice) hbut
              replace ht5 := ht5.but bv (not_ints3 nb_bool nb_slice nb_slice) hbut
              replace hs6 := hs6.but bv (not_ints3 nb_bool nb_slice nb_slice) hbut
              replace ht6 := ht6.but bv (not_ints3 nb_bool nb_slice nb_slice) hbut
              replace bp := But.bl hbut bp (Nat.succ_pos _) (by omega)
              replace bq := But.bl hbut bq (Nat.succ_pos _) (by omega)
              replace br := But.bl hbut br (Nat.succ_pos _) (by omega)
              replace bx := But.bl hbut bx (Nat.succ_pos _) (by omega)
              replace fv : Fz x4 (u6.heap.size) := by rw [hx4]; exact (Fz.set (Fz.set (Fz.set fv)))
              replace HE : Ext wc x4 := by rw [hx4]; exact (((HE.store (by show wc.heap.size ≤ u6.heap.size; omega) _).store (by show wc.heap.size ≤ u6.heap.size; omega) _).store (by show wc.heap.size ≤ u6.heap.size; omega) _)
              clear bv hbut hx4
              have bv := hbn
              clear hbn
              refine wpE_done ?_
              go_wp2_with fail
              go_meet
              exact ⟨u6.heap.size, a6, d6, n6, c6, m6, k6, rfl, bv, hs6, ht6, HE⟩
            · refine wpE_l rfl rfl (fun K hK => ?_)
              go_simp
              refine hK.out _ _ ((Ext.refl _).alloc _) ?_
              clear hK K
              try simp only [Act.put, List.setIfInBounds_toArray, List.set_cons_zero, List.set_cons_succ]
              have lpv := bp.lt (Nat.succ_pos _)
              have lqv := bq.lt (Nat.succ_pos _)
              have lrv := br.lt (Nat.succ_pos _)
              have lxv := bx.lt (Nat.succ_pos _)
              have l0v := HE.size
              refine absE (fun x3 hx3 => ?_)
              have hx : Ext u5 x3 := by rw [hx3]; exact ((Ext.refl _).alloc _)
              have bv : Bl x3 (u5.heap.size) #[.bool false, .slice none 0 0, .slice none 0 0] := by rw [hx3]; exact (Bl.new (by simp))
              have fv : Fz x3 (u5.heap.size) := by rw [hx3]; exact (Fz.new (by simp))
              replace bp := Bl.ext hx bp (Nat.succ_pos _)
              replace bq := Bl.ext hx bq (Nat.succ_pos _)
              replace br := Bl.ext hx br (Nat.succ_pos _)
              replace bx := Bl.ext hx bx (Nat.succ_pos _)
              replace hsx := hsx.ext hx
              replace htx := htx.ext hx
              replace hs2 := hs2.ext hx
              replace ht2 := ht2.ext hx
              replace hs5 := hs5.ext hx
              replace ht5 := ht5.ext hx
              replace HE := HE.trans hx
              clear hx
              clear hx3
              refine wpE_l rfl rfl (fun K hK => ?_)
              go_simp
              refine (A6.out _ _ _ _ _ _ _ _ (fq_of hs2 ht2 L2.out (by omega)) _ _ _ _ _ _ _ (fq_of hs5 ht5 L3.out (by omega))).mono ?_
              rintro e u6 ⟨a6, n6, c6, d6, m6, k6, rfl, hs6, ht6, hx⟩
              refine hK.out _ _ hx ?_
              clear hK K
              try simp only [Act.put, List.setIfInBounds_toArray, List.set_cons_zero, List.set_cons_succ]
              replace bp := Bl.ext hx bp (Nat.succ_pos _)
              replace bq := Bl.ext hx bq (Nat.succ_pos _)
              replace br := Bl.ext hx br (Nat.succ_pos _)
              replace bx := Bl.ext hx bx (Nat.succ_pos _)
              replace fv := Fz.ext hx fv bv (Nat.succ_pos _)
              replace bv := Bl.ext hx bv (Nat.succ_pos _)
              replace hsx := hsx.ext hx
              replace htx := htx.ext hx
              replace hs2 := hs2.ext hx
              replace ht2 := ht2.ext hx
              replace hs5 := hs5.ext hx
              replace ht5 := ht5.ext hx
              replace HE := HE.trans hx
              clear hx
              replace hs6 : Nc u6 a6 n6 c6 (r5.num).natAbs := hs6
              replace ht6 : Nc u6 d6 m6 k6 (r5.den) := ht6
              refine wpE_b rfl rfl (fun K hK => ?_)
              go_simp
              refine hK.out _ _ ?_
              clear hK K
              try simp only [Act.put, List.setIfInBounds_toArray, List.set_cons_zero, List.set_cons_succ]
              refine absE (fun x4 hx4 => ?_)
              have hbut : But u6 x4 (u5.heap.size) := by rw [hx4]; exact (But.refl _ _).store.store.store
              have hbn : Bl x4 (u5.heap.size) #[(.bool (decide (r5.num < 0))), .slice a6 n6 c6, .slice d6 m6 k6] := by rw [hx4]; exact (Bl.set (Bl.set (Bl.set bv (by simp)) (by simp)) (by simp))
              replace hsx := hsx.but bv (not_ints3 nb_bool nb_slice nb_slice) hbut
              replace htx := htx.but bv (not_ints3 nb_bool nb_slice nb_slice) hbut
              replace hs2 := hs2.but bv (not_ints3 nb_bool nb_slice nb_slice) hbut
              replace ht2 := ht2.but bv (not_ints3 nb_bool nb_slice nb_slice) hbut
              replace hs5 := hs5.but bv (not_ints3 nb_bool nb_slice nb_slice) hbut
              replace ht5 := ht5.but bv (not_ints3 nb_bool nb_slice nb_slice) hbut
              replace hs6 := hs6.but bv (not_ints3 nb_bool nb_slice nb_slice) hbut
              replace ht6 := ht6.but bv (not_ints3 nb_bool nb_slice nb_slice) hbut
              replace bp := But.bl hbut bp (Nat.succ_pos _) (by omega)
              replace bq := But.bl hbut bq (Nat.succ_pos _) (by omega)
              replace br := But.bl hbut br (Nat.succ_pos _) (by omega)
              replace bx := But.bl hbut bx (Nat.succ_pos _) (by omega)
              replace fv : Fz x4 (u5.heap.size) := by rw [hx4]; exact (Fz.set (Fz.set (Fz.set fv)))
              replace HE : Ext wc x4 := by rw [hx4]; exact (((HE.store (by show wc.heap.size ≤ u5.heap.size; omega) _).store (by show wc.heap.size ≤ u5.heap.size; omega) _).store (by show wc.heap.size ≤ u5.heap.size; omega) _)
              clear bv hbut hx4
              have bv := hbn
              clear hbn
              refine wpE_done ?_
              go_wp2_with fail
              go_meet
              exact ⟨u5.heap.size, a6, d6, n6, c6, m6, k6, rfl, bv, hs6, ht6, HE⟩
          · refine wpE_l rfl rfl (fun K hK => ?_)
            go_simp
            refine hK.out _ _ ((Ext.refl _).alloc _) ?_
            clear hK K
            try simp only [Act.put, List.setIfInBounds_toArray, List.set_cons_zero, List.set_cons_succ]
            have lpv := bp.lt (Nat.succ_pos _)
            have lqv := bq.lt (Nat.succ_pos _)
            have lrv := br.lt (Nat.succ_pos _)
            have lxv := bx.lt (Nat.succ_pos _)
            have l0v := HE.size
            refine absE (fun x3 hx3 => ?_)
            have hx : Ext u2 x3 := by rw [hx3]; exact ((Ext.refl _).alloc _)
            have bv : Bl x3 (u2.heap.size) #[.bool false, .slice none 0 0, .slice none 0 0] := by rw [hx3]; exact (Bl.new (by simp))
            have fv : Fz x3 (u2.heap.size) := by rw [hx3]; exact (Fz.new (by simp))
            replace bp := Bl.ext hx bp (Nat.succ_pos _)
            replace bq := Bl.ext hx bq (Nat.succ_pos _)
            replace br := Bl.ext hx br (Nat.succ_pos _)
            replace bx := Bl.ext hx bx (Nat.succ_pos _)
            replace hsx := hsx.ext hx
            replace htx := htx.ext hx
            replace hs2 := hs2.ext hx
            replace ht2 := ht2.ext hx
            replace HE := HE.trans hx
            clear hx
            clear hx3
            refine wpE_l rfl rfl (fun K hK => ?_)
            go_simp
            refine (A3.out _ ((H.out.ext HE0.out).ext HE) ((H''.out.ext HE0.out).ext HE)).mono ?_
            rintro e u5 ⟨a5, n5, c5, d5, m5, k5, rfl, hs5, ht5, hx⟩
            refine hK.out _ _ hx ?_
            clear hK K
            try simp only [Act.put, List.setIfInBounds_toArray, List.set_cons_zero, List.set_cons_succ]
            replace bp := Bl.ext hx bp (Nat.succ_pos _)
            replace bq := Bl.ext hx bq (Nat.succ_pos _)
            replace br := Bl.ext hx br (Nat.succ_pos _)
            replace bx := Bl.ext hx bx (Nat.succ_pos _)
            replace fv := Fz.ext hx fv bv (Nat.succ_pos _)
            replace bv := Bl.ext hx bv (Nat.succ_pos _)
            replace hsx := hsx.ext hx
            replace htx := htx.ext hx
            replace hs2 := hs2.ext hx
            replace ht2 := ht2.ext hx
            replace HE := HE.trans hx
            clear hx
            replace hs5 : Nc u5 a5 n5 c5 (r3.num).natAbs := hs5
            replace ht5 : Nc u5 d5 m5 k5 (r3.den) := ht5
            refine wpE_l rfl rfl (fun K hK => ?_)
            go_simp
            refine (A6.out _ _ _ _ _ _ _ _ (fq_of hs2 ht2 L2.out (by omega)) _ _ _ _ _ _ _ (fq_of hs5 ht5 L3.out (by omega))).mono ?_
            rintro e u6 ⟨a6, n6, c6, d6, m6, k6, rfl, hs6, ht6, hx⟩
            refine hK.out _ _ hx ?_
            clear hK K
            try simp only [Act.put, List.setIfInBounds_toArray, List.set_cons_zero, List.set_cons_succ]
            replace bp := Bl.ext hx bp (Nat.succ_pos _)
            replace bq := Bl.ext hx bq (Nat.succ_pos _)
            replace br := Bl.ext hx br (Nat.succ_pos _)
            replace bx := Bl.ext hx bx (Nat.succ_pos _)
            replace fv := Fz.ext hx fv bv (Nat.succ_pos _)
            replace bv := Bl.ext hx bv (Nat.succ_pos _)
            replace hsx := hsx.ext hx
            replace htx := htx.ext hx
            replace hs2 := hs2.ext hx
            replace ht2 := ht2.ext hx
            replace hs5 := hs5.ext hx
            replace ht5 := ht5.ext hx
            replace HE := HE.trans hx
            clear hx
            replace hs6 : Nc u6 a6 n6 c6 (r5.num).natAbs := hs6
            replace ht6 : Nc u6 d6 m6 k6 (r5.den) := ht6
            refine wpE_b rfl rfl (fun K hK => ?_)
            go_simp
            refine hK.out _ _ ?_
            clear hK K
            try simp only [Act.put, List.setIfInBounds_toArray, List.set_cons_zero, List.set_cons_succ]
            refine absE (fun x4 hx4 => ?_)
            have hbut : But u6 x4 (u2.heap.size) := by rw [hx4]; exact (But.refl _ _).store.store.store
            have hbn : Bl x4 (u2.heap.size) #[(.bool (decide (r5.num < 0))), .slice a6 n6 c6, .slice d6 m6 k6] := by rw [hx4]; exact (Bl.set (Bl.set (Bl.set bv (by simp)) (by simp)) (by simp))
            replace hsx := hsx.but bv (not_ints3 nb_bool nb_slice nb_slice) hbut
            replace htx := htx.but bv (not_ints3 nb_bool nb_slice nb_slice) hbut
            replace hs2 := hs2.but bv (not_ints3 nb_bool nb_slice nb_slice) hbut
            replace ht2 := ht2.but bv (not_ints3 nb_bool nb_slice nb_slice) hbut
            replace hs5 := hs5.but bv (not_ints3 nb_bool nb_slice nb_slice) hbut
            replace ht5 := ht5.but bv (not_ints3 nb_bool nb_slice nb_slice) hbut
            replace hs6 := hs6.but bv (not_ints3 nb_bool nb_slice nb_slice) hbut
            replace ht6 := ht6.but bv (not_ints3 nb_bool nb_slice nb_slice) hbut
            replace bp := But.bl hbut bp (Nat.succ_pos _) (by omega)
            replace bq := But.bl hbut bq (Nat.succ_pos _) (by omega)
            replace br := But.bl hbut br (Nat.succ_pos _) (by omega)
            replace bx := But.bl hbut bx (Nat.succ_pos _) (by omega)
            replace fv : Fz x4 (u2.heap.size) := by rw [hx4]; exact (Fz.set (Fz.set (Fz.set fv)))
            replace HE : Ext wc x4 := by rw [hx4]; exact (((HE.store (by show wc.heap.size ≤ u2.heap.size; omega) _).store (by show wc.heap.size ≤ u2.heap.size; omega) _).store (by show wc.heap.size ≤ u2.heap.size; omega) _)
            clear bv hbut hx4
            have bv := hbn
            clear hbn
            refine wpE_done ?_
            go_wp2_with fail
            go_meet
            exact ⟨u2.heap.size, a6, d6, n6, c6, m6, k6, rfl, bv, hs6, ht6, HE⟩
        · refine wpE_l rfl rfl (fun K hK => ?_)
          go_simp
          refine hK.out _ _ ((Ext.refl _).alloc _) ?_
          clear hK K
          try simp only [Act.put, List.setIfInBounds_toArray, List.set_cons_zero, List.set_cons_succ]
          have lpv := bp.lt (Nat.succ_pos _)
          have lqv := bq.lt (Nat.succ_pos _)
          have lrv := br.lt (Nat.succ_pos _)
          have lxv := bx.lt (Nat.succ_pos _)
          have l0v := HE.size
          refine absE (fun x3 hx3 => ?_)
          have hx : Ext x2 x3 := by rw [hx3]; exact ((Ext.refl _).alloc _)
          have bv : Bl x3 (x2.heap.size) #[.bool false, .slice none 0 0, .slice none 0 0] := by rw [hx3]; exact (Bl.new (by simp))
          have fv : Fz x3 (x2.heap.size) := by rw [hx3]; exact (Fz.new (by simp))
          replace bp := Bl.ext hx bp (Nat.succ_pos _)
          replace bq := Bl.ext hx bq (Nat.succ_pos _)
          replace br := Bl.ext hx br (Nat.succ_pos _)
          replace bx := Bl.ext hx bx (Nat.succ_pos _)
          replace hsx := hsx.ext hx
          replace htx := htx.ext hx
          replace HE := HE.trans hx
          clear hx
          clear hx3
          refine wpE_l rfl rfl (fun K hK => ?_)
          go_simp
          refine (A2.out _ ((H.out.ext HE0.out).ext HE) ((H'.out.ext HE0.out).ext HE)).mono ?_
          rintro e u2 ⟨a2, n2, c2, d2, m2, k2, rfl, hs2, ht2, hx⟩
          refine hK.out _ _ hx ?_
          clear hK K
          try simp only [Act.put, List.setIfInBounds_toArray, List.set_cons_zero, List.set_cons_succ]
          replace bp := Bl.ext hx bp (Nat.succ_pos _)
          replace bq := Bl.ext hx bq (Nat.succ_pos _)
          replace br := Bl.ext hx br (Nat.succ_pos _)
          replace bx := Bl.ext hx bx (Nat.succ_pos _)
          replace fv := Fz.ext hx fv bv (Nat.succ_pos _)
          replace bv := Bl.ext hx bv (Nat.succ_pos _)
          replace hsx := hsx.ext hx
          replace htx := htx.ext hx
          replace HE := HE.trans hx
          clear hx
          replace hs2 : Nc u2 a2 n2 c2 (r2.num).natAbs := hs2
          replace ht2 : Nc u2 d2 m2 k2 (r2.den) := ht2
          refine wpE_l rfl rfl (fun K hK => ?_)
          go_simp
          refine (A3.out _ ((H.out.ext HE0.out).ext HE) ((H''.out.ext HE0.out).ext HE)).mono ?_
          rintro e u5 ⟨a5, n5, c5, d5, m5, k5, rfl, hs5, ht5, hx⟩
          refine hK.out _ _ hx ?_
          clear hK K
          try simp only [Act.put, List.setIfInBounds_toArray, List.set_cons_zero, List.set_cons_succ]
          replace bp := Bl.ext hx bp (Nat.succ_pos _)
          replace bq := Bl.ext hx bq (Nat.succ_pos _)
          replace br := Bl.ext hx br (Nat.succ_pos _)
          replace bx := Bl.ext hx bx (Nat.succ_pos _)
          replace fv := Fz.ext hx fv bv (Nat.succ_pos _)
          replace bv := Bl.ext hx bv (Nat.succ_pos _)
          replace hsx := hsx.ext hx
          replace htx := htx.ext hx
          replace hs2 := hs2.ext hx
          replace ht2 := ht2.ext hx
          replace HE := HE.trans hx
          clear hx
          replace hs5 : Nc u5 a5 n5 c5 (r3.num).natAbs := hs5
          replace ht5 : Nc u5 d5 m5 k5 (r3.den) := ht5
          refine wpE_l rfl rfl (fun K hK => ?_)
          go_simp
          refine (A6.out _ _ _ _ _ _ _ _ (fq_of hs2 ht2 L2.out (by omega)) _ _ _ _ _ _ _ (fq_of hs5 ht5 L3.out (by omega))).mono ?_
          rintro e u6 ⟨a6, n6, c6, d6, m6, k6, rfl, hs6, ht6, hx⟩
          refine hK.out _ _ hx ?_
          clear hK K
          try simp only [Act.put, List.setIfInBounds_toArray, List.set_cons_zero, List.set_cons_succ]
          replace bp := Bl.ext hx bp (Nat.succ_pos _)
          replace bq := Bl.ext hx bq (Nat.succ_pos _)
          replace br := Bl.ext hx br (Nat.succ_pos _)
          replace bx := Bl.ext hx bx (Nat.succ_pos _)
          replace fv := Fz.ext hx fv bv (Nat.succ_pos _)
          replace bv := Bl.ext hx bv (Nat.succ_pos _)
          replace hsx := hsx.ext hx
          replace htx := htx.ext hx
          replace hs2 := hs2.ext hx
          replace ht2 := ht2.ext hx
          replace hs5 := hs5.ext hx
          replace ht5 := ht5.ext hx
          replace HE := HE.trans hx
          clear hx
          replace hs6 : Nc u6 a6 n6 c6 (r5.num).natAbs := hs6
          replace ht6 : Nc u6 d6 m6 k6 (r5.den) := ht6
          refine wpE_b rfl rfl (fun K hK => ?_)
          go_simp
          refine hK.out _ _ ?_
          clear hK K
          try simp only [Act.put, List.setIfInBounds_toArray, List.set_cons_zero, List.set_cons_succ]
          refine absE (fun x4 hx4 => ?_)
          have hbut : But u6 x4 (x2.heap.size) := by rw [hx4]; exact (But.refl _ _).store.store.store
          have hbn : Bl x4 (x2.heap.size) #[(.bool (decide (r5.num < 0))), .slice a6 n6 c6, .slice d6 m6 k6] := by rw [hx4]; exact (Bl.set (Bl.set (Bl.set bv (by simp)) (by simp)) (by simp))
          replace hsx := hsx.but bv (not_ints3 nb_bool nb_slice nb_slice) hbut
          replace htx := htx.but bv (not_ints3 nb_bool nb_slice nb_slice) hbut
          replace hs2 := hs2.but bv (not_ints3 nb_bool nb_slice nb_slice) hbut
          replace ht2 := ht2.but bv (not_ints3 nb_bool nb_slice nb_slice) hbut
          replace hs5 := hs5.but bv (not_ints3 nb_bool nb_slice nb_slice) hbut
          replace ht5 := ht5.but bv (not_ints3 nb_bool nb_slice nb_slice) hbut
          replace hs6 := hs6.but bv (not_ints3 nb_bool nb_slice nb_slice) hbut
          replace ht6 := ht6.but bv (not_ints3 nb_bool nb_slice nb_slice) hbut
          replace bp := But.bl hbut bp (Nat.succ_pos _) (by omega)
          replace bq := But.bl hbut bq (Nat.succ_pos _) (by omega)
          replace br := But.bl hbut br (Nat.succ_pos _) (by omega)
          replace bx := But.bl hbut bx (Nat.succ_pos _) (by omega)
          replace fv : Fz x4 (x2.heap.size) := by rw [hx4]; exact (Fz.set (Fz.set (Fz.set fv)))
          replace HE : Ext wc x4 := by rw [hx4]; exact (((HE.store (by show wc.heap.size ≤ x2.heap.size; omega) _).store (by show wc.heap.size ≤ x2.heap.size; omega) _).store (by show wc.heap.size ≤ x2.heap.size; omega) _)
          clear bv hbut hx4
          have bv := hbn
          clear hbn
          refine wpE_done ?_
          go_wp2_with fail
          go_meet
          exact ⟨x2.heap.size, a6, d6, n6, c6, m6, k6, rfl, bv, hs6, ht6, HE⟩
      case rest =>
        obtain ⟨gv, av, dv, nv, cv, mv, kv, rfl, bv, hsv, htv, hx⟩ := hcut
        replace bp := Bl.ext hx bp (Nat.succ_pos _)
        replace bq := Bl.ext hx bq (Nat.succ_pos _)
        replace br := Bl.ext hx br (Nat.succ_pos _)
        replace bx := Bl.ext hx bx (Nat.succ_pos _)
        replace hsx := hsx.ext hx
        replace htx := htx.ext hx
        replace HE := HE.trans hx
        clear hx
        go_upto_region 3 with fail
        go_cut [9, 10] (fun vh ve wx => ∃ (gh : Nat) (ah dh : Option Addr) (nh ch mh kh : Nat), vh = .pointer (some ⟨gh, 0, none⟩) ∧ ve = .int .i64 0 ∧ Bl wx gh #[.bool (decide (q.num < 0)), .slice ah nh ch, .slice dh mh kh] ∧ Nc wx ah nh ch (q.num).natAbs ∧ Nc wx dh mh kh (q.den) ∧ Ext wc wx)
        case first =>
          have HE0 := hidP HE
          clear HE
          have HE := Ext.refl wc
          have lop := bp.lt (Nat.succ_pos _)
          have loq := bq.lt (Nat.succ_pos _)
          have lor := br.lt (Nat.succ_pos _)
          have lox := bx.lt (Nat.succ_pos _)
          have lov := bv.lt (Nat.succ_pos _)
          have hlo : wc.heap.size ≤ wc.heap.size := Nat.le_refl _
          refine wp_region_plan (R := Below wc.heap.size) (.q 0 (.q 1 (.q 3 (.br 2 (.br 4 (.q 5 (.q 6 (.q 7 (.l 8 (.l 9 (.q 10 .done)))))) (.l 8 (.l 4 (.q 5 (.q 6 (.q 7 (.l 9 (.q 10 .done)))))))) (.l 8 (.l 2 (.l 4 (.q 5 (.q 6 (.q 7 (.l 9 (.q 10 .done)))))))))))) (by kernel_rfl) (by kernel_rfl) (by kernel_rfl) (by kernel_rfl) (Below.refl _) (fun _ _ _ => Below.trans) ?_
          refine absE (fun x2 hx2 => ?_)
          have hx : Ext wc x2 := by rw [hx2]; exact (Ext.refl _).drew
          replace hlo := Nat.le_trans hlo hx.size
          replace bp := Bl.ext hx bp (Nat.succ_pos _)
          replace bq := Bl.ext hx bq (Nat.succ_pos _)
          replace br := Bl.ext hx br (Nat.succ_pos _)
          replace bx := Bl.ext hx bx (Nat.succ_pos _)
          replace bv := Bl.ext hx bv (Nat.succ_pos _)
          replace hsx := hsx.ext hx
          replace htx := htx.ext hx
          replace hsv := hsv.ext hx
          replace htv := htv.ext hx
          replace HE := HE.trans hx
          clear hx
          clear hx2
          repeat (refine wpE_q (v := ?_) rfl rfl (fun u hu => ?_) ?_; rotate_left 1; (focus (have kp := Bl.low hu bp lop; have kq := Bl.low hu bq loq; have kr := Bl.low hu br lor; have kx := Bl.low hu bx lox; have kv := Bl.low hu bv lov; go_simp; (try rfl))); simp only [Act.put, List.setIfInBounds_toArray, List.set_cons_zero, List.set_cons_succ])
          refine wpE_br rfl rfl (fun K hK => ?_) ?_
          · go_simp
            refine (A2.out _ ((H.out.ext HE0.out).ext HE) ((H'.out.ext HE0.out).ext HE)).mono ?_
            rintro e u2 ⟨a2, n2, c2, d2, m2, k2, rfl, hs2, ht2, hx⟩
            refine hK.out _ _ (Below.mono hx hlo) ?_
            clear hK K
            try simp only [Act.put, List.setIfInBounds_toArray, List.set_cons_zero, List.set_cons_succ]
            replace hlo := Nat.le_trans hlo hx.size
            replace bp := Bl.ext hx bp (Nat.succ_pos _)
            replace bq := Bl.ext hx bq (Nat.succ_pos _)
            replace br := Bl.ext hx br (Nat.succ_pos _)
            replace bx := Bl.ext hx bx (Nat.succ_pos _)
            replace bv := Bl.ext hx bv (Nat.succ_pos _)
            replace hsx := hsx.ext hx
            replace htx := htx.ext hx
            replace hsv := hsv.ext hx
            replace htv := htv.ext hx
            replace HE := HE.trans hx
            clear hx
            replace hs2 : Nc u2 a2 n2 c2 (r2.num).natAbs := hs2
            replace ht2 : Nc u2 d2 m2 k2 (r2.den) := ht2
            refine wpE_br rfl rfl (fun K hK => ?_) ?_
            · go_simp
              refine (A8.out _ _ _ _ _ _ _ _ (fq_of hs2 ht2 L2.out (by omega)) ((H'.out.ext HE0.out).ext HE) HQ0.out).mono ?_
              rw [HDV.out]
              rintro e u4 ⟨a4, n4, c4, d4, m4, k4, rfl, hs4, ht4, hx⟩
              refine hK.out _ _ (Below.mono hx hlo) ?_
              clear hK K
              try simp only [Act.put, List.setIfInBounds_toArray, List.set_cons_zero, List.set_cons_succ]
              replace hlo := Nat.le_trans hlo hx.size
              replace bp := Bl.ext hx bp (Nat.succ_pos _)
              replace bq := Bl.ext hx bq (Nat.succ_pos _)
              replace br := Bl.ext hx br (Nat.succ_pos _)
              replace bx := Bl.ext hx bx (Nat.succ_pos _)
              replace bv := Bl.ext hx bv (Nat.succ_pos _)
              replace hsx := hsx.ext hx
              replace htx := htx.ext hx
              replace hsv := hsv.ext hx
              replace htv := htv.ext hx
              replace hs2 := hs2.ext hx
              replace ht2 := ht2.ext hx
              replace HE := HE.trans hx
              clear hx
              replace hs4 : Nc u4 a4 n4 c4 (q.num).natAbs := hs4
              replace ht4 : Nc u4 d4 m4 k4 (q.den) := ht4
              repeat (refine wpE_q (v := ?_) rfl rfl (fun u hu => ?_) ?_; rotate_left 1; (focus (have kp := Bl.low hu bp lop; have kq := Bl.low hu bq loq; have kr := Bl.low hu br lor; have kx := Bl.low hu bx lox; have kv := Bl.low hu bv lov; go_simp; (try rfl))); simp only [Act.put, List.setIfInBounds_toArray, List.set_cons_zero, List.set_cons_succ])
              refine wpE_l rfl rfl (fun K hK => ?_)
              go_simp
              refine hK.out _ _ ((Below.refl _ _).alloc hlo _) ?_
              clear hK K
              try simp only [Act.put, List.setIfInBounds_toArray, List.set_cons_zero, List.set_cons_succ]
              have geh := hlo
              have lph := bp.lt (Nat.succ_pos _)
              have lqh := bq.lt (Nat.succ_pos _)
              have lrh := br.lt (Nat.succ_pos _)
              have lxh := bx.lt (Nat.succ_pos _)
              have lvh := bv.lt (Nat.succ_pos _)
              have l0h := HE.size
              refine absE (fun x3 hx3 => ?_)
              have hx : Ext u4 x3 := by rw [hx3]; exact ((Ext.refl _).alloc _)
              have bh : Bl x3 (u4.heap.size) #[.bool false, .slice none 0 0, .slice none 0 0] := by rw [hx3]; exact (Bl.new (by simp))
              have fh : Fz x3 (u4.heap.size) := by rw [hx3]; exact (Fz.new (by simp))
              replace hlo := Nat.le_trans hlo hx.size
              replace bp := Bl.ext hx bp (Nat.succ_pos _)
              replace bq := Bl.ext hx bq (Nat.succ_pos _)
              replace br := Bl.ext hx br (Nat.succ_pos _)
              replace bx := Bl.ext hx bx (Nat.succ_pos _)
              replace bv := Bl.ext hx bv (Nat.succ_pos _)
              replace hsx := hsx.ext hx
              replace htx := htx.ext hx
              replace hsv := hsv.ext hx
              replace htv := htv.ext hx
              replace hs2 := hs2.ext hx
              replace ht2 := ht2.ext hx
              replace hs4 := hs4.ext hx
              replace ht4 := ht4.ext hx
              replace HE := HE.trans hx
              clear hx
              clear hx3
              refine wpE_l rfl rfl (fun K hK => ?_)
              go_simp
              refine hK.out _ _ ((((Below.refl _ _).setCell (by show wc.heap.size ≤ u4.heap.size; omega) _).setCell (by show wc.heap.size ≤ u4.heap.size; omega) _).setCell (by show wc.heap.size ≤ u4.heap.size; omega) _) ?_
              clear hK K
              try simp only [Act.put, List.setIfInBounds_toArray, List.set_cons_zero, List.set_cons_succ]
              refine absE (fun x4 hx4 => ?_)
              have hbut : But x3 x4 (u4.heap.size) := by rw [hx4]; exact (But.refl _ _).store.store.store
              have hbn : Bl x4 (u4.heap.size) #[(.bool (decide (q.num < 0))), .slice a4 n4 c4, .slice d4 m4 k4] := by rw [hx4]; exact (Bl.set (Bl.set (Bl.set bh (by simp)) (by simp)) (by simp))
              replace hsx := hsx.but bh (not_ints3 nb_bool nb_slice nb_slice) hbut
              replace htx := htx.but bh (not_ints3 nb_bool nb_slice nb_slice) hbut
              replace hsv := hsv.but bh (not_ints3 nb_bool nb_slice nb_slice) hbut
              replace htv := htv.but bh (not_ints3 nb_bool nb_slice nb_slice) hbut
              replace hs2 := hs2.but bh (not_ints3 nb_bool nb_slice nb_slice) hbut
              replace ht2 := ht2.but bh (not_ints3 nb_bool nb_slice nb_slice) hbut
              replace hs4 := hs4.but bh (not_ints3 nb_bool nb_slice nb_slice) hbut
              replace ht4 := ht4.but bh (not_ints3 nb_bool nb_slice nb_slice) hbut
              replace bp := But.bl hbut bp (Nat.succ_pos _) (by omega)
              replace bq := But.bl hbut bq (Nat.succ_pos _) (by omega)
              replace br := But.bl hbut br (Nat.succ_pos _) (by omega)
              replace bx := But.bl hbut bx (Nat.succ_pos _) (by omega)
              replace bv := But.bl hbut bv (Nat.succ_pos _) (by omega)
              replace fh : Fz x4 (u4.heap.size) := by rw [hx4]; exact (Fz.set (Fz.set (Fz.set fh)))
              replace HE : Ext wc x4 := by rw [hx4]; exact (((HE.store (by show wc.heap.size ≤ u4.heap.size; omega) _).store (by show wc.heap.size ≤ u4.heap.size; omega) _).store (by show wc.heap.size ≤ u4.heap.size; omega) _)
              replace hlo : wc.heap.size ≤ x4.heap.size := Nat.le_trans hlo hbut.1
              clear bh hbut hx4
              have bh := hbn
              clear hbn
              repeat (refine wpE_q (v := ?_) rfl rfl (fun u hu => ?_) ?_; rotate_left 1; (focus (have kp := Bl.low hu bp lop; have kq := Bl.low hu bq loq; have kr := Bl.low hu br lor; have kx := Bl.low hu bx lox; have kv := Bl.low hu bv lov; go_simp; (try rfl))); simp only [Act.put, List.setIfInBounds_toArray, List.set_cons_zero, List.set_cons_succ])
              refine wpE_done ?_
              clear hlo
              go_wp2_with fail
              go_meet
              exact ⟨u4.heap.size, a4, d4, n4, c4, m4, k4, rfl, rfl, bh, hs4, ht4, HE⟩
            · refine wpE_l rfl rfl (fun K hK => ?_)
              go_simp
              refine hK.out _ _ ((Below.refl _ _).alloc hlo _) ?_
              clear hK K
              try simp only [Act.put, List.setIfInBounds_toArray, List.set_cons_zero, List.set_cons_succ]
              have geh := hlo
              have lph := bp.lt (Nat.succ_pos _)
              have lqh := bq.lt (Nat.succ_pos _)
              have lrh := br.lt (Nat.succ_pos _)
              have lxh := bx.lt (Nat.succ_pos _)
              have lvh := bv.lt (Nat.succ_pos _)
              have l0h := HE.size
              refine absE (fun x3 hx3 => ?_)
              have hx : Ext u2 x3 := by rw [hx3]; exact ((Ext.refl _).alloc _)
              have bh : Bl x3 (u2.heap.size) #[.bool false, .slice none 0 0, .slice none 0 0] := by rw [hx3]; exact (Bl.new (by simp))
              have fh : Fz x3 (u2.heap.size) := by rw [hx3]; exact (Fz.new (by simp))
              replace hlo := Nat.le_trans hlo hx.size
              replace bp := Bl.ext hx bp (Nat.succ_pos _)
              replace bq := Bl.ext hx bq (Nat.succ_pos _)
              replace br := Bl.ext hx br (Nat.succ_pos _)
              replace bx := Bl.ext hx bx (Nat.succ_pos _)
              replace bv := Bl.ext hx bv (Nat.succ_pos _)
              replace hsx := hsx.ext hx
              replace htx := htx.ext hx
              replace hsv := hsv.ext hx
              replace htv := htv.ext hx
              replace hs2 := hs2.ext hx
              replace ht2 := ht2.ext hx
              replace HE := HE.trans hx
              clear hx
              clear hx3
              refine wpE_l rfl rfl (fun K hK => ?_)
              go_simp
              refine (A8.out _ _ _ _ _ _ _ _ (fq_of hs2 ht2 L2.out (by omega)) ((H'.out.ext HE0.out).ext HE) HQ0.out).mono ?_
              rw [HDV.out]
              rintro e u4 ⟨a4, n4, c4, d4, m4, k4, rfl, hs4, ht4, hx⟩
              refine hK.out _ _ (Below.mono hx hlo) ?_
              clear hK K
              try simp only [Act.put, List.setIfInBounds_toArray, List.set_cons_zero, List.set_cons_succ]
              replace hlo := Nat.le_trans hlo hx.size
              replace bp := Bl.ext hx bp (Nat.succ_pos _)
              replace bq := Bl.ext hx bq (Nat.succ_pos _)
              replace br := Bl.ext hx br (Nat.succ_pos _)
              replace bx := Bl.ext hx bx (Nat.succ_pos _)
              replace bv := Bl.ext hx bv (Nat.succ_pos _)
              replace fh := Fz.ext hx fh bh (Nat.succ_pos _)
              replace bh := Bl.ext hx bh (Nat.succ_pos _)
              replace hsx := hsx.ext hx
              replace htx := htx.ext hx
              replace hsv := hsv.ext hx
              replace htv := htv.ext hx
              replace hs2 := hs2.ext hx
              replace ht2 := ht2.ext hx
              replace HE := HE.trans hx
              clear hx
              replace hs4 : Nc u4 a4 n4 c4 (q.num).natAbs := hs4
              replace ht4 : Nc u4 d4 m4 k4 (q.den) := ht4
              repeat (refine wpE_q (v := ?_) rfl rfl (fun u hu => ?_) ?_; rotate_left 1; (focus (have kp := Bl.low hu bp lop; have kq := Bl.low hu bq loq; have kr := Bl.low hu br lor; have kx := Bl.low hu bx lox; have kv := Bl.low hu bv lov; go_simp; (try rfl))); simp only [Act.put, List.setIfInBounds_toArray, List.set_cons_zero, List.set_cons_succ])
              refine wpE_l rfl rfl (fun K hK => ?_)
              go_simp
              refine hK.out _ _ ((((Below.refl _ _).setCell (by show wc.heap.size ≤ u2.heap.size; omega) _).setCell (by show wc.heap.size ≤ u2.heap.size; omega) _).setCell (by show wc.heap.size ≤ u2.heap.size; omega) _) ?_
              clear hK K
              try simp only [Act.put, List.setIfInBounds_toArray, List.set_cons_zero, List.set_cons_succ]
              refine absE (fun x4 hx4 => ?_)
              have hbut : But u4 x4 (u2.heap.size) := by rw [hx4]; exact (But.refl _ _).store.store.store
              have hbn : Bl x4 (u2.heap.size) #[(.bool (decide (q.num < 0))), .slice a4 n4 c4, .slice d4 m4 k4] := by rw [hx4]; exact (Bl.set (Bl.set (Bl.set bh (by simp)) (by simp)) (by simp))
              replace hsx := hsx.but bh (not_ints3 nb_bool nb_slice nb_slice) hbut
              replace htx := htx.but bh (not_ints3 nb_bool nb_slice nb_slice) hbut
              replace hsv := hsv.but bh (not_ints3 nb_bool nb_slice nb_slice) hbut
              replace htv := htv.but bh (not_ints3 nb_bool nb_slice nb_slice) hbut
              replace hs2 := hs2.but bh (not_ints3 nb_bool nb_slice nb_slice) hbut
              replace ht2 := ht2.but bh (not_ints3 nb_bool nb_slice nb_slice) hbut
              replace hs4 := hs4.but bh (not_ints3 nb_bool nb_slice nb_slice) hbut
              replace ht4 := ht4.but bh (not_ints3 nb_bool nb_slice nb_slice) hbut
              replace bp := But.bl hbut bp (Nat.succ_pos _) (by omega)
              replace bq := But.bl hbut bq (Nat.succ_pos _) (by omega)
              replace br := But.bl hbut br (Nat.succ_pos _) (by omega)
              replace bx := But.bl hbut bx (Nat.succ_pos _) (by omega)
              replace bv := But.bl hbut bv (Nat.succ_pos _) (by omega)
              replace fh : Fz x4 (u2.heap.size) := by rw [hx4]; exact (Fz.set (Fz.set (Fz.set fh)))
              replace HE : Ext wc x4 := by rw [hx4]; exact (((HE.store (by show wc.heap.size ≤ u2.heap.size; omega) _).store (by show wc.heap.size ≤ u2.heap.size; omega) _).store (by show wc.heap.size ≤ u2.heap.size; omega) _)
              replace hlo : wc.heap.size ≤ x4.heap.size := Nat.le_trans hlo hbut.1
              clear bh hbut hx4
              have bh := hbn
              clear hbn
              repeat (refine wpE_q (v := ?_) rfl rfl (fun u hu => ?_) ?_; rotate_left 1; (focus (have kp := Bl.low hu bp lop; have kq := Bl.low hu bq loq; have kr := Bl.low hu br lor; have kx := Bl.low hu bx lox; have kv := Bl.low hu bv lov; go_simp; (try rfl))); simp only [Act.put, List.setIfInBounds_toArray, List.set_cons_zero, List.set_cons_succ])
              refine wpE_done ?_
              clear hlo
              go_wp2_with fail
              go_meet
              exact ⟨u2.heap.size, a4, d4, n4, c4, m4, k4, rfl, rfl, bh, hs4, ht4, HE⟩
          · refine wpE_l rfl rfl (fun K hK => ?_)
            go_simp
            refine hK.out _ _ ((Below.refl _ _).alloc hlo _) ?_
            clear hK K
            try simp only [Act.put, List.setIfInBounds_toArray, List.set_cons_zero, List.set_cons_succ]
            have geh := hlo
            have lph := bp.lt (Nat.succ_pos _)
            have lqh := bq.lt (Nat.succ_pos _)
            have lrh := br.lt (Nat.succ_pos _)
            have lxh := bx.lt (Nat.succ_pos _)
            have lvh := bv.lt (Nat.succ_pos _)
            have l0h := HE.size
            refine absE (fun x3 hx3 => ?_)
            have hx : Ext x2 x3 := by rw [hx3]; exact ((Ext.refl _).alloc _)
            have bh : Bl x3 (x2.heap.size) #[.bool false, .slice none 0 0, .slice none 0 0] := by rw [hx3]; exact (Bl.new (by simp))
            have fh : Fz x3 (x2.heap.size) := by rw [hx3]; exact (Fz.new (by simp))
            replace hlo := Nat.le_trans hlo hx.size
            replace bp := Bl.ext hx bp (Nat.succ_pos _)
            replace bq := Bl.ext hx bq (Nat.succ_pos _)
            replace br := Bl.ext hx br (Nat.succ_pos _)
            replace bx := Bl.ext hx bx (Nat.succ_pos _)
            replace bv := Bl.ext hx bv (Nat.succ_pos _)
            replace hsx := hsx.ext hx
            replace htx := htx.ext hx
            replace hsv := hsv.ext hx
            replace htv := htv.ext hx
            replace HE := HE.trans hx
            clear hx
            clear hx3
            refine wpE_l rfl rfl (fun K hK => ?_)
            go_simp
            refine (A2.out _ ((H.out.ext HE0.out).ext HE) ((H'.out.ext HE0.out).ext HE)).mono ?_
            rintro e u2 ⟨a2, n2, c2, d2, m2, k2, rfl, hs2, ht2, hx⟩
            refine hK.out _ _ (Below.mono hx hlo) ?_
            clear hK K
            try simp only [Act.put, List.setIfInBounds_toArray, List.set_cons_zero, List.set_cons_succ]
            replace hlo := Nat.le_trans hlo hx.size
            replace bp := Bl.ext hx bp (Nat.succ_pos _)
            replace bq := Bl.ext hx bq (Nat.succ_pos _)
            replace br := Bl.ext hx br (Nat.succ_pos _)
            replace bx := Bl.ext hx bx (Nat.succ_pos _)
            replace bv := Bl.ext hx bv (Nat.succ_pos _)
            replace fh := Fz.ext hx fh bh (Nat.succ_pos _)
            replace bh := Bl.ext hx bh (Nat.succ_pos _)
            replace hsx := hsx.ext hx
            replace htx := htx.ext hx
            replace hsv := hsv.ext hx
            replace htv := htv.ext hx
            replace HE := HE.trans hx
            clear hx
            replace hs2 : Nc u2 a2 n2 c2 (r2.num).natAbs := hs2
            replace ht2 : Nc u2 d2 m2 k2 (r2.den) := ht2
            refine wpE_l rfl rfl (fun K hK => ?_)
            go_simp
            refine (A8.out _ _ _ _ _ _ _ _ (fq_of hs2 ht2 L2.out (by omega)) ((H'.out.ext HE0.out).ext HE) HQ0.out).mono ?_
            rw [HDV.out]
            rintro e u4 ⟨a4, n4, c4, d4, m4, k4, rfl, hs4, ht4, hx⟩
            refine hK.out _ _ (Below.mono hx hlo) ?_
            clear hK K
            try simp only [Act.put, List.setIfInBounds_toArray, List.set_cons_zero, List.set_cons_succ]
            replace hlo := Nat.le_trans hlo hx.size
            replace bp := Bl.ext hx bp (Nat.succ_pos _)
            replace bq := Bl.ext hx bq (Nat.succ_pos _)
            replace br := Bl.ext hx br (Nat.succ_pos _)
            replace bx := Bl.ext hx bx (Nat.succ_pos _)
            replace bv := Bl.ext hx bv (Nat.succ_pos _)
            replace fh := Fz.ext hx fh bh (Nat.succ_pos _)
            replace bh := Bl.ext hx bh (Nat.succ_pos _)
            replace hsx := hsx.ext hx
            replace htx := htx.ext hx
            replace hsv := hsv.ext hx
            replace htv := htv.ext hx
            replace hs2 := hs2.ext hx
            replace ht2 := ht2.ext hx
            replace HE := HE.trans hx
            clear hx
            replace hs4 : Nc u4 a4 n4 c4 (q.num).natAbs := hs4
            replace ht4 : Nc u4 d4 m4 k4 (q.den) := ht4
            repeat (refine wpE_q (v := ?_) rfl rfl (fun u hu => ?_) ?_; rotate_left 1; (focus (have kp := Bl.low hu bp lop; have kq := Bl.low hu bq loq; have kr := Bl.low hu br lor; have kx := Bl.low hu bx lox; have kv := Bl.low hu bv lov; go_simp; (try rfl))); simp only [Act.put, List.setIfInBounds_toArray, List.set_cons_zero, List.set_cons_succ])
            refine wpE_l rfl rfl (fun K hK => ?_)
            go_simp
            refine hK.out _ _ ((((Below.refl _ _).setCell (by show wc.heap.size ≤ x2.heap.size; omega) _).setCell (by show wc.heap.size ≤ x2.heap.size; omega) _).setCell (by show wc.heap.size ≤ x2.heap.size; omega) _) ?_
            clear hK K
            try simp only [Act.put, List.setIfInBounds_toArray, List.set_cons_zero, List.set_cons_succ]
            refine absE (fun x4 hx4 => ?_)
            have hbut : But u4 x4 (x2.heap.size) := by rw [hx4]; exact (But.refl _ _).store.store.store
            have hbn : Bl x4 (x2.heap.size) #[(.bool (decide (q.num < 0))), .slice a4 n4 c4, .slice d4 m4 k4] := by rw [hx4]; exact (Bl.set (Bl.set (Bl.set bh (by simp)) (by simp)) (by simp))
            replace hsx := hsx.but bh (not_ints3 nb_bool nb_slice nb_slice) hbut
            replace htx := htx.but bh (not_ints3 nb_bool nb_slice nb_slice) hbut
            replace hsv := hsv.but bh (not_ints3 nb_bool nb_slice nb_slice) hbut
            replace htv := htv.but bh (not_ints3 nb_bool nb_slice nb_slice) hbut
            replace hs2 := hs2.but bh (not_ints3 nb_bool nb_slice nb_slice) hbut
            replace ht2 := ht2.but bh (not_ints3 nb_bool nb_slice nb_slice) hbut
            replace hs4 := hs4.but bh (not_ints3 nb_bool nb_slice nb_slice) hbut
            replace ht4 := ht4.but bh (not_ints3 nb_bool nb_slice nb_slice) hbut
            replace bp := But.bl hbut bp (Nat.succ_pos _) (by omega)
            replace bq := But.bl hbut bq (Nat.succ_pos _) (by omega)
            replace br := But.bl hbut br (Nat.succ_pos _) (by omega)
            replace bx := But.bl hbut bx (Nat.succ_pos _) (by omega)
            replace bv := But.bl hbut bv (Nat.succ_pos _) (by omega)
            replace fh : Fz x4 (x2.heap.size) := by rw [hx4]; exact (Fz.set (Fz.set (Fz.set fh)))
            replace HE : Ext wc x4 := by rw [hx4]; exact (((HE.store (by show wc.heap.size ≤ x2.heap.size; omega) _).store (by show wc.heap.size ≤ x2.heap.size; omega) _).store (by show wc.heap.size ≤ x2.heap.size; omega) _)
            replace hlo : wc.heap.size ≤ x4.heap.size := Nat.le_trans hlo hbut.1
            clear bh hbut hx4
            have bh := hbn
            clear hbn
            repeat (refine wpE_q (v := ?_) rfl rfl (fun u hu => ?_) ?_; rotate_left 1; (focus (have kp := Bl.low hu bp lop; have kq := Bl.low hu bq loq; have kr := Bl.low hu br lor; have kx := Bl.low hu bx lox; have kv := Bl.low hu bv lov; go_simp; (try rfl))); simp only [Act.put, List.setIfInBounds_toArray, List.set_cons_zero, List.set_cons_succ])
            refine wpE_done ?_
            clear hlo
            go_wp2_with fail
            go_meet
            exact ⟨x2.heap.size, a4, d4, n4, c4, m4, k4, rfl, rfl, bh, hs4, ht4, HE⟩
        case rest =>
          obtain ⟨gh, ah, dh, nh, ch, mh, kh, rfl, rfl, bh, hsh, hth, hx⟩ := hcut
          replace bp := Bl.ext hx bp (Nat.succ_pos _)
          replace bq := Bl.ext hx bq (Nat.succ_pos _)
          replace br := Bl.ext hx br (Nat.succ_pos _)
          replace bx := Bl.ext hx bx (Nat.succ_pos _)
          replace bv := Bl.ext hx bv (Nat.succ_pos _)
          replace hsx := hsx.ext hx
          replace htx := htx.ext hx
          replace hsv := hsv.ext hx
          replace htv := htv.ext hx
          replace HE := HE.trans hx
          clear hx
          go_wp2_with fail
          refine wp_region_plan (R := Ext) (.q 0 (.l 1 (.q 2 (.q 3 (.q 4 (.q 5 (.q 6 (.q 7 (.q 8 (.l 9 (.l 10 (.q 11 (.q 12 (.q 13 .done)))))))))))))) (by kernel_rfl) (by kernel_rfl) (by kernel_rfl) (by kernel_rfl) Ext.refl (fun _ _ _ => Ext.trans) ?_
          refine absE (fun x2 hx2 => ?_)
          have hx : Ext wc x2 := by rw [hx2]; exact (Ext.refl _).drew
          replace bp := Bl.ext hx bp (Nat.succ_pos _)
          replace bq := Bl.ext hx bq (Nat.succ_pos _)
          replace br := Bl.ext hx br (Nat.succ_pos _)
          replace bx := Bl.ext hx bx (Nat.succ_pos _)
          replace bv := Bl.ext hx bv (Nat.succ_pos _)
          replace bh := Bl.ext hx bh (Nat.succ_pos _)
          replace hsx := hsx.ext hx
          replace htx := htx.ext hx
          replace hsv := hsv.ext hx
          replace htv := htv.ext hx
          replace hsh := hsh.ext hx
          replace hth := hth.ext hx
          replace HE := HE.trans hx
          clear hx
          clear hx2
          repeat (refine wpE_q (v := ?_) rfl rfl (fun u hu => ?_) ?_; rotate_left 1; (focus (have kp := Bl.ext hu bp (Nat.succ_pos _); have kq := Bl.ext hu bq (Nat.succ_pos _); have kr := Bl.ext hu br (Nat.succ_pos _); have kx := Bl.ext hu bx (Nat.succ_pos _); have kv := Bl.ext hu bv (Nat.succ_pos _); have kh := Bl.ext hu bh (Nat.succ_pos _); go_simp; (try rfl))); simp only [Act.put, List.setIfInBounds_toArray, List.set_cons_zero, List.set_cons_succ])
          refine wpE_l rfl rfl (fun K hK => ?_)
          go_simp
          refine (A10.out _ (H'.out.ext HE)).mono ?_
          rintro e u5 ⟨rfl, hx⟩
          refine hK.out _ _ hx ?_
          clear hK K
          try simp only [Act.put, List.setIfInBounds_toArray, List.set_cons_zero, List.set_cons_succ]
          replace bp := Bl.ext hx bp (Nat.succ_pos _)
          replace bq := Bl.ext hx bq (Nat.succ_pos _)
          replace br := Bl.ext hx br (Nat.succ_pos _)
          replace bx := Bl.ext hx bx (Nat.succ_pos _)
          replace bv := Bl.ext hx bv (Nat.succ_pos _)
          replace bh := Bl.ext hx bh (Nat.succ_pos _)
          replace hsx := hsx.ext hx
          replace htx := htx.ext hx
          replace hsv := hsv.ext hx
          replace htv := htv.ext hx
          replace hsh := hsh.ext hx
          replace hth := hth.ext hx
          replace HE := HE.trans hx
          clear hx
          repeat (refine wpE_q (v := ?_) rfl rfl (fun u hu => ?_) ?_; rotate_left 1; (focus (have kp := Bl.ext hu bp (Nat.succ_pos _); have kq := Bl.ext hu bq (Nat.succ_pos _); have kr := Bl.ext hu br (Nat.succ_pos _); have kx := Bl.ext hu bx (Nat.succ_pos _); have kv := Bl.ext hu bv (Nat.succ_pos _); have kh := Bl.ext hu bh (Nat.succ_pos _); go_simp; (try rfl))); simp only [Act.put, List.setIfInBounds_toArray, List.set_cons_zero, List.set_cons_succ])
          refine wpE_l rfl rfl (fun K hK => ?_)
          go_simp
          refine (A11.out _ (H.out.ext HE)).mono ?_
          rintro e u6 ⟨a6, n6, c6, d6, m6, k6, rfl, hs6, ht6, hx⟩
          refine hK.out _ _ hx ?_
          clear hK K
          try simp only [Act.put, List.setIfInBounds_toArray, List.set_cons_zero, List.set_cons_succ]
          replace bp := Bl.ext hx bp (Nat.succ_pos _)
          replace bq := Bl.ext hx bq (Nat.succ_pos _)
          replace br := Bl.ext hx br (Nat.succ_pos _)
          replace bx := Bl.ext hx bx (Nat.succ_pos _)
          replace bv := Bl.ext hx bv (Nat.succ_pos _)
          replace bh := Bl.ext hx bh (Nat.succ_pos _)
          replace hsx := hsx.ext hx
          replace htx := htx.ext hx
          replace hsv := hsv.ext hx
          replace htv := htv.ext hx
          replace hsh := hsh.ext hx
          replace hth := hth.ext hx
          replace HE := HE.trans hx
          clear hx
          replace hs6 : Nc u6 a6 n6 c6 (q.num).natAbs := hs6
          replace ht6 : Nc u6 d6 m6 k6 (q.den) := ht6
          refine wpE_l rfl rfl (fun K hK => ?_)
          go_simp
          refine (gq_Same hsh hth hs6 ht6 (by have := L0.out; omega)).mono ?_
          rw [decide_eq_true (rfl : q = q)]
          rintro e u7 ⟨rfl, hx⟩
          refine hK.out _ _ hx ?_
          clear hK K
          try simp only [Act.put, List.setIfInBounds_toArray, List.set_cons_zero, List.set_cons_succ]
          replace bp := Bl.ext hx bp (Nat.succ_pos _)
          replace bq := Bl.ext hx bq (Nat.succ_pos _)
          replace br := Bl.ext hx br (Nat.succ_pos _)
          replace bx := Bl.ext hx bx (Nat.succ_pos _)
          replace bv := Bl.ext hx bv (Nat.succ_pos _)
          replace bh := Bl.ext hx bh (Nat.succ_pos _)
          replace hsx := hsx.ext hx
          replace htx := htx.ext hx
          replace hsv := hsv.ext hx
          replace htv := htv.ext hx
          replace hsh := hsh.ext hx
          replace hth := hth.ext hx
          replace hs6 := hs6.ext hx
          replace ht6 := ht6.ext hx
          replace HE := HE.trans hx
          clear hx
          repeat (refine wpE_q (v := ?_) rfl rfl (fun u hu => ?_) ?_; rotate_left 1; (focus (have kp := Bl.ext hu bp (Nat.succ_pos _); have kq := Bl.ext hu bq (Nat.succ_pos _); have kr := Bl.ext hu br (Nat.succ_pos _); have kx := Bl.ext hu bx (Nat.succ_pos _); have kv := Bl.ext hu bv (Nat.succ_pos _); have kh := Bl.ext hu bh (Nat.succ_pos _); go_simp; (try rfl))); simp only [Act.put, List.setIfInBounds_toArray, List.set_cons_zero, List.set_cons_succ])
          refine wpE_done ?_
          go_wp2_with fail
          refine wp_region_plan (R := Ext) (.q 0 (.q 1 (.l 2 (.q 3 (.q 4 (.q 5 (.q 7 (.q 9 (.l 6 (.l 8 (.l 10 (.l 11 (.q 12 (.q 13 (.q 14 (.q 15 (.q 18 (.q 20 (.l 16 (.q 17 (.l 19 (.l 21 (.l 22 (.q 23 (.q 24 (.q 25 (.l 26 (.q 27 (.q 28 .done))))))))))))))))))))))))))))) (by kernel_rfl) (by kernel_rfl) (by kernel_rfl) (by kernel_rfl) Ext.refl (fun _ _ _ => Ext.trans) ?_
          refine absE (fun x3 hx3 => ?_)
          have hx : Ext u7 x3 := by rw [hx3]; exact (Ext.refl _).drew
          replace bp := Bl.ext hx bp (Nat.succ_pos _)
          replace bq := Bl.ext hx bq (Nat.succ_pos _)
          replace br := Bl.ext hx br (Nat.succ_pos _)
          replace bx := Bl.ext hx bx (Nat.succ_pos _)
          replace bv := Bl.ext hx bv (Nat.succ_pos _)
          replace bh := Bl.ext hx bh (Nat.succ_pos _)
          replace hsx := hsx.ext hx
          replace htx := htx.ext hx
          replace hsv := hsv.ext hx
          replace htv := htv.ext hx
          replace hsh := hsh.ext hx
          replace hth := hth.ext hx
          replace hs6 := hs6.ext hx
          replace ht6 := ht6.ext hx
          replace HE := HE.trans hx
          clear hx
          clear hx3
          repeat (refine wpE_q (v := ?_) rfl rfl (fun u hu => ?_) ?_; rotate_left 1; (focus (have kp := Bl.ext hu bp (Nat.succ_pos _); have kq := Bl.ext hu bq (Nat.succ_pos _); have kr := Bl.ext hu br (Nat.succ_pos _); have kx := Bl.ext hu bx (Nat.succ_pos _); have kv := Bl.ext hu bv (Nat.succ_pos _); have kh := Bl.ext hu bh (Nat.succ_pos _); go_simp; (try rfl))); simp only [Act.put, List.setIfInBounds_toArray, List.set_cons_zero, List.set_cons_succ])
          refine wpE_l rfl rfl (fun K hK => ?_)
          go_simp
          refine (gq_Same hsx htx hsv htv (by have := L5.out; omega)).mono ?_
          rw [decide_eq_true (rfl : r5 = r5)]
          rintro e u8 ⟨rfl, hx⟩
          refine hK.out _ _ hx ?_
          clear hK K
          try simp only [Act.put, List.setIfInBounds_toArray, List.set_cons_zero, List.set_cons_succ]
          replace bp := Bl.ext hx bp (Nat.succ_pos _)
          replace bq := Bl.ext hx bq (Nat.succ_pos _)
          replace br := Bl.ext hx br (Nat.succ_pos _)
          replace bx := Bl.ext hx bx (Nat.succ_pos _)
          replace bv := Bl.ext hx bv (Nat.succ_pos _)
          replace bh := Bl.ext hx bh (Nat.succ_pos _)
          replace hsx := hsx.ext hx
          replace htx := htx.ext hx
          replace hsv := hsv.ext hx
          replace htv := htv.ext hx
          replace hsh := hsh.ext hx
          replace hth := hth.ext hx
          replace hs6 := hs6.ext hx
          replace ht6 := ht6.ext hx
          replace HE := HE.trans hx
          clear hx
          repeat (refine wpE_q (v := ?_) rfl rfl (fun u hu => ?_) ?_; rotate_left 1; (focus (have kp := Bl.ext hu bp (Nat.succ_pos _); have kq := Bl.ext hu bq (Nat.succ_pos _); have kr := Bl.ext hu br (Nat.succ_pos _); have kx := Bl.ext hu bx (Nat.succ_pos _); have kv := Bl.ext hu bv (Nat.succ_pos _); have kh := Bl.ext hu bh (Nat.succ_pos _); go_simp; (try rfl))); simp only [Act.put, List.setIfInBounds_toArray, List.set_cons_zero, List.set_cons_succ])
          refine wpE_l rfl rfl (fun K hK => ?_)
          go_simp
          refine (A4.out _ (H.out.ext HE) (H'.out.ext HE)).mono ?_
          rintro e u9 ⟨a9, n9, c9, d9, m9, k9, rfl, hs9, ht9, hx⟩
          refine hK.out _ _ hx ?_
          clear hK K
          try simp only [Act.put, List.setIfInBounds_toArray, List.set_cons_zero, List.set_cons_succ]
          replace bp := Bl.ext hx bp (Nat.succ_pos _)
          replace bq := Bl.ext hx bq (Nat.succ_pos _)
          replace br := Bl.ext hx br (Nat.succ_pos _)
          replace bx := Bl.ext hx bx (Nat.succ_pos _)
          replace bv := Bl.ext hx bv (Nat.succ_pos _)
          replace bh := Bl.ext hx bh (Nat.succ_pos _)
          replace hsx := hsx.ext hx
          replace htx := htx.ext hx
          replace hsv := hsv.ext hx
          replace htv := htv.ext hx
          replace hsh := hsh.ext hx
          replace hth := hth.ext hx
          replace hs6 := hs6.ext hx
          replace ht6 := ht6.ext hx
          replace HE := HE.trans hx
          clear hx
          replace hs9 : Nc u9 a9 n9 c9 (r4.num).natAbs := hs9
          replace ht9 : Nc u9 d9 m9 k9 (r4.den) := ht9
          refine wpE_l rfl rfl (fun K hK => ?_)
          go_simp
          refine (A7.out _ _ _ _ _ _ _ _ (fq_of hs9 ht9 L4.out (by omega)) (H'.out.ext HE)).mono ?_
          rintro e u10 ⟨a10, n10, c10, d10, m10, k10, rfl, hs10, ht10, hx⟩
          refine hK.out _ _ hx ?_
          clear hK K
          try simp only [Act.put, List.setIfInBounds_toArray, List.set_cons_zero, List.set_cons_succ]
          replace bp := Bl.ext hx bp (Nat.succ_pos _)
          replace bq := Bl.ext hx bq (Nat.succ_pos _)
          replace br := Bl.ext hx br (Nat.succ_pos _)
          replace bx := Bl.ext hx bx (Nat.succ_pos _)
          replace bv := Bl.ext hx bv (Nat.succ_pos _)
          replace bh := Bl.ext hx bh (Nat.succ_pos _)
          replace hsx := hsx.ext hx
          replace htx := htx.ext hx
          replace hsv := hsv.ext hx
          replace htv := htv.ext hx
          replace hsh := hsh.ext hx
          replace hth := hth.ext hx
          replace hs6 := hs6.ext hx
          replace ht6 := ht6.ext hx
          replace hs9 := hs9.ext hx
          replace ht9 := ht9.ext hx
          replace HE := HE.trans hx
          clear hx
          replace hs10 : Nc u10 a10 n10 c10 (q.num).natAbs := hs10
          replace ht10 : Nc u10 d10 m10 k10 (q.den) := ht10
          refine wpE_l rfl rfl (fun K hK => ?_)
          go_simp
          refine (A11.out _ (H.out.ext HE)).mono ?_
          rintro e u11 ⟨a11, n11, c11, d11, m11, k11, rfl, hs11, ht11, hx⟩
          refine hK.out _ _ hx ?_
          clear hK K
          try simp only [Act.put, List.setIfInBounds_toArray, List.set_cons_zero, List.set_cons_succ]
          replace bp := Bl.ext hx bp (Nat.succ_pos _)
          replace bq := Bl.ext hx bq (Nat.succ_pos _)
          replace br := Bl.ext hx br (Nat.succ_pos _)
          replace bx := Bl.ext hx bx (Nat.succ_pos _)
          replace bv := Bl.ext hx bv (Nat.succ_pos _)
          replace bh := Bl.ext hx bh (Nat.succ_pos _)
          replace hsx := hsx.ext hx
          replace htx := htx.ext hx
          replace hsv := hsv.ext hx
          replace htv := htv.ext hx
          replace hsh := hsh.ext hx
          replace hth := hth.ext hx
          replace hs6 := hs6.ext hx
          replace ht6 := ht6.ext hx
          replace hs9 := hs9.ext hx
          replace ht9 := ht9.ext hx
          replace hs10 := hs10.ext hx
          replace ht10 := ht10.ext hx
          replace HE := HE.trans hx
          clear hx
          replace hs11 : Nc u11 a11 n11 c11 (q.num).natAbs := hs11
          replace ht11 : Nc u11 d11 m11 k11 (q.den) := ht11
          refine wpE_l rfl rfl (fun K hK => ?_)
          go_simp
          refine (gq_Same hs10 ht10 hs11 ht11 (by have := L0.out; omega)).mono ?_
          rw [decide_eq_true (rfl : q = q)]
          rintro e u12 ⟨rfl, hx⟩
          refine hK.out _ _ hx ?_
          clear hK K
          try simp only [Act.put, List.setIfInBounds_toArray, List.set_cons_zero, List.set_cons_succ]
          replace bp := Bl.ext hx bp (Nat.succ_pos _)
          replace bq := Bl.ext hx bq (Nat.succ_pos _)
          replace br := Bl.ext hx br (Nat.succ_pos _)
          replace bx := Bl.ext hx bx (Nat.succ_pos _)
          replace bv := Bl.ext hx bv (Nat.succ_pos _)
          replace bh := Bl.ext hx bh (Nat.succ_pos _)
          replace hsx := hsx.ext hx
          replace htx := htx.ext hx
          replace hsv := hsv.ext hx
          replace htv := htv.ext hx
          replace hsh := hsh.ext hx
          replace hth := hth.ext hx
          replace hs6 := hs6.ext hx
          replace ht6 := ht6.ext hx
          replace hs9 := hs9.ext hx
          replace ht9 := ht9.ext hx
          replace hs10 := hs10.ext hx
          replace ht10 := ht10.ext hx
          replace hs11 := hs11.ext hx
          replace ht11 := ht11.ext hx
          replace HE := HE.trans hx
          clear hx
          repeat (refine wpE_q (v := ?_) rfl rfl (fun u hu => ?_) ?_; rotate_left 1; (focus (have kp := Bl.ext hu bp (Nat.succ_pos _); have kq := Bl.ext hu bq (Nat.succ_pos _); have kr := Bl.ext hu br (Nat.succ_pos _); have kx := Bl.ext hu bx (Nat.succ_pos _); have kv := Bl.ext hu bv (Nat.succ_pos _); have kh := Bl.ext hu bh (Nat.succ_pos _); go_simp; (try rfl))); simp only [Act.put, List.setIfInBounds_toArray, List.set_cons_zero, List.set_cons_succ])
          refine wpE_l rfl rfl (fun K hK => ?_)
          go_simp
          refine (A13.out _ (H.out.ext HE) (H'.out.ext HE)).mono ?_
          rintro e u13 ⟨rfl, hx⟩
          refine hK.out _ _ hx ?_
          clear hK K
          try simp only [Act.put, List.setIfInBounds_toArray, List.set_cons_zero, List.set_cons_succ]
          replace bp := Bl.ext hx bp (Nat.succ_pos _)
          replace bq := Bl.ext hx bq (Nat.succ_pos _)
          replace br := Bl.ext hx br (Nat.succ_pos _)
          replace bx := Bl.ext hx bx (Nat.succ_pos _)
          replace bv := Bl.ext hx bv (Nat.succ_pos _)
          replace bh := Bl.ext hx bh (Nat.succ_pos _)
          replace hsx := hsx.ext hx
          replace htx := htx.ext hx
          replace hsv := hsv.ext hx
          replace htv := htv.ext hx
          replace hsh := hsh.ext hx
          replace hth := hth.ext hx
          replace hs6 := hs6.ext hx
          replace ht6 := ht6.ext hx
          replace hs9 := hs9.ext hx
          replace ht9 := ht9.ext hx
          replace hs10 := hs10.ext hx
          replace ht10 := ht10.ext hx
          replace hs11 := hs11.ext hx
          replace ht11 := ht11.ext hx
          replace HE := HE.trans hx
          clear hx
          repeat (refine wpE_q (v := ?_) rfl rfl (fun u hu => ?_) ?_; rotate_left 1; (focus (have kp := Bl.ext hu bp (Nat.succ_pos _); have kq := Bl.ext hu bq (Nat.succ_pos _); have kr := Bl.ext hu br (Nat.succ_pos _); have kx := Bl.ext hu bx (Nat.succ_pos _); have kv := Bl.ext hu bv (Nat.succ_pos _); have kh := Bl.ext hu bh (Nat.succ_pos _); go_simp; (try rfl))); simp only [Act.put, List.setIfInBounds_toArray, List.set_cons_zero, List.set_cons_succ])
          refine wpE_l rfl rfl (fun K hK => ?_)
          go_simp
          refine (A11.out _ (H.out.ext HE)).mono ?_
          rintro e u14 ⟨a14, n14, c14, d14, m14, k14, rfl, hs14, ht14, hx⟩
          refine hK.out _ _ hx ?_
          clear hK K
          try simp only [Act.put, List.setIfInBounds_toArray, List.set_cons_zero, List.set_cons_succ]
          replace bp := Bl.ext hx bp (Nat.succ_pos _)
          replace bq := Bl.ext hx bq (Nat.succ_pos _)
          replace br := Bl.ext hx br (Nat.succ_pos _)
          replace bx := Bl.ext hx bx (Nat.succ_pos _)
          replace bv := Bl.ext hx bv (Nat.succ_pos _)
          replace bh := Bl.ext hx bh (Nat.succ_pos _)
          replace hsx := hsx.ext hx
          replace htx := htx.ext hx
          replace hsv := hsv.ext hx
          replace htv := htv.ext hx
          replace hsh := hsh.ext hx
          replace hth := hth.ext hx
          replace hs6 := hs6.ext hx
          replace ht6 := ht6.ext hx
          replace hs9 := hs9.ext hx
          replace ht9 := ht9.ext hx
          replace hs10 := hs10.ext hx
          replace ht10 := ht10.ext hx
          replace hs11 := hs11.ext hx
          replace ht11 := ht11.ext hx
          replace HE := HE.trans hx
          clear hx
          replace hs14 : Nc u14 a14 n14 c14 (q.num).natAbs := hs14
          replace ht14 : Nc u14 d14 m14 k14 (q.den) := ht14
          refine wpE_l rfl rfl (fun K hK => ?_)
          go_simp
          refine (A12.out _ (H'.out.ext HE)).mono ?_
          rintro e u15 ⟨a15, n15, c15, d15, m15, k15, rfl, hs15, ht15, hx⟩
          refine hK.out _ _ hx ?_
          clear hK K
          try simp only [Act.put, List.setIfInBounds_toArray, List.set_cons_zero, List.set_cons_succ]
          replace bp := Bl.ext hx bp (Nat.succ_pos _)
          replace bq := Bl.ext hx bq (Nat.succ_pos _)
          replace br := Bl.ext hx br (Nat.succ_pos _)
          replace bx := Bl.ext hx bx (Nat.succ_pos _)
          replace bv := Bl.ext hx bv (Nat.succ_pos _)
          replace bh := Bl.ext hx bh (Nat.succ_pos _)
          replace hsx := hsx.ext hx
          replace htx := htx.ext hx
          replace hsv := hsv.ext hx
          replace htv := htv.ext hx
          replace hsh := hsh.ext hx
          replace hth := hth.ext hx
          replace hs6 := hs6.ext hx
          replace ht6 := ht6.ext hx
          replace hs9 := hs9.ext hx
          replace ht9 := ht9.ext hx
          replace hs10 := hs10.ext hx
          replace ht10 := ht10.ext hx
          replace hs11 := hs11.ext hx
          replace ht11 := ht11.ext hx
          replace hs14 := hs14.ext hx
          replace ht14 := ht14.ext hx
          replace HE := HE.trans hx
          clear hx
          replace hs15 : Nc u15 a15 n15 c15 (q'.num).natAbs := hs15
          replace ht15 : Nc u15 d15 m15 k15 (q'.den) := ht15
          refine wpE_l rfl rfl (fun K hK => ?_)
          go_simp
          refine (S1.out _ _ _ _ _ _ _ _ _ _ _ _ _ hs14 ht14 hs15 ht15).mono ?_
          rintro e u16 ⟨rfl, hx⟩
          refine hK.out _ _ hx ?_
          clear hK K
          try simp only [Act.put, List.setIfInBounds_toArray, List.set_cons_zero, List.set_cons_succ]
          replace bp := Bl.ext hx bp (Nat.succ_pos _)
          replace bq := Bl.ext hx bq (Nat.succ_pos _)
          replace br := Bl.ext hx br (Nat.succ_pos _)
          replace bx := Bl.ext hx bx (Nat.succ_pos _)
          replace bv := Bl.ext hx bv (Nat.succ_pos _)
          replace bh := Bl.ext hx bh (Nat.succ_pos _)
          replace hsx := hsx.ext hx
          replace htx := htx.ext hx
          replace hsv := hsv.ext hx
          replace htv := htv.ext hx
          replace hsh := hsh.ext hx
          replace hth := hth.ext hx
          replace hs6 := hs6.ext hx
          replace ht6 := ht6.ext hx
          replace hs9 := hs9.ext hx
          replace ht9 := ht9.ext hx
          replace hs10 := hs10.ext hx
          replace ht10 := ht10.ext hx
          replace hs11 := hs11.ext hx
          replace ht11 := ht11.ext hx
          replace hs14 := hs14.ext hx
          replace ht14 := ht14.ext hx
          replace hs15 := hs15.ext hx
          replace ht15 := ht15.ext hx
          replace HE := HE.trans hx
          clear hx
          repeat (refine wpE_q (v := ?_) rfl rfl (fun u hu => ?_) ?_; rotate_left 1; (focus (have kp := Bl.ext hu bp (Nat.succ_pos _); have kq := Bl.ext hu bq (Nat.succ_pos _); have kr := Bl.ext hu br (Nat.succ_pos _); have kx := Bl.ext hu bx (Nat.succ_pos _); have kv := Bl.ext hu bv (Nat.succ_pos _); have kh := Bl.ext hu bh (Nat.succ_pos _); go_simp; (try rfl))); simp only [Act.put, List.setIfInBounds_toArray, List.set_cons_zero, List.set_cons_succ])
          refine wpE_l rfl rfl (fun K hK => ?_)
          go_simp
          refine (fr_lives _).mono ?_
          rintro e u17 ⟨rfl, hx⟩
          refine hK.out _ _ hx ?_
          clear hK K
          try simp only [Act.put, List.setIfInBounds_toArray, List.set_cons_zero, List.set_cons_succ]
          replace bp := Bl.ext hx bp (Nat.succ_pos _)
          replace bq := Bl.ext hx bq (Nat.succ_pos _)
          replace br := Bl.ext hx br (Nat.succ_pos _)
          replace bx := Bl.ext hx bx (Nat.succ_pos _)
          replace bv := Bl.ext hx bv (Nat.succ_pos _)
          replace bh := Bl.ext hx bh (Nat.succ_pos _)
          replace hsx := hsx.ext hx
          replace htx := htx.ext hx
          replace hsv := hsv.ext hx
          replace htv := htv.ext hx
          replace hsh := hsh.ext hx
          replace hth := hth.ext hx
          replace hs6 := hs6.ext hx
          replace ht6 := ht6.ext hx
          replace hs9 := hs9.ext hx
          replace ht9 := ht9.ext hx
          replace hs10 := hs10.ext hx
          replace ht10 := ht10.ext hx
          replace hs11 := hs11.ext hx
          replace ht11 := ht11.ext hx
          replace hs14 := hs14.ext hx
          replace ht14 := ht14.ext hx
          replace hs15 := hs15.ext hx
          replace ht15 := ht15.ext hx
          replace HE := HE.trans hx
          clear hx
          repeat (refine wpE_q (v := ?_) rfl rfl (fun u hu => ?_) ?_; rotate_left 1; (focus (have kp := Bl.ext hu bp (Nat.succ_pos _); have kq := Bl.ext hu bq (Nat.succ_pos _); have kr := Bl.ext hu br (Nat.succ_pos _); have kx := Bl.ext hu bx (Nat.succ_pos _); have kv := Bl.ext hu bv (Nat.succ_pos _); have kh := Bl.ext hu bh (Nat.succ_pos _); go_simp; (try rfl))); simp only [Act.put, List.setIfInBounds_toArray, List.set_cons_zero, List.set_cons_succ])
          refine wpE_done ?_
          go_wp2_with fail
          go_ret
          exact ⟨rfl, HE⟩

end Go.Proofs.Ytcipcpbjkcpgdaa
