/- Texts of fractions on rationals; the document's fractions out of texts. -/
import Derived.Test.YtcipcpbjkcpgdaaQ37
namespace Go.Proofs.Ytcipcpbjkcpgdaa
set_option linter.unusedVariables false
open Go Go.RowKit

theorem fq_Text {b : Bool} {a d : Option Addr} {n c m k N : Nat} {q : Rat} {w : World} (h : Fq w b a n c d m k q N) (hN : N ≤ 137438953472) :
    Calls Try.prog 117 #[.agg #[.bool b, .slice a n c, .slice d m k]] w fun e w' => e = .returned (.string (textF q.num q.den)) ∧ Ext w w' := by
  obtain ⟨z, D, h1, h2, h3, h4, h5, rfl⟩ := h
  rw [← (pr_num z D).1, ← (pr_num z D).2]
  exact f_Text b a d n c m k z D w h1 h2 (by omega) (by omega)

set_option maxRecDepth 100000 in
set_option maxHeartbeats 4000000 in
theorem gq_Text {b : Bool} {a d : Option Addr} {n c m k N : Nat} {q : Rat} {w : World} (h : Fq w b a n c d m k q N) (hN : N ≤ 137438953472) :
    Calls Try.prog 118 #[.agg #[.bool b, .slice a n c, .slice d m k]] w fun e w' => e = .returned (.string (textF q.num q.den)) ∧ Ext w w' := by
  have HP := hidP (fun (u : World) (t : Fq u b a n c d m k q N) => gq_Reduce t)
  have hq : ql q ≤ N + 1 := by
    obtain ⟨z, D, h1, h2, h3, h4, h5, h6⟩ := h
    exact Fq.ql (w := w) (N := N + 1) ⟨z, D, h1, h2, h3, by omega, by omega, h6⟩ (by omega)
  have hg1 := ql_num hq
  have hg2 := ql_den hq
  have H := hidP h
  clear h hq
  generalize q.num = Z at *
  generalize q.den = E at *
  have T1 := hidP (dec_len hg1); have T2 := hidP (dec_len hg2)
  have B1 : Hid (dl Z.natAbs ≤ 137438953473) := hidP (by omega)
  have B2 : Hid (dl E ≤ 137438953473) := hidP (by omega)
  have HN := hidP hN
  clear hg1 hg2 hN
  by_cases h1 : E = 1
  · have HR : Hid (textF Z E = textZ Z) := hidP (if_pos h1)
    have H1 := hidP (decide_eq_true h1)
    clear h1
    generalize textF Z E = tf at *
    go_enter Try.func118, Try.ntmps118
    go_wp2_with fail
    refine absC (fun x1 hx1 => ?_)
    have hx : Ext w x1 := by rw [hx1]; exact ((Ext.refl _).alloc _)
    have bp : Bl x1 (w.heap.size) #[.bool b, .slice a n c, .slice d m k] := by rw [hx1]; exact (Bl.new (by simp))
    have fp : Fz x1 (w.heap.size) := by rw [hx1]; exact (Fz.new (by simp))
    have HE := hx
    clear hx
    clear hx1
    refine (HP.out _ (H.out.ext HE)).mono ?_
    rintro e u1 ⟨a1, n1, c1, d1, m1, k1, rfl, hs1, ht1, hx⟩
    replace fp := Fz.ext hx fp bp (Nat.succ_pos _)
    replace bp := Bl.ext hx bp (Nat.succ_pos _)
    replace HE := HE.trans hx
    clear hx
    replace hs1 : Nc u1 a1 n1 c1 (Z).natAbs := hs1
    replace ht1 : Nc u1 d1 m1 k1 (E) := ht1
    have lpx := bp.lt (Nat.succ_pos _)
    generalize hzb : decide (Z < 0) = zb at *
    have HZB := hidP hzb
    clear hzb
    have l0 := HE.size
    go_upto_region 2 with fail
    refine absW (fun x2 hx2 => ?_)
    have hbut : But u1 x2 (w.heap.size) := by rw [hx2]; exact (But.refl _ _).store.store.store
    have hbn : Bl x2 (w.heap.size) #[.bool zb, .slice a1 n1 c1, .slice d1 m1 k1] := by rw [hx2]; exact (Bl.set (Bl.set (Bl.set bp (by simp)) (by simp)) (by simp))
    replace hs1 := hs1.but bp (not_ints3 nb_bool nb_slice nb_slice) hbut
    replace ht1 := ht1.but bp (not_ints3 nb_bool nb_slice nb_slice) hbut
    replace fp : Fz x2 (w.heap.size) := by rw [hx2]; exact (Fz.set (Fz.set (Fz.set fp)))
    replace HE : Ext w x2 := by rw [hx2]; exact (((HE.store (by show w.heap.size ≤ w.heap.size; omega) _).store (by show w.heap.size ≤ w.heap.size; omega) _).store (by show w.heap.size ≤ w.heap.size; omega) _)
    clear bp hbut hx2
    have bp := hbn
    clear hbn
    go_wp2_with fail
    refine absC (fun x3 hx3 => ?_)
    have hx : Ext x2 x3 := by rw [hx3]; exact ((Ext.refl _).alloc _)
    replace fp := Fz.ext hx fp bp (Nat.succ_pos _)
    replace bp := Bl.ext hx bp (Nat.succ_pos _)
    replace hs1 := hs1.ext hx
    replace ht1 := ht1.ext hx
    replace HE := HE.trans hx
    clear hx
    have hlit : Nc x3 (some ⟨x2.heap.size, 0, none⟩) 1 1 1 := by rw [hx3]; exact nc_litAt rfl 1 (by omega) (by omega) _
    clear hx3
    refine (d_Same ht1 hlit (by have := B2.out; omega)).mono ?_
    rw [H1.out]
    rintro e u2 ⟨rfl, hx⟩
    replace fp := Fz.ext hx fp bp (Nat.succ_pos _)
    replace bp := Bl.ext hx bp (Nat.succ_pos _)
    replace hs1 := hs1.ext hx
    replace ht1 := ht1.ext hx
    replace HE := HE.trans hx
    clear hx
    clear hlit
    go_wp2_with fail
    refine (r02_Text_any zb a1 n1 c1 Z _ (by rw [← HZB.out]; exact hs1.wh (by have := B1.out; omega)) (by have := T1.out; have := HN.out; omega)).mono ?_
    rintro e u3 ⟨rfl, hx⟩
    replace fp := Fz.ext hx fp bp (Nat.succ_pos _)
    replace bp := Bl.ext hx bp (Nat.succ_pos _)
    replace hs1 := hs1.ext hx
    replace ht1 := ht1.ext hx
    replace HE := HE.trans hx
    clear hx
    go_wp2_with fail
    go_ret
    exact ⟨by rw [HR.out]; rfl, HE⟩
  · have HR : Hid (textF Z E = textZ Z ++ ⟨#[47]⟩ ++ decS E) := hidP (if_neg h1)
    have H1 := hidP (decide_eq_false h1)
    clear h1
    generalize textF Z E = tf at *
    go_enter Try.func118, Try.ntmps118
    go_wp2_with fail
    refine absC (fun x1 hx1 => ?_)
    have hx : Ext w x1 := by rw [hx1]; exact ((Ext.refl _).alloc _)
    have bp : Bl x1 (w.heap.size) #[.bool b, .slice a n c, .slice d m k] := by rw [hx1]; exact (Bl.new (by simp))
    have fp : Fz x1 (w.heap.size) := by rw [hx1]; exact (Fz.new (by simp))
    have HE := hx
    clear hx
    clear hx1
    refine (HP.out _ (H.out.ext HE)).mono ?_
    rintro e u1 ⟨a1, n1, c1, d1, m1, k1, rfl, hs1, ht1, hx⟩
    replace fp := Fz.ext hx fp bp (Nat.succ_pos _)
    replace bp := Bl.ext hx bp (Nat.succ_pos _)
    replace HE := HE.trans hx
    clear hx
    replace hs1 : Nc u1 a1 n1 c1 (Z).natAbs := hs1
    replace ht1 : Nc u1 d1 m1 k1 (E) := ht1
    have lpx := bp.lt (Nat.succ_pos _)
    generalize hzb : decide (Z < 0) = zb at *
    have HZB := hidP hzb
    clear hzb
    have l0 := HE.size
    go_upto_region 2 with fail
    refine absW (fun x2 hx2 => ?_)
    have hbut : But u1 x2 (w.heap.size) := by rw [hx2]; exact (But.refl _ _).store.store.store
    have hbn : Bl x2 (w.heap.size) #[.bool zb, .slice a1 n1 c1, .slice d1 m1 k1] := by rw [hx2]; exact (Bl.set (Bl.set (Bl.set bp (by simp)) (by simp)) (by simp))
    replace hs1 := hs1.but bp (not_ints3 nb_bool nb_slice nb_slice) hbut
    replace ht1 := ht1.but bp (not_ints3 nb_bool nb_slice nb_slice) hbut
    replace fp : Fz x2 (w.heap.size) := by rw [hx2]; exact (Fz.set (Fz.set (Fz.set fp)))
    replace HE : Ext w x2 := by rw [hx2]; exact (((HE.store (by show w.heap.size ≤ w.heap.size; omega) _).store (by show w.heap.size ≤ w.heap.size; omega) _).store (by show w.heap.size ≤ w.heap.size; omega) _)
    clear bp hbut hx2
    have bp := hbn
    clear hbn
    go_wp2_with fail
    refine absC (fun x3 hx3 => ?_)
    have hx : Ext x2 x3 := by rw [hx3]; exact ((Ext.refl _).alloc _)
    replace fp := Fz.ext hx fp bp (Nat.succ_pos _)
    replace bp := Bl.ext hx bp (Nat.succ_pos _)
    replace hs1 := hs1.ext hx
    replace ht1 := ht1.ext hx
    replace HE := HE.trans hx
    clear hx
    have hlit : Nc x3 (some ⟨x2.heap.size, 0, none⟩) 1 1 1 := by rw [hx3]; exact nc_litAt rfl 1 (by omega) (by omega) _
    clear hx3
    refine (d_Same ht1 hlit (by have := B2.out; omega)).mono ?_
    rw [H1.out]
    rintro e u2 ⟨rfl, hx⟩
    replace fp := Fz.ext hx fp bp (Nat.succ_pos _)
    replace bp := Bl.ext hx bp (Nat.succ_pos _)
    replace hs1 := hs1.ext hx
    replace ht1 := ht1.ext hx
    replace HE := HE.trans hx
    clear hx
    clear hlit
    go_wp2_with fail
    refine wp_region_plan (R := Ext) (.q 0 (.q 1 (.q 4 (.q 5 (.l 2 (.q 3 (.l 6 (.q 7 (.q 8 .done))))))))) (by kernel_rfl) (by kernel_rfl) (by kernel_rfl) (by kernel_rfl) Ext.refl (fun _ _ _ => Ext.trans) ?_
    refine absE (fun x4 hx4 => ?_)
    have hx : Ext u2 x4 := by rw [hx4]; exact (Ext.refl _).drew
    replace fp := Fz.ext hx fp bp (Nat.succ_pos _)
    replace bp := Bl.ext hx bp (Nat.succ_pos _)
    replace hs1 := hs1.ext hx
    replace ht1 := ht1.ext hx
    replace HE := HE.trans hx
    clear hx
    clear hx4
    repeat (refine wpE_q (v := ?_) rfl rfl (fun u hu => ?_) ?_; rotate_left 1; (focus (have kp := Bl.ext hu bp (Nat.succ_pos _); go_simp; (try rfl))); simp only [Act.put, List.setIfInBounds_toArray, List.set_cons_zero, List.set_cons_succ])
    refine wpE_l rfl rfl (fun K hK => ?_)
    go_simp
    refine (r02_Text_any zb a1 n1 c1 Z _ (by rw [← HZB.out]; exact hs1.wh (by have := B1.out; omega)) (by have := T1.out; have := HN.out; omega)).mono ?_
    rintro e u3 ⟨rfl, hx⟩
    refine hK.out _ _ hx ?_
    clear hK K
    try simp only [Act.put, List.setIfInBounds_toArray, List.set_cons_zero, List.set_cons_succ]
    replace fp := Fz.ext hx fp bp (Nat.succ_pos _)
    replace bp := Bl.ext hx bp (Nat.succ_pos _)
    replace hs1 := hs1.ext hx
    replace ht1 := ht1.ext hx
    replace HE := HE.trans hx
    clear hx
    have hts : (textZ Z).size ≤ 1374389534732 := by have := textZ_sz Z; have := T1.out; have := HN.out; omega
    generalize htz : textZ Z = tz at *
    have HTZ := hidP htz
    have hk1 : ¬ 9223372036854775807 < tz.size + 1 := by omega
    clear htz
    repeat (refine wpE_q (v := ?_) rfl rfl (fun u hu => ?_) ?_; rotate_left 1; (focus (have kp := Bl.ext hu bp (Nat.succ_pos _); go_simp; (try rfl))); simp only [Act.put, List.setIfInBounds_toArray, List.set_cons_zero, List.set_cons_succ])
    refine wpE_l rfl rfl (fun K hK => ?_)
    go_simp
    refine (d_Text (ht1.nu (by have := B2.out; omega)) (by have := T2.out; have := HN.out; omega)).mono ?_
    rintro e u4 ⟨rfl, hx⟩
    refine hK.out _ _ hx ?_
    clear hK K
    try simp only [Act.put, List.setIfInBounds_toArray, List.set_cons_zero, List.set_cons_succ]
    replace fp := Fz.ext hx fp bp (Nat.succ_pos _)
    replace bp := Bl.ext hx bp (Nat.succ_pos _)
    replace hs1 := hs1.ext hx
    replace ht1 := ht1.ext hx
    replace HE := HE.trans hx
    clear hx
    have hds : (decS E).size ≤ 1374389534731 := by have := T2.out; have := HN.out; unfold decS; rw [decB_size]; omega
    generalize htd : decS E = td at *
    have HTD := hidP htd
    have hk2 : ¬ 9223372036854775807 < tz.size + 1 + td.size := by omega
    clear htd
    repeat (refine wpE_q (v := ?_) rfl rfl (fun u hu => ?_) ?_; rotate_left 1; (focus (have kp := Bl.ext hu bp (Nat.succ_pos _); go_simp; (try rfl))); simp only [Act.put, List.setIfInBounds_toArray, List.set_cons_zero, List.set_cons_succ])
    refine wpE_done ?_
    go_wp2_with fail
    go_ret
    exact ⟨by rw [HR.out]; rfl, HE⟩

theorem fp_one_text {l : List Nat} (h : (whParse (l.take (slx l))).1 = 0) (h1 : slx l = l.length) : natsOf (textF (mkRat (whParse (l.take (slx l))).2 1).num (mkRat (whParse (l.take (slx l))).2 1).den) = l := by
  have t1 := wh_text h
  generalize (whParse (l.take (slx l))).2 = z at *
  rw [h1, List.take_length] at t1
  have e1 : rz z 1 = z := by unfold rz fg; simp
  have e2 : rd z 1 = 1 := by unfold rd fg; simp
  rw [← (rz_num (z := z) (D := 1) (by omega)).1, ← (rz_num (z := z) (D := 1) (by omega)).2, e1, e2, natsOf_textF, if_pos rfl]
  exact t1
theorem slx_drop {l : List Nat} {j : Nat} (h : j < l.length) : j + slx (l.drop j) = if l.getD j 0 = 47 then j else j + 1 + slx (l.drop (j + 1)) := by
  rw [List.drop_eq_getElem_cons h]
  have e : l.getD j 0 = l[j] := by rw [List.getD_eq_getElem?_getD, List.getElem?_eq_getElem h]; rfl
  rw [e]
  show j + (if l[j] = 47 then 0 else slx (l.drop (j + 1)) + 1) = _
  split <;> omega

set_option maxRecDepth 100000 in
set_option maxHeartbeats 4000000 in
theorem g_Parse (s : ByteArray) (w : World) (hn : s.size ≤ 1099511627776) :
    Calls Try.prog 116 #[.string s] w (RetFE w (fpP (natsOf s)).1 (fpP (natsOf s)).2.1 (fpP (natsOf s)).2.2) := by
  have hlen := natsOf_len s
  have hle := slx_le (natsOf s)
  have hat := natsOf_at s
  have hsd := @slx_drop (natsOf s)
  have E0 := @fp_err0 (natsOf s)
  have E1 := @fp_err1 (natsOf s)
  have E2 := @fp_err2 (natsOf s)
  have R1 := @fp_one (natsOf s)
  have R2 := @fp_two (natsOf s)
  have T1 := @fp_one_text (natsOf s)
  have T2 := fun h => @fp_iff (natsOf s) (whParse ((natsOf s).take (slx (natsOf s)))).2 (dval ((natsOf s).drop (slx (natsOf s) + 1))) h
  have L1 := wh_len ((natsOf s).take (slx (natsOf s)))
  have hta := natsOf_take s (slx (natsOf s)) (by omega)
  have htb := fun (h : slx (natsOf s) + 1 ≤ s.size) => natsOf_drop s (slx (natsOf s) + 1) h
  have HI := fun (t : ByteArray) (h : natsOf t = natsOf s) => natsOf_inj h
  have hend : slx ((natsOf s).drop 0) = slx (natsOf s) := rfl
  have hbeg : s.size + slx ((natsOf s).drop s.size) = s.size := by rw [List.drop_of_length_le (by omega)]; rfl
  rw [hlen] at E1 E2 R1 R2 T1 T2 hle hsd
  generalize fpP (natsOf s) = rr at *
  generalize hi : slx (natsOf s) = i at *
  clear hi
  generalize (natsOf s).take i = lt at *
  generalize (natsOf s).drop (i + 1) = lb at *
  generalize hF : (fun j => j + slx ((natsOf s).drop j)) = F at *
  have hF0 : ∀ j, F j = j + slx ((natsOf s).drop j) := fun j => by rw [← hF]
  have G0 : Hid (F 0 = i) := hidP (by rw [hF0, hend, Nat.zero_add])
  have GN : Hid (F s.size = s.size) := hidP (by rw [hF0, hbeg])
  have GS : Hid (∀ j (h : j < s.size), F j = if (s[j]'h).toNat = 47 then j else F (j + 1)) := hidP (fun j h => by rw [hF0, hF0, ← hat j h]; exact hsd h)
  have GB : Hid (∀ j, j ≤ s.size → F j ≤ s.size) := hidP (fun j h => by
    rw [hF0]
    have := slx_le ((natsOf s).drop j)
    rw [List.length_drop, hlen] at this
    omega)
  clear hF0 hF hend hbeg hsd hat hlen
  generalize hNS : natsOf s = ns at *
  have HNS := hidP hNS
  clear hNS
  replace E0 := hidP E0; replace E1 := hidP E1; replace E2 := hidP E2; replace R1 := hidP R1; replace R2 := hidP R2; replace L1 := hidP L1; replace T1 := hidP T1; replace T2 := hidP T2; replace HI := hidP HI; replace hta := hidP hta; replace htb := hidP htb
  go_enter Try.func116, Try.ntmps116
  go_wp2_with fail
  refine absW (fun x1 hx1 => ?_)
  have hx : Ext w x1 := by rw [hx1]; exact ((Ext.refl _).alloc _)
  have bs : Bl x1 (w.heap.size) #[.bool false, .slice none 0 0, .slice none 0 0] := by rw [hx1]; exact (Bl.new (by simp))
  have fs : Fz x1 (w.heap.size) := by rw [hx1]; exact (Fz.new (by simp))
  have HE := hx
  clear hx
  clear hx1
  go_loopw [4, 5] (fun v4 v5 wr => ∃ j : Nat, j ≤ s.size ∧ v4 = .int .i64 ((F j : Nat) : Int) ∧ v5 = .int .i64 ((j : Int) - 1) ∧ Bl wr w.heap.size #[.bool false, .slice none 0 0, .slice none 0 0] ∧ Fz wr w.heap.size ∧ Ext w wr) (fun _ v5 _ => (intOf v5 + 1).toNat)
  case atStart => exact ⟨s.size, by omega, by rw [GN.out], rfl, bs, fs, HE⟩
  case round =>
    clear bs fs HE
    obtain ⟨j, hj, rfl, rfl, bs, fs, HE⟩ := hrel
    cases j with
    | succ j =>
      have hjn : j < s.size := hj
      have hg := GS.out j hjn
      have hcl : s[j].toNat ≤ 255 := by have := s[j].toNat_lt; omega
      have e1 : ((j + 1 : Nat) : Int) - 1 = (j : Int) := by omega
      rw [e1]
      by_cases h47 : s[j].toNat = 47
      · rw [if_pos h47] at hg
        have HG := hidP hg
        clear hg
        go_wp2_with fail
        go_roundw
        case rel => exact ⟨j, by omega, by rw [HG.out], by go_num, bs, fs, HE⟩
        case measure => simp only [intOf]; omega
      · rw [if_neg h47] at hg
        have HG := hidP hg
        clear hg
        go_wp2_with fail
        go_roundw
        case rel => exact ⟨j, by omega, by rw [HG.out], by go_num, bs, fs, HE⟩
        case measure => simp only [intOf]; omega
    | zero =>
      rw [G0.out]
      have lsx := bs.lt (Nat.succ_pos _)
      go_wp2_with fail
      have hp := r02_Parse_any (s.extract 0 i) wr
      rw [hta.out] at hp
      refine hp.mono ?_
      clear hp hta
      rintro e u1 ⟨a1, n1, c1, rfl, hs1, hx⟩
      generalize (whParse lt).1 = pe at *
      generalize (whParse lt).2 = z at *
      replace hs1 : Nc u1 a1 n1 c1 z.natAbs := hs1
      replace fs := Fz.ext hx fs bs (Nat.succ_pos _)
      replace bs := Bl.ext hx bs (Nat.succ_pos _)
      replace HE := HE.trans hx
      clear hx
      generalize hzb : decide (z < 0) = zb at *
      have HZB := hidP hzb
      clear hzb
      go_upto_region 8 with fail
      refine absW (fun x1 hx1 => ?_)
      have hx : Ext u1 x1 := by rw [hx1]; exact ((Ext.refl _).alloc _)
      have bx : Bl x1 (u1.heap.size) #[.bool zb, .slice a1 n1 c1] := by rw [hx1]; exact (Bl.new (by simp))
      replace fs := Fz.ext hx fs bs (Nat.succ_pos _)
      replace bs := Bl.ext hx bs (Nat.succ_pos _)
      replace hs1 := hs1.ext hx
      replace HE := HE.trans hx
      clear hx
      clear hx1
      by_cases hpe : pe = 0
      · subst hpe
        by_cases hsl : i = s.size
        · have HTX : Hid (textF (mkRat z 1).num (mkRat z 1).den = s) := hidP (HI.out _ (T1.out (by trivial) hsl))
          have HRR := hidP (R1.out (by trivial) hsl)
          generalize hq : mkRat z 1 = q at *
          have HQ := hidP hq
          clear hq
          go_upto_region 11 with fail
          refine absW (fun x2 hx2 => ?_)
          have hx : Ext x1 x2 := by rw [hx2]; exact ((Ext.refl _).alloc _)
          replace fs := Fz.ext hx fs bs (Nat.succ_pos _)
          replace bs := Bl.ext hx bs (Nat.succ_pos _)
          replace bx := Bl.ext hx bx (Nat.succ_pos _)
          replace hs1 := hs1.ext hx
          replace HE := HE.trans hx
          clear hx
          have hlit : Nc x2 (some ⟨x1.heap.size, 0, none⟩) 1 1 1 := by rw [hx2]; exact nc_litAt rfl 1 (by omega) (by omega) _
          clear hx2
          generalize (x1.heap.size) = lg at *
          have hni : ¬ (i : Int) < (s.size : Int) := by omega
          go_wp2_with fail
          refine absC (fun x3 hx3 => ?_)
          have hx : Ext x2 x3 := by rw [hx3]; exact ((Ext.refl _).alloc _)
          have bv : Bl x3 (x2.heap.size) #[.bool zb, .slice a1 n1 c1, .slice (some ⟨lg, 0, none⟩) 1 1] := by rw [hx3]; exact (Bl.new (by simp))
          replace fs := Fz.ext hx fs bs (Nat.succ_pos _)
          replace bs := Bl.ext hx bs (Nat.succ_pos _)
          replace bx := Bl.ext hx bx (Nat.succ_pos _)
          replace hs1 := hs1.ext hx
          replace hlit := hlit.ext hx
          replace HE := HE.trans hx
          clear hx
          clear hx3
          refine (gq_Text (q := q) (N := 2000) ⟨z, 1, (by rw [← HZB.out]; exact hs1.wh (by have := L1.out; omega)), hlit.nu (by rw [dl_one]; omega), by omega, L1.out, by rw [dl_one]; omega, HQ.out⟩ (by omega)).mono ?_
          rw [HTX.out]
          rintro e u3 ⟨rfl, hx⟩
          replace fs := Fz.ext hx fs bs (Nat.succ_pos _)
          replace bs := Bl.ext hx bs (Nat.succ_pos _)
          replace bx := Bl.ext hx bx (Nat.succ_pos _)
          replace bv := Bl.ext hx bv (Nat.succ_pos _)
          replace hs1 := hs1.ext hx
          replace hlit := hlit.ext hx
          replace HE := HE.trans hx
          clear hx
          have HS1 := hidP hs1; have HS2 := hidP hlit
          clear hs1 hlit
          go_wp2_with fail
          refine absB (fun ue hue => ?_)
          have hbs : Bl ue (w.heap.size) #[.bool zb, .slice a1 n1 c1, .slice (some ⟨lg, 0, none⟩) 1 1] := by rw [hue]; exact (((bs.set (by simp)).set (by simp)).set (by simp))
          have hnc : ∀ {aa : Option Addr} {nn cc VV : Nat}, Nc u3 aa nn cc VV → Nc ue aa nn cc VV := fun h => by
            rw [hue]
            exact h.but bs (not_ints3 nb_bool nb_slice nb_slice) ((But.refl _ _).store.store.store)
          have heu : Ext w ue := by rw [hue]; exact ((HE.store (by show w.heap.size ≤ w.heap.size; omega) _).store (by show w.heap.size ≤ w.heap.size; omega) _).store (by show w.heap.size ≤ w.heap.size; omega) _
          clear hue
          refine bodyPost_cells_tmp2 rfl rfl Try.underlying79 rfl (by kernel_rfl) (bl_three hbs) rfl rfl ?_
          exact RetFE.of (z := z) (D := 1) (err := 0) (congrArg Prod.fst HRR.out) (congrArg (fun x : Int × Nat × Int => x.2.1) HRR.out) (congrArg (fun x : Int × Nat × Int => x.2.2) HRR.out) HZB.out.symm (hnc HS1.out) (hnc HS2.out) heu
        · have his : (i : Int) < (s.size : Int) := by omega
          have hi1 : i + 1 ≤ s.size := by omega
          go_upto_region 11 with fail
          refine absW (fun x2 hx2 => ?_)
          have hx : Ext x1 x2 := by rw [hx2]; exact ((Ext.refl _).alloc _)
          replace fs := Fz.ext hx fs bs (Nat.succ_pos _)
          replace bs := Bl.ext hx bs (Nat.succ_pos _)
          replace bx := Bl.ext hx bx (Nat.succ_pos _)
          replace hs1 := hs1.ext hx
          replace HE := HE.trans hx
          clear hx
          clear hx2
          go_wp2_with fail
          have hp := r01_Parse_any (s.extract (i + 1) s.size) x2
          rw [htb.out hi1] at hp
          refine hp.mono ?_
          clear hp htb
          rintro e u2 (⟨hbg, rfl, hx⟩ | ⟨hbg, hpl, rfl, hx⟩ | ⟨hbg, hpl, a2, n2, c2, rfl, hs2, hx⟩)
          · replace fs := Fz.ext hx fs bs (Nat.succ_pos _)
            replace bs := Bl.ext hx bs (Nat.succ_pos _)
            replace bx := Bl.ext hx bx (Nat.succ_pos _)
            replace hs1 := hs1.ext hx
            replace HE := HE.trans hx
            clear hx
            go_upto_region 14 with fail
            refine absW (fun x3 hx3 => ?_)
            have hx : Ext u2 x3 := by rw [hx3]; exact ((Ext.refl _).alloc _)
            have bv : Bl x3 (u2.heap.size) #[.bool zb, .slice a1 n1 c1, .slice none 0 0] := by rw [hx3]; exact (Bl.new (by simp))
            replace fs := Fz.ext hx fs bs (Nat.succ_pos _)
            replace bs := Bl.ext hx bs (Nat.succ_pos _)
            replace bx := Bl.ext hx bx (Nat.succ_pos _)
            replace hs1 := hs1.ext hx
            replace HE := HE.trans hx
            clear hx
            clear hx3
            have HRR := hidP (E1.out hsl (fun hh => absurd hh.1 (by omega)))
            clear hs1
            go_wp2_with fail
            refine absB (fun ue hue => ?_)
            have hbs : Bl ue (w.heap.size) #[.bool false, .slice none 0 0, .slice none 0 0] := by rw [hue]; exact (((bs.set (by simp)).set (by simp)).set (by simp))
            have hnc : ∀ {aa : Option Addr} {nn cc VV : Nat}, Nc x3 aa nn cc VV → Nc ue aa nn cc VV := fun h => by
              rw [hue]
              exact h.but bs (not_ints3 nb_bool nb_slice nb_slice) ((But.refl _ _).store.store.store)
            have heu : Ext w ue := by rw [hue]; exact ((HE.store (by show w.heap.size ≤ w.heap.size; omega) _).store (by show w.heap.size ≤ w.heap.size; omega) _).store (by show w.heap.size ≤ w.heap.size; omega) _
            clear hue
            refine bodyPost_cells_tmp2 rfl rfl Try.underlying79 rfl (by kernel_rfl) (bl_three hbs) rfl rfl ?_
            exact RetFE.of (z := 0) (D := 0) (err := 3) (congrArg Prod.fst HRR.out) (congrArg (fun x : Int × Nat × Int => x.2.1) HRR.out) (congrArg (fun x : Int × Nat × Int => x.2.2) HRR.out) rfl (Nc.zero _) (Nc.zero _) heu
          · replace fs := Fz.ext hx fs bs (Nat.succ_pos _)
            replace bs := Bl.ext hx bs (Nat.succ_pos _)
            replace bx := Bl.ext hx bx (Nat.succ_pos _)
            replace hs1 := hs1.ext hx
            replace HE := HE.trans hx
            clear hx
            go_upto_region 14 with fail
            refine absW (fun x3 hx3 => ?_)
            have hx : Ext u2 x3 := by rw [hx3]; exact ((Ext.refl _).alloc _)
            have bv : Bl x3 (u2.heap.size) #[.bool zb, .slice a1 n1 c1, .slice none 0 0] := by rw [hx3]; exact (Bl.new (by simp))
            replace fs := Fz.ext hx fs bs (Nat.succ_pos _)
            replace bs := Bl.ext hx bs (Nat.succ_pos _)
            replace bx := Bl.ext hx bx (Nat.succ_pos _)
            replace hs1 := hs1.ext hx
            replace HE := HE.trans hx
            clear hx
            clear hx3
            have HRR := hidP (E1.out hsl (fun hh => hpl hh.2))
            clear hs1
            go_wp2_with fail
            refine absB (fun ue hue => ?_)
            have hbs : Bl ue (w.heap.size) #[.bool false, .slice none 0 0, .slice none 0 0] := by rw [hue]; exact (((bs.set (by simp)).set (by simp)).set (by simp))
            have hnc : ∀ {aa : Option Addr} {nn cc VV : Nat}, Nc x3 aa nn cc VV → Nc ue aa nn cc VV := fun h => by
              rw [hue]
              exact h.but bs (not_ints3 nb_bool nb_slice nb_slice) ((But.refl _ _).store.store.store)
            have heu : Ext w ue := by rw [hue]; exact ((HE.store (by show w.heap.size ≤ w.heap.size; omega) _).store (by show w.heap.size ≤ w.heap.size; omega) _).store (by show w.heap.size ≤ w.heap.size; omega) _
            clear hue
            refine bodyPost_cells_tmp2 rfl rfl Try.underlying79 rfl (by kernel_rfl) (bl_three hbs) rfl rfl ?_
            exact RetFE.of (z := 0) (D := 0) (err := 3) (congrArg Prod.fst HRR.out) (congrArg (fun x : Int × Nat × Int => x.2.1) HRR.out) (congrArg (fun x : Int × Nat × Int => x.2.2) HRR.out) rfl (Nc.zero _) (Nc.zero _) heu
          · replace fs := Fz.ext hx fs bs (Nat.succ_pos _)
            replace bs := Bl.ext hx bs (Nat.succ_pos _)
            replace bx := Bl.ext hx bx (Nat.succ_pos _)
            replace hs1 := hs1.ext hx
            replace HE := HE.trans hx
            clear hx
            replace hs2 : Nc u2 a2 n2 c2 (dval lb) := hs2
            have L2 : Hid (dl (dval lb) ≤ 2000) := hidP (dval_len hbg hpl)
            have hn2 := hs2.len
            have he2 := E2.out hsl
            have hr2 := R2.out (by trivial) hsl ⟨hbg, hpl⟩
            have ht2 := T2.out (by omega) (by trivial) (by trivial) hpl (by trivial)
            clear E1 E2 R1 R2 T1 T2
            generalize dval lb = D at *
            have HE2 := hidP he2; have HR2 := hidP hr2; have HT2 := hidP ht2
            clear he2 hr2 ht2 hbg hpl
            by_cases hD0 : D = 0
            · have hn0 : n2 = 0 := by rw [hn2, hD0, dl_zero]
              subst hn0
              have HD0 := hidP hD0
              clear hn2 hD0
              go_upto_region 14 with fail
              refine absW (fun x3 hx3 => ?_)
              have hx : Ext u2 x3 := by rw [hx3]; exact ((Ext.refl _).alloc _)
              have bv : Bl x3 (u2.heap.size) #[.bool zb, .slice a1 n1 c1, .slice a2 0 c2] := by rw [hx3]; exact (Bl.new (by simp))
              replace fs := Fz.ext hx fs bs (Nat.succ_pos _)
              replace bs := Bl.ext hx bs (Nat.succ_pos _)
              replace bx := Bl.ext hx bx (Nat.succ_pos _)
              replace hs1 := hs1.ext hx
              replace hs2 := hs2.ext hx
              replace HE := HE.trans hx
              clear hx
              clear hx3
              have HRR := hidP (HE2.out (.inl HD0.out))
              clear hs1 hs2
              go_wp2_with fail
              refine absB (fun ue hue => ?_)
              have hbs : Bl ue (w.heap.size) #[.bool false, .slice none 0 0, .slice none 0 0] := by rw [hue]; exact (((bs.set (by simp)).set (by simp)).set (by simp))
              have hnc : ∀ {aa : Option Addr} {nn cc VV : Nat}, Nc x3 aa nn cc VV → Nc ue aa nn cc VV := fun h => by
                rw [hue]
                exact h.but bs (not_ints3 nb_bool nb_slice nb_slice) ((But.refl _ _).store.store.store)
              have heu : Ext w ue := by rw [hue]; exact ((HE.store (by show w.heap.size ≤ w.heap.size; omega) _).store (by show w.heap.size ≤ w.heap.size; omega) _).store (by show w.heap.size ≤ w.heap.size; omega) _
              clear hue
              refine bodyPost_cells_tmp2 rfl rfl Try.underlying79 rfl (by kernel_rfl) (bl_three hbs) rfl rfl ?_
              exact RetFE.of (z := 0) (D := 0) (err := 3) (congrArg Prod.fst HRR.out) (congrArg (fun x : Int × Nat × Int => x.2.1) HRR.out) (congrArg (fun x : Int × Nat × Int => x.2.2) HRR.out) rfl (Nc.zero _) (Nc.zero _) heu
            · have hn0 : ¬ n2 = 0 := by rw [hn2]; exact dl_nz hD0
              have HD0 := hidP hD0; have HN2 := hidP hn2
              have hiff := HT2.out hD0
              clear hn2 hD0 HT2
              generalize hq : mkRat z D = q at *
              have HQ := hidP hq
              clear hq
              generalize htx : textF q.num q.den = tx at *
              have HTX := hidP htx; have HIF := hidP hiff
              clear htx hiff
              by_cases hgd : D ≠ 1 ∧ fg z D = 1
              · have HTS : Hid (tx = s) := hidP (HI.out _ (HIF.out.2 hgd))
                have HRR := hidP (HR2.out (fun h => h.elim HD0.out (fun h => h.elim hgd.1 (fun h => h hgd.2))))
                clear hgd
                go_wp2_with fail
                refine absC (fun x3 hx3 => ?_)
                have hx : Ext u2 x3 := by rw [hx3]; exact ((Ext.refl _).alloc _)
                have bv : Bl x3 (u2.heap.size) #[.bool zb, .slice a1 n1 c1, .slice a2 n2 c2] := by rw [hx3]; exact (Bl.new (by simp))
                replace fs := Fz.ext hx fs bs (Nat.succ_pos _)
                replace bs := Bl.ext hx bs (Nat.succ_pos _)
                replace bx := Bl.ext hx bx (Nat.succ_pos _)
                replace hs1 := hs1.ext hx
                replace hs2 := hs2.ext hx
                replace HE := HE.trans hx
                clear hx
                clear hx3
                refine (gq_Text (q := q) (N := 2000) ⟨z, D, (by rw [← HZB.out]; exact hs1.wh (by have := L1.out; omega)), hs2.nu (by have := L2.out; omega), by have := HN2.out; have := L2.out; omega, L1.out, L2.out, HQ.out⟩ (by omega)).mono ?_
                rw [HTX.out, HTS.out]
                rintro e u3 ⟨rfl, hx⟩
                replace fs := Fz.ext hx fs bs (Nat.succ_pos _)
                replace bs := Bl.ext hx bs (Nat.succ_pos _)
                replace bx := Bl.ext hx bx (Nat.succ_pos _)
                replace bv := Bl.ext hx bv (Nat.succ_pos _)
                replace hs1 := hs1.ext hx
                replace hs2 := hs2.ext hx
                replace HE := HE.trans hx
                clear hx
                have HS1 := hidP hs1; have HS2 := hidP hs2
                clear hs1 hs2
                go_wp2_with fail
                refine absB (fun ue hue => ?_)
                have hbs : Bl ue (w.heap.size) #[.bool zb, .slice a1 n1 c1, .slice a2 n2 c2] := by rw [hue]; exact (((bs.set (by simp)).set (by simp)).set (by simp))
                have hnc : ∀ {aa : Option Addr} {nn cc VV : Nat}, Nc u3 aa nn cc VV → Nc ue aa nn cc VV := fun h => by
                  rw [hue]
                  exact h.but bs (not_ints3 nb_bool nb_slice nb_slice) ((But.refl _ _).store.store.store)
                have heu : Ext w ue := by rw [hue]; exact ((HE.store (by show w.heap.size ≤ w.heap.size; omega) _).store (by show w.heap.size ≤ w.heap.size; omega) _).store (by show w.heap.size ≤ w.heap.size; omega) _
                clear hue
                refine bodyPost_cells_tmp2 rfl rfl Try.underlying79 rfl (by kernel_rfl) (bl_three hbs) rfl rfl ?_
                exact RetFE.of (z := z) (D := D) (err := 0) (congrArg Prod.fst HRR.out) (congrArg (fun x : Int × Nat × Int => x.2.1) HRR.out) (congrArg (fun x : Int × Nat × Int => x.2.2) HRR.out) HZB.out.symm (hnc HS1.out) (hnc HS2.out) heu
              · have hts : ¬ tx = s := fun h => hgd (HIF.out.1 (by rw [h]; exact HNS.out))
                have hts2 : (tx.toList == s.toList) = false := by
                  rw [beq_eq_false_iff_ne]
                  intro h
                  rw [toList_data, toList_data] at h
                  exact hts (natsOf_inj (by unfold natsOf; rw [h]))
                have HGD : Hid (D = 0 ∨ D = 1 ∨ fg z D ≠ 1) := hidP (by
                  by_cases h1 : D = 1
                  · exact .inr (.inl h1)
                  · exact .inr (.inr (fun h => hgd ⟨h1, h⟩)))
                clear hgd
                go_wp2_with fail
                refine absC (fun x3 hx3 => ?_)
                have hx : Ext u2 x3 := by rw [hx3]; exact ((Ext.refl _).alloc _)
                have bv : Bl x3 (u2.heap.size) #[.bool zb, .slice a1 n1 c1, .slice a2 n2 c2] := by rw [hx3]; exact (Bl.new (by simp))
                replace fs := Fz.ext hx fs bs (Nat.succ_pos _)
                replace bs := Bl.ext hx bs (Nat.succ_pos _)
                replace bx := Bl.ext hx bx (Nat.succ_pos _)
                replace hs1 := hs1.ext hx
                replace hs2 := hs2.ext hx
                replace HE := HE.trans hx
                clear hx
                clear hx3
                refine (gq_Text (q := q) (N := 2000) ⟨z, D, (by rw [← HZB.out]; exact hs1.wh (by have := L1.out; omega)), hs2.nu (by have := L2.out; omega), by have := HN2.out; have := L2.out; omega, L1.out, L2.out, HQ.out⟩ (by omega)).mono ?_
                rw [HTX.out]
                rintro e u3 ⟨rfl, hx⟩
                replace fs := Fz.ext hx fs bs (Nat.succ_pos _)
                replace bs := Bl.ext hx bs (Nat.succ_pos _)
                replace bx := Bl.ext hx bx (Nat.succ_pos _)
                replace bv := Bl.ext hx bv (Nat.succ_pos _)
                replace hs1 := hs1.ext hx
                replace hs2 := hs2.ext hx
                replace HE := HE.trans hx
                clear hx
                have HRR := hidP (HE2.out HGD.out)
                clear hs1 hs2
                go_wp2_with fail
                refine absB (fun ue hue => ?_)
                have hbs : Bl ue (w.heap.size) #[.bool false, .slice none 0 0, .slice none 0 0] := by rw [hue]; exact (((bs.set (by simp)).set (by simp)).set (by simp))
                have hnc : ∀ {aa : Option Addr} {nn cc VV : Nat}, Nc u3 aa nn cc VV → Nc ue aa nn cc VV := fun h => by
                  rw [hue]
                  exact h.but bs (not_ints3 nb_bool nb_slice nb_slice) ((But.refl _ _).store.store.store)
                have heu : Ext w ue := by rw [hue]; exact ((HE.store (by show w.heap.size ≤ w.heap.size; omega) _).store (by show w.heap.size ≤ w.heap.size; omega) _).store (by show w.heap.size ≤ w.heap.size; omega) _
                clear hue
                refine bodyPost_cells_tmp2 rfl rfl Try.underlying79 rfl (by kernel_rfl) (bl_three hbs) rfl rfl ?_
                exact RetFE.of (z := 0) (D := 0) (err := 3) (congrArg Prod.fst HRR.out) (congrArg (fun x : Int × Nat × Int => x.2.1) HRR.out) (congrArg (fun x : Int × Nat × Int => x.2.2) HRR.out) rfl (Nc.zero _) (Nc.zero _) heu
      · have hpz : ¬ ((pe : Nat) : Int) = 0 := by omega
        have HRR := hidP (E0.out hpe)
        clear hs1
        go_wp2_with fail
        refine absB (fun ue hue => ?_)
        have hbs : Bl ue (w.heap.size) #[.bool false, .slice none 0 0, .slice none 0 0] := by rw [hue]; exact (((bs.set (by simp)).set (by simp)).set (by simp))
        have hnc : ∀ {aa : Option Addr} {nn cc VV : Nat}, Nc x1 aa nn cc VV → Nc ue aa nn cc VV := fun h => by
          rw [hue]
          exact h.but bs (not_ints3 nb_bool nb_slice nb_slice) ((But.refl _ _).store.store.store)
        have heu : Ext w ue := by rw [hue]; exact ((HE.store (by show w.heap.size ≤ w.heap.size; omega) _).store (by show w.heap.size ≤ w.heap.size; omega) _).store (by show w.heap.size ≤ w.heap.size; omega) _
        clear hue
        refine bodyPost_cells_tmp2 rfl rfl Try.underlying79 rfl (by kernel_rfl) (bl_three hbs) rfl rfl ?_
        exact RetFE.of (z := 0) (D := 0) (err := 3) (congrArg Prod.fst HRR.out) (congrArg (fun x : Int × Nat × Int => x.2.1) HRR.out) (congrArg (fun x : Int × Nat × Int => x.2.2) HRR.out) rfl (Nc.zero _) (Nc.zero _) heu

end Go.Proofs.Ytcipcpbjkcpgdaa
