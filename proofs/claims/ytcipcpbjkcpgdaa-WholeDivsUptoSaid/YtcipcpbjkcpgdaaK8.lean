/- The program's numbers (nat): long division. -/
import Derived.Test.YtcipcpbjkcpgdaaK7
import Derived.Test.YtcipcpbjkcpgdaaW4
import Derived.Deep.DeepCutAuto
namespace Go.Proofs.Ytcipcpbjkcpgdaa
set_option linter.unusedVariables false
open Go Go.RowKit

theorem ownsRow_extN {w u : World} {B e n : Nat} {v : Value} {xs : List Value} (h : w.ownsRow B e 1 v n xs) (he : Ext w u) : u.ownsRow B e 1 v n xs := by
  obtain ⟨h1, h2⟩ := h
  refine ⟨h1, ?_⟩
  rcases h2 with h2 | ⟨g, cap, cur, rfl, hg, hh, hn, hm, hs, hx⟩
  · exact .inl h2
  · have hlt : g < w.heap.size := by
      rcases Nat.lt_or_ge g w.heap.size with h | h
      · exact h
      · rw [Array.getElem?_eq_none h] at hh; cases hh
    exact .inr ⟨g, cap, cur, rfl, hg, by rw [he.block g hlt]; exact hh, hn, hm, hs, hx⟩

set_option maxRecDepth 100000 in
set_option maxHeartbeats 4000000 in
theorem nat_Div_big (a a' : Option Addr) (n cap n' cap' : Nat) (x y : List Nat) (w : World) (hs : Sl w a n cap (ints .u32 x)) (hs' : Sl w a' n' cap' (ints .u32 y)) (hx : Ws x) (hy : Ws y)
    (hn : n ≤ 1099511627776) (hn' : n' ≤ 1099511627776) (j : Nat) (hj : (dig B32 (val B32 y)).length = j + 2) (hge : val B32 y ≤ val B32 x) :
    Calls Try.prog 43 #[.slice a n cap, .slice a' n' cap'] w (RetDiv w (val B32 x) (val B32 y)) := by
  have hlen := hs.int_len
  have hlen' := hs'.int_len
  have hmn := dig_val_len B32_two x hx
  have hmn' := dig_val_len B32_two y hy
  have hkm := dig_mono B32_two hge
  have hc0 := cmpI_ge hge
  have hNT := fun up h => norm_top (V0 := val B32 y) (n := j + 1) (up := up) hj.symm h
  have hXL := val_lt (B := B32) (by decide) (dig B32 (val B32 x)) (Ws.dig _)
  rw [val_dig B32_two] at hXL
  rw [hj] at hmn' hkm
  obtain ⟨hi1, hyt⟩ := dig_get hy (j + 1) (by rw [hj]; omega)
  obtain ⟨m, hm⟩ : ∃ m, m = (dig B32 (val B32 x)).length := ⟨_, rfl⟩
  rw [← hm] at hmn hkm hXL
  obtain ⟨M, hM⟩ : ∃ M, m = M + (j + 2) := ⟨m - (j + 2), by omega⟩
  have hsub : (m : Int) - ((j : Int) + 2) = (M : Int) := by omega
  have hz1 : ((j : Int) + 2 == 0) = false := by simp; omega
  have hz2 : ((j : Int) + 2 == 1) = false := by simp; omega
  have hNTU := hNT _ rfl
  have HST := hidP (fun up => div_start (B := B32) (a := val B32 x) (b := val B32 y) (up := up) (m := m) (n := j + 2) B32_two hXL (hNT _ rfl).2.2.2 (by omega) hkm)
  have HSX := hidP (fun up (h : up ≤ 32 * 1) => shl_len (V := val B32 x) (m := up) (N := m) (M := 1) hXL h)
  have hyb : y[j + 1]'hi1 ≤ 4294967295 := by have := hy.at (j + 1) hi1; omega
  have HYT := hidP hyt
  obtain ⟨b, off, rfl, hc⟩ := hs'.at_int (by omega)
  have hct := hc (j + 1) hi1
  obtain ⟨t, ht⟩ : ∃ t, t = y[j + 1]'hi1 := ⟨_, rfl⟩
  rw [← ht] at hyb hct hyt
  rw [← hyt] at hNTU
  have hbl : bitlen t ≤ 32 := bitlen_le (by omega)
  have HS := hidP hs; have HS' := hidP hs'
  have HM := hidP hm; have HMM := hidP hM; have HJ := hidP hj; have HGE := hidP hge
  clear hs hs' hm hM hj hge hNT hXL hc ht hyt HYT
  have HCMP := hidP (fun u h h' => nat_Cmp_any a (some ⟨b, off, none⟩) n cap n' cap' x y u h h' hx hy hn hn')
  generalize cmpI (val B32 x) (val B32 y) = cc at *
  go_enter Try.func43, Try.ntmps43
  go_wp2_with fail
  refine (nat_size_any a n cap x _ HS.out hx (by omega)).mono ?_
  rw [← HM.out]; rintro e w' ⟨rfl, rfl⟩
  go_wp2_with fail
  refine (nat_size_any _ n' cap' y _ HS'.out hy (by omega)).mono ?_
  rw [HJ.out]; rintro e w' ⟨rfl, rfl⟩
  go_wp2_with fail
  refine (HCMP.out _ HS.out HS'.out).mono ?_
  rintro e w1 ⟨rfl, HE⟩
  have hct1 := HE.cell' hct
  go_wp2_with fail
  refine (bits_LeadingZeros32_any t _ hyb).mono ?_
  obtain ⟨up, hup⟩ : ∃ up, up = 32 - bitlen t := ⟨_, rfl⟩
  rw [← hup]
  rw [← hup] at hNTU
  have hup31 := hNTU.1
  have HUP := hidP hup
  clear hup hbl
  rintro e w' ⟨rfl, rfl⟩
  go_wp2_with fail
  refine (nat_Shift_any _ n' cap' y (up : Int) _ (HS'.out.ext HE) hy (by omega) (by omega)).mono ?_
  rw [shl32_up (by omega)]
  rintro e w2 ⟨aZ, nZ, cZ, rfl, hsZ, he⟩
  have hZl := hsZ.int_len
  rw [hNTU.2.1] at hZl
  obtain rfl : nZ = j + 2 := by omega
  replace HE := HE.trans he
  clear he hct1 hct
  have hXs := HSX.out up (by omega)
  have HVZ := hidP (val_dig B32_two (val B32 y * 2 ^ up))
  have HZW : Ws (dig B32 (val B32 y * 2 ^ up)) := Ws.dig _
  have HTOP := hidP hNTU.2.2.1
  have HSTU := hidP (HST.out up)
  clear hNTU hZl HST HSX
  obtain ⟨Z, hZ⟩ : ∃ Z, Z = dig B32 (val B32 y * 2 ^ up) := ⟨_, rfl⟩
  rw [← hZ] at hsZ HVZ HZW HTOP
  have HZ := hidP hZ; clear hZ
  go_wp2_with (at_make; refine wpList_make (W := w2) (n := m + 1) T_u32' rfl _ _ rfl rfl rfl (Ext.refl _) (by omega) (by omega) rfl ?_; intro w3 hown he3 hsz)
  generalize hG : w2.heap.size = g at *
  have HG := hidP hG; clear hG
  have hsz3 : Hid (w3.heap.size = g + 1) := hidP hsz
  clear hsz
  refine (nat_Shift_any a n cap x (up : Int) _ ((HS.out.ext HE).ext he3) hx (by omega) (by omega)).mono ?_
  rw [shl32_up (by omega)]
  rintro e w4 ⟨aA, nA, cA, rfl, hsA, he4⟩
  have hAl := hsA.int_len
  rw [hAl] at hXs
  have HVA := hidP (val_dig B32_two (val B32 x * 2 ^ up))
  have hAW : Ws (dig B32 (val B32 x * 2 ^ up)) := Ws.dig _
  obtain ⟨A1, hA1⟩ : ∃ A1, A1 = dig B32 (val B32 x * 2 ^ up) := ⟨_, rfl⟩
  rw [← hA1] at hsA HVA hAW hAl
  clear hA1
  replace hown := ownsRow_extN hown he4
  replace he3 := he3.trans he4
  have hsz4 : g + 1 ≤ w4.heap.size := by have := hsz3.out; have := he4.size; omega
  clear he4 hsz3
  go_wp2_with (first | (at_make; refine wpList_make (W := w5) (n := M + 1) T_u32' rfl _ _ rfl rfl rfl (Ext.refl _) (by omega) (by omega) rfl ?_; intro w6 hown6 he6 hsz6) | (have _h := hown; refine wpList_copyRow (k := nA) T_u32' rfl _ _ rfl rfl rfl (by rw [HG.out]; exact hown) he3 hsA (ints_one _ _) (Nat.min_eq_left (by omega)).symm ?_; intro w5 hown5 he5))
  have hg5 := (Row.base hown5).2
  replace hown5 := ownsRow_extN hown5 he6
  replace he5 := he5.trans he6
  generalize hG5 : w5.heap.size = g5 at *
  have hgg : g ≠ g5 := by omega
  have hg2 : w2.heap.size ≤ g5 := by have := HG.out; omega
  have HG5 := hidP hG5; have HSZ6 := hidP hsz6
  clear hG5 hsz6 he6 hown _h
  obtain ⟨VA, hVA⟩ : ∃ VA, VA = val B32 x * 2 ^ up := ⟨_, rfl⟩
  obtain ⟨VV, hVV⟩ : ∃ VV, VV = val B32 y * 2 ^ up := ⟨_, rfl⟩
  rw [← hVA] at HVA HSTU
  rw [← hVV] at HVZ HSTU
  have HVAE := hidP hVA; have HVVE := hidP hVV
  clear hVA hVV
  have hD0 : List.take nA (ints IntKind.u32 A1) ++ List.drop nA (List.replicate (m + 1) (Value.int IntKind.u32 0)) = ints .u32 (A1 ++ List.replicate (m + 1 - nA) 0) := by
    rw [ints_append, List.take_of_length_le (by rw [ints_len]; omega), List.drop_replicate, replicate_ints]
  rw [hD0] at hown5
  clear hD0
  rw [replicate_ints] at hown6
  have hW1 : Ws (A1 ++ List.replicate (m + 1 - nA) 0) := by
    intro d hd
    rcases List.mem_append.1 hd with hd | hd
    · exact hAW d hd
    · simp at hd; rw [hd.2]; decide
  have hW2 : Ws (List.replicate (M + 1) 0) := by intro d hd; simp at hd; rw [hd]; decide
  have HIN : Hid (VA = val B32 (A1 ++ List.replicate (m + 1 - nA) 0) + VV * (B32 ^ (M + 1) * val B32 ((List.replicate (M + 1) 0).drop (M + 1)))) := hidP (by
    rw [val_append, val_replicate, HVA.out]
    simp [val])
  have HLT : Hid (val B32 ((A1 ++ List.replicate (m + 1 - nA) 0).drop (M + 1)) < VV) := hidP (by
    have h1 := (val_drop_div B32 (by decide) _ hW1 (M + 1) (by simp; omega)).1
    rw [← h1, val_append, val_replicate, HVA.out, Nat.mul_zero, Nat.add_zero]
    have h2 := HSTU.out
    rw [show m - (j + 2) + 1 = M + 1 by have := HMM.out; omega] at h2
    exact (Nat.div_lt_iff_lt_mul (Nat.pow_pos (by decide))).2 (by rw [Nat.mul_comm]; exact h2))
  have hD0l : (A1 ++ List.replicate (m + 1 - nA) 0).length = m + 1 := by simp; omega
  have HD0L := hidP hD0l
  clear hAl hXs hD0l
  generalize A1 ++ List.replicate (m + 1 - nA) 0 = D0 at *
  generalize List.replicate (M + 1) 0 = O0 at *
  go_loopw [15] (fun iv wr => ∃ (k : Nat) (D O : List Nat), k ≤ M + 1 ∧ iv = .int .i64 ((k : Int) - 1) ∧ wr.ownsRow w2.heap.size 57 1 (.slice (some ⟨g, 0, none⟩) (m + 1) (m + 1)) (m + 1) (ints .u32 D) ∧ wr.ownsRow g5 57 1 (.slice (some ⟨g5, 0, none⟩) (M + 1) (M + 1)) (M + 1) (ints .u32 O) ∧ Ext w2 wr ∧ Ws D ∧ Ws O ∧
    VA = val B32 D + VV * (B32 ^ k * val B32 (O.drop k)) ∧ val B32 (D.drop k) < VV) (fun iv _ => (intOf iv + 1).toNat)
  case atStart => exact ⟨M + 1, D0, O0, by omega, by go_num, hown5, hown6, he5, hW1, hW2, HIN.out, HLT.out⟩
  case round =>
    clear hown5 hown6 he5 hW1 hW2 HIN HLT HD0L
    obtain ⟨k, D, O, hk, rfl, hrest, hout, he, hD, hO, hinv, hlt⟩ := hrel
    have HI := hidP hinv; have HL := hidP hlt
    clear hinv hlt
    by_cases h0 : 0 < k
    · obtain ⟨i, rfl⟩ : ∃ i, k = i + 1 := ⟨k - 1, by omega⟩
      have e1 : ((i + 1 : Nat) : Int) - 1 = (i : Int) := by omega
      rw [e1]
      clear e1
      have hDl := Row.len hrest
      have hOl := Row.len hout
      have hin : i + (j + 2) < m + 1 := by have := HMM.out; omega
      go_upto_region 18 with fail
      have e3 : i + (j + 2) + 1 - i = j + 3 := by omega
      rw [e3]
      clear e3
      have hrest0 := ownsRow_extN hrest ((Ext.refl wr).drew)
      have hout0 := ownsRow_extN hout ((Ext.refl wr).drew)
      have he0 := he.drew
      have hbz := (hsZ.ext he0).at_int (by omega)
      obtain ⟨bz, oz, rfl, hcz⟩ := hbz
      have hZl := hsZ.int_len
      have z1 := hcz (j + 1) (by omega)
      have z0 := hcz j (by omega)
      have hpl : ((D.drop i).take (j + 3)).length = j + 3 := by rw [List.length_take, List.length_drop]; omega
      have hpW : Ws ((D.drop i).take (j + 3)) := fun d hd => hD d (List.mem_of_mem_drop (List.mem_of_mem_take hd))
      have ez1 : Z.getD (j + 1) 0 = Z[j + 1] := by rw [List.getD_eq_getElem?_getD, List.getElem?_eq_getElem (by omega)]; rfl
      have ez0 : Z.getD j 0 = Z[j] := by rw [List.getD_eq_getElem?_getD, List.getElem?_eq_getElem (by omega)]; rfl
      have hzb1 := HZW.at (j + 1) (by omega)
      have hzb0 := HZW.at j (by omega)
      have htop := HTOP.out
      have hGF := guess_fin (B := B32) (p := (D.drop i).take (j + 3)) (Z := Z) (j := j) B32_two hpl hZl hpW HZW (by omega) (by
        have e : ((D.drop i).take (j + 3)).drop 1 = (D.drop (i + 1)).take (j + 2) := by
          rw [List.drop_take, List.drop_drop]; rfl
        rw [e, HVZ.out]
        refine Nat.lt_of_le_of_lt ?_ HL.out
        have h1 := val_append B32 ((D.drop (i + 1)).take (j + 2)) ((D.drop (i + 1)).drop (j + 2))
        rw [List.take_append_drop] at h1
        omega)
      rw [HVZ.out] at hGF
      rw [ez1] at htop hGF
      rw [ez0] at hGF
      have hsl := (Sl.of_owns' hrest0).part i (j + 3) (by omega)
      rw [Nat.zero_add] at hsl
      have HSL := hidP hsl
      have HGF1 := hidP hGF.1; have HGF2 := hidP hGF.2
      clear hGF ez1 ez0 hcz hsl hpl
      generalize Z[j + 1] = zt at *
      generalize Z[j] = zn at *
      have hzt : zt ≤ 4294967295 := by omega
      have hzn : zn ≤ 4294967295 := by omega
      have HGU := hidP (fun u h t1 t2 t3 t4 => nat_guess_any g i (m + 1 - i) j ((D.drop i).take (j + 3)) zt zn u h hpW (by omega) t1 t2 t3 t4)
      have HPW := hidP hpW
      clear hpW hzb1 hzb0
      have HFIN := hidP (fun D' q' => div_step (B := B32) (V := VV) (A := VA) (D := D) (D' := D') (O := O) (i := i) (n := j + 2) (q := q') B32_two (by have h1 := val_lt (B := B32) (by decide) Z HZW; rwa [HVZ.out, hZl] at h1) hD (by omega))
      have HDL := hidP hDl; have HOL := hidP hOl
      clear hDl hOl hZl
      have hj1 : IntKind.i64.wrap ((j : Int) + 2 - 1) = (j : Int) + 1 := by rw [show (j : Int) + 2 - 1 = (j : Int) + 1 by omega]; exact IntWalk.i64_in _ (by omega)
      have hj2 : IntKind.i64.wrap (j : Int) = (j : Int) := IntWalk.i64_in _ (by omega)
      have hj3 : ((j : Int) + 1).toNat = j + 1 := by omega
      have hj4 : 0 ≤ (j : Int) + 1 := by omega
      have hj5 : (j : Int) < (j : Int) + 2 := by omega
      refine wp_region_plan (R := Ext) (.q 0 (.q 1 (.q 2 (.q 3 (.q 4 (.q 5 (.q 6 (.q 7 (.q 8 (.q 9 (.q 10 (.l 11 (.q 12 .done))))))))))))) (by kernel_rfl) (by kernel_rfl) (by kernel_rfl) (by kernel_rfl) Ext.refl (fun _ _ _ => Ext.trans) ?_
      obtain ⟨wd, hwd⟩ : ∃ wd, wd = wr.drew := ⟨_, rfl⟩
      rw [← hwd] at hrest0 hout0 he0 z1 z0 HSL ⊢
      clear hwd
      repeat (refine wpE_q (v := ?_) rfl rfl (fun u hu => ?_) ?_; rotate_left 1; (focus (have k1 := hu.cell' z1; have k0 := hu.cell' z0; go_simp; (try rfl))); simp only [Act.put, List.setIfInBounds_toArray, List.set_cons_zero, List.set_cons_succ])
      refine wpE_l rfl rfl (fun K hK => ?_)
      go_simp
      refine (HGU.out _ HSL.out (by omega) hzt hzn HGF1.out).mono ?_
      generalize hqd : min (((((D.drop i).take (j + 3)).getD (j + 2) 0 * 4294967296 + ((D.drop i).take (j + 3)).getD (j + 1) 0) * 4294967296 + ((D.drop i).take (j + 3)).getD j 0) / (zt * 4294967296 + zn)) (4294967296 - 1) = q
      have hqb : q ≤ 4294967295 := by rw [← hqd]; exact Nat.min_le_right _ _
      have HGF3 : Hid (val B32 ((D.drop i).take (j + 3)) / VV ≤ q ∧ q ≤ val B32 ((D.drop i).take (j + 3)) / VV + 1) := hidP (by rw [← hqd]; exact HGF2.out)
      clear hqd HGF2 HGU
      rintro e w7 ⟨rfl, hu⟩
      refine hK.out _ _ hu ?_
      clear hK K
      try simp only [Act.put, List.setIfInBounds_toArray, List.set_cons_zero, List.set_cons_succ]
      replace hrest := ownsRow_extN hrest0 hu
      replace hout := ownsRow_extN hout0 hu
      replace he := he0.trans hu
      clear hrest0 hout0 he0 HSL hu z1 z0 hj1 hj2 hj3 hj4 hj5
      repeat (refine wpE_q (v := ?_) rfl rfl (fun u hu => ?_) ?_; rotate_left 1; (focus (go_simp; (try rfl))); simp only [Act.put, List.setIfInBounds_toArray, List.set_cons_zero, List.set_cons_succ])
      refine wpE_done ?_
      go_wp2_with fail
      refine (nat_take_any w2 g (m + 1) i (j + 2) (m + 1 - i) D Z q _ cZ _ hrest he hsZ HZW hD (by omega) (by omega) hqb).mono ?_
      rintro e w8 ⟨D1, br, rfl, hrest1, he1, hbut, hD1, htk, hdr, hbr, hval⟩
      replace hout := hbut.row hout (Ne.symm hgg)
      have hD1l := Row.len hrest1
      have HP1 : Hid (val B32 ((D1.drop i).take (j + 2 + 1)) < B32 ^ (j + 2 + 1)) := hidP (by
        have := val_lt (B := B32) (by decide) ((D1.drop i).take (j + 2 + 1)) (fun d hd => hD1 d (List.mem_of_mem_drop (List.mem_of_mem_take hd)))
        rwa [List.length_take, List.length_drop, Nat.min_eq_left (by omega)] at this)
      have HTK := hidP htk; have HDR := hidP hdr; have HV := hidP hval
      have HVV0 : Hid (0 < VV) := hidP (by have := HL.out; omega)
      clear hrest htk hdr hval hbut
      have hstO := fun v => Row.store hout i v
      have HSTO := hidP hstO
      have hoc : i < O.length := by have := HOL.out; omega
      have hcO := Row.cell hout i hoc
      have hfO := Row.free hout i
      clear hstO
      by_cases hb0 : br = 0
      · have HF := hidP (take_fin0 HV.out hb0 (by have := HGF3.out.1; rw [HVZ.out]; exact this) (by have := HGF3.out.2; rw [HVZ.out]; exact this) (by rw [HVZ.out]; exact HVV0.out))
        rw [HVZ.out] at HF
        have HDS := hidP (HFIN.out D1 q (by rw [hD1l, HDL.out]) HTK.out HDR.out HI.out HL.out (by have := HDL.out; omega) HF.out.1 HF.out.2)
        subst hb0
        rw [decide_eq_true rfl]
        clear HGF3 HF HV HP1 HFIN hD1l
        go_wp2
        go_roundw
        case rel =>
          refine ⟨i, D1, O.set i q, by omega, rfl, ?_, HSTO.out q, he1.store hg2 _, hD1, set_lt hO _ _ (by unfold B32; omega), HDS.out.1, HDS.out.2⟩
          exact (But.refl _ g5).store.row hrest1 hgg
        case measure => simp [intOf]
      · obtain rfl : br = 1 := by omega
        rw [decide_eq_false (by decide)]
        go_wp2_with fail
        refine (nat_give_any w2 g (m + 1) i (j + 2) (m + 1 - i) D1 Z _ cZ _ hrest1 he1 hsZ HZW hD1 (by omega) (by omega)).mono ?_
        rintro e w9 ⟨rfl, D2, c2, hrest2, he2, hbut2, hD2, htk2, hdr2, hc2, hval2⟩
        replace hout := hbut2.row hout (Ne.symm hgg)
        have hD2l := Row.len hrest2
        have HP2 : Hid (val B32 ((D2.drop i).take (j + 2 + 1)) < B32 ^ (j + 2 + 1)) := hidP (by
          have := val_lt (B := B32) (by decide) ((D2.drop i).take (j + 2 + 1)) (fun d hd => hD2 d (List.mem_of_mem_drop (List.mem_of_mem_take hd)))
          rwa [List.length_take, List.length_drop, Nat.min_eq_left (by omega)] at this)
        have HF := hidP (take_fin1 HV.out HP1.out hc2 hval2 HP2.out (by have := HGF3.out.1; rw [HVZ.out]; exact this) (by have := HGF3.out.2; rw [HVZ.out]; exact this) (by rw [HVZ.out]; exact HVV0.out))
        rw [HVZ.out] at HF
        have HDS := hidP (HFIN.out D2 (q - 1) (by rw [hD2l, HDL.out]) (by rw [htk2, HTK.out]) (by rw [hdr2, HDR.out]) HI.out HL.out (by have := HDL.out; omega) HF.out.2.1 HF.out.2.2)
        have hq1 := HF.out.1
        obtain ⟨q1, rfl⟩ : ∃ q1, q = q1 + 1 := ⟨q - 1, by omega⟩
        rw [Nat.add_sub_cancel] at HDS
        have hcO2 := Row.cell hout i hoc
        have hfO2 := Row.free hout i
        replace HSTO := hidP (fun v => Row.store hout i v)
        clear HGF3 HF HV HP1 HP2 HFIN hD1l hval2 htk2 hdr2 hbut2 hrest1 hcO hfO
        go_wp2
        go_roundw
        case rel =>
          refine ⟨i, D2, O.set i q1, by omega, rfl, ?_, HSTO.out q1, he2.store hg2 _, hD2, set_lt hO _ _ (by unfold B32; omega), HDS.out.1, HDS.out.2⟩
          exact (But.refl _ g5).store.row hrest2 hgg
        case measure => simp [intOf]
    · obtain rfl : k = 0 := by omega
      have hinv := HI.out
      have hlt := HL.out
      simp only [List.drop_zero, Nat.pow_zero, Nat.one_mul] at hinv hlt
      have HEND := hidP (div_end HVAE.out HVVE.out hinv hlt)
      have HY0 : Hid (val B32 y ≠ 0) := hidP (by
        intro h0
        have := HJ.out
        rw [h0, dig_zero] at this
        simp at this)
      have hDl := Row.len hrest
      have hOl := Row.len hout
      clear hinv hlt HI HL
      have hneg : IntKind.i64.wrap (-(up : Int)) = -(up : Int) := IntWalk.i64_in _ (by omega)
      have hslO := Sl.of_owns' hout
      have hcl := dig_val_len B32_two O hO
      have HSO := hidP (fun u h => nat_size_any (some ⟨g5, 0, none⟩) (M + 1) (M + 1) O u h hO (by have := HMM.out; omega))
      have HCUT := hidP (fun (u : World) (h : Sl u (some ⟨g5, 0, none⟩) (M + 1) (M + 1) (ints .u32 O)) => cut_sl32 h hO)
      generalize hk5 : (dig B32 (val B32 O)).length = k5 at *
      have HK5 := hidP hk5; clear hk5
      go_wp2_with fail
      refine wp_region_plan (R := Ext) (.q 0 (.q 1 (.q 4 (.q 5 (.q 6 (.l 2 (.q 3 (.l 7 (.q 8 (.q 9 (.q 10 .done))))))))))) (by kernel_rfl) (by kernel_rfl) (by kernel_rfl) (by kernel_rfl) Ext.refl (fun _ _ _ => Ext.trans) ?_
      replace hslO := hslO.ext ((Ext.refl _).drew)
      have hslD := (Sl.of_owns' hrest).ext ((Ext.refl _).drew)
      replace he := he.drew
      obtain ⟨wd, hwd⟩ : ∃ wd, wd = wr.drew := ⟨_, rfl⟩
      rw [← hwd] at hslO hslD he ⊢
      clear hwd hrest hout
      repeat (refine wpE_q (v := ?_) rfl rfl (fun u hu => ?_) ?_; rotate_left 1; (focus (go_simp; (try rfl))); simp only [Act.put, List.setIfInBounds_toArray, List.set_cons_zero, List.set_cons_succ])
      refine wpE_l rfl rfl (fun K hK => ?_)
      go_simp
      refine (HSO.out _ hslO).mono ?_
      rintro e u ⟨rfl, rfl⟩
      refine hK.out _ _ (Ext.refl _) ?_
      clear hK K
      try simp only [Act.put, List.setIfInBounds_toArray, List.set_cons_zero, List.set_cons_succ]
      have hk5b : k5 ≤ M + 1 := by omega
      have hk5i : (k5 : Int) ≤ (M : Int) + 1 := by omega
      repeat (refine wpE_q (v := ?_) rfl rfl (fun u hu => ?_) ?_; rotate_left 1; (focus (go_simp; (try rfl))); simp only [Act.put, List.setIfInBounds_toArray, List.set_cons_zero, List.set_cons_succ])
      refine wpE_l rfl rfl (fun K hK => ?_)
      go_simp
      refine (nat_Shift_any _ (m + 1) (m + 1) D (-(up : Int)) _ hslD hD (by omega) (by omega)).mono ?_
      rw [shl32_down (by omega), HEND.out.2]
      rintro e u2 ⟨aR, nR, cR, rfl, hsR, hu2⟩
      refine hK.out _ _ hu2 ?_
      clear hK K
      try simp only [Act.put, List.setIfInBounds_toArray, List.set_cons_zero, List.set_cons_succ]
      replace hslO := hslO.ext hu2
      replace he := he.trans hu2
      clear hu2
      repeat (refine wpE_q (v := ?_) rfl rfl (fun u hu => ?_) ?_; rotate_left 1; (focus (go_simp; (try rfl))); simp only [Act.put, List.setIfInBounds_toArray, List.set_cons_zero, List.set_cons_succ])
      refine wpE_done ?_
      go_wp2_with fail
      go_ret3
      have h5 := HCUT.out _ hslO
      rw [HEND.out.1] at h5
      exact ⟨_, _, _, _, _, _, by rw [decide_eq_true HY0.out]; rfl, by rw [if_neg HY0.out]; exact h5, by rw [if_neg HY0.out]; exact hsR, HE.trans he⟩

end Go.Proofs.Ytcipcpbjkcpgdaa
