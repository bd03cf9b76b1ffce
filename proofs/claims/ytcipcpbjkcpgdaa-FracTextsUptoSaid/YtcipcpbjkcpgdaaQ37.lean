/- strings.Cut at a stroke; the program's fractions out of texts. -/
import Derived.Test.YtcipcpbjkcpgdaaQ36
import Derived.Deep.DeepCutAuto
import Derived.OwnWalk
namespace Go.Proofs.Ytcipcpbjkcpgdaa
set_option linter.unusedVariables false
open Go Go.RowKit

theorem index_slx0 : ∀ l : List UInt8, Lib.indexByte l 47 = if slx (l.map UInt8.toNat) < l.length then (slx (l.map UInt8.toNat) : Int) else -1
  | [] => rfl
  | x :: t => by
    have ih := index_slx0 t
    unfold Lib.indexByte
    rw [ih]
    have hx : (x == 47) = decide (x.toNat = 47) := by
      rw [Bool.eq_iff_iff, beq_iff_eq, decide_eq_true_iff, ← UInt8.toNat_inj]; rfl
    rw [hx]
    show _ = if slx (x.toNat :: t.map UInt8.toNat) < (x :: t).length then (slx (x.toNat :: t.map UInt8.toNat) : Int) else -1
    have e : slx (x.toNat :: t.map UInt8.toNat) = if x.toNat = 47 then 0 else slx (t.map UInt8.toNat) + 1 := rfl
    rw [e]
    by_cases h1 : x.toNat = 47
    · simp [h1]
    · simp only [h1, if_false, decide_false, Bool.false_eq_true, List.length_cons]
      by_cases h2 : slx (t.map UInt8.toNat) < t.length
      · rw [if_pos h2, if_pos (show slx (t.map UInt8.toNat) + 1 < t.length + 1 by omega), if_neg (by simp; try omega)]; rfl
      · rw [if_neg h2, if_neg (show ¬ slx (t.map UInt8.toNat) + 1 < t.length + 1 by omega)]; rfl
theorem index_slx (s : ByteArray) : Lib.indexByte s.data.toList 47 = if slx (natsOf s) < s.size then (slx (natsOf s) : Int) else -1 := by
  have := index_slx0 s.data.toList
  have e : s.data.toList.length = s.size := rfl
  rw [e] at this
  exact this
theorem natsOf_take (s : ByteArray) (i : Nat) (h : i ≤ s.size) : natsOf (s.extract 0 i) = (natsOf s).take i := by
  unfold natsOf
  rw [Lib.extract_data]
  simp [List.map_take]
theorem natsOf_drop (s : ByteArray) (i : Nat) (h : i ≤ s.size) : natsOf (s.extract i s.size) = (natsOf s).drop i := by
  unfold natsOf
  rw [Lib.extract_data]
  have : (s.data.toList.drop i).length = s.size - i := by simp
  rw [List.take_of_length_le (by omega), List.map_drop]

set_option maxRecDepth 100000 in
set_option maxHeartbeats 4000000 in
theorem sl_Cut (s : ByteArray) (w : World) (hn : s.size ≤ 1099511627776) :
    Calls Try.prog 160 #[.string s, .string ⟨#[47]⟩] w fun e w' => ∃ A B, e = .returned (.tuple #[.string A, .string B, .bool (decide (slx (natsOf s) < s.size))]) ∧ natsOf A = (natsOf s).take (slx (natsOf s)) ∧ natsOf B = (natsOf s).drop (slx (natsOf s) + 1) ∧ Ext w w' := by
  have hi := index_slx s
  by_cases h : slx (natsOf s) < s.size
  · rw [if_pos h] at hi
    rw [decide_eq_true h]
    have ha := natsOf_take s (slx (natsOf s)) (by omega)
    have hb := natsOf_drop s (slx (natsOf s) + 1) (by omega)
    rw [← ha, ← hb]
    clear ha hb
    generalize slx (natsOf s) = i at *
    obtain ⟨j, hj⟩ : ∃ j, j = i + 1 := ⟨_, rfl⟩
    rw [← hj]
    go_enter Try.func160, Try.ntmps160
    go_wp2_with fail
    refine (Try.stringslite_Index_one s 47 _).mono ?_
    rw [hi]
    rintro e w1 ⟨rfl, rfl⟩
    have HE := Ext.refl w1
    go_wp2_with fail
    have hi0 : i ≤ s.size := by omega
    have hj0 : j ≤ s.size := by omega
    have HW : Hid (IntKind.i64.wrap ((i : Int) + 1) = (j : Int)) := hidP (by rw [IntWalk.i64_in _ (by omega)]; omega)
    clear hj
    refine wp_region_plan (R := Ext) (.q 0 (.q 1 (.q 2 (.q 3 (.q 4 (.q 5 (.q 6 (.q 7 (.q 8 (.q 9 (.q 10 (.q 11 .done)))))))))))) (by kernel_rfl) (by kernel_rfl) (by kernel_rfl) (by kernel_rfl) Ext.refl (fun _ _ _ => Ext.trans) ?_
    refine absE (fun x1 hx1 => ?_)
    have hx : Ext w1 x1 := by rw [hx1]; exact (Ext.refl _).drew
    replace HE := HE.trans hx
    clear hx
    clear hx1
    repeat (refine wpE_q (v := ?_) rfl rfl (fun u hu => ?_) ?_; rotate_left 1; (focus (have wq := HW.out; go_simp; (try rfl))); simp only [Act.put, List.setIfInBounds_toArray, List.set_cons_zero, List.set_cons_succ])
    refine wpE_done ?_
    go_wp2_with fail
    refine bodyPost_ret (results_tmp3 rfl _ _ _) rfl ?_
    exact ⟨_, _, rfl, rfl, rfl, HE⟩
  · rw [if_neg h] at hi
    rw [decide_eq_false h]
    have hl := slx_le (natsOf s)
    have hl2 := natsOf_len s
    have ha : natsOf s = (natsOf s).take (slx (natsOf s)) := (List.take_of_length_le (by omega)).symm
    have hb : natsOf ⟨#[]⟩ = (natsOf s).drop (slx (natsOf s) + 1) := by rw [List.drop_of_length_le (by omega)]; rfl
    rw [← ha, ← hb]
    clear ha hb hl hl2
    go_enter Try.func160, Try.ntmps160
    go_wp2_with fail
    refine (Try.stringslite_Index_one s 47 _).mono ?_
    rw [hi]
    rintro e w1 ⟨rfl, rfl⟩
    go_wp2_with fail
    refine bodyPost_ret (results_tmp3 rfl _ _ _) rfl ?_
    exact ⟨_, _, rfl, rfl, rfl, Ext.refl _⟩

set_option maxRecDepth 100000 in
set_option maxHeartbeats 4000000 in
theorem s_Cut (s : ByteArray) (w : World) (hn : s.size ≤ 1099511627776) :
    Calls Try.prog 157 #[.string s, .string ⟨#[47]⟩] w fun e w' => ∃ A B, e = .returned (.tuple #[.string A, .string B, .bool (decide (slx (natsOf s) < s.size))]) ∧ natsOf A = (natsOf s).take (slx (natsOf s)) ∧ natsOf B = (natsOf s).drop (slx (natsOf s) + 1) ∧ Ext w w' := by
  have H := sl_Cut s w hn
  generalize decide (slx (natsOf s) < s.size) = f at *
  generalize (natsOf s).take (slx (natsOf s)) = x at *
  generalize (natsOf s).drop (slx (natsOf s) + 1) = y at *
  go_enter Try.func157, Try.ntmps157
  go_wp2_with fail
  refine H.mono ?_
  rintro e w1 ⟨A, B, rfl, hA, hB, he⟩
  go_wp2_with fail
  refine bodyPost_ret (results_tmp3 rfl _ _ _) rfl ?_
  exact ⟨_, _, rfl, hA, hB, he⟩
theorem fp_err0 {l : List Nat} (h : ¬ (whParse (l.take (slx l))).1 = 0) : fpP l = (0, 0, 3) := by unfold fpP; rw [if_pos h]
theorem fp_one {l : List Nat} (h : (whParse (l.take (slx l))).1 = 0) (h1 : slx l = l.length) : fpP l = ((whParse (l.take (slx l))).2, 1, 0) := by unfold fpP; rw [if_neg (fun hh => hh h), if_pos h1]
theorem fp_err1 {l : List Nat} (h1 : ¬ slx l = l.length) (h2 : ¬ ((l.drop (slx l + 1)).length ≤ 2000 ∧ PlainL (l.drop (slx l + 1)))) : fpP l = (0, 0, 3) := by
  by_cases h : (whParse (l.take (slx l))).1 = 0
  · unfold fpP; rw [if_neg (fun hh => hh h), if_neg h1, if_pos h2]
  · exact fp_err0 h
theorem fp_err2 {l : List Nat} (h1 : ¬ slx l = l.length) (h3 : dval (l.drop (slx l + 1)) = 0 ∨ dval (l.drop (slx l + 1)) = 1 ∨ fg (whParse (l.take (slx l))).2 (dval (l.drop (slx l + 1))) ≠ 1) : fpP l = (0, 0, 3) := by
  by_cases h : (whParse (l.take (slx l))).1 = 0
  · by_cases h2 : ((l.drop (slx l + 1)).length ≤ 2000 ∧ PlainL (l.drop (slx l + 1)))
    · unfold fpP; rw [if_neg (fun hh => hh h), if_neg h1, if_neg (fun hh => hh h2), if_pos h3]
    · exact fp_err1 h1 h2
  · exact fp_err0 h
theorem fp_two {l : List Nat} (h : (whParse (l.take (slx l))).1 = 0) (h1 : ¬ slx l = l.length) (h2 : (l.drop (slx l + 1)).length ≤ 2000 ∧ PlainL (l.drop (slx l + 1))) (h3 : ¬ (dval (l.drop (slx l + 1)) = 0 ∨ dval (l.drop (slx l + 1)) = 1 ∨ fg (whParse (l.take (slx l))).2 (dval (l.drop (slx l + 1))) ≠ 1)) :
    fpP l = ((whParse (l.take (slx l))).2, dval (l.drop (slx l + 1)), 0) := by
  unfold fpP; rw [if_neg (fun hh => hh h), if_neg h1, if_neg (fun hh => hh h2), if_neg h3]
theorem dval_len {l : List Nat} {N : Nat} (h : l.length ≤ N) (hp : PlainL l) : dl (dval l) ≤ N :=
  dl_le (Nat.lt_of_lt_of_le (dval_lt l (fun c hc => (hp.2.2 c hc).2)) (Nat.pow_le_pow_right (by decide) h))
theorem wh_len (l : List Nat) : dl (whParse l).2.natAbs ≤ 2000 := by
  unfold whParse
  split
  · show dl 0 ≤ 2000; rw [dl_zero]; omega
  · split
    · show dl 0 ≤ 2000; rw [dl_zero]; omega
    · split
      · show dl 0 ≤ 2000; rw [dl_zero]; omega
      · rename_i h1 h2 h3
        show dl (wz _ _).natAbs ≤ 2000
        rw [wz_abs]
        exact dval_len (by omega) (Decidable.not_not.1 h2)
theorem dl_nz {n : Nat} (h : n ≠ 0) : ¬ dl n = 0 := by
  unfold dl
  rw [dig_pos B32_two h]
  simp
theorem wh_cases (l : List Nat) (h : ¬ (whParse l).1 = 0) : (whParse l).2 = 0 := by
  unfold whParse at h ⊢; split
  · rfl
  · split
    · rfl
    · split
      · rfl
      · rename_i h1 h2 h3; rw [if_neg h1, if_neg h2, if_neg h3] at h; exact absurd rfl h

set_option maxRecDepth 100000 in
set_option maxHeartbeats 4000000 in
theorem f_Parse (s : ByteArray) (w : World) (hn : s.size ≤ 1099511627776) :
    Calls Try.prog 115 #[.string s] w (RetFE w (fpP (natsOf s)).1 (fpP (natsOf s)).2.1 (fpP (natsOf s)).2.2) := by
  have HC := fun u => s_Cut s u hn
  have hle := slx_le (natsOf s)
  have hf1 : decide (slx (natsOf s) < s.size) = true → ¬ slx (natsOf s) = (natsOf s).length := fun h => by
    have := of_decide_eq_true h
    rw [natsOf_len]; omega
  have hf2 : decide (slx (natsOf s) < s.size) = false → slx (natsOf s) = (natsOf s).length := fun h => by
    have := of_decide_eq_false h
    rw [natsOf_len] at hle ⊢; omega
  have E0 := @fp_err0 (natsOf s)
  have E1 := fun h => @fp_err1 (natsOf s) (hf1 h)
  have E2 := fun h => @fp_err2 (natsOf s) (hf1 h)
  have R1 := fun h h2 => @fp_one (natsOf s) h (hf2 h2)
  have R2 := fun h h2 => @fp_two (natsOf s) h (hf1 h2)
  clear hf1 hf2 hle hn
  have L1 := wh_len ((natsOf s).take (slx (natsOf s)))
  generalize fpP (natsOf s) = rr at *
  generalize decide (slx (natsOf s) < s.size) = f at *
  generalize (natsOf s).take (slx (natsOf s)) = lt at *
  generalize (natsOf s).drop (slx (natsOf s) + 1) = lb at *
  replace HC := hidP HC; replace E0 := hidP E0; replace E1 := hidP E1; replace E2 := hidP E2; replace R1 := hidP R1; replace R2 := hidP R2; replace L1 := hidP L1
  go_enter Try.func115, Try.ntmps115
  go_wp2_with fail
  refine absC (fun x1 hx1 => ?_)
  have hx : Ext w x1 := by rw [hx1]; exact ((Ext.refl _).alloc _)
  have bs : Bl x1 (w.heap.size) #[.bool false, .slice none 0 0, .slice none 0 0] := by rw [hx1]; exact (Bl.new (by simp))
  have fs : Fz x1 (w.heap.size) := by rw [hx1]; exact (Fz.new (by simp))
  have HE := hx
  clear hx
  clear hx1
  have hc := HC.out x1
  clear HC
  refine (hc).mono ?_
  rintro e u0 ⟨A, B, rfl, hA, hB, hx⟩
  replace fs := Fz.ext hx fs bs (Nat.succ_pos _)
  replace bs := Bl.ext hx bs (Nat.succ_pos _)
  replace HE := HE.trans hx
  clear hx
  subst hA; subst hB
  go_wp2_with fail
  have hp := w_Parse_any A u0
  refine hp.mono ?_
  clear hp hc
  rintro e u1 ⟨a1, n1, c1, rfl, hs1, hx⟩
  generalize (whParse (natsOf A)).1 = pe at *
  generalize (whParse (natsOf A)).2 = z at *
  replace hs1 : Nc u1 a1 n1 c1 z.natAbs := hs1
  replace fs := Fz.ext hx fs bs (Nat.succ_pos _)
  replace bs := Bl.ext hx bs (Nat.succ_pos _)
  replace HE := HE.trans hx
  clear hx
  have lsx := bs.lt (Nat.succ_pos _)
  generalize hzb : decide (z < 0) = zb at *
  have HZB := hidP hzb
  clear hzb
  go_upto_region 3 with fail
  refine absW (fun x2 hx2 => ?_)
  have hx : Ext u1 x2 := by rw [hx2]; exact ((Ext.refl _).alloc _)
  have bx : Bl x2 (u1.heap.size) #[.bool zb, .slice a1 n1 c1] := by rw [hx2]; exact (Bl.new (by simp))
  replace fs := Fz.ext hx fs bs (Nat.succ_pos _)
  replace bs := Bl.ext hx bs (Nat.succ_pos _)
  replace hs1 := hs1.ext hx
  replace HE := HE.trans hx
  clear hx
  clear hx2
  by_cases hpe : pe = 0
  · subst hpe
    cases f with
    | false =>
      have HRR := hidP (R1.out (by trivial) (by trivial))
      go_wp2_with fail
      refine wp_region_plan (R := Ext) (.q 0 (.l 1 (.q 2 (.b 3 (.q 4 .done))))) (by kernel_rfl) (by kernel_rfl) (by kernel_rfl) (by kernel_rfl) Ext.refl (fun _ _ _ => Ext.trans) ?_
      refine absE (fun x3 hx3 => ?_)
      have hx : Ext x2 x3 := by rw [hx3]; exact (Ext.refl _).drew
      replace fs := Fz.ext hx fs bs (Nat.succ_pos _)
      replace bs := Bl.ext hx bs (Nat.succ_pos _)
      replace bx := Bl.ext hx bx (Nat.succ_pos _)
      replace hs1 := hs1.ext hx
      replace HE := HE.trans hx
      clear hx
      clear hx3
      repeat (refine wpE_q (v := ?_) rfl rfl (fun u hu => ?_) ?_; rotate_left 1; (focus (have ks := Bl.ext hu bs (Nat.succ_pos _); have kx := Bl.ext hu bx (Nat.succ_pos _); go_simp; (try rfl))); simp only [Act.put, List.setIfInBounds_toArray, List.set_cons_zero, List.set_cons_succ])
      refine wpE_l rfl rfl (fun K hK => ?_)
      go_simp
      refine (f_unit _).mono ?_
      rintro e u2 ⟨a2, n2, c2, rfl, hs2, hx⟩
      refine hK.out _ _ hx ?_
      clear hK K
      try simp only [Act.put, List.setIfInBounds_toArray, List.set_cons_zero, List.set_cons_succ]
      replace fs := Fz.ext hx fs bs (Nat.succ_pos _)
      replace bs := Bl.ext hx bs (Nat.succ_pos _)
      replace bx := Bl.ext hx bx (Nat.succ_pos _)
      replace hs1 := hs1.ext hx
      replace HE := HE.trans hx
      clear hx
      replace hs2 : Nc u2 a2 n2 c2 1 := hs2
      repeat (refine wpE_q (v := ?_) rfl rfl (fun u hu => ?_) ?_; rotate_left 1; (focus (have ks := Bl.ext hu bs (Nat.succ_pos _); have kx := Bl.ext hu bx (Nat.succ_pos _); go_simp; (try rfl))); simp only [Act.put, List.setIfInBounds_toArray, List.set_cons_zero, List.set_cons_succ])
      refine wpE_b rfl rfl (fun K hK => ?_)
      go_simp
      refine hK.out _ _ ?_
      clear hK K
      try simp only [Act.put, List.setIfInBounds_toArray, List.set_cons_zero, List.set_cons_succ]
      refine absE (fun x4 hx4 => ?_)
      have hbut : But u2 x4 (w.heap.size) := by rw [hx4]; exact (But.refl _ _).store.store.store
      have hbn : Bl x4 (w.heap.size) #[.bool zb, .slice a1 n1 c1, .slice a2 n2 c2] := by rw [hx4]; exact (Bl.set (Bl.set (Bl.set bs (by simp)) (by simp)) (by simp))
      replace hs1 := hs1.but bs (not_ints3 nb_bool nb_slice nb_slice) hbut
      replace hs2 := hs2.but bs (not_ints3 nb_bool nb_slice nb_slice) hbut
      replace bx := But.bl hbut bx (Nat.succ_pos _) (by omega)
      replace fs : Fz x4 (w.heap.size) := by rw [hx4]; exact (Fz.set (Fz.set (Fz.set fs)))
      replace HE : Ext w x4 := by rw [hx4]; exact (((HE.store (by show w.heap.size ≤ w.heap.size; omega) _).store (by show w.heap.size ≤ w.heap.size; omega) _).store (by show w.heap.size ≤ w.heap.size; omega) _)
      clear bs hbut hx4
      have bs := hbn
      clear hbn
      repeat (refine wpE_q (v := ?_) rfl rfl (fun u hu => ?_) ?_; rotate_left 1; (focus (have ks := Bl.ext hu bs (Nat.succ_pos _); have kx := Bl.ext hu bx (Nat.succ_pos _); go_simp; (try rfl))); simp only [Act.put, List.setIfInBounds_toArray, List.set_cons_zero, List.set_cons_succ])
      refine wpE_done ?_
      go_wp2_with fail
      refine bodyPost_cells_tmp2 rfl rfl Try.underlying79 rfl (by kernel_rfl) (bl_three bs) rfl rfl ?_
      exact RetFE.of (z := z) (D := 1) (err := 0) (congrArg Prod.fst HRR.out) (congrArg (fun x : Int × Nat × Int => x.2.1) HRR.out) (congrArg (fun x : Int × Nat × Int => x.2.2) HRR.out) HZB.out.symm hs1 hs2 HE
    | true =>
      go_wp2_with fail
      have hp := nat_Parse_any B x2
      refine hp.mono ?_
      clear hp
      rintro e u2 (⟨hbg, rfl, hx⟩ | ⟨hbg, hpl, rfl, hx⟩ | ⟨hbg, hpl, a2, n2, c2, rfl, hs2, hx⟩)
      · replace fs := Fz.ext hx fs bs (Nat.succ_pos _)
        replace bs := Bl.ext hx bs (Nat.succ_pos _)
        replace bx := Bl.ext hx bx (Nat.succ_pos _)
        replace hs1 := hs1.ext hx
        replace HE := HE.trans hx
        clear hx
        have HRR := hidP (E1.out (by trivial) (fun hh => absurd hh.1 (by omega)))
        clear hs1
        go_wp2_with fail
        refine absB (fun ue hue => ?_)
        have hbs : Bl ue (w.heap.size) #[.bool false, .slice none 0 0, .slice none 0 0] := by rw [hue]; exact (((bs.set (by simp)).set (by simp)).set (by simp))
        have hnc : ∀ {aa : Option Addr} {nn cc VV : Nat}, Nc u2 aa nn cc VV → Nc ue aa nn cc VV := fun h => by
          rw [hue]
          exact h.but bs (not_ints3 nb_bool nb_slice nb_slice) ((But.refl _ _).store.store.store)
        have heu : Ext w ue := by rw [hue]; exact ((HE.store (by show w.heap.size ≤ w.heap.size; omega) _).store (by show w.heap.size ≤ w.heap.size; omega) _).store (by show w.heap.size ≤ w.heap.size; omega) _
        clear hue
        refine bodyPost_cells_tmp2 rfl rfl Try.underlying79 rfl (by kernel_rfl) (bl_three hbs) rfl rfl ?_
        exact RetFE.of (z := 0) (D := 0) (err := 3) (congrArg Prod.fst HRR.out) (congrArg (fun x : Int × Nat × Int => x.2.1) HRR.out) (congrArg (fun x : Int × Nat × Int => x.2.2) HRR.out) rfl (Nc.zero _) (Nc.zero _) heu
      · replace fs := Fz.ext hx fs bs (Nat.succ_pos _)
        replace bs := Bl.ext hx bs (Nat.succ_pos _)
        replace bx := Bl.ext hx bx (Nat.succ_pos _)
        replace hs1 := hs1.ext hx
        replace HE := HE.trans hx
        clear hx
        have HRR := hidP (E1.out (by trivial) (fun hh => hpl hh.2))
        clear hs1
        go_wp2_with fail
        refine absB (fun ue hue => ?_)
        have hbs : Bl ue (w.heap.size) #[.bool false, .slice none 0 0, .slice none 0 0] := by rw [hue]; exact (((bs.set (by simp)).set (by simp)).set (by simp))
        have hnc : ∀ {aa : Option Addr} {nn cc VV : Nat}, Nc u2 aa nn cc VV → Nc ue aa nn cc VV := fun h => by
          rw [hue]
          exact h.but bs (not_ints3 nb_bool nb_slice nb_slice) ((But.refl _ _).store.store.store)
        have heu : Ext w ue := by rw [hue]; exact ((HE.store (by show w.heap.size ≤ w.heap.size; omega) _).store (by show w.heap.size ≤ w.heap.size; omega) _).store (by show w.heap.size ≤ w.heap.size; omega) _
        clear hue
        refine bodyPost_cells_tmp2 rfl rfl Try.underlying79 rfl (by kernel_rfl) (bl_three hbs) rfl rfl ?_
        exact RetFE.of (z := 0) (D := 0) (err := 3) (congrArg Prod.fst HRR.out) (congrArg (fun x : Int × Nat × Int => x.2.1) HRR.out) (congrArg (fun x : Int × Nat × Int => x.2.2) HRR.out) rfl (Nc.zero _) (Nc.zero _) heu
      · replace fs := Fz.ext hx fs bs (Nat.succ_pos _)
        replace bs := Bl.ext hx bs (Nat.succ_pos _)
        replace bx := Bl.ext hx bx (Nat.succ_pos _)
        replace hs1 := hs1.ext hx
        replace HE := HE.trans hx
        clear hx
        replace hs2 : Nc u2 a2 n2 c2 (dval (natsOf B)) := hs2
        have L2 : Hid (dl (dval (natsOf B)) ≤ 2000) := hidP (dval_len hbg hpl)
        have HPL := hidP (show (natsOf B).length ≤ 2000 ∧ PlainL (natsOf B) from ⟨hbg, hpl⟩)
        have hn2 := hs2.len
        have he2 := E2.out (by trivial)
        have hr2 := R2.out (by trivial) (by trivial) HPL.out
        generalize dval (natsOf B) = D at *
        have HE2 := hidP he2; have HR2 := hidP hr2
        clear he2 hr2 hbg hpl
        by_cases hD0 : D = 0
        · have hn0 : n2 = 0 := by rw [hn2, hD0, dl_zero]
          subst hn0
          have HD0 := hidP hD0
          clear hn2 hD0
          have HRR := hidP (HE2.out (.inl HD0.out))
          clear hs1 hs2
          go_wp2_with fail
          refine absB (fun ue hue => ?_)
          have hbs : Bl ue (w.heap.size) #[.bool false, .slice none 0 0, .slice none 0 0] := by rw [hue]; exact (((bs.set (by simp)).set (by simp)).set (by simp))
          have hnc : ∀ {aa : Option Addr} {nn cc VV : Nat}, Nc u2 aa nn cc VV → Nc ue aa nn cc VV := fun h => by
            rw [hue]
            exact h.but bs (not_ints3 nb_bool nb_slice nb_slice) ((But.refl _ _).store.store.store)
          have heu : Ext w ue := by rw [hue]; exact ((HE.store (by show w.heap.size ≤ w.heap.size; omega) _).store (by show w.heap.size ≤ w.heap.size; omega) _).store (by show w.heap.size ≤ w.heap.size; omega) _
          clear hue
          refine bodyPost_cells_tmp2 rfl rfl Try.underlying79 rfl (by kernel_rfl) (bl_three hbs) rfl rfl ?_
          exact RetFE.of (z := 0) (D := 0) (err := 3) (congrArg Prod.fst HRR.out) (congrArg (fun x : Int × Nat × Int => x.2.1) HRR.out) (congrArg (fun x : Int × Nat × Int => x.2.2) HRR.out) rfl (Nc.zero _) (Nc.zero _) heu
        · have hn0 : ¬ n2 = 0 := by rw [hn2]; exact dl_nz hD0
          have HD0 := hidP hD0
          clear hn2 hD0
          go_wp2_with fail
          refine (f_isUnit hs2).mono ?_
          rintro e u3 ⟨rfl, rfl⟩
          by_cases hD1 : D = 1
          · rw [decide_eq_true hD1]
            have HRR := hidP (HE2.out (.inr (.inl hD1)))
            clear hs1 hs2
            go_wp2_with fail
            refine absB (fun ue hue => ?_)
            have hbs : Bl ue (w.heap.size) #[.bool false, .slice none 0 0, .slice none 0 0] := by rw [hue]; exact (((bs.set (by simp)).set (by simp)).set (by simp))
            have hnc : ∀ {aa : Option Addr} {nn cc VV : Nat}, Nc u2 aa nn cc VV → Nc ue aa nn cc VV := fun h => by
              rw [hue]
              exact h.but bs (not_ints3 nb_bool nb_slice nb_slice) ((But.refl _ _).store.store.store)
            have heu : Ext w ue := by rw [hue]; exact ((HE.store (by show w.heap.size ≤ w.heap.size; omega) _).store (by show w.heap.size ≤ w.heap.size; omega) _).store (by show w.heap.size ≤ w.heap.size; omega) _
            clear hue
            refine bodyPost_cells_tmp2 rfl rfl Try.underlying79 rfl (by kernel_rfl) (bl_three hbs) rfl rfl ?_
            exact RetFE.of (z := 0) (D := 0) (err := 3) (congrArg Prod.fst HRR.out) (congrArg (fun x : Int × Nat × Int => x.2.1) HRR.out) (congrArg (fun x : Int × Nat × Int => x.2.2) HRR.out) rfl (Nc.zero _) (Nc.zero _) heu
          · rw [decide_eq_false hD1]
            have HD1 := hidP hD1
            clear hD1
            go_wp2_with fail
            have hg := p_Gcd (hs1.nu (by have := L1.out; omega)) (hs2.nu (by have := L2.out; omega))
            have hgg : Nat.gcd z.natAbs D = fg z D := rfl
            rw [hgg] at hg
            clear hgg
            generalize fg z D = g at *
            refine (hg).mono ?_
            rintro e u4 ⟨a4, n4, c4, rfl, hs4, hx⟩
            replace fs := Fz.ext hx fs bs (Nat.succ_pos _)
            replace bs := Bl.ext hx bs (Nat.succ_pos _)
            replace bx := Bl.ext hx bx (Nat.succ_pos _)
            replace hs1 := hs1.ext hx
            replace hs2 := hs2.ext hx
            replace HE := HE.trans hx
            clear hx
            replace hs4 : Nc u4 a4 n4 c4 g := hs4
            clear hg
            go_wp2_with fail
            refine (f_isUnit hs4).mono ?_
            rintro e u5 ⟨rfl, rfl⟩
            by_cases hg1 : g = 1
            · rw [decide_eq_true hg1]
              have HRR := hidP (HR2.out (fun h => h.elim HD0.out (fun h => h.elim HD1.out (fun h => h hg1))))
              clear hg1
              have HS1 := hidP hs1; have HS2 := hidP hs2
              clear hs1 hs2 hs4
              go_wp2_with fail
              refine absB (fun ue hue => ?_)
              have hbs : Bl ue (w.heap.size) #[.bool zb, .slice a1 n1 c1, .slice a2 n2 c2] := by rw [hue]; exact (((bs.set (by simp)).set (by simp)).set (by simp))
              have hnc : ∀ {aa : Option Addr} {nn cc VV : Nat}, Nc u4 aa nn cc VV → Nc ue aa nn cc VV := fun h => by
                rw [hue]
                exact h.but bs (not_ints3 nb_bool nb_slice nb_slice) ((But.refl _ _).store.store.store)
              have heu : Ext w ue := by rw [hue]; exact ((HE.store (by show w.heap.size ≤ w.heap.size; omega) _).store (by show w.heap.size ≤ w.heap.size; omega) _).store (by show w.heap.size ≤ w.heap.size; omega) _
              clear hue
              refine bodyPost_cells_tmp2 rfl rfl Try.underlying79 rfl (by kernel_rfl) (bl_three hbs) rfl rfl ?_
              exact RetFE.of (z := z) (D := D) (err := 0) (congrArg Prod.fst HRR.out) (congrArg (fun x : Int × Nat × Int => x.2.1) HRR.out) (congrArg (fun x : Int × Nat × Int => x.2.2) HRR.out) HZB.out.symm (hnc HS1.out) (hnc HS2.out) heu
            · rw [decide_eq_false hg1]
              have HRR := hidP (HE2.out (.inr (.inr hg1)))
              clear hs1 hs2 hs4
              go_wp2_with fail
              refine absB (fun ue hue => ?_)
              have hbs : Bl ue (w.heap.size) #[.bool false, .slice none 0 0, .slice none 0 0] := by rw [hue]; exact (((bs.set (by simp)).set (by simp)).set (by simp))
              have hnc : ∀ {aa : Option Addr} {nn cc VV : Nat}, Nc u4 aa nn cc VV → Nc ue aa nn cc VV := fun h => by
                rw [hue]
                exact h.but bs (not_ints3 nb_bool nb_slice nb_slice) ((But.refl _ _).store.store.store)
              have heu : Ext w ue := by rw [hue]; exact ((HE.store (by show w.heap.size ≤ w.heap.size; omega) _).store (by show w.heap.size ≤ w.heap.size; omega) _).store (by show w.heap.size ≤ w.heap.size; omega) _
              clear hue
              refine bodyPost_cells_tmp2 rfl rfl Try.underlying79 rfl (by kernel_rfl) (bl_three hbs) rfl rfl ?_
              exact RetFE.of (z := 0) (D := 0) (err := 3) (congrArg Prod.fst HRR.out) (congrArg (fun x : Int × Nat × Int => x.2.1) HRR.out) (congrArg (fun x : Int × Nat × Int => x.2.2) HRR.out) rfl (Nc.zero _) (Nc.zero _) heu
  · have hpz : ¬ ((pe : Nat) : Int) = 0 := by omega
    have HRR := hidP (E0.out hpe)
    clear hs1
    go_wp2_with fail
    refine absB (fun ue hue => ?_)
    have hbs : Bl ue (w.heap.size) #[.bool false, .slice none 0 0, .slice none 0 0] := by rw [hue]; exact (((bs.set (by simp)).set (by simp)).set (by simp))
    have hnc : ∀ {aa : Option Addr} {nn cc VV : Nat}, Nc x2 aa nn cc VV → Nc ue aa nn cc VV := fun h => by
      rw [hue]
      exact h.but bs (not_ints3 nb_bool nb_slice nb_slice) ((But.refl _ _).store.store.store)
    have heu : Ext w ue := by rw [hue]; exact ((HE.store (by show w.heap.size ≤ w.heap.size; omega) _).store (by show w.heap.size ≤ w.heap.size; omega) _).store (by show w.heap.size ≤ w.heap.size; omega) _
    clear hue
    refine bodyPost_cells_tmp2 rfl rfl Try.underlying79 rfl (by kernel_rfl) (bl_three hbs) rfl rfl ?_
    exact RetFE.of (z := 0) (D := 0) (err := 3) (congrArg Prod.fst HRR.out) (congrArg (fun x : Int × Nat × Int => x.2.1) HRR.out) (congrArg (fun x : Int × Nat × Int => x.2.2) HRR.out) rfl (Nc.zero _) (Nc.zero _) heu

end Go.Proofs.Ytcipcpbjkcpgdaa
