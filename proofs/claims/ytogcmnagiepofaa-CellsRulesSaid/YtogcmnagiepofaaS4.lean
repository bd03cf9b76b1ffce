/- Sets of cells: cell by cell, in the document's way. -/
import Derived.Test.YtogcmnagiepofaaS3
namespace Go.Proofs.Ytogcmnagiepofaa
set_option linter.unusedVariables false
set_option linter.unusedSimpArgs false
open Go Go.RowKit


set_option maxRecDepth 100000 in
set_option maxHeartbeats 8000000 in
theorem e_Two0 (x y x' y' : Int) (a a' : Option Addr) (n c n' c' : Nat) (l l' : List Bool) (w : World) (h : SlB w a n c l) (h' : SlB w a' n' c' l') :
    Calls Try.prog 37 #[rst x y a n c, rst x' y' a' n' c', .int .i64 0] w (RetBE w (twoB (fun p q => p && q) x y n l x' y' n' l')) := by
  have HL := hidP h.len; have HL' := hidP h'.len
  have H := hidP h; have H' := hidP h'
  clear h h'
  have HM := hidP (fun u => e_May x y a n c u)
  have HM' := hidP (fun u => e_May x' y' a' n' c' u)
  by_cases hd : mayR x y n = true ∧ mayR x' y' n' = true ∧ x = x' ∧ y = y'
  · obtain ⟨hm, hm', rfl, rfl⟩ := hd
    have HR : Hid (twoB (fun p q => p && q) x y n l x y n' l' = ((x, y, List.zipWith (fun p q => p && q) l l'), 0)) := hidP (if_pos ⟨hm, hm', rfl, rfl⟩)
    rw [hm] at HM
    rw [hm'] at HM'
    have hmm := of_decide_eq_true hm
    have hmm' := of_decide_eq_true hm'
    obtain ⟨m1, m2, m3, m4, m5⟩ := hmm
    have hbx := mul_box m1 m2 m3 m4
    obtain rfl : n = n' := by have := hmm'.2.2.2.2; omega
    have hn4 : n ≤ 4096 := by omega
    have HZ := hidP (fun j hj => zip_step (fun p q => p && q) l l' n j HL.out HL'.out hj)
    have HZ0 := (HZ.out 0 (by omega)).1
    clear hm hm' hmm' m5 hbx
    generalize twoB (fun p q => p && q) x y n l x y n l' = rr at *
    generalize List.zipWith (fun p q => p && q) l l' = R at *
    go_enter Try.func37, Try.ntmps37
    go_wp2_with fail
    refine absC (fun x1 hx1 => ?_)
    have hx : Ext w x1 := by rw [hx1]; exact ((((Ext.refl _).alloc _).alloc _).alloc _)
    have bp : Bl x1 (w.heap.size) #[.int .i64 x, .int .i64 y, .slice a n c] := by rw [hx1]; exact (((Bl.new (by simp)).alloc (by simp)).alloc (by simp))
    have bq : Bl x1 (w.heap.size + 1) #[.int .i64 x, .int .i64 y, .slice a' n c'] := by rw [hx1]; exact ((Bl.new (by simp)).alloc (by simp))
    have bs : Bl x1 (w.heap.size + 1 + 1) #[.int .i64 0, .int .i64 0, .slice none 0 0] := by rw [hx1]; exact (Bl.new (by simp))
    have fs : Fz x1 (w.heap.size + 1 + 1) := by rw [hx1]; exact (Fz.new (by simp))
    have HE := hx
    clear hx
    clear hx1
    refine (HM.out _).mono ?_
    rintro e u1 ⟨rfl, hx⟩
    replace bp := Bl.ext hx bp (Nat.succ_pos _)
    replace bq := Bl.ext hx bq (Nat.succ_pos _)
    replace fs := Fz.ext hx fs bs (Nat.succ_pos _)
    replace bs := Bl.ext hx bs (Nat.succ_pos _)
    replace HE := HE.trans hx
    clear hx
    go_wp2_with fail
    refine (HM'.out _).mono ?_
    rintro e u2 ⟨rfl, hx⟩
    replace bp := Bl.ext hx bp (Nat.succ_pos _)
    replace bq := Bl.ext hx bq (Nat.succ_pos _)
    replace fs := Fz.ext hx fs bs (Nat.succ_pos _)
    replace bs := Bl.ext hx bs (Nat.succ_pos _)
    replace HE := HE.trans hx
    clear hx
    have lpx := bp.lt (Nat.succ_pos _); have lqx := bq.lt (Nat.succ_pos _); have lsx := bs.lt (Nat.succ_pos _)
    go_upto_region 4 with fail
    refine absW (fun x2 hx2 => ?_)
    have hx : Ext u2 x2 := by rw [hx2]; exact ((Ext.refl _).alloc _)
    have bt : Bl x2 (u2.heap.size) #[.int .i64 x, .int .i64 y, .slice none 0 0] := by rw [hx2]; exact (Bl.new (by simp))
    have ft : Fz x2 (u2.heap.size) := by rw [hx2]; exact (Fz.new (by simp))
    replace bp := Bl.ext hx bp (Nat.succ_pos _)
    replace bq := Bl.ext hx bq (Nat.succ_pos _)
    replace fs := Fz.ext hx fs bs (Nat.succ_pos _)
    replace bs := Bl.ext hx bs (Nat.succ_pos _)
    replace HE := HE.trans hx
    clear hx
    clear hx2
    generalize u2.heap.size = ga at *
    have hB : ga + 1 ≤ x2.heap.size := by have := bt.lt (Nat.succ_pos _); omega
    have hz0 : x2.ownsRow (ga + 1) 4 1 (.slice none 0 0) 0 (bools (R.take 0)) := World.ownsRow_nil _ _ _ _
    go_wp2_with fail
    go_loopw [9] (fun iv wr => ∃ (j : Nat) (v : Value), j ≤ n ∧ iv = .int .i64 (j : Int) ∧ wr.ownsRow (ga + 1) 4 1 v j (bools (R.take j)) ∧ Bl wr ga #[.int .i64 x, .int .i64 y, v] ∧ Fz wr ga ∧ Bl wr w.heap.size #[.int .i64 x, .int .i64 y, .slice a n c] ∧ Bl wr (w.heap.size + 1) #[.int .i64 x, .int .i64 y, .slice a' n c'] ∧ Bl wr (w.heap.size + 1 + 1) #[.int .i64 0, .int .i64 0, .slice none 0 0] ∧ Fz wr (w.heap.size + 1 + 1) ∧ ga + 1 ≤ wr.heap.size ∧ Ext w wr) (fun iv _ => n - (intOf iv).toNat)
    case atStart => exact ⟨0, _, by omega, rfl, hz0, bt, ft, bp, bq, bs, fs, hB, HE⟩
    case round =>
      clear hz0 bt ft bp bq bs fs hB HE
      obtain ⟨j, v, hj, rfl, hown, bt, ft, bp, bq, bs, fs, hB, HE⟩ := hrel
      by_cases hlt : j < n
      · have hlt0 := hlt
        obtain ⟨g, off, rfl, hc⟩ := (H.out.ext HE).at (by omega)
        obtain ⟨g', off', rfl, hc'⟩ := (H'.out.ext HE).at (by omega)
        have h0 := hc j (by rw [HL.out]; exact hlt)
        have k0 := hc' j (by rw [HL'.out]; exact hlt)
        obtain ⟨hjR, hz⟩ := (HZ.out j hlt).2
        have hst := List.take_succ_eq_append_getElem hjR
        rw [hz] at hst
        have hst2 := congrArg bools hst
        rw [bools_append] at hst2
        clear hc hc' hz hst
        generalize l[j]'(by rw [HL.out]; exact hlt) = p at *
        generalize l'[j]'(by rw [HL'.out]; exact hlt) = q at *
        cases p
        · cases q
          · have HST : Hid (bools (R.take (j + 1)) = bools (R.take j) ++ [.bool false]) := hidP hst2
            clear hst2
            go_wp2_with (first | (at_builtin; refine wpList_appB T_bool rfl _ _ rfl hown hB #[.bool false] rfl (ends_bool _) rfl rfl (by omega) (by omega) ?_; intro v2 w2 hown2 hlow; obtain ⟨a2, c2, rfl, hs2⟩ := SlK.of_owns hown2; have bt2 := Bl.lowB hlow bt (by omega); have ft2 := Fz.lowB hlow ft (by omega)))
            have bs2 := Bl.lowB hlow bs (by omega)
            have fs2 := Fz.lowB hlow fs (by omega)
            have bp2 := Bl.lowB hlow bp (by omega); have bq2 := Bl.lowB hlow bq (by omega)
            have hb2 : But w2 (w2.setCell ⟨ga, 2, none⟩ (.slice a2 (j + 1) c2)) ga := (But.refl _ _).store
            go_roundw
            case rel =>
              refine ⟨j + 1, _, by omega, by go_num, ?_, bt2.set (by simp), ft2.set, hb2.bl bp2 (Nat.succ_pos _) (by omega), hb2.bl bq2 (Nat.succ_pos _) (by omega), hb2.bl bs2 (Nat.succ_pos _) (by omega), hb2.fz fs2 bs2 (Nat.succ_pos _) (by omega), Nat.le_trans (Nat.le_trans hB hlow.size) hb2.1, (Below.trans HE (hlow.mono (by omega))).setCell (by show w.heap.size ≤ ga; omega) _⟩
              rw [HST.out]
              exact hb2.rowB hown2 (by omega)
            case measure => simp only [intOf]; omega
          · have HST : Hid (bools (R.take (j + 1)) = bools (R.take j) ++ [.bool false]) := hidP hst2
            clear hst2
            go_wp2_with (first | (at_builtin; refine wpList_appB T_bool rfl _ _ rfl hown hB #[.bool false] rfl (ends_bool _) rfl rfl (by omega) (by omega) ?_; intro v2 w2 hown2 hlow; obtain ⟨a2, c2, rfl, hs2⟩ := SlK.of_owns hown2; have bt2 := Bl.lowB hlow bt (by omega); have ft2 := Fz.lowB hlow ft (by omega)))
            have bs2 := Bl.lowB hlow bs (by omega)
            have fs2 := Fz.lowB hlow fs (by omega)
            have bp2 := Bl.lowB hlow bp (by omega); have bq2 := Bl.lowB hlow bq (by omega)
            have hb2 : But w2 (w2.setCell ⟨ga, 2, none⟩ (.slice a2 (j + 1) c2)) ga := (But.refl _ _).store
            go_roundw
            case rel =>
              refine ⟨j + 1, _, by omega, by go_num, ?_, bt2.set (by simp), ft2.set, hb2.bl bp2 (Nat.succ_pos _) (by omega), hb2.bl bq2 (Nat.succ_pos _) (by omega), hb2.bl bs2 (Nat.succ_pos _) (by omega), hb2.fz fs2 bs2 (Nat.succ_pos _) (by omega), Nat.le_trans (Nat.le_trans hB hlow.size) hb2.1, (Below.trans HE (hlow.mono (by omega))).setCell (by show w.heap.size ≤ ga; omega) _⟩
              rw [HST.out]
              exact hb2.rowB hown2 (by omega)
            case measure => simp only [intOf]; omega
        · cases q
          · have HST : Hid (bools (R.take (j + 1)) = bools (R.take j) ++ [.bool false]) := hidP hst2
            clear hst2
            go_wp2_with (first | (at_builtin; refine wpList_appB T_bool rfl _ _ rfl hown hB #[.bool false] rfl (ends_bool _) rfl rfl (by omega) (by omega) ?_; intro v2 w2 hown2 hlow; obtain ⟨a2, c2, rfl, hs2⟩ := SlK.of_owns hown2; have bt2 := Bl.lowB hlow bt (by omega); have ft2 := Fz.lowB hlow ft (by omega)))
            have bs2 := Bl.lowB hlow bs (by omega)
            have fs2 := Fz.lowB hlow fs (by omega)
            have bp2 := Bl.lowB hlow bp (by omega); have bq2 := Bl.lowB hlow bq (by omega)
            have hb2 : But w2 (w2.setCell ⟨ga, 2, none⟩ (.slice a2 (j + 1) c2)) ga := (But.refl _ _).store
            go_roundw
            case rel =>
              refine ⟨j + 1, _, by omega, by go_num, ?_, bt2.set (by simp), ft2.set, hb2.bl bp2 (Nat.succ_pos _) (by omega), hb2.bl bq2 (Nat.succ_pos _) (by omega), hb2.bl bs2 (Nat.succ_pos _) (by omega), hb2.fz fs2 bs2 (Nat.succ_pos _) (by omega), Nat.le_trans (Nat.le_trans hB hlow.size) hb2.1, (Below.trans HE (hlow.mono (by omega))).setCell (by show w.heap.size ≤ ga; omega) _⟩
              rw [HST.out]
              exact hb2.rowB hown2 (by omega)
            case measure => simp only [intOf]; omega
          · have HST : Hid (bools (R.take (j + 1)) = bools (R.take j) ++ [.bool true]) := hidP hst2
            clear hst2
            go_wp2_with (first | (at_builtin; refine wpList_appB T_bool rfl _ _ rfl hown hB #[.bool true] rfl (ends_bool _) rfl rfl (by omega) (by omega) ?_; intro v2 w2 hown2 hlow; obtain ⟨a2, c2, rfl, hs2⟩ := SlK.of_owns hown2; have bt2 := Bl.lowB hlow bt (by omega); have ft2 := Fz.lowB hlow ft (by omega)))
            have bs2 := Bl.lowB hlow bs (by omega)
            have fs2 := Fz.lowB hlow fs (by omega)
            have bp2 := Bl.lowB hlow bp (by omega); have bq2 := Bl.lowB hlow bq (by omega)
            have hb2 : But w2 (w2.setCell ⟨ga, 2, none⟩ (.slice a2 (j + 1) c2)) ga := (But.refl _ _).store
            go_roundw
            case rel =>
              refine ⟨j + 1, _, by omega, by go_num, ?_, bt2.set (by simp), ft2.set, hb2.bl bp2 (Nat.succ_pos _) (by omega), hb2.bl bq2 (Nat.succ_pos _) (by omega), hb2.bl bs2 (Nat.succ_pos _) (by omega), hb2.fz fs2 bs2 (Nat.succ_pos _) (by omega), Nat.le_trans (Nat.le_trans hB hlow.size) hb2.1, (Below.trans HE (hlow.mono (by omega))).setCell (by show w.heap.size ≤ ga; omega) _⟩
              rw [HST.out]
              exact hb2.rowB hown2 (by omega)
            case measure => simp only [intOf]; omega
      · obtain rfl : j = n := by omega
        obtain ⟨a2, c2, rfl, hs2⟩ := SlK.of_owns hown
        rw [List.take_of_length_le (by omega)] at hs2
        have HSR : Hid (SlB wr a2 j c2 R) := hidP hs2
        clear hs2 hown
        go_wp2_with fail
        refine absB (fun ue hue => ?_)
        have hbs : Bl ue (w.heap.size + 1 + 1) #[.int .i64 x, .int .i64 y, .slice a2 j c2] := by rw [hue]; exact (((bs.set (by simp)).set (by simp)).set (by simp))
        have hnc : ∀ {aa : Option Addr} {nn cc : Nat} {ll : List Bool}, SlB wr aa nn cc ll → SlB ue aa nn cc ll := fun h => by
          rw [hue]
          exact h.but bs (not_bools) ((But.refl _ _).store.store.store)
        have heu : Ext w ue := by rw [hue]; exact ((HE.store (by show w.heap.size ≤ w.heap.size + 1 + 1; omega) _).store (by show w.heap.size ≤ w.heap.size + 1 + 1; omega) _).store (by show w.heap.size ≤ w.heap.size + 1 + 1; omega) _
        clear hue
        refine bodyPost_cells_tmp2 rfl rfl Try.underlying44 rfl (by kernel_rfl) (blk_three hbs) rfl rfl ?_
        rw [HR.out]
        exact ⟨_, _, _, rfl, hnc HSR.out, heu⟩
  · have HR : Hid (twoB (fun p q => p && q) x y n l x' y' n' l' = ((0, 0, []), 2)) := hidP (if_neg hd)
    generalize twoB (fun p q => p && q) x y n l x' y' n' l' = rr at *
    clear HL HL' H H'
    cases hm : mayR x y n
    · rw [hm] at HM
      clear hd hm HM'
      go_enter Try.func37, Try.ntmps37
      go_wp2_with fail
      refine absC (fun x1 hx1 => ?_)
      have hx : Ext w x1 := by rw [hx1]; exact ((((Ext.refl _).alloc _).alloc _).alloc _)
      have bp : Bl x1 (w.heap.size) #[.int .i64 x, .int .i64 y, .slice a n c] := by rw [hx1]; exact (((Bl.new (by simp)).alloc (by simp)).alloc (by simp))
      have bq : Bl x1 (w.heap.size + 1) #[.int .i64 x', .int .i64 y', .slice a' n' c'] := by rw [hx1]; exact ((Bl.new (by simp)).alloc (by simp))
      have bs : Bl x1 (w.heap.size + 1 + 1) #[.int .i64 0, .int .i64 0, .slice none 0 0] := by rw [hx1]; exact (Bl.new (by simp))
      have fs : Fz x1 (w.heap.size + 1 + 1) := by rw [hx1]; exact (Fz.new (by simp))
      have HE := hx
      clear hx
      clear hx1
      refine (HM.out _).mono ?_
      rintro e u1 ⟨rfl, hx⟩
      replace bp := Bl.ext hx bp (Nat.succ_pos _)
      replace bq := Bl.ext hx bq (Nat.succ_pos _)
      replace fs := Fz.ext hx fs bs (Nat.succ_pos _)
      replace bs := Bl.ext hx bs (Nat.succ_pos _)
      replace HE := HE.trans hx
      clear hx
      go_wp2_with fail
      refine absB (fun ue hue => ?_)
      have hbs : Bl ue (w.heap.size + 1 + 1) #[.int .i64 0, .int .i64 0, .slice none 0 0] := by rw [hue]; exact (((bs.set (by simp)).set (by simp)).set (by simp))
      have hnc : ∀ {aa : Option Addr} {nn cc : Nat} {ll : List Bool}, SlB u1 aa nn cc ll → SlB ue aa nn cc ll := fun h => by
        rw [hue]
        exact h.but bs (not_bools) ((But.refl _ _).store.store.store)
      have heu : Ext w ue := by rw [hue]; exact ((HE.store (by show w.heap.size ≤ w.heap.size + 1 + 1; omega) _).store (by show w.heap.size ≤ w.heap.size + 1 + 1; omega) _).store (by show w.heap.size ≤ w.heap.size + 1 + 1; omega) _
      clear hue
      refine bodyPost_cells_tmp2 rfl rfl Try.underlying44 rfl (by kernel_rfl) (blk_three hbs) rfl rfl ?_
      rw [HR.out]
      exact ⟨none, 0, 0, rfl, SlK.nil 1 _, heu⟩
    · cases hm' : mayR x' y' n'
      · rw [hm] at HM
        rw [hm'] at HM'
        clear hd hm hm'
        go_enter Try.func37, Try.ntmps37
        go_wp2_with fail
        refine absC (fun x1 hx1 => ?_)
        have hx : Ext w x1 := by rw [hx1]; exact ((((Ext.refl _).alloc _).alloc _).alloc _)
        have bp : Bl x1 (w.heap.size) #[.int .i64 x, .int .i64 y, .slice a n c] := by rw [hx1]; exact (((Bl.new (by simp)).alloc (by simp)).alloc (by simp))
        have bq : Bl x1 (w.heap.size + 1) #[.int .i64 x', .int .i64 y', .slice a' n' c'] := by rw [hx1]; exact ((Bl.new (by simp)).alloc (by simp))
        have bs : Bl x1 (w.heap.size + 1 + 1) #[.int .i64 0, .int .i64 0, .slice none 0 0] := by rw [hx1]; exact (Bl.new (by simp))
        have fs : Fz x1 (w.heap.size + 1 + 1) := by rw [hx1]; exact (Fz.new (by simp))
        have HE := hx
        clear hx
        clear hx1
        refine (HM.out _).mono ?_
        rintro e u1 ⟨rfl, hx⟩
        replace bp := Bl.ext hx bp (Nat.succ_pos _)
        replace bq := Bl.ext hx bq (Nat.succ_pos _)
        replace fs := Fz.ext hx fs bs (Nat.succ_pos _)
        replace bs := Bl.ext hx bs (Nat.succ_pos _)
        replace HE := HE.trans hx
        clear hx
        go_wp2_with fail
        refine (HM'.out _).mono ?_
        rintro e u2 ⟨rfl, hx⟩
        replace bp := Bl.ext hx bp (Nat.succ_pos _)
        replace bq := Bl.ext hx bq (Nat.succ_pos _)
        replace fs := Fz.ext hx fs bs (Nat.succ_pos _)
        replace bs := Bl.ext hx bs (Nat.succ_pos _)
        replace HE := HE.trans hx
        clear hx
        go_wp2_with fail
        refine absB (fun ue hue => ?_)
        have hbs : Bl ue (w.heap.size + 1 + 1) #[.int .i64 0, .int .i64 0, .slice none 0 0] := by rw [hue]; exact (((bs.set (by simp)).set (by simp)).set (by simp))
        have hnc : ∀ {aa : Option Addr} {nn cc : Nat} {ll : List Bool}, SlB u2 aa nn cc ll → SlB ue aa nn cc ll := fun h => by
          rw [hue]
          exact h.but bs (not_bools) ((But.refl _ _).store.store.store)
        have heu : Ext w ue := by rw [hue]; exact ((HE.store (by show w.heap.size ≤ w.heap.size + 1 + 1; omega) _).store (by show w.heap.size ≤ w.heap.size + 1 + 1; omega) _).store (by show w.heap.size ≤ w.heap.size + 1 + 1; omega) _
        clear hue
        refine bodyPost_cells_tmp2 rfl rfl Try.underlying44 rfl (by kernel_rfl) (blk_three hbs) rfl rfl ?_
        rw [HR.out]
        exact ⟨none, 0, 0, rfl, SlK.nil 1 _, heu⟩
      · rw [hm] at HM
        rw [hm'] at HM'
        have hcs : x ≠ x' ∨ (x = x' ∧ y ≠ y') := by
          have : ¬ (x = x' ∧ y = y') := fun h => hd ⟨hm, hm', h.1, h.2⟩
          omega
        clear hd hm hm'
        rcases hcs with h1 | ⟨rfl, h1⟩
        · have hb : (x == x') = false := by simpa using h1
          go_enter Try.func37, Try.ntmps37
          go_wp2_with fail
          refine absC (fun x1 hx1 => ?_)
          have hx : Ext w x1 := by rw [hx1]; exact ((((Ext.refl _).alloc _).alloc _).alloc _)
          have bp : Bl x1 (w.heap.size) #[.int .i64 x, .int .i64 y, .slice a n c] := by rw [hx1]; exact (((Bl.new (by simp)).alloc (by simp)).alloc (by simp))
          have bq : Bl x1 (w.heap.size + 1) #[.int .i64 x', .int .i64 y', .slice a' n' c'] := by rw [hx1]; exact ((Bl.new (by simp)).alloc (by simp))
          have bs : Bl x1 (w.heap.size + 1 + 1) #[.int .i64 0, .int .i64 0, .slice none 0 0] := by rw [hx1]; exact (Bl.new (by simp))
          have fs : Fz x1 (w.heap.size + 1 + 1) := by rw [hx1]; exact (Fz.new (by simp))
          have HE := hx
          clear hx
          clear hx1
          refine (HM.out _).mono ?_
          rintro e u1 ⟨rfl, hx⟩
          replace bp := Bl.ext hx bp (Nat.succ_pos _)
          replace bq := Bl.ext hx bq (Nat.succ_pos _)
          replace fs := Fz.ext hx fs bs (Nat.succ_pos _)
          replace bs := Bl.ext hx bs (Nat.succ_pos _)
          replace HE := HE.trans hx
          clear hx
          go_wp2_with fail
          refine (HM'.out _).mono ?_
          rintro e u2 ⟨rfl, hx⟩
          replace bp := Bl.ext hx bp (Nat.succ_pos _)
          replace bq := Bl.ext hx bq (Nat.succ_pos _)
          replace fs := Fz.ext hx fs bs (Nat.succ_pos _)
          replace bs := Bl.ext hx bs (Nat.succ_pos _)
          replace HE := HE.trans hx
          clear hx
          go_wp2_with fail
          refine absB (fun ue hue => ?_)
          have hbs : Bl ue (w.heap.size + 1 + 1) #[.int .i64 0, .int .i64 0, .slice none 0 0] := by rw [hue]; exact (((bs.set (by simp)).set (by simp)).set (by simp))
          have hnc : ∀ {aa : Option Addr} {nn cc : Nat} {ll : List Bool}, SlB u2 aa nn cc ll → SlB ue aa nn cc ll := fun h => by
            rw [hue]
            exact h.but bs (not_bools) ((But.refl _ _).store.store.store)
          have heu : Ext w ue := by rw [hue]; exact ((HE.store (by show w.heap.size ≤ w.heap.size + 1 + 1; omega) _).store (by show w.heap.size ≤ w.heap.size + 1 + 1; omega) _).store (by show w.heap.size ≤ w.heap.size + 1 + 1; omega) _
          clear hue
          refine bodyPost_cells_tmp2 rfl rfl Try.underlying44 rfl (by kernel_rfl) (blk_three hbs) rfl rfl ?_
          rw [HR.out]
          exact ⟨none, 0, 0, rfl, SlK.nil 1 _, heu⟩
        · have hb : (y == y') = false := by simpa using h1
          go_enter Try.func37, Try.ntmps37
          go_wp2_with fail
          refine absC (fun x1 hx1 => ?_)
          have hx : Ext w x1 := by rw [hx1]; exact ((((Ext.refl _).alloc _).alloc _).alloc _)
          have bp : Bl x1 (w.heap.size) #[.int .i64 x, .int .i64 y, .slice a n c] := by rw [hx1]; exact (((Bl.new (by simp)).alloc (by simp)).alloc (by simp))
          have bq : Bl x1 (w.heap.size + 1) #[.int .i64 x, .int .i64 y', .slice a' n' c'] := by rw [hx1]; exact ((Bl.new (by simp)).alloc (by simp))
          have bs : Bl x1 (w.heap.size + 1 + 1) #[.int .i64 0, .int .i64 0, .slice none 0 0] := by rw [hx1]; exact (Bl.new (by simp))
          have fs : Fz x1 (w.heap.size + 1 + 1) := by rw [hx1]; exact (Fz.new (by simp))
          have HE := hx
          clear hx
          clear hx1
          refine (HM.out _).mono ?_
          rintro e u1 ⟨rfl, hx⟩
          replace bp := Bl.ext hx bp (Nat.succ_pos _)
          replace bq := Bl.ext hx bq (Nat.succ_pos _)
          replace fs := Fz.ext hx fs bs (Nat.succ_pos _)
          replace bs := Bl.ext hx bs (Nat.succ_pos _)
          replace HE := HE.trans hx
          clear hx
          go_wp2_with fail
          refine (HM'.out _).mono ?_
          rintro e u2 ⟨rfl, hx⟩
          replace bp := Bl.ext hx bp (Nat.succ_pos _)
          replace bq := Bl.ext hx bq (Nat.succ_pos _)
          replace fs := Fz.ext hx fs bs (Nat.succ_pos _)
          replace bs := Bl.ext hx bs (Nat.succ_pos _)
          replace HE := HE.trans hx
          clear hx
          go_wp2_with fail
          refine absB (fun ue hue => ?_)
          have hbs : Bl ue (w.heap.size + 1 + 1) #[.int .i64 0, .int .i64 0, .slice none 0 0] := by rw [hue]; exact (((bs.set (by simp)).set (by simp)).set (by simp))
          have hnc : ∀ {aa : Option Addr} {nn cc : Nat} {ll : List Bool}, SlB u2 aa nn cc ll → SlB ue aa nn cc ll := fun h => by
            rw [hue]
            exact h.but bs (not_bools) ((But.refl _ _).store.store.store)
          have heu : Ext w ue := by rw [hue]; exact ((HE.store (by show w.heap.size ≤ w.heap.size + 1 + 1; omega) _).store (by show w.heap.size ≤ w.heap.size + 1 + 1; omega) _).store (by show w.heap.size ≤ w.heap.size + 1 + 1; omega) _
          clear hue
          refine bodyPost_cells_tmp2 rfl rfl Try.underlying44 rfl (by kernel_rfl) (blk_three hbs) rfl rfl ?_
          rw [HR.out]
          exact ⟨none, 0, 0, rfl, SlK.nil 1 _, heu⟩

set_option maxRecDepth 100000 in
set_option maxHeartbeats 8000000 in
theorem e_Two1 (x y x' y' : Int) (a a' : Option Addr) (n c n' c' : Nat) (l l' : List Bool) (w : World) (h : SlB w a n c l) (h' : SlB w a' n' c' l') :
    Calls Try.prog 37 #[rst x y a n c, rst x' y' a' n' c', .int .i64 1] w (RetBE w (twoB (fun p q => p || q) x y n l x' y' n' l')) := by
  have HL := hidP h.len; have HL' := hidP h'.len
  have H := hidP h; have H' := hidP h'
  clear h h'
  have HM := hidP (fun u => e_May x y a n c u)
  have HM' := hidP (fun u => e_May x' y' a' n' c' u)
  by_cases hd : mayR x y n = true ∧ mayR x' y' n' = true ∧ x = x' ∧ y = y'
  · obtain ⟨hm, hm', rfl, rfl⟩ := hd
    have HR : Hid (twoB (fun p q => p || q) x y n l x y n' l' = ((x, y, List.zipWith (fun p q => p || q) l l'), 0)) := hidP (if_pos ⟨hm, hm', rfl, rfl⟩)
    rw [hm] at HM
    rw [hm'] at HM'
    have hmm := of_decide_eq_true hm
    have hmm' := of_decide_eq_true hm'
    obtain ⟨m1, m2, m3, m4, m5⟩ := hmm
    have hbx := mul_box m1 m2 m3 m4
    obtain rfl : n = n' := by have := hmm'.2.2.2.2; omega
    have hn4 : n ≤ 4096 := by omega
    have HZ := hidP (fun j hj => zip_step (fun p q => p || q) l l' n j HL.out HL'.out hj)
    have HZ0 := (HZ.out 0 (by omega)).1
    clear hm hm' hmm' m5 hbx
    generalize twoB (fun p q => p || q) x y n l x y n l' = rr at *
    generalize List.zipWith (fun p q => p || q) l l' = R at *
    go_enter Try.func37, Try.ntmps37
    go_wp2_with fail
    refine absC (fun x1 hx1 => ?_)
    have hx : Ext w x1 := by rw [hx1]; exact ((((Ext.refl _).alloc _).alloc _).alloc _)
    have bp : Bl x1 (w.heap.size) #[.int .i64 x, .int .i64 y, .slice a n c] := by rw [hx1]; exact (((Bl.new (by simp)).alloc (by simp)).alloc (by simp))
    have bq : Bl x1 (w.heap.size + 1) #[.int .i64 x, .int .i64 y, .slice a' n c'] := by rw [hx1]; exact ((Bl.new (by simp)).alloc (by simp))
    have bs : Bl x1 (w.heap.size + 1 + 1) #[.int .i64 0, .int .i64 0, .slice none 0 0] := by rw [hx1]; exact (Bl.new (by simp))
    have fs : Fz x1 (w.heap.size + 1 + 1) := by rw [hx1]; exact (Fz.new (by simp))
    have HE := hx
    clear hx
    clear hx1
    refine (HM.out _).mono ?_
    rintro e u1 ⟨rfl, hx⟩
    replace bp := Bl.ext hx bp (Nat.succ_pos _)
    replace bq := Bl.ext hx bq (Nat.succ_pos _)
    replace fs := Fz.ext hx fs bs (Nat.succ_pos _)
    replace bs := Bl.ext hx bs (Nat.succ_pos _)
    replace HE := HE.trans hx
    clear hx
    go_wp2_with fail
    refine (HM'.out _).mono ?_
    rintro e u2 ⟨rfl, hx⟩
    replace bp := Bl.ext hx bp (Nat.succ_pos _)
    replace bq := Bl.ext hx bq (Nat.succ_pos _)
    replace fs := Fz.ext hx fs bs (Nat.succ_pos _)
    replace bs := Bl.ext hx bs (Nat.succ_pos _)
    replace HE := HE.trans hx
    clear hx
    have lpx := bp.lt (Nat.succ_pos _); have lqx := bq.lt (Nat.succ_pos _); have lsx := bs.lt (Nat.succ_pos _)
    go_upto_region 4 with fail
    refine absW (fun x2 hx2 => ?_)
    have hx : Ext u2 x2 := by rw [hx2]; exact ((Ext.refl _).alloc _)
    have bt : Bl x2 (u2.heap.size) #[.int .i64 x, .int .i64 y, .slice none 0 0] := by rw [hx2]; exact (Bl.new (by simp))
    have ft : Fz x2 (u2.heap.size) := by rw [hx2]; exact (Fz.new (by simp))
    replace bp := Bl.ext hx bp (Nat.succ_pos _)
    replace bq := Bl.ext hx bq (Nat.succ_pos _)
    replace fs := Fz.ext hx fs bs (Nat.succ_pos _)
    replace bs := Bl.ext hx bs (Nat.succ_pos _)
    replace HE := HE.trans hx
    clear hx
    clear hx2
    generalize u2.heap.size = ga at *
    have hB : ga + 1 ≤ x2.heap.size := by have := bt.lt (Nat.succ_pos _); omega
    have hz0 : x2.ownsRow (ga + 1) 4 1 (.slice none 0 0) 0 (bools (R.take 0)) := World.ownsRow_nil _ _ _ _
    go_wp2_with fail
    go_loopw [9] (fun iv wr => ∃ (j : Nat) (v : Value), j ≤ n ∧ iv = .int .i64 (j : Int) ∧ wr.ownsRow (ga + 1) 4 1 v j (bools (R.take j)) ∧ Bl wr ga #[.int .i64 x, .int .i64 y, v] ∧ Fz wr ga ∧ Bl wr w.heap.size #[.int .i64 x, .int .i64 y, .slice a n c] ∧ Bl wr (w.heap.size + 1) #[.int .i64 x, .int .i64 y, .slice a' n c'] ∧ Bl wr (w.heap.size + 1 + 1) #[.int .i64 0, .int .i64 0, .slice none 0 0] ∧ Fz wr (w.heap.size + 1 + 1) ∧ ga + 1 ≤ wr.heap.size ∧ Ext w wr) (fun iv _ => n - (intOf iv).toNat)
    case atStart => exact ⟨0, _, by omega, rfl, hz0, bt, ft, bp, bq, bs, fs, hB, HE⟩
    case round =>
      clear hz0 bt ft bp bq bs fs hB HE
      obtain ⟨j, v, hj, rfl, hown, bt, ft, bp, bq, bs, fs, hB, HE⟩ := hrel
      by_cases hlt : j < n
      · have hlt0 := hlt
        obtain ⟨g, off, rfl, hc⟩ := (H.out.ext HE).at (by omega)
        obtain ⟨g', off', rfl, hc'⟩ := (H'.out.ext HE).at (by omega)
        have h0 := hc j (by rw [HL.out]; exact hlt)
        have k0 := hc' j (by rw [HL'.out]; exact hlt)
        obtain ⟨hjR, hz⟩ := (HZ.out j hlt).2
        have hst := List.take_succ_eq_append_getElem hjR
        rw [hz] at hst
        have hst2 := congrArg bools hst
        rw [bools_append] at hst2
        clear hc hc' hz hst
        generalize l[j]'(by rw [HL.out]; exact hlt) = p at *
        generalize l'[j]'(by rw [HL'.out]; exact hlt) = q at *
        cases p
        · cases q
          · have HST : Hid (bools (R.take (j + 1)) = bools (R.take j) ++ [.bool false]) := hidP hst2
            clear hst2
            go_wp2_with (first | (at_builtin; refine wpList_appB T_bool rfl _ _ rfl hown hB #[.bool false] rfl (ends_bool _) rfl rfl (by omega) (by omega) ?_; intro v2 w2 hown2 hlow; obtain ⟨a2, c2, rfl, hs2⟩ := SlK.of_owns hown2; have bt2 := Bl.lowB hlow bt (by omega); have ft2 := Fz.lowB hlow ft (by omega)))
            have bs2 := Bl.lowB hlow bs (by omega)
            have fs2 := Fz.lowB hlow fs (by omega)
            have bp2 := Bl.lowB hlow bp (by omega); have bq2 := Bl.lowB hlow bq (by omega)
            have hb2 : But w2 (w2.setCell ⟨ga, 2, none⟩ (.slice a2 (j + 1) c2)) ga := (But.refl _ _).store
            go_roundw
            case rel =>
              refine ⟨j + 1, _, by omega, by go_num, ?_, bt2.set (by simp), ft2.set, hb2.bl bp2 (Nat.succ_pos _) (by omega), hb2.bl bq2 (Nat.succ_pos _) (by omega), hb2.bl bs2 (Nat.succ_pos _) (by omega), hb2.fz fs2 bs2 (Nat.succ_pos _) (by omega), Nat.le_trans (Nat.le_trans hB hlow.size) hb2.1, (Below.trans HE (hlow.mono (by omega))).setCell (by show w.heap.size ≤ ga; omega) _⟩
              rw [HST.out]
              exact hb2.rowB hown2 (by omega)
            case measure => simp only [intOf]; omega
          · have HST : Hid (bools (R.take (j + 1)) = bools (R.take j) ++ [.bool true]) := hidP hst2
            clear hst2
            go_wp2_with (first | (at_builtin; refine wpList_appB T_bool rfl _ _ rfl hown hB #[.bool true] rfl (ends_bool _) rfl rfl (by omega) (by omega) ?_; intro v2 w2 hown2 hlow; obtain ⟨a2, c2, rfl, hs2⟩ := SlK.of_owns hown2; have bt2 := Bl.lowB hlow bt (by omega); have ft2 := Fz.lowB hlow ft (by omega)))
            have bs2 := Bl.lowB hlow bs (by omega)
            have fs2 := Fz.lowB hlow fs (by omega)
            have bp2 := Bl.lowB hlow bp (by omega); have bq2 := Bl.lowB hlow bq (by omega)
            have hb2 : But w2 (w2.setCell ⟨ga, 2, none⟩ (.slice a2 (j + 1) c2)) ga := (But.refl _ _).store
            go_roundw
            case rel =>
              refine ⟨j + 1, _, by omega, by go_num, ?_, bt2.set (by simp), ft2.set, hb2.bl bp2 (Nat.succ_pos _) (by omega), hb2.bl bq2 (Nat.succ_pos _) (by omega), hb2.bl bs2 (Nat.succ_pos _) (by omega), hb2.fz fs2 bs2 (Nat.succ_pos _) (by omega), Nat.le_trans (Nat.le_trans hB hlow.size) hb2.1, (Below.trans HE (hlow.mono (by omega))).setCell (by show w.heap.size ≤ ga; omega) _⟩
              rw [HST.out]
              exact hb2.rowB hown2 (by omega)
            case measure => simp only [intOf]; omega
        · cases q
          · have HST : Hid (bools (R.take (j + 1)) = bools (R.take j) ++ [.bool true]) := hidP hst2
            clear hst2
            go_wp2_with (first | (at_builtin; refine wpList_appB T_bool rfl _ _ rfl hown hB #[.bool true] rfl (ends_bool _) rfl rfl (by omega) (by omega) ?_; intro v2 w2 hown2 hlow; obtain ⟨a2, c2, rfl, hs2⟩ := SlK.of_owns hown2; have bt2 := Bl.lowB hlow bt (by omega); have ft2 := Fz.lowB hlow ft (by omega)))
            have bs2 := Bl.lowB hlow bs (by omega)
            have fs2 := Fz.lowB hlow fs (by omega)
            have bp2 := Bl.lowB hlow bp (by omega); have bq2 := Bl.lowB hlow bq (by omega)
            have hb2 : But w2 (w2.setCell ⟨ga, 2, none⟩ (.slice a2 (j + 1) c2)) ga := (But.refl _ _).store
            go_roundw
            case rel =>
              refine ⟨j + 1, _, by omega, by go_num, ?_, bt2.set (by simp), ft2.set, hb2.bl bp2 (Nat.succ_pos _) (by omega), hb2.bl bq2 (Nat.succ_pos _) (by omega), hb2.bl bs2 (Nat.succ_pos _) (by omega), hb2.fz fs2 bs2 (Nat.succ_pos _) (by omega), Nat.le_trans (Nat.le_trans hB hlow.size) hb2.1, (Below.trans HE (hlow.mono (by omega))).setCell (by show w.heap.size ≤ ga; omega) _⟩
              rw [HST.out]
              exact hb2.rowB hown2 (by omega)
            case measure => simp only [intOf]; omega
          · have HST : Hid (bools (R.take (j + 1)) = bools (R.take j) ++ [.bool true]) := hidP hst2
            clear hst2
            go_wp2_with (first | (at_builtin; refine wpList_appB T_bool rfl _ _ rfl hown hB #[.bool true] rfl (ends_bool _) rfl rfl (by omega) (by omega) ?_; intro v2 w2 hown2 hlow; obtain ⟨a2, c2, rfl, hs2⟩ := SlK.of_owns hown2; have bt2 := Bl.lowB hlow bt (by omega); have ft2 := Fz.lowB hlow ft (by omega)))
            have bs2 := Bl.lowB hlow bs (by omega)
            have fs2 := Fz.lowB hlow fs (by omega)
            have bp2 := Bl.lowB hlow bp (by omega); have bq2 := Bl.lowB hlow bq (by omega)
            have hb2 : But w2 (w2.setCell ⟨ga, 2, none⟩ (.slice a2 (j + 1) c2)) ga := (But.refl _ _).store
            go_roundw
            case rel =>
              refine ⟨j + 1, _, by omega, by go_num, ?_, bt2.set (by simp), ft2.set, hb2.bl bp2 (Nat.succ_pos _) (by omega), hb2.bl bq2 (Nat.succ_pos _) (by omega), hb2.bl bs2 (Nat.succ_pos _) (by omega), hb2.fz fs2 bs2 (Nat.succ_pos _) (by omega), Nat.le_trans (Nat.le_trans hB hlow.size) hb2.1, (Below.trans HE (hlow.mono (by omega))).setCell (by show w.heap.size ≤ ga; omega) _⟩
              rw [HST.out]
              exact hb2.rowB hown2 (by omega)
            case measure => simp only [intOf]; omega
      · obtain rfl : j = n := by omega
        obtain ⟨a2, c2, rfl, hs2⟩ := SlK.of_owns hown
        rw [List.take_of_length_le (by omega)] at hs2
        have HSR : Hid (SlB wr a2 j c2 R) := hidP hs2
        clear hs2 hown
        go_wp2_with fail
        refine absB (fun ue hue => ?_)
        have hbs : Bl ue (w.heap.size + 1 + 1) #[.int .i64 x, .int .i64 y, .slice a2 j c2] := by rw [hue]; exact (((bs.set (by simp)).set (by simp)).set (by simp))
        have hnc : ∀ {aa : Option Addr} {nn cc : Nat} {ll : List Bool}, SlB wr aa nn cc ll → SlB ue aa nn cc ll := fun h => by
          rw [hue]
          exact h.but bs (not_bools) ((But.refl _ _).store.store.store)
        have heu : Ext w ue := by rw [hue]; exact ((HE.store (by show w.heap.size ≤ w.heap.size + 1 + 1; omega) _).store (by show w.heap.size ≤ w.heap.size + 1 + 1; omega) _).store (by show w.heap.size ≤ w.heap.size + 1 + 1; omega) _
        clear hue
        refine bodyPost_cells_tmp2 rfl rfl Try.underlying44 rfl (by kernel_rfl) (blk_three hbs) rfl rfl ?_
        rw [HR.out]
        exact ⟨_, _, _, rfl, hnc HSR.out, heu⟩
  · have HR : Hid (twoB (fun p q => p || q) x y n l x' y' n' l' = ((0, 0, []), 2)) := hidP (if_neg hd)
    generalize twoB (fun p q => p || q) x y n l x' y' n' l' = rr at *
    clear HL HL' H H'
    cases hm : mayR x y n
    · rw [hm] at HM
      clear hd hm HM'
      go_enter Try.func37, Try.ntmps37
      go_wp2_with fail
      refine absC (fun x1 hx1 => ?_)
      have hx : Ext w x1 := by rw [hx1]; exact ((((Ext.refl _).alloc _).alloc _).alloc _)
      have bp : Bl x1 (w.heap.size) #[.int .i64 x, .int .i64 y, .slice a n c] := by rw [hx1]; exact (((Bl.new (by simp)).alloc (by simp)).alloc (by simp))
      have bq : Bl x1 (w.heap.size + 1) #[.int .i64 x', .int .i64 y', .slice a' n' c'] := by rw [hx1]; exact ((Bl.new (by simp)).alloc (by simp))
      have bs : Bl x1 (w.heap.size + 1 + 1) #[.int .i64 0, .int .i64 0, .slice none 0 0] := by rw [hx1]; exact (Bl.new (by simp))
      have fs : Fz x1 (w.heap.size + 1 + 1) := by rw [hx1]; exact (Fz.new (by simp))
      have HE := hx
      clear hx
      clear hx1
      refine (HM.out _).mono ?_
      rintro e u1 ⟨rfl, hx⟩
      replace bp := Bl.ext hx bp (Nat.succ_pos _)
      replace bq := Bl.ext hx bq (Nat.succ_pos _)
      replace fs := Fz.ext hx fs bs (Nat.succ_pos _)
      replace bs := Bl.ext hx bs (Nat.succ_pos _)
      replace HE := HE.trans hx
      clear hx
      go_wp2_with fail
      refine absB (fun ue hue => ?_)
      have hbs : Bl ue (w.heap.size + 1 + 1) #[.int .i64 0, .int .i64 0, .slice none 0 0] := by rw [hue]; exact (((bs.set (by simp)).set (by simp)).set (by simp))
      have hnc : ∀ {aa : Option Addr} {nn cc : Nat} {ll : List Bool}, SlB u1 aa nn cc ll → SlB ue aa nn cc ll := fun h => by
        rw [hue]
        exact h.but bs (not_bools) ((But.refl _ _).store.store.store)
      have heu : Ext w ue := by rw [hue]; exact ((HE.store (by show w.heap.size ≤ w.heap.size + 1 + 1; omega) _).store (by show w.heap.size ≤ w.heap.size + 1 + 1; omega) _).store (by show w.heap.size ≤ w.heap.size + 1 + 1; omega) _
      clear hue
      refine bodyPost_cells_tmp2 rfl rfl Try.underlying44 rfl (by kernel_rfl) (blk_three hbs) rfl rfl ?_
      rw [HR.out]
      exact ⟨none, 0, 0, rfl, SlK.nil 1 _, heu⟩
    · cases hm' : mayR x' y' n'
      · rw [hm] at HM
        rw [hm'] at HM'
        clear hd hm hm'
        go_enter Try.func37, Try.ntmps37
        go_wp2_with fail
        refine absC (fun x1 hx1 => ?_)
        have hx : Ext w x1 := by rw [hx1]; exact ((((Ext.refl _).alloc _).alloc _).alloc _)
        have bp : Bl x1 (w.heap.size) #[.int .i64 x, .int .i64 y, .slice a n c] := by rw [hx1]; exact (((Bl.new (by simp)).alloc (by simp)).alloc (by simp))
        have bq : Bl x1 (w.heap.size + 1) #[.int .i64 x', .int .i64 y', .slice a' n' c'] := by rw [hx1]; exact ((Bl.new (by simp)).alloc (by simp))
        have bs : Bl x1 (w.heap.size + 1 + 1) #[.int .i64 0, .int .i64 0, .slice none 0 0] := by rw [hx1]; exact (Bl.new (by simp))
        have fs : Fz x1 (w.heap.size + 1 + 1) := by rw [hx1]; exact (Fz.new (by simp))
        have HE := hx
        clear hx
        clear hx1
        refine (HM.out _).mono ?_
        rintro e u1 ⟨rfl, hx⟩
        replace bp := Bl.ext hx bp (Nat.succ_pos _)
        replace bq := Bl.ext hx bq (Nat.succ_pos _)
        replace fs := Fz.ext hx fs bs (Nat.succ_pos _)
        replace bs := Bl.ext hx bs (Nat.succ_pos _)
        replace HE := HE.trans hx
        clear hx
        go_wp2_with fail
        refine (HM'.out _).mono ?_
        rintro e u2 ⟨rfl, hx⟩
        replace bp := Bl.ext hx bp (Nat.succ_pos _)
        replace bq := Bl.ext hx bq (Nat.succ_pos _)
        replace fs := Fz.ext hx fs bs (Nat.succ_pos _)
        replace bs := Bl.ext hx bs (Nat.succ_pos _)
        replace HE := HE.trans hx
        clear hx
        go_wp2_with fail
        refine absB (fun ue hue => ?_)
        have hbs : Bl ue (w.heap.size + 1 + 1) #[.int .i64 0, .int .i64 0, .slice none 0 0] := by rw [hue]; exact (((bs.set (by simp)).set (by simp)).set (by simp))
        have hnc : ∀ {aa : Option Addr} {nn cc : Nat} {ll : List Bool}, SlB u2 aa nn cc ll → SlB ue aa nn cc ll := fun h => by
          rw [hue]
          exact h.but bs (not_bools) ((But.refl _ _).store.store.store)
        have heu : Ext w ue := by rw [hue]; exact ((HE.store (by show w.heap.size ≤ w.heap.size + 1 + 1; omega) _).store (by show w.heap.size ≤ w.heap.size + 1 + 1; omega) _).store (by show w.heap.size ≤ w.heap.size + 1 + 1; omega) _
        clear hue
        refine bodyPost_cells_tmp2 rfl rfl Try.underlying44 rfl (by kernel_rfl) (blk_three hbs) rfl rfl ?_
        rw [HR.out]
        exact ⟨none, 0, 0, rfl, SlK.nil 1 _, heu⟩
      · rw [hm] at HM
        rw [hm'] at HM'
        have hcs : x ≠ x' ∨ (x = x' ∧ y ≠ y') := by
          have : ¬ (x = x' ∧ y = y') := fun h => hd ⟨hm, hm', h.1, h.2⟩
          omega
        clear hd hm hm'
        rcases hcs with h1 | ⟨rfl, h1⟩
        · have hb : (x == x') = false := by simpa using h1
          go_enter Try.func37, Try.ntmps37
          go_wp2_with fail
          refine absC (fun x1 hx1 => ?_)
          have hx : Ext w x1 := by rw [hx1]; exact ((((Ext.refl _).alloc _).alloc _).alloc _)
          have bp : Bl x1 (w.heap.size) #[.int .i64 x, .int .i64 y, .slice a n c] := by rw [hx1]; exact (((Bl.new (by simp)).alloc (by simp)).alloc (by simp))
          have bq : Bl x1 (w.heap.size + 1) #[.int .i64 x', .int .i64 y', .slice a' n' c'] := by rw [hx1]; exact ((Bl.new (by simp)).alloc (by simp))
          have bs : Bl x1 (w.heap.size + 1 + 1) #[.int .i64 0, .int .i64 0, .slice none 0 0] := by rw [hx1]; exact (Bl.new (by simp))
          have fs : Fz x1 (w.heap.size + 1 + 1) := by rw [hx1]; exact (Fz.new (by simp))
          have HE := hx
          clear hx
          clear hx1
          refine (HM.out _).mono ?_
          rintro e u1 ⟨rfl, hx⟩
          replace bp := Bl.ext hx bp (Nat.succ_pos _)
          replace bq := Bl.ext hx bq (Nat.succ_pos _)
          replace fs := Fz.ext hx fs bs (Nat.succ_pos _)
          replace bs := Bl.ext hx bs (Nat.succ_pos _)
          replace HE := HE.trans hx
          clear hx
          go_wp2_with fail
          refine (HM'.out _).mono ?_
          rintro e u2 ⟨rfl, hx⟩
          replace bp := Bl.ext hx bp (Nat.succ_pos _)
          replace bq := Bl.ext hx bq (Nat.succ_pos _)
          replace fs := Fz.ext hx fs bs (Nat.succ_pos _)
          replace bs := Bl.ext hx bs (Nat.succ_pos _)
          replace HE := HE.trans hx
          clear hx
          go_wp2_with fail
          refine absB (fun ue hue => ?_)
          have hbs : Bl ue (w.heap.size + 1 + 1) #[.int .i64 0, .int .i64 0, .slice none 0 0] := by rw [hue]; exact (((bs.set (by simp)).set (by simp)).set (by simp))
          have hnc : ∀ {aa : Option Addr} {nn cc : Nat} {ll : List Bool}, SlB u2 aa nn cc ll → SlB ue aa nn cc ll := fun h => by
            rw [hue]
            exact h.but bs (not_bools) ((But.refl _ _).store.store.store)
          have heu : Ext w ue := by rw [hue]; exact ((HE.store (by show w.heap.size ≤ w.heap.size + 1 + 1; omega) _).store (by show w.heap.size ≤ w.heap.size + 1 + 1; omega) _).store (by show w.heap.size ≤ w.heap.size + 1 + 1; omega) _
          clear hue
          refine bodyPost_cells_tmp2 rfl rfl Try.underlying44 rfl (by kernel_rfl) (blk_three hbs) rfl rfl ?_
          rw [HR.out]
          exact ⟨none, 0, 0, rfl, SlK.nil 1 _, heu⟩
        · have hb : (y == y') = false := by simpa using h1
          go_enter Try.func37, Try.ntmps37
          go_wp2_with fail
          refine absC (fun x1 hx1 => ?_)
          have hx : Ext w x1 := by rw [hx1]; exact ((((Ext.refl _).alloc _).alloc _).alloc _)
          have bp : Bl x1 (w.heap.size) #[.int .i64 x, .int .i64 y, .slice a n c] := by rw [hx1]; exact (((Bl.new (by simp)).alloc (by simp)).alloc (by simp))
          have bq : Bl x1 (w.heap.size + 1) #[.int .i64 x, .int .i64 y', .slice a' n' c'] := by rw [hx1]; exact ((Bl.new (by simp)).alloc (by simp))
          have bs : Bl x1 (w.heap.size + 1 + 1) #[.int .i64 0, .int .i64 0, .slice none 0 0] := by rw [hx1]; exact (Bl.new (by simp))
          have fs : Fz x1 (w.heap.size + 1 + 1) := by rw [hx1]; exact (Fz.new (by simp))
          have HE := hx
          clear hx
          clear hx1
          refine (HM.out _).mono ?_
          rintro e u1 ⟨rfl, hx⟩
          replace bp := Bl.ext hx bp (Nat.succ_pos _)
          replace bq := Bl.ext hx bq (Nat.succ_pos _)
          replace fs := Fz.ext hx fs bs (Nat.succ_pos _)
          replace bs := Bl.ext hx bs (Nat.succ_pos _)
          replace HE := HE.trans hx
          clear hx
          go_wp2_with fail
          refine (HM'.out _).mono ?_
          rintro e u2 ⟨rfl, hx⟩
          replace bp := Bl.ext hx bp (Nat.succ_pos _)
          replace bq := Bl.ext hx bq (Nat.succ_pos _)
          replace fs := Fz.ext hx fs bs (Nat.succ_pos _)
          replace bs := Bl.ext hx bs (Nat.succ_pos _)
          replace HE := HE.trans hx
          clear hx
          go_wp2_with fail
          refine absB (fun ue hue => ?_)
          have hbs : Bl ue (w.heap.size + 1 + 1) #[.int .i64 0, .int .i64 0, .slice none 0 0] := by rw [hue]; exact (((bs.set (by simp)).set (by simp)).set (by simp))
          have hnc : ∀ {aa : Option Addr} {nn cc : Nat} {ll : List Bool}, SlB u2 aa nn cc ll → SlB ue aa nn cc ll := fun h => by
            rw [hue]
            exact h.but bs (not_bools) ((But.refl _ _).store.store.store)
          have heu : Ext w ue := by rw [hue]; exact ((HE.store (by show w.heap.size ≤ w.heap.size + 1 + 1; omega) _).store (by show w.heap.size ≤ w.heap.size + 1 + 1; omega) _).store (by show w.heap.size ≤ w.heap.size + 1 + 1; omega) _
          clear hue
          refine bodyPost_cells_tmp2 rfl rfl Try.underlying44 rfl (by kernel_rfl) (blk_three hbs) rfl rfl ?_
          rw [HR.out]
          exact ⟨none, 0, 0, rfl, SlK.nil 1 _, heu⟩

set_option maxRecDepth 100000 in
set_option maxHeartbeats 8000000 in
theorem e_Two2 (x y x' y' : Int) (a a' : Option Addr) (n c n' c' : Nat) (l l' : List Bool) (w : World) (h : SlB w a n c l) (h' : SlB w a' n' c' l') :
    Calls Try.prog 37 #[rst x y a n c, rst x' y' a' n' c', .int .i64 2] w (RetBE w (twoB (fun p q => p && !q) x y n l x' y' n' l')) := by
  have HL := hidP h.len; have HL' := hidP h'.len
  have H := hidP h; have H' := hidP h'
  clear h h'
  have HM := hidP (fun u => e_May x y a n c u)
  have HM' := hidP (fun u => e_May x' y' a' n' c' u)
  by_cases hd : mayR x y n = true ∧ mayR x' y' n' = true ∧ x = x' ∧ y = y'
  · obtain ⟨hm, hm', rfl, rfl⟩ := hd
    have HR : Hid (twoB (fun p q => p && !q) x y n l x y n' l' = ((x, y, List.zipWith (fun p q => p && !q) l l'), 0)) := hidP (if_pos ⟨hm, hm', rfl, rfl⟩)
    rw [hm] at HM
    rw [hm'] at HM'
    have hmm := of_decide_eq_true hm
    have hmm' := of_decide_eq_true hm'
    obtain ⟨m1, m2, m3, m4, m5⟩ := hmm
    have hbx := mul_box m1 m2 m3 m4
    obtain rfl : n = n' := by have := hmm'.2.2.2.2; omega
    have hn4 : n ≤ 4096 := by omega
    have HZ := hidP (fun j hj => zip_step (fun p q => p && !q) l l' n j HL.out HL'.out hj)
    have HZ0 := (HZ.out 0 (by omega)).1
    clear hm hm' hmm' m5 hbx
    generalize twoB (fun p q => p && !q) x y n l x y n l' = rr at *
    generalize List.zipWith (fun p q => p && !q) l l' = R at *
    go_enter Try.func37, Try.ntmps37
    go_wp2_with fail
    refine absC (fun x1 hx1 => ?_)
    have hx : Ext w x1 := by rw [hx1]; exact ((((Ext.refl _).alloc _).alloc _).alloc _)
    have bp : Bl x1 (w.heap.size) #[.int .i64 x, .int .i64 y, .slice a n c] := by rw [hx1]; exact (((Bl.new (by simp)).alloc (by simp)).alloc (by simp))
    have bq : Bl x1 (w.heap.size + 1) #[.int .i64 x, .int .i64 y, .slice a' n c'] := by rw [hx1]; exact ((Bl.new (by simp)).alloc (by simp))
    have bs : Bl x1 (w.heap.size + 1 + 1) #[.int .i64 0, .int .i64 0, .slice none 0 0] := by rw [hx1]; exact (Bl.new (by simp))
    have fs : Fz x1 (w.heap.size + 1 + 1) := by rw [hx1]; exact (Fz.new (by simp))
    have HE := hx
    clear hx
    clear hx1
    refine (HM.out _).mono ?_
    rintro e u1 ⟨rfl, hx⟩
    replace bp := Bl.ext hx bp (Nat.succ_pos _)
    replace bq := Bl.ext hx bq (Nat.succ_pos _)
    replace fs := Fz.ext hx fs bs (Nat.succ_pos _)
    replace bs := Bl.ext hx bs (Nat.succ_pos _)
    replace HE := HE.trans hx
    clear hx
    go_wp2_with fail
    refine (HM'.out _).mono ?_
    rintro e u2 ⟨rfl, hx⟩
    replace bp := Bl.ext hx bp (Nat.succ_pos _)
    replace bq := Bl.ext hx bq (Nat.succ_pos _)
    replace fs := Fz.ext hx fs bs (Nat.succ_pos _)
    replace bs := Bl.ext hx bs (Nat.succ_pos _)
    replace HE := HE.trans hx
    clear hx
    have lpx := bp.lt (Nat.succ_pos _); have lqx := bq.lt (Nat.succ_pos _); have lsx := bs.lt (Nat.succ_pos _)
    go_upto_region 4 with fail
    refine absW (fun x2 hx2 => ?_)
    have hx : Ext u2 x2 := by rw [hx2]; exact ((Ext.refl _).alloc _)
    have bt : Bl x2 (u2.heap.size) #[.int .i64 x, .int .i64 y, .slice none 0 0] := by rw [hx2]; exact (Bl.new (by simp))
    have ft : Fz x2 (u2.heap.size) := by rw [hx2]; exact (Fz.new (by simp))
    replace bp := Bl.ext hx bp (Nat.succ_pos _)
    replace bq := Bl.ext hx bq (Nat.succ_pos _)
    replace fs := Fz.ext hx fs bs (Nat.succ_pos _)
    replace bs := Bl.ext hx bs (Nat.succ_pos _)
    replace HE := HE.trans hx
    clear hx
    clear hx2
    generalize u2.heap.size = ga at *
    have hB : ga + 1 ≤ x2.heap.size := by have := bt.lt (Nat.succ_pos _); omega
    have hz0 : x2.ownsRow (ga + 1) 4 1 (.slice none 0 0) 0 (bools (R.take 0)) := World.ownsRow_nil _ _ _ _
    go_wp2_with fail
    go_loopw [9] (fun iv wr => ∃ (j : Nat) (v : Value), j ≤ n ∧ iv = .int .i64 (j : Int) ∧ wr.ownsRow (ga + 1) 4 1 v j (bools (R.take j)) ∧ Bl wr ga #[.int .i64 x, .int .i64 y, v] ∧ Fz wr ga ∧ Bl wr w.heap.size #[.int .i64 x, .int .i64 y, .slice a n c] ∧ Bl wr (w.heap.size + 1) #[.int .i64 x, .int .i64 y, .slice a' n c'] ∧ Bl wr (w.heap.size + 1 + 1) #[.int .i64 0, .int .i64 0, .slice none 0 0] ∧ Fz wr (w.heap.size + 1 + 1) ∧ ga + 1 ≤ wr.heap.size ∧ Ext w wr) (fun iv _ => n - (intOf iv).toNat)
    case atStart => exact ⟨0, _, by omega, rfl, hz0, bt, ft, bp, bq, bs, fs, hB, HE⟩
    case round =>
      clear hz0 bt ft bp bq bs fs hB HE
      obtain ⟨j, v, hj, rfl, hown, bt, ft, bp, bq, bs, fs, hB, HE⟩ := hrel
      by_cases hlt : j < n
      · have hlt0 := hlt
        obtain ⟨g, off, rfl, hc⟩ := (H.out.ext HE).at (by omega)
        obtain ⟨g', off', rfl, hc'⟩ := (H'.out.ext HE).at (by omega)
        have h0 := hc j (by rw [HL.out]; exact hlt)
        have k0 := hc' j (by rw [HL'.out]; exact hlt)
        obtain ⟨hjR, hz⟩ := (HZ.out j hlt).2
        have hst := List.take_succ_eq_append_getElem hjR
        rw [hz] at hst
        have hst2 := congrArg bools hst
        rw [bools_append] at hst2
        clear hc hc' hz hst
        generalize l[j]'(by rw [HL.out]; exact hlt) = p at *
        generalize l'[j]'(by rw [HL'.out]; exact hlt) = q at *
        cases p
        · cases q
          · have HST : Hid (bools (R.take (j + 1)) = bools (R.take j) ++ [.bool false]) := hidP hst2
            clear hst2
            go_wp2_with (first | (at_builtin; refine wpList_appB T_bool rfl _ _ rfl hown hB #[.bool false] rfl (ends_bool _) rfl rfl (by omega) (by omega) ?_; intro v2 w2 hown2 hlow; obtain ⟨a2, c2, rfl, hs2⟩ := SlK.of_owns hown2; have bt2 := Bl.lowB hlow bt (by omega); have ft2 := Fz.lowB hlow ft (by omega)))
            have bs2 := Bl.lowB hlow bs (by omega)
            have fs2 := Fz.lowB hlow fs (by omega)
            have bp2 := Bl.lowB hlow bp (by omega); have bq2 := Bl.lowB hlow bq (by omega)
            have hb2 : But w2 (w2.setCell ⟨ga, 2, none⟩ (.slice a2 (j + 1) c2)) ga := (But.refl _ _).store
            go_roundw
            case rel =>
              refine ⟨j + 1, _, by omega, by go_num, ?_, bt2.set (by simp), ft2.set, hb2.bl bp2 (Nat.succ_pos _) (by omega), hb2.bl bq2 (Nat.succ_pos _) (by omega), hb2.bl bs2 (Nat.succ_pos _) (by omega), hb2.fz fs2 bs2 (Nat.succ_pos _) (by omega), Nat.le_trans (Nat.le_trans hB hlow.size) hb2.1, (Below.trans HE (hlow.mono (by omega))).setCell (by show w.heap.size ≤ ga; omega) _⟩
              rw [HST.out]
              exact hb2.rowB hown2 (by omega)
            case measure => simp only [intOf]; omega
          · have HST : Hid (bools (R.take (j + 1)) = bools (R.take j) ++ [.bool false]) := hidP hst2
            clear hst2
            go_wp2_with (first | (at_builtin; refine wpList_appB T_bool rfl _ _ rfl hown hB #[.bool false] rfl (ends_bool _) rfl rfl (by omega) (by omega) ?_; intro v2 w2 hown2 hlow; obtain ⟨a2, c2, rfl, hs2⟩ := SlK.of_owns hown2; have bt2 := Bl.lowB hlow bt (by omega); have ft2 := Fz.lowB hlow ft (by omega)))
            have bs2 := Bl.lowB hlow bs (by omega)
            have fs2 := Fz.lowB hlow fs (by omega)
            have bp2 := Bl.lowB hlow bp (by omega); have bq2 := Bl.lowB hlow bq (by omega)
            have hb2 : But w2 (w2.setCell ⟨ga, 2, none⟩ (.slice a2 (j + 1) c2)) ga := (But.refl _ _).store
            go_roundw
            case rel =>
              refine ⟨j + 1, _, by omega, by go_num, ?_, bt2.set (by simp), ft2.set, hb2.bl bp2 (Nat.succ_pos _) (by omega), hb2.bl bq2 (Nat.succ_pos _) (by omega), hb2.bl bs2 (Nat.succ_pos _) (by omega), hb2.fz fs2 bs2 (Nat.succ_pos _) (by omega), Nat.le_trans (Nat.le_trans hB hlow.size) hb2.1, (Below.trans HE (hlow.mono (by omega))).setCell (by show w.heap.size ≤ ga; omega) _⟩
              rw [HST.out]
              exact hb2.rowB hown2 (by omega)
            case measure => simp only [intOf]; omega
        · cases q
          · have HST : Hid (bools (R.take (j + 1)) = bools (R.take j) ++ [.bool true]) := hidP hst2
            clear hst2
            go_wp2_with (first | (at_builtin; refine wpList_appB T_bool rfl _ _ rfl hown hB #[.bool true] rfl (ends_bool _) rfl rfl (by omega) (by omega) ?_; intro v2 w2 hown2 hlow; obtain ⟨a2, c2, rfl, hs2⟩ := SlK.of_owns hown2; have bt2 := Bl.lowB hlow bt (by omega); have ft2 := Fz.lowB hlow ft (by omega)))
            have bs2 := Bl.lowB hlow bs (by omega)
            have fs2 := Fz.lowB hlow fs (by omega)
            have bp2 := Bl.lowB hlow bp (by omega); have bq2 := Bl.lowB hlow bq (by omega)
            have hb2 : But w2 (w2.setCell ⟨ga, 2, none⟩ (.slice a2 (j + 1) c2)) ga := (But.refl _ _).store
            go_roundw
            case rel =>
              refine ⟨j + 1, _, by omega, by go_num, ?_, bt2.set (by simp), ft2.set, hb2.bl bp2 (Nat.succ_pos _) (by omega), hb2.bl bq2 (Nat.succ_pos _) (by omega), hb2.bl bs2 (Nat.succ_pos _) (by omega), hb2.fz fs2 bs2 (Nat.succ_pos _) (by omega), Nat.le_trans (Nat.le_trans hB hlow.size) hb2.1, (Below.trans HE (hlow.mono (by omega))).setCell (by show w.heap.size ≤ ga; omega) _⟩
              rw [HST.out]
              exact hb2.rowB hown2 (by omega)
            case measure => simp only [intOf]; omega
          · have HST : Hid (bools (R.take (j + 1)) = bools (R.take j) ++ [.bool false]) := hidP hst2
            clear hst2
            go_wp2_with (first | (at_builtin; refine wpList_appB T_bool rfl _ _ rfl hown hB #[.bool false] rfl (ends_bool _) rfl rfl (by omega) (by omega) ?_; intro v2 w2 hown2 hlow; obtain ⟨a2, c2, rfl, hs2⟩ := SlK.of_owns hown2; have bt2 := Bl.lowB hlow bt (by omega); have ft2 := Fz.lowB hlow ft (by omega)))
            have bs2 := Bl.lowB hlow bs (by omega)
            have fs2 := Fz.lowB hlow fs (by omega)
            have bp2 := Bl.lowB hlow bp (by omega); have bq2 := Bl.lowB hlow bq (by omega)
            have hb2 : But w2 (w2.setCell ⟨ga, 2, none⟩ (.slice a2 (j + 1) c2)) ga := (But.refl _ _).store
            go_roundw
            case rel =>
              refine ⟨j + 1, _, by omega, by go_num, ?_, bt2.set (by simp), ft2.set, hb2.bl bp2 (Nat.succ_pos _) (by omega), hb2.bl bq2 (Nat.succ_pos _) (by omega), hb2.bl bs2 (Nat.succ_pos _) (by omega), hb2.fz fs2 bs2 (Nat.succ_pos _) (by omega), Nat.le_trans (Nat.le_trans hB hlow.size) hb2.1, (Below.trans HE (hlow.mono (by omega))).setCell (by show w.heap.size ≤ ga; omega) _⟩
              rw [HST.out]
              exact hb2.rowB hown2 (by omega)
            case measure => simp only [intOf]; omega
      · obtain rfl : j = n := by omega
        obtain ⟨a2, c2, rfl, hs2⟩ := SlK.of_owns hown
        rw [List.take_of_length_le (by omega)] at hs2
        have HSR : Hid (SlB wr a2 j c2 R) := hidP hs2
        clear hs2 hown
        go_wp2_with fail
        refine absB (fun ue hue => ?_)
        have hbs : Bl ue (w.heap.size + 1 + 1) #[.int .i64 x, .int .i64 y, .slice a2 j c2] := by rw [hue]; exact (((bs.set (by simp)).set (by simp)).set (by simp))
        have hnc : ∀ {aa : Option Addr} {nn cc : Nat} {ll : List Bool}, SlB wr aa nn cc ll → SlB ue aa nn cc ll := fun h => by
          rw [hue]
          exact h.but bs (not_bools) ((But.refl _ _).store.store.store)
        have heu : Ext w ue := by rw [hue]; exact ((HE.store (by show w.heap.size ≤ w.heap.size + 1 + 1; omega) _).store (by show w.heap.size ≤ w.heap.size + 1 + 1; omega) _).store (by show w.heap.size ≤ w.heap.size + 1 + 1; omega) _
        clear hue
        refine bodyPost_cells_tmp2 rfl rfl Try.underlying44 rfl (by kernel_rfl) (blk_three hbs) rfl rfl ?_
        rw [HR.out]
        exact ⟨_, _, _, rfl, hnc HSR.out, heu⟩
  · have HR : Hid (twoB (fun p q => p && !q) x y n l x' y' n' l' = ((0, 0, []), 2)) := hidP (if_neg hd)
    generalize twoB (fun p q => p && !q) x y n l x' y' n' l' = rr at *
    clear HL HL' H H'
    cases hm : mayR x y n
    · rw [hm] at HM
      clear hd hm HM'
      go_enter Try.func37, Try.ntmps37
      go_wp2_with fail
      refine absC (fun x1 hx1 => ?_)
      have hx : Ext w x1 := by rw [hx1]; exact ((((Ext.refl _).alloc _).alloc _).alloc _)
      have bp : Bl x1 (w.heap.size) #[.int .i64 x, .int .i64 y, .slice a n c] := by rw [hx1]; exact (((Bl.new (by simp)).alloc (by simp)).alloc (by simp))
      have bq : Bl x1 (w.heap.size + 1) #[.int .i64 x', .int .i64 y', .slice a' n' c'] := by rw [hx1]; exact ((Bl.new (by simp)).alloc (by simp))
      have bs : Bl x1 (w.heap.size + 1 + 1) #[.int .i64 0, .int .i64 0, .slice none 0 0] := by rw [hx1]; exact (Bl.new (by simp))
      have fs : Fz x1 (w.heap.size + 1 + 1) := by rw [hx1]; exact (Fz.new (by simp))
      have HE := hx
      clear hx
      clear hx1
      refine (HM.out _).mono ?_
      rintro e u1 ⟨rfl, hx⟩
      replace bp := Bl.ext hx bp (Nat.succ_pos _)
      replace bq := Bl.ext hx bq (Nat.succ_pos _)
      replace fs := Fz.ext hx fs bs (Nat.succ_pos _)
      replace bs := Bl.ext hx bs (Nat.succ_pos _)
      replace HE := HE.trans hx
      clear hx
      go_wp2_with fail
      refine absB (fun ue hue => ?_)
      have hbs : Bl ue (w.heap.size + 1 + 1) #[.int .i64 0, .int .i64 0, .slice none 0 0] := by rw [hue]; exact (((bs.set (by simp)).set (by simp)).set (by simp))
      have hnc : ∀ {aa : Option Addr} {nn cc : Nat} {ll : List Bool}, SlB u1 aa nn cc ll → SlB ue aa nn cc ll := fun h => by
        rw [hue]
        exact h.but bs (not_bools) ((But.refl _ _).store.store.store)
      have heu : Ext w ue := by rw [hue]; exact ((HE.store (by show w.heap.size ≤ w.heap.size + 1 + 1; omega) _).store (by show w.heap.size ≤ w.heap.size + 1 + 1; omega) _).store (by show w.heap.size ≤ w.heap.size + 1 + 1; omega) _
      clear hue
      refine bodyPost_cells_tmp2 rfl rfl Try.underlying44 rfl (by kernel_rfl) (blk_three hbs) rfl rfl ?_
      rw [HR.out]
      exact ⟨none, 0, 0, rfl, SlK.nil 1 _, heu⟩
    · cases hm' : mayR x' y' n'
      · rw [hm] at HM
        rw [hm'] at HM'
        clear hd hm hm'
        go_enter Try.func37, Try.ntmps37
        go_wp2_with fail
        refine absC (fun x1 hx1 => ?_)
        have hx : Ext w x1 := by rw [hx1]; exact ((((Ext.refl _).alloc _).alloc _).alloc _)
        have bp : Bl x1 (w.heap.size) #[.int .i64 x, .int .i64 y, .slice a n c] := by rw [hx1]; exact (((Bl.new (by simp)).alloc (by simp)).alloc (by simp))
        have bq : Bl x1 (w.heap.size + 1) #[.int .i64 x', .int .i64 y', .slice a' n' c'] := by rw [hx1]; exact ((Bl.new (by simp)).alloc (by simp))
        have bs : Bl x1 (w.heap.size + 1 + 1) #[.int .i64 0, .int .i64 0, .slice none 0 0] := by rw [hx1]; exact (Bl.new (by simp))
        have fs : Fz x1 (w.heap.size + 1 + 1) := by rw [hx1]; exact (Fz.new (by simp))
        have HE := hx
        clear hx
        clear hx1
        refine (HM.out _).mono ?_
        rintro e u1 ⟨rfl, hx⟩
        replace bp := Bl.ext hx bp (Nat.succ_pos _)
        replace bq := Bl.ext hx bq (Nat.succ_pos _)
        replace fs := Fz.ext hx fs bs (Nat.succ_pos _)
        replace bs := Bl.ext hx bs (Nat.succ_pos _)
        replace HE := HE.trans hx
        clear hx
        go_wp2_with fail
        refine (HM'.out _).mono ?_
        rintro e u2 ⟨rfl, hx⟩
        replace bp := Bl.ext hx bp (Nat.succ_pos _)
        replace bq := Bl.ext hx bq (Nat.succ_pos _)
        replace fs := Fz.ext hx fs bs (Nat.succ_pos _)
        replace bs := Bl.ext hx bs (Nat.succ_pos _)
        replace HE := HE.trans hx
        clear hx
        go_wp2_with fail
        refine absB (fun ue hue => ?_)
        have hbs : Bl ue (w.heap.size + 1 + 1) #[.int .i64 0, .int .i64 0, .slice none 0 0] := by rw [hue]; exact (((bs.set (by simp)).set (by simp)).set (by simp))
        have hnc : ∀ {aa : Option Addr} {nn cc : Nat} {ll : List Bool}, SlB u2 aa nn cc ll → SlB ue aa nn cc ll := fun h => by
          rw [hue]
          exact h.but bs (not_bools) ((But.refl _ _).store.store.store)
        have heu : Ext w ue := by rw [hue]; exact ((HE.store (by show w.heap.size ≤ w.heap.size + 1 + 1; omega) _).store (by show w.heap.size ≤ w.heap.size + 1 + 1; omega) _).store (by show w.heap.size ≤ w.heap.size + 1 + 1; omega) _
        clear hue
        refine bodyPost_cells_tmp2 rfl rfl Try.underlying44 rfl (by kernel_rfl) (blk_three hbs) rfl rfl ?_
        rw [HR.out]
        exact ⟨none, 0, 0, rfl, SlK.nil 1 _, heu⟩
      · rw [hm] at HM
        rw [hm'] at HM'
        have hcs : x ≠ x' ∨ (x = x' ∧ y ≠ y') := by
          have : ¬ (x = x' ∧ y = y') := fun h => hd ⟨hm, hm', h.1, h.2⟩
          omega
        clear hd hm hm'
        rcases hcs with h1 | ⟨rfl, h1⟩
        · have hb : (x == x') = false := by simpa using h1
          go_enter Try.func37, Try.ntmps37
          go_wp2_with fail
          refine absC (fun x1 hx1 => ?_)
          have hx : Ext w x1 := by rw [hx1]; exact ((((Ext.refl _).alloc _).alloc _).alloc _)
          have bp : Bl x1 (w.heap.size) #[.int .i64 x, .int .i64 y, .slice a n c] := by rw [hx1]; exact (((Bl.new (by simp)).alloc (by simp)).alloc (by simp))
          have bq : Bl x1 (w.heap.size + 1) #[.int .i64 x', .int .i64 y', .slice a' n' c'] := by rw [hx1]; exact ((Bl.new (by simp)).alloc (by simp))
          have bs : Bl x1 (w.heap.size + 1 + 1) #[.int .i64 0, .int .i64 0, .slice none 0 0] := by rw [hx1]; exact (Bl.new (by simp))
          have fs : Fz x1 (w.heap.size + 1 + 1) := by rw [hx1]; exact (Fz.new (by simp))
          have HE := hx
          clear hx
          clear hx1
          refine (HM.out _).mono ?_
          rintro e u1 ⟨rfl, hx⟩
          replace bp := Bl.ext hx bp (Nat.succ_pos _)
          replace bq := Bl.ext hx bq (Nat.succ_pos _)
          replace fs := Fz.ext hx fs bs (Nat.succ_pos _)
          replace bs := Bl.ext hx bs (Nat.succ_pos _)
          replace HE := HE.trans hx
          clear hx
          go_wp2_with fail
          refine (HM'.out _).mono ?_
          rintro e u2 ⟨rfl, hx⟩
          replace bp := Bl.ext hx bp (Nat.succ_pos _)
          replace bq := Bl.ext hx bq (Nat.succ_pos _)
          replace fs := Fz.ext hx fs bs (Nat.succ_pos _)
          replace bs := Bl.ext hx bs (Nat.succ_pos _)
          replace HE := HE.trans hx
          clear hx
          go_wp2_with fail
          refine absB (fun ue hue => ?_)
          have hbs : Bl ue (w.heap.size + 1 + 1) #[.int .i64 0, .int .i64 0, .slice none 0 0] := by rw [hue]; exact (((bs.set (by simp)).set (by simp)).set (by simp))
          have hnc : ∀ {aa : Option Addr} {nn cc : Nat} {ll : List Bool}, SlB u2 aa nn cc ll → SlB ue aa nn cc ll := fun h => by
            rw [hue]
            exact h.but bs (not_bools) ((But.refl _ _).store.store.store)
          have heu : Ext w ue := by rw [hue]; exact ((HE.store (by show w.heap.size ≤ w.heap.size + 1 + 1; omega) _).store (by show w.heap.size ≤ w.heap.size + 1 + 1; omega) _).store (by show w.heap.size ≤ w.heap.size + 1 + 1; omega) _
          clear hue
          refine bodyPost_cells_tmp2 rfl rfl Try.underlying44 rfl (by kernel_rfl) (blk_three hbs) rfl rfl ?_
          rw [HR.out]
          exact ⟨none, 0, 0, rfl, SlK.nil 1 _, heu⟩
        · have hb : (y == y') = false := by simpa using h1
          go_enter Try.func37, Try.ntmps37
          go_wp2_with fail
          refine absC (fun x1 hx1 => ?_)
          have hx : Ext w x1 := by rw [hx1]; exact ((((Ext.refl _).alloc _).alloc _).alloc _)
          have bp : Bl x1 (w.heap.size) #[.int .i64 x, .int .i64 y, .slice a n c] := by rw [hx1]; exact (((Bl.new (by simp)).alloc (by simp)).alloc (by simp))
          have bq : Bl x1 (w.heap.size + 1) #[.int .i64 x, .int .i64 y', .slice a' n' c'] := by rw [hx1]; exact ((Bl.new (by simp)).alloc (by simp))
          have bs : Bl x1 (w.heap.size + 1 + 1) #[.int .i64 0, .int .i64 0, .slice none 0 0] := by rw [hx1]; exact (Bl.new (by simp))
          have fs : Fz x1 (w.heap.size + 1 + 1) := by rw [hx1]; exact (Fz.new (by simp))
          have HE := hx
          clear hx
          clear hx1
          refine (HM.out _).mono ?_
          rintro e u1 ⟨rfl, hx⟩
          replace bp := Bl.ext hx bp (Nat.succ_pos _)
          replace bq := Bl.ext hx bq (Nat.succ_pos _)
          replace fs := Fz.ext hx fs bs (Nat.succ_pos _)
          replace bs := Bl.ext hx bs (Nat.succ_pos _)
          replace HE := HE.trans hx
          clear hx
          go_wp2_with fail
          refine (HM'.out _).mono ?_
          rintro e u2 ⟨rfl, hx⟩
          replace bp := Bl.ext hx bp (Nat.succ_pos _)
          replace bq := Bl.ext hx bq (Nat.succ_pos _)
          replace fs := Fz.ext hx fs bs (Nat.succ_pos _)
          replace bs := Bl.ext hx bs (Nat.succ_pos _)
          replace HE := HE.trans hx
          clear hx
          go_wp2_with fail
          refine absB (fun ue hue => ?_)
          have hbs : Bl ue (w.heap.size + 1 + 1) #[.int .i64 0, .int .i64 0, .slice none 0 0] := by rw [hue]; exact (((bs.set (by simp)).set (by simp)).set (by simp))
          have hnc : ∀ {aa : Option Addr} {nn cc : Nat} {ll : List Bool}, SlB u2 aa nn cc ll → SlB ue aa nn cc ll := fun h => by
            rw [hue]
            exact h.but bs (not_bools) ((But.refl _ _).store.store.store)
          have heu : Ext w ue := by rw [hue]; exact ((HE.store (by show w.heap.size ≤ w.heap.size + 1 + 1; omega) _).store (by show w.heap.size ≤ w.heap.size + 1 + 1; omega) _).store (by show w.heap.size ≤ w.heap.size + 1 + 1; omega) _
          clear hue
          refine bodyPost_cells_tmp2 rfl rfl Try.underlying44 rfl (by kernel_rfl) (blk_three hbs) rfl rfl ?_
          rw [HR.out]
          exact ⟨none, 0, 0, rfl, SlK.nil 1 _, heu⟩

set_option maxRecDepth 100000 in
set_option maxHeartbeats 8000000 in
theorem e_Flip (x y : Int) (a : Option Addr) (n c : Nat) (l : List Bool) (w : World) (h : SlB w a n c l) :
    Calls Try.prog 42 #[rst x y a n c] w (RetBE w (flipB x y n l)) := by
  have HL := hidP h.len
  have H := hidP h
  clear h
  have HM := hidP (fun u => e_May x y a n c u)
  cases hm : mayR x y n
  · have HR : Hid (flipB x y n l = ((0, 0, []), 2)) := hidP (if_neg (by rw [hm]; decide))
    rw [hm] at HM
    clear hm
    generalize flipB x y n l = rr at *
    go_enter Try.func42, Try.ntmps42
    go_wp2_with fail
    refine absC (fun x1 hx1 => ?_)
    have hx : Ext w x1 := by rw [hx1]; exact (((Ext.refl _).alloc _).alloc _)
    have bp : Bl x1 (w.heap.size) #[.int .i64 x, .int .i64 y, .slice a n c] := by rw [hx1]; exact ((Bl.new (by simp)).alloc (by simp))
    have bs : Bl x1 (w.heap.size + 1) #[.int .i64 0, .int .i64 0, .slice none 0 0] := by rw [hx1]; exact (Bl.new (by simp))
    have fs : Fz x1 (w.heap.size + 1) := by rw [hx1]; exact (Fz.new (by simp))
    have HE := hx
    clear hx
    clear hx1
    refine (HM.out _).mono ?_
    rintro e u1 ⟨rfl, hx⟩
    replace bp := Bl.ext hx bp (Nat.succ_pos _)
    replace fs := Fz.ext hx fs bs (Nat.succ_pos _)
    replace bs := Bl.ext hx bs (Nat.succ_pos _)
    replace HE := HE.trans hx
    clear hx
    go_wp2_with fail
    refine absB (fun ue hue => ?_)
    have hbs : Bl ue (w.heap.size + 1) #[.int .i64 0, .int .i64 0, .slice none 0 0] := by rw [hue]; exact (((bs.set (by simp)).set (by simp)).set (by simp))
    have hnc : ∀ {aa : Option Addr} {nn cc : Nat} {ll : List Bool}, SlB u1 aa nn cc ll → SlB ue aa nn cc ll := fun h => by
      rw [hue]
      exact h.but bs (not_bools) ((But.refl _ _).store.store.store)
    have heu : Ext w ue := by rw [hue]; exact ((HE.store (by show w.heap.size ≤ w.heap.size + 1; omega) _).store (by show w.heap.size ≤ w.heap.size + 1; omega) _).store (by show w.heap.size ≤ w.heap.size + 1; omega) _
    clear hue
    refine bodyPost_cells_tmp2 rfl rfl Try.underlying44 rfl (by kernel_rfl) (blk_three hbs) rfl rfl ?_
    rw [HR.out]
    exact ⟨none, 0, 0, rfl, SlK.nil 1 _, heu⟩
  · have HR : Hid (flipB x y n l = ((x, y, l.map (! ·)), 0)) := hidP (if_pos hm)
    rw [hm] at HM
    obtain ⟨m1, m2, m3, m4, m5⟩ := of_decide_eq_true hm
    have hbx := mul_box m1 m2 m3 m4
    have hn4 : n ≤ 4096 := by omega
    have HZ0 : (l.map (! ·)).length = n := by rw [List.length_map]; exact HL.out
    have HZ : Hid (∀ j (hj : j < n), ∃ h : j < (l.map (! ·)).length, (l.map (! ·))[j] = !(l[j]'(by rw [HL.out]; exact hj))) := hidP (fun j hj => ⟨by omega, by simp⟩)
    clear hm m5 hbx
    generalize flipB x y n l = rr at *
    generalize l.map (! ·) = R at *
    go_enter Try.func42, Try.ntmps42
    go_wp2_with fail
    refine absC (fun x1 hx1 => ?_)
    have hx : Ext w x1 := by rw [hx1]; exact (((Ext.refl _).alloc _).alloc _)
    have bp : Bl x1 (w.heap.size) #[.int .i64 x, .int .i64 y, .slice a n c] := by rw [hx1]; exact ((Bl.new (by simp)).alloc (by simp))
    have bs : Bl x1 (w.heap.size + 1) #[.int .i64 0, .int .i64 0, .slice none 0 0] := by rw [hx1]; exact (Bl.new (by simp))
    have fs : Fz x1 (w.heap.size + 1) := by rw [hx1]; exact (Fz.new (by simp))
    have HE := hx
    clear hx
    clear hx1
    refine (HM.out _).mono ?_
    rintro e u1 ⟨rfl, hx⟩
    replace bp := Bl.ext hx bp (Nat.succ_pos _)
    replace fs := Fz.ext hx fs bs (Nat.succ_pos _)
    replace bs := Bl.ext hx bs (Nat.succ_pos _)
    replace HE := HE.trans hx
    clear hx
    have lpx := bp.lt (Nat.succ_pos _); have lsx := bs.lt (Nat.succ_pos _)
    go_upto_region 4 with fail
    refine absW (fun x2 hx2 => ?_)
    have hx : Ext u1 x2 := by rw [hx2]; exact ((Ext.refl _).alloc _)
    have bt : Bl x2 (u1.heap.size) #[.int .i64 x, .int .i64 y, .slice none 0 0] := by rw [hx2]; exact (Bl.new (by simp))
    have ft : Fz x2 (u1.heap.size) := by rw [hx2]; exact (Fz.new (by simp))
    replace bp := Bl.ext hx bp (Nat.succ_pos _)
    replace fs := Fz.ext hx fs bs (Nat.succ_pos _)
    replace bs := Bl.ext hx bs (Nat.succ_pos _)
    replace HE := HE.trans hx
    clear hx
    clear hx2
    generalize u1.heap.size = ga at *
    have hB : ga + 1 ≤ x2.heap.size := by have := bt.lt (Nat.succ_pos _); omega
    have hz0 : x2.ownsRow (ga + 1) 4 1 (.slice none 0 0) 0 (bools (R.take 0)) := World.ownsRow_nil _ _ _ _
    go_wp2_with fail
    go_loopw [5] (fun iv wr => ∃ (j : Nat) (v : Value), j ≤ n ∧ iv = .int .i64 (j : Int) ∧ wr.ownsRow (ga + 1) 4 1 v j (bools (R.take j)) ∧ Bl wr ga #[.int .i64 x, .int .i64 y, v] ∧ Fz wr ga ∧ Bl wr w.heap.size #[.int .i64 x, .int .i64 y, .slice a n c] ∧ Bl wr (w.heap.size + 1) #[.int .i64 0, .int .i64 0, .slice none 0 0] ∧ Fz wr (w.heap.size + 1) ∧ ga + 1 ≤ wr.heap.size ∧ Ext w wr) (fun iv _ => n - (intOf iv).toNat)
    case atStart => exact ⟨0, _, by omega, rfl, hz0, bt, ft, bp, bs, fs, hB, HE⟩
    case round =>
      clear hz0 bt ft bp bs fs hB HE
      obtain ⟨j, v, hj, rfl, hown, bt, ft, bp, bs, fs, hB, HE⟩ := hrel
      by_cases hlt : j < n
      · have hlt0 := hlt
        obtain ⟨g, off, rfl, hc⟩ := H.out.at (by omega)
        have h0 := hc j (by rw [HL.out]; exact hlt)
        have hgl := cell_lt h0
        replace h0 := HE.cell' h0
        obtain ⟨hjR, hz⟩ := HZ.out j hlt
        have hst := List.take_succ_eq_append_getElem hjR
        rw [hz] at hst
        have hst2 := congrArg bools hst
        rw [bools_append] at hst2
        clear hc hz hst
        generalize l[j]'(by rw [HL.out]; exact hlt) = p at *
        have HST : Hid (bools (R.take (j + 1)) = bools (R.take j) ++ [.bool (!p)]) := hidP hst2
        clear hst2
        go_wp2_with fail
        refine wp_region_plan (R := Below (ga + 1)) (.q 0 (.q 1 (.q 2 (.q 3 (.q 4 (.q 5 (.q 6 (.q 7 (.l 8 (.l 9 (.q 10 (.b 11 .done)))))))))))) (by kernel_rfl) (by kernel_rfl) (by kernel_rfl) (by kernel_rfl) (Below.refl _) (fun _ _ _ => Below.trans) ?_
        refine absE (fun x3 hx3 => ?_)
        have hx : Ext wr x3 := by rw [hx3]; exact (Ext.refl _).drew
        replace hown : x3.ownsRow (ga + 1) 4 1 v j (bools (R.take j)) := by rw [hx3]; exact hown.drew
        replace ft := Fz.ext hx ft bt (Nat.succ_pos _)
        replace bt := Bl.ext hx bt (Nat.succ_pos _)
        replace bp := Bl.ext hx bp (Nat.succ_pos _)
        replace fs := Fz.ext hx fs bs (Nat.succ_pos _)
        replace bs := Bl.ext hx bs (Nat.succ_pos _)
        replace h0 := hx.cell' h0
        replace hB := Nat.le_trans hB hx.size
        replace HE := HE.trans hx
        clear hx hx3
        repeat (refine wpE_q (v := ?_) rfl rfl (fun u hu => ?_) ?_; rotate_left 1; (focus (have kt := Bl.lowB hu bt (by omega); have kp := Bl.lowB hu bp (by omega); have kh0 := low_cell hu h0 (by omega); go_simp; (try rfl))); simp only [Act.put, List.setIfInBounds_toArray, List.set_cons_zero, List.set_cons_succ])
        refine wpE_l rfl rfl (fun K hK => ?_)
        go_simp
        refine hK.out _ _ ((Below.refl _ _).alloc hB _) ?_
        clear hK K
        try simp only [Act.put, List.setIfInBounds_toArray, List.set_cons_zero, List.set_cons_succ]
        refine wpE_l rfl rfl (fun K hK => ?_)
        refine wp_appB (ad := ⟨x3.heap.size, 0, none⟩) (m := 1) T_bool _ _ rfl (hown.alloc _) (Nat.le_trans hB (by simp)) [.bool (!p)] rfl rfl rfl (cell_one_new _ _ _) (ends_bool _) (by omega) (by omega) ?_
        intro v2 w2 hown2 hlow0
        refine hK.out _ _ hlow0 ?_
        clear hK K
        try simp only [Act.put, List.setIfInBounds_toArray, List.set_cons_zero, List.set_cons_succ]
        have hlow : Below (ga + 1) x3 w2 := Below.trans ((Below.refl _ _).alloc hB _) hlow0
        clear hlow0
        obtain ⟨a2, c2, rfl, hs2⟩ := SlK.of_owns hown2
        have ft2 := Fz.lowB hlow ft (by omega)
        have bt2 := Bl.lowB hlow bt (by omega)
        have bp2 := Bl.lowB hlow bp (by omega)
        have fs2 := Fz.lowB hlow fs (by omega)
        have bs2 := Bl.lowB hlow bs (by omega)
        repeat (refine wpE_q (v := ?_) rfl rfl (fun u hu => ?_) ?_; rotate_left 1; (focus (have kt := Bl.lowB hu bt2 (by omega); go_simp; (try rfl))); simp only [Act.put, List.setIfInBounds_toArray, List.set_cons_zero, List.set_cons_succ])
        refine wpE_b rfl rfl (fun K hK => ?_)
        go_simp
        refine hK.out _ _ ?_
        clear hK K
        try simp only [Act.put, List.setIfInBounds_toArray, List.set_cons_zero, List.set_cons_succ]
        refine wpE_done ?_
        go_wp2_with fail
        have hb2 : But w2 (w2.setCell ⟨ga, 2, none⟩ (.slice a2 (j + 1) c2)) ga := (But.refl _ _).store
        go_roundw
        case rel =>
          refine ⟨j + 1, _, by omega, by go_num, ?_, bt2.set (by simp), ft2.set, hb2.bl bp2 (Nat.succ_pos _) (by omega), hb2.bl bs2 (Nat.succ_pos _) (by omega), hb2.fz fs2 bs2 (Nat.succ_pos _) (by omega), Nat.le_trans (Nat.le_trans hB hlow.size) hb2.1, (Below.trans HE (hlow.mono (by omega))).setCell (by show w.heap.size ≤ ga; omega) _⟩
          rw [HST.out]
          exact hb2.rowB hown2 (by omega)
        case measure => simp only [intOf]; omega
      · obtain rfl : j = n := by omega
        obtain ⟨a2, c2, rfl, hs2⟩ := SlK.of_owns hown
        rw [List.take_of_length_le (by omega)] at hs2
        have HSR : Hid (SlB wr a2 j c2 R) := hidP hs2
        clear hs2 hown
        go_wp2_with fail
        refine absB (fun ue hue => ?_)
        have hbs : Bl ue (w.heap.size + 1) #[.int .i64 x, .int .i64 y, .slice a2 j c2] := by rw [hue]; exact (((bs.set (by simp)).set (by simp)).set (by simp))
        have hnc : ∀ {aa : Option Addr} {nn cc : Nat} {ll : List Bool}, SlB wr aa nn cc ll → SlB ue aa nn cc ll := fun h => by
          rw [hue]
          exact h.but bs (not_bools) ((But.refl _ _).store.store.store)
        have heu : Ext w ue := by rw [hue]; exact ((HE.store (by show w.heap.size ≤ w.heap.size + 1; omega) _).store (by show w.heap.size ≤ w.heap.size + 1; omega) _).store (by show w.heap.size ≤ w.heap.size + 1; omega) _
        clear hue
        refine bodyPost_cells_tmp2 rfl rfl Try.underlying44 rfl (by kernel_rfl) (blk_three hbs) rfl rfl ?_
        rw [HR.out]
        exact ⟨_, _, _, rfl, hnc HSR.out, heu⟩

end Go.Proofs.Ytogcmnagiepofaa
