/- Parts of rasters, in the document's way. -/
import Derived.Test.YtogcmnagiepofaaR14
namespace Go.Proofs.Ytogcmnagiepofaa
set_option linter.unusedVariables false
open Go Go.RowKit

theorem RowK.ext {w u : World} {B e K n : Nat} {v : Value} {xs : List Value} (h : w.ownsRow B e K v n xs) (he : Ext w u) : u.ownsRow B e K v n xs :=
  World.ownsRow.kept (row := none) h ⟨he.os, he.tape, he.output, he.size, fun k hk _ => he.block k hk⟩ (by cases v.ownBlock <;> simp)
theorem take_more {l : List Col} {P m : Nat} (h : P + m < l.length) : (l.drop P).take (m + 1) = (l.drop P).take m ++ [l[P + m]] := by
  rw [List.take_succ_eq_append_getElem (by rw [List.length_drop]; omega), List.getElem_drop]

set_option maxRecDepth 100000 in
set_option maxHeartbeats 8000000 in
theorem d_Crop (x y : Int) (a : Option Addr) (n c : Nat) (l : List Col) (i j u v : Int) (w : World) (h : SlC w a n c l)
    (i1 : -9223372036854775808 ≤ i) (i2 : i ≤ 9223372036854775807) (j1 : -9223372036854775808 ≤ j) (j2 : j ≤ 9223372036854775807) :
    Calls Try.prog 62 #[rst x y a n c, .int .i64 i, .int .i64 j, .int .i64 u, .int .i64 v] w (RetRE w (cropR x y n l i j u v)) := by
  have HL := hidP h.len
  have H := hidP h
  clear h
  have HM := hidP (fun u => d_May x y a n c u)
  by_cases hok : mayR x y n = true ∧ 0 ≤ i ∧ 0 ≤ j ∧ 1 ≤ u ∧ u ≤ 64 ∧ 1 ≤ v ∧ v ≤ 64 ∧ i + u ≤ x ∧ j + v ≤ y
  · have hR : cropR x y n l i j u v = ((u, v, cropL x.toNat l i.toNat j.toNat u.toNat v.toNat), 0) := if_pos hok
    obtain ⟨hm, hi0, hj0, hu1, hu2, hv1, hv2, hiu, hjv⟩ := hok
    rw [hm] at HM
    have hmm := of_decide_eq_true hm
    obtain ⟨m1, m2, m3, m4, m5⟩ := hmm
    have hbx := mul_box m1 m2 m3 m4
    obtain ⟨X, rfl⟩ : ∃ X : Nat, x = (X : Int) := ⟨x.toNat, by omega⟩
    obtain ⟨Y, rfl⟩ : ∃ Y : Nat, y = (Y : Int) := ⟨y.toNat, by omega⟩
    obtain ⟨I, rfl⟩ : ∃ I : Nat, i = (I : Int) := ⟨i.toNat, by omega⟩
    obtain ⟨J, rfl⟩ : ∃ J : Nat, j = (J : Int) := ⟨j.toNat, by omega⟩
    obtain ⟨U, rfl⟩ : ∃ U : Nat, u = (U : Int) := ⟨u.toNat, by omega⟩
    obtain ⟨V, rfl⟩ : ∃ V : Nat, v = (V : Int) := ⟨v.toNat, by omega⟩
    have HXY : Hid (n = Y * X) := hidP (by rw [Nat.mul_comm]; exact_mod_cast m5)
    have hn4 : n ≤ 4096 := by omega
    have hI64 : (I : Int) ≤ 64 := by omega
    have hJ64 : (J : Int) ≤ 64 := by omega
    simp only [Int.toNat_natCast] at hR
    have HR := hidP hR
    have HCS := hidP (fun k => cropL_snoc X l I J U k)
    have HA := hidP (@d_AtK X Y n c a l hm HL.out)
    clear hm m5 hbx hR
    generalize cropR X Y n l I J U V = rr at *
    go_enter Try.func62, Try.ntmps62
    go_wp2_with fail
    refine absC (fun x1 hx1 => ?_)
    have hx : Ext w x1 := by rw [hx1]; exact (((Ext.refl _).alloc _).alloc _)
    have bp : Bl x1 (w.heap.size) #[.int .i64 (X : Int), .int .i64 (Y : Int), .slice a n c] := by rw [hx1]; exact ((Bl.new (by simp)).alloc (by simp))
    have bs : Bl x1 (w.heap.size + 1) #[.int .i64 0, .int .i64 0, .slice none 0 0] := by rw [hx1]; exact (Bl.new (by simp))
    have fs : Fz x1 (w.heap.size + 1) := by rw [hx1]; exact (Fz.new (by simp))
    have HE := hx
    clear hx
    clear hx1
    refine (HM.out _).mono ?_
    rintro e u1 ⟨rfl, hx⟩
    replace bp := Bl.ext hx bp (Nat.succ_pos _)
    replace fs := Fz.ext hx fs bs (Nat.succ_pos _)
    replace bs := Bl.ext hx bs (Nat.succ_pos _)
    replace HE := HE.trans hx
    clear hx
    have lpx := bp.lt (Nat.succ_pos _); have lsx := bs.lt (Nat.succ_pos _)
    go_upto_region 4 with fail
    refine absW (fun x2 hx2 => ?_)
    have hx : Ext u1 x2 := by rw [hx2]; exact ((Ext.refl _).alloc _)
    have bt : Bl x2 (u1.heap.size) #[.int .i64 (U : Int), .int .i64 (V : Int), .slice none 0 0] := by rw [hx2]; exact (Bl.new (by simp))
    have ft : Fz x2 (u1.heap.size) := by rw [hx2]; exact (Fz.new (by simp))
    replace bp := Bl.ext hx bp (Nat.succ_pos _)
    replace fs := Fz.ext hx fs bs (Nat.succ_pos _)
    replace bs := Bl.ext hx bs (Nat.succ_pos _)
    replace HE := HE.trans hx
    clear hx
    clear hx2
    have hgw : w.heap.size + 1 < u1.heap.size := by omega
    clear lpx lsx
    generalize u1.heap.size = ga at *
    have hB : ga + 1 ≤ x2.heap.size := by have := bt.lt (Nat.succ_pos _); omega
    have hz0 : x2.ownsRow (ga + 1) 73 4 (.slice none 0 0) (U * 0) (cols (cropL X l I J U 0)) := World.ownsRow_nil _ _ _ _
    go_wp2_with fail
    go_loopw [13] (fun iv wr => ∃ (k : Nat) (v : Value), k ≤ V ∧ iv = .int .i64 (k : Int) ∧ wr.ownsRow (ga + 1) 73 4 v (U * k) (cols (cropL X l I J U k)) ∧ Bl wr ga #[.int .i64 (U : Int), .int .i64 (V : Int), v] ∧ Fz wr ga ∧ Bl wr w.heap.size #[.int .i64 (X : Int), .int .i64 (Y : Int), .slice a n c] ∧ Bl wr (w.heap.size + 1) #[.int .i64 0, .int .i64 0, .slice none 0 0] ∧ Fz wr (w.heap.size + 1) ∧ ga + 1 ≤ wr.heap.size ∧ Ext w wr) (fun iv _ => V - (intOf iv).toNat)
    case atStart => exact ⟨0, _, by omega, rfl, hz0, bt, ft, bp, bs, fs, hB, HE⟩
    case round =>
      clear hz0 bt ft bp bs fs hB HE
      obtain ⟨k, v, hk, rfl, hown, bt, ft, bp, bs, fs, hB, HE⟩ := hrel
      by_cases hlt : k < V
      · have hlt0 := hlt
        have hUk : U * k ≤ 4096 := Nat.le_trans (Nat.mul_le_mul (by omega : U ≤ 64) (by omega : k ≤ 64)) (by omega)
        go_wp2_with fail
        go_loopw [14] (fun iv wr => ∃ (m : Nat) (v : Value), m ≤ U ∧ iv = .int .i64 (m : Int) ∧ wr.ownsRow (ga + 1) 73 4 v (U * k + m) (cols (cropL X l I J U k ++ (l.drop ((J + k) * X + I)).take m)) ∧ Bl wr ga #[.int .i64 (U : Int), .int .i64 (V : Int), v] ∧ Fz wr ga ∧ Bl wr w.heap.size #[.int .i64 (X : Int), .int .i64 (Y : Int), .slice a n c] ∧ Bl wr (w.heap.size + 1) #[.int .i64 0, .int .i64 0, .slice none 0 0] ∧ Fz wr (w.heap.size + 1) ∧ ga + 1 ≤ wr.heap.size ∧ Ext w wr) (fun iv _ => U - (intOf iv).toNat)
        case atStart => exact ⟨0, v, by omega, rfl, by rw [List.take_zero, List.append_nil]; exact hown, bt, ft, bp, bs, fs, hB, HE⟩
        case round =>
          clear hown bt ft bp bs fs hB HE
          obtain ⟨m, v, hm, rfl, hown, bt, ft, bp, bs, fs, hB, HE⟩ := hrel
          by_cases hlm : m < U
          · have hlm0 := hlm
            obtain ⟨hkk, hc⟩ := HA.out (J + k) (I + m) (by omega) (by omega)
            have hmore := take_more (l := l) (P := (J + k) * X + I) (m := m) (by omega)
            have eix : (J + k) * X + (I + m) = (J + k) * X + I + m := by omega
            simp only [eix, Int.natCast_add] at hc
            have hkk2 : (J + k) * X + I + m < l.length := by omega
            generalize l[(J + k) * X + I + m]'hkk2 = q at *
            obtain ⟨q0, q1, q2, q3⟩ := q
            have HC := hidP hc; have HMORE := hidP hmore
            clear hc hmore hkk hkk2 eix
            go_wp2_with fail
            refine (HC.out _ (H.out.ext HE)).mono ?_
            rintro e u5 ⟨rfl, hx⟩
            replace hown := RowK.ext hown hx
            replace ft := Fz.ext hx ft bt (Nat.succ_pos _)
            replace bt := Bl.ext hx bt (Nat.succ_pos _)
            replace bp := Bl.ext hx bp (Nat.succ_pos _)
            replace fs := Fz.ext hx fs bs (Nat.succ_pos _)
            replace bs := Bl.ext hx bs (Nat.succ_pos _)
            replace hB := Nat.le_trans hB hx.size
            replace HE := HE.trans hx
            clear hx
            go_upto_region 11 with fail
            refine absW (fun x5 hx5 => ?_)
            have hx : Ext u5 x5 := by rw [hx5]; exact (Ext.refl _).alloc _
            have bq : Bl x5 u5.heap.size #[.int .u8 (q0 : Int), .int .u8 (q1 : Int), .int .u8 (q2 : Int), .int .u8 (q3 : Int)] := by rw [hx5]; exact Bl.new (by simp)
            replace hown := RowK.ext hown hx
            replace ft := Fz.ext hx ft bt (Nat.succ_pos _)
            replace bt := Bl.ext hx bt (Nat.succ_pos _)
            replace bp := Bl.ext hx bp (Nat.succ_pos _)
            replace fs := Fz.ext hx fs bs (Nat.succ_pos _)
            replace bs := Bl.ext hx bs (Nat.succ_pos _)
            replace hB := Nat.le_trans hB hx.size
            replace HE := HE.trans hx
            clear hx hx5
            go_wp2_with (first | (at_builtin; refine wpList_appB T_col rfl _ _ rfl hown hB #[.int .u8 (q0 : Int), .int .u8 (q1 : Int), .int .u8 (q2 : Int), .int .u8 (q3 : Int)] rfl (ends_col (q0, q1, q2, q3)) rfl rfl (by omega) (by omega) ?_; intro v2 w2 hown2 hlow; obtain ⟨a2, c2, rfl, hs2⟩ := SlK.of_owns hown2; have bt2 := Bl.lowB hlow bt (by omega); have ft2 := Fz.lowB hlow ft (by omega)))
            have bs2 := Bl.lowB hlow bs (by omega)
            have fs2 := Fz.lowB hlow fs (by omega)
            have bp2 := Bl.lowB hlow bp (by omega)
            have hb2 : But w2 (w2.setCell ⟨ga, 2, none⟩ (.slice a2 (U * k + m + 1) c2)) ga := (But.refl _ _).store
            go_roundw
            case rel =>
              refine ⟨m + 1, _, by omega, by go_num, ?_, bt2.set (by simp), ft2.set, hb2.bl bp2 (Nat.succ_pos _) (by omega), hb2.bl bs2 (Nat.succ_pos _) (by omega), hb2.fz fs2 bs2 (Nat.succ_pos _) (by omega), Nat.le_trans (Nat.le_trans hB hlow.size) hb2.1, (Below.trans HE (hlow.mono (by omega))).setCell (by show w.heap.size ≤ ga; omega) _⟩
              rw [HMORE.out, ← List.append_assoc, cols_append]
              exact hb2.rowB hown2 (by omega)
            case measure => simp only [intOf]; omega
          · obtain rfl : m = U := by omega
            have HO : Hid (wr.ownsRow (ga + 1) 73 4 v (m * (k + 1)) (cols (cropL X l I J m (k + 1)))) := hidP (by rw [HCS.out]; exact hown)
            go_wp2_with fail
            go_roundw
            case rel => exact ⟨k + 1, _, by omega, by go_num, HO.out, bt, ft, bp, bs, fs, hB, HE⟩
            case measure => simp only [intOf]; omega
      · obtain rfl : k = V := by omega
        obtain ⟨a2, c2, rfl, hs2⟩ := SlK.of_owns hown
        clear hown
        go_wp2_with fail
        refine absB (fun ue hue => ?_)
        have hbs : Bl ue ((w.heap.size + 1)) #[.int .i64 (U : Int), .int .i64 (k : Int), .slice a2 (U * k) c2] := by rw [hue]; exact (((bs.set (by simp)).set (by simp)).set (by simp))
        have hnc : ∀ {aa : Option Addr} {nn cc : Nat} {ll : List Col}, SlC wr aa nn cc ll → SlC ue aa nn cc ll := fun h => by
          rw [hue]
          exact h.but bs (not_u8s) ((But.refl _ _).store.store.store)
        have heu : Ext w ue := by rw [hue]; exact ((HE.store (by show w.heap.size ≤ (w.heap.size + 1); omega) _).store (by show w.heap.size ≤ (w.heap.size + 1); omega) _).store (by show w.heap.size ≤ (w.heap.size + 1); omega) _
        clear hue
        refine bodyPost_cells_tmp2 rfl rfl Try.underlying69 rfl (by kernel_rfl) (blk_three hbs) rfl rfl ?_
        rw [HR.out]
        exact ⟨_, _, _, rfl, hnc hs2, heu⟩
  · have HR : Hid (cropR x y n l i j u v = ((0, 0, []), 2)) := hidP (if_neg hok)
    generalize cropR x y n l i j u v = rr at *
    cases hm : mayR x y n
    · rw [hm] at HM
      clear hok hm
      go_enter Try.func62, Try.ntmps62
      go_wp2_with fail
      refine absC (fun x1 hx1 => ?_)
      have hx : Ext w x1 := by rw [hx1]; exact (((Ext.refl _).alloc _).alloc _)
      have bp : Bl x1 (w.heap.size) #[.int .i64 x, .int .i64 y, .slice a n c] := by rw [hx1]; exact ((Bl.new (by simp)).alloc (by simp))
      have bs : Bl x1 (w.heap.size + 1) #[.int .i64 0, .int .i64 0, .slice none 0 0] := by rw [hx1]; exact (Bl.new (by simp))
      have fs : Fz x1 (w.heap.size + 1) := by rw [hx1]; exact (Fz.new (by simp))
      have HE := hx
      clear hx
      clear hx1
      refine (HM.out _).mono ?_
      rintro e u1 ⟨rfl, hx⟩
      replace bp := Bl.ext hx bp (Nat.succ_pos _)
      replace fs := Fz.ext hx fs bs (Nat.succ_pos _)
      replace bs := Bl.ext hx bs (Nat.succ_pos _)
      replace HE := HE.trans hx
      clear hx
      go_wp2_with fail
      refine absB (fun ue hue => ?_)
      have hbs : Bl ue ((w.heap.size + 1)) #[.int .i64 0, .int .i64 0, .slice none 0 0] := by rw [hue]; exact (((bs.set (by simp)).set (by simp)).set (by simp))
      have hnc : ∀ {aa : Option Addr} {nn cc : Nat} {ll : List Col}, SlC u1 aa nn cc ll → SlC ue aa nn cc ll := fun h => by
        rw [hue]
        exact h.but bs (not_u8s) ((But.refl _ _).store.store.store)
      have heu : Ext w ue := by rw [hue]; exact ((HE.store (by show w.heap.size ≤ (w.heap.size + 1); omega) _).store (by show w.heap.size ≤ (w.heap.size + 1); omega) _).store (by show w.heap.size ≤ (w.heap.size + 1); omega) _
      clear hue
      refine bodyPost_cells_tmp2 rfl rfl Try.underlying69 rfl (by kernel_rfl) (blk_three hbs) rfl rfl ?_
      rw [HR.out]
      exact ⟨none, 0, 0, rfl, SlK.nil 4 _, heu⟩
    · rw [hm] at HM
      have hmm := of_decide_eq_true hm
      obtain ⟨m1, m2, m3, m4, m5⟩ := hmm
      clear m5
      have hcs : u < 1 ∨ (1 ≤ u ∧ 64 < u) ∨ (1 ≤ u ∧ u ≤ 64 ∧ v < 1) ∨ (1 ≤ u ∧ u ≤ 64 ∧ 1 ≤ v ∧ 64 < v) ∨ (1 ≤ u ∧ u ≤ 64 ∧ 1 ≤ v ∧ v ≤ 64 ∧ i < 0) ∨ (1 ≤ u ∧ u ≤ 64 ∧ 1 ≤ v ∧ v ≤ 64 ∧ 0 ≤ i ∧ 64 < i) ∨ (1 ≤ u ∧ u ≤ 64 ∧ 1 ≤ v ∧ v ≤ 64 ∧ 0 ≤ i ∧ i ≤ 64 ∧ j < 0) ∨ (1 ≤ u ∧ u ≤ 64 ∧ 1 ≤ v ∧ v ≤ 64 ∧ 0 ≤ i ∧ i ≤ 64 ∧ 0 ≤ j ∧ 64 < j) ∨ (1 ≤ u ∧ u ≤ 64 ∧ 1 ≤ v ∧ v ≤ 64 ∧ 0 ≤ i ∧ i ≤ 64 ∧ 0 ≤ j ∧ j ≤ 64 ∧ x < i + u) ∨ (1 ≤ u ∧ u ≤ 64 ∧ 1 ≤ v ∧ v ≤ 64 ∧ 0 ≤ i ∧ i ≤ 64 ∧ 0 ≤ j ∧ j ≤ 64 ∧ i + u ≤ x ∧ y < j + v) := by
        have : ¬ (0 ≤ i ∧ 0 ≤ j ∧ 1 ≤ u ∧ u ≤ 64 ∧ 1 ≤ v ∧ v ≤ 64 ∧ i + u ≤ x ∧ j + v ≤ y) := fun h => hok ⟨hm, h⟩
        omega
      clear hok hm
      rcases hcs with h1 | ⟨h1, h2⟩ | ⟨h1, h2, h3⟩ | ⟨h1, h2, h3, h4⟩ | ⟨h1, h2, h3, h4, h5⟩ | ⟨h1, h2, h3, h4, h5, h6⟩ | ⟨h1, h2, h3, h4, h5, h6, h7⟩ | ⟨h1, h2, h3, h4, h5, h6, h7, h8⟩ | ⟨h1, h2, h3, h4, h5, h6, h7, h8, h9⟩ | ⟨h1, h2, h3, h4, h5, h6, h7, h8, h9, h10⟩
      all_goals (
        go_enter Try.func62, Try.ntmps62
        go_wp2_with fail
        refine absC (fun x1 hx1 => ?_)
        have hx : Ext w x1 := by rw [hx1]; exact (((Ext.refl _).alloc _).alloc _)
        have bp : Bl x1 (w.heap.size) #[.int .i64 x, .int .i64 y, .slice a n c] := by rw [hx1]; exact ((Bl.new (by simp)).alloc (by simp))
        have bs : Bl x1 (w.heap.size + 1) #[.int .i64 0, .int .i64 0, .slice none 0 0] := by rw [hx1]; exact (Bl.new (by simp))
        have fs : Fz x1 (w.heap.size + 1) := by rw [hx1]; exact (Fz.new (by simp))
        have HE := hx
        clear hx
        clear hx1
        refine (HM.out _).mono ?_
        rintro e u1 ⟨rfl, hx⟩
        replace bp := Bl.ext hx bp (Nat.succ_pos _)
        replace fs := Fz.ext hx fs bs (Nat.succ_pos _)
        replace bs := Bl.ext hx bs (Nat.succ_pos _)
        replace HE := HE.trans hx
        clear hx
        go_wp2_with fail
        refine absB (fun ue hue => ?_)
        have hbs : Bl ue ((w.heap.size + 1)) #[.int .i64 0, .int .i64 0, .slice none 0 0] := by rw [hue]; exact (((bs.set (by simp)).set (by simp)).set (by simp))
        have hnc : ∀ {aa : Option Addr} {nn cc : Nat} {ll : List Col}, SlC u1 aa nn cc ll → SlC ue aa nn cc ll := fun h => by
          rw [hue]
          exact h.but bs (not_u8s) ((But.refl _ _).store.store.store)
        have heu : Ext w ue := by rw [hue]; exact ((HE.store (by show w.heap.size ≤ (w.heap.size + 1); omega) _).store (by show w.heap.size ≤ (w.heap.size + 1); omega) _).store (by show w.heap.size ≤ (w.heap.size + 1); omega) _
        clear hue
        refine bodyPost_cells_tmp2 rfl rfl Try.underlying69 rfl (by kernel_rfl) (blk_three hbs) rfl rfl ?_
        rw [HR.out]
        exact ⟨none, 0, 0, rfl, SlK.nil 4 _, heu⟩)

end Go.Proofs.Ytogcmnagiepofaa
