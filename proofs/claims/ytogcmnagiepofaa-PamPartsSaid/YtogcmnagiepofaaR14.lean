/- Parts of rasters. -/
import Derived.Test.YtogcmnagiepofaaR13
namespace Go.Proofs.Ytogcmnagiepofaa
set_option linter.unusedVariables false
open Go Go.RowKit

theorem wp_appB {P : Program} {o : Oper} {a : Act} {K' : Act → World → Prop} {Q : Exit → Act → World → Prop} {w : World} {t e : TypeId} {K B : Nat} {z : Value} {bytes : Nat} (hT : SlTK P t e K z bytes)
    (s x : Operand) (ho : o.op = .call { callee := .builtin .append, args := #[s, x], argTypes := #[t, t] })
    {v : Value} {n : Nat} {xs : List Value} (hown : w.ownsRow B e K v n xs) (hB : B ≤ w.heap.size) {ad : Addr} {m c : Nat} (news : List Value) (hs : a.eval s = v) (hx : a.eval x = .slice (some ad) m c)
    (hl : news.length = m * K) (hnews : ∀ j u, news[j]? = some u → w.cell? (ad.add j) = some u) (h1 : ∀ u ∈ news, u.oneCell' = true) (hb : n + m ≤ 17592186044416) (hb' : (n + m) * bytes ≤ 140737488355328)
    (h : ∀ v' w', w'.ownsRow B e K v' (n + m) (xs ++ news) → Below B w w' → K' (a.put o.dst v') w') : o.wp P a w K' Q := by
  obtain ⟨ht, hK, i, hi, hz, hsz, hby, hzs⟩ := hT
  refine wp_append_own w s x t ho B e i z K bytes ht hi hz hsz hby hzs hK v n xs hs hown ad m c news hx hl hnews h1 (by unfold maxLen; omega) hb' hB ?_
  intro v' w' g1 g2 _
  exact h v' w' g1 (Below.grown (Below.refl B w) g2 hB (fun k hk => (hown.lt k hk).1))
/-- A part, row by row. -/
def cropL (X : Nat) (l : List Col) (i j W H : Nat) : List Col := (List.range H).flatMap fun k => (l.drop ((j + k) * X + i)).take W
theorem cropL_zero (X : Nat) (l : List Col) (i j W : Nat) : cropL X l i j W 0 = [] := rfl
theorem cropL_snoc (X : Nat) (l : List Col) (i j W H : Nat) : cropL X l i j W (H + 1) = cropL X l i j W H ++ (l.drop ((j + H) * X + i)).take W := by
  unfold cropL
  rw [List.range_succ, List.flatMap_append]
  simp
def cropR (x y : Int) (n : Nat) (l : List Col) (i j u v : Int) : (Int × Int × List Col) × Int :=
  if mayR x y n = true ∧ 0 ≤ i ∧ 0 ≤ j ∧ 1 ≤ u ∧ u ≤ 64 ∧ 1 ≤ v ∧ v ≤ 64 ∧ i + u ≤ x ∧ j + v ≤ y then ((u, v, cropL x.toNat l i.toNat j.toNat u.toNat v.toNat), 0) else ((0, 0, []), 2)
/-- The call hands back a raster, and what was wrong. -/
def RetRE (w : World) (r : (Int × Int × List Col) × Int) (e : Ending) (w' : World) : Prop := ∃ a n c, e = .returned (.tuple #[rst r.1.1 r.1.2.1 a n c, .int .i64 r.2]) ∧ SlC w' a n c r.1.2.2 ∧ Ext w w'
theorem crop_in {X Y n i j u v k : Nat} (hn : n = Y * X) (h1 : i + u ≤ X) (h2 : j + v ≤ Y) (hk : k < v) (hn4 : n ≤ 4096) : (j + k) * X + i + u ≤ n := by
  have e : (j + k + 1) * X ≤ Y * X := Nat.mul_le_mul_right _ (by omega)
  rw [Nat.add_mul, Nat.one_mul] at e
  omega
theorem cols_part (l : List Col) (p u : Nat) (h : p + u ≤ l.length) : ∀ (j : Nat) (v : Value), (cols ((l.drop p).take u))[j]? = some v → (cols l)[p * 4 + j]? = some v := by
  intro j v hv
  have e : cols l = cols (l.take p) ++ (cols ((l.drop p).take u) ++ cols ((l.drop p).drop u)) := by
    rw [← cols_append, ← cols_append, List.take_append_drop, List.take_append_drop]
  have hl : (cols (l.take p)).length = p * 4 := by rw [cols_len, List.length_take]; omega
  rw [e, List.getElem?_append_right (by omega), hl, show p * 4 + j - p * 4 = j by omega]
  have hj := (List.getElem?_eq_some_iff.1 hv).1
  rw [List.getElem?_append_left hj]
  exact hv
theorem cols_one (l : List Col) : ∀ u ∈ cols l, u.oneCell' = true := by
  intro u hu
  unfold cols at hu
  rw [List.mem_flatMap] at hu
  obtain ⟨p, _, hp⟩ := hu
  simp at hp
  rcases hp with rfl | rfl | rfl | rfl <;> rfl

set_option maxRecDepth 100000 in
set_option maxHeartbeats 8000000 in
theorem p_Crop (x y : Int) (a : Option Addr) (n c : Nat) (l : List Col) (i j u v : Int) (w : World) (h : SlC w a n c l)
    (i1 : -9223372036854775808 ≤ i) (i2 : i ≤ 9223372036854775807) (j1 : -9223372036854775808 ≤ j) (j2 : j ≤ 9223372036854775807) :
    Calls Try.prog 61 #[rst x y a n c, .int .i64 i, .int .i64 j, .int .i64 u, .int .i64 v] w (RetRE w (cropR x y n l i j u v)) := by
  have HL := hidP h.len
  have H := hidP h
  have hcn := h.2.1
  clear h
  have HM := hidP (fun u => p_May x y a n c u)
  have HU := hidP (fun w => p_side u w); have HV := hidP (fun w => p_side v w)
  by_cases hok : mayR x y n = true ∧ 0 ≤ i ∧ 0 ≤ j ∧ 1 ≤ u ∧ u ≤ 64 ∧ 1 ≤ v ∧ v ≤ 64 ∧ i + u ≤ x ∧ j + v ≤ y
  · have hR : cropR x y n l i j u v = ((u, v, cropL x.toNat l i.toNat j.toNat u.toNat v.toNat), 0) := if_pos hok
    obtain ⟨hm, hi0, hj0, hu1, hu2, hv1, hv2, hiu, hjv⟩ := hok
    rw [hm] at HM
    rw [decide_eq_true ⟨hu1, hu2⟩] at HU
    rw [decide_eq_true ⟨hv1, hv2⟩] at HV
    have hmm := of_decide_eq_true hm
    obtain ⟨m1, m2, m3, m4, m5⟩ := hmm
    have hbx := mul_box m1 m2 m3 m4
    obtain ⟨X, rfl⟩ : ∃ X : Nat, x = (X : Int) := ⟨x.toNat, by omega⟩
    obtain ⟨Y, rfl⟩ : ∃ Y : Nat, y = (Y : Int) := ⟨y.toNat, by omega⟩
    obtain ⟨I, rfl⟩ : ∃ I : Nat, i = (I : Int) := ⟨i.toNat, by omega⟩
    obtain ⟨J, rfl⟩ : ∃ J : Nat, j = (J : Int) := ⟨j.toNat, by omega⟩
    obtain ⟨U, rfl⟩ : ∃ U : Nat, u = (U : Int) := ⟨u.toNat, by omega⟩
    obtain ⟨V, rfl⟩ : ∃ V : Nat, v = (V : Int) := ⟨v.toNat, by omega⟩
    have HXY : Hid (n = Y * X) := hidP (by rw [Nat.mul_comm]; exact_mod_cast m5)
    have hn4 : n ≤ 4096 := by omega
    have hn0 : 0 < n := by omega
    simp only [Int.toNat_natCast] at hR
    have HR := hidP hR
    have HC0 := hidP (cropL_zero X l I J U); have HCS := hidP (fun k => cropL_snoc X l I J U k)
    obtain ⟨g, off, rfl, hcell⟩ := H.out.2.2.2 hn0
    have HCELL := hidP hcell
    clear hm m5 hbx hR hcell
    generalize cropR X Y n l I J U V = rr at *
    go_enter Try.func61, Try.ntmps61
    go_wp2_with fail
    refine absC (fun x1 hx1 => ?_)
    have hx : Ext w x1 := by rw [hx1]; exact (((Ext.refl _).alloc _).alloc _)
    have bp : Bl x1 (w.heap.size) #[.int .i64 (X : Int), .int .i64 (Y : Int), .slice (some ⟨g, off, none⟩) n c] := by rw [hx1]; exact ((Bl.new (by simp)).alloc (by simp))
    have bs : Bl x1 (w.heap.size + 1) #[.int .i64 0, .int .i64 0, .slice none 0 0] := by rw [hx1]; exact (Bl.new (by simp))
    have fs : Fz x1 (w.heap.size + 1) := by rw [hx1]; exact (Fz.new (by simp))
    have HE := hx
    clear hx
    clear hx1
    refine (HM.out _).mono ?_
    rintro e u1 ⟨rfl, hx⟩
    replace bp := Bl.ext hx bp (Nat.succ_pos _)
    replace fs := Fz.ext hx fs bs (Nat.succ_pos _)
    replace bs := Bl.ext hx bs (Nat.succ_pos _)
    replace HE := HE.trans hx
    clear hx
    go_wp2_with fail
    refine (HU.out _).mono ?_
    rintro e u2 ⟨rfl, rfl⟩
    go_wp2_with fail
    refine (HV.out _).mono ?_
    rintro e u3 ⟨rfl, rfl⟩
    have lpx := bp.lt (Nat.succ_pos _); have lsx := bs.lt (Nat.succ_pos _)
    go_upto_region 4 with fail
    refine absW (fun x2 hx2 => ?_)
    have hx : Ext u1 x2 := by rw [hx2]; exact ((Ext.refl _).alloc _)
    have bt : Bl x2 (u1.heap.size) #[.int .i64 (U : Int), .int .i64 (V : Int), .slice none 0 0] := by rw [hx2]; exact (Bl.new (by simp))
    have ft : Fz x2 (u1.heap.size) := by rw [hx2]; exact (Fz.new (by simp))
    replace bp := Bl.ext hx bp (Nat.succ_pos _)
    replace fs := Fz.ext hx fs bs (Nat.succ_pos _)
    replace bs := Bl.ext hx bs (Nat.succ_pos _)
    replace HE := HE.trans hx
    clear hx
    clear hx2
    have hgw : w.heap.size + 1 < u1.heap.size := by omega
    clear lpx lsx
    generalize u1.heap.size = ga at *
    have hB : ga + 1 ≤ x2.heap.size := by have := bt.lt (Nat.succ_pos _); omega
    have hz0 : x2.ownsRow (ga + 1) 73 4 (.slice none 0 0) (U * 0) (cols (cropL X l I J U 0)) := World.ownsRow_nil _ _ _ _
    go_wp2_with fail
    go_loopw [57] (fun iv wr => ∃ (k : Nat) (v : Value), k ≤ V ∧ iv = .int .i64 (k : Int) ∧ wr.ownsRow (ga + 1) 73 4 v (U * k) (cols (cropL X l I J U k)) ∧ Bl wr ga #[.int .i64 (U : Int), .int .i64 (V : Int), v] ∧ Fz wr ga ∧ Bl wr w.heap.size #[.int .i64 (X : Int), .int .i64 (Y : Int), .slice (some ⟨g, off, none⟩) n c] ∧ Bl wr (w.heap.size + 1) #[.int .i64 0, .int .i64 0, .slice none 0 0] ∧ Fz wr (w.heap.size + 1) ∧ ga + 1 ≤ wr.heap.size ∧ Ext w wr) (fun iv _ => V - (intOf iv).toNat)
    case atStart => exact ⟨0, _, by omega, rfl, hz0, bt, ft, bp, bs, fs, hB, HE⟩
    case round =>
      clear hz0 bt ft bp bs fs hB HE
      obtain ⟨k, v, hk, rfl, hown, bt, ft, bp, bs, fs, hB, HE⟩ := hrel
      by_cases hlt : k < V
      · have hlt0 := hlt
        have hin := crop_in HXY.out (by omega : I + U ≤ X) (by omega : J + V ≤ Y) hlt hn4
        obtain ⟨P, hP⟩ : ∃ P : Nat, P = (J + k) * X + I := ⟨_, rfl⟩
        have hcs := HCS.out k
        rw [← hP] at hin hcs
        have hPI : ((J : Int) + (k : Int)) * (X : Int) + (I : Int) = (P : Int) := by rw [hP]; simp
        have hb1 : 0 ≤ ((J : Int) + (k : Int)) * (X : Int) := Int.mul_nonneg (by omega) (by omega)
        have hb2 : ((J : Int) + (k : Int)) * (X : Int) ≤ 4096 := by omega
        have hPn : P + U ≤ n := hin
        have hPc : P + U ≤ c := by omega
        have hPart := cols_part l P U (by rw [HL.out]; exact hPn)
        have hlen : (cols ((l.drop P).take U)).length = U * 4 := by rw [cols_len, List.length_take, List.length_drop, HL.out]; congr 1; omega
        generalize (l.drop P).take U = news at *
        have HPART := hidP hPart; have HLEN := hidP hlen; have HCK := hidP hcs
        have hUk : U * k ≤ 4096 := Nat.le_trans (Nat.mul_le_mul (by omega : U ≤ 64) (by omega : k ≤ 64)) (by omega)
        have HW : Hid (IntKind.i64.wrap ((P : Int) + (U : Int)) = (P : Int) + (U : Int)) := hidP (IntWalk.i64_in _ (by omega))
        have HS : Hid ((0 ≤ (P : Int) + (U : Int) ∧ (P : Int) + (U : Int) ≤ (c : Int)) ∧ P ≤ ((P : Int) + (U : Int)).toNat ∧ ¬ c = P ∧ ((P : Int) + (U : Int)).toNat - P = U) := hidP ⟨⟨by omega, by omega⟩, by omega, by omega, by omega⟩
        clear hP hPart hlen hcs hin
        go_upto_region 8 with fail
        refine wp_region_plan (R := Below (ga + 1)) (.q 0 (.q 1 (.q 2 (.q 3 (.q 4 (.q 5 (.q 6 (.q 7 (.q 8 (.l 9 (.q 10 (.b 11 .done)))))))))))) (by kernel_rfl) (by kernel_rfl) (by kernel_rfl) (by kernel_rfl) (Below.refl _) (fun _ _ _ => Below.trans) ?_
        refine absE (fun x3 hx3 => ?_)
        have hx : Ext wr x3 := by rw [hx3]; exact (Ext.refl _).drew
        replace hown : x3.ownsRow (ga + 1) 73 4 v (U * k) (cols (cropL X l I J U k)) := by rw [hx3]; exact hown.drew
        replace ft := Fz.ext hx ft bt (Nat.succ_pos _)
        replace bt := Bl.ext hx bt (Nat.succ_pos _)
        replace bp := Bl.ext hx bp (Nat.succ_pos _)
        replace fs := Fz.ext hx fs bs (Nat.succ_pos _)
        replace bs := Bl.ext hx bs (Nat.succ_pos _)
        replace hB := Nat.le_trans hB hx.size
        replace HE := HE.trans hx
        clear hx hx3
        repeat (refine wpE_q (v := ?_) rfl rfl (fun u hu => ?_) ?_; rotate_left 1; (focus (have kt := Bl.lowB hu bt (by omega); have kp := Bl.lowB hu bp (by omega); have wq := HW.out; go_simp; (first | rfl | (rw [if_pos HS.out.1, if_pos HS.out.2.1, if_neg HS.out.2.2.1, HS.out.2.2.2]) | skip))); simp only [Act.put, List.setIfInBounds_toArray, List.set_cons_zero, List.set_cons_succ])
        refine wpE_l rfl rfl (fun K hK => ?_)
        refine wp_appB (ad := ⟨g, off + P * 4, none⟩) (m := U) (c := c - P) T_col _ _ rfl hown hB (cols news) rfl rfl HLEN.out (fun t u ht => ?_) (cols_one _) (by omega) (by omega) ?_
        · rw [add_none, Nat.add_assoc]
          exact HE.cell' (HCELL.out _ _ (HPART.out t u ht))
        intro v2 w2 hown2 hlow
        refine hK.out _ _ hlow ?_
        clear hK K
        try simp only [Act.put, List.setIfInBounds_toArray, List.set_cons_zero, List.set_cons_succ]
        obtain ⟨a2, c2, rfl, hs2⟩ := SlK.of_owns hown2
        replace ft := Fz.lowB hlow ft (by omega)
        replace bt := Bl.lowB hlow bt (by omega)
        replace bp := Bl.lowB hlow bp (by omega)
        replace fs := Fz.lowB hlow fs (by omega)
        replace bs := Bl.lowB hlow bs (by omega)
        replace hB := Nat.le_trans hB hlow.size
        replace HE := Below.trans HE (hlow.mono (by omega))
        clear hlow hown hs2
        repeat (refine wpE_q (v := ?_) rfl rfl (fun u hu => ?_) ?_; rotate_left 1; (focus (have kt := Bl.lowB hu bt (by omega); go_simp; (try rfl))); simp only [Act.put, List.setIfInBounds_toArray, List.set_cons_zero, List.set_cons_succ])
        refine wpE_b rfl rfl (fun K hK => ?_)
        go_simp
        refine hK.out _ _ ?_
        clear hK K
        try simp only [Act.put, List.setIfInBounds_toArray, List.set_cons_zero, List.set_cons_succ]
        refine wpE_done ?_
        have hb2 : But w2 (w2.setCell ⟨ga, 2, none⟩ (.slice a2 (U * k + U) c2)) ga := (But.refl _ _).store
        go_wp2_with fail
        go_roundw
        case rel =>
          refine ⟨k + 1, _, by omega, by go_num, ?_, bt.set (by simp), ft.set, hb2.bl bp (Nat.succ_pos _) (by omega), hb2.bl bs (Nat.succ_pos _) (by omega), hb2.fz fs bs (Nat.succ_pos _) (by omega), Nat.le_trans hB hb2.1, HE.setCell (by show w.heap.size ≤ ga; omega) _⟩
          rw [HCK.out, cols_append]
          exact hb2.rowB hown2 (by omega)
        case measure => simp only [intOf]; omega
      · obtain rfl : k = V := by omega
        obtain ⟨a2, c2, rfl, hs2⟩ := SlK.of_owns hown
        clear hown
        go_wp2_with fail
        refine absB (fun ue hue => ?_)
        have hbs : Bl ue ((w.heap.size + 1)) #[.int .i64 (U : Int), .int .i64 (k : Int), .slice a2 (U * k) c2] := by rw [hue]; exact (((bs.set (by simp)).set (by simp)).set (by simp))
        have hnc : ∀ {aa : Option Addr} {nn cc : Nat} {ll : List Col}, SlC wr aa nn cc ll → SlC ue aa nn cc ll := fun h => by
          rw [hue]
          exact h.but bs (not_u8s) ((But.refl _ _).store.store.store)
        have heu : Ext w ue := by rw [hue]; exact ((HE.store (by show w.heap.size ≤ (w.heap.size + 1); omega) _).store (by show w.heap.size ≤ (w.heap.size + 1); omega) _).store (by show w.heap.size ≤ (w.heap.size + 1); omega) _
        clear hue
        refine bodyPost_cells_tmp2 rfl rfl Try.underlying69 rfl (by kernel_rfl) (blk_three hbs) rfl rfl ?_
        rw [HR.out]
        exact ⟨_, _, _, rfl, hnc hs2, heu⟩
  · have HR : Hid (cropR x y n l i j u v = ((0, 0, []), 2)) := hidP (if_neg hok)
    generalize cropR x y n l i j u v = rr at *
    cases hm : mayR x y n
    · rw [hm] at HM
      clear hok hm
      go_enter Try.func61, Try.ntmps61
      go_wp2_with fail
      refine absC (fun x1 hx1 => ?_)
      have hx : Ext w x1 := by rw [hx1]; exact (((Ext.refl _).alloc _).alloc _)
      have bp : Bl x1 (w.heap.size) #[.int .i64 x, .int .i64 y, .slice a n c] := by rw [hx1]; exact ((Bl.new (by simp)).alloc (by simp))
      have bs : Bl x1 (w.heap.size + 1) #[.int .i64 0, .int .i64 0, .slice none 0 0] := by rw [hx1]; exact (Bl.new (by simp))
      have fs : Fz x1 (w.heap.size + 1) := by rw [hx1]; exact (Fz.new (by simp))
      have HE := hx
      clear hx
      clear hx1
      refine (HM.out _).mono ?_
      rintro e u1 ⟨rfl, hx⟩
      replace bp := Bl.ext hx bp (Nat.succ_pos _)
      replace fs := Fz.ext hx fs bs (Nat.succ_pos _)
      replace bs := Bl.ext hx bs (Nat.succ_pos _)
      replace HE := HE.trans hx
      clear hx
      go_wp2_with fail
      refine absB (fun ue hue => ?_)
      have hbs : Bl ue ((w.heap.size + 1)) #[.int .i64 0, .int .i64 0, .slice none 0 0] := by rw [hue]; exact (((bs.set (by simp)).set (by simp)).set (by simp))
      have hnc : ∀ {aa : Option Addr} {nn cc : Nat} {ll : List Col}, SlC u1 aa nn cc ll → SlC ue aa nn cc ll := fun h => by
        rw [hue]
        exact h.but bs (not_u8s) ((But.refl _ _).store.store.store)
      have heu : Ext w ue := by rw [hue]; exact ((HE.store (by show w.heap.size ≤ (w.heap.size + 1); omega) _).store (by show w.heap.size ≤ (w.heap.size + 1); omega) _).store (by show w.heap.size ≤ (w.heap.size + 1); omega) _
      clear hue
      refine bodyPost_cells_tmp2 rfl rfl Try.underlying69 rfl (by kernel_rfl) (blk_three hbs) rfl rfl ?_
      rw [HR.out]
      exact ⟨none, 0, 0, rfl, SlK.nil 4 _, heu⟩
    · rw [hm] at HM
      have hmm := of_decide_eq_true hm
      obtain ⟨m1, m2, m3, m4, m5⟩ := hmm
      clear m5
      by_cases hu : 1 ≤ u ∧ u ≤ 64
      · rw [decide_eq_true hu] at HU
        obtain ⟨hu1, hu2⟩ := hu
        by_cases hv : 1 ≤ v ∧ v ≤ 64
        · rw [decide_eq_true hv] at HV
          obtain ⟨hv1, hv2⟩ := hv
          have hcs : i < 0 ∨ (0 ≤ i ∧ x - u < i) ∨ (0 ≤ i ∧ i ≤ x - u ∧ j < 0) ∨ (0 ≤ i ∧ i ≤ x - u ∧ 0 ≤ j ∧ y - v < j) := by
            have : ¬ (0 ≤ i ∧ 0 ≤ j ∧ i + u ≤ x ∧ j + v ≤ y) := fun h => hok ⟨hm, h.1, h.2.1, hu1, hu2, hv1, hv2, h.2.2.1, h.2.2.2⟩
            omega
          clear hok hm
          rcases hcs with h1 | ⟨h0, h1⟩ | ⟨h0, h1, h2⟩ | ⟨h0, h1, h2, h3⟩
          · go_enter Try.func61, Try.ntmps61
            go_wp2_with fail
            refine absC (fun x1 hx1 => ?_)
            have hx : Ext w x1 := by rw [hx1]; exact (((Ext.refl _).alloc _).alloc _)
            have bp : Bl x1 (w.heap.size) #[.int .i64 x, .int .i64 y, .slice a n c] := by rw [hx1]; exact ((Bl.new (by simp)).alloc (by simp))
            have bs : Bl x1 (w.heap.size + 1) #[.int .i64 0, .int .i64 0, .slice none 0 0] := by rw [hx1]; exact (Bl.new (by simp))
            have fs : Fz x1 (w.heap.size + 1) := by rw [hx1]; exact (Fz.new (by simp))
            have HE := hx
            clear hx
            clear hx1
            refine (HM.out _).mono ?_
            rintro e u1 ⟨rfl, hx⟩
            replace bp := Bl.ext hx bp (Nat.succ_pos _)
            replace fs := Fz.ext hx fs bs (Nat.succ_pos _)
            replace bs := Bl.ext hx bs (Nat.succ_pos _)
            replace HE := HE.trans hx
            clear hx
            go_wp2_with fail
            refine (HU.out _).mono ?_
            rintro e u2 ⟨rfl, rfl⟩
            go_wp2_with fail
            refine (HV.out _).mono ?_
            rintro e u3 ⟨rfl, rfl⟩
            go_wp2_with fail
            refine absB (fun ue hue => ?_)
            have hbs : Bl ue ((w.heap.size + 1)) #[.int .i64 0, .int .i64 0, .slice none 0 0] := by rw [hue]; exact (((bs.set (by simp)).set (by simp)).set (by simp))
            have hnc : ∀ {aa : Option Addr} {nn cc : Nat} {ll : List Col}, SlC u1 aa nn cc ll → SlC ue aa nn cc ll := fun h => by
              rw [hue]
              exact h.but bs (not_u8s) ((But.refl _ _).store.store.store)
            have heu : Ext w ue := by rw [hue]; exact ((HE.store (by show w.heap.size ≤ (w.heap.size + 1); omega) _).store (by show w.heap.size ≤ (w.heap.size + 1); omega) _).store (by show w.heap.size ≤ (w.heap.size + 1); omega) _
            clear hue
            refine bodyPost_cells_tmp2 rfl rfl Try.underlying69 rfl (by kernel_rfl) (blk_three hbs) rfl rfl ?_
            rw [HR.out]
            exact ⟨none, 0, 0, rfl, SlK.nil 4 _, heu⟩
          · go_enter Try.func61, Try.ntmps61
            go_wp2_with fail
            refine absC (fun x1 hx1 => ?_)
            have hx : Ext w x1 := by rw [hx1]; exact (((Ext.refl _).alloc _).alloc _)
            have bp : Bl x1 (w.heap.size) #[.int .i64 x, .int .i64 y, .slice a n c] := by rw [hx1]; exact ((Bl.new (by simp)).alloc (by simp))
            have bs : Bl x1 (w.heap.size + 1) #[.int .i64 0, .int .i64 0, .slice none 0 0] := by rw [hx1]; exact (Bl.new (by simp))
            have fs : Fz x1 (w.heap.size + 1) := by rw [hx1]; exact (Fz.new (by simp))
            have HE := hx
            clear hx
            clear hx1
            refine (HM.out _).mono ?_
            rintro e u1 ⟨rfl, hx⟩
            replace bp := Bl.ext hx bp (Nat.succ_pos _)
            replace fs := Fz.ext hx fs bs (Nat.succ_pos _)
            replace bs := Bl.ext hx bs (Nat.succ_pos _)
            replace HE := HE.trans hx
            clear hx
            go_wp2_with fail
            refine (HU.out _).mono ?_
            rintro e u2 ⟨rfl, rfl⟩
            go_wp2_with fail
            refine (HV.out _).mono ?_
            rintro e u3 ⟨rfl, rfl⟩
            go_wp2_with fail
            refine absB (fun ue hue => ?_)
            have hbs : Bl ue ((w.heap.size + 1)) #[.int .i64 0, .int .i64 0, .slice none 0 0] := by rw [hue]; exact (((bs.set (by simp)).set (by simp)).set (by simp))
            have hnc : ∀ {aa : Option Addr} {nn cc : Nat} {ll : List Col}, SlC u1 aa nn cc ll → SlC ue aa nn cc ll := fun h => by
              rw [hue]
              exact h.but bs (not_u8s) ((But.refl _ _).store.store.store)
            have heu : Ext w ue := by rw [hue]; exact ((HE.store (by show w.heap.size ≤ (w.heap.size + 1); omega) _).store (by show w.heap.size ≤ (w.heap.size + 1); omega) _).store (by show w.heap.size ≤ (w.heap.size + 1); omega) _
            clear hue
            refine bodyPost_cells_tmp2 rfl rfl Try.underlying69 rfl (by kernel_rfl) (blk_three hbs) rfl rfl ?_
            rw [HR.out]
            exact ⟨none, 0, 0, rfl, SlK.nil 4 _, heu⟩
          · go_enter Try.func61, Try.ntmps61
            go_wp2_with fail
            refine absC (fun x1 hx1 => ?_)
            have hx : Ext w x1 := by rw [hx1]; exact (((Ext.refl _).alloc _).alloc _)
            have bp : Bl x1 (w.heap.size) #[.int .i64 x, .int .i64 y, .slice a n c] := by rw [hx1]; exact ((Bl.new (by simp)).alloc (by simp))
            have bs : Bl x1 (w.heap.size + 1) #[.int .i64 0, .int .i64 0, .slice none 0 0] := by rw [hx1]; exact (Bl.new (by simp))
            have fs : Fz x1 (w.heap.size + 1) := by rw [hx1]; exact (Fz.new (by simp))
            have HE := hx
            clear hx
            clear hx1
            refine (HM.out _).mono ?_
            rintro e u1 ⟨rfl, hx⟩
            replace bp := Bl.ext hx bp (Nat.succ_pos _)
            replace fs := Fz.ext hx fs bs (Nat.succ_pos _)
            replace bs := Bl.ext hx bs (Nat.succ_pos _)
            replace HE := HE.trans hx
            clear hx
            go_wp2_with fail
            refine (HU.out _).mono ?_
            rintro e u2 ⟨rfl, rfl⟩
            go_wp2_with fail
            refine (HV.out _).mono ?_
            rintro e u3 ⟨rfl, rfl⟩
            go_wp2_with fail
            refine absB (fun ue hue => ?_)
            have hbs : Bl ue ((w.heap.size + 1)) #[.int .i64 0, .int .i64 0, .slice none 0 0] := by rw [hue]; exact (((bs.set (by simp)).set (by simp)).set (by simp))
            have hnc : ∀ {aa : Option Addr} {nn cc : Nat} {ll : List Col}, SlC u1 aa nn cc ll → SlC ue aa nn cc ll := fun h => by
              rw [hue]
              exact h.but bs (not_u8s) ((But.refl _ _).store.store.store)
            have heu : Ext w ue := by rw [hue]; exact ((HE.store (by show w.heap.size ≤ (w.heap.size + 1); omega) _).store (by show w.heap.size ≤ (w.heap.size + 1); omega) _).store (by show w.heap.size ≤ (w.heap.size + 1); omega) _
            clear hue
            refine bodyPost_cells_tmp2 rfl rfl Try.underlying69 rfl (by kernel_rfl) (blk_three hbs) rfl rfl ?_
            rw [HR.out]
            exact ⟨none, 0, 0, rfl, SlK.nil 4 _, heu⟩
          · go_enter Try.func61, Try.ntmps61
            go_wp2_with fail
            refine absC (fun x1 hx1 => ?_)
            have hx : Ext w x1 := by rw [hx1]; exact (((Ext.refl _).alloc _).alloc _)
            have bp : Bl x1 (w.heap.size) #[.int .i64 x, .int .i64 y, .slice a n c] := by rw [hx1]; exact ((Bl.new (by simp)).alloc (by simp))
            have bs : Bl x1 (w.heap.size + 1) #[.int .i64 0, .int .i64 0, .slice none 0 0] := by rw [hx1]; exact (Bl.new (by simp))
            have fs : Fz x1 (w.heap.size + 1) := by rw [hx1]; exact (Fz.new (by simp))
            have HE := hx
            clear hx
            clear hx1
            refine (HM.out _).mono ?_
            rintro e u1 ⟨rfl, hx⟩
            replace bp := Bl.ext hx bp (Nat.succ_pos _)
            replace fs := Fz.ext hx fs bs (Nat.succ_pos _)
            replace bs := Bl.ext hx bs (Nat.succ_pos _)
            replace HE := HE.trans hx
            clear hx
            go_wp2_with fail
            refine (HU.out _).mono ?_
            rintro e u2 ⟨rfl, rfl⟩
            go_wp2_with fail
            refine (HV.out _).mono ?_
            rintro e u3 ⟨rfl, rfl⟩
            go_wp2_with fail
            refine absB (fun ue hue => ?_)
            have hbs : Bl ue ((w.heap.size + 1)) #[.int .i64 0, .int .i64 0, .slice none 0 0] := by rw [hue]; exact (((bs.set (by simp)).set (by simp)).set (by simp))
            have hnc : ∀ {aa : Option Addr} {nn cc : Nat} {ll : List Col}, SlC u1 aa nn cc ll → SlC ue aa nn cc ll := fun h => by
              rw [hue]
              exact h.but bs (not_u8s) ((But.refl _ _).store.store.store)
            have heu : Ext w ue := by rw [hue]; exact ((HE.store (by show w.heap.size ≤ (w.heap.size + 1); omega) _).store (by show w.heap.size ≤ (w.heap.size + 1); omega) _).store (by show w.heap.size ≤ (w.heap.size + 1); omega) _
            clear hue
            refine bodyPost_cells_tmp2 rfl rfl Try.underlying69 rfl (by kernel_rfl) (blk_three hbs) rfl rfl ?_
            rw [HR.out]
            exact ⟨none, 0, 0, rfl, SlK.nil 4 _, heu⟩
        · rw [decide_eq_false hv] at HV
          clear hok hm hv
          go_enter Try.func61, Try.ntmps61
          go_wp2_with fail
          refine absC (fun x1 hx1 => ?_)
          have hx : Ext w x1 := by rw [hx1]; exact (((Ext.refl _).alloc _).alloc _)
          have bp : Bl x1 (w.heap.size) #[.int .i64 x, .int .i64 y, .slice a n c] := by rw [hx1]; exact ((Bl.new (by simp)).alloc (by simp))
          have bs : Bl x1 (w.heap.size + 1) #[.int .i64 0, .int .i64 0, .slice none 0 0] := by rw [hx1]; exact (Bl.new (by simp))
          have fs : Fz x1 (w.heap.size + 1) := by rw [hx1]; exact (Fz.new (by simp))
          have HE := hx
          clear hx
          clear hx1
          refine (HM.out _).mono ?_
          rintro e u1 ⟨rfl, hx⟩
          replace bp := Bl.ext hx bp (Nat.succ_pos _)
          replace fs := Fz.ext hx fs bs (Nat.succ_pos _)
          replace bs := Bl.ext hx bs (Nat.succ_pos _)
          replace HE := HE.trans hx
          clear hx
          go_wp2_with fail
          refine (HU.out _).mono ?_
          rintro e u2 ⟨rfl, rfl⟩
          go_wp2_with fail
          refine (HV.out _).mono ?_
          rintro e u3 ⟨rfl, rfl⟩
          go_wp2_with fail
          refine absB (fun ue hue => ?_)
          have hbs : Bl ue ((w.heap.size + 1)) #[.int .i64 0, .int .i64 0, .slice none 0 0] := by rw [hue]; exact (((bs.set (by simp)).set (by simp)).set (by simp))
          have hnc : ∀ {aa : Option Addr} {nn cc : Nat} {ll : List Col}, SlC u1 aa nn cc ll → SlC ue aa nn cc ll := fun h => by
            rw [hue]
            exact h.but bs (not_u8s) ((But.refl _ _).store.store.store)
          have heu : Ext w ue := by rw [hue]; exact ((HE.store (by show w.heap.size ≤ (w.heap.size + 1); omega) _).store (by show w.heap.size ≤ (w.heap.size + 1); omega) _).store (by show w.heap.size ≤ (w.heap.size + 1); omega) _
          clear hue
          refine bodyPost_cells_tmp2 rfl rfl Try.underlying69 rfl (by kernel_rfl) (blk_three hbs) rfl rfl ?_
          rw [HR.out]
          exact ⟨none, 0, 0, rfl, SlK.nil 4 _, heu⟩
      · rw [decide_eq_false hu] at HU
        clear hok hm hu
        go_enter Try.func61, Try.ntmps61
        go_wp2_with fail
        refine absC (fun x1 hx1 => ?_)
        have hx : Ext w x1 := by rw [hx1]; exact (((Ext.refl _).alloc _).alloc _)
        have bp : Bl x1 (w.heap.size) #[.int .i64 x, .int .i64 y, .slice a n c] := by rw [hx1]; exact ((Bl.new (by simp)).alloc (by simp))
        have bs : Bl x1 (w.heap.size + 1) #[.int .i64 0, .int .i64 0, .slice none 0 0] := by rw [hx1]; exact (Bl.new (by simp))
        have fs : Fz x1 (w.heap.size + 1) := by rw [hx1]; exact (Fz.new (by simp))
        have HE := hx
        clear hx
        clear hx1
        refine (HM.out _).mono ?_
        rintro e u1 ⟨rfl, hx⟩
        replace bp := Bl.ext hx bp (Nat.succ_pos _)
        replace fs := Fz.ext hx fs bs (Nat.succ_pos _)
        replace bs := Bl.ext hx bs (Nat.succ_pos _)
        replace HE := HE.trans hx
        clear hx
        go_wp2_with fail
        refine (HU.out _).mono ?_
        rintro e u2 ⟨rfl, rfl⟩
        go_wp2_with fail
        refine absB (fun ue hue => ?_)
        have hbs : Bl ue ((w.heap.size + 1)) #[.int .i64 0, .int .i64 0, .slice none 0 0] := by rw [hue]; exact (((bs.set (by simp)).set (by simp)).set (by simp))
        have hnc : ∀ {aa : Option Addr} {nn cc : Nat} {ll : List Col}, SlC u1 aa nn cc ll → SlC ue aa nn cc ll := fun h => by
          rw [hue]
          exact h.but bs (not_u8s) ((But.refl _ _).store.store.store)
        have heu : Ext w ue := by rw [hue]; exact ((HE.store (by show w.heap.size ≤ (w.heap.size + 1); omega) _).store (by show w.heap.size ≤ (w.heap.size + 1); omega) _).store (by show w.heap.size ≤ (w.heap.size + 1); omega) _
        clear hue
        refine bodyPost_cells_tmp2 rfl rfl Try.underlying69 rfl (by kernel_rfl) (blk_three hbs) rfl rfl ?_
        rw [HR.out]
        exact ⟨none, 0, 0, rfl, SlK.nil 4 _, heu⟩

end Go.Proofs.Ytogcmnagiepofaa
