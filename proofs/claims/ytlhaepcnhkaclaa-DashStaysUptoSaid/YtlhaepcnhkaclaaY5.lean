/- Dashes: the point at a distance. -/
import Derived.Test.YtlhaepcnhkaclaaY4
namespace Go.Proofs.Ytlhaepcnhkaclaa
set_option linter.unusedVariables false
set_option linter.unusedSimpArgs false
open Go Go.RowKit

theorem ways_bd : ∀ (l : List Pt) (s : Int) (x : Way), x ∈ waysF l s → s ≤ x.2.1 ∧ x.2.1 + x.2.2 ≤ s + path lenP l ∧ 0 < x.2.2 ∧ x.2.2 ≤ 33554431 ∧ x.1.1 ∈ l ∧ x.1.2 ∈ l ∧ x.2.2 = lenP x.1.1 x.1.2
  | [], _, _, h => absurd h (by simp [waysF])
  | [_], _, _, h => absurd h (by simp [waysF])
  | p :: q :: r, s, x, h => by
    have hb := lenP_bd p q
    have hp := (path_len_bd (q :: r)).1
    have key : ∀ s', s ≤ s' → s' + path lenP (q :: r) ≤ s + path lenP (p :: q :: r) → x ∈ waysF (q :: r) s' → _ := fun s' e1 e2 hx => by
      obtain ⟨h1, h2, h3, h4, h5, h6, h7⟩ := ways_bd (q :: r) s' x hx
      exact (⟨by omega, by omega, h3, h4, List.mem_cons_of_mem _ h5, List.mem_cons_of_mem _ h6, h7⟩ : s ≤ x.2.1 ∧ x.2.1 + x.2.2 ≤ s + path lenP (p :: q :: r) ∧ 0 < x.2.2 ∧ x.2.2 ≤ 33554431 ∧ x.1.1 ∈ p :: q :: r ∧ x.1.2 ∈ p :: q :: r ∧ x.2.2 = lenP x.1.1 x.1.2)
    unfold waysF at h
    by_cases h0 : 0 < lenP p q
    · rw [if_pos h0] at h
      rcases List.mem_cons.1 h with rfl | h
      · refine ⟨Int.le_refl _, ?_, h0, hb.2, List.mem_cons_self, List.mem_cons_of_mem _ List.mem_cons_self, rfl⟩
        simp only [path]
        omega
      · exact key _ (by omega) (by simp only [path]; omega) h
    · rw [if_neg h0] at h
      exact key _ (by omega) (by simp only [path]; omega) h
/-- Ways whose numbers are small. -/
def okW (ws : List Way) : Prop := ∀ x ∈ ws, 0 ≤ x.2.1 ∧ x.2.1 ≤ 140737484161024 ∧ 0 ≤ x.2.2 ∧ x.2.2 ≤ 33554431
theorem okW_ways {l : List Pt} (h : l.length ≤ 4194304) : okW (waysF l 0) := fun x hx => by
  have h1 := ways_bd l 0 x hx
  have h2 := path_len_bd l
  omega
theorem find_drop {ws : List Way} {j : Nat} {m : Int} (h : j < ws.length) : findD (0, 0) (ws.drop j) m = if m ≤ ws[j].2.1 + ws[j].2.2 then ahP ws[j].1.1 ws[j].1.2 (m - ws[j].2.1) else findD (0, 0) (ws.drop (j + 1)) m := by
  rw [List.drop_eq_getElem_cons h]
  rfl

set_option maxRecDepth 100000 in
set_option maxHeartbeats 4000000 in
theorem dd_find (a : Option Addr) (n cap : Nat) (ws : List Way) (m : Int) (w : World) (h : SlW w a n cap ws) (hb : okW ws) (m1 : -4611686018427387904 ≤ m) (m2 : m ≤ 4611686018427387904) :
    Calls Try.prog 35 #[.slice a n cap, .int .i64 m] w fun e w' => e = .returned (.agg #[.int .i64 (findD (0, 0) ws m).1, .int .i64 (findD (0, 0) ws m).2]) ∧ Ext w w' := by
  have H := hidP h
  have HLN := hidP h.len
  have hcap : n ≤ maxLen := Nat.le_trans h.2.1 h.2.2.1
  unfold maxLen at hcap
  have HB := hidP hb
  have HJ0 : Hid (findD (0, 0) (ws.drop 0) m = findD (0, 0) ws m) := hidP rfl
  clear h hb
  generalize hr : findD (0, 0) ws m = r at *
  obtain ⟨rx, ry⟩ := r
  clear hr
  go_enter Try.func35, Try.ntmps35
  go_wp2_with fail
  refine absW (fun x1 hx1 => ?_)
  have hx : Ext w x1 := by rw [hx1]; exact ((Ext.refl _).alloc _)
  have bs : Bl x1 (w.heap.size) #[.int .i64 0, .int .i64 0] := by rw [hx1]; exact (Bl.new (by simp))
  have fs : Fz x1 (w.heap.size) := by rw [hx1]; exact (Fz.new (by simp))
  have HE := hx
  clear hx
  clear hx1
  go_wp2_with fail
  go_loopw [9] (fun iv wr => ∃ j : Nat, j ≤ n ∧ iv = .int .i64 (j : Int) ∧ Hid (findD (0, 0) (ws.drop j) m = (rx, ry)) ∧ Bl wr w.heap.size #[.int .i64 0, .int .i64 0] ∧ Fz wr w.heap.size ∧ Ext w wr) (fun iv _ => n - (intOf iv).toNat)
  case atStart => exact ⟨0, by omega, rfl, HJ0, bs, fs, HE⟩
  case round =>
    clear HE bs fs HJ0
    obtain ⟨j, hj, rfl, HJ, bs, fs, HE⟩ := hrel
    by_cases hlt : j < n
    · obtain ⟨g, off, rfl, hc⟩ := (H.out.ext HE).at (by omega)
      have hjl : j < ws.length := by rw [HLN.out]; exact hlt
      obtain ⟨c0, c1, c2, c3, c4, c5⟩ := hc j hjl
      have hst := find_drop (m := m) hjl
      rw [HJ.out] at hst
      have hbb := HB.out ws[j] (List.getElem_mem hjl)
      clear hc HJ
      generalize ws[j] = x at *
      obtain ⟨⟨⟨px, py⟩, ⟨qx, qy⟩⟩, s, k⟩ := x
      simp only [] at c0 c1 c2 c3 c4 c5 hbb hst
      obtain ⟨b1, b2, b3, b4⟩ := hbb
      by_cases hm : m ≤ s + k
      · rw [if_pos hm] at hst
        have hA := fun u => g_Ahead px py qx qy (m - s) u (by omega) (by omega)
        have e1 : ahX px py qx qy (m - s) = rx := congrArg Prod.fst hst.symm
        have e2 : ahY px py qx qy (m - s) = ry := congrArg Prod.snd hst.symm
        rw [e1, e2] at hA
        have HA := hidP hA
        clear hst hA e1 e2
        go_wp2_with fail
        refine absC (fun x11 hx11 => ?_)
        have hx : Ext wr x11 := by rw [hx11]; exact ((Ext.refl _).alloc _)
        have bx : Bl x11 (wr.heap.size) #[.int .i64 px, .int .i64 py, .int .i64 qx, .int .i64 qy, .int .i64 s, .int .i64 k] := by rw [hx11]; exact (Bl.new (by simp))
        replace fs := Fz.ext hx fs bs (Nat.succ_pos _)
        replace bs := Bl.ext hx bs (Nat.succ_pos _)
        replace HE := HE.trans hx
        clear hx
        clear hx11
        refine (HA.out _).mono ?_
        rintro e u1 ⟨rfl, hx⟩
        replace fs := Fz.ext hx fs bs (Nat.succ_pos _)
        replace bs := Bl.ext hx bs (Nat.succ_pos _)
        replace bx := Bl.ext hx bx (Nat.succ_pos _)
        replace HE := HE.trans hx
        clear hx
        go_wp2_with fail
        refine absB (fun ue hue => ?_)
        have hbs : Bl ue (w.heap.size) #[.int .i64 rx, .int .i64 ry] := by rw [hue]; exact (bs.set (by simp)).set (by simp)
        have heu : Ext w ue := by rw [hue]; exact (HE.store (by show w.heap.size ≤ w.heap.size; omega) _).store (by show w.heap.size ≤ w.heap.size; omega) _
        clear hue
        refine bodyPost_cells rfl rfl Try.underlying36 rfl (by kernel_rfl) (bl_two hbs) rfl ?_
        exact ⟨rfl, heu⟩
      · rw [if_neg hm] at hst
        have HS : Hid (findD (0, 0) (ws.drop (j + 1)) m = (rx, ry)) := hidP hst.symm
        clear hst
        go_upto_region 6 with fail
        refine absW (fun x11 hx11 => ?_)
        have hx : Ext wr x11 := by rw [hx11]; exact ((Ext.refl _).alloc _)
        have bx : Bl x11 (wr.heap.size) #[.int .i64 px, .int .i64 py, .int .i64 qx, .int .i64 qy, .int .i64 s, .int .i64 k] := by rw [hx11]; exact (Bl.new (by simp))
        replace fs := Fz.ext hx fs bs (Nat.succ_pos _)
        replace bs := Bl.ext hx bs (Nat.succ_pos _)
        replace HE := HE.trans hx
        clear hx
        clear hx11
        go_wp2_with fail
        go_roundw
        case rel => exact ⟨j + 1, by omega, by go_num, HS, bs, fs, HE⟩
        case measure => simp only [intOf]; omega
    · obtain rfl : j = n := by omega
      have HR : Hid ((0, 0) = ((rx, ry) : Pt)) := hidP (by have := HJ.out; rwa [List.drop_of_length_le (by rw [HLN.out]; omega)] at this)
      have e1 : (0 : Int) = rx := congrArg Prod.fst HR.out
      have e2 : (0 : Int) = ry := congrArg Prod.snd HR.out
      clear HJ HR
      subst e1; subst e2
      go_wp2_with fail
      refine absB (fun ue hue => ?_)
      have hbs : Bl ue (w.heap.size) #[.int .i64 0, .int .i64 0] := by rw [hue]; exact (bs.set (by simp)).set (by simp)
      have heu : Ext w ue := by rw [hue]; exact (HE.store (by show w.heap.size ≤ w.heap.size; omega) _).store (by show w.heap.size ≤ w.heap.size; omega) _
      clear hue
      refine bodyPost_cells rfl rfl Try.underlying36 rfl (by kernel_rfl) (bl_two hbs) rfl ?_
      exact ⟨rfl, heu⟩
theorem at_no {l : List Pt} {c : Bool} {m : Int} (h : l = [] ∨ fitL l = false ∨ m < 0 ∨ longL l c < m) : atF l c m = ((0, 0), false) := if_pos h
theorem at_yes {l : List Pt} {c : Bool} {m : Int} (h1 : l ≠ []) (h2 : fitL l = true) (h3 : 0 ≤ m) (h4 : m ≤ longL l c) : atF l c m = (atR (l.headD (0, 0)) (rndL l c) m, true) := if_neg (fun h => by
  rcases h with h | h | h | h
  · exact h1 h
  · rw [h2] at h; cases h
  · omega
  · omega)
theorem at_none {l : List Pt} {c : Bool} {m : Int} (h1 : l ≠ []) (h2 : fitL l = true) (h3 : 0 ≤ m) (h4 : m ≤ longL l c) (hw : waysF (rndL l c) 0 = []) : atF l c m = (l.headD (0, 0), true) := by
  rw [at_yes h1 h2 h3 h4]
  have := find_at (l.headD (0, 0)) (rndL l c) 0 m
  rw [hw, Int.sub_zero] at this
  rw [← this]
  rfl
theorem at_some {l : List Pt} {c : Bool} {m : Int} (h1 : l ≠ []) (h2 : fitL l = true) (h3 : 0 ≤ m) (h4 : m ≤ longL l c) (hw : waysF (rndL l c) 0 ≠ []) : atF l c m = (findD (0, 0) (waysF (rndL l c) 0) m, true) := by
  rw [at_yes h1 h2 h3 h4]
  have := find_at (l.headD (0, 0)) (rndL l c) 0 m
  rw [Int.sub_zero] at this
  rw [← this]
  have hp := path_rnd_long (c := c) h2
  rw [find_any (l.headD (0, 0)) (0, 0) _ _ _ hw (by omega)]
theorem long_bd {l : List Pt} {c : Bool} (h : l.length ≤ 4194303) : longL l c ≤ 140737484161024 := by
  cases hf : fitL l
  · rw [longL_no hf]; omega
  · rw [longL_yes hf]
    have := path_len_bd l
    have := backL_bd l c
    omega

set_option maxRecDepth 100000 in
set_option maxHeartbeats 4000000 in
theorem dd_At (a : Option Addr) (n cap : Nat) (l : List Pt) (c : Bool) (m : Int) (w : World) (h : SlP w a n cap l) (hn : n ≤ 4194303) (m1 : -9223372036854775808 ≤ m) (m2 : m ≤ 9223372036854775807) :
    Calls Try.prog 14 #[.agg #[.slice a n cap, .bool c], .int .i64 m] w fun e w' => e = .returned (.tuple #[.agg #[.int .i64 (atF l c m).1.1, .int .i64 (atF l c m).1.2], .bool (atF l c m).2]) ∧ Ext w w' := by
  have H := hidP h
  have HLN := hidP h.len
  have HF := hidP (fun u (t : SlP u a n cap l) => dd_fits a n cap l c u t)
  have HL := hidP (fun u (t : SlP u a n cap l) => g_Long a n cap l c u t (by omega))
  have HW := hidP (fun u (t : SlP u a n cap l) => dd_ways a n cap l c u t hn)
  have hlb := long_bd (l := l) (c := c) (by rw [h.len]; exact hn)
  have hl0 := long_nn l c
  clear h
  by_cases h0 : n = 0
  · have HR := hidP (at_no (c := c) (m := m) (.inl (List.length_eq_zero_iff.1 (by rw [HLN.out]; exact h0) : l = [])))
    subst h0
    go_enter Try.func14, Try.ntmps14
    go_upto_region 2 with fail
    refine absW (fun x1 hx1 => ?_)
    have hx : Ext w x1 := by rw [hx1]; exact (((Ext.refl _).alloc _).alloc _)
    have bp : Bl x1 (w.heap.size) #[.slice a 0 cap, .bool c] := by rw [hx1]; exact ((Bl.new (by simp)).alloc (by simp))
    have bs : Bl x1 (w.heap.size + 1) #[.int .i64 0, .int .i64 0] := by rw [hx1]; exact (Bl.new (by simp))
    have fs : Fz x1 (w.heap.size + 1) := by rw [hx1]; exact (Fz.new (by simp))
    have HE := hx
    clear hx
    clear hx1
    go_wp2_with fail
    refine absB (fun ue hue => ?_)
    have hbs : Bl ue (w.heap.size + 1) #[.int .i64 0, .int .i64 0] := by rw [hue]; exact (bs.set (by simp)).set (by simp)
    have heu : Ext w ue := by rw [hue]; exact (HE.store (by show w.heap.size ≤ w.heap.size + 1; omega) _).store (by show w.heap.size ≤ w.heap.size + 1; omega) _
    clear hue
    refine bodyPost_cells_tmp2 rfl rfl Try.underlying36 rfl (by kernel_rfl) (bl_two hbs) rfl rfl ?_
    rw [HR.out]
    exact ⟨rfl, heu⟩
  · have hne : l ≠ [] := List.length_pos_iff.1 (by rw [HLN.out]; omega)
    have hnb : ((n : Int) == 0) = false := by simp; omega
    cases hfl : fitL l
    · have HR := hidP (at_no (c := c) (m := m) (.inr (.inl hfl)))
      rw [hfl] at HF
      clear HL HW hlb hl0
      go_enter Try.func14, Try.ntmps14
      go_wp2_with fail
      refine absC (fun x1 hx1 => ?_)
      have hx : Ext w x1 := by rw [hx1]; exact (((Ext.refl _).alloc _).alloc _)
      have bp : Bl x1 (w.heap.size) #[.slice a n cap, .bool c] := by rw [hx1]; exact ((Bl.new (by simp)).alloc (by simp))
      have bs : Bl x1 (w.heap.size + 1) #[.int .i64 0, .int .i64 0] := by rw [hx1]; exact (Bl.new (by simp))
      have fs : Fz x1 (w.heap.size + 1) := by rw [hx1]; exact (Fz.new (by simp))
      have HE := hx
      clear hx
      clear hx1
      refine (HF.out _ (H.out.ext HE)).mono ?_
      rintro e u1 ⟨rfl, hx⟩
      replace bp := Bl.ext hx bp (Nat.succ_pos _)
      replace fs := Fz.ext hx fs bs (Nat.succ_pos _)
      replace bs := Bl.ext hx bs (Nat.succ_pos _)
      replace HE := HE.trans hx
      clear hx
      go_wp2_with fail
      refine absB (fun ue hue => ?_)
      have hbs : Bl ue (w.heap.size + 1) #[.int .i64 0, .int .i64 0] := by rw [hue]; exact (bs.set (by simp)).set (by simp)
      have heu : Ext w ue := by rw [hue]; exact (HE.store (by show w.heap.size ≤ w.heap.size + 1; omega) _).store (by show w.heap.size ≤ w.heap.size + 1; omega) _
      clear hue
      refine bodyPost_cells_tmp2 rfl rfl Try.underlying36 rfl (by kernel_rfl) (bl_two hbs) rfl rfl ?_
      rw [HR.out]
      exact ⟨rfl, heu⟩
    · rw [hfl] at HF
      by_cases hm0 : m < 0
      · have HR := hidP (at_no (l := l) (c := c) (.inr (.inr (.inl hm0))))
        clear HL HW hlb hl0
        go_enter Try.func14, Try.ntmps14
        go_wp2_with fail
        refine absC (fun x1 hx1 => ?_)
        have hx : Ext w x1 := by rw [hx1]; exact (((Ext.refl _).alloc _).alloc _)
        have bp : Bl x1 (w.heap.size) #[.slice a n cap, .bool c] := by rw [hx1]; exact ((Bl.new (by simp)).alloc (by simp))
        have bs : Bl x1 (w.heap.size + 1) #[.int .i64 0, .int .i64 0] := by rw [hx1]; exact (Bl.new (by simp))
        have fs : Fz x1 (w.heap.size + 1) := by rw [hx1]; exact (Fz.new (by simp))
        have HE := hx
        clear hx
        clear hx1
        refine (HF.out _ (H.out.ext HE)).mono ?_
        rintro e u1 ⟨rfl, hx⟩
        replace bp := Bl.ext hx bp (Nat.succ_pos _)
        replace fs := Fz.ext hx fs bs (Nat.succ_pos _)
        replace bs := Bl.ext hx bs (Nat.succ_pos _)
        replace HE := HE.trans hx
        clear hx
        go_wp2_with fail
        refine absB (fun ue hue => ?_)
        have hbs : Bl ue (w.heap.size + 1) #[.int .i64 0, .int .i64 0] := by rw [hue]; exact (bs.set (by simp)).set (by simp)
        have heu : Ext w ue := by rw [hue]; exact (HE.store (by show w.heap.size ≤ w.heap.size + 1; omega) _).store (by show w.heap.size ≤ w.heap.size + 1; omega) _
        clear hue
        refine bodyPost_cells_tmp2 rfl rfl Try.underlying36 rfl (by kernel_rfl) (bl_two hbs) rfl rfl ?_
        rw [HR.out]
        exact ⟨rfl, heu⟩
      · have hm1 : 0 ≤ m := by omega
        by_cases hm2 : longL l c < m
        · have HR := hidP (at_no (l := l) (c := c) (.inr (.inr (.inr hm2))))
          generalize longL l c = L at *
          clear HW
          go_enter Try.func14, Try.ntmps14
          go_wp2_with fail
          refine absC (fun x1 hx1 => ?_)
          have hx : Ext w x1 := by rw [hx1]; exact (((Ext.refl _).alloc _).alloc _)
          have bp : Bl x1 (w.heap.size) #[.slice a n cap, .bool c] := by rw [hx1]; exact ((Bl.new (by simp)).alloc (by simp))
          have bs : Bl x1 (w.heap.size + 1) #[.int .i64 0, .int .i64 0] := by rw [hx1]; exact (Bl.new (by simp))
          have fs : Fz x1 (w.heap.size + 1) := by rw [hx1]; exact (Fz.new (by simp))
          have HE := hx
          clear hx
          clear hx1
          refine (HF.out _ (H.out.ext HE)).mono ?_
          rintro e u1 ⟨rfl, hx⟩
          replace bp := Bl.ext hx bp (Nat.succ_pos _)
          replace fs := Fz.ext hx fs bs (Nat.succ_pos _)
          replace bs := Bl.ext hx bs (Nat.succ_pos _)
          replace HE := HE.trans hx
          clear hx
          go_wp2_with fail
          refine (HL.out _ (H.out.ext HE)).mono ?_
          rintro e u2 ⟨rfl, hx⟩
          replace bp := Bl.ext hx bp (Nat.succ_pos _)
          replace fs := Fz.ext hx fs bs (Nat.succ_pos _)
          replace bs := Bl.ext hx bs (Nat.succ_pos _)
          replace HE := HE.trans hx
          clear hx
          go_wp2_with fail
          refine absB (fun ue hue => ?_)
          have hbs : Bl ue (w.heap.size + 1) #[.int .i64 0, .int .i64 0] := by rw [hue]; exact (bs.set (by simp)).set (by simp)
          have heu : Ext w ue := by rw [hue]; exact (HE.store (by show w.heap.size ≤ w.heap.size + 1; omega) _).store (by show w.heap.size ≤ w.heap.size + 1; omega) _
          clear hue
          refine bodyPost_cells_tmp2 rfl rfl Try.underlying36 rfl (by kernel_rfl) (bl_two hbs) rfl rfl ?_
          rw [HR.out]
          exact ⟨rfl, heu⟩
        · have hm3 : m ≤ longL l c := by omega
          have HOK := hidP (okW_ways (l := rndL l c) (by have := rnd_len l c; rw [HLN.out] at this; rw [this]; split <;> omega))
          by_cases hw : waysF (rndL l c) 0 = []
          · have HR := hidP (at_none hne hfl hm1 hm3 hw)
            rw [hw] at HW
            obtain ⟨g, off, rfl, hc⟩ := H.out.at (by omega)
            have hz : 0 < l.length := by rw [HLN.out]; omega
            obtain ⟨q1, q2⟩ := hc 0 hz
            rw [Nat.zero_mul, Nat.add_zero] at q1 q2
            have hd : l.headD (0, 0) = l[0] := by cases l with
              | nil => exact absurd rfl hne
              | cons x r => rfl
            rw [hd] at HR
            generalize l[0] = p0 at *
            obtain ⟨px, py⟩ := p0
            simp only [] at q1 q2
            generalize longL l c = L at *
            have hn0 : 0 < n := by omega
            clear hc HOK hw hd
            go_enter Try.func14, Try.ntmps14
            go_wp2_with fail
            refine absC (fun x1 hx1 => ?_)
            have hx : Ext w x1 := by rw [hx1]; exact (((Ext.refl _).alloc _).alloc _)
            have bp : Bl x1 (w.heap.size) #[.slice (some ⟨g, off, none⟩) n cap, .bool c] := by rw [hx1]; exact ((Bl.new (by simp)).alloc (by simp))
            have bs : Bl x1 (w.heap.size + 1) #[.int .i64 0, .int .i64 0] := by rw [hx1]; exact (Bl.new (by simp))
            have fs : Fz x1 (w.heap.size + 1) := by rw [hx1]; exact (Fz.new (by simp))
            have HE := hx
            clear hx
            clear hx1
            refine (HF.out _ (H.out.ext HE)).mono ?_
            rintro e u1 ⟨rfl, hx⟩
            replace bp := Bl.ext hx bp (Nat.succ_pos _)
            replace fs := Fz.ext hx fs bs (Nat.succ_pos _)
            replace bs := Bl.ext hx bs (Nat.succ_pos _)
            replace HE := HE.trans hx
            clear hx
            go_wp2_with fail
            refine (HL.out _ (H.out.ext HE)).mono ?_
            rintro e u2 ⟨rfl, hx⟩
            replace bp := Bl.ext hx bp (Nat.succ_pos _)
            replace fs := Fz.ext hx fs bs (Nat.succ_pos _)
            replace bs := Bl.ext hx bs (Nat.succ_pos _)
            replace HE := HE.trans hx
            clear hx
            go_wp2_with fail
            refine (HW.out _ (H.out.ext HE)).mono ?_
            rintro e u3 ⟨aw, nw, cw, rfl, hsw, -, hx⟩
            replace bp := Bl.ext hx bp (Nat.succ_pos _)
            replace fs := Fz.ext hx fs bs (Nat.succ_pos _)
            replace bs := Bl.ext hx bs (Nat.succ_pos _)
            replace HE := HE.trans hx
            clear hx
            obtain rfl : nw = 0 := hsw.len.symm
            replace q1 := HE.cell' q1
            replace q2 := HE.cell' q2
            go_wp2_with fail
            refine absB (fun ue hue => ?_)
            have hbs : Bl ue (w.heap.size + 1) #[.int .i64 px, .int .i64 py] := by rw [hue]; exact (bs.set (by simp)).set (by simp)
            have heu : Ext w ue := by rw [hue]; exact (HE.store (by show w.heap.size ≤ w.heap.size + 1; omega) _).store (by show w.heap.size ≤ w.heap.size + 1; omega) _
            clear hue
            refine bodyPost_cells_tmp2 rfl rfl Try.underlying36 rfl (by kernel_rfl) (bl_two hbs) rfl rfl ?_
            rw [HR.out]
            exact ⟨rfl, heu⟩
          · have HR := hidP (at_some hne hfl hm1 hm3 hw)
            have hwl : 0 < (waysF (rndL l c) 0).length := List.length_pos_iff.2 hw
            generalize waysF (rndL l c) 0 = ws at *
            have HFI := hidP (fun u aw nw cw (t : SlW u aw nw cw ws) => dd_find aw nw cw ws m u t HOK.out (by omega) (by omega))
            generalize findD (0, 0) ws m = r at *
            obtain ⟨rx, ry⟩ := r
            generalize longL l c = L at *
            clear HOK hw
            go_enter Try.func14, Try.ntmps14
            go_wp2_with fail
            refine absC (fun x1 hx1 => ?_)
            have hx : Ext w x1 := by rw [hx1]; exact (((Ext.refl _).alloc _).alloc _)
            have bp : Bl x1 (w.heap.size) #[.slice a n cap, .bool c] := by rw [hx1]; exact ((Bl.new (by simp)).alloc (by simp))
            have bs : Bl x1 (w.heap.size + 1) #[.int .i64 0, .int .i64 0] := by rw [hx1]; exact (Bl.new (by simp))
            have fs : Fz x1 (w.heap.size + 1) := by rw [hx1]; exact (Fz.new (by simp))
            have HE := hx
            clear hx
            clear hx1
            refine (HF.out _ (H.out.ext HE)).mono ?_
            rintro e u1 ⟨rfl, hx⟩
            replace bp := Bl.ext hx bp (Nat.succ_pos _)
            replace fs := Fz.ext hx fs bs (Nat.succ_pos _)
            replace bs := Bl.ext hx bs (Nat.succ_pos _)
            replace HE := HE.trans hx
            clear hx
            go_wp2_with fail
            refine (HL.out _ (H.out.ext HE)).mono ?_
            rintro e u2 ⟨rfl, hx⟩
            replace bp := Bl.ext hx bp (Nat.succ_pos _)
            replace fs := Fz.ext hx fs bs (Nat.succ_pos _)
            replace bs := Bl.ext hx bs (Nat.succ_pos _)
            replace HE := HE.trans hx
            clear hx
            go_wp2_with fail
            refine (HW.out _ (H.out.ext HE)).mono ?_
            rintro e u3 ⟨aw, nw, cw, rfl, hsw, -, hx⟩
            replace bp := Bl.ext hx bp (Nat.succ_pos _)
            replace fs := Fz.ext hx fs bs (Nat.succ_pos _)
            replace bs := Bl.ext hx bs (Nat.succ_pos _)
            replace HE := HE.trans hx
            clear hx
            have hnw : 0 < nw := by rw [← hsw.len]; exact hwl
            have hnwb : ((nw : Int) == 0) = false := by simp; omega
            replace hsw := hidP hsw
            go_wp2_with fail
            refine (HFI.out _ _ _ _ hsw.out).mono ?_
            rintro e u4 ⟨rfl, hx⟩
            replace bp := Bl.ext hx bp (Nat.succ_pos _)
            replace fs := Fz.ext hx fs bs (Nat.succ_pos _)
            replace bs := Bl.ext hx bs (Nat.succ_pos _)
            replace HE := HE.trans hx
            clear hx
            go_wp2_with fail
            refine absB (fun ue hue => ?_)
            have hbs : Bl ue (w.heap.size + 1) #[.int .i64 rx, .int .i64 ry] := by rw [hue]; exact (bs.set (by simp)).set (by simp)
            have heu : Ext w ue := by rw [hue]; exact (HE.store (by show w.heap.size ≤ w.heap.size + 1; omega) _).store (by show w.heap.size ≤ w.heap.size + 1; omega) _
            clear hue
            refine bodyPost_cells_tmp2 rfl rfl Try.underlying36 rfl (by kernel_rfl) (bl_two hbs) rfl rfl ?_
            rw [HR.out]
            exact ⟨rfl, heu⟩

end Go.Proofs.Ytlhaepcnhkaclaa
