/- Rasters: the raster of a file. -/
import Derived.Test.YtogcmnagiepofaaR22
import Derived.Test.YtogcmnagiepofaaR13
namespace Go.Proofs.Ytogcmnagiepofaa
set_option linter.unusedVariables false
set_option linter.unusedSimpArgs false
open Go Go.RowKit

/-- Bytes as colours, four by four. -/
def colOf : List Nat → List Col
  | a :: b :: c :: d :: r => (a, b, c, d) :: colOf r
  | _ => []
theorem colOf_len : ∀ (N : Nat) (l : List Nat), l.length = 4 * N → (colOf l).length = N
  | 0, l, h => by
    obtain rfl : l = [] := by simpa using h
    rfl
  | N + 1, a :: b :: c :: d :: r, h => by
    simp only [colOf, List.length_cons] at h ⊢
    rw [colOf_len N r (by omega)]
  | N + 1, [], h => by simp at h <;> omega
  | N + 1, [_], h => by simp at h; omega
  | N + 1, [_, _], h => by simp at h; omega
  | N + 1, [_, _, _], h => by simp at h; omega
theorem colOf_get : ∀ (k : Nat) (l : List Nat) (h : 4 * k + 3 < l.length), (colOf l)[k]? = some (l[4 * k], l[4 * k + 1], l[4 * k + 2], l[4 * k + 3])
  | 0, a :: b :: c :: d :: r, h => rfl
  | k + 1, a :: b :: c :: d :: r, h => by
    have ih := colOf_get k r (by simp at h; omega)
    simp only [colOf, List.getElem?_cons_succ, ih, Nat.mul_add, Nat.mul_one]
    rfl
  | _, [], h => by simp at h
  | _, [_], h => by simp at h <;> omega
  | _, [_, _], h => by simp at h <;> omega
  | _, [_, _, _], h => by simp at h <;> omega
/-- What becomes of the bytes behind the lines. -/
def verdict (p q : Int) (rest : List Nat) : (Int × Int × List Col) × Int :=
  if (rest.length : Int) < 4 * p * q then ((0, 0, []), 13) else if 4 * p * q < (rest.length : Int) then ((0, 0, []), 14) else ((p, q, colOf rest), 0)
/-- A raster, and what was wrong. -/
def RetPix (w : World) (r : (Int × Int × List Col) × Int) (e : Ending) (w' : World) : Prop := ∃ a n c, e = .returned (.tuple #[rst r.1.1 r.1.2.1 a n c, .int .i64 r.2]) ∧ SlC w' a n c r.1.2.2 ∧ Ext w w'
/-- What Read answers. -/
def RetRead (w : World) (l : List Nat) (e : Ending) (w' : World) : Prop :=
  (∃ p q rest, Heads l p q ∧ l = natsOf (headS p q) ++ rest ∧ RetPix w (verdict p q rest) e w') ∨ ((∀ p q, ¬ Heads l p q) ∧ RetPix w ((0, 0, []), 3) e w')
theorem ends_c4 (p0 p1 p2 p3 : Nat) : ∀ u ∈ [Value.int .u8 (p0 : Int), .int .u8 (p1 : Int), .int .u8 (p2 : Int), .int .u8 (p3 : Int)], u.oneCell' = true := by
  intro u hu
  simp at hu
  rcases hu with rfl | rfl | rfl | rfl <;> rfl

set_option maxRecDepth 100000 in
set_option maxHeartbeats 8000000 in
theorem p_Read (a : Option Addr) (n c : Nat) (l : List Nat) (w : World) (h : Sl w a n c (ints .u8 l)) (hl : ∀ x ∈ l, x ≤ 255) (hn : n ≤ 9223372036854775807) :
    Calls Try.prog 73 #[.slice a n c] w (RetRead w l) := by
  have H := hidP h
  have HZ := hidP (fun u t => p_size a n c l u t hl hn)
  have HLN := hidP h.int_len
  clear h hl
  go_enter Try.func73, Try.ntmps73
  go_wp2_with fail
  refine absC (fun x1 hx1 => ?_)
  have hx : Ext w x1 := by rw [hx1]; exact ((Ext.refl _).alloc _)
  have bs : Bl x1 (w.heap.size) #[.int .i64 0, .int .i64 0, .slice none 0 0] := by rw [hx1]; exact (Bl.new (by simp))
  have fs : Fz x1 (w.heap.size) := by rw [hx1]; exact (Fz.new (by simp))
  have HE := hx
  clear hx
  clear hx1
  refine (HZ.out _ (H.out.ext HE)).mono ?_
  rintro e u1 ⟨hx, ⟨p, q, rest, g2, o2, n2, c2, hh, hl2, rfl, hs⟩ | ⟨hno, p, q, a2, n2, c2, rfl⟩⟩
  · replace fs := Fz.ext hx fs bs (Nat.succ_pos _)
    replace bs := Bl.ext hx bs (Nat.succ_pos _)
    replace HE := HE.trans hx
    clear hx
    obtain ⟨hp1, hp2, hq1, hq2, _⟩ := id hh
    have HHH := hidP hh; have HL2 := hidP hl2
    have hrl := hs.int_len
    have hrn : n2 ≤ n := by
      have h2 := HLN.out
      rw [hl2, List.length_append] at h2
      omega
    clear hh hl2
    obtain ⟨P, rfl⟩ : ∃ P : Nat, p = (P : Int) := ⟨p.toNat, by omega⟩
    obtain ⟨Q, rfl⟩ : ∃ Q : Nat, q = (Q : Int) := ⟨q.toNat, by omega⟩
    obtain ⟨hm1, hm2⟩ := mul_box hp1 hp2 hq1 hq2
    obtain ⟨N, hN⟩ : ∃ N : Nat, N = P * Q := ⟨_, rfl⟩
    have hNi : (P : Int) * (Q : Int) = (N : Int) := by rw [hN]; simp
    rw [hNi] at hm1 hm2
    have hM : 4 * (P : Int) * (Q : Int) = 4 * (N : Int) := by rw [← hNi, Int.mul_assoc]
    have HV : Hid (verdict P Q rest = if n2 < 4 * N then ((0, 0, []), 13) else if 4 * N < n2 then ((0, 0, []), 14) else (((P : Int), (Q : Int), colOf rest), 0)) := hidP (by
      unfold verdict
      rw [hM, hrl]
      by_cases h1 : n2 < 4 * N
      · rw [if_pos h1, if_pos (by omega)]
      · rw [if_neg h1, if_neg (by omega)]
        by_cases h2 : 4 * N < n2
        · rw [if_pos h2, if_pos (by omega)]
        · rw [if_neg h2, if_neg (by omega)])
    have HS := hidP hs
    have HRL := hidP hrl
    clear hs hrl hN hNi
    by_cases h1 : n2 < 4 * N
    · rw [if_pos h1] at HV
      go_wp2_with fail
      refine absB (fun ue hue => ?_)
      have hbs : Bl ue (w.heap.size) #[.int .i64 0, .int .i64 0, .slice none 0 0] := by rw [hue]; exact (((bs.set (by simp)).set (by simp)).set (by simp))
      have hnc : ∀ {aa : Option Addr} {nn cc : Nat} {ll : List Col}, SlC u1 aa nn cc ll → SlC ue aa nn cc ll := fun h => by
        rw [hue]
        exact h.but bs (not_u8s) ((But.refl _ _).store.store.store)
      have heu : Ext w ue := by rw [hue]; exact ((HE.store (by show w.heap.size ≤ w.heap.size; omega) _).store (by show w.heap.size ≤ w.heap.size; omega) _).store (by show w.heap.size ≤ w.heap.size; omega) _
      clear hue
      refine bodyPost_cells_tmp2 rfl rfl Try.underlying69 rfl (by kernel_rfl) (blk_three hbs) rfl rfl ?_
      refine .inl ⟨_, _, rest, HHH.out, HL2.out, ?_⟩
      rw [HV.out]
      exact ⟨none, 0, 0, rfl, SlK.nil 4 _, heu⟩
    · rw [if_neg h1] at HV
      by_cases h2 : 4 * N < n2
      · rw [if_pos h2] at HV
        go_wp2_with fail
        refine absB (fun ue hue => ?_)
        have hbs : Bl ue (w.heap.size) #[.int .i64 0, .int .i64 0, .slice none 0 0] := by rw [hue]; exact (((bs.set (by simp)).set (by simp)).set (by simp))
        have hnc : ∀ {aa : Option Addr} {nn cc : Nat} {ll : List Col}, SlC u1 aa nn cc ll → SlC ue aa nn cc ll := fun h => by
          rw [hue]
          exact h.but bs (not_u8s) ((But.refl _ _).store.store.store)
        have heu : Ext w ue := by rw [hue]; exact ((HE.store (by show w.heap.size ≤ w.heap.size; omega) _).store (by show w.heap.size ≤ w.heap.size; omega) _).store (by show w.heap.size ≤ w.heap.size; omega) _
        clear hue
        refine bodyPost_cells_tmp2 rfl rfl Try.underlying69 rfl (by kernel_rfl) (blk_three hbs) rfl rfl ?_
        refine .inl ⟨_, _, rest, HHH.out, HL2.out, ?_⟩
        rw [HV.out]
        exact ⟨none, 0, 0, rfl, SlK.nil 4 _, heu⟩
      · rw [if_neg h2] at HV
        obtain rfl : n2 = 4 * N := by omega
        have hCl := colOf_len N rest HRL.out
        have HC : Hid (∀ k, k < N → ∃ p0 p1 p2 p3 : Nat, (colOf rest).take (k + 1) = (colOf rest).take k ++ [(p0, p1, p2, p3)] ∧ (∃ h : 4 * k < rest.length, rest[4 * k] = p0) ∧ (∃ h : 4 * k + 1 < rest.length, rest[4 * k + 1] = p1) ∧ (∃ h : 4 * k + 2 < rest.length, rest[4 * k + 2] = p2) ∧ (∃ h : 4 * k + 3 < rest.length, rest[4 * k + 3] = p3)) := hidP (fun k hk => by
          have hr := HRL.out
          have hg := colOf_get k rest (by omega)
          refine ⟨_, _, _, _, ?_, ⟨by omega, rfl⟩, ⟨by omega, rfl⟩, ⟨by omega, rfl⟩, ⟨by omega, rfl⟩⟩
          rw [List.take_add_one, hg]
          rfl)
        generalize colOf rest = C at *
        have lsx := bs.lt (Nat.succ_pos _)
        have hN0 : 0 < N := by omega
        obtain ⟨b, off, hga, hcell⟩ := HS.out.at_int (by omega)
        cases hga
        have HCELL := hidP hcell
        clear hcell
        go_upto_region 9 with fail
        refine absW (fun x6 hx6 => ?_)
        have hx : Ext u1 x6 := by rw [hx6]; exact ((Ext.refl _).alloc _)
        have hxu := hx
        have bt : Bl x6 (u1.heap.size) #[.int .i64 (P : Int), .int .i64 (Q : Int), .slice none 0 0] := by rw [hx6]; exact (Bl.new (by simp))
        have ft : Fz x6 (u1.heap.size) := by rw [hx6]; exact (Fz.new (by simp))
        replace fs := Fz.ext hx fs bs (Nat.succ_pos _)
        replace bs := Bl.ext hx bs (Nat.succ_pos _)
        replace HE := HE.trans hx
        clear hx
        clear hx6
        generalize hga : u1.heap.size = ga at *
        have HU : Ext u1 x6 := hxu
        clear hxu
        have hB : ga + 1 ≤ x6.heap.size := by have := bt.lt (Nat.succ_pos _); omega
        have hz0 : x6.ownsRow (ga + 1) 73 4 (.slice none 0 0) 0 (cols (C.take 0)) := World.ownsRow_nil _ _ _ _
        go_wp2_with fail
        go_loopw [9] (fun iv wr => ∃ (k i : Nat) (v : Value), k ≤ N ∧ i = 4 * k ∧ iv = .int .i64 (i : Int) ∧ wr.ownsRow (ga + 1) 73 4 v k (cols (C.take k)) ∧ Bl wr ga #[.int .i64 (P : Int), .int .i64 (Q : Int), v] ∧ Fz wr ga ∧ Bl wr w.heap.size #[.int .i64 0, .int .i64 0, .slice none 0 0] ∧ Fz wr w.heap.size ∧ ga + 1 ≤ wr.heap.size ∧ Below ga u1 wr ∧ Ext w wr) (fun iv _ => 4 * N - (intOf iv).toNat)
        case atStart => exact ⟨0, 0, _, by omega, rfl, rfl, hz0, bt, ft, bs, fs, hB, by rw [← hga]; exact HU, HE⟩
        case round =>
          clear hz0 bt ft bs fs hB HE HU
          obtain ⟨k, i, v, hk, hi, rfl, hown, bt, ft, bs, fs, hB, HU, HE⟩ := hrel
          by_cases hlt : k < N
          · have hlt0 : i < 4 * N := by omega
            obtain ⟨p0, p1, p2, p3, hst, ⟨g0, e0⟩, ⟨g1, e1⟩, ⟨g2', e2⟩, ⟨g3, e3⟩⟩ := HC.out k hlt
            have hbu : g2 < ga := by
              have := cell_lt (HCELL.out _ g0)
              omega
            have h0 := low_cell HU (HCELL.out _ g0) hbu; have h1 := low_cell HU (HCELL.out _ g1) hbu; have h2 := low_cell HU (HCELL.out _ g2') hbu; have h3 := low_cell HU (HCELL.out _ g3) hbu
            rw [e0, ← hi] at h0
            rw [e1, ← hi] at h1
            rw [e2, ← hi] at h2
            rw [e3, ← hi] at h3
            have hst2 := congrArg cols hst
            rw [cols_append] at hst2
            have HST : Hid (cols (C.take (k + 1)) = cols (C.take k) ++ [.int .u8 (p0 : Int), .int .u8 (p1 : Int), .int .u8 (p2 : Int), .int .u8 (p3 : Int)]) := hidP hst2
            have hi3 : i + 3 < 4 * N := by omega
            have W1 : Hid (IntKind.i64.wrap ((i : Int) + 1) = ((i + 1 : Nat) : Int)) := hidP (by rw [IntWalk.i64_in _ (by omega)]; simp)
            have W2 : Hid (IntKind.i64.wrap ((i : Int) + 2) = ((i + 2 : Nat) : Int)) := hidP (by rw [IntWalk.i64_in _ (by omega)]; simp)
            have W3 : Hid (IntKind.i64.wrap ((i : Int) + 3) = ((i + 3 : Nat) : Int)) := hidP (by rw [IntWalk.i64_in _ (by omega)]; simp)
            have HI := hidP hi; clear hi e0 e1 e2 e3 g0 g1 g2' g3 hst hst2
            go_wp2_with fail
            refine wp_region_plan (R := Below (ga + 1)) (.q 0 (.q 1 (.q 2 (.q 3 (.q 4 (.q 5 (.q 6 (.q 7 (.q 8 (.q 9 (.q 10 (.q 11 (.q 12 (.q 13 (.q 14 (.q 15 (.q 16 (.q 17 (.q 18 (.q 19 (.q 20 (.q 21 (.l 22 (.l 23 (.q 24 (.b 25 .done)))))))))))))))))))))))))) (by kernel_rfl) (by kernel_rfl) (by kernel_rfl) (by kernel_rfl) (Below.refl _) (fun _ _ _ => Below.trans) ?_
            refine absE (fun x7 hx7 => ?_)
            have hx : Ext wr x7 := by rw [hx7]; exact (Ext.refl _).drew
            replace hown : x7.ownsRow (ga + 1) 73 4 v k (cols (C.take k)) := by rw [hx7]; exact hown.drew
            replace ft := Fz.ext hx ft bt (Nat.succ_pos _)
            replace bt := Bl.ext hx bt (Nat.succ_pos _)
            replace fs := Fz.ext hx fs bs (Nat.succ_pos _)
            replace bs := Bl.ext hx bs (Nat.succ_pos _)
            replace h0 := hx.cell' h0; replace h1 := hx.cell' h1; replace h2 := hx.cell' h2; replace h3 := hx.cell' h3
            replace HU := HU.trans (hx.mono (by omega))
            replace hB := Nat.le_trans hB hx.size
            replace HE := HE.trans hx
            clear hx hx7
            repeat (refine wpE_q (v := ?_) rfl rfl (fun u hu => ?_) ?_; rotate_left 1; (focus (have kt := Bl.lowB hu bt (by omega); have k0 := low_cell hu h0 (by omega); have k1 := low_cell hu h1 (by omega); have k2 := low_cell hu h2 (by omega); have k3 := low_cell hu h3 (by omega); have w1 := W1.out; have w2 := W2.out; have w3 := W3.out; have t1 : ((i : Int) + 1).toNat = i + 1 := (by omega); have t2 : ((i : Int) + 2).toNat = i + 2 := (by omega); have t3 : ((i : Int) + 3).toNat = i + 3 := (by omega); have z1 : (0 : Int) ≤ (i : Int) + 1 := (by omega); have y1 : (i : Int) + 1 < 4 * (N : Int) := (by omega); have z2 : (0 : Int) ≤ (i : Int) + 2 := (by omega); have y2 : (i : Int) + 2 < 4 * (N : Int) := (by omega); have z3 : (0 : Int) ≤ (i : Int) + 3 := (by omega); have y3 : (i : Int) + 3 < 4 * (N : Int) := (by omega); go_simp; (try rfl))); simp only [Act.put, List.setIfInBounds_toArray, List.set_cons_zero, List.set_cons_succ])
            refine wpE_l rfl rfl (fun K hK => ?_)
            go_simp
            refine hK.out _ _ ((Below.refl _ _).alloc hB _) ?_
            clear hK K
            try simp only [Act.put, List.setIfInBounds_toArray, List.set_cons_zero, List.set_cons_succ]
            refine wpE_l rfl rfl (fun K hK => ?_)
            refine wp_appB (ad := ⟨x7.heap.size, 0, none⟩) (m := 1) T_col _ _ rfl (hown.alloc _) (Nat.le_trans hB (by simp)) [.int .u8 (p0 : Int), .int .u8 (p1 : Int), .int .u8 (p2 : Int), .int .u8 (p3 : Int)] rfl rfl rfl (news4 _ _ _ _ _ _) (ends_c4 p0 p1 p2 p3) (by omega) (by omega) ?_
            intro v2 w2 hown2 hlow0
            refine hK.out _ _ hlow0 ?_
            clear hK K
            try simp only [Act.put, List.setIfInBounds_toArray, List.set_cons_zero, List.set_cons_succ]
            have hlow : Below (ga + 1) x7 w2 := Below.trans ((Below.refl _ _).alloc hB _) hlow0
            clear hlow0
            obtain ⟨a2, c2', rfl, hs2⟩ := SlK.of_owns hown2
            have ft2 := Fz.lowB hlow ft (by omega)
            have bt2 := Bl.lowB hlow bt (by omega)
            have fs2 := Fz.lowB hlow fs (by omega)
            have bs2 := Bl.lowB hlow bs (by omega)
            repeat (refine wpE_q (v := ?_) rfl rfl (fun u hu => ?_) ?_; rotate_left 1; (focus (have kt := Bl.lowB hu bt2 (by omega); go_simp; (try rfl))); simp only [Act.put, List.setIfInBounds_toArray, List.set_cons_zero, List.set_cons_succ])
            refine wpE_b rfl rfl (fun K hK => ?_)
            go_simp
            refine hK.out _ _ ?_
            clear hK K
            try simp only [Act.put, List.setIfInBounds_toArray, List.set_cons_zero, List.set_cons_succ]
            refine wpE_done ?_
            go_wp2_with fail
            have hb2 : But w2 (w2.setCell ⟨ga, 2, none⟩ (.slice a2 (k + 1) c2')) ga := (But.refl _ _).store
            go_roundw
            case rel =>
              refine ⟨k + 1, i + 4, _, by omega, by have hi := HI.out; omega, by go_num, ?_, bt2.set (by simp), ft2.set, hb2.bl bs2 (Nat.succ_pos _) (by omega), hb2.fz fs2 bs2 (Nat.succ_pos _) (by omega), Nat.le_trans (Nat.le_trans hB hlow.size) hb2.1, Below.setCell (Below.trans HU (hlow.mono (by omega))) (by show ga ≤ ga; omega) _, (Below.trans HE (hlow.mono (by omega))).setCell (by show w.heap.size ≤ ga; omega) _⟩
              rw [HST.out]
              exact hb2.rowB hown2 (by omega)
            case measure => simp only [intOf]; omega
          · obtain rfl : k = N := by omega
            have hlt0 : ¬ i < 4 * k := by omega
            obtain ⟨a2, c2', rfl, hs2⟩ := SlK.of_owns hown
            rw [List.take_of_length_le (by omega)] at hs2
            have HSR : Hid (SlC wr a2 k c2' C) := hidP hs2
            clear hs2 hown
            go_wp2_with fail
            refine absB (fun ue hue => ?_)
            have hbs : Bl ue (w.heap.size) #[.int .i64 (P : Int), .int .i64 (Q : Int), .slice a2 k c2'] := by rw [hue]; exact (((bs.set (by simp)).set (by simp)).set (by simp))
            have hnc : ∀ {aa : Option Addr} {nn cc : Nat} {ll : List Col}, SlC wr aa nn cc ll → SlC ue aa nn cc ll := fun h => by
              rw [hue]
              exact h.but bs (not_u8s) ((But.refl _ _).store.store.store)
            have heu : Ext w ue := by rw [hue]; exact ((HE.store (by show w.heap.size ≤ w.heap.size; omega) _).store (by show w.heap.size ≤ w.heap.size; omega) _).store (by show w.heap.size ≤ w.heap.size; omega) _
            clear hue
            refine bodyPost_cells_tmp2 rfl rfl Try.underlying69 rfl (by kernel_rfl) (blk_three hbs) rfl rfl ?_
            refine .inl ⟨_, _, rest, HHH.out, HL2.out, ?_⟩
            rw [HV.out]
            exact ⟨_, _, _, rfl, hnc HSR.out, heu⟩
  · replace fs := Fz.ext hx fs bs (Nat.succ_pos _)
    replace bs := Bl.ext hx bs (Nat.succ_pos _)
    replace HE := HE.trans hx
    clear hx
    have HNO := hidP hno
    clear hno
    go_wp2_with fail
    refine absB (fun ue hue => ?_)
    have hbs : Bl ue (w.heap.size) #[.int .i64 0, .int .i64 0, .slice none 0 0] := by rw [hue]; exact (((bs.set (by simp)).set (by simp)).set (by simp))
    have hnc : ∀ {aa : Option Addr} {nn cc : Nat} {ll : List Col}, SlC u1 aa nn cc ll → SlC ue aa nn cc ll := fun h => by
      rw [hue]
      exact h.but bs (not_u8s) ((But.refl _ _).store.store.store)
    have heu : Ext w ue := by rw [hue]; exact ((HE.store (by show w.heap.size ≤ w.heap.size; omega) _).store (by show w.heap.size ≤ w.heap.size; omega) _).store (by show w.heap.size ≤ w.heap.size; omega) _
    clear hue
    refine bodyPost_cells_tmp2 rfl rfl Try.underlying69 rfl (by kernel_rfl) (blk_three hbs) rfl rfl ?_
    exact .inr ⟨HNO.out, none, 0, 0, rfl, SlK.nil 4 _, heu⟩

end Go.Proofs.Ytogcmnagiepofaa
