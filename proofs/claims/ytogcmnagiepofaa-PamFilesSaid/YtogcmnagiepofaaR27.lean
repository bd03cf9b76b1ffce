/- Rasters: the document's raster of a file. -/
import Derived.Test.YtogcmnagiepofaaR26
namespace Go.Proofs.Ytogcmnagiepofaa
set_option linter.unusedVariables false
set_option linter.unusedSimpArgs false
open Go Go.RowKit

theorem bytesOf_natsOf' (s : ByteArray) : bytesOf (natsOf s) = s := by
  have := natsOf_bytesOf (natsOf s) (natsOf_le s)
  have h2 : ∀ a b : ByteArray, natsOf a = natsOf b → a = b := by
    intro a b h
    have e : ∀ l m : List UInt8, l.map UInt8.toNat = m.map UInt8.toNat → l = m := by
      intro l
      induction l with
      | nil => intro m h; cases m with | nil => rfl | cons => simp at h
      | cons x l ih =>
        intro m h
        cases m with
        | nil => simp at h
        | cons y m =>
          simp only [List.map_cons, List.cons.injEq] at h
          rw [ih m h.2, UInt8.toNat_inj.1 h.1]
    have := e a.data.toList b.data.toList h
    cases a; cases b
    congr 1
    exact Array.toList_inj.1 this
  exact h2 _ _ this
theorem take_head {l : List Nat} {s : ByteArray} (hl : ∀ x ∈ l, x ≤ 255) (h : bytesOf (l.take s.size) = s) (hn : s.size ≤ l.length) : natsOf s <+: l := by
  have h2 := natsOf_bytesOf (l.take s.size) (fun x hx => hl x (List.mem_of_mem_take hx))
  rw [h] at h2
  rw [h2]
  exact List.take_prefix _ _
/-- What of a slice lies behind its first k. -/
theorem Sl.behind {w : World} {g o n c k R C : Nat} {m : List Nat} {l : List Nat} (h : Sl w (some ⟨g, o, none⟩) n c (ints .u8 l)) (hn : n = k + R) (hc : c = k + C) : ∃ o2, (if c = k then (some ⟨g, o, none⟩ : Option Addr) else some ⟨g, o + k, none⟩) = some ⟨g, o2, none⟩ ∧ Sl w (some ⟨g, o2, none⟩) R C (ints .u8 (l.drop k)) := by
  have hl := h.int_len
  obtain ⟨h1, h2, h3, h4⟩ := h
  by_cases hk : c = k
  · refine ⟨o, by rw [if_pos hk], by rw [ints_len, List.length_drop]; omega, by omega, by omega, fun h => by omega⟩
  · refine ⟨o + k, by rw [if_neg hk], by rw [ints_len, List.length_drop]; omega, by omega, by omega, fun h0 => ⟨g, o + k, rfl, fun i u hu => ?_⟩⟩
    obtain ⟨b, off, e, hcell⟩ := h4 (by omega)
    cases e
    rw [Nat.add_assoc]
    refine hcell (k + i) u ?_
    have hi : i < (l.drop k).length := by have := (List.getElem?_eq_some_iff.1 hu).1; rwa [ints_len] at this
    rw [ints_get .u8 _ i hi] at hu
    rw [ints_get .u8 _ (k + i) (by rw [List.length_drop] at hi; omega), ← hu, List.getElem_drop]

set_option maxRecDepth 100000 in
set_option maxHeartbeats 8000000 in
theorem d_Read (a : Option Addr) (n c : Nat) (l : List Nat) (w : World) (h : Sl w a n c (ints .u8 l)) (hl : ∀ x ∈ l, x ≤ 255) (hn : n ≤ 9223372036854775807) :
    Calls Try.prog 74 #[.slice a n c] w (RetRead w l) := by
  have H := hidP h
  have HLE := hidP hl
  have hcn : n ≤ c := h.2.1
  have HLN := hidP h.int_len
  clear h hl
  go_enter Try.func74, Try.ntmps74
  go_wp2_with fail
  go_loopw [4] (fun iv wr => ∃ p : Nat, 1 ≤ p ∧ p ≤ 65 ∧ iv = .int .i64 (p : Int) ∧ Hid (∀ p' q' : Int, Heads l p' q' → (p : Int) ≤ p') ∧ Bl wr w.heap.size #[.int .i64 0, .int .i64 0, .slice none 0 0] ∧ Fz wr w.heap.size ∧ Ext w wr) (fun iv _ => 65 - (intOf iv).toNat)
  case atStart => exact ⟨1, by omega, by omega, rfl, hidP (fun p' q' hh => hh.1), Bl.new (by simp), Fz.new (by simp), (Ext.refl w).alloc _⟩
  case round =>
    obtain ⟨P, hp1, hp2, rfl, HNP, bs, fs, HE⟩ := hrel
    by_cases hlt : P ≤ 64
    · have hlt0 : (P : Int) ≤ 64 := by omega
      go_wp2_with fail
      go_loopw [5] (fun iv wr => ∃ q : Nat, 1 ≤ q ∧ q ≤ 65 ∧ iv = .int .i64 (q : Int) ∧ Hid (∀ p' q' : Int, Heads l p' q' → (P : Int) < p' ∨ (p' = P ∧ (q : Int) ≤ q')) ∧ Bl wr w.heap.size #[.int .i64 0, .int .i64 0, .slice none 0 0] ∧ Fz wr w.heap.size ∧ Ext w wr) (fun iv _ => 65 - (intOf iv).toNat)
      case atStart => exact ⟨1, by omega, by omega, rfl, hidP (fun p' q' hh => by have := HNP.out p' q' hh; have h2 : (1 : Int) ≤ q' := hh.2.2.1; omega), bs, fs, HE⟩
      case round =>
        clear bs fs HE
        obtain ⟨Q, hq1, hq2, rfl, HNQ, bs, fs, HE⟩ := hrel
        by_cases hlq : Q ≤ 64
        · have hlq0 : (Q : Int) ≤ 64 := by omega
          obtain ⟨z1, z2⟩ := headS_size P Q (by omega) (by omega) (by omega) (by omega)
          rw [natsOf_len] at z1 z2
          have HH := hidP (fun u => d_Head P Q u (by omega) (by omega) (by omega) (by omega))
          have HD : Hid (Heads l P Q ↔ natsOf (headS P Q) <+: l) := hidP ⟨fun h => h.2.2.2.2, fun h => ⟨by omega, by omega, by omega, by omega, h⟩⟩
          have HV := hidP (fun (rest : List Nat) (u : World) (e : Ending) (h1 : Heads l P Q) (h2 : l = natsOf (headS P Q) ++ rest) (h3 : RetPix w (verdict P Q rest) e u) => (.inl ⟨_, _, rest, h1, h2, h3⟩ : RetRead w l e u))
          generalize headS P Q = hs at *
          go_wp2_with fail
          refine (HH.out _).mono ?_
          rintro e u1 ⟨rfl, hx⟩
          replace fs := Fz.ext hx fs bs (Nat.succ_pos _)
          replace bs := Bl.ext hx bs (Nat.succ_pos _)
          replace HE := HE.trans hx
          clear hx HH
          by_cases hlen : n < hs.size
          · have HNO : Hid (¬ Heads l P Q) := hidP (fun hh => by
              have := (HD.out.1 hh).length_le
              rw [natsOf_len, HLN.out] at this
              omega)
            go_wp2_with fail
            go_roundw
            case rel => exact ⟨Q + 1, by omega, by omega, by go_num, hidP (fun p' q' hh => by
              rcases HNQ.out p' q' hh with h | ⟨rfl, h⟩
              · exact .inl h
              · by_cases e : (Q : Int) = q'
                · subst e; exact absurd hh HNO.out
                · right; exact ⟨rfl, by omega⟩), bs, fs, HE⟩
            case measure => simp only [intOf]; omega
          · obtain ⟨g, off, rfl, hcell⟩ := H.out.at_int (by omega)
            have hsl := (H.out.ext HE).take hs.size (by omega)
            rw [ints_take] at hsl
            have k1 := str_of hsl (fun x hx => HLE.out x (List.mem_of_mem_take hx))
            clear hsl hcell
            by_cases hb : bytesOf (l.take hs.size) = hs
            · have hpre := take_head HLE.out hb (by rw [HLN.out]; omega)
              have HHH := hidP (HD.out.2 hpre)
              obtain ⟨rest, hrest⟩ := hpre
              obtain ⟨R, hR⟩ : ∃ R, n = hs.size + R := ⟨n - hs.size, by omega⟩
              obtain ⟨C, hC⟩ : ∃ C, c = hs.size + C := ⟨c - hs.size, by omega⟩
              have hdr : l.drop hs.size = rest := by rw [← hrest, ← natsOf_len, List.drop_left]
              obtain ⟨o2, ho2, hs2⟩ := Sl.behind (H.out.ext HE) (m := l) hR hC
              rw [hdr] at hs2
              have HS := hidP hs2
              have HRL := hidP hs2.int_len
              have HV' := hidP (fun u e => HV.out rest u e HHH.out hrest.symm)
              rw [hb] at k1
              have hw1 : ((hs.size + R : Nat) : Int) - (hs.size : Int) = (R : Int) := by omega
              have hw2 : ((hs.size + C : Nat) : Int) - (hs.size : Int) = (C : Int) := by omega
              clear hb hrest hdr hs2 HV HD HNQ HNP
              have hle1 : ¬ (((hs.size + R : Nat) : Int) < (hs.size : Int)) := by omega
              have hle2 : ¬ ((hs.size : Int) + (R : Int) < (hs.size : Int)) := by omega
              obtain ⟨hm1, hm2⟩ := mul_box (x := (P : Int)) (y := (Q : Int)) (by omega) (by omega) (by omega) (by omega)
              obtain ⟨N, hN⟩ : ∃ N : Nat, N = P * Q := ⟨_, rfl⟩
              have hNi : (P : Int) * (Q : Int) = (N : Int) := by rw [hN]; simp
              rw [hNi] at hm1 hm2
              have hM : 4 * (P : Int) * (Q : Int) = 4 * (N : Int) := by rw [← hNi, Int.mul_assoc]
              have HVD : Hid (verdict P Q rest = if R < 4 * N then ((0, 0, []), 13) else if 4 * N < R then ((0, 0, []), 14) else (((P : Int), (Q : Int), colOf rest), 0)) := hidP (by
                unfold verdict
                rw [hM, HRL.out]
                by_cases h1 : R < 4 * N
                · rw [if_pos h1, if_pos (by omega)]
                · rw [if_neg h1, if_neg (by omega)]
                  by_cases h2 : 4 * N < R
                  · rw [if_pos h2, if_pos (by omega)]
                  · rw [if_neg h2, if_neg (by omega)])
              subst hR
              subst hC
              clear hN
              go_upto_region 9 with fail
              go_cut [7] (fun v7 wx => v7 = .slice (some ⟨g, o2, none⟩) R C ∧ u1 = wx)
              case first =>
                by_cases hC : C = 0
                · subst hC
                  have ho3 : off = o2 := by simpa using ho2
                  subst ho3
                  go_wp2_with fail
                  go_meet
                  exact ⟨by simp, rfl⟩
                · rw [if_neg (by omega)] at ho2
                  cases ho2
                  go_wp2_with fail
                  go_meet
                  exact ⟨by simp, rfl⟩
              case rest =>
              obtain ⟨rfl, rfl⟩ := hcut
              clear ho2 hw1 hw2 k1
              by_cases h1 : R < 4 * N
              · rw [if_pos h1] at HVD
                go_wp2_with fail
                refine absB (fun ue hue => ?_)
                have hbs : Bl ue (w.heap.size) #[.int .i64 0, .int .i64 0, .slice none 0 0] := by rw [hue]; exact (((bs.set (by simp)).set (by simp)).set (by simp))
                have hnc : ∀ {aa : Option Addr} {nn cc : Nat} {ll : List Col}, SlC u1 aa nn cc ll → SlC ue aa nn cc ll := fun h => by
                  rw [hue]
                  exact h.but bs (not_u8s) ((But.refl _ _).store.store.store)
                have heu : Ext w ue := by rw [hue]; exact ((HE.store (by show w.heap.size ≤ w.heap.size; omega) _).store (by show w.heap.size ≤ w.heap.size; omega) _).store (by show w.heap.size ≤ w.heap.size; omega) _
                clear hue
                refine bodyPost_cells_tmp2 rfl rfl Try.underlying69 rfl (by kernel_rfl) (blk_three hbs) rfl rfl ?_
                refine HV'.out _ _ ?_
                rw [HVD.out]
                exact ⟨none, 0, 0, rfl, SlK.nil 4 _, heu⟩
              · rw [if_neg h1] at HVD
                by_cases h2 : 4 * N < R
                · rw [if_pos h2] at HVD
                  go_wp2_with fail
                  refine absB (fun ue hue => ?_)
                  have hbs : Bl ue (w.heap.size) #[.int .i64 0, .int .i64 0, .slice none 0 0] := by rw [hue]; exact (((bs.set (by simp)).set (by simp)).set (by simp))
                  have hnc : ∀ {aa : Option Addr} {nn cc : Nat} {ll : List Col}, SlC u1 aa nn cc ll → SlC ue aa nn cc ll := fun h => by
                    rw [hue]
                    exact h.but bs (not_u8s) ((But.refl _ _).store.store.store)
                  have heu : Ext w ue := by rw [hue]; exact ((HE.store (by show w.heap.size ≤ w.heap.size; omega) _).store (by show w.heap.size ≤ w.heap.size; omega) _).store (by show w.heap.size ≤ w.heap.size; omega) _
                  clear hue
                  refine bodyPost_cells_tmp2 rfl rfl Try.underlying69 rfl (by kernel_rfl) (blk_three hbs) rfl rfl ?_
                  refine HV'.out _ _ ?_
                  rw [HVD.out]
                  exact ⟨none, 0, 0, rfl, SlK.nil 4 _, heu⟩
                · rw [if_neg h2] at HVD
                  obtain rfl : R = 4 * N := by omega
                  have hCl := colOf_len N rest HRL.out
                  have HC : Hid (∀ k, k < N → ∃ p0 p1 p2 p3 : Nat, (colOf rest).take (k + 1) = (colOf rest).take k ++ [(p0, p1, p2, p3)] ∧ (∃ h : 4 * k < rest.length, rest[4 * k] = p0) ∧ (∃ h : 4 * k + 1 < rest.length, rest[4 * k + 1] = p1) ∧ (∃ h : 4 * k + 2 < rest.length, rest[4 * k + 2] = p2) ∧ (∃ h : 4 * k + 3 < rest.length, rest[4 * k + 3] = p3)) := hidP (fun k hk => by
                    have hr := HRL.out
                    have hg := colOf_get k rest (by omega)
                    refine ⟨_, _, _, _, ?_, ⟨by omega, rfl⟩, ⟨by omega, rfl⟩, ⟨by omega, rfl⟩, ⟨by omega, rfl⟩⟩
                    rw [List.take_add_one, hg]
                    rfl)
                  generalize colOf rest = CL at *
                  have lsx := bs.lt (Nat.succ_pos _)
                  obtain ⟨b, off2, hga, hcell⟩ := HS.out.at_int (by omega)
                  cases hga
                  have HCELL := hidP hcell
                  clear hcell hlen hle1 hcn hn HLN h1 h2
                  go_upto_region 15 with fail
                  refine absW (fun x6 hx6 => ?_)
                  have hx : Ext u1 x6 := by rw [hx6]; exact ((Ext.refl _).alloc _)
                  have hxu := hx
                  have bt : Bl x6 (u1.heap.size) #[.int .i64 (P : Int), .int .i64 (Q : Int), .slice none 0 0] := by rw [hx6]; exact (Bl.new (by simp))
                  have ft : Fz x6 (u1.heap.size) := by rw [hx6]; exact (Fz.new (by simp))
                  replace fs := Fz.ext hx fs bs (Nat.succ_pos _)
                  replace bs := Bl.ext hx bs (Nat.succ_pos _)
                  replace HE := HE.trans hx
                  clear hx
                  clear hx6
                  generalize hga : u1.heap.size = ga at *
                  have HU : Ext u1 x6 := hxu
                  clear hxu
                  have hB : ga + 1 ≤ x6.heap.size := by have := bt.lt (Nat.succ_pos _); omega
                  have hz0 : x6.ownsRow (ga + 1) 73 4 (.slice none 0 0) 0 (cols (CL.take 0)) := World.ownsRow_nil _ _ _ _
                  go_wp2_with fail
                  go_loopw [9] (fun iv wr => ∃ (k : Nat) (v : Value), k ≤ N ∧ iv = .int .i64 (k : Int) ∧ wr.ownsRow (ga + 1) 73 4 v k (cols (CL.take k)) ∧ Bl wr ga #[.int .i64 (P : Int), .int .i64 (Q : Int), v] ∧ Fz wr ga ∧ Bl wr w.heap.size #[.int .i64 0, .int .i64 0, .slice none 0 0] ∧ Fz wr w.heap.size ∧ ga + 1 ≤ wr.heap.size ∧ Below ga u1 wr ∧ Ext w wr) (fun iv _ => N - (intOf iv).toNat)
                  case atStart => exact ⟨0, _, by omega, rfl, hz0, bt, ft, bs, fs, hB, by rw [← hga]; exact HU, HE⟩
                  case round =>
                    clear hz0 bt ft bs fs hB HE HU
                    obtain ⟨k, v, hk, rfl, hown, bt, ft, bs, fs, hB, HU, HE⟩ := hrel
                    by_cases hlt5 : k < N
                    · have hlt6 : k < N := hlt5
                      obtain ⟨p0, p1, p2, p3, hst, ⟨g0, e0⟩, ⟨g1, e1⟩, ⟨g2', e2⟩, ⟨g3, e3⟩⟩ := HC.out k hlt5
                      have hbu : g < ga := by
                        have := cell_lt (HCELL.out _ g0)
                        omega
                      have h0 := low_cell HU (HCELL.out _ g0) hbu; have h1 := low_cell HU (HCELL.out _ g1) hbu; have h2 := low_cell HU (HCELL.out _ g2') hbu; have h3 := low_cell HU (HCELL.out _ g3) hbu
                      rw [e0] at h0
                      rw [e1] at h1
                      rw [e2] at h2
                      rw [e3] at h3
                      have hst2 := congrArg cols hst
                      rw [cols_append] at hst2
                      have HST : Hid (cols (CL.take (k + 1)) = cols (CL.take k) ++ [.int .u8 (p0 : Int), .int .u8 (p1 : Int), .int .u8 (p2 : Int), .int .u8 (p3 : Int)]) := hidP hst2
                      clear e0 e1 e2 e3 g0 g1 g2' g3 hst hst2
                      go_wp2_with fail
                      refine wp_region_plan (R := Below (ga + 1)) (.q 0 (.q 1 (.q 2 (.q 3 (.q 4 (.q 5 (.q 6 (.q 7 (.q 8 (.q 9 (.q 10 (.q 11 (.q 12 (.q 13 (.q 14 (.q 15 (.q 16 (.q 17 (.q 18 (.q 19 (.q 20 (.q 21 (.q 22 (.q 23 (.q 24 (.q 25 (.l 26 (.l 27 (.q 28 (.b 29 .done)))))))))))))))))))))))))))))) (by kernel_rfl) (by kernel_rfl) (by kernel_rfl) (by kernel_rfl) (Below.refl _) (fun _ _ _ => Below.trans) ?_
                      refine absE (fun x7 hx7 => ?_)
                      have hx : Ext wr x7 := by rw [hx7]; exact (Ext.refl _).drew
                      replace hown : x7.ownsRow (ga + 1) 73 4 v k (cols (CL.take k)) := by rw [hx7]; exact hown.drew
                      replace ft := Fz.ext hx ft bt (Nat.succ_pos _)
                      replace bt := Bl.ext hx bt (Nat.succ_pos _)
                      replace fs := Fz.ext hx fs bs (Nat.succ_pos _)
                      replace bs := Bl.ext hx bs (Nat.succ_pos _)
                      replace h0 := hx.cell' h0; replace h1 := hx.cell' h1; replace h2 := hx.cell' h2; replace h3 := hx.cell' h3
                      replace HU := HU.trans (hx.mono (by omega))
                      replace hB := Nat.le_trans hB hx.size
                      replace HE := HE.trans hx
                      clear hx hx7
                      have W0 : Hid (IntKind.i64.wrap (4 * (k : Int)) = 4 * (k : Int)) := hidP (IntWalk.i64_in _ (by omega))
                      have W1 : Hid (IntKind.i64.wrap (4 * (k : Int) + 1) = 4 * (k : Int) + 1) := hidP (IntWalk.i64_in _ (by omega))
                      have W2 : Hid (IntKind.i64.wrap (4 * (k : Int) + 2) = 4 * (k : Int) + 2) := hidP (IntWalk.i64_in _ (by omega))
                      have W3 : Hid (IntKind.i64.wrap (4 * (k : Int) + 3) = 4 * (k : Int) + 3) := hidP (IntWalk.i64_in _ (by omega))
                      repeat (refine wpE_q (v := ?_) rfl rfl (fun u hu => ?_) ?_; rotate_left 1; (focus (have kt := Bl.lowB hu bt (by omega); have k0 := low_cell hu h0 (by omega); have k1 := low_cell hu h1 (by omega); have k2 := low_cell hu h2 (by omega); have k3 := low_cell hu h3 (by omega); have w0 := W0.out; have w1 := W1.out; have w2 := W2.out; have w3 := W3.out; have t0 : (4 * (k : Int)).toNat = 4 * k := (by omega); have t1 : (4 * (k : Int) + 1).toNat = 4 * k + 1 := (by omega); have t2 : (4 * (k : Int) + 2).toNat = 4 * k + 2 := (by omega); have t3 : (4 * (k : Int) + 3).toNat = 4 * k + 3 := (by omega); have z0 : (0 : Int) ≤ 4 * (k : Int) := (by omega); have y0 : 4 * (k : Int) < 4 * (N : Int) := (by omega); have z1 : (0 : Int) ≤ 4 * (k : Int) + 1 := (by omega); have y1 : 4 * (k : Int) + 1 < 4 * (N : Int) := (by omega); have z2 : (0 : Int) ≤ 4 * (k : Int) + 2 := (by omega); have y2 : 4 * (k : Int) + 2 < 4 * (N : Int) := (by omega); have z3 : (0 : Int) ≤ 4 * (k : Int) + 3 := (by omega); have y3 : 4 * (k : Int) + 3 < 4 * (N : Int) := (by omega); go_simp; (try rfl))); simp only [Act.put, List.setIfInBounds_toArray, List.set_cons_zero, List.set_cons_succ])
                      refine wpE_l rfl rfl (fun K hK => ?_)
                      go_simp
                      refine hK.out _ _ ((Below.refl _ _).alloc hB _) ?_
                      clear hK K
                      try simp only [Act.put, List.setIfInBounds_toArray, List.set_cons_zero, List.set_cons_succ]
                      refine wpE_l rfl rfl (fun K hK => ?_)
                      refine wp_appB (ad := ⟨x7.heap.size, 0, none⟩) (m := 1) T_col _ _ rfl (hown.alloc _) (Nat.le_trans hB (by simp)) [.int .u8 (p0 : Int), .int .u8 (p1 : Int), .int .u8 (p2 : Int), .int .u8 (p3 : Int)] rfl rfl rfl (news4 _ _ _ _ _ _) (ends_c4 p0 p1 p2 p3) (by omega) (by omega) ?_
                      intro v2 w2 hown2 hlow0
                      refine hK.out _ _ hlow0 ?_
                      clear hK K
                      try simp only [Act.put, List.setIfInBounds_toArray, List.set_cons_zero, List.set_cons_succ]
                      have hlow : Below (ga + 1) x7 w2 := Below.trans ((Below.refl _ _).alloc hB _) hlow0
                      clear hlow0
                      obtain ⟨a2, c2', rfl, hs2⟩ := SlK.of_owns hown2
                      have ft2 := Fz.lowB hlow ft (by omega)
                      have bt2 := Bl.lowB hlow bt (by omega)
                      have fs2 := Fz.lowB hlow fs (by omega)
                      have bs2 := Bl.lowB hlow bs (by omega)
                      repeat (refine wpE_q (v := ?_) rfl rfl (fun u hu => ?_) ?_; rotate_left 1; (focus (have kt := Bl.lowB hu bt2 (by omega); go_simp; (try rfl))); simp only [Act.put, List.setIfInBounds_toArray, List.set_cons_zero, List.set_cons_succ])
                      refine wpE_b rfl rfl (fun K hK => ?_)
                      go_simp
                      refine hK.out _ _ ?_
                      clear hK K
                      try simp only [Act.put, List.setIfInBounds_toArray, List.set_cons_zero, List.set_cons_succ]
                      refine wpE_done ?_
                      go_wp2_with fail
                      have hb2 : But w2 (w2.setCell ⟨ga, 2, none⟩ (.slice a2 (k + 1) c2')) ga := (But.refl _ _).store
                      go_roundw
                      case rel =>
                        refine ⟨k + 1, _, by omega, by go_num, ?_, bt2.set (by simp), ft2.set, hb2.bl bs2 (Nat.succ_pos _) (by omega), hb2.fz fs2 bs2 (Nat.succ_pos _) (by omega), Nat.le_trans (Nat.le_trans hB hlow.size) hb2.1, Below.setCell (Below.trans HU (hlow.mono (by omega))) (by show ga ≤ ga; omega) _, (Below.trans HE (hlow.mono (by omega))).setCell (by show w.heap.size ≤ ga; omega) _⟩
                        rw [HST.out]
                        exact hb2.rowB hown2 (by omega)
                      case measure => simp only [intOf]; omega
                    · obtain rfl : k = N := by omega
                      obtain ⟨a2, c2', rfl, hs2⟩ := SlK.of_owns hown
                      rw [List.take_of_length_le (by omega)] at hs2
                      have HSR : Hid (SlC wr a2 k c2' CL) := hidP hs2
                      clear hs2 hown
                      go_wp2_with fail
                      refine absB (fun ue hue => ?_)
                      have hbs : Bl ue (w.heap.size) #[.int .i64 (P : Int), .int .i64 (Q : Int), .slice a2 k c2'] := by rw [hue]; exact (((bs.set (by simp)).set (by simp)).set (by simp))
                      have hnc : ∀ {aa : Option Addr} {nn cc : Nat} {ll : List Col}, SlC wr aa nn cc ll → SlC ue aa nn cc ll := fun h => by
                        rw [hue]
                        exact h.but bs (not_u8s) ((But.refl _ _).store.store.store)
                      have heu : Ext w ue := by rw [hue]; exact ((HE.store (by show w.heap.size ≤ w.heap.size; omega) _).store (by show w.heap.size ≤ w.heap.size; omega) _).store (by show w.heap.size ≤ w.heap.size; omega) _
                      clear hue
                      refine bodyPost_cells_tmp2 rfl rfl Try.underlying69 rfl (by kernel_rfl) (blk_three hbs) rfl rfl ?_
                      refine HV'.out _ _ ?_
                      rw [HVD.out]
                      exact ⟨_, _, _, rfl, hnc HSR.out, heu⟩
            · have HNO : Hid (¬ Heads l P Q) := hidP (fun hh => hb (by
                obtain ⟨t, ht⟩ := HD.out.1 hh
                rw [← ht, ← natsOf_len, List.take_left]
                exact bytesOf_natsOf' hs))
              generalize bytesOf (l.take hs.size) = sx at *
              have hle1 : ¬ ((n : Int) < (hs.size : Int)) := by omega
              have hb4 : (sx.toList == hs.toList) = false := by
                rw [beq_eq_false_iff_ne, toList_data, toList_data]
                exact fun e => hb (Go.WideShapes.bytes_inj e)
              go_wp2_with fail
              go_roundw
              case rel => exact ⟨Q + 1, by omega, by omega, by go_num, hidP (fun p' q' hh => by
                rcases HNQ.out p' q' hh with h | ⟨rfl, h⟩
                · exact .inl h
                · by_cases e : (Q : Int) = q'
                  · subst e; exact absurd hh HNO.out
                  · right; exact ⟨rfl, by omega⟩), bs, fs, HE⟩
              case measure => simp only [intOf]; omega
        · obtain rfl : Q = 65 := by omega
          go_wp2_with fail
          go_roundw
          case rel => exact ⟨P + 1, by omega, by omega, by go_num, hidP (fun p' q' hh => by
            have h2 : q' ≤ 64 := hh.2.2.2.1
            rcases HNQ.out p' q' hh with h | ⟨rfl, h⟩ <;> omega), bs, fs, HE⟩
          case measure => simp only [intOf]; omega
    · obtain rfl : P = 65 := by omega
      have HNO : Hid (∀ p q, ¬ Heads l p q) := hidP (fun p q hh => by
        have h2 : p ≤ 64 := hh.2.1
        have := HNP.out p q hh
        omega)
      go_wp2_with fail
      refine absB (fun ue hue => ?_)
      have hbs : Bl ue (w.heap.size) #[.int .i64 0, .int .i64 0, .slice none 0 0] := by rw [hue]; exact (((bs.set (by simp)).set (by simp)).set (by simp))
      have hnc : ∀ {aa : Option Addr} {nn cc : Nat} {ll : List Col}, SlC wr aa nn cc ll → SlC ue aa nn cc ll := fun h => by
        rw [hue]
        exact h.but bs (not_u8s) ((But.refl _ _).store.store.store)
      have heu : Ext w ue := by rw [hue]; exact ((HE.store (by show w.heap.size ≤ w.heap.size; omega) _).store (by show w.heap.size ≤ w.heap.size; omega) _).store (by show w.heap.size ≤ w.heap.size; omega) _
      clear hue
      refine bodyPost_cells_tmp2 rfl rfl Try.underlying69 rfl (by kernel_rfl) (blk_three hbs) rfl rfl ?_
      exact .inr ⟨HNO.out, none, 0, 0, rfl, SlK.nil 4 _, heu⟩

end Go.Proofs.Ytogcmnagiepofaa
