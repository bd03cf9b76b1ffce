/- Dashes: the ways of a line. -/
import Derived.Test.YtlhaepcnhkaclaaY1
import Derived.Test.YtlhaepcnhkaclaaY2
import Derived.IntWalk
namespace Go.Proofs.Ytlhaepcnhkaclaa
set_option linter.unusedVariables false
set_option linter.unusedSimpArgs false
open Go Go.RowKit

/-- The cells of ways. -/
def wys (l : List Way) : List Value := l.flatMap fun x => [.int .i64 x.1.1.1, .int .i64 x.1.1.2, .int .i64 x.1.2.1, .int .i64 x.1.2.2, .int .i64 x.2.1, .int .i64 x.2.2]
theorem wys_append (l m : List Way) : wys (l ++ m) = wys l ++ wys m := by simp [wys]
theorem wys_len (l : List Way) : (wys l).length = l.length * 6 := by
  induction l with
  | nil => rfl
  | cons a r ih => simp only [wys, List.flatMap_cons, List.length_append, List.length_cons, List.length_nil] at ih ⊢; omega
theorem wys_get (l : List Way) (i : Nat) (h : i < l.length) : (wys l)[i * 6]? = some (.int .i64 l[i].1.1.1) ∧ (wys l)[i * 6 + 1]? = some (.int .i64 l[i].1.1.2) ∧ (wys l)[i * 6 + 2]? = some (.int .i64 l[i].1.2.1) ∧ (wys l)[i * 6 + 3]? = some (.int .i64 l[i].1.2.2) ∧ (wys l)[i * 6 + 4]? = some (.int .i64 l[i].2.1) ∧ (wys l)[i * 6 + 5]? = some (.int .i64 l[i].2.2) := by
  induction l generalizing i with
  | nil => exact absurd h (by simp)
  | cons a r ih =>
    cases i with
    | zero => simp [wys]
    | succ k =>
      have := ih k (by simpa using h)
      have e : ∀ j, (k + 1) * 6 + j = 6 + (k * 6 + j) := fun j => by omega
      have e0 : (k + 1) * 6 = 6 + k * 6 := by omega
      rw [e0]
      have g : ∀ j, (wys (a :: r))[6 + j]? = (wys r)[j]? := fun j => by
        show ([_, _, _, _, _, _] ++ wys r)[6 + j]? = _
        rw [List.getElem?_append_right (by simp)]
        congr 1
        simp
      simp only [Nat.add_assoc, g]
      exact this
def SlW (w : World) (a : Option Addr) (n cap : Nat) (l : List Way) : Prop := SlK 6 w a n cap (wys l)
theorem SlW.len {w : World} {a : Option Addr} {n cap : Nat} {l : List Way} (h : SlW w a n cap l) : l.length = n := by
  have := h.1
  rw [wys_len] at this
  omega
theorem SlW.ext {w u : World} {a : Option Addr} {n cap : Nat} {l : List Way} (h : SlW w a n cap l) (he : Ext w u) : SlW u a n cap l := SlK.ext h he
theorem SlW.at {w : World} {a : Option Addr} {n cap : Nat} {l : List Way} (h : SlW w a n cap l) (h0 : 0 < n) : ∃ b off, a = some ⟨b, off, none⟩ ∧ ∀ (i : Nat) (hi : i < l.length), w.cell? ⟨b, off + i * 6, none⟩ = some (.int .i64 l[i].1.1.1) ∧ w.cell? ⟨b, off + i * 6 + 1, none⟩ = some (.int .i64 l[i].1.1.2) ∧ w.cell? ⟨b, off + i * 6 + 2, none⟩ = some (.int .i64 l[i].1.2.1) ∧ w.cell? ⟨b, off + i * 6 + 3, none⟩ = some (.int .i64 l[i].1.2.2) ∧ w.cell? ⟨b, off + i * 6 + 4, none⟩ = some (.int .i64 l[i].2.1) ∧ w.cell? ⟨b, off + i * 6 + 5, none⟩ = some (.int .i64 l[i].2.2) := by
  obtain ⟨b, off, e, hc⟩ := h.2.2.2 h0
  refine ⟨b, off, e, fun i hi => ?_⟩
  obtain ⟨g0, g1, g2, g3, g4, g5⟩ := wys_get l i hi
  exact ⟨hc _ _ g0, hc _ _ g1, hc _ _ g2, hc _ _ g3, hc _ _ g4, hc _ _ g5⟩
theorem T_way : SlTK Try.prog 64 108 6 (.agg #[.int .i64 0, .int .i64 0, .int .i64 0, .int .i64 0, .int .i64 0, .int .i64 0]) 48 :=
  let ⟨i, h1, h2, h3, h4⟩ := info_parts (P := Try.prog) (e := 108) (z := .agg #[.int .i64 0, .int .i64 0, .int .i64 0, .int .i64 0, .int .i64 0, .int .i64 0]) (size := 6) (bytes := 48) (by kernel_rfl); ⟨Try.underlying64, by omega, i, h1, h2, h3, h4, rfl⟩
theorem ends_way (a b c d e f : Int) : ∀ u ∈ (#[Value.int .i64 a, Value.int .i64 b, Value.int .i64 c, Value.int .i64 d, Value.int .i64 e, Value.int .i64 f] : Array Value).toList, u.oneCell' = true := by
  intro u hu
  simp at hu
  rcases hu with rfl | rfl | rfl | rfl | rfl | rfl <;> rfl
/-- The call hands back ways. -/
def RetWy (w : World) (l : List Way) (e : Ending) (w' : World) : Prop := ∃ a n cap, e = .returned (.slice a n cap) ∧ SlW w' a n cap l ∧ w'.ownsRow (w.heap.size + 1) 108 6 (.slice a n cap) n (wys l) ∧ Ext w w'

set_option maxRecDepth 100000 in
set_option maxHeartbeats 4000000 in
theorem dd_ways (a : Option Addr) (n cap : Nat) (l : List Pt) (c : Bool) (w : World) (h : SlP w a n cap l) (hn : n ≤ 4194303) :
    Calls Try.prog 26 #[.agg #[.slice a n cap, .bool c]] w (RetWy w (waysF (rndL l c) 0)) := by
  have H := hidP h
  have HLN := hidP h.len
  clear h
  have hrl := rnd_len l c
  rw [HLN.out] at hrl
  have HAT : Hid (∀ k (hk : k < (rndL l c).length) (hn : 0 < n), (rndL l c)[k] = l[k % n]'(by rw [HLN.out]; exact Nat.mod_lt _ hn)) := hidP (fun k hk h0 => by
    have e := rnd_at hk (List.length_pos_iff.1 (by rw [HLN.out]; exact h0))
    rw [e]
    congr 1
    rw [HLN.out])
  have hrl2 : (rndL l c).length = if c = true ∧ 0 < n then n + 1 else n := by
    rw [hrl]
    by_cases h0 : n = 0
    · have : l = [] := List.length_eq_zero_iff.1 (by rw [HLN.out]; exact h0)
      simp [this, h0]
    · have : l ≠ [] := List.length_pos_iff.1 (by rw [HLN.out]; omega)
      simp only [this, ne_eq, not_false_eq_true, and_true]
      by_cases hc : c = true
      · rw [if_pos hc, if_pos ⟨hc, by omega⟩]
      · rw [if_neg hc, if_neg (fun h => hc h.1)]
  have HRL := hidP hrl2
  have hR0 : waysF ((rndL l c).take 1) 0 = [] := by
    match rndL l c with
    | [] => rfl
    | p :: r => rfl
  have hR1 : path lenP ((rndL l c).take 1) = 0 := by
    match rndL l c with
    | [] => rfl
    | p :: r => rfl
  have HR0 := hidP hR0; have HR1 := hidP hR1
  clear hrl hrl2 hR0 hR1
  generalize rndL l c = R at *
  go_enter Try.func26, Try.ntmps26
  go_wp2_with fail
  refine absW (fun x1 hx1 => ?_)
  have hx : Ext w x1 := by rw [hx1]; exact ((Ext.refl _).alloc _)
  have bp : Bl x1 (w.heap.size) #[.slice a n cap, .bool c] := by rw [hx1]; exact (Bl.new (by simp))
  have HE := hx
  clear hx
  clear hx1
  refine wp_region_plan (R := Ext) (.q 0 (.q 1 (.q 2 (.q 3 (.q 4 .done))))) (by kernel_rfl) (by kernel_rfl) (by kernel_rfl) (by kernel_rfl) Ext.refl (fun _ _ _ => Ext.trans) ?_
  refine absE (fun x2 hx2 => ?_)
  have hx : Ext x1 x2 := by rw [hx2]; exact (Ext.refl _).drew
  replace bp := Bl.ext hx bp (Nat.succ_pos _)
  replace HE := HE.trans hx
  clear hx
  clear hx2
  repeat (refine wpE_q (v := ?_) rfl rfl (fun u hu => ?_) ?_; rotate_left 1; (focus (have kp := Bl.ext hu bp (Nat.succ_pos _); go_simp; (try rfl))); simp only [Act.put, List.setIfInBounds_toArray, List.set_cons_zero, List.set_cons_succ])
  refine wpE_done ?_
  have hlow : w.heap.size + 1 ≤ x2.heap.size := bp.lt (Nat.succ_pos _)
  go_wp2_with fail
  go_loopw [3, 4, 14] (fun vv sv iv wr => ∃ (j : Nat) (s : Int) (ws : List Way), j ≤ n ∧ iv = .int .i64 (j : Int) ∧ sv = .int .i64 s ∧ wr.ownsRow (w.heap.size + 1) 108 6 vv ws.length (wys ws) ∧ ws.length ≤ j ∧ Hid (waysF (R.take (j + 1)) 0 = ws) ∧ Hid (path lenP (R.take (j + 1)) = s) ∧ Bl wr w.heap.size #[.slice a n cap, .bool c] ∧ w.heap.size + 1 ≤ wr.heap.size ∧ Ext w wr) (fun _ _ iv _ => n - (intOf iv).toNat)
  case atStart => exact ⟨0, 0, [], by omega, rfl, rfl, by simpa [wys] using World.ownsRow_nil _ (w.heap.size + 1) 108 6, by simp, HR0, HR1, bp, hlow, HE⟩
  case round =>
    clear HE bp HR0 HR1 hlow
    obtain ⟨j, s, ws, hj, rfl, rfl, hown, hwl, HJ, HS, bp, hB, HE⟩ := hrel
    have hsb := path_bd' R (j + 1) (by omega)
    rw [HS.out] at hsb
    obtain ⟨s1, s2⟩ := hsb
    by_cases hlt : j < n
    · by_cases hlast : c = false ∧ j + 1 = n
      · obtain ⟨rfl, hl2⟩ := hlast
        have HR : Hid (waysF R 0 = ws) := hidP (by have := HJ.out; rwa [List.take_of_length_le (by have := HRL.out; simp at this; omega)] at this)
        have hjn : (j : Int) = (n : Int) - 1 := by omega
        obtain ⟨a2, c2, rfl, hs2⟩ := SlK.of_owns hown
        clear HJ HS
        have HOWN := hidP hs2
        have HOW2 := hidP hown
        clear hown hs2
        go_wp2_with fail
        go_ret
        exact ⟨a2, _, c2, rfl, by rw [HR.out]; exact HOWN.out, by rw [HR.out]; exact HOW2.out, HE⟩
      · obtain ⟨g, off, rfl, hc⟩ := (H.out.ext HE).at (by omega)
        have hjl : j < l.length := by rw [HLN.out]; exact hlt
        have hk : (j + 1) % n < n := Nat.mod_lt _ (by omega)
        have hkl : (j + 1) % n < l.length := by rw [HLN.out]; exact hk
        have htm : ((j : Int) + 1).tmod (n : Int) = (((j + 1) % n : Nat) : Int) := by
          rw [Int.tmod_eq_emod_of_nonneg (by omega)]; simp
        obtain ⟨h1, h2⟩ := hc j hjl
        obtain ⟨h3, h4⟩ := hc ((j + 1) % n) hkl
        have hjR : j + 1 < R.length := by
          rw [HRL.out]
          by_cases hc : c = true
          · rw [if_pos ⟨hc, by omega⟩]; omega
          · rw [if_neg (fun h => hc h.1)]
            have h5 : ¬ (j + 1 = n) := fun h => hlast ⟨by simpa using hc, h⟩
            omega
        have e1 : R[j]'(by omega) = l[j]'hjl := by
          rw [HAT.out j (by omega) (by omega)]
          congr 1
          exact Nat.mod_eq_of_lt hlt
        have e2 : R[j + 1]'hjR = l[(j + 1) % n]'hkl := HAT.out (j + 1) hjR (by omega)
        have hws := ways_step hjR
        have hps := path_step hjR
        rw [e1, e2, HJ.out, HS.out] at hws
        rw [e1, e2, HS.out] at hps
        have hlb := lenP_bd (l[j]'hjl) (l[(j + 1) % n]'hkl)
        have hLen := fun u => g_Len (l[j]'hjl).1 (l[j]'hjl).2 (l[(j + 1) % n]'hkl).1 (l[(j + 1) % n]'hkl).2 u
        clear hc e1 e2
        generalize hpp : l[j]'hjl = pp at *
        generalize hqq : l[(j + 1) % n]'hkl = qq at *
        obtain ⟨px, py⟩ := pp
        obtain ⟨qx, qy⟩ := qq
        have hlp : lenP (px, py) (qx, qy) = (lenI px py qx qy : Nat) := rfl
        rw [hlp] at hws hps hlb
        clear hlp
        simp only [] at *
        generalize lenI px py qx qy = ln at *
        have HLEN := hidP hLen
        have HTM := hidP htm
        have HWS := hidP hws
        have HPS := hidP hps
        have HJN : Hid (c = false → ¬ (j : Int) = (n : Int) - 1) := hidP (fun hc => by intro h; exact hlast ⟨hc, by omega⟩)
        clear hLen htm hws hps hpp hqq hlast hjR hjl hkl
        generalize (j + 1) % n = k at *
        have hnz : ¬ n = 0 := by omega
        have HLT := hidP (fun r e => (hown.lt r e).2)
        have HWN := hidP (IntWalk.i64_in ((n : Int) - 1) (by omega))
        have HW0 := hidP (IntWalk.i64_in ((j : Int) + 1) (by omega))
        cases hcc : c
        · subst hcc
          have hjn := HJN.out rfl
          have hjb : ((j : Int) == (n : Int) - 1) = false := by simp; omega
          go_upto_region 7 with fail
          have lop := bp.lt (Nat.succ_pos _)
          have loh1 := cell_lt h1
          have loh2 := cell_lt h2
          have loh3 := cell_lt h3
          have loh4 := cell_lt h4
          have hlo : wr.heap.size ≤ wr.heap.size := Nat.le_refl _
          refine wp_region_plan (R := Below wr.heap.size) (.q 0 (.q 1 (.q 2 (.q 3 (.q 4 (.q 5 (.q 6 (.q 7 (.q 8 (.q 9 (.q 10 (.q 11 (.q 12 (.br 13 (.l 14 (.l 15 (.b 16 .done))) (.l 14 (.l 13 (.l 15 (.b 16 .done)))))))))))))))))) (by kernel_rfl) (by kernel_rfl) (by kernel_rfl) (by kernel_rfl) (Below.refl _) (fun _ _ _ => Below.trans) ?_
          refine absE (fun x11 hx11 => ?_)
          have hx : Ext wr x11 := by rw [hx11]; exact (Ext.refl _).drew
          replace hown := own_ext hown hx
          replace hlo := Nat.le_trans hlo hx.size
          replace bp := Bl.ext hx bp (Nat.succ_pos _)
          replace h1 := hx.cell' h1
          replace h2 := hx.cell' h2
          replace h3 := hx.cell' h3
          replace h4 := hx.cell' h4
          replace HE := HE.trans hx
          clear hx
          clear hx11
          repeat (refine wpE_q (v := ?_) rfl rfl (fun u hu => ?_) ?_; rotate_left 1; (focus (have kp := Bl.low hu bp lop; have kh1 := low_cell hu h1 loh1; have kh2 := low_cell hu h2 loh2; have kh3 := low_cell hu h3 loh3; have kh4 := low_cell hu h4 loh4; have wq0 := HW0.out; have tq := HTM.out; go_simp; (try rfl))); simp only [Act.put, List.setIfInBounds_toArray, List.set_cons_zero, List.set_cons_succ])
          refine wpE_br rfl rfl (fun K hK => ?_) ?_
          · go_simp
            refine hK.out _ _ ((Below.refl _ _).alloc hlo _) ?_
            clear hK K
            try simp only [Act.put, List.setIfInBounds_toArray, List.set_cons_zero, List.set_cons_succ]
            have geq := hlo
            have lpq := bp.lt (Nat.succ_pos _)
            have lh1q := cell_lt h1
            have lh2q := cell_lt h2
            have lh3q := cell_lt h3
            have lh4q := cell_lt h4
            have l0q := HE.size
            refine absE (fun x12 hx12 => ?_)
            have hx : Ext x11 x12 := by rw [hx12]; exact ((Ext.refl _).alloc _)
            have bq : Bl x12 (x11.heap.size) #[.int .i64 0, .int .i64 0] := by rw [hx12]; exact (Bl.new (by simp))
            have fq : Fz x12 (x11.heap.size) := by rw [hx12]; exact (Fz.new (by simp))
            replace hown := own_ext hown hx
            replace hlo := Nat.le_trans hlo hx.size
            replace bp := Bl.ext hx bp (Nat.succ_pos _)
            replace h1 := hx.cell' h1
            replace h2 := hx.cell' h2
            replace h3 := hx.cell' h3
            replace h4 := hx.cell' h4
            replace HE := HE.trans hx
            clear hx
            clear hx12
            refine wpE_l rfl rfl (fun K hK => ?_)
            go_simp
            refine hK.out _ _ ((Below.refl _ _).alloc hlo _) ?_
            clear hK K
            try simp only [Act.put, List.setIfInBounds_toArray, List.set_cons_zero, List.set_cons_succ]
            have ger := hlo
            have lpr := bp.lt (Nat.succ_pos _)
            have lqr := bq.lt (Nat.succ_pos _)
            have lh1r := cell_lt h1
            have lh2r := cell_lt h2
            have lh3r := cell_lt h3
            have lh4r := cell_lt h4
            have l0r := HE.size
            refine absE (fun x13 hx13 => ?_)
            have hx : Ext x12 x13 := by rw [hx13]; exact ((Ext.refl _).alloc _)
            have br : Bl x13 (x12.heap.size) #[.int .i64 0, .int .i64 0] := by rw [hx13]; exact (Bl.new (by simp))
            have fr : Fz x13 (x12.heap.size) := by rw [hx13]; exact (Fz.new (by simp))
            replace hown := own_ext hown hx
            replace hlo := Nat.le_trans hlo hx.size
            replace bp := Bl.ext hx bp (Nat.succ_pos _)
            replace fq := Fz.ext hx fq bq (Nat.succ_pos _)
            replace bq := Bl.ext hx bq (Nat.succ_pos _)
            replace h1 := hx.cell' h1
            replace h2 := hx.cell' h2
            replace h3 := hx.cell' h3
            replace h4 := hx.cell' h4
            replace HE := HE.trans hx
            clear hx
            clear hx13
            refine wpE_l rfl rfl (fun K hK => ?_)
            go_simp
            refine hK.out _ _ (((Below.refl _ _).setCell (by show wr.heap.size ≤ x11.heap.size; omega) _).setCell (by show wr.heap.size ≤ x11.heap.size; omega) _) ?_
            clear hK K
            try simp only [Act.put, List.setIfInBounds_toArray, List.set_cons_zero, List.set_cons_succ]
            refine absE (fun x14 hx14 => ?_)
            have hbut : But x13 x14 (x11.heap.size) := by rw [hx14]; exact (But.refl _ _).store.store
            have hbn : Bl x14 (x11.heap.size) #[.int .i64 px, .int .i64 py] := by rw [hx14]; exact (Bl.set (Bl.set bq (by simp)) (by simp))
            replace hown := own_but hown hbut (fun r e => by have := HLT.out r e; omega)
            replace h1 := But.cell hbut h1 (by show g ≠ _; omega)
            replace h2 := But.cell hbut h2 (by show g ≠ _; omega)
            replace h3 := But.cell hbut h3 (by show g ≠ _; omega)
            replace h4 := But.cell hbut h4 (by show g ≠ _; omega)
            replace bp := But.bl hbut bp (Nat.succ_pos _) (by omega)
            replace fr := But.fz hbut fr br (Nat.succ_pos _) (by omega)
            replace br := But.bl hbut br (Nat.succ_pos _) (by omega)
            replace fq : Fz x14 (x11.heap.size) := by rw [hx14]; exact (Fz.set (Fz.set fq))
            replace HE : Ext w x14 := by rw [hx14]; exact ((HE.store (by show w.heap.size ≤ x11.heap.size; omega) _).store (by show w.heap.size ≤ x11.heap.size; omega) _)
            replace hlo : wr.heap.size ≤ x14.heap.size := Nat.le_trans hlo hbut.1
            clear bq hbut hx14
            have bq := hbn
            clear hbn
            refine wpE_b rfl rfl (fun K hK => ?_)
            go_simp
            refine hK.out _ _ ?_
            clear hK K
            try simp only [Act.put, List.setIfInBounds_toArray, List.set_cons_zero, List.set_cons_succ]
            refine absE (fun x15 hx15 => ?_)
            have hbut : But x14 x15 (x12.heap.size) := by rw [hx15]; exact (But.refl _ _).store.store
            have hbn : Bl x15 (x12.heap.size) #[.int .i64 qx, .int .i64 qy] := by rw [hx15]; exact (Bl.set (Bl.set br (by simp)) (by simp))
            replace hown := own_but hown hbut (fun r e => by have := HLT.out r e; omega)
            replace h1 := But.cell hbut h1 (by show g ≠ _; omega)
            replace h2 := But.cell hbut h2 (by show g ≠ _; omega)
            replace h3 := But.cell hbut h3 (by show g ≠ _; omega)
            replace h4 := But.cell hbut h4 (by show g ≠ _; omega)
            replace bp := But.bl hbut bp (Nat.succ_pos _) (by omega)
            replace fq := But.fz hbut fq bq (Nat.succ_pos _) (by omega)
            replace bq := But.bl hbut bq (Nat.succ_pos _) (by omega)
            replace fr : Fz x15 (x12.heap.size) := by rw [hx15]; exact (Fz.set (Fz.set fr))
            replace HE : Ext w x15 := by rw [hx15]; exact ((HE.store (by show w.heap.size ≤ x12.heap.size; omega) _).store (by show w.heap.size ≤ x12.heap.size; omega) _)
            replace hlo : wr.heap.size ≤ x15.heap.size := Nat.le_trans hlo hbut.1
            clear br hbut hx15
            have br := hbn
            clear hbn
            refine wpE_done ?_
            clear hlo
            clear h1 h2 h3 h4
            have hBz := hB
            replace hB : w.heap.size + 1 ≤ x15.heap.size := Nat.lt_of_lt_of_le (bp.lt (Nat.succ_pos _)) (Nat.le_refl _)
            go_wp2_with fail
            refine (HLEN.out _).mono ?_
            rintro e u8 ⟨rfl, hx⟩
            replace hown := own_ext hown hx
            replace bp := Bl.ext hx bp (Nat.succ_pos _)
            replace fq := Fz.ext hx fq bq (Nat.succ_pos _)
            replace bq := Bl.ext hx bq (Nat.succ_pos _)
            replace fr := Fz.ext hx fr br (Nat.succ_pos _)
            replace br := Bl.ext hx br (Nat.succ_pos _)
            replace HE := HE.trans hx
            clear hx
            replace hB : w.heap.size + 1 ≤ u8.heap.size := bp.lt (Nat.succ_pos _)
            rcases Nat.eq_zero_or_pos ln with hz | hz
            · subst hz
              have HW3 : Hid (waysF (R.take (j + 1 + 1)) 0 = ws) := hidP (by rw [HWS.out, if_neg (by omega), List.append_nil])
              have HP3 : Hid (path lenP (R.take (j + 1 + 1)) = s) := hidP (by rw [HPS.out]; omega)
              clear HWS HPS bq fq br fr
              go_wp2_with fail
              go_roundw
              case rel => exact ⟨j + 1, s, ws, by omega, by go_num, rfl, hown, by omega, HW3, HP3, bp, hB, HE⟩
              case measure => simp only [intOf]; omega
            · have HW3 : Hid (waysF (R.take (j + 1 + 1)) 0 = ws ++ [(((px, py), (qx, qy)), s, (ln : Int))]) := hidP (by rw [HWS.out, if_pos (by omega)])
              have hzi : (0 : Int) < (ln : Int) := by omega
              clear HWS
              go_wp2_with (at_builtin; refine wpList_appB T_way rfl _ _ rfl hown hB #[.int .i64 px, .int .i64 py, .int .i64 qx, .int .i64 qy, .int .i64 s, .int .i64 (ln : Int)] rfl (ends_way _ _ _ _ _ _) rfl rfl (by omega) (by omega) ?_; intro v2 w2 hown2 hlow; replace bp := Bl.lowB hlow bp (Nat.lt_succ_self _); replace HE := Below.trans HE (Below.mono hlow (Nat.le_succ _)))
              go_roundw
              case rel => exact ⟨j + 1, s + ln, _, by omega, by go_num, rfl, by rw [wys_append, List.length_append]; exact hown2, by rw [List.length_append]; simp; omega, HW3, HPS, bp, bp.lt (Nat.succ_pos _), HE⟩
              case measure => simp only [intOf]; omega
          · refine wpE_l rfl rfl (fun K hK => ?_)
            go_simp
            refine hK.out _ _ ((Below.refl _ _).alloc hlo _) ?_
            clear hK K
            try simp only [Act.put, List.setIfInBounds_toArray, List.set_cons_zero, List.set_cons_succ]
            have ger := hlo
            have lpr := bp.lt (Nat.succ_pos _)
            have lh1r := cell_lt h1
            have lh2r := cell_lt h2
            have lh3r := cell_lt h3
            have lh4r := cell_lt h4
            have l0r := HE.size
            refine absE (fun x12 hx12 => ?_)
            have hx : Ext x11 x12 := by rw [hx12]; exact ((Ext.refl _).alloc _)
            have br : Bl x12 (x11.heap.size) #[.int .i64 0, .int .i64 0] := by rw [hx12]; exact (Bl.new (by simp))
            have fr : Fz x12 (x11.heap.size) := by rw [hx12]; exact (Fz.new (by simp))
            replace hown := own_ext hown hx
            replace hlo := Nat.le_trans hlo hx.size
            replace bp := Bl.ext hx bp (Nat.succ_pos _)
            replace h1 := hx.cell' h1
            replace h2 := hx.cell' h2
            replace h3 := hx.cell' h3
            replace h4 := hx.cell' h4
            replace HE := HE.trans hx
            clear hx
            clear hx12
            refine wpE_l rfl rfl (fun K hK => ?_)
            go_simp
            refine hK.out _ _ ((Below.refl _ _).alloc hlo _) ?_
            clear hK K
            try simp only [Act.put, List.setIfInBounds_toArray, List.set_cons_zero, List.set_cons_succ]
            have geq := hlo
            have lpq := bp.lt (Nat.succ_pos _)
            have lrq := br.lt (Nat.succ_pos _)
            have lh1q := cell_lt h1
            have lh2q := cell_lt h2
            have lh3q := cell_lt h3
            have lh4q := cell_lt h4
            have l0q := HE.size
            refine absE (fun x13 hx13 => ?_)
            have hx : Ext x12 x13 := by rw [hx13]; exact ((Ext.refl _).alloc _)
            have bq : Bl x13 (x12.heap.size) #[.int .i64 0, .int .i64 0] := by rw [hx13]; exact (Bl.new (by simp))
            have fq : Fz x13 (x12.heap.size) := by rw [hx13]; exact (Fz.new (by simp))
            replace hown := own_ext hown hx
            replace hlo := Nat.le_trans hlo hx.size
            replace bp := Bl.ext hx bp (Nat.succ_pos _)
            replace fr := Fz.ext hx fr br (Nat.succ_pos _)
            replace br := Bl.ext hx br (Nat.succ_pos _)
            replace h1 := hx.cell' h1
            replace h2 := hx.cell' h2
            replace h3 := hx.cell' h3
            replace h4 := hx.cell' h4
            replace HE := HE.trans hx
            clear hx
            clear hx13
            refine wpE_l rfl rfl (fun K hK => ?_)
            go_simp
            refine hK.out _ _ (((Below.refl _ _).setCell (by show wr.heap.size ≤ x12.heap.size; omega) _).setCell (by show wr.heap.size ≤ x12.heap.size; omega) _) ?_
            clear hK K
            try simp only [Act.put, List.setIfInBounds_toArray, List.set_cons_zero, List.set_cons_succ]
            refine absE (fun x14 hx14 => ?_)
            have hbut : But x13 x14 (x12.heap.size) := by rw [hx14]; exact (But.refl _ _).store.store
            have hbn : Bl x14 (x12.heap.size) #[.int .i64 px, .int .i64 py] := by rw [hx14]; exact (Bl.set (Bl.set bq (by simp)) (by simp))
            replace hown := own_but hown hbut (fun r e => by have := HLT.out r e; omega)
            replace h1 := But.cell hbut h1 (by show g ≠ _; omega)
            replace h2 := But.cell hbut h2 (by show g ≠ _; omega)
            replace h3 := But.cell hbut h3 (by show g ≠ _; omega)
            replace h4 := But.cell hbut h4 (by show g ≠ _; omega)
            replace bp := But.bl hbut bp (Nat.succ_pos _) (by omega)
            replace fr := But.fz hbut fr br (Nat.succ_pos _) (by omega)
            replace br := But.bl hbut br (Nat.succ_pos _) (by omega)
            replace fq : Fz x14 (x12.heap.size) := by rw [hx14]; exact (Fz.set (Fz.set fq))
            replace HE : Ext w x14 := by rw [hx14]; exact ((HE.store (by show w.heap.size ≤ x12.heap.size; omega) _).store (by show w.heap.size ≤ x12.heap.size; omega) _)
            replace hlo : wr.heap.size ≤ x14.heap.size := Nat.le_trans hlo hbut.1
            clear bq hbut hx14
            have bq := hbn
            clear hbn
            refine wpE_b rfl rfl (fun K hK => ?_)
            go_simp
            refine hK.out _ _ ?_
            clear hK K
            try simp only [Act.put, List.setIfInBounds_toArray, List.set_cons_zero, List.set_cons_succ]
            refine absE (fun x15 hx15 => ?_)
            have hbut : But x14 x15 (x11.heap.size) := by rw [hx15]; exact (But.refl _ _).store.store
            have hbn : Bl x15 (x11.heap.size) #[.int .i64 qx, .int .i64 qy] := by rw [hx15]; exact (Bl.set (Bl.set br (by simp)) (by simp))
            replace hown := own_but hown hbut (fun r e => by have := HLT.out r e; omega)
            replace h1 := But.cell hbut h1 (by show g ≠ _; omega)
            replace h2 := But.cell hbut h2 (by show g ≠ _; omega)
            replace h3 := But.cell hbut h3 (by show g ≠ _; omega)
            replace h4 := But.cell hbut h4 (by show g ≠ _; omega)
            replace bp := But.bl hbut bp (Nat.succ_pos _) (by omega)
            replace fq := But.fz hbut fq bq (Nat.succ_pos _) (by omega)
            replace bq := But.bl hbut bq (Nat.succ_pos _) (by omega)
            replace fr : Fz x15 (x11.heap.size) := by rw [hx15]; exact (Fz.set (Fz.set fr))
            replace HE : Ext w x15 := by rw [hx15]; exact ((HE.store (by show w.heap.size ≤ x11.heap.size; omega) _).store (by show w.heap.size ≤ x11.heap.size; omega) _)
            replace hlo : wr.heap.size ≤ x15.heap.size := Nat.le_trans hlo hbut.1
            clear br hbut hx15
            have br := hbn
            clear hbn
            refine wpE_done ?_
            clear hlo
            clear h1 h2 h3 h4
            have hBz := hB
            replace hB : w.heap.size + 1 ≤ x15.heap.size := Nat.lt_of_lt_of_le (bp.lt (Nat.succ_pos _)) (Nat.le_refl _)
            go_wp2_with fail
            refine (HLEN.out _).mono ?_
            rintro e u8 ⟨rfl, hx⟩
            replace hown := own_ext hown hx
            replace bp := Bl.ext hx bp (Nat.succ_pos _)
            replace fr := Fz.ext hx fr br (Nat.succ_pos _)
            replace br := Bl.ext hx br (Nat.succ_pos _)
            replace fq := Fz.ext hx fq bq (Nat.succ_pos _)
            replace bq := Bl.ext hx bq (Nat.succ_pos _)
            replace HE := HE.trans hx
            clear hx
            replace hB : w.heap.size + 1 ≤ u8.heap.size := bp.lt (Nat.succ_pos _)
            rcases Nat.eq_zero_or_pos ln with hz | hz
            · subst hz
              have HW3 : Hid (waysF (R.take (j + 1 + 1)) 0 = ws) := hidP (by rw [HWS.out, if_neg (by omega), List.append_nil])
              have HP3 : Hid (path lenP (R.take (j + 1 + 1)) = s) := hidP (by rw [HPS.out]; omega)
              clear HWS HPS bq fq br fr
              go_wp2_with fail
              go_roundw
              case rel => exact ⟨j + 1, s, ws, by omega, by go_num, rfl, hown, by omega, HW3, HP3, bp, hB, HE⟩
              case measure => simp only [intOf]; omega
            · have HW3 : Hid (waysF (R.take (j + 1 + 1)) 0 = ws ++ [(((px, py), (qx, qy)), s, (ln : Int))]) := hidP (by rw [HWS.out, if_pos (by omega)])
              have hzi : (0 : Int) < (ln : Int) := by omega
              clear HWS
              go_wp2_with (at_builtin; refine wpList_appB T_way rfl _ _ rfl hown hB #[.int .i64 px, .int .i64 py, .int .i64 qx, .int .i64 qy, .int .i64 s, .int .i64 (ln : Int)] rfl (ends_way _ _ _ _ _ _) rfl rfl (by omega) (by omega) ?_; intro v2 w2 hown2 hlow; replace bp := Bl.lowB hlow bp (Nat.lt_succ_self _); replace HE := Below.trans HE (Below.mono hlow (Nat.le_succ _)))
              go_roundw
              case rel => exact ⟨j + 1, s + ln, _, by omega, by go_num, rfl, by rw [wys_append, List.length_append]; exact hown2, by rw [List.length_append]; simp; omega, HW3, HPS, bp, bp.lt (Nat.succ_pos _), HE⟩
              case measure => simp only [intOf]; omega
        · subst hcc
          cases hjb : ((j : Int) == (n : Int) - 1)
          all_goals (
            go_upto_region 7 with fail
            have lop := bp.lt (Nat.succ_pos _)
            have loh1 := cell_lt h1
            have loh2 := cell_lt h2
            have loh3 := cell_lt h3
            have loh4 := cell_lt h4
            have hlo : wr.heap.size ≤ wr.heap.size := Nat.le_refl _
            refine wp_region_plan (R := Below wr.heap.size) (.q 0 (.q 1 (.q 2 (.q 3 (.q 4 (.q 5 (.q 6 (.q 7 (.q 8 (.q 9 (.q 10 (.q 11 (.q 12 (.br 13 (.l 14 (.l 15 (.b 16 .done))) (.l 14 (.l 13 (.l 15 (.b 16 .done)))))))))))))))))) (by kernel_rfl) (by kernel_rfl) (by kernel_rfl) (by kernel_rfl) (Below.refl _) (fun _ _ _ => Below.trans) ?_
            refine absE (fun x11 hx11 => ?_)
            have hx : Ext wr x11 := by rw [hx11]; exact (Ext.refl _).drew
            replace hown := own_ext hown hx
            replace hlo := Nat.le_trans hlo hx.size
            replace bp := Bl.ext hx bp (Nat.succ_pos _)
            replace h1 := hx.cell' h1
            replace h2 := hx.cell' h2
            replace h3 := hx.cell' h3
            replace h4 := hx.cell' h4
            replace HE := HE.trans hx
            clear hx
            clear hx11
            repeat (refine wpE_q (v := ?_) rfl rfl (fun u hu => ?_) ?_; rotate_left 1; (focus (have kp := Bl.low hu bp lop; have kh1 := low_cell hu h1 loh1; have kh2 := low_cell hu h2 loh2; have kh3 := low_cell hu h3 loh3; have kh4 := low_cell hu h4 loh4; have wq0 := HW0.out; have tq := HTM.out; go_simp; (try rfl))); simp only [Act.put, List.setIfInBounds_toArray, List.set_cons_zero, List.set_cons_succ])
            refine wpE_br rfl rfl (fun K hK => ?_) ?_
            · go_simp
              refine hK.out _ _ ((Below.refl _ _).alloc hlo _) ?_
              clear hK K
              try simp only [Act.put, List.setIfInBounds_toArray, List.set_cons_zero, List.set_cons_succ]
              have geq := hlo
              have lpq := bp.lt (Nat.succ_pos _)
              have lh1q := cell_lt h1
              have lh2q := cell_lt h2
              have lh3q := cell_lt h3
              have lh4q := cell_lt h4
              have l0q := HE.size
              refine absE (fun x12 hx12 => ?_)
              have hx : Ext x11 x12 := by rw [hx12]; exact ((Ext.refl _).alloc _)
              have bq : Bl x12 (x11.heap.size) #[.int .i64 0, .int .i64 0] := by rw [hx12]; exact (Bl.new (by simp))
              have fq : Fz x12 (x11.heap.size) := by rw [hx12]; exact (Fz.new (by simp))
              replace hown := own_ext hown hx
              replace hlo := Nat.le_trans hlo hx.size
              replace bp := Bl.ext hx bp (Nat.succ_pos _)
              replace h1 := hx.cell' h1
              replace h2 := hx.cell' h2
              replace h3 := hx.cell' h3
              replace h4 := hx.cell' h4
              replace HE := HE.trans hx
              clear hx
              clear hx12
              refine wpE_l rfl rfl (fun K hK => ?_)
              go_simp
              refine hK.out _ _ ((Below.refl _ _).alloc hlo _) ?_
              clear hK K
              try simp only [Act.put, List.setIfInBounds_toArray, List.set_cons_zero, List.set_cons_succ]
              have ger := hlo
              have lpr := bp.lt (Nat.succ_pos _)
              have lqr := bq.lt (Nat.succ_pos _)
              have lh1r := cell_lt h1
              have lh2r := cell_lt h2
              have lh3r := cell_lt h3
              have lh4r := cell_lt h4
              have l0r := HE.size
              refine absE (fun x13 hx13 => ?_)
              have hx : Ext x12 x13 := by rw [hx13]; exact ((Ext.refl _).alloc _)
              have br : Bl x13 (x12.heap.size) #[.int .i64 0, .int .i64 0] := by rw [hx13]; exact (Bl.new (by simp))
              have fr : Fz x13 (x12.heap.size) := by rw [hx13]; exact (Fz.new (by simp))
              replace hown := own_ext hown hx
              replace hlo := Nat.le_trans hlo hx.size
              replace bp := Bl.ext hx bp (Nat.succ_pos _)
              replace fq := Fz.ext hx fq bq (Nat.succ_pos _)
              replace bq := Bl.ext hx bq (Nat.succ_pos _)
              replace h1 := hx.cell' h1
              replace h2 := hx.cell' h2
              replace h3 := hx.cell' h3
              replace h4 := hx.cell' h4
              replace HE := HE.trans hx
              clear hx
              clear hx13
              refine wpE_l rfl rfl (fun K hK => ?_)
              go_simp
              refine hK.out _ _ (((Below.refl _ _).setCell (by show wr.heap.size ≤ x11.heap.size; omega) _).setCell (by show wr.heap.size ≤ x11.heap.size; omega) _) ?_
              clear hK K
              try simp only [Act.put, List.setIfInBounds_toArray, List.set_cons_zero, List.set_cons_succ]
              refine absE (fun x14 hx14 => ?_)
              have hbut : But x13 x14 (x11.heap.size) := by rw [hx14]; exact (But.refl _ _).store.store
              have hbn : Bl x14 (x11.heap.size) #[.int .i64 px, .int .i64 py] := by rw [hx14]; exact (Bl.set (Bl.set bq (by simp)) (by simp))
              replace hown := own_but hown hbut (fun r e => by have := HLT.out r e; omega)
              replace h1 := But.cell hbut h1 (by show g ≠ _; omega)
              replace h2 := But.cell hbut h2 (by show g ≠ _; omega)
              replace h3 := But.cell hbut h3 (by show g ≠ _; omega)
              replace h4 := But.cell hbut h4 (by show g ≠ _; omega)
              replace bp := But.bl hbut bp (Nat.succ_pos _) (by omega)
              replace fr := But.fz hbut fr br (Nat.succ_pos _) (by omega)
              replace br := But.bl hbut br (Nat.succ_pos _) (by omega)
              replace fq : Fz x14 (x11.heap.size) := by rw [hx14]; exact (Fz.set (Fz.set fq))
              replace HE : Ext w x14 := by rw [hx14]; exact ((HE.store (by show w.heap.size ≤ x11.heap.size; omega) _).store (by show w.heap.size ≤ x11.heap.size; omega) _)
              replace hlo : wr.heap.size ≤ x14.heap.size := Nat.le_trans hlo hbut.1
              clear bq hbut hx14
              have bq := hbn
              clear hbn
              refine wpE_b rfl rfl (fun K hK => ?_)
              go_simp
              refine hK.out _ _ ?_
              clear hK K
              try simp only [Act.put, List.setIfInBounds_toArray, List.set_cons_zero, List.set_cons_succ]
              refine absE (fun x15 hx15 => ?_)
              have hbut : But x14 x15 (x12.heap.size) := by rw [hx15]; exact (But.refl _ _).store.store
              have hbn : Bl x15 (x12.heap.size) #[.int .i64 qx, .int .i64 qy] := by rw [hx15]; exact (Bl.set (Bl.set br (by simp)) (by simp))
              replace hown := own_but hown hbut (fun r e => by have := HLT.out r e; omega)
              replace h1 := But.cell hbut h1 (by show g ≠ _; omega)
              replace h2 := But.cell hbut h2 (by show g ≠ _; omega)
              replace h3 := But.cell hbut h3 (by show g ≠ _; omega)
              replace h4 := But.cell hbut h4 (by show g ≠ _; omega)
              replace bp := But.bl hbut bp (Nat.succ_pos _) (by omega)
              replace fq := But.fz hbut fq bq (Nat.succ_pos _) (by omega)
              replace bq := But.bl hbut bq (Nat.succ_pos _) (by omega)
              replace fr : Fz x15 (x12.heap.size) := by rw [hx15]; exact (Fz.set (Fz.set fr))
              replace HE : Ext w x15 := by rw [hx15]; exact ((HE.store (by show w.heap.size ≤ x12.heap.size; omega) _).store (by show w.heap.size ≤ x12.heap.size; omega) _)
              replace hlo : wr.heap.size ≤ x15.heap.size := Nat.le_trans hlo hbut.1
              clear br hbut hx15
              have br := hbn
              clear hbn
              refine wpE_done ?_
              clear hlo
              clear h1 h2 h3 h4
              have hBz := hB
              replace hB : w.heap.size + 1 ≤ x15.heap.size := Nat.lt_of_lt_of_le (bp.lt (Nat.succ_pos _)) (Nat.le_refl _)
              go_wp2_with fail
              refine (HLEN.out _).mono ?_
              rintro e u8 ⟨rfl, hx⟩
              replace hown := own_ext hown hx
              replace bp := Bl.ext hx bp (Nat.succ_pos _)
              replace fq := Fz.ext hx fq bq (Nat.succ_pos _)
              replace bq := Bl.ext hx bq (Nat.succ_pos _)
              replace fr := Fz.ext hx fr br (Nat.succ_pos _)
              replace br := Bl.ext hx br (Nat.succ_pos _)
              replace HE := HE.trans hx
              clear hx
              replace hB : w.heap.size + 1 ≤ u8.heap.size := bp.lt (Nat.succ_pos _)
              rcases Nat.eq_zero_or_pos ln with hz | hz
              · subst hz
                have HW3 : Hid (waysF (R.take (j + 1 + 1)) 0 = ws) := hidP (by rw [HWS.out, if_neg (by omega), List.append_nil])
                have HP3 : Hid (path lenP (R.take (j + 1 + 1)) = s) := hidP (by rw [HPS.out]; omega)
                clear HWS HPS bq fq br fr
                go_wp2_with fail
                go_roundw
                case rel => exact ⟨j + 1, s, ws, by omega, by go_num, rfl, hown, by omega, HW3, HP3, bp, hB, HE⟩
                case measure => simp only [intOf]; omega
              · have HW3 : Hid (waysF (R.take (j + 1 + 1)) 0 = ws ++ [(((px, py), (qx, qy)), s, (ln : Int))]) := hidP (by rw [HWS.out, if_pos (by omega)])
                have hzi : (0 : Int) < (ln : Int) := by omega
                clear HWS
                go_wp2_with (at_builtin; refine wpList_appB T_way rfl _ _ rfl hown hB #[.int .i64 px, .int .i64 py, .int .i64 qx, .int .i64 qy, .int .i64 s, .int .i64 (ln : Int)] rfl (ends_way _ _ _ _ _ _) rfl rfl (by omega) (by omega) ?_; intro v2 w2 hown2 hlow; replace bp := Bl.lowB hlow bp (Nat.lt_succ_self _); replace HE := Below.trans HE (Below.mono hlow (Nat.le_succ _)))
                go_roundw
                case rel => exact ⟨j + 1, s + ln, _, by omega, by go_num, rfl, by rw [wys_append, List.length_append]; exact hown2, by rw [List.length_append]; simp; omega, HW3, HPS, bp, bp.lt (Nat.succ_pos _), HE⟩
                case measure => simp only [intOf]; omega
            · refine wpE_l rfl rfl (fun K hK => ?_)
              go_simp
              refine hK.out _ _ ((Below.refl _ _).alloc hlo _) ?_
              clear hK K
              try simp only [Act.put, List.setIfInBounds_toArray, List.set_cons_zero, List.set_cons_succ]
              have ger := hlo
              have lpr := bp.lt (Nat.succ_pos _)
              have lh1r := cell_lt h1
              have lh2r := cell_lt h2
              have lh3r := cell_lt h3
              have lh4r := cell_lt h4
              have l0r := HE.size
              refine absE (fun x12 hx12 => ?_)
              have hx : Ext x11 x12 := by rw [hx12]; exact ((Ext.refl _).alloc _)
              have br : Bl x12 (x11.heap.size) #[.int .i64 0, .int .i64 0] := by rw [hx12]; exact (Bl.new (by simp))
              have fr : Fz x12 (x11.heap.size) := by rw [hx12]; exact (Fz.new (by simp))
              replace hown := own_ext hown hx
              replace hlo := Nat.le_trans hlo hx.size
              replace bp := Bl.ext hx bp (Nat.succ_pos _)
              replace h1 := hx.cell' h1
              replace h2 := hx.cell' h2
              replace h3 := hx.cell' h3
              replace h4 := hx.cell' h4
              replace HE := HE.trans hx
              clear hx
              clear hx12
              refine wpE_l rfl rfl (fun K hK => ?_)
              go_simp
              refine hK.out _ _ ((Below.refl _ _).alloc hlo _) ?_
              clear hK K
              try simp only [Act.put, List.setIfInBounds_toArray, List.set_cons_zero, List.set_cons_succ]
              have geq := hlo
              have lpq := bp.lt (Nat.succ_pos _)
              have lrq := br.lt (Nat.succ_pos _)
              have lh1q := cell_lt h1
              have lh2q := cell_lt h2
              have lh3q := cell_lt h3
              have lh4q := cell_lt h4
              have l0q := HE.size
              refine absE (fun x13 hx13 => ?_)
              have hx : Ext x12 x13 := by rw [hx13]; exact ((Ext.refl _).alloc _)
              have bq : Bl x13 (x12.heap.size) #[.int .i64 0, .int .i64 0] := by rw [hx13]; exact (Bl.new (by simp))
              have fq : Fz x13 (x12.heap.size) := by rw [hx13]; exact (Fz.new (by simp))
              replace hown := own_ext hown hx
              replace hlo := Nat.le_trans hlo hx.size
              replace bp := Bl.ext hx bp (Nat.succ_pos _)
              replace fr := Fz.ext hx fr br (Nat.succ_pos _)
              replace br := Bl.ext hx br (Nat.succ_pos _)
              replace h1 := hx.cell' h1
              replace h2 := hx.cell' h2
              replace h3 := hx.cell' h3
              replace h4 := hx.cell' h4
              replace HE := HE.trans hx
              clear hx
              clear hx13
              refine wpE_l rfl rfl (fun K hK => ?_)
              go_simp
              refine hK.out _ _ (((Below.refl _ _).setCell (by show wr.heap.size ≤ x12.heap.size; omega) _).setCell (by show wr.heap.size ≤ x12.heap.size; omega) _) ?_
              clear hK K
              try simp only [Act.put, List.setIfInBounds_toArray, List.set_cons_zero, List.set_cons_succ]
              refine absE (fun x14 hx14 => ?_)
              have hbut : But x13 x14 (x12.heap.size) := by rw [hx14]; exact (But.refl _ _).store.store
              have hbn : Bl x14 (x12.heap.size) #[.int .i64 px, .int .i64 py] := by rw [hx14]; exact (Bl.set (Bl.set bq (by simp)) (by simp))
              replace hown := own_but hown hbut (fun r e => by have := HLT.out r e; omega)
              replace h1 := But.cell hbut h1 (by show g ≠ _; omega)
              replace h2 := But.cell hbut h2 (by show g ≠ _; omega)
              replace h3 := But.cell hbut h3 (by show g ≠ _; omega)
              replace h4 := But.cell hbut h4 (by show g ≠ _; omega)
              replace bp := But.bl hbut bp (Nat.succ_pos _) (by omega)
              replace fr := But.fz hbut fr br (Nat.succ_pos _) (by omega)
              replace br := But.bl hbut br (Nat.succ_pos _) (by omega)
              replace fq : Fz x14 (x12.heap.size) := by rw [hx14]; exact (Fz.set (Fz.set fq))
              replace HE : Ext w x14 := by rw [hx14]; exact ((HE.store (by show w.heap.size ≤ x12.heap.size; omega) _).store (by show w.heap.size ≤ x12.heap.size; omega) _)
              replace hlo : wr.heap.size ≤ x14.heap.size := Nat.le_trans hlo hbut.1
              clear bq hbut hx14
              have bq := hbn
              clear hbn
              refine wpE_b rfl rfl (fun K hK => ?_)
              go_simp
              refine hK.out _ _ ?_
              clear hK K
              try simp only [Act.put, List.setIfInBounds_toArray, List.set_cons_zero, List.set_cons_succ]
              refine absE (fun x15 hx15 => ?_)
              have hbut : But x14 x15 (x11.heap.size) := by rw [hx15]; exact (But.refl _ _).store.store
              have hbn : Bl x15 (x11.heap.size) #[.int .i64 qx, .int .i64 qy] := by rw [hx15]; exact (Bl.set (Bl.set br (by simp)) (by simp))
              replace hown := own_but hown hbut (fun r e => by have := HLT.out r e; omega)
              replace h1 := But.cell hbut h1 (by show g ≠ _; omega)
              replace h2 := But.cell hbut h2 (by show g ≠ _; omega)
              replace h3 := But.cell hbut h3 (by show g ≠ _; omega)
              replace h4 := But.cell hbut h4 (by show g ≠ _; omega)
              replace bp := But.bl hbut bp (Nat.succ_pos _) (by omega)
              replace fq := But.fz hbut fq bq (Nat.succ_pos _) (by omega)
              replace bq := But.bl hbut bq (Nat.succ_pos _) (by omega)
              replace fr : Fz x15 (x11.heap.size) := by rw [hx15]; exact (Fz.set (Fz.set fr))
              replace HE : Ext w x15 := by rw [hx15]; exact ((HE.store (by show w.heap.size ≤ x11.heap.size; omega) _).store (by show w.heap.size ≤ x11.heap.size; omega) _)
              replace hlo : wr.heap.size ≤ x15.heap.size := Nat.le_trans hlo hbut.1
              clear br hbut hx15
              have br := hbn
              clear hbn
              refine wpE_done ?_
              clear hlo
              clear h1 h2 h3 h4
              have hBz := hB
              replace hB : w.heap.size + 1 ≤ x15.heap.size := Nat.lt_of_lt_of_le (bp.lt (Nat.succ_pos _)) (Nat.le_refl _)
              go_wp2_with fail
              refine (HLEN.out _).mono ?_
              rintro e u8 ⟨rfl, hx⟩
              replace hown := own_ext hown hx
              replace bp := Bl.ext hx bp (Nat.succ_pos _)
              replace fr := Fz.ext hx fr br (Nat.succ_pos _)
              replace br := Bl.ext hx br (Nat.succ_pos _)
              replace fq := Fz.ext hx fq bq (Nat.succ_pos _)
              replace bq := Bl.ext hx bq (Nat.succ_pos _)
              replace HE := HE.trans hx
              clear hx
              replace hB : w.heap.size + 1 ≤ u8.heap.size := bp.lt (Nat.succ_pos _)
              rcases Nat.eq_zero_or_pos ln with hz | hz
              · subst hz
                have HW3 : Hid (waysF (R.take (j + 1 + 1)) 0 = ws) := hidP (by rw [HWS.out, if_neg (by omega), List.append_nil])
                have HP3 : Hid (path lenP (R.take (j + 1 + 1)) = s) := hidP (by rw [HPS.out]; omega)
                clear HWS HPS bq fq br fr
                go_wp2_with fail
                go_roundw
                case rel => exact ⟨j + 1, s, ws, by omega, by go_num, rfl, hown, by omega, HW3, HP3, bp, hB, HE⟩
                case measure => simp only [intOf]; omega
              · have HW3 : Hid (waysF (R.take (j + 1 + 1)) 0 = ws ++ [(((px, py), (qx, qy)), s, (ln : Int))]) := hidP (by rw [HWS.out, if_pos (by omega)])
                have hzi : (0 : Int) < (ln : Int) := by omega
                clear HWS
                go_wp2_with (at_builtin; refine wpList_appB T_way rfl _ _ rfl hown hB #[.int .i64 px, .int .i64 py, .int .i64 qx, .int .i64 qy, .int .i64 s, .int .i64 (ln : Int)] rfl (ends_way _ _ _ _ _ _) rfl rfl (by omega) (by omega) ?_; intro v2 w2 hown2 hlow; replace bp := Bl.lowB hlow bp (Nat.lt_succ_self _); replace HE := Below.trans HE (Below.mono hlow (Nat.le_succ _)))
                go_roundw
                case rel => exact ⟨j + 1, s + ln, _, by omega, by go_num, rfl, by rw [wys_append, List.length_append]; exact hown2, by rw [List.length_append]; simp; omega, HW3, HPS, bp, bp.lt (Nat.succ_pos _), HE⟩
                case measure => simp only [intOf]; omega)
    · obtain rfl : j = n := by omega
      have HR : Hid (waysF R 0 = ws) := hidP (by have := HJ.out; rwa [List.take_of_length_le (by rw [HRL.out]; split <;> omega)] at this)
      obtain ⟨a2, c2, rfl, hs2⟩ := SlK.of_owns hown
      clear HJ HS
      have HOWN := hidP hs2
      have HOW2 := hidP hown
      clear hown hs2
      go_wp2_with fail
      go_ret
      exact ⟨a2, _, c2, rfl, by rw [HR.out]; exact HOWN.out, by rw [HR.out]; exact HOW2.out, HE⟩

end Go.Proofs.Ytlhaepcnhkaclaa
