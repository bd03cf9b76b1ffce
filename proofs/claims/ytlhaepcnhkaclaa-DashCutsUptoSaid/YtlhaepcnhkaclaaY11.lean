/- Dashes, in the document: round, and the point at a distance. -/
import Derived.Test.YtlhaepcnhkaclaaY10
namespace Go.Proofs.Ytlhaepcnhkaclaa
set_option linter.unusedVariables false
set_option linter.unusedSimpArgs false
open Go Go.RowKit


set_option maxRecDepth 100000 in
set_option maxHeartbeats 4000000 in
theorem dr_round (a : Option Addr) (n cap : Nat) (l : List Pt) (c : Bool) (w : World) (h : SlP w a n cap l) (hn : n ≤ 4194303) :
    Calls Try.prog 36 #[.agg #[.slice a n cap, .bool c]] w (RetP w (rndL l c)) := by
  have H := hidP h
  have HLN := hidP h.len
  clear h
  by_cases hok : c = true ∧ 0 < n
  · obtain ⟨rfl, h0⟩ := hok
    obtain ⟨g, off, rfl, hc⟩ := H.out.at h0
    have hz : 0 < l.length := by rw [HLN.out]; exact h0
    obtain ⟨q1, q2⟩ := hc 0 hz
    have HR : Hid (rndL l true = l ++ [l[0]]) := hidP (by
      unfold rndL
      rw [if_pos ⟨rfl, List.length_pos_iff.1 hz⟩]
      congr 1
      cases l with
      | nil => simp at hz
      | cons x r => rfl)
    rw [Nat.zero_mul, Nat.add_zero] at q1 q2
    generalize rndL l true = R at *
    generalize l[0] = p0 at *
    obtain ⟨px, py⟩ := p0
    simp only [] at q1 q2
    clear hc
    go_enter Try.func36, Try.ntmps36
    go_upto_region 2 with fail
    refine absW (fun x1 hx1 => ?_)
    have hx : Ext w x1 := by rw [hx1]; exact (Ext.refl _).alloc _
    have bp : Bl x1 w.heap.size #[.slice (some ⟨g, off, none⟩) n cap, .bool true] := by rw [hx1]; exact Bl.new (by simp)
    have HE := hx
    have hB0 : w.heap.size + 1 ≤ x1.heap.size := bp.lt (Nat.succ_pos _)
    clear hx hx1
    go_upto_region 3 with (at_builtin; refine wpList_appAll (B := w.heap.size + 1) T_pt rfl _ _ rfl hB0 rfl rfl (H.out.ext HE) (pts_one1 l) (by omega) (by omega) ?_; intro v2 w2 hown2 hlow2; obtain ⟨a2, c2, rfl, hs2⟩ := SlK.of_owns hown2)
    have HX : Ext w w2 := Below.trans HE (Below.mono hlow2 (Nat.le_succ _))
    replace bp := Bl.lowB hlow2 bp (Nat.lt_succ_self _)
    replace q1 := HX.cell' q1
    replace q2 := HX.cell' q2
    have hB2 : w.heap.size + 1 ≤ w2.heap.size := bp.lt (Nat.succ_pos _)
    have hnn : (0 : Int) < (n : Int) := by omega
    clear hs2 HE
    go_wp2_with (at_builtin; refine wpList_appB T_pt rfl _ _ rfl hown2 hB2 #[.int .i64 px, .int .i64 py] rfl (ends_pt _ _) rfl rfl (by omega) (by omega) ?_; intro v3 w3 hown3 hlow3; obtain ⟨a3, c3, rfl, hs3⟩ := SlK.of_owns hown3)
    go_ret
    exact ⟨_, _, _, rfl, by rw [HR.out, SlP, pts_append, pts_one]; exact hs3, Below.trans HX (Below.mono hlow3 (Nat.le_succ _))⟩
  · have HR : Hid (rndL l c = l) := hidP (by
      unfold rndL
      rw [if_neg (fun h => hok ⟨h.1, by rw [← HLN.out]; exact List.length_pos_iff.2 h.2⟩)])
    generalize rndL l c = R at *
    go_enter Try.func36, Try.ntmps36
    go_upto_region 2 with fail
    refine absW (fun x1 hx1 => ?_)
    have hx : Ext w x1 := by rw [hx1]; exact (Ext.refl _).alloc _
    have bp : Bl x1 w.heap.size #[.slice a n cap, .bool c] := by rw [hx1]; exact Bl.new (by simp)
    have HE := hx
    have hB0 : w.heap.size + 1 ≤ x1.heap.size := bp.lt (Nat.succ_pos _)
    clear hx hx1
    go_upto_region 3 with (at_builtin; refine wpList_appAll (B := w.heap.size + 1) T_pt rfl _ _ rfl hB0 rfl rfl (H.out.ext HE) (pts_one1 l) (by omega) (by omega) ?_; intro v2 w2 hown2 hlow2; obtain ⟨a2, c2, rfl, hs2⟩ := SlK.of_owns hown2)
    have HX : Ext w w2 := Below.trans HE (Below.mono hlow2 (Nat.le_succ _))
    replace bp := Bl.lowB hlow2 bp (Nat.lt_succ_self _)
    have HS2 := hidP hs2
    clear hs2 HE hown2
    cases c
    · go_wp2_with fail
      go_ret
      exact ⟨_, _, _, rfl, by rw [HR.out]; exact HS2.out, HX⟩
    · have hn0 : n = 0 := by
        rcases Nat.eq_zero_or_pos n with h | h
        · exact h
        · exact absurd ⟨rfl, h⟩ hok
      subst hn0
      clear hok
      go_wp2_with fail
      go_ret
      exact ⟨_, _, _, rfl, by rw [HR.out]; exact HS2.out, HX⟩
theorem fit_rnd2 (l : List Pt) (c : Bool) : fitL (rndL l c) = fitL l := by
  cases hf : fitL l
  · unfold rndL
    split
    · unfold fitL at *
      rw [List.all_append, hf, Bool.false_and]
    · exact hf
  · exact fit_rnd hf
theorem headD_at : ∀ {l : List Pt} (h : 0 < l.length), l.headD (0, 0) = l[0]
  | [], h => absurd h (by simp)
  | _ :: _, _ => rfl
theorem atR_drop {R : List Pt} {z : Pt} {j : Nat} {m : Int} (h : j + 1 < R.length) : atR z (R.drop j) m = if 0 < lenP R[j] R[j + 1] ∧ m ≤ lenP R[j] R[j + 1] then ahP R[j] R[j + 1] m else atR z (R.drop (j + 1)) (m - lenP R[j] R[j + 1]) := by
  rw [List.drop_eq_getElem_cons (by omega : j < R.length), List.drop_eq_getElem_cons h]
  rfl
theorem atR_end {R : List Pt} {z : Pt} {j : Nat} {m : Int} (h : R.length ≤ j + 1) : atR z (R.drop j) m = z := by
  have : (R.drop j).length ≤ 1 := by rw [List.length_drop]; omega
  match hd : R.drop j with
  | [] => rfl
  | [x] => rfl
  | x :: y :: r => rw [hd] at this; simp at this

set_option maxRecDepth 100000 in
set_option maxHeartbeats 4000000 in
theorem dr_At (a : Option Addr) (n cap : Nat) (l : List Pt) (c : Bool) (m : Int) (w : World) (h : SlP w a n cap l) (hn : n ≤ 4194303) (m1 : -9223372036854775808 ≤ m) (m2 : m ≤ 9223372036854775807) :
    Calls Try.prog 15 #[.agg #[.slice a n cap, .bool c], .int .i64 m] w fun e w' => e = .returned (.tuple #[.agg #[.int .i64 (atF l c m).1.1, .int .i64 (atF l c m).1.2], .bool (atF l c m).2]) ∧ Ext w w' := by
  have H := hidP h
  have HLN := hidP h.len
  have HRD := hidP (fun u (t : SlP u a n cap l) => dr_round a n cap l c u t hn)
  have HL := hidP (fun u (t : SlP u a n cap l) => d_Long a n cap l c u t (by omega))
  have HF := hidP (fun u a1 n1 c1 (t : SlP u a1 n1 c1 (rndL l c)) => d_fits a1 n1 c1 (rndL l c) u t)
  rw [fit_rnd2] at HF
  have hlb := long_bd (l := l) (c := c) (by rw [h.len]; exact hn)
  have hl0 := long_nn l c
  have hrl := rnd_len l c
  clear h
  by_cases h0 : n = 0
  · have hl : l = [] := List.length_eq_zero_iff.1 (by rw [HLN.out]; exact h0)
    have HR := hidP (at_no (c := c) (m := m) (.inl hl : l = [] ∨ _))
    have HRE : Hid ((rndL l c).length = 0) := hidP (by rw [hl, rndL_nil]; rfl)
    generalize rndL l c = R at *
    clear hl hrl
    subst h0
    go_enter Try.func15, Try.ntmps15
    go_wp2_with fail
    refine absC (fun x1 hx1 => ?_)
    have hx : Ext w x1 := by rw [hx1]; exact (((Ext.refl _).alloc _).alloc _)
    have bp : Bl x1 (w.heap.size) #[.slice a 0 cap, .bool c] := by rw [hx1]; exact ((Bl.new (by simp)).alloc (by simp))
    have bs : Bl x1 (w.heap.size + 1) #[.int .i64 0, .int .i64 0] := by rw [hx1]; exact (Bl.new (by simp))
    have fs : Fz x1 (w.heap.size + 1) := by rw [hx1]; exact (Fz.new (by simp))
    have HE := hx
    clear hx
    clear hx1
    refine (HRD.out _ (H.out.ext HE)).mono ?_
    rintro e u1 ⟨ar, nr, cr, rfl, hsr, hx⟩
    replace bp := Bl.ext hx bp (Nat.succ_pos _)
    replace fs := Fz.ext hx fs bs (Nat.succ_pos _)
    replace bs := Bl.ext hx bs (Nat.succ_pos _)
    replace HE := HE.trans hx
    clear hx
    obtain rfl : nr = 0 := by rw [← hsr.len]; exact HRE.out
    go_wp2_with fail
    refine absB (fun ue hue => ?_)
    have hbs : Bl ue (w.heap.size + 1) #[.int .i64 0, .int .i64 0] := by rw [hue]; exact (bs.set (by simp)).set (by simp)
    have heu : Ext w ue := by rw [hue]; exact (HE.store (by show w.heap.size ≤ w.heap.size + 1; omega) _).store (by show w.heap.size ≤ w.heap.size + 1; omega) _
    clear hue
    refine bodyPost_cells_tmp2 rfl rfl Try.underlying36 rfl (by kernel_rfl) (bl_two hbs) rfl rfl ?_
    rw [HR.out]
    exact ⟨rfl, heu⟩
  · have hne : l ≠ [] := List.length_pos_iff.1 (by rw [HLN.out]; omega)
    have hrn : 0 < (rndL l c).length := by rw [hrl, HLN.out]; split <;> omega
    have hrm : (rndL l c).length ≤ 4194304 := by rw [hrl, HLN.out]; split <;> omega
    cases hfl : fitL l
    · have HR := hidP (at_no (c := c) (m := m) (.inr (.inl hfl)))
      rw [hfl] at HF
      generalize rndL l c = R at *
      clear HL hlb hl0 hrl
      go_enter Try.func15, Try.ntmps15
      go_wp2_with fail
      refine absC (fun x1 hx1 => ?_)
      have hx : Ext w x1 := by rw [hx1]; exact (((Ext.refl _).alloc _).alloc _)
      have bp : Bl x1 (w.heap.size) #[.slice a n cap, .bool c] := by rw [hx1]; exact ((Bl.new (by simp)).alloc (by simp))
      have bs : Bl x1 (w.heap.size + 1) #[.int .i64 0, .int .i64 0] := by rw [hx1]; exact (Bl.new (by simp))
      have fs : Fz x1 (w.heap.size + 1) := by rw [hx1]; exact (Fz.new (by simp))
      have HE := hx
      clear hx
      clear hx1
      refine (HRD.out _ (H.out.ext HE)).mono ?_
      rintro e u1 ⟨ar, nr, cr, rfl, hsr, hx⟩
      replace bp := Bl.ext hx bp (Nat.succ_pos _)
      replace fs := Fz.ext hx fs bs (Nat.succ_pos _)
      replace bs := Bl.ext hx bs (Nat.succ_pos _)
      replace HE := HE.trans hx
      clear hx
      have HNR : Hid (nr = R.length) := hidP hsr.len.symm
      have hnr0 : 0 < nr := by have := HNR.out; omega
      have hnr4 : nr ≤ 4194304 := by have := HNR.out; omega
      have hnrb : ((nr : Int) == 0) = false := by simp; omega
      go_wp2_with fail
      refine (HF.out _ _ _ _ hsr).mono ?_
      rintro e u2 ⟨rfl, hx⟩
      replace bp := Bl.ext hx bp (Nat.succ_pos _)
      replace fs := Fz.ext hx fs bs (Nat.succ_pos _)
      replace bs := Bl.ext hx bs (Nat.succ_pos _)
      replace hsr := hsr.ext hx
      replace HE := HE.trans hx
      clear hx
      go_wp2_with fail
      refine absB (fun ue hue => ?_)
      have hbs : Bl ue (w.heap.size + 1) #[.int .i64 0, .int .i64 0] := by rw [hue]; exact (bs.set (by simp)).set (by simp)
      have heu : Ext w ue := by rw [hue]; exact (HE.store (by show w.heap.size ≤ w.heap.size + 1; omega) _).store (by show w.heap.size ≤ w.heap.size + 1; omega) _
      clear hue
      refine bodyPost_cells_tmp2 rfl rfl Try.underlying36 rfl (by kernel_rfl) (bl_two hbs) rfl rfl ?_
      rw [HR.out]
      exact ⟨rfl, heu⟩
    · rw [hfl] at HF
      by_cases hm0 : m < 0
      · have HR := hidP (at_no (l := l) (c := c) (.inr (.inr (.inl hm0))))
        generalize rndL l c = R at *
        clear HL hlb hl0 hrl
        go_enter Try.func15, Try.ntmps15
        go_wp2_with fail
        refine absC (fun x1 hx1 => ?_)
        have hx : Ext w x1 := by rw [hx1]; exact (((Ext.refl _).alloc _).alloc _)
        have bp : Bl x1 (w.heap.size) #[.slice a n cap, .bool c] := by rw [hx1]; exact ((Bl.new (by simp)).alloc (by simp))
        have bs : Bl x1 (w.heap.size + 1) #[.int .i64 0, .int .i64 0] := by rw [hx1]; exact (Bl.new (by simp))
        have fs : Fz x1 (w.heap.size + 1) := by rw [hx1]; exact (Fz.new (by simp))
        have HE := hx
        clear hx
        clear hx1
        refine (HRD.out _ (H.out.ext HE)).mono ?_
        rintro e u1 ⟨ar, nr, cr, rfl, hsr, hx⟩
        replace bp := Bl.ext hx bp (Nat.succ_pos _)
        replace fs := Fz.ext hx fs bs (Nat.succ_pos _)
        replace bs := Bl.ext hx bs (Nat.succ_pos _)
        replace HE := HE.trans hx
        clear hx
        have HNR : Hid (nr = R.length) := hidP hsr.len.symm
        have hnr0 : 0 < nr := by have := HNR.out; omega
        have hnr4 : nr ≤ 4194304 := by have := HNR.out; omega
        have hnrb : ((nr : Int) == 0) = false := by simp; omega
        go_wp2_with fail
        refine (HF.out _ _ _ _ hsr).mono ?_
        rintro e u2 ⟨rfl, hx⟩
        replace bp := Bl.ext hx bp (Nat.succ_pos _)
        replace fs := Fz.ext hx fs bs (Nat.succ_pos _)
        replace bs := Bl.ext hx bs (Nat.succ_pos _)
        replace hsr := hsr.ext hx
        replace HE := HE.trans hx
        clear hx
        go_wp2_with fail
        refine absB (fun ue hue => ?_)
        have hbs : Bl ue (w.heap.size + 1) #[.int .i64 0, .int .i64 0] := by rw [hue]; exact (bs.set (by simp)).set (by simp)
        have heu : Ext w ue := by rw [hue]; exact (HE.store (by show w.heap.size ≤ w.heap.size + 1; omega) _).store (by show w.heap.size ≤ w.heap.size + 1; omega) _
        clear hue
        refine bodyPost_cells_tmp2 rfl rfl Try.underlying36 rfl (by kernel_rfl) (bl_two hbs) rfl rfl ?_
        rw [HR.out]
        exact ⟨rfl, heu⟩
      · have hm1 : 0 ≤ m := by omega
        by_cases hm2 : longL l c < m
        · have HR := hidP (at_no (l := l) (c := c) (.inr (.inr (.inr hm2))))
          generalize rndL l c = R at *
          generalize longL l c = L at *
          clear hrl
          go_enter Try.func15, Try.ntmps15
          go_wp2_with fail
          refine absC (fun x1 hx1 => ?_)
          have hx : Ext w x1 := by rw [hx1]; exact (((Ext.refl _).alloc _).alloc _)
          have bp : Bl x1 (w.heap.size) #[.slice a n cap, .bool c] := by rw [hx1]; exact ((Bl.new (by simp)).alloc (by simp))
          have bs : Bl x1 (w.heap.size + 1) #[.int .i64 0, .int .i64 0] := by rw [hx1]; exact (Bl.new (by simp))
          have fs : Fz x1 (w.heap.size + 1) := by rw [hx1]; exact (Fz.new (by simp))
          have HE := hx
          clear hx
          clear hx1
          refine (HRD.out _ (H.out.ext HE)).mono ?_
          rintro e u1 ⟨ar, nr, cr, rfl, hsr, hx⟩
          replace bp := Bl.ext hx bp (Nat.succ_pos _)
          replace fs := Fz.ext hx fs bs (Nat.succ_pos _)
          replace bs := Bl.ext hx bs (Nat.succ_pos _)
          replace HE := HE.trans hx
          clear hx
          have HNR : Hid (nr = R.length) := hidP hsr.len.symm
          have hnr0 : 0 < nr := by have := HNR.out; omega
          have hnr4 : nr ≤ 4194304 := by have := HNR.out; omega
          have hnrb : ((nr : Int) == 0) = false := by simp; omega
          go_wp2_with fail
          refine (HF.out _ _ _ _ hsr).mono ?_
          rintro e u2 ⟨rfl, hx⟩
          replace bp := Bl.ext hx bp (Nat.succ_pos _)
          replace fs := Fz.ext hx fs bs (Nat.succ_pos _)
          replace bs := Bl.ext hx bs (Nat.succ_pos _)
          replace hsr := hsr.ext hx
          replace HE := HE.trans hx
          clear hx
          go_wp2_with fail
          refine (HL.out _ (H.out.ext HE)).mono ?_
          rintro e u3 ⟨rfl, hx⟩
          replace bp := Bl.ext hx bp (Nat.succ_pos _)
          replace fs := Fz.ext hx fs bs (Nat.succ_pos _)
          replace bs := Bl.ext hx bs (Nat.succ_pos _)
          replace hsr := hsr.ext hx
          replace HE := HE.trans hx
          clear hx
          go_wp2_with fail
          refine absB (fun ue hue => ?_)
          have hbs : Bl ue (w.heap.size + 1) #[.int .i64 0, .int .i64 0] := by rw [hue]; exact (bs.set (by simp)).set (by simp)
          have heu : Ext w ue := by rw [hue]; exact (HE.store (by show w.heap.size ≤ w.heap.size + 1; omega) _).store (by show w.heap.size ≤ w.heap.size + 1; omega) _
          clear hue
          refine bodyPost_cells_tmp2 rfl rfl Try.underlying36 rfl (by kernel_rfl) (bl_two hbs) rfl rfl ?_
          rw [HR.out]
          exact ⟨rfl, heu⟩
        · have hm3 : m ≤ longL l c := by omega
          have hR := at_yes hne hfl hm1 hm3
          have hz0 : l.headD (0, 0) = (rndL l c).headD (0, 0) := by
            cases l with
            | nil => exact absurd rfl hne
            | cons x r => unfold rndL; split <;> rfl
          rw [hz0] at hR
          generalize hrr : atF l c m = rr at *
          subst hR
          have HST := hidP (fun (j : Nat) (k : Int) (hj : j + 1 < (rndL l c).length) => atR_drop (z := (rndL l c).headD (0, 0)) (m := k) hj)
          have HEN := hidP (fun (j : Nat) (k : Int) (hj : (rndL l c).length ≤ j + 1) => atR_end (z := (rndL l c).headD (0, 0)) (m := k) hj)
          have HJ0 : Hid (atR ((rndL l c).headD (0, 0)) ((rndL l c).drop 0) m = atR ((rndL l c).headD (0, 0)) (rndL l c) m) := hidP rfl
          have HHD := hidP (headD_at hrn)
          clear hrl hrr hz0 HLN
          generalize rndL l c = R at *
          generalize hz : R.headD (0, 0) = z at *
          generalize hrs : atR z R m = rs at *
          obtain ⟨rx, ry⟩ := rs
          generalize longL l c = L at *
          clear hz hrs
          go_enter Try.func15, Try.ntmps15
          go_wp2_with fail
          refine absC (fun x1 hx1 => ?_)
          have hx : Ext w x1 := by rw [hx1]; exact (((Ext.refl _).alloc _).alloc _)
          have bp : Bl x1 (w.heap.size) #[.slice a n cap, .bool c] := by rw [hx1]; exact ((Bl.new (by simp)).alloc (by simp))
          have bs : Bl x1 (w.heap.size + 1) #[.int .i64 0, .int .i64 0] := by rw [hx1]; exact (Bl.new (by simp))
          have fs : Fz x1 (w.heap.size + 1) := by rw [hx1]; exact (Fz.new (by simp))
          have HE := hx
          clear hx
          clear hx1
          refine (HRD.out _ (H.out.ext HE)).mono ?_
          rintro e u1 ⟨ar, nr, cr, rfl, hsr, hx⟩
          replace bp := Bl.ext hx bp (Nat.succ_pos _)
          replace fs := Fz.ext hx fs bs (Nat.succ_pos _)
          replace bs := Bl.ext hx bs (Nat.succ_pos _)
          replace HE := HE.trans hx
          clear hx
          have HNR : Hid (nr = R.length) := hidP hsr.len.symm
          have hnr0 : 0 < nr := by have := HNR.out; omega
          have hnr4 : nr ≤ 4194304 := by have := HNR.out; omega
          have hnrb : ((nr : Int) == 0) = false := by simp; omega
          go_wp2_with fail
          refine (HF.out _ _ _ _ hsr).mono ?_
          rintro e u2 ⟨rfl, hx⟩
          replace bp := Bl.ext hx bp (Nat.succ_pos _)
          replace fs := Fz.ext hx fs bs (Nat.succ_pos _)
          replace bs := Bl.ext hx bs (Nat.succ_pos _)
          replace hsr := hsr.ext hx
          replace HE := HE.trans hx
          clear hx
          go_wp2_with fail
          refine (HL.out _ (H.out.ext HE)).mono ?_
          rintro e u3 ⟨rfl, hx⟩
          replace bp := Bl.ext hx bp (Nat.succ_pos _)
          replace fs := Fz.ext hx fs bs (Nat.succ_pos _)
          replace bs := Bl.ext hx bs (Nat.succ_pos _)
          replace hsr := hsr.ext hx
          replace HE := HE.trans hx
          clear hx
          have HSR := hidP hsr
          clear hsr
          go_wp2_with fail
          go_loopw [1, 7] (fun mv iv wr => ∃ (j : Nat) (k : Int), j ≤ nr ∧ iv = .int .i64 (j : Int) ∧ mv = .int .i64 k ∧ k ≤ 140737484161024 ∧ -(33554431 * (j : Int)) ≤ k ∧ Hid (atR z (R.drop j) k = (rx, ry)) ∧ Bl wr (w.heap.size + 1) #[.int .i64 0, .int .i64 0] ∧ Fz wr (w.heap.size + 1) ∧ Ext u3 wr ∧ Ext w wr) (fun _ iv _ => nr - (intOf iv).toNat)
          case atStart => exact ⟨0, m, by omega, rfl, rfl, by omega, by omega, HJ0, bs, fs, Ext.refl _, HE⟩
          case round =>
            clear HE bp bs fs HJ0 hm1 hm2 hm3
            obtain ⟨j, k, hj, rfl, rfl, k1, k2, HJ, bs, fs, HE3, HE⟩ := hrel
            by_cases hlt : j + 1 < nr
            · obtain ⟨g, off, rfl, hc⟩ := (HSR.out.ext HE3).at (by omega)
              have hj1 : j < R.length := by have := HNR.out; omega
              have hj2 : j + 1 < R.length := by have := HNR.out; omega
              obtain ⟨h1, h2⟩ := hc j hj1
              obtain ⟨h3, h4⟩ := hc (j + 1) hj2
              have hst := HST.out j k hj2
              rw [HJ.out] at hst
              have hlb2 := lenP_bd R[j] R[j + 1]
              clear hc HJ
              generalize R[j] = pp at *
              generalize R[j + 1] = qq at *
              obtain ⟨px, py⟩ := pp
              obtain ⟨qx, qy⟩ := qq
              simp only [] at h1 h2 h3 h4
              have HLE := hidP (fun u => d_Len px py qx qy u)
              have hlp : lenP (px, py) (qx, qy) = (lenI px py qx qy : Nat) := rfl
              rw [hlp] at hst hlb2
              clear hlp
              generalize lenI px py qx qy = ln at *
              obtain ⟨j9, hj9⟩ : ∃ j9, j9 = j + 1 := ⟨_, rfl⟩
              rw [← hj9] at h3 h4 hst
              have hjn : j < nr := by omega
              have hj9n : j9 < nr := by omega
              have HW0 : Hid (IntKind.i64.wrap ((j : Int) + 1) = (j9 : Int)) := hidP (by rw [IntWalk.i64_in _ (by omega)]; omega)
              have HJ9 := hidP hj9
              clear hj9
              by_cases hmm : 0 < (ln : Int) ∧ k ≤ (ln : Int)
              · rw [if_pos hmm] at hst
                obtain ⟨hmm1, hmm2⟩ := hmm
                have hA := fun u => d_Ahead px py qx qy k u (by omega) (by omega)
                have e1 : ahX px py qx qy k = rx := congrArg Prod.fst hst.symm
                have e2 : ahY px py qx qy k = ry := congrArg Prod.snd hst.symm
                rw [e1, e2] at hA
                have HA := hidP hA
                clear hst hA e1 e2
                go_wp2_with fail
                refine wp_region_plan (R := Ext) (.q 0 (.q 1 (.q 2 (.q 3 (.q 4 (.q 5 (.q 6 (.q 7 (.q 8 (.l 9 (.q 10 .done))))))))))) (by kernel_rfl) (by kernel_rfl) (by kernel_rfl) (by kernel_rfl) Ext.refl (fun _ _ _ => Ext.trans) ?_
                refine absE (fun x21 hx21 => ?_)
                have hx : Ext wr x21 := by rw [hx21]; exact (Ext.refl _).drew
                replace fs := Fz.ext hx fs bs (Nat.succ_pos _)
                replace bs := Bl.ext hx bs (Nat.succ_pos _)
                replace h1 := hx.cell' h1
                replace h2 := hx.cell' h2
                replace h3 := hx.cell' h3
                replace h4 := hx.cell' h4
                replace HE := HE.trans hx
                clear hx
                clear hx21
                repeat (refine wpE_q (v := ?_) rfl rfl (fun u hu => ?_) ?_; rotate_left 1; (focus (have ks := Bl.ext hu bs (Nat.succ_pos _); have kh1 := hu.cell' h1; have kh2 := hu.cell' h2; have kh3 := hu.cell' h3; have kh4 := hu.cell' h4; have wq0 := HW0.out; go_simp; (try rfl))); simp only [Act.put, List.setIfInBounds_toArray, List.set_cons_zero, List.set_cons_succ])
                refine wpE_l rfl rfl (fun K hK => ?_)
                go_simp
                refine (HLE.out _).mono ?_
                rintro e u30 ⟨rfl, hx⟩
                refine hK.out _ _ hx ?_
                clear hK K
                try simp only [Act.put, List.setIfInBounds_toArray, List.set_cons_zero, List.set_cons_succ]
                replace fs := Fz.ext hx fs bs (Nat.succ_pos _)
                replace bs := Bl.ext hx bs (Nat.succ_pos _)
                replace h1 := hx.cell' h1
                replace h2 := hx.cell' h2
                replace h3 := hx.cell' h3
                replace h4 := hx.cell' h4
                replace HE := HE.trans hx
                clear hx
                repeat (refine wpE_q (v := ?_) rfl rfl (fun u hu => ?_) ?_; rotate_left 1; (focus (have ks := Bl.ext hu bs (Nat.succ_pos _); have kh1 := hu.cell' h1; have kh2 := hu.cell' h2; have kh3 := hu.cell' h3; have kh4 := hu.cell' h4; have wq0 := HW0.out; go_simp; (try rfl))); simp only [Act.put, List.setIfInBounds_toArray, List.set_cons_zero, List.set_cons_succ])
                refine wpE_done ?_
                clear HE3
                go_wp2_with fail
                refine wp_region_plan (R := Ext) (.q 0 (.q 1 (.q 2 (.q 3 (.q 4 (.q 5 (.q 6 (.q 7 (.q 8 (.q 9 (.l 10 (.b 11 (.q 12 .done))))))))))))) (by kernel_rfl) (by kernel_rfl) (by kernel_rfl) (by kernel_rfl) Ext.refl (fun _ _ _ => Ext.trans) ?_
                refine absE (fun x22 hx22 => ?_)
                have hx : Ext u30 x22 := by rw [hx22]; exact (Ext.refl _).drew
                replace fs := Fz.ext hx fs bs (Nat.succ_pos _)
                replace bs := Bl.ext hx bs (Nat.succ_pos _)
                replace h1 := hx.cell' h1
                replace h2 := hx.cell' h2
                replace h3 := hx.cell' h3
                replace h4 := hx.cell' h4
                replace HE := HE.trans hx
                clear hx
                clear hx22
                repeat (refine wpE_q (v := ?_) rfl rfl (fun u hu => ?_) ?_; rotate_left 1; (focus (have ks := Bl.ext hu bs (Nat.succ_pos _); have kh1 := hu.cell' h1; have kh2 := hu.cell' h2; have kh3 := hu.cell' h3; have kh4 := hu.cell' h4; have wq0 := HW0.out; go_simp; (try rfl))); simp only [Act.put, List.setIfInBounds_toArray, List.set_cons_zero, List.set_cons_succ])
                refine wpE_l rfl rfl (fun K hK => ?_)
                go_simp
                refine (HA.out _).mono ?_
                rintro e u31 ⟨rfl, hx⟩
                refine hK.out _ _ hx ?_
                clear hK K
                try simp only [Act.put, List.setIfInBounds_toArray, List.set_cons_zero, List.set_cons_succ]
                replace fs := Fz.ext hx fs bs (Nat.succ_pos _)
                replace bs := Bl.ext hx bs (Nat.succ_pos _)
                replace h1 := hx.cell' h1
                replace h2 := hx.cell' h2
                replace h3 := hx.cell' h3
                replace h4 := hx.cell' h4
                replace HE := HE.trans hx
                clear hx
                clear h1 h2 h3 h4
                refine wpE_b rfl rfl (fun K hK => ?_)
                go_simp
                refine hK.out _ _ ?_
                clear hK K
                try simp only [Act.put, List.setIfInBounds_toArray, List.set_cons_zero, List.set_cons_succ]
                refine absE (fun x23 hx23 => ?_)
                have hbut : But u31 x23 (w.heap.size + 1) := by rw [hx23]; exact (But.refl _ _).store.store
                have hbn : Bl x23 (w.heap.size + 1) #[.int .i64 rx, .int .i64 ry] := by rw [hx23]; exact (Bl.set (Bl.set bs (by simp)) (by simp))
                replace fs : Fz x23 (w.heap.size + 1) := by rw [hx23]; exact (Fz.set (Fz.set fs))
                replace HE : Ext w x23 := by rw [hx23]; exact ((HE.store (by show w.heap.size ≤ w.heap.size + 1; omega) _).store (by show w.heap.size ≤ w.heap.size + 1; omega) _)
                clear bs hbut hx23
                have bs := hbn
                clear hbn
                repeat (refine wpE_q (v := ?_) rfl rfl (fun u hu => ?_) ?_; rotate_left 1; (focus (have ks := Bl.ext hu bs (Nat.succ_pos _); have wq0 := HW0.out; go_simp; (try rfl))); simp only [Act.put, List.setIfInBounds_toArray, List.set_cons_zero, List.set_cons_succ])
                refine wpE_done ?_
                go_wp2_with fail
                refine bodyPost_cells_tmp2 rfl rfl Try.underlying36 rfl (by kernel_rfl) (bl_two bs) rfl rfl ?_
                exact ⟨rfl, HE⟩
              · rw [if_neg hmm, HJ9.out] at hst
                have HST2 : Hid (atR z (R.drop (j + 1)) (k - ln) = (rx, ry)) := hidP hst.symm
                clear hst
                go_wp2_with fail
                refine wp_region_plan (R := Ext) (.q 0 (.q 1 (.q 2 (.q 3 (.q 4 (.q 5 (.q 6 (.q 7 (.q 8 (.l 9 (.q 10 .done))))))))))) (by kernel_rfl) (by kernel_rfl) (by kernel_rfl) (by kernel_rfl) Ext.refl (fun _ _ _ => Ext.trans) ?_
                refine absE (fun x21 hx21 => ?_)
                have hx : Ext wr x21 := by rw [hx21]; exact (Ext.refl _).drew
                replace HE3 := HE3.trans hx
                replace fs := Fz.ext hx fs bs (Nat.succ_pos _)
                replace bs := Bl.ext hx bs (Nat.succ_pos _)
                replace h1 := hx.cell' h1
                replace h2 := hx.cell' h2
                replace h3 := hx.cell' h3
                replace h4 := hx.cell' h4
                replace HE := HE.trans hx
                clear hx
                clear hx21
                repeat (refine wpE_q (v := ?_) rfl rfl (fun u hu => ?_) ?_; rotate_left 1; (focus (have ks := Bl.ext hu bs (Nat.succ_pos _); have kh1 := hu.cell' h1; have kh2 := hu.cell' h2; have kh3 := hu.cell' h3; have kh4 := hu.cell' h4; have wq0 := HW0.out; go_simp; (try rfl))); simp only [Act.put, List.setIfInBounds_toArray, List.set_cons_zero, List.set_cons_succ])
                refine wpE_l rfl rfl (fun K hK => ?_)
                go_simp
                refine (HLE.out _).mono ?_
                rintro e u30 ⟨rfl, hx⟩
                refine hK.out _ _ hx ?_
                clear hK K
                try simp only [Act.put, List.setIfInBounds_toArray, List.set_cons_zero, List.set_cons_succ]
                replace HE3 := HE3.trans hx
                replace fs := Fz.ext hx fs bs (Nat.succ_pos _)
                replace bs := Bl.ext hx bs (Nat.succ_pos _)
                replace h1 := hx.cell' h1
                replace h2 := hx.cell' h2
                replace h3 := hx.cell' h3
                replace h4 := hx.cell' h4
                replace HE := HE.trans hx
                clear hx
                repeat (refine wpE_q (v := ?_) rfl rfl (fun u hu => ?_) ?_; rotate_left 1; (focus (have ks := Bl.ext hu bs (Nat.succ_pos _); have kh1 := hu.cell' h1; have kh2 := hu.cell' h2; have kh3 := hu.cell' h3; have kh4 := hu.cell' h4; have wq0 := HW0.out; go_simp; (try rfl))); simp only [Act.put, List.setIfInBounds_toArray, List.set_cons_zero, List.set_cons_succ])
                refine wpE_done ?_
                clear h1 h2 h3 h4
                rcases (by omega : (ln : Int) = 0 ∨ (0 < (ln : Int) ∧ (ln : Int) < k)) with hz | ⟨hz1, hz2⟩
                all_goals (
                  go_wp2_with fail
                  go_roundw
                  case rel => exact ⟨j + 1, k - ln, by omega, by go_num, by first | rfl | (congr 1; omega), by omega, by omega, HST2, bs, fs, HE3, HE⟩
                  case measure => simp only [intOf]; omega)
            · have hend := HEN.out j k (by have := HNR.out; omega)
              rw [HJ.out] at hend
              obtain ⟨g, off, rfl, hc⟩ := (HSR.out.ext HE3).at (by omega)
              have hj0 : 0 < R.length := by have := HNR.out; omega
              obtain ⟨h1, h2⟩ := hc 0 hj0
              rw [Nat.zero_mul, Nat.add_zero] at h1 h2
              have hzz : (rx, ry) = R[0] := by rw [hend]; exact HHD.out
              rw [← hzz] at h1 h2
              simp only [] at h1 h2
              have hn0 : 0 < nr := by omega
              clear hc hend hzz
              go_wp2_with fail
              refine absB (fun ue hue => ?_)
              have hbs : Bl ue (w.heap.size + 1) #[.int .i64 rx, .int .i64 ry] := by rw [hue]; exact (bs.set (by simp)).set (by simp)
              have heu : Ext w ue := by rw [hue]; exact (HE.store (by show w.heap.size ≤ w.heap.size + 1; omega) _).store (by show w.heap.size ≤ w.heap.size + 1; omega) _
              clear hue
              refine bodyPost_cells_tmp2 rfl rfl Try.underlying36 rfl (by kernel_rfl) (bl_two hbs) rfl rfl ?_
              exact ⟨rfl, heu⟩

end Go.Proofs.Ytlhaepcnhkaclaa
