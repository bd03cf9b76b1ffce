/- The law that pieces stay on their line: its walk. -/
import Derived.Test.YtlhaepcnhkaclaaY19
import Derived.Test.YtlhaepcnhkaclaaY14
namespace Go.Proofs.Ytlhaepcnhkaclaa
set_option linter.unusedVariables false
set_option linter.unusedSimpArgs false
open Go Go.RowKit

theorem cutA_fit {l : List Pt} {c : Bool} {pat : List Int} {ph : Int} (h : (cutA l c pat ph).2 = 0) : fitL l = true := by
  unfold cutA at h
  by_cases h1 : mayD pat ph = false
  · rw [if_pos h1] at h; cases h
  · rw [if_neg h1] at h
    by_cases h2 : fitL l = false
    · rw [if_pos h2] at h; cases h
    · simpa using h2

set_option maxRecDepth 100000 in
set_option maxHeartbeats 8000000 in
theorem dashStays_any (a : Option Addr) (n cap : Nat) (l : List Pt) (c : Bool) (pa : Option Addr) (pn pc : Nat) (pat : List Int) (ph : Int) (w : World) (h : SlP w a n cap l) (hw : ∀ p ∈ l, True) (hn : n ≤ 4194303) (hp : Sl w pa pn pc (izs pat)) (hpw : ∀ x ∈ pat, True) (p1 : -9223372036854775808 ≤ ph) (p2 : ph ≤ 9223372036854775807) :
    Calls Try.prog 4 #[.agg #[.slice a n cap, .bool c], .slice pa pn pc, .int .i64 ph] w fun e w' => e = .returned (.bool true) ∧ Ext w w' := by
  have H := hidP h; have HP := hidP hp
  have HC1 := hidP (fun u (q : SlP u a n cap l) (qp : Sl u pa pn pc (izs pat)) => dd_Cut a n cap l c pa pn pc pat ph u q qp hn)
  have HLV := hidP (fun u => dash_lives u)
  have hln := h.len
  have hlb := long_bd (l := l) (c := c) (by omega)
  have hl0 := long_nn l c
  have HLG := hidP (fun u (q : SlP u a n cap l) => d_Long a n cap l c u q (by omega))
  have HC2 := hidP (fun u xa xn xc (q : SlP u a n cap l) (qp : Sl u xa xn xc (izs [longL l c])) => dd_Cut a n cap l c xa xn xc [longL l c] 0 u q qp hn)
  have hbx := fun u (q : SlP u a n cap l) => d_Box a n cap l u q
  unfold boxV at hbx
  have hbox := @cutA_box l c pat ph
  have herr := @cutA_err l c pat ph
  have hft := @cutA_fit l c pat ph
  have hone := fun hf h1 h2 => @cutA_one l c hf h1 h2
  unfold loB hiB at hbox
  rw [hln] at hbox
  clear h hp hln
  generalize cutA l c pat ph = r at *
  generalize cutA l c [longL l c] 0 = r2 at *
  generalize longL l c = en at *
  generalize bxS l n = bb at *
  obtain ⟨l1, l2, h1, h2⟩ := bb
  obtain ⟨ll, er⟩ := r
  obtain ⟨ly, e2⟩ := r2
  simp only [] at hbox herr hft hone hbx HC1 HC2
  have HBX := hidP hbx
  have HONE := hidP hone
  clear hbx hone
  by_cases her : er = 0
  · subst her
    have HBB := hidP (hbox rfl)
    have HFT := hidP (hft rfl)
    clear hbox herr hft
    go_enter Try.func4, Try.ntmps4
    go_wp2_with fail
    refine absC (fun x1 hx1 => ?_)
    have hx : Ext w x1 := by rw [hx1]; exact ((Ext.refl _).alloc _)
    have bp : Bl x1 (w.heap.size) #[.slice a n cap, .bool c] := by rw [hx1]; exact (Bl.new (by simp))
    have HE := hx
    clear hx
    clear hx1
    refine (HC1.out _ (H.out.ext HE) (HP.out.ext HE)).mono ?_
    rintro e u1 ⟨a1, n1, c1, rfl, hs1, hx⟩
    replace bp := Bl.ext hx bp (Nat.succ_pos _)
    replace HE := HE.trans hx
    clear hx
    go_wp2_with fail
    refine (HBX.out _ (H.out.ext HE)).mono ?_
    rintro e u2 ⟨rfl, hx⟩
    replace bp := Bl.ext hx bp (Nat.succ_pos _)
    replace hs1 := hs1.ext hx
    replace HE := HE.trans hx
    clear hx
    go_upto_region 5 with fail
    refine absW (fun x5 hx5 => ?_)
    have hx : Ext u2 x5 := by rw [hx5]; exact ((Ext.refl _).alloc _).alloc _
    have bq : Bl x5 u2.heap.size #[.int .i64 l1, .int .i64 l2] := by rw [hx5]; exact (Bl.new (by simp)).alloc (by simp)
    have br : Bl x5 (u2.heap.size + 1) #[.int .i64 h1, .int .i64 h2] := by rw [hx5]; exact Bl.new (by simp)
    have HS1 := hidP (hs1.ext hx)
    have HLL : Hid (ll.length = n1) := hidP hs1.len
    have hc1 := hs1.cap
    have hcap : n1 ≤ maxLen := Nat.le_trans hc1.1 hc1.2
    unfold maxLen at hcap
    replace bp := Bl.ext hx bp (Nat.succ_pos _)
    replace HE := HE.trans hx
    clear hx hx5 hs1 hc1
    go_wp2_with fail
    go_loopw [12] (fun iv wr => ∃ i : Nat, i ≤ n1 ∧ iv = .int .i64 (i : Int) ∧ Bl wr w.heap.size #[.slice a n cap, .bool c] ∧ Bl wr u2.heap.size #[.int .i64 l1, .int .i64 l2] ∧ Bl wr (u2.heap.size + 1) #[.int .i64 h1, .int .i64 h2] ∧ Ext x5 wr ∧ Ext w wr) (fun iv _ => n1 - (intOf iv).toNat)
    case atStart => exact ⟨0, by omega, rfl, bp, bq, br, Ext.refl _, HE⟩
    case round =>
      clear HE bp bq br
      obtain ⟨i, hi, rfl, bp, bq, br, HX5, HE⟩ := hrel
      by_cases hlt : i < n1
      · have hil : i < ll.length := by rw [HLL.out]; exact hlt
        obtain ⟨g, off, a3, n3, c3, rfl, k1, k2, k3⟩ := HS1.out.at hil
        have hbi := HBB.out ll[i] (List.getElem_mem hil)
        have K1 := hidP k1
        have K3 := hidP k3
        have HL3 := hidP k3.len
        have hc3 : n3 ≤ maxLen := Nat.le_trans k3.2.1 k3.2.2.1
        unfold maxLen at hc3
        have HBI := hidP hbi
        clear k1 k2 k3 hbi
        generalize ll[i].1 = L3 at *
        go_wp2_with fail
        go_loopw [13] (fun iv wr => ∃ k : Nat, k ≤ n3 ∧ iv = .int .i64 (k : Int) ∧ Bl wr w.heap.size #[.slice a n cap, .bool c] ∧ Bl wr u2.heap.size #[.int .i64 l1, .int .i64 l2] ∧ Bl wr (u2.heap.size + 1) #[.int .i64 h1, .int .i64 h2] ∧ Ext x5 wr ∧ Ext w wr) (fun iv _ => n3 - (intOf iv).toNat)
        case atStart => exact ⟨0, by omega, rfl, bp, bq, br, HX5, HE⟩
        case round =>
          clear HE bp bq br HX5
          obtain ⟨k, hk, rfl, bp, bq, br, HX5, HE⟩ := hrel
          have k1 := HX5.cell' K1.out
          by_cases hlt3 : k < n3
          · obtain ⟨g3, off3, rfl, hc⟩ := (K3.out.ext HX5).at (by omega)
            have hkl : k < L3.length := by rw [HL3.out]; exact hlt3
            obtain ⟨m1, m2⟩ := hc k hkl
            have hin := HBI.out L3[k] (List.getElem_mem hkl)
            clear hc
            generalize L3[k] = pp at *
            obtain ⟨px, py⟩ := pp
            unfold inBox at hin
            simp only [] at hin m1 m2
            obtain ⟨f1, f2, f3, f4⟩ := hin
            go_upto_region 12 with fail
            refine absW (fun x7 hx7 => ?_)
            have hx : Ext wr x7 := by rw [hx7]; exact (Ext.refl _).alloc _
            have bt : Bl x7 wr.heap.size #[.int .i64 px, .int .i64 py] := by rw [hx7]; exact Bl.new (by simp)
            replace bp := Bl.ext hx bp (Nat.succ_pos _)
            replace bq := Bl.ext hx bq (Nat.succ_pos _)
            replace br := Bl.ext hx br (Nat.succ_pos _)
            replace HE := HE.trans hx
            replace HX5 := HX5.trans hx
            clear hx hx7 k1 m1 m2
            go_wp2_with fail
            go_roundw
            case rel => exact ⟨k + 1, by omega, by go_num, bp, bq, br, HX5, HE⟩
            case measure => simp only [intOf]; omega
          · obtain rfl : k = n3 := by omega
            go_wp2_with fail
            go_roundw
            case rel => exact ⟨i + 1, by omega, by go_num, bp, bq, br, HX5, HE⟩
            case measure => simp only [intOf]; omega
      · obtain rfl : i = n1 := by omega
        clear HX5 HBB bq br HS1
        go_upto_region 14 with fail
        go_wp2_with fail
        refine (HLG.out _ (H.out.ext HE)).mono ?_
        rintro e u8 ⟨rfl, hx⟩
        replace bp := Bl.ext hx bp (Nat.succ_pos _)
        replace HE := HE.trans hx
        clear hx
        go_upto_region 15 with fail
        have hal : Ext u8 (u8.alloc (.cells #[.int .i64 en] 3)) := (Ext.refl _).alloc _
        have kp := Bl.ext hal bp (Nat.succ_pos _)
        have kp0 : (u8.alloc (.cells #[.int .i64 en] 3)).cell? ⟨w.heap.size, 0, none⟩ = some (.slice a n cap) := kp 0
        have kp1 : (u8.alloc (.cells #[.int .i64 en] 3)).cell? ⟨w.heap.size, 1, none⟩ = some (.bool c) := kp 1
        clear kp hal
        go_wp2_with fail
        clear kp0 kp1
        refine absC (fun x9 hx9 => ?_)
        have hx : Ext u8 x9 := by rw [hx9]; exact (Ext.refl _).alloc _
        have hsz : Sl x9 (some ⟨u8.heap.size, 0, none⟩) 1 1 (izs [en]) := by
          rw [hx9]
          have k1 := SlK.of_owns' (own_many u8 0 3 1 1 #[.int .i64 en] rfl (by omega) (Nat.zero_le _))
          exact ⟨k1.1, k1.2.1, k1.2.2.1, k1.2.2.2⟩
        replace HE := HE.trans hx
        clear hx hx9
        refine (HC2.out _ _ _ _ (H.out.ext HE) hsz).mono ?_
        rintro e u10 ⟨ay, ny, cy, rfl, hsy, hx⟩
        have hny : ly.length = ny := hsy.len
        replace HE := HE.trans hx
        clear hx hsy hsz
        rcases (by omega : en < 1 ∨ (1 ≤ en ∧ 8388607 < en) ∨ (1 ≤ en ∧ en ≤ 8388607)) with g1 | ⟨g1, g2⟩ | ⟨g1, g2⟩
        · clear bp
          go_wp2_with fail
          refine (HLV.out _).mono ?_
          rintro e u11 ⟨rfl, hx⟩
          replace HE := HE.trans hx
          go_wp2_with fail
          go_ret
          exact ⟨rfl, HE⟩
        · have gd : decide (en ≤ 8388607) = false := decide_eq_false (by omega)
          clear bp
          go_wp2_with fail
          refine (HLV.out _).mono ?_
          rintro e u11 ⟨rfl, hx⟩
          replace HE := HE.trans hx
          go_wp2_with fail
          go_ret
          exact ⟨rfl, HE⟩
        · obtain ⟨z1, z2⟩ := HONE.out HFT.out g1 g2
          subst z1
          rw [hny] at z2
          have z3 : (ny : Int) ≤ 1 := by omega
          clear bp
          go_wp2_with fail
          refine (HLV.out _).mono ?_
          rintro e u11 ⟨rfl, hx⟩
          replace HE := HE.trans hx
          go_wp2_with fail
          go_ret
          exact ⟨rfl, HE⟩
  · have hll := herr her
    subst hll
    clear hbox herr hft HONE
    have hne1 : ((er : Int) != 0) = true := by simp; omega
    have hne2 : ((er : Int) == 0) = false := by simp; omega
    go_enter Try.func4, Try.ntmps4
    go_wp2_with fail
    refine absC (fun x1 hx1 => ?_)
    have hx : Ext w x1 := by rw [hx1]; exact ((Ext.refl _).alloc _)
    have bp : Bl x1 (w.heap.size) #[.slice a n cap, .bool c] := by rw [hx1]; exact (Bl.new (by simp))
    have HE := hx
    clear hx
    clear hx1
    refine (HC1.out _ (H.out.ext HE) (HP.out.ext HE)).mono ?_
    rintro e u1 ⟨a1, n1, c1, rfl, hs1, hx⟩
    replace bp := Bl.ext hx bp (Nat.succ_pos _)
    replace HE := HE.trans hx
    clear hx
    obtain rfl : n1 = 0 := hs1.len.symm
    clear hs1
    go_wp2_with fail
    refine (HLV.out _).mono ?_
    rintro e u2 ⟨rfl, hx⟩
    replace bp := Bl.ext hx bp (Nat.succ_pos _)
    replace HE := HE.trans hx
    clear hx
    go_wp2_with fail
    go_ret
    exact ⟨rfl, HE⟩

end Go.Proofs.Ytlhaepcnhkaclaa
