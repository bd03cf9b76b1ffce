/- Rasters: where two differ, in the document's way. -/
import Derived.Test.YtogcmnagiepofaaR4
namespace Go.Proofs.Ytogcmnagiepofaa
set_option linter.unusedVariables false
open Go Go.RowKit

theorem d_AtK {X Y : Nat} {n c : Nat} {a : Option Addr} {l : List Col} (hm : mayR X Y n = true) (hl : l.length = n) (j i : Nat) (hj : j < Y) (hi : i < X) : ∃ hk : j * X + i < l.length, ∀ u, SlC u a n c l →
    Calls Try.prog 60 #[rst X Y a n c, .int .i64 (i : Int), .int .i64 (j : Int)] u fun e w' => e = .returned (.tuple #[.agg #[.int .u8 (l[j * X + i].1 : Int), .int .u8 (l[j * X + i].2.1 : Int), .int .u8 (l[j * X + i].2.2.1 : Int), .int .u8 (l[j * X + i].2.2.2 : Int)], .bool true]) ∧ Ext u w' := by
  have hin := at_in (i := (i : Int)) (j := (j : Int)) hm (by omega) (by omega) (by omega) (by omega)
  have e : ((j : Int) * (X : Int) + (i : Int)) = ((j * X + i : Nat) : Int) := by simp
  have hk : j * X + i < l.length := by rw [hl]; rw [e] at hin; omega
  refine ⟨hk, fun u hu => ?_⟩
  have h := d_At X Y a n c l i j u hu
  have hr : atR X Y n l i j = (l[j * X + i], true) := by
    unfold atR
    rw [if_pos ⟨hm, by omega, by omega, by omega, by omega⟩, e, Int.toNat_natCast, List.getD_eq_getElem?_getD, List.getElem?_eq_getElem hk]
    rfl
  rw [hr] at h
  exact h

set_option maxRecDepth 100000 in
set_option maxHeartbeats 8000000 in
theorem d_Differ (x y x' y' : Int) (a a' : Option Addr) (n c n' c' : Nat) (l l' : List Col) (w : World) (h : SlC w a n c l) (h' : SlC w a' n' c' l') :
    Calls Try.prog 70 #[rst x y a n c, rst x' y' a' n' c'] w (RetD w (difR x y n l x' y' n' l')) := by
  have HL := hidP h.len; have HL' := hidP h'.len
  have H := hidP h; have H' := hidP h'
  clear h h'
  have HM := hidP (fun u => d_May x y a n c u)
  have HM' := hidP (fun u => d_May x' y' a' n' c' u)
  have HSM := hidP (fun (u : World) (t : SlC u a n c l) (t' : SlC u a' n' c' l') => d_SameR x y x' y' a a' n c n' c' l l' u t t')
  by_cases hd : x = x' ∧ y = y' ∧ mayR x y n = true ∧ mayR x' y' n' = true
  · obtain ⟨rfl, rfl, hm, hm'⟩ := hd
    rw [hm] at HM
    rw [hm'] at HM'
    have hmm := of_decide_eq_true hm
    have hmm' := of_decide_eq_true hm'
    obtain ⟨m1, m2, m3, m4, m5⟩ := hmm
    have hbx := mul_box m1 m2 m3 m4
    obtain rfl : n = n' := by have := hmm'.2.2.2.2; omega
    obtain ⟨X, rfl⟩ : ∃ X : Nat, x = (X : Int) := ⟨x.toNat, by omega⟩
    obtain ⟨Y, rfl⟩ : ∃ Y : Nat, y = (Y : Int) := ⟨y.toNat, by omega⟩
    have HXY : Hid (n = Y * X) := hidP (by rw [Nat.mul_comm]; exact_mod_cast m5)
    have HS : Hid (l = l' → difR X Y n l X Y n l' = (0, 0, false)) := hidP (fun e => by rw [← e]; exact difR_same hm hm)
    have HD := hidP (fun (j : Nat) (hj : j < l.length) (hj' : j < l'.length) (ht : l.take j = l'.take j) (hne : l[j] ≠ l'[j]) => difR_at hm hm' hj hj' ht hne)
    have HJ0 : Hid (l.take (0 * X) = l'.take (0 * X)) := hidP (by simp)
    have HA := hidP (@d_AtK X Y n c a l hm HL.out)
    have HA' := hidP (@d_AtK X Y n c' a' l' hm' HL'.out)
    clear hm hm' hmm' m5 hbx HSM
    generalize difR X Y n l X Y n l' = rr at *
    go_enter Try.func70, Try.ntmps70
    go_wp2_with fail
    refine absC (fun x1 hx1 => ?_)
    have hx : Ext w x1 := by rw [hx1]; exact (((Ext.refl _).alloc _).alloc _)
    have bs : Bl x1 (w.heap.size) #[.int .i64 (X : Int), .int .i64 (Y : Int), .slice a n c] := by rw [hx1]; exact ((Bl.new (by simp)).alloc (by simp))
    have bt : Bl x1 (w.heap.size + 1) #[.int .i64 (X : Int), .int .i64 (Y : Int), .slice a' n c'] := by rw [hx1]; exact (Bl.new (by simp))
    have HE := hx
    clear hx
    clear hx1
    refine (HM.out _).mono ?_
    rintro e u1 ⟨rfl, hx⟩
    replace bs := Bl.ext hx bs (Nat.succ_pos _)
    replace bt := Bl.ext hx bt (Nat.succ_pos _)
    replace HE := HE.trans hx
    clear hx
    go_wp2_with fail
    refine (HM'.out _).mono ?_
    rintro e u2 ⟨rfl, hx⟩
    replace bs := Bl.ext hx bs (Nat.succ_pos _)
    replace bt := Bl.ext hx bt (Nat.succ_pos _)
    replace HE := HE.trans hx
    clear hx
    go_wp2_with fail
    go_loopw [7] (fun iv wr => ∃ j : Nat, j ≤ Y ∧ iv = .int .i64 (j : Int) ∧ Hid (l.take (j * X) = l'.take (j * X)) ∧ Bl wr w.heap.size #[.int .i64 (X : Int), .int .i64 (Y : Int), .slice a n c] ∧ Bl wr (w.heap.size + 1) #[.int .i64 (X : Int), .int .i64 (Y : Int), .slice a' n c'] ∧ Ext w wr) (fun iv _ => Y - (intOf iv).toNat)
    case atStart => exact ⟨0, by omega, rfl, HJ0, bs, bt, HE⟩
    case round =>
      clear HJ0 bs bt HE
      obtain ⟨j, hj, rfl, HJ, bs, bt, HE⟩ := hrel
      by_cases hlt : j < Y
      · have hlt0 := hlt
        go_wp2_with fail
        go_loopw [8] (fun iv wr => ∃ i : Nat, i ≤ X ∧ iv = .int .i64 (i : Int) ∧ Hid (l.take (j * X + i) = l'.take (j * X + i)) ∧ Bl wr w.heap.size #[.int .i64 (X : Int), .int .i64 (Y : Int), .slice a n c] ∧ Bl wr (w.heap.size + 1) #[.int .i64 (X : Int), .int .i64 (Y : Int), .slice a' n c'] ∧ Ext w wr) (fun iv _ => X - (intOf iv).toNat)
        case atStart => exact ⟨0, by omega, rfl, HJ, bs, bt, HE⟩
        case round =>
          clear HJ bs bt HE
          obtain ⟨i, hi, rfl, HI, bs, bt, HE⟩ := hrel
          by_cases hli : i < X
          · have hli0 := hli
            obtain ⟨hk, hc⟩ := HA.out j i hlt hli
            obtain ⟨hk', hc'⟩ := HA'.out j i hlt hli
            have hdd := HD.out (j * X + i) hk hk' HI.out
            have hts := take_same HI.out hk hk'
            generalize l[j * X + i] = p at *
            generalize l'[j * X + i] = q at *
            obtain ⟨p0, p1, p2, p3⟩ := p
            obtain ⟨q0, q1, q2, q3⟩ := q
            have HC := hidP hc; have HC' := hidP hc'
            clear hc hc'
            have hdm : (j * X + i) % X = i ∧ (j * X + i) / X = j := by
              rw [Nat.mul_comm]
              exact ⟨by rw [Nat.mul_add_mod]; exact Nat.mod_eq_of_lt hli, by rw [Nat.mul_add_div (by omega), Nat.div_eq_of_lt hli, Nat.add_zero]⟩
            rw [hdm.1, hdm.2] at hdd
            have HDD := hidP hdd; have HTS := hidP hts
            clear hdm hdd hts hk hk'
            by_cases hpq : (p0, p1, p2, p3) = (q0, q1, q2, q3)
            · have HS2 := hidP (HTS.out hpq)
              injection hpq with e0 e1
              injection e1 with e1 e2
              injection e2 with e2 e3
              subst e0; subst e1; subst e2; subst e3
              clear HDD HTS
              go_wp2_with fail
              refine (HC.out _ (H.out.ext HE)).mono ?_
              rintro e u1 ⟨rfl, hx⟩
              replace bs := Bl.ext hx bs (Nat.succ_pos _)
              replace bt := Bl.ext hx bt (Nat.succ_pos _)
              replace HE := HE.trans hx
              clear hx
              go_upto_region 10 with fail
              refine absW (fun x1 hx1 => ?_)
              have hx : Ext u1 x1 := by rw [hx1]; exact ((Ext.refl _).alloc _)
              have bv : Bl x1 (u1.heap.size) #[.int .u8 (p0 : Int), .int .u8 (p1 : Int), .int .u8 (p2 : Int), .int .u8 (p3 : Int)] := by rw [hx1]; exact (Bl.new (by simp))
              replace bs := Bl.ext hx bs (Nat.succ_pos _)
              replace bt := Bl.ext hx bt (Nat.succ_pos _)
              replace HE := HE.trans hx
              clear hx
              clear hx1
              go_wp2_with fail
              refine (HC'.out _ (H'.out.ext HE)).mono ?_
              rintro e u2 ⟨rfl, hx⟩
              replace bs := Bl.ext hx bs (Nat.succ_pos _)
              replace bt := Bl.ext hx bt (Nat.succ_pos _)
              replace bv := Bl.ext hx bv (Nat.succ_pos _)
              replace HE := HE.trans hx
              clear hx
              go_upto_region 11 with fail
              refine absW (fun x2 hx2 => ?_)
              have hx : Ext u2 x2 := by rw [hx2]; exact ((Ext.refl _).alloc _)
              have bz : Bl x2 (u2.heap.size) #[.int .u8 (p0 : Int), .int .u8 (p1 : Int), .int .u8 (p2 : Int), .int .u8 (p3 : Int)] := by rw [hx2]; exact (Bl.new (by simp))
              replace bs := Bl.ext hx bs (Nat.succ_pos _)
              replace bt := Bl.ext hx bt (Nat.succ_pos _)
              replace bv := Bl.ext hx bv (Nat.succ_pos _)
              replace HE := HE.trans hx
              clear hx
              clear hx2
              go_wp2_with fail
              go_roundw
              case rel => exact ⟨i + 1, by omega, by go_num, HS2, bs, bt, HE⟩
              case measure => simp only [intOf]; omega
            · have HR := hidP (HDD.out hpq)
              have hcs : p0 ≠ q0 ∨ (p0 = q0 ∧ p1 ≠ q1) ∨ (p0 = q0 ∧ p1 = q1 ∧ p2 ≠ q2) ∨ (p0 = q0 ∧ p1 = q1 ∧ p2 = q2 ∧ p3 ≠ q3) := by
                have : ¬ (p0 = q0 ∧ p1 = q1 ∧ p2 = q2 ∧ p3 = q3) := fun h => hpq (by rw [h.1, h.2.1, h.2.2.1, h.2.2.2])
                omega
              clear HDD HTS hpq
              rcases hcs with f | ⟨rfl, f⟩ | ⟨rfl, rfl, f⟩ | ⟨rfl, rfl, rfl, f⟩
              · have fi : ¬ (p0 : Int) = (q0 : Int) := by omega
                clear f
                go_wp2_with fail
                refine (HC.out _ (H.out.ext HE)).mono ?_
                rintro e u1 ⟨rfl, hx⟩
                replace bs := Bl.ext hx bs (Nat.succ_pos _)
                replace bt := Bl.ext hx bt (Nat.succ_pos _)
                replace HE := HE.trans hx
                clear hx
                go_upto_region 10 with fail
                refine absW (fun x1 hx1 => ?_)
                have hx : Ext u1 x1 := by rw [hx1]; exact ((Ext.refl _).alloc _)
                have bv : Bl x1 (u1.heap.size) #[.int .u8 (p0 : Int), .int .u8 (p1 : Int), .int .u8 (p2 : Int), .int .u8 (p3 : Int)] := by rw [hx1]; exact (Bl.new (by simp))
                replace bs := Bl.ext hx bs (Nat.succ_pos _)
                replace bt := Bl.ext hx bt (Nat.succ_pos _)
                replace HE := HE.trans hx
                clear hx
                clear hx1
                go_wp2_with fail
                refine (HC'.out _ (H'.out.ext HE)).mono ?_
                rintro e u2 ⟨rfl, hx⟩
                replace bs := Bl.ext hx bs (Nat.succ_pos _)
                replace bt := Bl.ext hx bt (Nat.succ_pos _)
                replace bv := Bl.ext hx bv (Nat.succ_pos _)
                replace HE := HE.trans hx
                clear hx
                go_upto_region 11 with fail
                refine absW (fun x2 hx2 => ?_)
                have hx : Ext u2 x2 := by rw [hx2]; exact ((Ext.refl _).alloc _)
                have bz : Bl x2 (u2.heap.size) #[.int .u8 (q0 : Int), .int .u8 (q1 : Int), .int .u8 (q2 : Int), .int .u8 (q3 : Int)] := by rw [hx2]; exact (Bl.new (by simp))
                replace bs := Bl.ext hx bs (Nat.succ_pos _)
                replace bt := Bl.ext hx bt (Nat.succ_pos _)
                replace bv := Bl.ext hx bv (Nat.succ_pos _)
                replace HE := HE.trans hx
                clear hx
                clear hx2
                go_wp2_with fail
                refine bodyPost_ret (results_tmp3 rfl _ _ _) rfl ?_
                exact ⟨by rw [HR.out]; rfl, HE⟩
              · have fi : ¬ (p1 : Int) = (q1 : Int) := by omega
                clear f
                go_wp2_with fail
                refine (HC.out _ (H.out.ext HE)).mono ?_
                rintro e u1 ⟨rfl, hx⟩
                replace bs := Bl.ext hx bs (Nat.succ_pos _)
                replace bt := Bl.ext hx bt (Nat.succ_pos _)
                replace HE := HE.trans hx
                clear hx
                go_upto_region 10 with fail
                refine absW (fun x1 hx1 => ?_)
                have hx : Ext u1 x1 := by rw [hx1]; exact ((Ext.refl _).alloc _)
                have bv : Bl x1 (u1.heap.size) #[.int .u8 (p0 : Int), .int .u8 (p1 : Int), .int .u8 (p2 : Int), .int .u8 (p3 : Int)] := by rw [hx1]; exact (Bl.new (by simp))
                replace bs := Bl.ext hx bs (Nat.succ_pos _)
                replace bt := Bl.ext hx bt (Nat.succ_pos _)
                replace HE := HE.trans hx
                clear hx
                clear hx1
                go_wp2_with fail
                refine (HC'.out _ (H'.out.ext HE)).mono ?_
                rintro e u2 ⟨rfl, hx⟩
                replace bs := Bl.ext hx bs (Nat.succ_pos _)
                replace bt := Bl.ext hx bt (Nat.succ_pos _)
                replace bv := Bl.ext hx bv (Nat.succ_pos _)
                replace HE := HE.trans hx
                clear hx
                go_upto_region 11 with fail
                refine absW (fun x2 hx2 => ?_)
                have hx : Ext u2 x2 := by rw [hx2]; exact ((Ext.refl _).alloc _)
                have bz : Bl x2 (u2.heap.size) #[.int .u8 (p0 : Int), .int .u8 (q1 : Int), .int .u8 (q2 : Int), .int .u8 (q3 : Int)] := by rw [hx2]; exact (Bl.new (by simp))
                replace bs := Bl.ext hx bs (Nat.succ_pos _)
                replace bt := Bl.ext hx bt (Nat.succ_pos _)
                replace bv := Bl.ext hx bv (Nat.succ_pos _)
                replace HE := HE.trans hx
                clear hx
                clear hx2
                go_wp2_with fail
                refine bodyPost_ret (results_tmp3 rfl _ _ _) rfl ?_
                exact ⟨by rw [HR.out]; rfl, HE⟩
              · have fi : ¬ (p2 : Int) = (q2 : Int) := by omega
                clear f
                go_wp2_with fail
                refine (HC.out _ (H.out.ext HE)).mono ?_
                rintro e u1 ⟨rfl, hx⟩
                replace bs := Bl.ext hx bs (Nat.succ_pos _)
                replace bt := Bl.ext hx bt (Nat.succ_pos _)
                replace HE := HE.trans hx
                clear hx
                go_upto_region 10 with fail
                refine absW (fun x1 hx1 => ?_)
                have hx : Ext u1 x1 := by rw [hx1]; exact ((Ext.refl _).alloc _)
                have bv : Bl x1 (u1.heap.size) #[.int .u8 (p0 : Int), .int .u8 (p1 : Int), .int .u8 (p2 : Int), .int .u8 (p3 : Int)] := by rw [hx1]; exact (Bl.new (by simp))
                replace bs := Bl.ext hx bs (Nat.succ_pos _)
                replace bt := Bl.ext hx bt (Nat.succ_pos _)
                replace HE := HE.trans hx
                clear hx
                clear hx1
                go_wp2_with fail
                refine (HC'.out _ (H'.out.ext HE)).mono ?_
                rintro e u2 ⟨rfl, hx⟩
                replace bs := Bl.ext hx bs (Nat.succ_pos _)
                replace bt := Bl.ext hx bt (Nat.succ_pos _)
                replace bv := Bl.ext hx bv (Nat.succ_pos _)
                replace HE := HE.trans hx
                clear hx
                go_upto_region 11 with fail
                refine absW (fun x2 hx2 => ?_)
                have hx : Ext u2 x2 := by rw [hx2]; exact ((Ext.refl _).alloc _)
                have bz : Bl x2 (u2.heap.size) #[.int .u8 (p0 : Int), .int .u8 (p1 : Int), .int .u8 (q2 : Int), .int .u8 (q3 : Int)] := by rw [hx2]; exact (Bl.new (by simp))
                replace bs := Bl.ext hx bs (Nat.succ_pos _)
                replace bt := Bl.ext hx bt (Nat.succ_pos _)
                replace bv := Bl.ext hx bv (Nat.succ_pos _)
                replace HE := HE.trans hx
                clear hx
                clear hx2
                go_wp2_with fail
                refine bodyPost_ret (results_tmp3 rfl _ _ _) rfl ?_
                exact ⟨by rw [HR.out]; rfl, HE⟩
              · have fi : ¬ (p3 : Int) = (q3 : Int) := by omega
                clear f
                go_wp2_with fail
                refine (HC.out _ (H.out.ext HE)).mono ?_
                rintro e u1 ⟨rfl, hx⟩
                replace bs := Bl.ext hx bs (Nat.succ_pos _)
                replace bt := Bl.ext hx bt (Nat.succ_pos _)
                replace HE := HE.trans hx
                clear hx
                go_upto_region 10 with fail
                refine absW (fun x1 hx1 => ?_)
                have hx : Ext u1 x1 := by rw [hx1]; exact ((Ext.refl _).alloc _)
                have bv : Bl x1 (u1.heap.size) #[.int .u8 (p0 : Int), .int .u8 (p1 : Int), .int .u8 (p2 : Int), .int .u8 (p3 : Int)] := by rw [hx1]; exact (Bl.new (by simp))
                replace bs := Bl.ext hx bs (Nat.succ_pos _)
                replace bt := Bl.ext hx bt (Nat.succ_pos _)
                replace HE := HE.trans hx
                clear hx
                clear hx1
                go_wp2_with fail
                refine (HC'.out _ (H'.out.ext HE)).mono ?_
                rintro e u2 ⟨rfl, hx⟩
                replace bs := Bl.ext hx bs (Nat.succ_pos _)
                replace bt := Bl.ext hx bt (Nat.succ_pos _)
                replace bv := Bl.ext hx bv (Nat.succ_pos _)
                replace HE := HE.trans hx
                clear hx
                go_upto_region 11 with fail
                refine absW (fun x2 hx2 => ?_)
                have hx : Ext u2 x2 := by rw [hx2]; exact ((Ext.refl _).alloc _)
                have bz : Bl x2 (u2.heap.size) #[.int .u8 (p0 : Int), .int .u8 (p1 : Int), .int .u8 (p2 : Int), .int .u8 (q3 : Int)] := by rw [hx2]; exact (Bl.new (by simp))
                replace bs := Bl.ext hx bs (Nat.succ_pos _)
                replace bt := Bl.ext hx bt (Nat.succ_pos _)
                replace bv := Bl.ext hx bv (Nat.succ_pos _)
                replace HE := HE.trans hx
                clear hx
                clear hx2
                go_wp2_with fail
                refine bodyPost_ret (results_tmp3 rfl _ _ _) rfl ?_
                exact ⟨by rw [HR.out]; rfl, HE⟩
          · obtain rfl : i = X := by omega
            have HJ2 : Hid (l.take ((j + 1) * i) = l'.take ((j + 1) * i)) := hidP (by rw [Nat.add_mul, Nat.one_mul]; exact HI.out)
            go_wp2_with fail
            go_roundw
            case rel => exact ⟨j + 1, by omega, by go_num, HJ2, bs, bt, HE⟩
            case measure => simp only [intOf]; omega
      · obtain rfl : j = Y := by omega
        have HR := hidP (HS.out (same_take (by rw [← HXY.out] at HJ; exact HJ.out) HL.out HL'.out))
        go_wp2_with fail
        refine bodyPost_ret (results_tmp3 rfl _ _ _) rfl ?_
        exact ⟨by rw [HR.out]; rfl, HE⟩
  · have HR := hidP (difR_no (l := l) (l' := l') hd)
    generalize difR x y n l x' y' n' l' = rr at *
    generalize decide (x = x' ∧ y = y' ∧ l = l') = bb at *
    cases hm : mayR x y n
    · rw [hm] at HM
      clear hm hd HM'
      go_enter Try.func70, Try.ntmps70
      go_wp2_with fail
      refine absC (fun x1 hx1 => ?_)
      have hx : Ext w x1 := by rw [hx1]; exact (((Ext.refl _).alloc _).alloc _)
      have bs : Bl x1 (w.heap.size) #[.int .i64 x, .int .i64 y, .slice a n c] := by rw [hx1]; exact ((Bl.new (by simp)).alloc (by simp))
      have bt : Bl x1 (w.heap.size + 1) #[.int .i64 x', .int .i64 y', .slice a' n' c'] := by rw [hx1]; exact (Bl.new (by simp))
      have HE := hx
      clear hx
      clear hx1
      refine (HM.out _).mono ?_
      rintro e u1 ⟨rfl, hx⟩
      replace bs := Bl.ext hx bs (Nat.succ_pos _)
      replace bt := Bl.ext hx bt (Nat.succ_pos _)
      replace HE := HE.trans hx
      clear hx
      go_wp2_with fail
      refine (HSM.out _ (H.out.ext HE) (H'.out.ext HE)).mono ?_
      rintro e u3 ⟨rfl, hx⟩
      replace bs := Bl.ext hx bs (Nat.succ_pos _)
      replace bt := Bl.ext hx bt (Nat.succ_pos _)
      replace HE := HE.trans hx
      clear hx
      go_wp2_with fail
      refine bodyPost_ret (results_tmp3 rfl _ _ _) rfl ?_
      exact ⟨by rw [HR.out]; rfl, HE⟩
    · rw [hm] at HM
      cases hm' : mayR x' y' n'
      · rw [hm'] at HM'
        clear hm hm' hd
        go_enter Try.func70, Try.ntmps70
        go_wp2_with fail
        refine absC (fun x1 hx1 => ?_)
        have hx : Ext w x1 := by rw [hx1]; exact (((Ext.refl _).alloc _).alloc _)
        have bs : Bl x1 (w.heap.size) #[.int .i64 x, .int .i64 y, .slice a n c] := by rw [hx1]; exact ((Bl.new (by simp)).alloc (by simp))
        have bt : Bl x1 (w.heap.size + 1) #[.int .i64 x', .int .i64 y', .slice a' n' c'] := by rw [hx1]; exact (Bl.new (by simp))
        have HE := hx
        clear hx
        clear hx1
        refine (HM.out _).mono ?_
        rintro e u1 ⟨rfl, hx⟩
        replace bs := Bl.ext hx bs (Nat.succ_pos _)
        replace bt := Bl.ext hx bt (Nat.succ_pos _)
        replace HE := HE.trans hx
        clear hx
        go_wp2_with fail
        refine (HM'.out _).mono ?_
        rintro e u2 ⟨rfl, hx⟩
        replace bs := Bl.ext hx bs (Nat.succ_pos _)
        replace bt := Bl.ext hx bt (Nat.succ_pos _)
        replace HE := HE.trans hx
        clear hx
        go_wp2_with fail
        refine (HSM.out _ (H.out.ext HE) (H'.out.ext HE)).mono ?_
        rintro e u3 ⟨rfl, hx⟩
        replace bs := Bl.ext hx bs (Nat.succ_pos _)
        replace bt := Bl.ext hx bt (Nat.succ_pos _)
        replace HE := HE.trans hx
        clear hx
        go_wp2_with fail
        refine bodyPost_ret (results_tmp3 rfl _ _ _) rfl ?_
        exact ⟨by rw [HR.out]; rfl, HE⟩
      · rw [hm'] at HM'
        have hcs : x ≠ x' ∨ (x = x' ∧ y ≠ y') := by
          have : ¬ (x = x' ∧ y = y') := fun h => hd ⟨h.1, h.2, hm, hm'⟩
          omega
        clear hm hm' hd
        rcases hcs with h1 | ⟨h0, h1⟩
        · have hb : (x == x') = false := by simpa using h1
          go_enter Try.func70, Try.ntmps70
          go_wp2_with fail
          refine absC (fun x1 hx1 => ?_)
          have hx : Ext w x1 := by rw [hx1]; exact (((Ext.refl _).alloc _).alloc _)
          have bs : Bl x1 (w.heap.size) #[.int .i64 x, .int .i64 y, .slice a n c] := by rw [hx1]; exact ((Bl.new (by simp)).alloc (by simp))
          have bt : Bl x1 (w.heap.size + 1) #[.int .i64 x', .int .i64 y', .slice a' n' c'] := by rw [hx1]; exact (Bl.new (by simp))
          have HE := hx
          clear hx
          clear hx1
          refine (HM.out _).mono ?_
          rintro e u1 ⟨rfl, hx⟩
          replace bs := Bl.ext hx bs (Nat.succ_pos _)
          replace bt := Bl.ext hx bt (Nat.succ_pos _)
          replace HE := HE.trans hx
          clear hx
          go_wp2_with fail
          refine (HM'.out _).mono ?_
          rintro e u2 ⟨rfl, hx⟩
          replace bs := Bl.ext hx bs (Nat.succ_pos _)
          replace bt := Bl.ext hx bt (Nat.succ_pos _)
          replace HE := HE.trans hx
          clear hx
          go_wp2_with fail
          refine (HSM.out _ (H.out.ext HE) (H'.out.ext HE)).mono ?_
          rintro e u3 ⟨rfl, hx⟩
          replace bs := Bl.ext hx bs (Nat.succ_pos _)
          replace bt := Bl.ext hx bt (Nat.succ_pos _)
          replace HE := HE.trans hx
          clear hx
          go_wp2_with fail
          refine bodyPost_ret (results_tmp3 rfl _ _ _) rfl ?_
          exact ⟨by rw [HR.out]; rfl, HE⟩
        · subst h0
          have hb : (y == y') = false := by simpa using h1
          go_enter Try.func70, Try.ntmps70
          go_wp2_with fail
          refine absC (fun x1 hx1 => ?_)
          have hx : Ext w x1 := by rw [hx1]; exact (((Ext.refl _).alloc _).alloc _)
          have bs : Bl x1 (w.heap.size) #[.int .i64 x, .int .i64 y, .slice a n c] := by rw [hx1]; exact ((Bl.new (by simp)).alloc (by simp))
          have bt : Bl x1 (w.heap.size + 1) #[.int .i64 x, .int .i64 y', .slice a' n' c'] := by rw [hx1]; exact (Bl.new (by simp))
          have HE := hx
          clear hx
          clear hx1
          refine (HM.out _).mono ?_
          rintro e u1 ⟨rfl, hx⟩
          replace bs := Bl.ext hx bs (Nat.succ_pos _)
          replace bt := Bl.ext hx bt (Nat.succ_pos _)
          replace HE := HE.trans hx
          clear hx
          go_wp2_with fail
          refine (HM'.out _).mono ?_
          rintro e u2 ⟨rfl, hx⟩
          replace bs := Bl.ext hx bs (Nat.succ_pos _)
          replace bt := Bl.ext hx bt (Nat.succ_pos _)
          replace HE := HE.trans hx
          clear hx
          go_wp2_with fail
          refine (HSM.out _ (H.out.ext HE) (H'.out.ext HE)).mono ?_
          rintro e u3 ⟨rfl, hx⟩
          replace bs := Bl.ext hx bs (Nat.succ_pos _)
          replace bt := Bl.ext hx bt (Nat.succ_pos _)
          replace HE := HE.trans hx
          clear hx
          go_wp2_with fail
          refine bodyPost_ret (results_tmp3 rfl _ _ _) rfl ?_
          exact ⟨by rw [HR.out]; rfl, HE⟩

end Go.Proofs.Ytogcmnagiepofaa
