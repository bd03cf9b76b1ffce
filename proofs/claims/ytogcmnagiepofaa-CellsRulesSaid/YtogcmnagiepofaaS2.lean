/- Sets of cells: is a cell in, how many are, are two the same? -/
import Derived.Test.YtogcmnagiepofaaS1
namespace Go.Proofs.Ytogcmnagiepofaa
set_option linter.unusedVariables false
set_option linter.unusedSimpArgs false
open Go Go.RowKit

/-- Is a cell in? -/
def hasB (x y : Int) (n : Nat) (l : List Bool) (i j : Int) : Bool :=
  if mayR x y n = true ∧ 0 ≤ i ∧ i < x ∧ 0 ≤ j ∧ j < y then l.getD (j * x + i).toNat false else false

set_option maxRecDepth 100000 in
set_option maxHeartbeats 4000000 in
theorem c_within (x y : Int) (a : Option Addr) (n c : Nat) (i j : Int) (w : World) : Calls Try.prog 102 #[rst x y a n c, .int .i64 i, .int .i64 j] w fun e w' => e = .returned (.bool (decide (0 ≤ i ∧ i < x ∧ 0 ≤ j ∧ j < y))) ∧ Ext w w' := by
  by_cases hok : 0 ≤ i ∧ i < x ∧ 0 ≤ j ∧ j < y
  · rw [decide_eq_true hok]
    obtain ⟨h1, h2, h3, h4⟩ := hok
    go_enter Try.func102, Try.ntmps102
    go_wp2_with fail
    go_ret
    exact ⟨rfl, (Ext.refl _).alloc _⟩
  · rw [decide_eq_false hok]
    rcases (by omega : i < 0 ∨ (0 ≤ i ∧ x ≤ i) ∨ (0 ≤ i ∧ i < x ∧ j < 0) ∨ (0 ≤ i ∧ i < x ∧ 0 ≤ j ∧ y ≤ j)) with h1 | ⟨h0, h1⟩ | ⟨h0, h1, h2⟩ | ⟨h0, h1, h2, h3⟩ <;> clear hok
    all_goals (
      go_enter Try.func102, Try.ntmps102
      go_wp2_with fail
      go_ret
      exact ⟨(by first | rfl | (refine congrArg (fun b => Ending.returned (Value.bool b)) (?_ : _ = false); exact decide_eq_false (by omega))), (Ext.refl _).alloc _⟩)

set_option maxRecDepth 100000 in
set_option maxHeartbeats 4000000 in
theorem c_Has (x y : Int) (a : Option Addr) (n c : Nat) (l : List Bool) (i j : Int) (w : World) (h : SlB w a n c l) :
    Calls Try.prog 51 #[rst x y a n c, .int .i64 i, .int .i64 j] w fun e w' => e = .returned (.bool (hasB x y n l i j)) ∧ Ext w w' := by
  have HL := hidP h.len
  have H := hidP h
  clear h
  have HM := hidP (fun u => c_May x y a n c u)
  have HIN := hidP (@at_in x y i j n)
  have HW := hidP (fun u => c_within x y a n c i j u)
  by_cases hok : mayR x y n = true ∧ 0 ≤ i ∧ i < x ∧ 0 ≤ j ∧ j < y
  · have HR : Hid (hasB x y n l i j = l.getD (j * x + i).toNat false) := hidP (if_pos hok)
    obtain ⟨hm, hi1, hi2, hj1, hj2⟩ := hok
    obtain ⟨hb1, hb2, hb3⟩ := HIN.out hm hi1 hi2 hj1 hj2
    rw [hm] at HM
    rw [decide_eq_true ⟨hi1, hi2, hj1, hj2⟩] at HW
    obtain ⟨k, hk⟩ : ∃ k : Nat, j * x + i = (k : Int) := ⟨(j * x + i).toNat, by omega⟩
    rw [hk, Int.toNat_natCast] at HR
    have hkn : k < n := by omega
    obtain ⟨g, off, rfl, hc⟩ := H.out.at (by omega)
    have h0 := hc k (by rw [HL.out]; exact hkn)
    rw [show l.getD k false = l[k]'(by rw [HL.out]; exact hkn) by rw [List.getD_eq_getElem?_getD, List.getElem?_eq_getElem (by rw [HL.out]; exact hkn)]; rfl] at HR
    generalize l[k]'(by rw [HL.out]; exact hkn) = q at *
    have hx0 : 0 ≤ x := by omega
    clear hc hm HIN H
    generalize hasB x y n l i j = rr at *
    go_enter Try.func51, Try.ntmps51
    go_wp2_with fail
    refine absC (fun x1 hx1 => ?_)
    have hx : Ext w x1 := by rw [hx1]; exact ((Ext.refl _).alloc _)
    have bp : Bl x1 (w.heap.size) #[.int .i64 x, .int .i64 y, .slice (some ⟨g, off, none⟩) n c] := by rw [hx1]; exact (Bl.new (by simp))
    have HE := hx
    clear hx
    clear hx1
    refine (HM.out _).mono ?_
    rintro e u1 ⟨rfl, hx⟩
    replace bp := Bl.ext hx bp (Nat.succ_pos _)
    replace HE := HE.trans hx
    clear hx
    go_wp2_with fail
    refine (HW.out _).mono ?_
    rintro e u2 ⟨rfl, hx⟩
    replace bp := Bl.ext hx bp (Nat.succ_pos _)
    replace HE := HE.trans hx
    clear hx
    replace h0 := HE.cell' h0
    go_wp2_with fail
    go_ret
    exact ⟨by rw [HR.out]; first | rfl | (refine congrArg (fun b => Ending.returned (Value.bool b)) (?_ : _ = false); exact decide_eq_false (by omega)), HE⟩
  · have HR : Hid (hasB x y n l i j = false) := hidP (if_neg hok)
    generalize hasB x y n l i j = rr at *
    clear HIN H HL
    cases hm : mayR x y n
    · rw [hm] at HM
      clear hok hm
      go_enter Try.func51, Try.ntmps51
      go_wp2_with fail
      refine absC (fun x1 hx1 => ?_)
      have hx : Ext w x1 := by rw [hx1]; exact ((Ext.refl _).alloc _)
      have bp : Bl x1 (w.heap.size) #[.int .i64 x, .int .i64 y, .slice a n c] := by rw [hx1]; exact (Bl.new (by simp))
      have HE := hx
      clear hx
      clear hx1
      refine (HM.out _).mono ?_
      rintro e u1 ⟨rfl, hx⟩
      replace bp := Bl.ext hx bp (Nat.succ_pos _)
      replace HE := HE.trans hx
      clear hx
      go_wp2_with fail
      go_ret
      exact ⟨by rw [HR.out]; first | rfl | (refine congrArg (fun b => Ending.returned (Value.bool b)) (?_ : _ = false); exact decide_eq_false (by omega)), HE⟩
    · rw [hm] at HM
      rw [decide_eq_false (fun h => hok ⟨hm, h⟩)] at HW
      clear hok hm
      go_enter Try.func51, Try.ntmps51
      go_wp2_with fail
      refine absC (fun x1 hx1 => ?_)
      have hx : Ext w x1 := by rw [hx1]; exact ((Ext.refl _).alloc _)
      have bp : Bl x1 (w.heap.size) #[.int .i64 x, .int .i64 y, .slice a n c] := by rw [hx1]; exact (Bl.new (by simp))
      have HE := hx
      clear hx
      clear hx1
      refine (HM.out _).mono ?_
      rintro e u1 ⟨rfl, hx⟩
      replace bp := Bl.ext hx bp (Nat.succ_pos _)
      replace HE := HE.trans hx
      clear hx
      go_wp2_with fail
      refine (HW.out _).mono ?_
      rintro e u2 ⟨rfl, hx⟩
      replace bp := Bl.ext hx bp (Nat.succ_pos _)
      replace HE := HE.trans hx
      clear hx
      go_wp2_with fail
      go_ret
      exact ⟨by rw [HR.out]; first | rfl | (refine congrArg (fun b => Ending.returned (Value.bool b)) (?_ : _ = false); exact decide_eq_false (by omega)), HE⟩

set_option maxRecDepth 100000 in
set_option maxHeartbeats 4000000 in
theorem e_Has (x y : Int) (a : Option Addr) (n c : Nat) (l : List Bool) (i j : Int) (w : World) (h : SlB w a n c l) :
    Calls Try.prog 52 #[rst x y a n c, .int .i64 i, .int .i64 j] w fun e w' => e = .returned (.bool (hasB x y n l i j)) ∧ Ext w w' := by
  have HL := hidP h.len
  have H := hidP h
  clear h
  have HM := hidP (fun u => e_May x y a n c u)
  have HIN := hidP (@at_in x y i j n)
  by_cases hok : mayR x y n = true ∧ 0 ≤ i ∧ i < x ∧ 0 ≤ j ∧ j < y
  · have HR : Hid (hasB x y n l i j = l.getD (j * x + i).toNat false) := hidP (if_pos hok)
    obtain ⟨hm, hi1, hi2, hj1, hj2⟩ := hok
    obtain ⟨hb1, hb2, hb3⟩ := HIN.out hm hi1 hi2 hj1 hj2
    rw [hm] at HM
    obtain ⟨k, hk⟩ : ∃ k : Nat, j * x + i = (k : Int) := ⟨(j * x + i).toNat, by omega⟩
    rw [hk, Int.toNat_natCast] at HR
    have hkn : k < n := by omega
    obtain ⟨g, off, rfl, hc⟩ := H.out.at (by omega)
    have h0 := hc k (by rw [HL.out]; exact hkn)
    rw [show l.getD k false = l[k]'(by rw [HL.out]; exact hkn) by rw [List.getD_eq_getElem?_getD, List.getElem?_eq_getElem (by rw [HL.out]; exact hkn)]; rfl] at HR
    generalize l[k]'(by rw [HL.out]; exact hkn) = q at *
    have hx0 : 0 ≤ x := by omega
    clear hc hm HIN H
    have hcm : j * x = x * j := Int.mul_comm _ _
    rw [hcm] at hb1 hb2 hb3 hk
    rw [Int.add_comm] at hk
    have hb4 : i + x * j ≤ 4095 := by omega
    generalize hasB x y n l i j = rr at *
    go_enter Try.func52, Try.ntmps52
    go_wp2_with fail
    refine absC (fun x1 hx1 => ?_)
    have hx : Ext w x1 := by rw [hx1]; exact ((Ext.refl _).alloc _)
    have bp : Bl x1 (w.heap.size) #[.int .i64 x, .int .i64 y, .slice (some ⟨g, off, none⟩) n c] := by rw [hx1]; exact (Bl.new (by simp))
    have HE := hx
    clear hx
    clear hx1
    refine (HM.out _).mono ?_
    rintro e u1 ⟨rfl, hx⟩
    replace bp := Bl.ext hx bp (Nat.succ_pos _)
    replace HE := HE.trans hx
    clear hx
    replace h0 := HE.cell' h0
    go_wp2_with fail
    go_ret
    exact ⟨by rw [HR.out]; first | rfl | (refine congrArg (fun b => Ending.returned (Value.bool b)) (?_ : _ = false); exact decide_eq_false (by omega)), HE⟩
  · have HR : Hid (hasB x y n l i j = false) := hidP (if_neg hok)
    generalize hasB x y n l i j = rr at *
    clear HIN H HL
    cases hm : mayR x y n
    · rw [hm] at HM
      clear hok hm
      go_enter Try.func52, Try.ntmps52
      go_wp2_with fail
      refine absC (fun x1 hx1 => ?_)
      have hx : Ext w x1 := by rw [hx1]; exact ((Ext.refl _).alloc _)
      have bp : Bl x1 (w.heap.size) #[.int .i64 x, .int .i64 y, .slice a n c] := by rw [hx1]; exact (Bl.new (by simp))
      have HE := hx
      clear hx
      clear hx1
      refine (HM.out _).mono ?_
      rintro e u1 ⟨rfl, hx⟩
      replace bp := Bl.ext hx bp (Nat.succ_pos _)
      replace HE := HE.trans hx
      clear hx
      go_wp2_with fail
      go_ret
      exact ⟨by rw [HR.out]; first | rfl | (refine congrArg (fun b => Ending.returned (Value.bool b)) (?_ : _ = false); exact decide_eq_false (by omega)), HE⟩
    · rw [hm] at HM
      have hcs : i < 0 ∨ (0 ≤ i ∧ j < 0) ∨ (0 ≤ i ∧ 0 ≤ j ∧ x ≤ i) ∨ (0 ≤ i ∧ 0 ≤ j ∧ i < x ∧ y ≤ j) := by
        have : ¬ (0 ≤ i ∧ i < x ∧ 0 ≤ j ∧ j < y) := fun h => hok ⟨hm, h⟩
        omega
      clear hok hm
      rcases hcs with hc0 | ⟨hc0, hc1⟩ | ⟨hc0, hc1, hc2⟩ | ⟨hc0, hc1, hc2, hc3⟩
      all_goals (
        go_enter Try.func52, Try.ntmps52
        go_wp2_with fail
        refine absC (fun x1 hx1 => ?_)
        have hx : Ext w x1 := by rw [hx1]; exact ((Ext.refl _).alloc _)
        have bp : Bl x1 (w.heap.size) #[.int .i64 x, .int .i64 y, .slice a n c] := by rw [hx1]; exact (Bl.new (by simp))
        have HE := hx
        clear hx
        clear hx1
        refine (HM.out _).mono ?_
        rintro e u1 ⟨rfl, hx⟩
        replace bp := Bl.ext hx bp (Nat.succ_pos _)
        replace HE := HE.trans hx
        clear hx
        go_wp2_with fail
        go_ret
        exact ⟨by rw [HR.out]; first | rfl | (refine congrArg (fun b => Ending.returned (Value.bool b)) (?_ : _ = false); exact decide_eq_false (by omega)), HE⟩)

set_option maxRecDepth 100000 in
set_option maxHeartbeats 4000000 in
theorem s_EqB (a a' : Option Addr) (n c n' c' : Nat) (l l' : List Bool) (w : World) (h : SlB w a n c l) (h' : SlB w a' n' c' l') :
    Calls Try.prog 101 #[.slice a n c, .slice a' n' c'] w fun e w' => e = .returned (.bool (decide (l = l'))) ∧ Ext w w' := by
  have HL := hidP h.len; have HL' := hidP h'.len
  have hcap : n ≤ maxLen := Nat.le_trans h.2.1 h.2.2.1
  unfold maxLen at hcap
  by_cases hn : n = n'
  · subst hn
    have H := hidP h; have H' := hidP h'
    have HJ0 : Hid (l.take 0 = l'.take 0) := hidP (by simp)
    clear h h'
    go_enter Try.func101, Try.ntmps101
    go_wp2_with fail
    go_loopw [13] (fun iv wr => ∃ j : Nat, j ≤ n ∧ iv = .int .i64 (j : Int) ∧ Hid (l.take j = l'.take j) ∧ Ext w wr) (fun iv _ => n - (intOf iv).toNat)
    case atStart => exact ⟨0, by omega, rfl, HJ0, Ext.refl _⟩
    case round =>
      clear HJ0
      obtain ⟨j, hj, rfl, HJ, HE⟩ := hrel
      by_cases hlt : j < n
      · have hlt0 := hlt
        obtain ⟨g, off, rfl, hc⟩ := (H.out.ext HE).at (by omega)
        obtain ⟨g', off', rfl, hc'⟩ := (H'.out.ext HE).at (by omega)
        have h0 := hc j (by rw [HL.out]; exact hlt)
        have k0 := hc' j (by rw [HL'.out]; exact hlt)
        clear hc hc'
        generalize hp : l[j]'(by rw [HL.out]; exact hlt) = p at *
        generalize hq : l'[j]'(by rw [HL'.out]; exact hlt) = q at *
        have HP := hidP hp; have HQ := hidP hq
        clear hp hq
        by_cases hpq : p = q
        · have HS := hidP (take_same HJ.out (by rw [HL.out]; exact hlt) (by rw [HL'.out]; exact hlt) (by rw [HP.out, HQ.out, hpq]))
          subst hpq
          clear HP HQ
          go_wp2_with fail
          refine wp_region_plan (R := Ext) (.q 0 (.q 1 (.q 2 (.q 3 (.q 4 (.q 5 (.q 6 (.q 7 (.q 8 .done))))))))) (by kernel_rfl) (by kernel_rfl) (by kernel_rfl) (by kernel_rfl) Ext.refl (fun _ _ _ => Ext.trans) ?_
          refine absE (fun x1 hx1 => ?_)
          have hx : Ext wr x1 := by rw [hx1]; exact (Ext.refl _).drew
          replace h0 := hx.cell' h0
          replace k0 := hx.cell' k0
          replace HE := HE.trans hx
          clear hx
          clear hx1
          repeat (refine wpE_q (v := ?_) rfl rfl (fun u hu => ?_) ?_; rotate_left 1; (focus (have kh0 := hu.cell' h0; have kk0 := hu.cell' k0; go_simp; (try rfl))); simp only [Act.put, List.setIfInBounds_toArray, List.set_cons_zero, List.set_cons_succ])
          refine wpE_done ?_
          go_wp2_with fail
          go_roundw
          case rel => exact ⟨j + 1, by omega, by go_num, HS, HE⟩
          case measure => simp only [intOf]; omega
        · have HR : Hid (decide (l = l') = false) := hidP (decide_eq_false (fun h => hpq (by rw [← HP.out, ← HQ.out]; simp only [h])))
          have hpq2 : (p == q) = false := by simpa using hpq
          clear HP HQ hpq
          go_wp2_with fail
          refine wp_region_plan (R := Ext) (.q 0 (.q 1 (.q 2 (.q 3 (.q 4 (.q 5 (.q 6 (.q 7 (.q 8 .done))))))))) (by kernel_rfl) (by kernel_rfl) (by kernel_rfl) (by kernel_rfl) Ext.refl (fun _ _ _ => Ext.trans) ?_
          refine absE (fun x1 hx1 => ?_)
          have hx : Ext wr x1 := by rw [hx1]; exact (Ext.refl _).drew
          replace h0 := hx.cell' h0
          replace k0 := hx.cell' k0
          replace HE := HE.trans hx
          clear hx
          clear hx1
          repeat (refine wpE_q (v := ?_) rfl rfl (fun u hu => ?_) ?_; rotate_left 1; (focus (have kh0 := hu.cell' h0; have kk0 := hu.cell' k0; go_simp; (try rfl))); simp only [Act.put, List.setIfInBounds_toArray, List.set_cons_zero, List.set_cons_succ])
          refine wpE_done ?_
          go_wp2_with fail
          go_ret
          exact ⟨by rw [HR.out]; rfl, HE⟩
      · obtain rfl : j = n := by omega
        have HR : Hid (decide (l = l') = true) := hidP (decide_eq_true (same_take HJ.out HL.out HL'.out))
        go_wp2_with fail
        go_ret
        exact ⟨by rw [HR.out]; rfl, HE⟩
  · have HR : Hid (decide (l = l') = false) := hidP (decide_eq_false (fun h2 => hn (by rw [← HL.out, ← HL'.out, h2])))
    clear h h'
    have hnI : ((n : Int) == (n' : Int)) = false := by simp; omega
    go_enter Try.func101, Try.ntmps101
    go_wp2_with fail
    go_ret
    exact ⟨by rw [HR.out]; rfl, Ext.refl _⟩

set_option maxRecDepth 100000 in
set_option maxHeartbeats 4000000 in
theorem c_Same (x y x' y' : Int) (a a' : Option Addr) (n c n' c' : Nat) (l l' : List Bool) (w : World) (h : SlB w a n c l) (h' : SlB w a' n' c' l') :
    Calls Try.prog 45 #[rst x y a n c, rst x' y' a' n' c'] w fun e w' => e = .returned (.bool (decide (x = x' ∧ y = y' ∧ l = l'))) ∧ Ext w w' := by
  have HL := hidP h.len; have HL' := hidP h'.len
  have hcap : n ≤ maxLen := Nat.le_trans h.2.1 h.2.2.1
  unfold maxLen at hcap
  by_cases hd : x = x' ∧ y = y'
  · obtain ⟨rfl, rfl⟩ := hd
    have H := hidP h; have H' := hidP h'
    have e0 : decide (x = x ∧ y = y ∧ l = l') = decide (l = l') := by simp
    rw [e0]
    have HS := hidP (fun u (t : SlB u a n c l) (t' : SlB u a' n' c' l') => s_EqB a a' n c n' c' l l' u t t')
    clear h h' e0
    generalize decide (l = l') = rr at *
    go_enter Try.func45, Try.ntmps45
    go_wp2_with fail
    refine absC (fun x1 hx1 => ?_)
    have hx : Ext w x1 := by rw [hx1]; exact (((Ext.refl _).alloc _).alloc _)
    have bs : Bl x1 (w.heap.size) #[.int .i64 x, .int .i64 y, .slice a n c] := by rw [hx1]; exact ((Bl.new (by simp)).alloc (by simp))
    have bt : Bl x1 (w.heap.size + 1) #[.int .i64 x, .int .i64 y, .slice a' n' c'] := by rw [hx1]; exact (Bl.new (by simp))
    have HE := hx
    clear hx
    clear hx1
    refine (HS.out _ (H.out.ext HE) (H'.out.ext HE)).mono ?_
    rintro e u1 ⟨rfl, hx⟩
    replace bs := Bl.ext hx bs (Nat.succ_pos _)
    replace bt := Bl.ext hx bt (Nat.succ_pos _)
    replace HE := HE.trans hx
    clear hx
    go_wp2_with fail
    go_ret
    exact ⟨rfl, HE⟩
  · have HR : Hid (decide (x = x' ∧ y = y' ∧ l = l') = false) := hidP (decide_eq_false (fun h2 => hd ⟨h2.1, h2.2.1⟩))
    clear h h' HL HL'
    generalize decide (x = x' ∧ y = y' ∧ l = l') = rr at *
    have hcs : x ≠ x' ∨ (x = x' ∧ y ≠ y') := by omega
    clear hd
    rcases hcs with h1 | ⟨h0, h1⟩
    · have hb : (x == x') = false := by simpa using h1
      go_enter Try.func45, Try.ntmps45
      go_wp2_with fail
      go_ret
      exact ⟨by rw [HR.out]; rfl, ((Ext.refl _).alloc _).alloc _⟩
    · subst h0
      have hb : (y == y') = false := by simpa using h1
      go_enter Try.func45, Try.ntmps45
      go_wp2_with fail
      go_ret
      exact ⟨by rw [HR.out]; rfl, ((Ext.refl _).alloc _).alloc _⟩

set_option maxRecDepth 100000 in
set_option maxHeartbeats 4000000 in
theorem e_Same (x y x' y' : Int) (a a' : Option Addr) (n c n' c' : Nat) (l l' : List Bool) (w : World) (h : SlB w a n c l) (h' : SlB w a' n' c' l') :
    Calls Try.prog 38 #[rst x y a n c, rst x' y' a' n' c'] w fun e w' => e = .returned (.bool (decide (x = x' ∧ y = y' ∧ l = l'))) ∧ Ext w w' := by
  have HL := hidP h.len; have HL' := hidP h'.len
  have hcap : n ≤ maxLen := Nat.le_trans h.2.1 h.2.2.1
  unfold maxLen at hcap
  by_cases hd : x = x' ∧ y = y' ∧ n = n'
  · obtain ⟨rfl, rfl, rfl⟩ := hd
    have H := hidP h; have H' := hidP h'
    have HJ0 : Hid (l.take 0 = l'.take 0) := hidP (by simp)
    have e0 : decide (x = x ∧ y = y ∧ l = l') = decide (l = l') := by simp
    rw [e0]
    clear h h' e0
    go_enter Try.func38, Try.ntmps38
    go_wp2_with fail
    refine absW (fun x1 hx1 => ?_)
    have hx : Ext w x1 := by rw [hx1]; exact (((Ext.refl _).alloc _).alloc _)
    have bs : Bl x1 (w.heap.size) #[.int .i64 x, .int .i64 y, .slice a n c] := by rw [hx1]; exact ((Bl.new (by simp)).alloc (by simp))
    have bt : Bl x1 (w.heap.size + 1) #[.int .i64 x, .int .i64 y, .slice a' n c'] := by rw [hx1]; exact (Bl.new (by simp))
    have HE := hx
    clear hx
    clear hx1
    go_loopw [5] (fun iv wr => ∃ j : Nat, j ≤ n ∧ iv = .int .i64 (j : Int) ∧ Hid (l.take j = l'.take j) ∧ Bl wr w.heap.size #[.int .i64 x, .int .i64 y, .slice a n c] ∧ Bl wr (w.heap.size + 1) #[.int .i64 x, .int .i64 y, .slice a' n c'] ∧ Ext w wr) (fun iv _ => n - (intOf iv).toNat)
    case atStart => exact ⟨0, by omega, rfl, HJ0, bs, bt, HE⟩
    case round =>
      clear HJ0 bs bt HE
      obtain ⟨j, hj, rfl, HJ, bs, bt, HE⟩ := hrel
      by_cases hlt : j < n
      · have hlt0 := hlt
        obtain ⟨g, off, rfl, hc⟩ := (H.out.ext HE).at (by omega)
        obtain ⟨g', off', rfl, hc'⟩ := (H'.out.ext HE).at (by omega)
        have h0 := hc j (by rw [HL.out]; exact hlt)
        have k0 := hc' j (by rw [HL'.out]; exact hlt)
        clear hc hc'
        generalize hp : l[j]'(by rw [HL.out]; exact hlt) = p at *
        generalize hq : l'[j]'(by rw [HL'.out]; exact hlt) = q at *
        have HP := hidP hp; have HQ := hidP hq
        clear hp hq
        by_cases hpq : p = q
        · have HS := hidP (take_same HJ.out (by rw [HL.out]; exact hlt) (by rw [HL'.out]; exact hlt) (by rw [HP.out, HQ.out, hpq]))
          subst hpq
          clear HP HQ
          go_wp2_with fail
          refine wp_region_plan (R := Ext) (.q 0 (.q 1 (.q 2 (.q 3 (.q 4 (.q 5 (.q 6 (.q 7 (.q 8 (.q 9 (.q 10 .done))))))))))) (by kernel_rfl) (by kernel_rfl) (by kernel_rfl) (by kernel_rfl) Ext.refl (fun _ _ _ => Ext.trans) ?_
          refine absE (fun x1 hx1 => ?_)
          have hx : Ext wr x1 := by rw [hx1]; exact (Ext.refl _).drew
          replace bs := Bl.ext hx bs (Nat.succ_pos _)
          replace bt := Bl.ext hx bt (Nat.succ_pos _)
          replace h0 := hx.cell' h0
          replace k0 := hx.cell' k0
          replace HE := HE.trans hx
          clear hx
          clear hx1
          repeat (refine wpE_q (v := ?_) rfl rfl (fun u hu => ?_) ?_; rotate_left 1; (focus (have ks := Bl.ext hu bs (Nat.succ_pos _); have kt := Bl.ext hu bt (Nat.succ_pos _); have kh0 := hu.cell' h0; have kk0 := hu.cell' k0; go_simp; (try rfl))); simp only [Act.put, List.setIfInBounds_toArray, List.set_cons_zero, List.set_cons_succ])
          refine wpE_done ?_
          go_wp2_with fail
          go_roundw
          case rel => exact ⟨j + 1, by omega, by go_num, HS, bs, bt, HE⟩
          case measure => simp only [intOf]; omega
        · have HR : Hid (decide (l = l') = false) := hidP (decide_eq_false (fun h => hpq (by rw [← HP.out, ← HQ.out]; simp only [h])))
          have hpq2 : (p == q) = false := by simpa using hpq
          clear HP HQ hpq
          go_wp2_with fail
          refine wp_region_plan (R := Ext) (.q 0 (.q 1 (.q 2 (.q 3 (.q 4 (.q 5 (.q 6 (.q 7 (.q 8 (.q 9 (.q 10 .done))))))))))) (by kernel_rfl) (by kernel_rfl) (by kernel_rfl) (by kernel_rfl) Ext.refl (fun _ _ _ => Ext.trans) ?_
          refine absE (fun x1 hx1 => ?_)
          have hx : Ext wr x1 := by rw [hx1]; exact (Ext.refl _).drew
          replace bs := Bl.ext hx bs (Nat.succ_pos _)
          replace bt := Bl.ext hx bt (Nat.succ_pos _)
          replace h0 := hx.cell' h0
          replace k0 := hx.cell' k0
          replace HE := HE.trans hx
          clear hx
          clear hx1
          repeat (refine wpE_q (v := ?_) rfl rfl (fun u hu => ?_) ?_; rotate_left 1; (focus (have ks := Bl.ext hu bs (Nat.succ_pos _); have kt := Bl.ext hu bt (Nat.succ_pos _); have kh0 := hu.cell' h0; have kk0 := hu.cell' k0; go_simp; (try rfl))); simp only [Act.put, List.setIfInBounds_toArray, List.set_cons_zero, List.set_cons_succ])
          refine wpE_done ?_
          go_wp2_with fail
          go_ret
          exact ⟨by rw [HR.out]; rfl, HE⟩
      · obtain rfl : j = n := by omega
        have HR : Hid (decide (l = l') = true) := hidP (decide_eq_true (same_take HJ.out HL.out HL'.out))
        go_wp2_with fail
        go_ret
        exact ⟨by rw [HR.out]; rfl, HE⟩
  · have HR : Hid (decide (x = x' ∧ y = y' ∧ l = l') = false) := hidP (decide_eq_false (fun h2 => hd ⟨h2.1, h2.2.1, by rw [← HL.out, ← HL'.out, h2.2.2]⟩))
    clear h h' HL HL'
    generalize decide (x = x' ∧ y = y' ∧ l = l') = rr at *
    have hcs : x ≠ x' ∨ (x = x' ∧ y ≠ y') ∨ (x = x' ∧ y = y' ∧ n ≠ n') := by omega
    clear hd
    rcases hcs with h1 | ⟨h0, h1⟩ | ⟨h0, h1, h2⟩
    · have hb : (x == x') = false := by simpa using h1
      go_enter Try.func38, Try.ntmps38
      go_wp2_with fail
      go_ret
      exact ⟨by rw [HR.out]; rfl, ((Ext.refl _).alloc _).alloc _⟩
    · subst h0
      have hb : (y == y') = false := by simpa using h1
      go_enter Try.func38, Try.ntmps38
      go_wp2_with fail
      go_ret
      exact ⟨by rw [HR.out]; rfl, ((Ext.refl _).alloc _).alloc _⟩
    · subst h0; subst h1
      have hb : ((n : Int) == (n' : Int)) = false := by simp; omega
      go_enter Try.func38, Try.ntmps38
      go_wp2_with fail
      go_ret
      exact ⟨by rw [HR.out]; rfl, ((Ext.refl _).alloc _).alloc _⟩

/-- How many are in. -/
def countB (x y : Int) (n : Nat) (l : List Bool) : Nat := if mayR x y n = true then l.count true else 0

set_option maxRecDepth 100000 in
set_option maxHeartbeats 4000000 in
theorem c_Count (x y : Int) (a : Option Addr) (n c : Nat) (l : List Bool) (w : World) (h : SlB w a n c l) :
    Calls Try.prog 53 #[rst x y a n c] w fun e w' => e = .returned (.int .i64 (countB x y n l : Int)) ∧ Ext w w' := by
  have HL := hidP h.len
  have H := hidP h
  have hcap : n ≤ maxLen := Nat.le_trans h.2.1 h.2.2.1
  unfold maxLen at hcap
  clear h
  have HM := hidP (fun u => c_May x y a n c u)
  have HJ0 : Hid (((l.take 0).count true : Nat) = 0) := hidP (by simp)
  cases hm : mayR x y n
  · have HR : Hid (countB x y n l = 0) := hidP (if_neg (by rw [hm]; decide))
    rw [hm] at HM
    clear hm
    generalize countB x y n l = rr at *
    go_enter Try.func53, Try.ntmps53
    go_wp2_with fail
    refine absC (fun x1 hx1 => ?_)
    have hx : Ext w x1 := by rw [hx1]; exact ((Ext.refl _).alloc _)
    have bp : Bl x1 (w.heap.size) #[.int .i64 x, .int .i64 y, .slice a n c] := by rw [hx1]; exact (Bl.new (by simp))
    have HE := hx
    clear hx
    clear hx1
    refine (HM.out _).mono ?_
    rintro e u1 ⟨rfl, hx⟩
    replace bp := Bl.ext hx bp (Nat.succ_pos _)
    replace HE := HE.trans hx
    clear hx
    go_wp2_with fail
    go_ret
    exact ⟨by rw [HR.out]; rfl, HE⟩
  · have HR : Hid (countB x y n l = l.count true) := hidP (if_pos hm)
    rw [hm] at HM
    clear hm
    generalize countB x y n l = rr at *
    go_enter Try.func53, Try.ntmps53
    go_wp2_with fail
    refine absC (fun x1 hx1 => ?_)
    have hx : Ext w x1 := by rw [hx1]; exact ((Ext.refl _).alloc _)
    have bp : Bl x1 (w.heap.size) #[.int .i64 x, .int .i64 y, .slice a n c] := by rw [hx1]; exact (Bl.new (by simp))
    have HE := hx
    clear hx
    clear hx1
    refine (HM.out _).mono ?_
    rintro e u1 ⟨rfl, hx⟩
    replace bp := Bl.ext hx bp (Nat.succ_pos _)
    replace HE := HE.trans hx
    clear hx
    go_wp2_with fail
    go_loopw [3, 12] (fun cv iv wr => ∃ (j k : Nat), j ≤ n ∧ k ≤ j ∧ iv = .int .i64 (j : Int) ∧ cv = .int .i64 (k : Int) ∧ Hid ((l.take j).count true = k) ∧ Bl wr w.heap.size #[.int .i64 x, .int .i64 y, .slice a n c] ∧ Ext w wr) (fun _ iv _ => n - (intOf iv).toNat)
    case atStart => exact ⟨0, 0, by omega, by omega, rfl, rfl, HJ0, bp, HE⟩
    case round =>
      clear HJ0 bp HE
      obtain ⟨j, k, hj, hkj, rfl, rfl, HJ, bp, HE⟩ := hrel
      by_cases hlt : j < n
      · have hlt0 := hlt
        obtain ⟨g, off, rfl, hc⟩ := (H.out.ext HE).at (by omega)
        have h0 := hc j (by rw [HL.out]; exact hlt)
        have hs : (l.take (j + 1)).count true = k + (if l[j]'(by rw [HL.out]; exact hlt) = true then 1 else 0) := by
          rw [List.take_succ_eq_append_getElem (by rw [HL.out]; exact hlt), List.count_append, HJ.out]
          congr 1
          cases l[j]'(by rw [HL.out]; exact hlt) <;> rfl
        clear hc
        generalize l[j]'(by rw [HL.out]; exact hlt) = q at *
        cases q
        · have HS : Hid ((l.take (j + 1)).count true = k) := hidP (by rw [hs]; rfl)
          clear hs HJ
          go_wp2_with fail
          go_roundw
          case rel => exact ⟨j + 1, k, by omega, by omega, by go_num, rfl, HS, bp, HE⟩
          case measure => simp only [intOf]; omega
        · have HS : Hid ((l.take (j + 1)).count true = k + 1) := hidP (by rw [hs]; rfl)
          clear hs HJ
          go_wp2_with fail
          go_roundw
          case rel => exact ⟨j + 1, k + 1, by omega, by omega, by go_num, by go_num, HS, bp, HE⟩
          case measure => simp only [intOf]; omega
      · obtain rfl : j = n := by omega
        rw [List.take_of_length_le (by rw [HL.out]; omega)] at HJ
        go_wp2_with fail
        go_ret
        exact ⟨by rw [HR.out, HJ.out]; rfl, HE⟩

set_option maxRecDepth 100000 in
set_option maxHeartbeats 4000000 in
theorem e_Count (x y : Int) (a : Option Addr) (n c : Nat) (l : List Bool) (w : World) (h : SlB w a n c l) :
    Calls Try.prog 54 #[rst x y a n c] w fun e w' => e = .returned (.int .i64 (countB x y n l : Int)) ∧ Ext w w' := by
  have HL := hidP h.len
  have H := hidP h
  have hcap : n ≤ maxLen := Nat.le_trans h.2.1 h.2.2.1
  unfold maxLen at hcap
  clear h
  have HM := hidP (fun u => e_May x y a n c u)
  have HJ0 : Hid (((l.take 0).count true : Nat) = 0) := hidP (by simp)
  cases hm : mayR x y n
  · have HR : Hid (countB x y n l = 0) := hidP (if_neg (by rw [hm]; decide))
    rw [hm] at HM
    clear hm
    generalize countB x y n l = rr at *
    by_cases hn0 : 0 < n
    · go_enter Try.func54, Try.ntmps54
      go_wp2_with fail
      refine absW (fun x1 hx1 => ?_)
      have hx : Ext w x1 := by rw [hx1]; exact ((Ext.refl _).alloc _)
      have bp : Bl x1 (w.heap.size) #[.int .i64 x, .int .i64 y, .slice a n c] := by rw [hx1]; exact (Bl.new (by simp))
      have HE := hx
      clear hx hx1
      go_loopw [3, 4] (fun cv iv wr => cv = .int .i64 0 ∧ iv = .int .i64 0 ∧ Bl wr w.heap.size #[.int .i64 x, .int .i64 y, .slice a n c] ∧ Ext w wr) (fun _ iv _ => n - (intOf iv).toNat)
      case atStart => exact ⟨rfl, rfl, bp, HE⟩
      case round =>
        clear bp HE
        obtain ⟨rfl, rfl, bp, HE⟩ := hrel
        go_wp2_with fail
        refine (HM.out _).mono ?_
        rintro e u1 ⟨rfl, hx⟩
        replace bp := Bl.ext hx bp (Nat.succ_pos _)
        replace HE := HE.trans hx
        clear hx
        go_wp2_with fail
        go_ret
        exact ⟨by rw [HR.out]; rfl, HE⟩
    · obtain rfl : n = 0 := by omega
      go_enter Try.func54, Try.ntmps54
      go_wp2_with fail
      refine absW (fun x1 hx1 => ?_)
      have hx : Ext w x1 := by rw [hx1]; exact ((Ext.refl _).alloc _)
      have bp : Bl x1 (w.heap.size) #[.int .i64 x, .int .i64 y, .slice a 0 c] := by rw [hx1]; exact (Bl.new (by simp))
      have HE := hx
      clear hx hx1
      go_loopw [3, 4] (fun cv iv wr => cv = .int .i64 0 ∧ iv = .int .i64 0 ∧ Bl wr w.heap.size #[.int .i64 x, .int .i64 y, .slice a 0 c] ∧ Ext w wr) (fun _ iv _ => 0 - (intOf iv).toNat)
      case atStart => exact ⟨rfl, rfl, bp, HE⟩
      case round =>
        clear bp HE
        obtain ⟨rfl, rfl, bp, HE⟩ := hrel
        go_wp2_with fail
        go_ret
        exact ⟨by rw [HR.out]; rfl, HE⟩
  · have HR : Hid (countB x y n l = l.count true) := hidP (if_pos hm)
    rw [hm] at HM
    clear hm
    generalize countB x y n l = rr at *
    go_enter Try.func54, Try.ntmps54
    go_wp2_with fail
    refine absW (fun x1 hx1 => ?_)
    have hx : Ext w x1 := by rw [hx1]; exact ((Ext.refl _).alloc _)
    have bp : Bl x1 (w.heap.size) #[.int .i64 x, .int .i64 y, .slice a n c] := by rw [hx1]; exact (Bl.new (by simp))
    have HE := hx
    clear hx hx1
    go_loopw [3, 4] (fun cv iv wr => ∃ (j k : Nat), j ≤ n ∧ k ≤ j ∧ iv = .int .i64 (j : Int) ∧ cv = .int .i64 (k : Int) ∧ Hid ((l.take j).count true = k) ∧ Bl wr w.heap.size #[.int .i64 x, .int .i64 y, .slice a n c] ∧ Ext w wr) (fun _ iv _ => n - (intOf iv).toNat)
    case atStart => exact ⟨0, 0, by omega, by omega, rfl, rfl, HJ0, bp, HE⟩
    case round =>
      clear HJ0 bp HE
      obtain ⟨j, k, hj, hkj, rfl, rfl, HJ, bp, HE⟩ := hrel
      by_cases hlt : j < n
      · have hlt0 := hlt
        obtain ⟨g, off, rfl, hc⟩ := (H.out.ext HE).at (by omega)
        have h0 := hc j (by rw [HL.out]; exact hlt)
        have hs : (l.take (j + 1)).count true = k + (if l[j]'(by rw [HL.out]; exact hlt) = true then 1 else 0) := by
          rw [List.take_succ_eq_append_getElem (by rw [HL.out]; exact hlt), List.count_append, HJ.out]
          congr 1
          cases l[j]'(by rw [HL.out]; exact hlt) <;> rfl
        clear hc
        generalize l[j]'(by rw [HL.out]; exact hlt) = q at *
        cases q
        · have HS : Hid ((l.take (j + 1)).count true = k) := hidP (by rw [hs]; rfl)
          clear hs HJ
          go_wp2_with fail
          refine (HM.out _).mono ?_
          rintro e u1 ⟨rfl, hx⟩
          replace bp := Bl.ext hx bp (Nat.succ_pos _)
          replace h0 := hx.cell' h0
          replace HE := HE.trans hx
          clear hx
          go_wp2_with fail
          go_roundw
          case rel => exact ⟨j + 1, k, by omega, by omega, by go_num, rfl, HS, bp, HE⟩
          case measure => simp only [intOf]; omega
        · have HS : Hid ((l.take (j + 1)).count true = k + 1) := hidP (by rw [hs]; rfl)
          clear hs HJ
          go_wp2_with fail
          refine (HM.out _).mono ?_
          rintro e u1 ⟨rfl, hx⟩
          replace bp := Bl.ext hx bp (Nat.succ_pos _)
          replace h0 := hx.cell' h0
          replace HE := HE.trans hx
          clear hx
          go_wp2_with fail
          go_roundw
          case rel => exact ⟨j + 1, k + 1, by omega, by omega, by go_num, by go_num, HS, bp, HE⟩
          case measure => simp only [intOf]; omega
      · obtain rfl : j = n := by omega
        rw [List.take_of_length_le (by rw [HL.out]; omega)] at HJ
        go_wp2_with fail
        go_ret
        exact ⟨by rw [HR.out, HJ.out]; rfl, HE⟩

end Go.Proofs.Ytogcmnagiepofaa
