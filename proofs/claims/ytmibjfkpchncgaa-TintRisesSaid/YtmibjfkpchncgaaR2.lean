/- Rasters: sameness, cells. -/
import Derived.Test.YtmibjfkpchncgaaR1
import Derived.Test.YtmibjfkpchncgaaM5
import Derived.Deep.DeepCutAuto
namespace Go.Proofs.Ytmibjfkpchncgaa
set_option linter.unusedVariables false
open Go Go.RowKit

theorem take_same {α : Type} {l l' : List α} {j : Nat} (h : l.take j = l'.take j) (hj : j < l.length) (hj' : j < l'.length) (he : l[j] = l'[j]) : l.take (j + 1) = l'.take (j + 1) := by
  rw [List.take_succ_eq_append_getElem hj, List.take_succ_eq_append_getElem hj', h, he]
theorem same_take {α : Type} {l l' : List α} {n : Nat} (h : l.take n = l'.take n) (hn : l.length = n) (hn' : l'.length = n) : l = l' := by
  rwa [List.take_of_length_le (by omega), List.take_of_length_le (by omega)] at h
theorem ite4 {P0 P1 P2 P3 : Prop} [Decidable P0] [Decidable P1] [Decidable P2] [Decidable P3] {α : Type} {x y : α} (h : ¬ (P0 ∧ P1 ∧ P2 ∧ P3)) : (if P0 then if P1 then if P2 then if P3 then x else y else y else y else y) = y := by
  by_cases h0 : P0
  · rw [if_pos h0]
    by_cases h1 : P1
    · rw [if_pos h1]
      by_cases h2 : P2
      · rw [if_pos h2, if_neg (fun h3 => h ⟨h0, h1, h2, h3⟩)]
      · rw [if_neg h2]
    · rw [if_neg h1]
  · rw [if_neg h0]
theorem col_eq {p q : Col} (h0 : p.1 = q.1) (h1 : p.2.1 = q.2.1) (h2 : p.2.2.1 = q.2.2.1) (h3 : p.2.2.2 = q.2.2.2) : p = q := by
  obtain ⟨a, b, c, d⟩ := p
  obtain ⟨a', b', c', d'⟩ := q
  simp only at *
  subst h0; subst h1; subst h2; subst h3; rfl

set_option maxRecDepth 100000 in
set_option maxHeartbeats 4000000 in
theorem d_SameR (x y x' y' : Int) (a a' : Option Addr) (n c n' c' : Nat) (l l' : List Col) (w : World) (h : SlC w a n c l) (h' : SlC w a' n' c' l') :
    Calls Try.prog 16 #[rst x y a n c, rst x' y' a' n' c'] w fun e w' => e = .returned (.bool (decide (x = x' ∧ y = y' ∧ l = l'))) ∧ Ext w w' := by
  have HL := hidP h.len; have HL' := hidP h'.len
  have hcap : n ≤ maxLen := Nat.le_trans h.2.1 h.2.2.1
  unfold maxLen at hcap
  by_cases hd : x = x' ∧ y = y' ∧ n = n'
  · obtain ⟨rfl, rfl, rfl⟩ := hd
    have H := hidP h; have H' := hidP h'
    have HJ0 : Hid (l.take 0 = l'.take 0) := hidP (by simp)
    have e0 : decide (x = x ∧ y = y ∧ l = l') = decide (l = l') := by simp
    rw [e0]
    clear h h' e0
    go_enter Try.func16, Try.ntmps16
    go_wp2_with fail
    refine absW (fun x1 hx1 => ?_)
    have hx : Ext w x1 := by rw [hx1]; exact (((Ext.refl _).alloc _).alloc _)
    have bs : Bl x1 (w.heap.size) #[.int .i64 x, .int .i64 y, .slice a n c] := by rw [hx1]; exact ((Bl.new (by simp)).alloc (by simp))
    have bt : Bl x1 (w.heap.size + 1) #[.int .i64 x, .int .i64 y, .slice a' n c'] := by rw [hx1]; exact (Bl.new (by simp))
    have HE := hx
    clear hx
    clear hx1
    go_loopw [5] (fun iv wr => ∃ j : Nat, j ≤ n ∧ iv = .int .i64 (j : Int) ∧ Hid (l.take j = l'.take j) ∧ Bl wr w.heap.size #[.int .i64 x, .int .i64 y, .slice a n c] ∧ Bl wr (w.heap.size + 1) #[.int .i64 x, .int .i64 y, .slice a' n c'] ∧ Ext w wr) (fun iv _ => n - (intOf iv).toNat)
    case atStart => exact ⟨0, by omega, rfl, HJ0, bs, bt, HE⟩
    case round =>
      clear HJ0 bs bt HE
      obtain ⟨j, hj, rfl, HJ, bs, bt, HE⟩ := hrel
      by_cases hlt : j < n
      · have hlt0 := hlt
        obtain ⟨g, off, rfl, hc⟩ := (H.out.ext HE).at (by omega)
        obtain ⟨g', off', rfl, hc'⟩ := (H'.out.ext HE).at (by omega)
        obtain ⟨h0, h1, h2, h3⟩ := hc j (by rw [HL.out]; exact hlt)
        obtain ⟨k0, k1, k2, k3⟩ := hc' j (by rw [HL'.out]; exact hlt)
        clear hc hc'
        generalize hp : l[j]'(by rw [HL.out]; exact hlt) = p at *
        generalize hq : l'[j]'(by rw [HL'.out]; exact hlt) = q at *
        obtain ⟨p0, p1, p2, p3⟩ := p
        obtain ⟨q0, q1, q2, q3⟩ := q
        have HP := hidP hp; have HQ := hidP hq
        clear hp hq
        simp only [] at h0 h1 h2 h3 k0 k1 k2 k3
        by_cases hpq : (p0, p1, p2, p3) = (q0, q1, q2, q3)
        · have HS := hidP (take_same HJ.out (by rw [HL.out]; exact hlt) (by rw [HL'.out]; exact hlt) (by rw [HP.out, HQ.out, hpq]))
          injection hpq with e0 e1
          injection e1 with e1 e2
          injection e2 with e2 e3
          subst e0; subst e1; subst e2; subst e3
          clear HP HQ
          go_wp2_with fail
          refine wp_region_plan (R := Ext) (.q 0 (.q 1 (.q 2 (.q 3 (.q 4 (.q 5 (.q 6 (.q 7 (.q 8 (.q 9 (.q 10 .done))))))))))) (by kernel_rfl) (by kernel_rfl) (by kernel_rfl) (by kernel_rfl) Ext.refl (fun _ _ _ => Ext.trans) ?_
          refine absE (fun x1 hx1 => ?_)
          have hx : Ext wr x1 := by rw [hx1]; exact (Ext.refl _).drew
          replace bs := Bl.ext hx bs (Nat.succ_pos _)
          replace bt := Bl.ext hx bt (Nat.succ_pos _)
          replace h0 := hx.cell' h0
          replace h1 := hx.cell' h1
          replace h2 := hx.cell' h2
          replace h3 := hx.cell' h3
          replace k0 := hx.cell' k0
          replace k1 := hx.cell' k1
          replace k2 := hx.cell' k2
          replace k3 := hx.cell' k3
          replace HE := HE.trans hx
          clear hx
          clear hx1
          repeat (refine wpE_q (v := ?_) rfl rfl (fun u hu => ?_) ?_; rotate_left 1; (focus (have ks := Bl.ext hu bs (Nat.succ_pos _); have kt := Bl.ext hu bt (Nat.succ_pos _); have kh0 := hu.cell' h0; have kh1 := hu.cell' h1; have kh2 := hu.cell' h2; have kh3 := hu.cell' h3; have kk0 := hu.cell' k0; have kk1 := hu.cell' k1; have kk2 := hu.cell' k2; have kk3 := hu.cell' k3; go_simp; (try rfl))); simp only [Act.put, List.setIfInBounds_toArray, List.set_cons_zero, List.set_cons_succ])
          refine wpE_done ?_
          go_wp2_with fail
          go_roundw
          case rel => exact ⟨j + 1, by omega, by go_num, HS, bs, bt, HE⟩
          case measure => simp only [intOf]; omega
        · have HR : Hid (decide (l = l') = false) := hidP (decide_eq_false (fun h => hpq (by rw [← HP.out, ← HQ.out]; simp only [h])))
          have hqp : ¬ ((p0 : Int) = (q0 : Int) ∧ (p1 : Int) = (q1 : Int) ∧ (p2 : Int) = (q2 : Int) ∧ (p3 : Int) = (q3 : Int)) := fun h => hpq (by
            obtain ⟨e0, e1, e2, e3⟩ := h
            rw [Int.ofNat.inj e0, Int.ofNat.inj e1, Int.ofNat.inj e2, Int.ofNat.inj e3])
          clear HP HQ hpq
          have HQP := hidP hqp
          clear hqp
          go_wp2_with fail
          refine wp_region_plan (R := Ext) (.q 0 (.q 1 (.q 2 (.q 3 (.q 4 (.q 5 (.q 6 (.q 7 (.q 8 (.q 9 (.q 10 .done))))))))))) (by kernel_rfl) (by kernel_rfl) (by kernel_rfl) (by kernel_rfl) Ext.refl (fun _ _ _ => Ext.trans) ?_
          refine absE (fun x1 hx1 => ?_)
          have hx : Ext wr x1 := by rw [hx1]; exact (Ext.refl _).drew
          replace bs := Bl.ext hx bs (Nat.succ_pos _)
          replace bt := Bl.ext hx bt (Nat.succ_pos _)
          replace h0 := hx.cell' h0
          replace h1 := hx.cell' h1
          replace h2 := hx.cell' h2
          replace h3 := hx.cell' h3
          replace k0 := hx.cell' k0
          replace k1 := hx.cell' k1
          replace k2 := hx.cell' k2
          replace k3 := hx.cell' k3
          replace HE := HE.trans hx
          clear hx
          clear hx1
          repeat (refine wpE_q (v := ?_) rfl rfl (fun u hu => ?_) ?_; rotate_left 1; (focus (have ks := Bl.ext hu bs (Nat.succ_pos _); have kt := Bl.ext hu bt (Nat.succ_pos _); have kh0 := hu.cell' h0; have kh1 := hu.cell' h1; have kh2 := hu.cell' h2; have kh3 := hu.cell' h3; have kk0 := hu.cell' k0; have kk1 := hu.cell' k1; have kk2 := hu.cell' k2; have kk3 := hu.cell' k3; go_simp; (first | rfl | exact ite4 HQP.out | skip))); simp only [Act.put, List.setIfInBounds_toArray, List.set_cons_zero, List.set_cons_succ])
          refine wpE_done ?_
          go_wp2_with fail
          go_ret
          exact ⟨by rw [HR.out]; rfl, HE⟩
      · obtain rfl : j = n := by omega
        have HR : Hid (decide (l = l') = true) := hidP (decide_eq_true (same_take HJ.out HL.out HL'.out))
        go_wp2_with fail
        go_ret
        exact ⟨by rw [HR.out]; rfl, HE⟩
  · have HR : Hid (decide (x = x' ∧ y = y' ∧ l = l') = false) := hidP (decide_eq_false (fun h2 => hd ⟨h2.1, h2.2.1, by rw [← HL.out, ← HL'.out, h2.2.2]⟩))
    clear h h' HL HL'
    generalize decide (x = x' ∧ y = y' ∧ l = l') = rr at *
    have hcs : x ≠ x' ∨ (x = x' ∧ y ≠ y') ∨ (x = x' ∧ y = y' ∧ n ≠ n') := by omega
    clear hd
    rcases hcs with h1 | ⟨h0, h1⟩ | ⟨h0, h1, h2⟩
    · have hb : (x == x') = false := by simpa using h1
      go_enter Try.func16, Try.ntmps16
      go_wp2_with fail
      go_ret
      exact ⟨by rw [HR.out]; rfl, ((Ext.refl _).alloc _).alloc _⟩
    · subst h0
      have hb : (y == y') = false := by simpa using h1
      go_enter Try.func16, Try.ntmps16
      go_wp2_with fail
      go_ret
      exact ⟨by rw [HR.out]; rfl, ((Ext.refl _).alloc _).alloc _⟩
    · subst h0; subst h1
      have hb : ((n : Int) == (n' : Int)) = false := by simp; omega
      go_enter Try.func16, Try.ntmps16
      go_wp2_with fail
      go_ret
      exact ⟨by rw [HR.out]; rfl, ((Ext.refl _).alloc _).alloc _⟩

end Go.Proofs.Ytmibjfkpchncgaa
