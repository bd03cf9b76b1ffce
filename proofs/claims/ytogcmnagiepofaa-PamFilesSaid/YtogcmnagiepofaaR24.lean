/- Rasters: there and back: its walk. -/
import Derived.Test.YtogcmnagiepofaaR23
namespace Go.Proofs.Ytogcmnagiepofaa
set_option linter.unusedVariables false
set_option linter.unusedSimpArgs false
open Go Go.RowKit

theorem colOf_colB : ∀ l : List Col, colOf (colB l) = l
  | [] => rfl
  | (a, b, c, d) :: l => by
    show (a, b, c, d) :: colOf (colB l) = _
    rw [colOf_colB l]
theorem colB_colOf : ∀ (N : Nat) (l : List Nat), l.length = 4 * N → colB (colOf l) = l
  | 0, l, h => by
    obtain rfl : l = [] := by simpa using h
    rfl
  | N + 1, a :: b :: c :: d :: r, h => by
    show [a, b, c, d] ++ colB (colOf r) = _
    rw [colB_colOf N r (by simp only [List.length_cons] at h; omega)]
    rfl
  | N + 1, [], h => by simp at h
  | N + 1, [_], h => by simp at h; omega
  | N + 1, [_, _], h => by simp at h; omega
  | N + 1, [_, _, _], h => by simp at h; omega
theorem heads_same {l : List Nat} {p q p' q' : Int} (h : Heads l p q) (h' : Heads l p' q') : p = p' ∧ q = q' := by
  obtain ⟨r1, r2, t, rfl, h1, h2, e1, e2⟩ := heads_parts h
  obtain ⟨g1, g2⟩ := only h1 h2 h'
  rw [e1] at g1
  rw [e2] at g2
  exact ⟨g1.symm, g2.symm⟩
theorem own_file {x y : Int} {l : List Col} {n : Nat} (hm : mayR x y n = true) (hl : l.length = n) {p q : Int} {rest : List Nat} (h : Heads (natsOf (headS x y) ++ colB l) p q) (e : natsOf (headS x y) ++ colB l = natsOf (headS p q) ++ rest) : verdict p q rest = ((x, y, l), 0) := by
  obtain ⟨m1, m2, m3, m4, m5⟩ := of_decide_eq_true hm
  obtain ⟨rfl, rfl⟩ := heads_same (⟨m1, m2, m3, m4, List.prefix_append _ _⟩ : Heads (natsOf (headS x y) ++ colB l) x y) h
  have e2 := List.append_cancel_left e
  subst e2
  have hc := colB_len l
  have h4 : ((colB l).length : Int) = 4 * x * y := by rw [hc, hl, Int.mul_assoc, ← m5]; push_cast; omega
  unfold verdict
  rw [if_neg (by omega), if_neg (by omega), colOf_colB]
theorem read_back {p q : Int} {rest m : List Nat} (h : Heads m p q) (e : m = natsOf (headS p q) ++ rest) (h0 : (verdict p q rest).2 = 0) : wrL (verdict p q rest).1.1 (verdict p q rest).1.2.1 (verdict p q rest).1.2.2.length (verdict p q rest).1.2.2 = some m := by
  obtain ⟨m1, m2, m3, m4, _⟩ := h
  unfold verdict at h0 ⊢
  by_cases c1 : (rest.length : Int) < 4 * p * q
  · rw [if_pos c1] at h0
    exact absurd h0 (by decide)
  rw [if_neg c1] at h0 ⊢
  by_cases c2 : 4 * p * q < (rest.length : Int)
  · rw [if_pos c2] at h0
    exact absurd h0 (by decide)
  rw [if_neg c2] at h0 ⊢
  obtain ⟨P, rfl⟩ : ∃ P : Nat, p = (P : Int) := ⟨p.toNat, by omega⟩
  obtain ⟨Q, rfl⟩ : ∃ Q : Nat, q = (Q : Int) := ⟨q.toNat, by omega⟩
  obtain ⟨N, hN⟩ : ∃ N : Nat, N = P * Q := ⟨_, rfl⟩
  have hNi : (P : Int) * (Q : Int) = (N : Int) := by rw [hN]; simp
  rw [Int.mul_assoc, hNi] at c1 c2
  have hl : rest.length = 4 * N := by omega
  have hm : mayR P Q (colOf rest).length = true := decide_eq_true ⟨m1, m2, m3, m4, by rw [colOf_len N rest hl, hNi]⟩
  show wrL P Q (colOf rest).length (colOf rest) = some m
  unfold wrL
  rw [if_pos hm, colB_colOf N rest hl, e]
theorem colB_le {l : List Col} (h : ∀ p ∈ l, p.1 ≤ 255 ∧ p.2.1 ≤ 255 ∧ p.2.2.1 ≤ 255 ∧ p.2.2.2 ≤ 255) : ∀ x ∈ colB l, x ≤ 255 := by
  intro x hx
  unfold colB at hx
  rw [List.mem_flatMap] at hx
  obtain ⟨p, hp, hx⟩ := hx
  obtain ⟨h1, h2, h3, h4⟩ := h p hp
  simp at hx
  rcases hx with rfl | rfl | rfl | rfl <;> assumption
/-- What was written is read. -/
theorem p_Read_own (x y : Int) (l : List Col) (m : Nat) (hm : mayR x y m = true) (hl : l.length = m) (hc : ∀ p ∈ l, p.1 ≤ 255 ∧ p.2.1 ≤ 255 ∧ p.2.2.1 ≤ 255 ∧ p.2.2.2 ≤ 255) (a : Option Addr) (n c : Nat) (w : World) (h : Sl w a n c (ints .u8 (natsOf (headS x y) ++ colB l))) :
    Calls Try.prog 73 #[.slice a n c] w (RetPix w ((x, y, l), 0)) := by
  have hcap : n ≤ maxLen := Nat.le_trans h.2.1 h.2.2.1
  unfold maxLen at hcap
  refine (p_Read a n c _ w h (fun x hx => by
    rw [List.mem_append] at hx
    rcases hx with hx | hx
    · exact natsOf_le _ x hx
    · exact colB_le hc x hx) (by omega)).mono ?_
  rintro e w' (⟨p, q, rest, h1, h2, h3⟩ | ⟨h1, h2⟩)
  · rw [own_file hm hl h1 h2] at h3
    exact h3
  · obtain ⟨m1, m2, m3, m4, m5⟩ := of_decide_eq_true hm
    exact absurd ⟨m1, m2, m3, m4, List.prefix_append _ _⟩ (h1 x y)
/-- What was read is written as it was. -/
theorem p_Read_back (a : Option Addr) (n c : Nat) (l : List Nat) (w : World) (h : Sl w a n c (ints .u8 l)) (hl : ∀ x ∈ l, x ≤ 255) :
    Calls Try.prog 73 #[.slice a n c] w fun e w' => ∃ (v0 v1 : Int) (v2 : List Col) (v3 : Int), RetPix w ((v0, v1, v2), v3) e w' ∧ (v3 = 0 → ∀ m, m = v2.length → wrL v0 v1 m v2 = some l) := by
  have hcap : n ≤ maxLen := Nat.le_trans h.2.1 h.2.2.1
  unfold maxLen at hcap
  refine (p_Read a n c _ w h hl (by omega)).mono ?_
  rintro e w' (⟨p, q, rest, h1, h2, h3⟩ | ⟨h1, h2⟩)
  · exact ⟨_, _, _, _, h3, fun h0 m hm => by rw [hm]; exact read_back h1 h2 h0⟩
  · exact ⟨0, 0, [], 3, h2, fun h0 => absurd h0 (by decide)⟩

set_option maxRecDepth 100000 in
set_option maxHeartbeats 8000000 in
theorem pamBack_any (x y : Int) (a : Option Addr) (n c : Nat) (l : List Col) (b : Option Addr) (i j : Nat) (m : List Nat) (w : World)
    (ix1 : -9223372036854775808 ≤ x) (ix2 : x ≤ 9223372036854775807) (iy1 : -9223372036854775808 ≤ y) (iy2 : y ≤ 9223372036854775807) (h : SlC w a n c l) (hl : ∀ p ∈ l, p.1 ≤ 255 ∧ p.2.1 ≤ 255 ∧ p.2.2.1 ≤ 255 ∧ p.2.2.2 ≤ 255)
    (h' : Sl w b i j (ints .u8 m)) (hm : ∀ x ∈ m, x ≤ 255) :
    Calls Try.prog 13 #[rst x y a n c, .slice b i j] w fun e w' => e = .returned (.bool true) ∧ Ext w w' := by
  have H := hidP h; have H' := hidP h'; have HM := hidP hm
  have A1 := hidP (fun (u : World) (t : SlC u a n c l) => p_Write x y a n c l u t)
  have A3 := hidP (fun (u : World) (t : Sl u b i j (ints .u8 m)) => p_Read_back b i j m u t hm)
  have S1 := hidP (fun (w : World) (x y : Int) (a a' : Option Addr) (n c n' c' : Nat) (l : List Col) (t : SlC w a n c l) (t' : SlC w a' n' c' l) => (by
    have := d_SameR x y x y a a' n c n' c' l l w t t'
    rw [show decide (x = x ∧ y = y ∧ l = l) = true by simp] at this
    exact this : Calls Try.prog 65 #[rst x y a n c, rst x y a' n' c'] w fun e w' => e = .returned (.bool true) ∧ Ext w w'))
  have HL := hidP h.len
  have HCL := hidP hl
  cases hmm : mayR x y n
  · have hw : wrL x y n l = none := by unfold wrL; rw [if_neg (by rw [hmm]; decide)]
    rw [hw] at A1
    clear hw hmm h h' hm hl ix1 ix2 iy1 iy2
    go_enter Try.func13, Try.ntmps13
    go_wp2_with fail
    refine absC (fun x1 hx1 => ?_)
    have hx : Ext w x1 := by rw [hx1]; exact ((Ext.refl _).alloc _)
    have bp : Bl x1 (w.heap.size) #[.int .i64 x, .int .i64 y, .slice a n c] := by rw [hx1]; exact (Bl.new (by simp))
    have HE := hx
    clear hx
    clear hx1
    refine (A1.out _ (H.out.ext HE)).mono ?_
    rintro e u1 ⟨rfl, hx⟩
    replace bp := Bl.ext hx bp (Nat.succ_pos _)
    replace HE := HE.trans hx
    clear hx
    go_wp2_with fail
    refine (A3.out _ (H'.out.ext HE)).mono ?_
    rintro e u3 ⟨v0, v1, v2, v3, ⟨a3, n3, c3, rfl, hs3, hx⟩, hback⟩
    replace bp := Bl.ext hx bp (Nat.succ_pos _)
    replace HE := HE.trans hx
    clear hx
    replace hs3 : SlC u3 a3 n3 c3 v2 := hs3
    go_upto_region 7 with fail
    refine absW (fun x2 hx2 => ?_)
    have hx : Ext u3 x2 := by rw [hx2]; exact ((Ext.refl _).alloc _)
    have be : Bl x2 (u3.heap.size) #[.int .i64 v0, .int .i64 v1, .slice a3 n3 c3] := by rw [hx2]; exact (Bl.new (by simp))
    replace bp := Bl.ext hx bp (Nat.succ_pos _)
    replace hs3 := hs3.ext hx
    replace HE := HE.trans hx
    clear hx
    clear hx2
    by_cases h0 : v3 = 0
    · subst h0
      have hwr := hback rfl n3 hs3.len.symm
      have A4 := hidP (fun (u : World) (t : SlC u a3 n3 c3 v2) => p_Write v0 v1 a3 n3 c3 v2 u t)
      rw [hwr] at A4
      clear hwr hback
      go_wp2_with fail
      refine (A4.out _ hs3).mono ?_
      rintro e u4 ⟨a4, n4, c4, rfl, hs4, hx⟩
      replace bp := Bl.ext hx bp (Nat.succ_pos _)
      replace be := Bl.ext hx be (Nat.succ_pos _)
      replace hs3 := hs3.ext hx
      replace HE := HE.trans hx
      clear hx
      have k1 := str_of hs4 HM.out
      have k2 := str_of (H'.out.ext HE) HM.out
      go_wp2_with fail
      refine (pam_lives _).mono ?_
      rintro e u5 ⟨rfl, hx⟩
      replace HE := HE.trans hx
      clear hx
      go_wp2_with fail
      go_ret
      exact ⟨rfl, HE⟩
    · go_wp2_with fail
      refine (pam_lives _).mono ?_
      rintro e u5 ⟨rfl, hx⟩
      replace HE := HE.trans hx
      clear hx
      go_wp2_with fail
      go_ret
      exact ⟨rfl, HE⟩
  · have hw : wrL x y n l = some (natsOf (headS x y) ++ colB l) := by unfold wrL; rw [if_pos hmm]
    rw [hw] at A1
    have A2 := hidP (fun (a2 : Option Addr) (n2 c2 : Nat) (u : World) t => p_Read_own x y l n hmm HL.out HCL.out a2 n2 c2 u t)
    generalize natsOf (headS x y) ++ colB l = L at *
    clear hw hmm h h' hm hl ix1 ix2 iy1 iy2
    go_enter Try.func13, Try.ntmps13
    go_wp2_with fail
    refine absC (fun x1 hx1 => ?_)
    have hx : Ext w x1 := by rw [hx1]; exact ((Ext.refl _).alloc _)
    have bp : Bl x1 (w.heap.size) #[.int .i64 x, .int .i64 y, .slice a n c] := by rw [hx1]; exact (Bl.new (by simp))
    have HE := hx
    clear hx
    clear hx1
    refine (A1.out _ (H.out.ext HE)).mono ?_
    rintro e u1 ⟨a1, n1, c1, rfl, hs1, hx⟩
    replace bp := Bl.ext hx bp (Nat.succ_pos _)
    replace HE := HE.trans hx
    clear hx
    go_wp2_with fail
    refine (A2.out _ _ _ _ hs1).mono ?_
    rintro e u2 ⟨a2, n2, c2, rfl, hs2, hx⟩
    replace bp := Bl.ext hx bp (Nat.succ_pos _)
    replace HE := HE.trans hx
    clear hx
    replace hs2 : SlC u2 a2 n2 c2 l := hs2
    go_upto_region 4 with fail
    refine absW (fun x2 hx2 => ?_)
    have hx : Ext u2 x2 := by rw [hx2]; exact ((Ext.refl _).alloc _)
    have bd : Bl x2 (u2.heap.size) #[.int .i64 x, .int .i64 y, .slice a2 n2 c2] := by rw [hx2]; exact (Bl.new (by simp))
    replace bp := Bl.ext hx bp (Nat.succ_pos _)
    replace hs2 := hs2.ext hx
    replace HE := HE.trans hx
    clear hx
    clear hx2
    go_wp2_with fail
    refine (S1.out _ x y _ _ _ _ _ _ _ hs2 (H.out.ext HE)).mono ?_
    rintro e u6 ⟨rfl, hx⟩
    replace bp := Bl.ext hx bp (Nat.succ_pos _)
    replace bd := Bl.ext hx bd (Nat.succ_pos _)
    replace hs2 := hs2.ext hx
    replace HE := HE.trans hx
    clear hx
    clear hs2 bd
    go_wp2_with fail
    refine (A3.out _ (H'.out.ext HE)).mono ?_
    rintro e u3 ⟨v0, v1, v2, v3, ⟨a3, n3, c3, rfl, hs3, hx⟩, hback⟩
    replace bp := Bl.ext hx bp (Nat.succ_pos _)
    replace HE := HE.trans hx
    clear hx
    replace hs3 : SlC u3 a3 n3 c3 v2 := hs3
    go_upto_region 7 with fail
    refine absW (fun x3 hx3 => ?_)
    have hx : Ext u3 x3 := by rw [hx3]; exact ((Ext.refl _).alloc _)
    have be : Bl x3 (u3.heap.size) #[.int .i64 v0, .int .i64 v1, .slice a3 n3 c3] := by rw [hx3]; exact (Bl.new (by simp))
    replace bp := Bl.ext hx bp (Nat.succ_pos _)
    replace hs3 := hs3.ext hx
    replace HE := HE.trans hx
    clear hx
    clear hx3
    by_cases h0 : v3 = 0
    · subst h0
      have hwr := hback rfl n3 hs3.len.symm
      have A4 := hidP (fun (u : World) (t : SlC u a3 n3 c3 v2) => p_Write v0 v1 a3 n3 c3 v2 u t)
      rw [hwr] at A4
      clear hwr hback
      go_wp2_with fail
      refine (A4.out _ hs3).mono ?_
      rintro e u4 ⟨a4, n4, c4, rfl, hs4, hx⟩
      replace bp := Bl.ext hx bp (Nat.succ_pos _)
      replace be := Bl.ext hx be (Nat.succ_pos _)
      replace hs3 := hs3.ext hx
      replace HE := HE.trans hx
      clear hx
      have k1 := str_of hs4 HM.out
      have k2 := str_of (H'.out.ext HE) HM.out
      go_wp2_with fail
      refine (pam_lives _).mono ?_
      rintro e u5 ⟨rfl, hx⟩
      replace HE := HE.trans hx
      clear hx
      go_wp2_with fail
      go_ret
      exact ⟨rfl, HE⟩
    · go_wp2_with fail
      refine (pam_lives _).mono ?_
      rintro e u5 ⟨rfl, hx⟩
      replace HE := HE.trans hx
      clear hx
      go_wp2_with fail
      go_ret
      exact ⟨rfl, HE⟩

end Go.Proofs.Ytogcmnagiepofaa
