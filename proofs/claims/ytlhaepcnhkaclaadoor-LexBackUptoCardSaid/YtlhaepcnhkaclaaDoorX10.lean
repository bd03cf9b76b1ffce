/- Lines: sameness, what lives, the law's walk. -/
import Derived.Test.YtlhaepcnhkaclaaDoorX9
import Derived.Deep.QuietTactic
import Derived.BigQuiet
namespace Go.Proofs.YtlhaepcnhkaclaaDoor
set_option linter.unusedVariables false
set_option linter.unusedSimpArgs false
open Go Go.RowKit

theorem SlSS.ext {w u : World} {a : Option Addr} {n c : Nat} {ll : List (List (List Nat))} (h : SlSS w a n c ll) (he : Ext w u) : SlSS u a n c ll := by
  obtain ⟨vs, h1, h2, h3⟩ := h
  refine ⟨vs, h1.ext he, h2, fun i hi => ?_⟩
  obtain ⟨a', n', c', h4, h5⟩ := h3 i hi
  exact ⟨a', n', c', h4, h5.ext he⟩
theorem SlSS.len {w : World} {a : Option Addr} {n c : Nat} {ll : List (List (List Nat))} (h : SlSS w a n c ll) : ll.length = n := by
  obtain ⟨vs, h1, h2, h3⟩ := h
  rw [← h2]; exact h1.1
/-- A row of rows, one of them: its cell, and what it holds. -/
theorem SlSS.at {w : World} {a : Option Addr} {n c : Nat} {ll : List (List (List Nat))} (h : SlSS w a n c ll) (i : Nat) (hi : i < n) : ∃ b off a' c', a = some ⟨b, off, none⟩ ∧ w.cell? ⟨b, off + i, none⟩ = some (.slice a' (ll[i]'(by rw [h.len]; exact hi)).length c') ∧ Sl w a' (ll[i]'(by rw [h.len]; exact hi)).length c' (strN (ll[i]'(by rw [h.len]; exact hi))) := by
  have hl := h.len
  obtain ⟨vs, h1, h2, h3⟩ := h
  obtain ⟨b, off, u, e, hu, hc⟩ := h1.cell_at i hi
  obtain ⟨a', n', c', h4, h5⟩ := h3 i (by omega)
  rw [h4] at hu
  cases hu
  have hn' : n' = (ll[i]'(by rw [hl]; exact hi)).length := by have := h5.1; rw [strN_len] at this; exact this.symm
  subst hn'
  exact ⟨b, off, a', c', e, hc, h5⟩
theorem strN_at {w : World} {a : Option Addr} {n c : Nat} {ps : List (List Nat)} (h : Sl w a n c (strN ps)) (i : Nat) (hi : i < n) : ∃ b off, a = some ⟨b, off, none⟩ ∧ w.cell? ⟨b, off + i, none⟩ = some (.string (bytesOf (ps.getD i []))) := by
  have hl : ps.length = n := by have := h.1; rwa [strN_len] at this
  obtain ⟨b, off, u, e, hu, hc⟩ := h.cell_at i hi
  refine ⟨b, off, e, ?_⟩
  rw [hc, ← hu]
  simp [strN, strs, List.getElem?_map, List.getElem?_eq_getElem (show i < ps.length by omega), List.getD_eq_getElem?_getD]

set_option maxRecDepth 100000 in
set_option maxHeartbeats 8000000 in
theorem d_Same6 (a a' : Option Addr) (n c n' c' : Nat) (ll : List (List (List Nat))) (w : World) (h : SlSS w a n c ll) (h' : SlSS w a' n' c' ll) (hb : n ≤ 9223372036854775807) :
    Calls Tryd.prog 8 #[.slice a n c, .slice a' n' c'] w fun e w' => e = .returned (.bool true) ∧ Ext w w' := by
  obtain rfl : n = n' := by rw [← h.len, ← h'.len]
  have H := hidP h; have H' := hidP h'
  have HLN := hidP h.len
  clear h h'
  go_enter Tryd.func8, Tryd.ntmps8
  go_wp2_with fail
  go_loopw [5] (fun iv wr => ∃ j : Nat, j ≤ n ∧ iv = .int .i64 (j : Int) ∧ Ext w wr) (fun iv _ => n - (intOf iv).toNat)
  case atStart => exact ⟨0, Nat.zero_le _, rfl, Ext.refl _⟩
  case round =>
    obtain ⟨j, hj, rfl, HE⟩ := hrel
    by_cases hlt : j < n
    · obtain ⟨b, off, a1, c1, rfl, h1, h2⟩ := (H.out.ext HE).at j hlt
      obtain ⟨b', off', a2, c2, rfl, h3, h4⟩ := (H'.out.ext HE).at j hlt
      have hlt0 := hlt
      generalize ll[j]'(by rw [HLN.out]; exact hlt) = ps at *
      have HS1 := hidP h2; have HS2 := hidP h4
      have hm1 := h2.2.1; have hm2 := h2.2.2.1
      unfold maxLen at hm2
      have hm3 : ps.length ≤ 9223372036854775807 := by omega
      clear h2 h4 hm1 hm2
      have hji : (j : Int) < (n : Int) := by omega
      generalize ps.length = m at *
      go_wp2_with fail
      go_quiet (fail)
      go_wp2_with fail
      refine absW (fun xo hxo => ?_)
      have hx : Ext wr xo := by rw [hxo]; first | exact (Ext.refl _).drewN _ | exact (Ext.refl _).drew | exact Ext.refl _
      clear hxo
      have HEO := HE.trans hx
      replace h1 := hx.cell' h1
      replace h3 := hx.cell' h3
      have HH1 := hidP (HS1.out.ext hx); have HH2 := hidP (HS2.out.ext hx)
      clear hx HE HS1 HS2
      go_loopw [6] (fun kv wi => ∃ k : Nat, k ≤ m ∧ kv = .int .i64 (k : Int) ∧ Ext xo wi) (fun kv _ => m - (intOf kv).toNat)
      case atStart => exact ⟨0, Nat.zero_le _, rfl, Ext.refl _⟩
      case round =>
        obtain ⟨k, hk, rfl, he⟩ := hrel
        replace h1 := he.cell' h1
        replace h3 := he.cell' h3
        by_cases hkl : k < m
        · obtain ⟨b1, o1, rfl, s1⟩ := strN_at (HH1.out.ext he) k hkl
          obtain ⟨b2, o2, rfl, s2⟩ := strN_at (HH2.out.ext he) k hkl
          generalize bytesOf (ps.getD k []) = s at *
          have hki : (k : Int) < (m : Int) := by omega
          have hkl0 := hkl
          go_wp2_with fail
          go_quiet (fail)
          go_wp2_with fail
          go_roundw
          case rel => exact ⟨k + 1, by omega, by go_num, by first | exact he.drewN _ | exact he.drew | exact he⟩
          case measure => simp only [intOf]; omega
        · obtain rfl : k = m := by omega
          go_wp2_with fail
          go_roundw
          case rel => exact ⟨j + 1, by omega, by go_num, HEO.trans he⟩
          case measure => simp only [intOf]; omega
    · obtain rfl : j = n := by omega
      go_wp2_with fail
      go_ret
      exact ⟨rfl, HE⟩

theorem live_lines : linesF (linesP [97, 32, 98, 99, 10]) [] = ([[[97], [98, 99]]], 0, 0) := by decide +kernel
theorem sl_lit5 (w : World) (e : TypeId) : Sl (w.alloc (.cells #[.int .u8 97, .int .u8 32, .int .u8 98, .int .u8 99, .int .u8 10] e)) (some ⟨w.heap.size, 0, none⟩) 5 5 (ints .u8 [97, 32, 98, 99, 10]) := by
  refine ⟨rfl, Nat.le_refl _, by unfold maxLen; omega, fun _ => ⟨_, 0, rfl, fun i u hu => ?_⟩⟩
  rw [Nat.zero_add, (Bl.new (w := w) (cs := #[.int .u8 97, .int .u8 32, .int .u8 98, .int .u8 99, .int .u8 10]) (e := e) rfl) i, ← hu]
  simp [ints]
set_option maxRecDepth 100000 in
set_option maxHeartbeats 8000000 in
theorem lex_lives (w : World) : Calls Tryd.prog 9 #[] w fun e w' => e = .returned (.bool true) ∧ Ext w w' := by
  have HL := hidP (fun (u : World) (g : Nat) (t : Sl u (some ⟨g, 0, none⟩) 5 5 (ints .u8 [97, 32, 98, 99, 10])) => (by
    have := x_Lines (some ⟨g, 0, none⟩) 5 5 [97, 32, 98, 99, 10] u t (by decide) (by omega)
    rw [live_lines] at this
    exact this : Calls Tryd.prog 6 #[.slice (some ⟨g, 0, none⟩) 5 5] u (RetLs u ([[[97], [98, 99]]], 0, 0))))
  have HW := hidP (fun (u : World) => (by
    have := x_Word ⟨#[126]⟩ u (by decide)
    rw [show wordL (natsOf ⟨#[126]⟩) = true by decide] at this
    exact this : Calls Tryd.prog 18 #[.string ⟨#[126]⟩] u fun e w' => e = .returned (.bool true) ∧ u = w'))
  go_enter Tryd.func9, Tryd.ntmps9
  go_wp2_with fail
  refine absC (fun x1 hx1 => ?_)
  have hx : Ext w x1 := by rw [hx1]; exact (Ext.refl _).alloc _
  have hl : Sl x1 (some ⟨w.heap.size, 0, none⟩) 5 5 (ints .u8 [97, 32, 98, 99, 10]) := by rw [hx1]; exact sl_lit5 _ _
  clear hx1
  refine (HL.out _ _ hl).mono ?_
  rintro e u1 ⟨a1, n1, c1, rfl, hss, he⟩
  obtain rfl : 1 = n1 := hss.len
  obtain ⟨b, off, a2, c2, rfl, h1, h2⟩ := hss.at 0 (by omega)
  obtain ⟨b2, off2, rfl, h3⟩ := strN_at h2 1 (show 1 < 2 by omega)
  have h1' : u1.cell? ⟨b, off + 0, none⟩ = some (.slice (some ⟨b2, off2, none⟩) 2 c2) := h1
  have h3' : u1.cell? ⟨b2, off2 + 1, none⟩ = some (.string ⟨#[98, 99]⟩) := h3
  rw [Nat.add_zero] at h1'
  have HE := hx.trans he
  clear hss h1 h2 h3 hl hx he
  go_wp2_with fail
  refine (HW.out _).mono ?_
  rintro e u2 ⟨rfl, rfl⟩
  go_wp2_with fail
  go_ret
  exact ⟨rfl, HE⟩
set_option maxRecDepth 100000 in
set_option maxHeartbeats 8000000 in
theorem lexLines_any (a : Option Addr) (n c : Nat) (l : List Nat) (w : World) (h : Sl w a n c (ints .u8 l)) (hl : ∀ x ∈ l, x ≤ 255) (hn : n ≤ 9223372036854775807) :
    Calls Tryd.prog 3 #[.slice a n c] w fun e w' => e = .returned (.bool true) ∧ Ext w w' := by
  have A1 := hidP (x_Lines a n c l w h hl (by omega))
  have A2 := hidP (fun (u : World) (t : Sl u a n c (ints .u8 l)) => d_Lines a n c l u t hl hn)
  have H := hidP h
  have A3 := hidP (fun (u : World) (a a' : Option Addr) (n c n' c' : Nat) (ll : List (List (List Nat))) (t : SlSS u a n c ll) (t' : SlSS u a' n' c' ll) (hb : n ≤ 9223372036854775807) => d_Same6 a a' n c n' c' ll u t t' hb)
  generalize linesF (linesP l) [] = r at *
  obtain ⟨ll, k, er⟩ := r
  clear h hl
  go_enter Tryd.func3, Tryd.ntmps3
  go_wp2_with fail
  refine A1.out.mono ?_
  rintro e u1 ⟨a1, n1, c1, rfl, hs1, hx1⟩
  have HS1 := hidP hs1
  clear hs1
  go_wp2_with fail
  refine (A2.out _ (H.out.ext hx1)).mono ?_
  rintro e u2 ⟨a2, n2, c2, rfl, hs2, hx2⟩
  have HS2 := hidP hs2
  have HE := hx1.trans hx2
  have HS3 := hidP (HS1.out.ext hx2)
  have hb1 : n1 ≤ 9223372036854775807 := by
    obtain ⟨vs, q1, _⟩ := HS1.out
    have q2 := q1.2.1; have q3 := q1.2.2.1
    unfold maxLen at q3
    omega
  clear hs2 hx1 hx2
  go_wp2_with fail
  refine (A3.out _ _ _ _ _ _ _ _ HS3.out HS2.out hb1).mono ?_
  rintro e u3 ⟨rfl, hx⟩
  have HEE := HE.trans hx
  clear hx HE
  go_wp2_with fail
  refine (lex_lives _).mono ?_
  rintro e u4 ⟨rfl, hx⟩
  go_wp2_with fail
  go_ret
  exact ⟨rfl, HEE.trans hx⟩

end Go.Proofs.YtlhaepcnhkaclaaDoor
