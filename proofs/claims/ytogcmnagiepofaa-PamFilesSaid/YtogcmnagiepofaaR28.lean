/- Rasters: the law of files: its walk. -/
import Derived.Test.YtogcmnagiepofaaR27
namespace Go.Proofs.Ytogcmnagiepofaa
set_option linter.unusedVariables false
set_option linter.unusedSimpArgs false
open Go Go.RowKit

/-- What bytes are read as. -/
def Rd (l : List Nat) (r : (Int × Int × List Col) × Int) : Prop := (∃ p q rest, Heads l p q ∧ l = natsOf (headS p q) ++ rest ∧ r = verdict p q rest) ∨ ((∀ p q, ¬ Heads l p q) ∧ r = ((0, 0, []), 3))
theorem rd_some (l : List Nat) : ∃ r, Rd l r := by
  by_cases h : ∃ p q, Heads l p q
  · obtain ⟨p, q, h⟩ := h
    obtain ⟨rest, e⟩ := h.2.2.2.2
    exact ⟨_, .inl ⟨p, q, rest, h, e.symm, rfl⟩⟩
  · exact ⟨_, .inr ⟨fun p q hh => h ⟨p, q, hh⟩, rfl⟩⟩
theorem rd_of {l : List Nat} {r : (Int × Int × List Col) × Int} (h : Rd l r) {w : World} {e : Ending} {w' : World} (hr : RetRead w l e w') : RetPix w r e w' := by
  rcases h with ⟨p, q, rest, h1, h2, rfl⟩ | ⟨h1, rfl⟩
  · rcases hr with ⟨p', q', rest', g1, g2, g3⟩ | ⟨g1, g2⟩
    · obtain ⟨rfl, rfl⟩ := heads_same h1 g1
      rw [h2] at g2
      have := List.append_cancel_left g2
      subst this
      exact g3
    · exact absurd h1 (g1 p q)
  · rcases hr with ⟨p', q', rest', g1, g2, g3⟩ | ⟨g1, g2⟩
    · exact absurd g1 (h1 p' q')
    · exact g2
theorem wrL_le {x y : Int} {n : Nat} {l : List Col} {L : List Nat} (hl : ∀ p ∈ l, p.1 ≤ 255 ∧ p.2.1 ≤ 255 ∧ p.2.2.1 ≤ 255 ∧ p.2.2.2 ≤ 255) (h : wrL x y n l = some L) : ∀ x ∈ L, x ≤ 255 := by
  unfold wrL at h
  split at h
  · cases h
    intro x hx
    rw [List.mem_append] at hx
    rcases hx with hx | hx
    · exact natsOf_le _ x hx
    · exact colB_le hl x hx
  · cases h

set_option maxRecDepth 100000 in
set_option maxHeartbeats 8000000 in
theorem pamFiles_any (x y : Int) (a : Option Addr) (n c : Nat) (l : List Col) (b : Option Addr) (i j : Nat) (m : List Nat) (w : World)
    (ix1 : -9223372036854775808 ≤ x) (ix2 : x ≤ 9223372036854775807) (iy1 : -9223372036854775808 ≤ y) (iy2 : y ≤ 9223372036854775807) (h : SlC w a n c l) (hl : ∀ p ∈ l, p.1 ≤ 255 ∧ p.2.1 ≤ 255 ∧ p.2.2.1 ≤ 255 ∧ p.2.2.2 ≤ 255)
    (h' : Sl w b i j (ints .u8 m)) (hm : ∀ x ∈ m, x ≤ 255) :
    Calls Try.prog 12 #[rst x y a n c, .slice b i j] w fun e w' => e = .returned (.bool true) ∧ Ext w w' := by
  have hcap : i ≤ maxLen := Nat.le_trans h'.2.1 h'.2.2.1
  unfold maxLen at hcap
  have H := hidP h; have H' := hidP h'
  have A1 := hidP (fun (u : World) (t : SlC u a n c l) => p_Write x y a n c l u t)
  have A2 := hidP (fun (u : World) (t : SlC u a n c l) => d_Write x y a n c l u t)
  obtain ⟨⟨⟨v0, v1, v2⟩, v3⟩, hrd⟩ := rd_some m
  have A3 := hidP (fun (u : World) (t : Sl u b i j (ints .u8 m)) => (p_Read b i j m u t hm (by omega)).mono fun e w' hh => rd_of hrd hh)
  have A4 := hidP (fun (u : World) (t : Sl u b i j (ints .u8 m)) => (d_Read b i j m u t hm (by omega)).mono fun e w' hh => rd_of hrd hh)
  have S1 := hidP (fun (w : World) (x y : Int) (a a' : Option Addr) (n c n' c' : Nat) (l : List Col) (t : SlC w a n c l) (t' : SlC w a' n' c' l) => (by
    have := d_SameR x y x y a a' n c n' c' l l w t t'
    rw [show decide (x = x ∧ y = y ∧ l = l) = true by simp] at this
    exact this : Calls Try.prog 65 #[rst x y a n c, rst x y a' n' c'] w fun e w' => e = .returned (.bool true) ∧ Ext w w'))
  have WL := hidP (fun L hh => @wrL_le x y n l L hl hh)
  clear h h' hm hl ix1 ix2 iy1 iy2 hrd hcap
  cases hw : wrL x y n l
  · rw [hw] at A1 A2
    clear hw WL
    go_enter Try.func12, Try.ntmps12
    go_wp2_with fail
    refine absC (fun x1 hx1 => ?_)
    have hx : Ext w x1 := by rw [hx1]; exact ((Ext.refl _).alloc _)
    have bp : Bl x1 (w.heap.size) #[.int .i64 x, .int .i64 y, .slice a n c] := by rw [hx1]; exact (Bl.new (by simp))
    have HE := hx
    clear hx
    clear hx1
    refine (A1.out _ (H.out.ext HE)).mono ?_
    rintro e u1 ⟨rfl, hx⟩
    replace bp := Bl.ext hx bp (Nat.succ_pos _)
    replace HE := HE.trans hx
    clear hx
    go_wp2_with fail
    refine (A2.out _ (H.out.ext HE)).mono ?_
    rintro e u2 ⟨rfl, hx⟩
    replace bp := Bl.ext hx bp (Nat.succ_pos _)
    replace HE := HE.trans hx
    clear hx
    go_wp2_with fail
    refine (A3.out _ (H'.out.ext HE)).mono ?_
    rintro e u3 ⟨a3, n3, c3, rfl, hs3, hx⟩
    replace bp := Bl.ext hx bp (Nat.succ_pos _)
    replace HE := HE.trans hx
    clear hx
    replace hs3 : SlC u3 a3 n3 c3 v2 := hs3
    go_upto_region 4 with fail
    refine absW (fun x2 hx2 => ?_)
    have hx : Ext u3 x2 := by rw [hx2]; exact ((Ext.refl _).alloc _)
    have be1 : Bl x2 (u3.heap.size) #[.int .i64 v0, .int .i64 v1, .slice a3 n3 c3] := by rw [hx2]; exact (Bl.new (by simp))
    replace bp := Bl.ext hx bp (Nat.succ_pos _)
    replace hs3 := hs3.ext hx
    replace HE := HE.trans hx
    clear hx
    clear hx2
    go_wp2_with fail
    refine (A4.out _ (H'.out.ext HE)).mono ?_
    rintro e u4 ⟨a4, n4, c4, rfl, hs4, hx⟩
    replace bp := Bl.ext hx bp (Nat.succ_pos _)
    replace be1 := Bl.ext hx be1 (Nat.succ_pos _)
    replace hs3 := hs3.ext hx
    replace HE := HE.trans hx
    clear hx
    replace hs4 : SlC u4 a4 n4 c4 v2 := hs4
    go_upto_region 5 with fail
    refine absW (fun x3 hx3 => ?_)
    have hx : Ext u4 x3 := by rw [hx3]; exact ((Ext.refl _).alloc _)
    have be2 : Bl x3 (u4.heap.size) #[.int .i64 v0, .int .i64 v1, .slice a4 n4 c4] := by rw [hx3]; exact (Bl.new (by simp))
    replace bp := Bl.ext hx bp (Nat.succ_pos _)
    replace be1 := Bl.ext hx be1 (Nat.succ_pos _)
    replace hs3 := hs3.ext hx
    replace hs4 := hs4.ext hx
    replace HE := HE.trans hx
    clear hx
    clear hx3
    have k1 := fun u => str_of (w := u) (l := []) (Sl.nil u) (by simp)

    go_wp2_with fail
    refine (S1.out _ v0 v1 _ _ _ _ _ _ _ hs3 hs4).mono ?_
    rintro e u5 ⟨rfl, hx⟩
    replace HE := HE.trans hx
    clear hx
    go_wp2_with fail
    refine (pam_lives _).mono ?_
    rintro e u6 ⟨rfl, hx⟩
    replace HE := HE.trans hx
    clear hx
    go_wp2_with fail
    go_ret
    exact ⟨rfl, HE⟩
  · rename_i L
    rw [hw] at A1 A2
    have HLL := hidP (WL.out L hw)
    clear hw WL
    go_enter Try.func12, Try.ntmps12
    go_wp2_with fail
    refine absC (fun x1 hx1 => ?_)
    have hx : Ext w x1 := by rw [hx1]; exact ((Ext.refl _).alloc _)
    have bp : Bl x1 (w.heap.size) #[.int .i64 x, .int .i64 y, .slice a n c] := by rw [hx1]; exact (Bl.new (by simp))
    have HE := hx
    clear hx
    clear hx1
    refine (A1.out _ (H.out.ext HE)).mono ?_
    rintro e u1 ⟨a1, n1, c1, rfl, hs1, hx⟩
    replace bp := Bl.ext hx bp (Nat.succ_pos _)
    replace HE := HE.trans hx
    clear hx
    go_wp2_with fail
    refine (A2.out _ (H.out.ext HE)).mono ?_
    rintro e u2 ⟨a2, n2, c2, rfl, hs2, hx⟩
    replace bp := Bl.ext hx bp (Nat.succ_pos _)
    replace hs1 := hs1.ext hx
    replace HE := HE.trans hx
    clear hx
    go_wp2_with fail
    refine (A3.out _ (H'.out.ext HE)).mono ?_
    rintro e u3 ⟨a3, n3, c3, rfl, hs3, hx⟩
    replace bp := Bl.ext hx bp (Nat.succ_pos _)
    replace hs1 := hs1.ext hx
    replace hs2 := hs2.ext hx
    replace HE := HE.trans hx
    clear hx
    replace hs3 : SlC u3 a3 n3 c3 v2 := hs3
    go_upto_region 4 with fail
    refine absW (fun x2 hx2 => ?_)
    have hx : Ext u3 x2 := by rw [hx2]; exact ((Ext.refl _).alloc _)
    have be1 : Bl x2 (u3.heap.size) #[.int .i64 v0, .int .i64 v1, .slice a3 n3 c3] := by rw [hx2]; exact (Bl.new (by simp))
    replace bp := Bl.ext hx bp (Nat.succ_pos _)
    replace hs1 := hs1.ext hx
    replace hs2 := hs2.ext hx
    replace hs3 := hs3.ext hx
    replace HE := HE.trans hx
    clear hx
    clear hx2
    go_wp2_with fail
    refine (A4.out _ (H'.out.ext HE)).mono ?_
    rintro e u4 ⟨a4, n4, c4, rfl, hs4, hx⟩
    replace bp := Bl.ext hx bp (Nat.succ_pos _)
    replace be1 := Bl.ext hx be1 (Nat.succ_pos _)
    replace hs1 := hs1.ext hx
    replace hs2 := hs2.ext hx
    replace hs3 := hs3.ext hx
    replace HE := HE.trans hx
    clear hx
    replace hs4 : SlC u4 a4 n4 c4 v2 := hs4
    go_upto_region 5 with fail
    refine absW (fun x3 hx3 => ?_)
    have hx : Ext u4 x3 := by rw [hx3]; exact ((Ext.refl _).alloc _)
    have be2 : Bl x3 (u4.heap.size) #[.int .i64 v0, .int .i64 v1, .slice a4 n4 c4] := by rw [hx3]; exact (Bl.new (by simp))
    replace bp := Bl.ext hx bp (Nat.succ_pos _)
    replace be1 := Bl.ext hx be1 (Nat.succ_pos _)
    replace hs1 := hs1.ext hx
    replace hs2 := hs2.ext hx
    replace hs3 := hs3.ext hx
    replace hs4 := hs4.ext hx
    replace HE := HE.trans hx
    clear hx
    clear hx3
    have k1 := str_of hs1 HLL.out
    have k2 := str_of hs2 HLL.out
    go_wp2_with fail
    refine (S1.out _ v0 v1 _ _ _ _ _ _ _ hs3 hs4).mono ?_
    rintro e u5 ⟨rfl, hx⟩
    replace HE := HE.trans hx
    clear hx
    go_wp2_with fail
    refine (pam_lives _).mono ?_
    rintro e u6 ⟨rfl, hx⟩
    replace HE := HE.trans hx
    clear hx
    go_wp2_with fail
    go_ret
    exact ⟨rfl, HE⟩

end Go.Proofs.Ytogcmnagiepofaa
