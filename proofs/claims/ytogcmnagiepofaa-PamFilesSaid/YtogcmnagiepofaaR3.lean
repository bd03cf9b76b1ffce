/- Rasters: the cell at a place. -/
import Derived.Test.YtogcmnagiepofaaRB
namespace Go.Proofs.Ytogcmnagiepofaa
set_option linter.unusedVariables false
open Go Go.RowKit

theorem blk_four {w : World} {g : Nat} {v0 v1 v2 v3 : Value} (h : Bl w g #[v0, v1, v2, v3]) : ∀ j v, (#[v0, v1, v2, v3] : Array Value).toList[j]? = some v → w.cell? ⟨g, j, none⟩ = some v := by
  intro j v hv
  rw [h j]
  simpa using hv
/-- A colour as a value. -/
abbrev colV (q : Col) : Value := .agg #[.int .u8 (q.1 : Int), .int .u8 (q.2.1 : Int), .int .u8 (q.2.2.1 : Int), .int .u8 (q.2.2.2 : Int)]
/-- The cell at a place. -/
def atR (x y : Int) (n : Nat) (l : List Col) (i j : Int) : Col × Bool :=
  if mayR x y n = true ∧ 0 ≤ i ∧ i < x ∧ 0 ≤ j ∧ j < y then (l.getD (j * x + i).toNat (0, 0, 0, 0), true) else ((0, 0, 0, 0), false)
def RetC (w : World) (q : Col × Bool) (e : Ending) (w' : World) : Prop := e = .returned (.tuple #[colV q.1, .bool q.2]) ∧ Ext w w'
set_option maxRecDepth 100000 in
set_option maxHeartbeats 4000000 in
theorem p_At (x y : Int) (a : Option Addr) (n c : Nat) (l : List Col) (i j : Int) (w : World) (h : SlC w a n c l) :
    Calls Try.prog 59 #[rst x y a n c, .int .i64 i, .int .i64 j] w (RetC w (atR x y n l i j)) := by
  have HL := hidP h.len
  have H := hidP h
  clear h
  have HM := hidP (fun u => p_May x y a n c u)
  have HIN := hidP (@at_in x y i j n)
  by_cases hok : mayR x y n = true ∧ 0 ≤ i ∧ i < x ∧ 0 ≤ j ∧ j < y
  · have HR : Hid (atR x y n l i j = (l.getD (j * x + i).toNat (0, 0, 0, 0), true)) := hidP (if_pos hok)
    obtain ⟨hm, hi1, hi2, hj1, hj2⟩ := hok
    obtain ⟨hb1, hb2, hb3⟩ := HIN.out hm hi1 hi2 hj1 hj2
    rw [hm] at HM
    obtain ⟨k, hk⟩ : ∃ k : Nat, j * x + i = (k : Int) := ⟨(j * x + i).toNat, by omega⟩
    rw [hk, Int.toNat_natCast] at HR
    have hkn : k < n := by omega
    obtain ⟨g, off, rfl, hc⟩ := H.out.at (by omega)
    obtain ⟨h0, h1, h2, h3⟩ := hc k (by rw [HL.out]; exact hkn)
    rw [show l.getD k (0, 0, 0, 0) = l[k]'(by rw [HL.out]; exact hkn) by rw [List.getD_eq_getElem?_getD, List.getElem?_eq_getElem (by rw [HL.out]; exact hkn)]; rfl] at HR
    generalize l[k]'(by rw [HL.out]; exact hkn) = q at *
    obtain ⟨q0, q1, q2, q3⟩ := q
    simp only [] at h0 h1 h2 h3
    have hx0 : 0 ≤ x := by omega
    clear hc hm HIN H
    generalize atR x y n l i j = rr at *
    go_enter Try.func59, Try.ntmps59
    go_wp2_with fail
    refine absC (fun x1 hx1 => ?_)
    have hx : Ext w x1 := by rw [hx1]; exact (((Ext.refl _).alloc _).alloc _)
    have bp : Bl x1 (w.heap.size) #[.int .i64 x, .int .i64 y, .slice (some ⟨g, off, none⟩) n c] := by rw [hx1]; exact ((Bl.new (by simp)).alloc (by simp))
    have bs : Bl x1 (w.heap.size + 1) #[.int .u8 0, .int .u8 0, .int .u8 0, .int .u8 0] := by rw [hx1]; exact (Bl.new (by simp))
    have fs : Fz x1 (w.heap.size + 1) := by rw [hx1]; exact (Fz.new (by simp))
    have HE := hx
    clear hx
    clear hx1
    refine (HM.out _).mono ?_
    rintro e u1 ⟨rfl, hx⟩
    replace bp := Bl.ext hx bp (Nat.succ_pos _)
    replace fs := Fz.ext hx fs bs (Nat.succ_pos _)
    replace bs := Bl.ext hx bs (Nat.succ_pos _)
    replace HE := HE.trans hx
    clear hx




    replace h0 := HE.cell' h0; replace h1 := HE.cell' h1; replace h2 := HE.cell' h2; replace h3 := HE.cell' h3
    go_wp2_with fail
    refine absB (fun ue hue => ?_)
    have hbs : Bl ue (w.heap.size + 1) #[.int .u8 (q0 : Int), .int .u8 (q1 : Int), .int .u8 (q2 : Int), .int .u8 (q3 : Int)] := by rw [hue]; exact ((((bs.set (by simp)).set (by simp)).set (by simp)).set (by simp))
    have heu : Ext w ue := by rw [hue]; exact (((HE.store (by show w.heap.size ≤ w.heap.size + 1; omega) _).store (by show w.heap.size ≤ w.heap.size + 1; omega) _).store (by show w.heap.size ≤ w.heap.size + 1; omega) _).store (by show w.heap.size ≤ w.heap.size + 1; omega) _
    clear hue
    refine bodyPost_cells_tmp2 rfl rfl Try.underlying73 rfl (by kernel_rfl) (blk_four hbs) rfl rfl ?_
    exact ⟨by rw [HR.out]; rfl, heu⟩
  · have HR : Hid (atR x y n l i j = ((0, 0, 0, 0), false)) := hidP (if_neg hok)
    generalize atR x y n l i j = rr at *
    clear HIN H HL
    cases hm : mayR x y n
    · rw [hm] at HM
      clear hok hm
      go_enter Try.func59, Try.ntmps59
      go_wp2_with fail
      refine absC (fun x1 hx1 => ?_)
      have hx : Ext w x1 := by rw [hx1]; exact (((Ext.refl _).alloc _).alloc _)
      have bp : Bl x1 (w.heap.size) #[.int .i64 x, .int .i64 y, .slice a n c] := by rw [hx1]; exact ((Bl.new (by simp)).alloc (by simp))
      have bs : Bl x1 (w.heap.size + 1) #[.int .u8 0, .int .u8 0, .int .u8 0, .int .u8 0] := by rw [hx1]; exact (Bl.new (by simp))
      have fs : Fz x1 (w.heap.size + 1) := by rw [hx1]; exact (Fz.new (by simp))
      have HE := hx
      clear hx
      clear hx1
      refine (HM.out _).mono ?_
      rintro e u1 ⟨rfl, hx⟩
      replace bp := Bl.ext hx bp (Nat.succ_pos _)
      replace fs := Fz.ext hx fs bs (Nat.succ_pos _)
      replace bs := Bl.ext hx bs (Nat.succ_pos _)
      replace HE := HE.trans hx
      clear hx
      go_wp2_with fail
      refine absB (fun ue hue => ?_)
      have hbs : Bl ue (w.heap.size + 1) #[.int .u8 0, .int .u8 0, .int .u8 0, .int .u8 0] := by rw [hue]; exact ((((bs.set (by simp)).set (by simp)).set (by simp)).set (by simp))
      have heu : Ext w ue := by rw [hue]; exact (((HE.store (by show w.heap.size ≤ w.heap.size + 1; omega) _).store (by show w.heap.size ≤ w.heap.size + 1; omega) _).store (by show w.heap.size ≤ w.heap.size + 1; omega) _).store (by show w.heap.size ≤ w.heap.size + 1; omega) _
      clear hue
      refine bodyPost_cells_tmp2 rfl rfl Try.underlying73 rfl (by kernel_rfl) (blk_four hbs) rfl rfl ?_
      exact ⟨by rw [HR.out]; rfl, heu⟩
    · rw [hm] at HM
      have hcs : i < 0 ∨ (0 ≤ i ∧ x ≤ i) ∨ (0 ≤ i ∧ i < x ∧ j < 0) ∨ (0 ≤ i ∧ i < x ∧ 0 ≤ j ∧ y ≤ j) := by
        have : ¬ (0 ≤ i ∧ i < x ∧ 0 ≤ j ∧ j < y) := fun h => hok ⟨hm, h⟩
        omega
      clear hok hm
      rcases hcs with hc0 | ⟨hc0, hc1⟩ | ⟨hc0, hc1, hc2⟩ | ⟨hc0, hc1, hc2, hc3⟩
      · go_enter Try.func59, Try.ntmps59
        go_wp2_with fail
        refine absC (fun x1 hx1 => ?_)
        have hx : Ext w x1 := by rw [hx1]; exact (((Ext.refl _).alloc _).alloc _)
        have bp : Bl x1 (w.heap.size) #[.int .i64 x, .int .i64 y, .slice a n c] := by rw [hx1]; exact ((Bl.new (by simp)).alloc (by simp))
        have bs : Bl x1 (w.heap.size + 1) #[.int .u8 0, .int .u8 0, .int .u8 0, .int .u8 0] := by rw [hx1]; exact (Bl.new (by simp))
        have fs : Fz x1 (w.heap.size + 1) := by rw [hx1]; exact (Fz.new (by simp))
        have HE := hx
        clear hx
        clear hx1
        refine (HM.out _).mono ?_
        rintro e u1 ⟨rfl, hx⟩
        replace bp := Bl.ext hx bp (Nat.succ_pos _)
        replace fs := Fz.ext hx fs bs (Nat.succ_pos _)
        replace bs := Bl.ext hx bs (Nat.succ_pos _)
        replace HE := HE.trans hx
        clear hx
        go_wp2_with fail
        refine absB (fun ue hue => ?_)
        have hbs : Bl ue (w.heap.size + 1) #[.int .u8 0, .int .u8 0, .int .u8 0, .int .u8 0] := by rw [hue]; exact ((((bs.set (by simp)).set (by simp)).set (by simp)).set (by simp))
        have heu : Ext w ue := by rw [hue]; exact (((HE.store (by show w.heap.size ≤ w.heap.size + 1; omega) _).store (by show w.heap.size ≤ w.heap.size + 1; omega) _).store (by show w.heap.size ≤ w.heap.size + 1; omega) _).store (by show w.heap.size ≤ w.heap.size + 1; omega) _
        clear hue
        refine bodyPost_cells_tmp2 rfl rfl Try.underlying73 rfl (by kernel_rfl) (blk_four hbs) rfl rfl ?_
        exact ⟨by rw [HR.out]; rfl, heu⟩
      · go_enter Try.func59, Try.ntmps59
        go_wp2_with fail
        refine absC (fun x1 hx1 => ?_)
        have hx : Ext w x1 := by rw [hx1]; exact (((Ext.refl _).alloc _).alloc _)
        have bp : Bl x1 (w.heap.size) #[.int .i64 x, .int .i64 y, .slice a n c] := by rw [hx1]; exact ((Bl.new (by simp)).alloc (by simp))
        have bs : Bl x1 (w.heap.size + 1) #[.int .u8 0, .int .u8 0, .int .u8 0, .int .u8 0] := by rw [hx1]; exact (Bl.new (by simp))
        have fs : Fz x1 (w.heap.size + 1) := by rw [hx1]; exact (Fz.new (by simp))
        have HE := hx
        clear hx
        clear hx1
        refine (HM.out _).mono ?_
        rintro e u1 ⟨rfl, hx⟩
        replace bp := Bl.ext hx bp (Nat.succ_pos _)
        replace fs := Fz.ext hx fs bs (Nat.succ_pos _)
        replace bs := Bl.ext hx bs (Nat.succ_pos _)
        replace HE := HE.trans hx
        clear hx
        go_wp2_with fail
        refine absB (fun ue hue => ?_)
        have hbs : Bl ue (w.heap.size + 1) #[.int .u8 0, .int .u8 0, .int .u8 0, .int .u8 0] := by rw [hue]; exact ((((bs.set (by simp)).set (by simp)).set (by simp)).set (by simp))
        have heu : Ext w ue := by rw [hue]; exact (((HE.store (by show w.heap.size ≤ w.heap.size + 1; omega) _).store (by show w.heap.size ≤ w.heap.size + 1; omega) _).store (by show w.heap.size ≤ w.heap.size + 1; omega) _).store (by show w.heap.size ≤ w.heap.size + 1; omega) _
        clear hue
        refine bodyPost_cells_tmp2 rfl rfl Try.underlying73 rfl (by kernel_rfl) (blk_four hbs) rfl rfl ?_
        exact ⟨by rw [HR.out]; rfl, heu⟩
      · go_enter Try.func59, Try.ntmps59
        go_wp2_with fail
        refine absC (fun x1 hx1 => ?_)
        have hx : Ext w x1 := by rw [hx1]; exact (((Ext.refl _).alloc _).alloc _)
        have bp : Bl x1 (w.heap.size) #[.int .i64 x, .int .i64 y, .slice a n c] := by rw [hx1]; exact ((Bl.new (by simp)).alloc (by simp))
        have bs : Bl x1 (w.heap.size + 1) #[.int .u8 0, .int .u8 0, .int .u8 0, .int .u8 0] := by rw [hx1]; exact (Bl.new (by simp))
        have fs : Fz x1 (w.heap.size + 1) := by rw [hx1]; exact (Fz.new (by simp))
        have HE := hx
        clear hx
        clear hx1
        refine (HM.out _).mono ?_
        rintro e u1 ⟨rfl, hx⟩
        replace bp := Bl.ext hx bp (Nat.succ_pos _)
        replace fs := Fz.ext hx fs bs (Nat.succ_pos _)
        replace bs := Bl.ext hx bs (Nat.succ_pos _)
        replace HE := HE.trans hx
        clear hx
        go_wp2_with fail
        refine absB (fun ue hue => ?_)
        have hbs : Bl ue (w.heap.size + 1) #[.int .u8 0, .int .u8 0, .int .u8 0, .int .u8 0] := by rw [hue]; exact ((((bs.set (by simp)).set (by simp)).set (by simp)).set (by simp))
        have heu : Ext w ue := by rw [hue]; exact (((HE.store (by show w.heap.size ≤ w.heap.size + 1; omega) _).store (by show w.heap.size ≤ w.heap.size + 1; omega) _).store (by show w.heap.size ≤ w.heap.size + 1; omega) _).store (by show w.heap.size ≤ w.heap.size + 1; omega) _
        clear hue
        refine bodyPost_cells_tmp2 rfl rfl Try.underlying73 rfl (by kernel_rfl) (blk_four hbs) rfl rfl ?_
        exact ⟨by rw [HR.out]; rfl, heu⟩
      · go_enter Try.func59, Try.ntmps59
        go_wp2_with fail
        refine absC (fun x1 hx1 => ?_)
        have hx : Ext w x1 := by rw [hx1]; exact (((Ext.refl _).alloc _).alloc _)
        have bp : Bl x1 (w.heap.size) #[.int .i64 x, .int .i64 y, .slice a n c] := by rw [hx1]; exact ((Bl.new (by simp)).alloc (by simp))
        have bs : Bl x1 (w.heap.size + 1) #[.int .u8 0, .int .u8 0, .int .u8 0, .int .u8 0] := by rw [hx1]; exact (Bl.new (by simp))
        have fs : Fz x1 (w.heap.size + 1) := by rw [hx1]; exact (Fz.new (by simp))
        have HE := hx
        clear hx
        clear hx1
        refine (HM.out _).mono ?_
        rintro e u1 ⟨rfl, hx⟩
        replace bp := Bl.ext hx bp (Nat.succ_pos _)
        replace fs := Fz.ext hx fs bs (Nat.succ_pos _)
        replace bs := Bl.ext hx bs (Nat.succ_pos _)
        replace HE := HE.trans hx
        clear hx
        go_wp2_with fail
        refine absB (fun ue hue => ?_)
        have hbs : Bl ue (w.heap.size + 1) #[.int .u8 0, .int .u8 0, .int .u8 0, .int .u8 0] := by rw [hue]; exact ((((bs.set (by simp)).set (by simp)).set (by simp)).set (by simp))
        have heu : Ext w ue := by rw [hue]; exact (((HE.store (by show w.heap.size ≤ w.heap.size + 1; omega) _).store (by show w.heap.size ≤ w.heap.size + 1; omega) _).store (by show w.heap.size ≤ w.heap.size + 1; omega) _).store (by show w.heap.size ≤ w.heap.size + 1; omega) _
        clear hue
        refine bodyPost_cells_tmp2 rfl rfl Try.underlying73 rfl (by kernel_rfl) (blk_four hbs) rfl rfl ?_
        exact ⟨by rw [HR.out]; rfl, heu⟩

set_option maxRecDepth 100000 in
set_option maxHeartbeats 4000000 in
theorem d_At (x y : Int) (a : Option Addr) (n c : Nat) (l : List Col) (i j : Int) (w : World) (h : SlC w a n c l) :
    Calls Try.prog 60 #[rst x y a n c, .int .i64 i, .int .i64 j] w (RetC w (atR x y n l i j)) := by
  have HL := hidP h.len
  have H := hidP h
  clear h
  have HM := hidP (fun u => d_May x y a n c u)
  have HIN := hidP (@at_in x y i j n)
  by_cases hok : mayR x y n = true ∧ 0 ≤ i ∧ i < x ∧ 0 ≤ j ∧ j < y
  · have HR : Hid (atR x y n l i j = (l.getD (j * x + i).toNat (0, 0, 0, 0), true)) := hidP (if_pos hok)
    obtain ⟨hm, hi1, hi2, hj1, hj2⟩ := hok
    obtain ⟨hb1, hb2, hb3⟩ := HIN.out hm hi1 hi2 hj1 hj2
    rw [hm] at HM
    obtain ⟨k, hk⟩ : ∃ k : Nat, j * x + i = (k : Int) := ⟨(j * x + i).toNat, by omega⟩
    rw [hk, Int.toNat_natCast] at HR
    have hkn : k < n := by omega
    obtain ⟨g, off, rfl, hc⟩ := H.out.at (by omega)
    obtain ⟨h0, h1, h2, h3⟩ := hc k (by rw [HL.out]; exact hkn)
    rw [show l.getD k (0, 0, 0, 0) = l[k]'(by rw [HL.out]; exact hkn) by rw [List.getD_eq_getElem?_getD, List.getElem?_eq_getElem (by rw [HL.out]; exact hkn)]; rfl] at HR
    generalize l[k]'(by rw [HL.out]; exact hkn) = q at *
    obtain ⟨q0, q1, q2, q3⟩ := q
    simp only [] at h0 h1 h2 h3
    have hx0 : 0 ≤ x := by omega
    clear hc hm HIN H
    have hcm : j * x = x * j := Int.mul_comm _ _
    rw [hcm] at hb1 hb2 hb3 hk
    rw [Int.add_comm] at hk
    have hb4 : i + x * j ≤ 4095 := by omega
    generalize atR x y n l i j = rr at *
    go_enter Try.func60, Try.ntmps60
    go_wp2_with fail
    refine absC (fun x1 hx1 => ?_)
    have hx : Ext w x1 := by rw [hx1]; exact (((Ext.refl _).alloc _).alloc _)
    have bp : Bl x1 (w.heap.size) #[.int .i64 x, .int .i64 y, .slice (some ⟨g, off, none⟩) n c] := by rw [hx1]; exact ((Bl.new (by simp)).alloc (by simp))
    have bs : Bl x1 (w.heap.size + 1) #[.int .u8 0, .int .u8 0, .int .u8 0, .int .u8 0] := by rw [hx1]; exact (Bl.new (by simp))
    have fs : Fz x1 (w.heap.size + 1) := by rw [hx1]; exact (Fz.new (by simp))
    have HE := hx
    clear hx
    clear hx1
    refine (HM.out _).mono ?_
    rintro e u1 ⟨rfl, hx⟩
    replace bp := Bl.ext hx bp (Nat.succ_pos _)
    replace fs := Fz.ext hx fs bs (Nat.succ_pos _)
    replace bs := Bl.ext hx bs (Nat.succ_pos _)
    replace HE := HE.trans hx
    clear hx




    replace h0 := HE.cell' h0; replace h1 := HE.cell' h1; replace h2 := HE.cell' h2; replace h3 := HE.cell' h3
    go_wp2_with fail
    refine absB (fun ue hue => ?_)
    have hbs : Bl ue (w.heap.size + 1) #[.int .u8 (q0 : Int), .int .u8 (q1 : Int), .int .u8 (q2 : Int), .int .u8 (q3 : Int)] := by rw [hue]; exact ((((bs.set (by simp)).set (by simp)).set (by simp)).set (by simp))
    have heu : Ext w ue := by rw [hue]; exact (((HE.store (by show w.heap.size ≤ w.heap.size + 1; omega) _).store (by show w.heap.size ≤ w.heap.size + 1; omega) _).store (by show w.heap.size ≤ w.heap.size + 1; omega) _).store (by show w.heap.size ≤ w.heap.size + 1; omega) _
    clear hue
    refine bodyPost_cells_tmp2 rfl rfl Try.underlying73 rfl (by kernel_rfl) (blk_four hbs) rfl rfl ?_
    exact ⟨by rw [HR.out]; rfl, heu⟩
  · have HR : Hid (atR x y n l i j = ((0, 0, 0, 0), false)) := hidP (if_neg hok)
    generalize atR x y n l i j = rr at *
    clear HIN H HL
    cases hm : mayR x y n
    · rw [hm] at HM
      clear hok hm
      go_enter Try.func60, Try.ntmps60
      go_wp2_with fail
      refine absC (fun x1 hx1 => ?_)
      have hx : Ext w x1 := by rw [hx1]; exact (((Ext.refl _).alloc _).alloc _)
      have bp : Bl x1 (w.heap.size) #[.int .i64 x, .int .i64 y, .slice a n c] := by rw [hx1]; exact ((Bl.new (by simp)).alloc (by simp))
      have bs : Bl x1 (w.heap.size + 1) #[.int .u8 0, .int .u8 0, .int .u8 0, .int .u8 0] := by rw [hx1]; exact (Bl.new (by simp))
      have fs : Fz x1 (w.heap.size + 1) := by rw [hx1]; exact (Fz.new (by simp))
      have HE := hx
      clear hx
      clear hx1
      refine (HM.out _).mono ?_
      rintro e u1 ⟨rfl, hx⟩
      replace bp := Bl.ext hx bp (Nat.succ_pos _)
      replace fs := Fz.ext hx fs bs (Nat.succ_pos _)
      replace bs := Bl.ext hx bs (Nat.succ_pos _)
      replace HE := HE.trans hx
      clear hx
      go_wp2_with fail
      refine absB (fun ue hue => ?_)
      have hbs : Bl ue (w.heap.size + 1) #[.int .u8 0, .int .u8 0, .int .u8 0, .int .u8 0] := by rw [hue]; exact ((((bs.set (by simp)).set (by simp)).set (by simp)).set (by simp))
      have heu : Ext w ue := by rw [hue]; exact (((HE.store (by show w.heap.size ≤ w.heap.size + 1; omega) _).store (by show w.heap.size ≤ w.heap.size + 1; omega) _).store (by show w.heap.size ≤ w.heap.size + 1; omega) _).store (by show w.heap.size ≤ w.heap.size + 1; omega) _
      clear hue
      refine bodyPost_cells_tmp2 rfl rfl Try.underlying73 rfl (by kernel_rfl) (blk_four hbs) rfl rfl ?_
      exact ⟨by rw [HR.out]; rfl, heu⟩
    · rw [hm] at HM
      have hcs : i < 0 ∨ (0 ≤ i ∧ j < 0) ∨ (0 ≤ i ∧ 0 ≤ j ∧ x ≤ i) ∨ (0 ≤ i ∧ 0 ≤ j ∧ i < x ∧ y ≤ j) := by
        have : ¬ (0 ≤ i ∧ i < x ∧ 0 ≤ j ∧ j < y) := fun h => hok ⟨hm, h⟩
        omega
      clear hok hm
      rcases hcs with hc0 | ⟨hc0, hc1⟩ | ⟨hc0, hc1, hc2⟩ | ⟨hc0, hc1, hc2, hc3⟩
      · go_enter Try.func60, Try.ntmps60
        go_wp2_with fail
        refine absC (fun x1 hx1 => ?_)
        have hx : Ext w x1 := by rw [hx1]; exact (((Ext.refl _).alloc _).alloc _)
        have bp : Bl x1 (w.heap.size) #[.int .i64 x, .int .i64 y, .slice a n c] := by rw [hx1]; exact ((Bl.new (by simp)).alloc (by simp))
        have bs : Bl x1 (w.heap.size + 1) #[.int .u8 0, .int .u8 0, .int .u8 0, .int .u8 0] := by rw [hx1]; exact (Bl.new (by simp))
        have fs : Fz x1 (w.heap.size + 1) := by rw [hx1]; exact (Fz.new (by simp))
        have HE := hx
        clear hx
        clear hx1
        refine (HM.out _).mono ?_
        rintro e u1 ⟨rfl, hx⟩
        replace bp := Bl.ext hx bp (Nat.succ_pos _)
        replace fs := Fz.ext hx fs bs (Nat.succ_pos _)
        replace bs := Bl.ext hx bs (Nat.succ_pos _)
        replace HE := HE.trans hx
        clear hx
        go_wp2_with fail
        refine absB (fun ue hue => ?_)
        have hbs : Bl ue (w.heap.size + 1) #[.int .u8 0, .int .u8 0, .int .u8 0, .int .u8 0] := by rw [hue]; exact ((((bs.set (by simp)).set (by simp)).set (by simp)).set (by simp))
        have heu : Ext w ue := by rw [hue]; exact (((HE.store (by show w.heap.size ≤ w.heap.size + 1; omega) _).store (by show w.heap.size ≤ w.heap.size + 1; omega) _).store (by show w.heap.size ≤ w.heap.size + 1; omega) _).store (by show w.heap.size ≤ w.heap.size + 1; omega) _
        clear hue
        refine bodyPost_cells_tmp2 rfl rfl Try.underlying73 rfl (by kernel_rfl) (blk_four hbs) rfl rfl ?_
        exact ⟨by rw [HR.out]; rfl, heu⟩
      · go_enter Try.func60, Try.ntmps60
        go_wp2_with fail
        refine absC (fun x1 hx1 => ?_)
        have hx : Ext w x1 := by rw [hx1]; exact (((Ext.refl _).alloc _).alloc _)
        have bp : Bl x1 (w.heap.size) #[.int .i64 x, .int .i64 y, .slice a n c] := by rw [hx1]; exact ((Bl.new (by simp)).alloc (by simp))
        have bs : Bl x1 (w.heap.size + 1) #[.int .u8 0, .int .u8 0, .int .u8 0, .int .u8 0] := by rw [hx1]; exact (Bl.new (by simp))
        have fs : Fz x1 (w.heap.size + 1) := by rw [hx1]; exact (Fz.new (by simp))
        have HE := hx
        clear hx
        clear hx1
        refine (HM.out _).mono ?_
        rintro e u1 ⟨rfl, hx⟩
        replace bp := Bl.ext hx bp (Nat.succ_pos _)
        replace fs := Fz.ext hx fs bs (Nat.succ_pos _)
        replace bs := Bl.ext hx bs (Nat.succ_pos _)
        replace HE := HE.trans hx
        clear hx
        go_wp2_with fail
        refine absB (fun ue hue => ?_)
        have hbs : Bl ue (w.heap.size + 1) #[.int .u8 0, .int .u8 0, .int .u8 0, .int .u8 0] := by rw [hue]; exact ((((bs.set (by simp)).set (by simp)).set (by simp)).set (by simp))
        have heu : Ext w ue := by rw [hue]; exact (((HE.store (by show w.heap.size ≤ w.heap.size + 1; omega) _).store (by show w.heap.size ≤ w.heap.size + 1; omega) _).store (by show w.heap.size ≤ w.heap.size + 1; omega) _).store (by show w.heap.size ≤ w.heap.size + 1; omega) _
        clear hue
        refine bodyPost_cells_tmp2 rfl rfl Try.underlying73 rfl (by kernel_rfl) (blk_four hbs) rfl rfl ?_
        exact ⟨by rw [HR.out]; rfl, heu⟩
      · go_enter Try.func60, Try.ntmps60
        go_wp2_with fail
        refine absC (fun x1 hx1 => ?_)
        have hx : Ext w x1 := by rw [hx1]; exact (((Ext.refl _).alloc _).alloc _)
        have bp : Bl x1 (w.heap.size) #[.int .i64 x, .int .i64 y, .slice a n c] := by rw [hx1]; exact ((Bl.new (by simp)).alloc (by simp))
        have bs : Bl x1 (w.heap.size + 1) #[.int .u8 0, .int .u8 0, .int .u8 0, .int .u8 0] := by rw [hx1]; exact (Bl.new (by simp))
        have fs : Fz x1 (w.heap.size + 1) := by rw [hx1]; exact (Fz.new (by simp))
        have HE := hx
        clear hx
        clear hx1
        refine (HM.out _).mono ?_
        rintro e u1 ⟨rfl, hx⟩
        replace bp := Bl.ext hx bp (Nat.succ_pos _)
        replace fs := Fz.ext hx fs bs (Nat.succ_pos _)
        replace bs := Bl.ext hx bs (Nat.succ_pos _)
        replace HE := HE.trans hx
        clear hx
        go_wp2_with fail
        refine absB (fun ue hue => ?_)
        have hbs : Bl ue (w.heap.size + 1) #[.int .u8 0, .int .u8 0, .int .u8 0, .int .u8 0] := by rw [hue]; exact ((((bs.set (by simp)).set (by simp)).set (by simp)).set (by simp))
        have heu : Ext w ue := by rw [hue]; exact (((HE.store (by show w.heap.size ≤ w.heap.size + 1; omega) _).store (by show w.heap.size ≤ w.heap.size + 1; omega) _).store (by show w.heap.size ≤ w.heap.size + 1; omega) _).store (by show w.heap.size ≤ w.heap.size + 1; omega) _
        clear hue
        refine bodyPost_cells_tmp2 rfl rfl Try.underlying73 rfl (by kernel_rfl) (blk_four hbs) rfl rfl ?_
        exact ⟨by rw [HR.out]; rfl, heu⟩
      · go_enter Try.func60, Try.ntmps60
        go_wp2_with fail
        refine absC (fun x1 hx1 => ?_)
        have hx : Ext w x1 := by rw [hx1]; exact (((Ext.refl _).alloc _).alloc _)
        have bp : Bl x1 (w.heap.size) #[.int .i64 x, .int .i64 y, .slice a n c] := by rw [hx1]; exact ((Bl.new (by simp)).alloc (by simp))
        have bs : Bl x1 (w.heap.size + 1) #[.int .u8 0, .int .u8 0, .int .u8 0, .int .u8 0] := by rw [hx1]; exact (Bl.new (by simp))
        have fs : Fz x1 (w.heap.size + 1) := by rw [hx1]; exact (Fz.new (by simp))
        have HE := hx
        clear hx
        clear hx1
        refine (HM.out _).mono ?_
        rintro e u1 ⟨rfl, hx⟩
        replace bp := Bl.ext hx bp (Nat.succ_pos _)
        replace fs := Fz.ext hx fs bs (Nat.succ_pos _)
        replace bs := Bl.ext hx bs (Nat.succ_pos _)
        replace HE := HE.trans hx
        clear hx
        go_wp2_with fail
        refine absB (fun ue hue => ?_)
        have hbs : Bl ue (w.heap.size + 1) #[.int .u8 0, .int .u8 0, .int .u8 0, .int .u8 0] := by rw [hue]; exact ((((bs.set (by simp)).set (by simp)).set (by simp)).set (by simp))
        have heu : Ext w ue := by rw [hue]; exact (((HE.store (by show w.heap.size ≤ w.heap.size + 1; omega) _).store (by show w.heap.size ≤ w.heap.size + 1; omega) _).store (by show w.heap.size ≤ w.heap.size + 1; omega) _).store (by show w.heap.size ≤ w.heap.size + 1; omega) _
        clear hue
        refine bodyPost_cells_tmp2 rfl rfl Try.underlying73 rfl (by kernel_rfl) (blk_four hbs) rfl rfl ?_
        exact ⟨by rw [HR.out]; rfl, heu⟩

end Go.Proofs.Ytogcmnagiepofaa
