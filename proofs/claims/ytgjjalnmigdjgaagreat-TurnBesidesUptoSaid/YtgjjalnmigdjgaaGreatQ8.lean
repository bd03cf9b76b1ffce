/- The document's fractions (frisketref04): worth, quotients. -/
import Derived.Test.YtgjjalnmigdjgaaGreatQ7
namespace Go.Proofs.YtgjjalnmigdjgaaGreat
set_option linter.unusedVariables false
open Go Go.RowKit
/-- A fraction, in whatever words. -/
def RetI (w : World) (z : Int) (D : Nat) (e : Ending) (w' : World) : Prop :=
  ∃ b a n c d m k, e = .returned (.agg #[.bool b, .slice a n c, .slice d m k]) ∧ WhIn w' b a n c z ∧ Nu w' d m k D ∧ m ≤ 549755813888 ∧ Ext w w'
theorem whin_zero (w : World) : WhIn w false none 0 0 0 := ⟨⟨[], Sl.nil w, by simp [Ws], rfl⟩, by omega⟩
set_option maxRecDepth 100000 in
set_option maxHeartbeats 2000000 in
theorem g_worth (neg : Bool) (a d : Option Addr) (n cap m c : Nat) (z : Int) (D : Nat) (w : World) (hz : WhIn w neg a n cap z) (hd : Nu w d m c D) (hm : m ≤ 549755813888) :
    Calls Tryz.prog 92 #[.agg #[.bool neg, .slice a n cap, .slice d m c]] w (RetI w (pz z D) (pd D)) := by
 have HZ := hidP hz; have HD := hidP hd; have HM := hidP hm
 clear hz hd hm
 by_cases hD0 : D = 0
 · have HR : Hid (pz z D = 0 ∧ pd D = 1) := hidP ⟨if_pos hD0, if_pos hD0⟩
   have HBD : Hid (bitlen D = 0) := hidP (by rw [hD0]; rfl)
   clear hD0
   go_enter Tryz.func92, Tryz.ntmps92
   go_wp2_with fail
   refine absC (fun x1 hx1 => ?_)
   have hx : Ext w x1 := by rw [hx1]; exact (((Ext.refl _).alloc _).alloc _)
   have bp : Bl x1 (w.heap.size) #[.bool neg, .slice a n cap, .slice d m c] := by rw [hx1]; exact ((Bl.new (by simp)).alloc (by simp))
   have bs : Bl x1 (w.heap.size + 1) #[.bool false, .slice none 0 0, .slice none 0 0] := by rw [hx1]; exact (Bl.new (by simp))
   have fs : Fz x1 (w.heap.size + 1) := by rw [hx1]; exact (Fz.new (by simp))
   have HE := hx
   clear hx
   clear hx1
   refine (d_Bits (HD.out.ext HE)).mono ?_
   rw [HBD.out]
   rintro e u1 ⟨rfl, hx⟩
   replace bp := q1b hx bp
   replace fs := q1f hx fs bs
   replace bs := q1b hx bs
   replace HE := HE.trans hx
   clear hx
   have lsu := bs.lt (Nat.succ_pos _)
   have lsn : w.heap.size + 1 ≠ u1.heap.size := by omega
   go_wp2_with fail
   refine absB (fun ue hue => ?_)
   have hbs : Bl ue (w.heap.size + 1) #[.bool false, .slice none 0 0, .slice (some ⟨u1.heap.size, 0, none⟩) 1 1] := by rw [hue]; exact Bl.alloc (((bs.set (by simp)).set (by simp)).set (by simp)) (by simp)
   have hl2 : Nc ue (some ⟨u1.heap.size, 0, none⟩) 1 1 1 := by rw [hue]; exact nc_litAt (by simp) 1 (by omega) (by omega) _
   have heu : Ext w ue := by rw [hue]; exact (((HE.store (by show w.heap.size ≤ w.heap.size + 1; omega) _).store (by show w.heap.size ≤ w.heap.size + 1; omega) _).store (by show w.heap.size ≤ w.heap.size + 1; omega) _).alloc _
   clear hue
   refine bodyPost_cells rfl rfl Tryz.underlying29 rfl (by kernel_rfl) (bl_three hbs) rfl ?_
   exact ⟨_, _, _, _, _, _, _, rfl, by rw [HR.out.1]; exact whin_zero _, by rw [HR.out.2]; exact hl2.nu (by have := dl_small (a := 1) (by omega); omega), by omega, heu⟩
 have HR : Hid (pz z D = z ∧ pd D = D) := hidP ⟨if_neg hD0, if_neg hD0⟩
 have hbd := bits_ne hD0
 have D1 := hidP (fun u (hh : Nu u d m c D) => d_Bits hh)
 generalize bitlen D = bd at *
 clear hD0
 go_enter Tryz.func92, Tryz.ntmps92
 go_wp2_with fail
 refine absC (fun x1 hx1 => ?_)
 have hx : Ext w x1 := by rw [hx1]; exact (((Ext.refl _).alloc _).alloc _)
 have bp : Bl x1 (w.heap.size) #[.bool neg, .slice a n cap, .slice d m c] := by rw [hx1]; exact ((Bl.new (by simp)).alloc (by simp))
 have bs : Bl x1 (w.heap.size + 1) #[.bool false, .slice none 0 0, .slice none 0 0] := by rw [hx1]; exact (Bl.new (by simp))
 have fs : Fz x1 (w.heap.size + 1) := by rw [hx1]; exact (Fz.new (by simp))
 have HE := hx
 clear hx
 clear hx1
 refine (D1.out _ (HD.out.ext HE)).mono ?_
 rintro e u1 ⟨rfl, hx⟩
 replace bp := q1b hx bp
 replace fs := q1f hx fs bs
 replace bs := q1b hx bs
 replace HE := HE.trans hx
 clear hx
 go_wp2_with fail
 refine absB (fun ue hue => ?_)
 have hbs : Bl ue (w.heap.size + 1) #[.bool neg, .slice a n cap, .slice d m c] := by rw [hue]; exact (((bs.set (by simp)).set (by simp)).set (by simp))
 have heu : Ext w ue := by rw [hue]; exact (((HE.store (by show w.heap.size ≤ w.heap.size + 1; omega) _).store (by show w.heap.size ≤ w.heap.size + 1; omega) _).store (by show w.heap.size ≤ w.heap.size + 1; omega) _)
 clear hue
 refine bodyPost_cells rfl rfl Tryz.underlying29 rfl (by kernel_rfl) (bl_three hbs) rfl ?_
 exact ⟨_, _, _, _, _, _, _, rfl, by rw [HR.out.1]; exact HZ.out.ext heu, by rw [HR.out.2]; exact HD.out.ext heu, HM.out, heu⟩
set_option maxRecDepth 100000 in
set_option maxHeartbeats 2000000 in
theorem g_up (v0 : Bool) (a d : Option Addr) (n cap m c : Nat) (w : World) :
    Calls Tryz.prog 95 #[.agg #[.bool v0, .slice a n cap, .slice d m c]] w fun e w' => e = .returned (.agg #[.bool false, .slice d m c]) ∧ Ext w w' := by
  go_enter Tryz.func95, Tryz.ntmps95
  go_wp2_with fail
  refine bodyPost_cells rfl rfl Tryz.underlying27 rfl (by kernel_rfl) (cs := #[.bool false, .slice d m c]) (g := w.heap.size + 1) (two (by go_simp; try rfl) (by go_simp; try rfl)) rfl ?_
  refine ⟨rfl, ?_⟩
  first | exact ((((Ext.refl _).alloc _).alloc _).store (by show w.heap.size ≤ _; simp) _).store (by show w.heap.size ≤ _; simp) _ | exact (((Ext.refl _).alloc _).alloc _)
end Go.Proofs.YtgjjalnmigdjgaaGreat
