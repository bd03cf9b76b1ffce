/- The document's fractions on rationals: differences, halves, signs, order, floors. -/
import Derived.Test.YtogcmnagiepofaaQR
import Derived.Deep.DeepCutAuto
namespace Go.Proofs.Ytogcmnagiepofaa
set_option linter.unusedVariables false
open Go Go.RowKit

theorem floor_mk {z : Int} {D : Nat} (h : D ≠ 0) : (mkRat z D).floor = z / (D : Int) := by
  rw [Rat.floor_def]
  have hn := rz_num (z := z) h
  rw [← hn.1, ← hn.2]
  unfold rz rd
  have hg := fg_pos (z := z) h
  have d1 : (fg z D : Int) ∣ z := by
    unfold fg
    exact Int.ofNat_dvd_left.2 (Nat.gcd_dvd_left _ _)
  have d2 : fg z D ∣ D := Nat.gcd_dvd_right _ _
  generalize fg z D = g at *
  obtain ⟨x, rfl⟩ := d1
  obtain ⟨y, rfl⟩ := d2
  rw [Int.mul_ediv_cancel_left _ (by omega), Nat.mul_div_cancel_left _ hg, Int.natCast_mul, Int.mul_ediv_mul_of_pos _ _ (by omega)]
theorem sgn_mk {z : Int} {D : Nat} (h : D ≠ 0) : sgn (mkRat z D).num = sgn z := by
  have hn := rz_num (z := z) h
  rw [← hn.1]
  unfold rz
  have hg := fg_pos (z := z) h
  have d1 : (fg z D : Int) ∣ z := by
    unfold fg
    exact Int.ofNat_dvd_left.2 (Nat.gcd_dvd_left _ _)
  generalize fg z D = g at *
  obtain ⟨x, rfl⟩ := d1
  rw [Int.mul_ediv_cancel_left _ (by omega)]
  have hg' : (0 : Int) < (g : Int) := by omega
  unfold sgn
  rcases Int.lt_trichotomy x 0 with h | h | h
  · have := Int.mul_neg_of_pos_of_neg hg' h
    rw [if_neg (by omega), if_pos h, if_neg (by omega), if_pos this]
  · subst h; simp
  · have := Int.mul_pos hg' h
    rw [if_neg (by omega), if_neg (by omega), if_neg (by omega), if_neg (by omega)]
/-- How two rationals stand. -/
def cmpQ (q q' : Rat) : Int := sgn (q.num * (q'.den : Int) - q'.num * (q.den : Int))
theorem cmpQ_mk {z z' : Int} {D D' : Nat} (h : D ≠ 0) (h' : D' ≠ 0) : sgn (z * (D' : Int) - z' * (D : Int)) = cmpQ (mkRat z D) (mkRat z' D') := by
  unfold cmpQ
  have hn := rz_num (z := z) h
  have hn' := rz_num (z := z') h'
  rw [← hn.1, ← hn.2, ← hn'.1, ← hn'.2]
  unfold rz rd
  have hg := fg_pos (z := z) h
  have hg' := fg_pos (z := z') h'
  have d1 : (fg z D : Int) ∣ z := by unfold fg; exact Int.ofNat_dvd_left.2 (Nat.gcd_dvd_left _ _)
  have d2 : fg z D ∣ D := Nat.gcd_dvd_right _ _
  have d1' : (fg z' D' : Int) ∣ z' := by unfold fg; exact Int.ofNat_dvd_left.2 (Nat.gcd_dvd_left _ _)
  have d2' : fg z' D' ∣ D' := Nat.gcd_dvd_right _ _
  generalize fg z D = g at *
  generalize fg z' D' = g' at *
  obtain ⟨x, rfl⟩ := d1
  obtain ⟨y, rfl⟩ := d2
  obtain ⟨x', rfl⟩ := d1'
  obtain ⟨y', rfl⟩ := d2'
  rw [Int.mul_ediv_cancel_left _ (by omega), Nat.mul_div_cancel_left _ hg, Int.mul_ediv_cancel_left _ (by omega), Nat.mul_div_cancel_left _ hg', Int.natCast_mul, Int.natCast_mul]
  have e : (g : Int) * x * ((g' : Int) * (y' : Int)) - (g' : Int) * x' * ((g : Int) * (y : Int)) = ((g : Int) * (g' : Int)) * (x * (y' : Int) - x' * (y : Int)) := by grind
  rw [e]
  have hp : (0 : Int) < (g : Int) * (g' : Int) := Int.mul_pos (by omega) (by omega)
  generalize (g : Int) * (g' : Int) = G at *
  generalize x * (y' : Int) - x' * (y : Int) = X at *
  unfold sgn
  rcases Int.lt_trichotomy X 0 with h | h | h
  · have := Int.mul_neg_of_pos_of_neg hp h
    rw [if_neg (by omega), if_pos this, if_neg (by omega), if_pos h]
  · subst h; simp
  · have := Int.mul_pos hp h
    rw [if_neg (by omega), if_neg (by omega), if_neg (by omega), if_neg (by omega)]

section
variable {b b' : Bool} {a d a' d' : Option Addr} {n c m k n' c' m' k' N N' : Nat} {q q' : Rat} {w : World}

set_option maxRecDepth 100000 in
set_option maxHeartbeats 4000000 in
theorem gq_Half (w : World) : Calls Try.prog 129 #[] w (RetF w (mkRat 1 2).num (mkRat 1 2).den) := by
  have e1 : (mkRat 1 2).num = 1 := by decide
  have e2 : (mkRat 1 2).den = 2 := by decide
  rw [e1, e2]
  clear e1 e2
  go_enter Try.func129, Try.ntmps129
  go_wp2_with fail
  refine absC (fun x1 hx1 => ?_)
  have hx : Ext w x1 := by rw [hx1]; exact ((Ext.refl _).alloc _)
  have bs : Bl x1 (w.heap.size) #[.bool false, .slice none 0 0, .slice none 0 0] := by rw [hx1]; exact (Bl.new (by simp))
  have fs : Fz x1 (w.heap.size) := by rw [hx1]; exact (Fz.new (by simp))
  have HE := hx
  clear hx
  clear hx1
  refine (r02_Of_any 1 _ (by omega) (by omega)).mono ?_
  rintro e u1 ⟨a1, n1, c1, rfl, hs1, hx⟩
  replace fs := Fz.ext hx fs bs (Nat.succ_pos _)
  replace bs := Bl.ext hx bs (Nat.succ_pos _)
  replace HE := HE.trans hx
  clear hx
  replace hs1 : Nc u1 a1 n1 c1 ((1 : Int)).natAbs := hs1
  have lsu := bs.lt (Nat.succ_pos _)
  have lsn : w.heap.size ≠ u1.heap.size := by omega
  go_wp2_with fail
  refine absB (fun ue hue => ?_)
  have hbs : Bl ue (w.heap.size) #[.bool false, .slice a1 n1 c1, .slice (some ⟨u1.heap.size, 0, none⟩) 1 1] := by rw [hue]; exact Bl.alloc (((bs.set (by simp)).set (by simp)).set (by simp)) (by simp)
  have hn1 : Nc ue a1 n1 c1 ((1 : Int)).natAbs := by
    rw [hue]
    exact (hs1.but bs (not_ints3 nb_bool nb_slice nb_slice) ((But.refl _ _).store.store.store)).ext ((Ext.refl _).alloc _)
  have h2 : Nc ue (some ⟨u1.heap.size, 0, none⟩) 1 1 2 := by rw [hue]; exact nc_litAt (by simp) 2 (by omega) (by omega) _
  have heu : Ext w ue := by rw [hue]; exact (((HE.store (by show w.heap.size ≤ w.heap.size; omega) _).store (by show w.heap.size ≤ w.heap.size; omega) _).store (by show w.heap.size ≤ w.heap.size; omega) _).alloc _
  clear hue
  refine bodyPost_cells rfl rfl Try.underlying111 rfl (by kernel_rfl) (bl_three hbs) rfl ?_
  exact RetF.of rfl rfl (by decide) hn1 h2 heu

end
end Go.Proofs.Ytogcmnagiepofaa
