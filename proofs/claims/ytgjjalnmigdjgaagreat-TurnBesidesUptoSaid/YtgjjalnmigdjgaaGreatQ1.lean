/- The program's fractions (frac): parts, what is reduced. -/
import Derived.Test.YtgjjalnmigdjgaaGreatM5
import Derived.Test.YtgjjalnmigdjgaaGreatM6
namespace Go.Proofs.YtgjjalnmigdjgaaGreat
set_option linter.unusedVariables false
open Go Go.RowKit
theorem bl_three {w : World} {g : Nat} {v0 v1 v2 : Value} (h : Bl w g #[v0, v1, v2]) : ∀ j v, (#[v0, v1, v2] : Array Value).toList[j]? = some v → w.cell? ⟨g, j, none⟩ = some v := by
  intro j v hv
  rw [h j]
  simpa using hv
/-- The call hands back a fraction in its own words: a sign, an upper and a lower part. -/
def RetF (w : World) (z : Int) (D : Nat) (e : Ending) (w' : World) : Prop :=
  ∃ a n c d m k, e = .returned (.agg #[.bool (decide (z < 0)), .slice a n c, .slice d m k]) ∧ Nc w' a n c z.natAbs ∧ Nc w' d m k D ∧ Ext w w'
theorem RetF.of {w u : World} {z z' : Int} {D D' : Nat} {b : Bool} {a d : Option Addr} {n c m k : Nat} (hz : z' = z) (hD : D' = D) (hb : b = decide (z < 0)) (h1 : Nc u a n c z.natAbs) (h2 : Nc u d m k D) (he : Ext w u) : RetF w z' D' (.returned (.agg #[.bool b, .slice a n c, .slice d m k])) u := by
  subst hz; subst hD; subst hb
  exact ⟨a, n, c, d, m, k, rfl, h1, h2, he⟩
theorem w_Make {w : World} {neg : Bool} {a : Option Addr} {n cap : Nat} {z : Int} (h : WhIn w neg a n cap z) : Calls Tryz.prog 136 #[.bool neg, .slice a n cap] w (RetW w z) := by
  obtain ⟨⟨l, hs, hl, hz⟩, hn⟩ := h
  have := w_Make_any neg a n cap l w hs hl (by omega)
  rwa [hz] at this
theorem dl_pos {V : Nat} (h : V ≠ 0) : 0 < dl V := by
  rcases Nat.eq_zero_or_pos (dl V) with h1 | h1
  · exact absurd (dl_eq_zero.1 h1) h
  · exact h1
theorem f_unit (w : World) : Calls Tryz.prog 109 #[] w (RetN w 1) := by
  go_enter Tryz.func109, Tryz.ntmps109
  go_wp2
  go_ret
  exact ⟨_, _, _, rfl, Nc.lit1 w 1 (by omega) (by omega) _, (Ext.refl _).alloc _⟩
set_option maxRecDepth 100000 in
set_option maxHeartbeats 1000000 in
theorem f_isUnit {d : Option Addr} {m c D : Nat} {w : World} (h : Nc w d m c D) : Calls Tryz.prog 172 #[.slice d m c] w fun e w' => e = .returned (.bool (decide (D = 1))) ∧ w = w' := by
  have hlen := h.len
  by_cases h1 : m = 1
  · subst h1
    obtain ⟨b, off, rfl, hc⟩ := Sl.at_int h (by omega)
    have hD0 : D ≠ 0 := by intro h0; rw [h0, dl_zero] at hlen; omega
    have hp := dig_pos B32_two hD0
    have hl0 : 0 < (dig B32 D).length := by rw [hp]; simp
    have hc0 := hc 0 hl0
    rw [Nat.add_zero] at hc0
    have hx : (dig B32 D)[0]'hl0 = D := by
      have hlt := dl_lt D
      rw [← hlen, Nat.pow_one] at hlt
      simp [hp, Nat.mod_eq_of_lt hlt]
    rw [hx] at hc0
    have hd : ((D : Int) == 1) = decide (D = 1) := by rw [Bool.eq_iff_iff]; simp; omega
    have HD := hidP hd
    clear hp hl0 hx hc hlen h hD0
    generalize decide (D = 1) = bb at *
    go_enter Tryz.func172, Tryz.ntmps172
    go_wp2
    go_ret
    exact ⟨by rw [← HD.out]; rfl, rfl⟩
  · have hD : Hid (decide (D = 1) = false) := hidP (decide_eq_false (fun h0 => h1 (by
      rw [hlen, h0]; unfold dl; rw [dig_one (by omega) (by omega)]; rfl)))
    have hz : ((m : Int) == 1) = false := by simp; omega
    clear hlen h
    go_enter Tryz.func172, Tryz.ntmps172
    go_wp2
    go_ret
    exact ⟨by rw [hD.out]; rfl, rfl⟩
set_option maxRecDepth 100000 in
set_option maxHeartbeats 2000000 in
theorem f_parts (neg : Bool) (a d : Option Addr) (n cap m c : Nat) (z : Int) (D : Nat) (w : World) (hz : WhIn w neg a n cap z) (hd : Nu w d m c D) :
    Calls Tryz.prog 88 #[.agg #[.bool neg, .slice a n cap, .slice d m c]] w (RetF w (if D = 0 then 0 else z) (if D = 0 then 1 else D)) := by
 have HZ := hidP hz; have HD := hidP hd
 clear hz hd
 by_cases hD0 : D = 0
 · rw [if_pos hD0, if_pos hD0]
   have HD0 := hidP hD0
   clear hD0
   go_enter Tryz.func88, Tryz.ntmps88
   go_wp2_with fail
   refine absC (fun x1 hx1 => ?_)
   have hx : Ext w x1 := by rw [hx1]; exact (((Ext.refl _).alloc _).alloc _)
   have bp : Bl x1 (w.heap.size) #[.bool neg, .slice a n cap, .slice d m c] := by rw [hx1]; exact ((Bl.new (by simp)).alloc (by simp))
   have bs : Bl x1 (w.heap.size + 1) #[.bool false, .slice none 0 0, .slice none 0 0] := by rw [hx1]; exact (Bl.new (by simp))
   have fs : Fz x1 (w.heap.size + 1) := by rw [hx1]; exact (Fz.new (by simp))
   have HE := hx
   clear hx
   clear hx1
   refine (n_Trim (HD.out.ext HE)).mono ?_
   rintro e u1 ⟨a1, n1, c1, rfl, hs1, hx⟩
   replace bp := q1b hx bp
   replace fs := q1f hx fs bs
   replace bs := q1b hx bs
   replace HE := HE.trans hx
   clear hx
   have hlen := hs1.len
   obtain rfl : n1 = 0 := by rw [hlen, HD0.out, dl_zero]
   clear hlen
   clear hs1
   go_wp2_with fail
   refine (f_unit _).mono ?_
   rintro e u2 ⟨a2, n2, c2, rfl, hs2, hx⟩
   replace bp := q1b hx bp
   replace fs := q1f hx fs bs
   replace bs := q1b hx bs
   replace HE := HE.trans hx
   clear hx
   have HS2 := hidP hs2
   clear hs2
   go_wp2_with fail
   refine absB (fun ue hue => ?_)
   have hbs : Bl ue (w.heap.size + 1) #[.bool false, .slice none 0 0, .slice a2 n2 c2] := by rw [hue]; exact (((bs.set (by simp)).set (by simp)).set (by simp))
   have hnc : ∀ {aa : Option Addr} {nn cc VV : Nat}, Nc u2 aa nn cc VV → Nc ue aa nn cc VV := fun h => by
    rw [hue]
    exact h.but bs (not_ints3 nb_bool nb_slice nb_slice) ((But.refl _ _).store.store.store)
   have heu : Ext w ue := by rw [hue]; exact ((HE.store (by show w.heap.size ≤ w.heap.size + 1; omega) _).store (by show w.heap.size ≤ w.heap.size + 1; omega) _).store (by show w.heap.size ≤ w.heap.size + 1; omega) _
   clear hue
   refine bodyPost_cells rfl rfl Tryz.underlying129 rfl (by kernel_rfl) (bl_three hbs) rfl ?_
   exact RetF.of rfl rfl rfl (Nc.zero _) (hnc HS2.out) heu
 rw [if_neg hD0, if_neg hD0]
 have HD0 := hidP hD0
 clear hD0
 go_enter Tryz.func88, Tryz.ntmps88
 go_wp2_with fail
 refine absC (fun x1 hx1 => ?_)
 have hx : Ext w x1 := by rw [hx1]; exact (((Ext.refl _).alloc _).alloc _)
 have bp : Bl x1 (w.heap.size) #[.bool neg, .slice a n cap, .slice d m c] := by rw [hx1]; exact ((Bl.new (by simp)).alloc (by simp))
 have bs : Bl x1 (w.heap.size + 1) #[.bool false, .slice none 0 0, .slice none 0 0] := by rw [hx1]; exact (Bl.new (by simp))
 have fs : Fz x1 (w.heap.size + 1) := by rw [hx1]; exact (Fz.new (by simp))
 have HE := hx
 clear hx
 clear hx1
 refine (n_Trim (HD.out.ext HE)).mono ?_
 rintro e u1 ⟨a1, n1, c1, rfl, hs1, hx⟩
 replace bp := q1b hx bp
 replace fs := q1f hx fs bs
 replace bs := q1b hx bs
 replace HE := HE.trans hx
 clear hx
 have hlen := hs1.len
 have hn1 : 0 < n1 := by rw [hlen]; exact dl_pos HD0.out
 have hnz : ((n1 : Int) == 0) = false := by simp; omega
 have HLEN := hidP hlen
 clear hlen
 go_wp2_with fail
 refine (w_Make (HZ.out.ext HE)).mono ?_
 rintro e u2 ⟨a2, n2, c2, rfl, hs2, hx⟩
 replace bp := q1b hx bp
 replace fs := q1f hx fs bs
 replace bs := q1b hx bs
 replace hs1 := hs1.ext hx
 replace HE := HE.trans hx
 clear hx
 replace hs2 : Nc u2 a2 n2 c2 (z).natAbs := hs2
 have HS1 := hidP hs1; have HS2 := hidP hs2
 have hzb := (rfl : decide (z < 0) = decide (z < 0))
 clear hzb
 clear hs1 hs2
 go_wp2_with fail
 refine absB (fun ue hue => ?_)
 have hbs : Bl ue (w.heap.size + 1) #[.bool (decide (z < 0)), .slice a2 n2 c2, .slice a1 n1 c1] := by rw [hue]; exact (((bs.set (by simp)).set (by simp)).set (by simp))
 have hnc : ∀ {aa : Option Addr} {nn cc VV : Nat}, Nc u2 aa nn cc VV → Nc ue aa nn cc VV := fun h => by
  rw [hue]
  exact h.but bs (not_ints3 nb_bool nb_slice nb_slice) ((But.refl _ _).store.store.store)
 have heu : Ext w ue := by rw [hue]; exact ((HE.store (by show w.heap.size ≤ w.heap.size + 1; omega) _).store (by show w.heap.size ≤ w.heap.size + 1; omega) _).store (by show w.heap.size ≤ w.heap.size + 1; omega) _
 clear hue
 refine bodyPost_cells rfl rfl Tryz.underlying129 rfl (by kernel_rfl) (bl_three hbs) rfl ?_
 exact RetF.of rfl rfl rfl (hnc HS2.out) (hnc HS1.out) heu
end Go.Proofs.YtgjjalnmigdjgaaGreat
