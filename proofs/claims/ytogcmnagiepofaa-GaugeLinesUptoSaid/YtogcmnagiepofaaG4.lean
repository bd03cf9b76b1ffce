/- Gauge: what is aside of a way, and ahead on it. -/
import Derived.Test.YtogcmnagiepofaaG3
import Derived.IntWalk
namespace Go.Proofs.Ytogcmnagiepofaa
set_option linter.unusedVariables false
open Go Go.RowKit

theorem d_RootI (n : Int) (w : World) (h1 : 0 ≤ n) (h2 : n ≤ 562949819203592) : Calls Try.prog 92 #[.int .i64 n] w fun e w' => e = .returned (.int .i64 (isq n.toNat : Nat)) ∧ Ext w w' := by
  obtain ⟨m, rfl⟩ := Int.eq_ofNat_of_zero_le h1
  rw [Int.toNat_natCast]
  exact d_Root m w (by omega)
theorem mul_bd {a b : Int} {A B : Nat} (ha : a.natAbs ≤ A) (hb : b.natAbs ≤ B) : (a * b).natAbs ≤ A * B := by
  rw [Int.natAbs_mul]; exact Nat.mul_le_mul ha hb
theorem near_bd (n d : Int) : -9007199254740992 ≤ nearI n d ∧ nearI n d ≤ 9007199254740992 := by
  unfold nearI
  split
  · next h => exact near_range h.1 h.2.1 h.2.2.1 h.2.2.2
  · omega
theorem near_zero {d : Int} (h : 1 ≤ d) : nearI 0 d = 0 := by
  unfold nearI
  split
  · rw [Int.ediv_eq_zero_of_lt (by omega) (by omega)]
  · rfl
def asX (x y x' y' h : Int) : Int := if lenI x y x' y' = 0 ∨ h < -65536 ∨ 65536 < h then 0 else nearI ((y - y') * h) (lenI x y x' y')
def asY (x y x' y' h : Int) : Int := if lenI x y x' y' = 0 ∨ h < -65536 ∨ 65536 < h then 0 else nearI ((x' - x) * h) (lenI x y x' y')
def ahX (x y x' y' n : Int) : Int := if lenI x y x' y' = 0 ∨ n < 0 ∨ 33554432 < n then x else x + nearI ((x' - x) * n) (lenI x y x' y')
def ahY (x y x' y' n : Int) : Int := if lenI x y x' y' = 0 ∨ n < 0 ∨ 33554432 < n then y else y + nearI ((y' - y) * n) (lenI x y x' y')

set_option maxRecDepth 100000 in
set_option maxHeartbeats 2000000 in
theorem d_Len (x y x' y' : Int) (w : World) :
    Calls Try.prog 21 #[.agg #[.int .i64 x, .int .i64 y], .agg #[.int .i64 x', .int .i64 y']] w fun e w' => e = .returned (.int .i64 (lenI x y x' y' : Nat)) ∧ Ext w w' := by
  have ha := fun u => d_Fits x y u
  have hb := fun u => d_Fits x' y' u
  cases hfx : fitP x y
  · have hr := lenI_no (.inl hfx : fitP x y = false ∨ fitP x' y' = false)
    have HR := hidP hr
    rw [hfx] at ha
    have HA := hidP ha
    clear ha hb hr hfx
    generalize lenI x y x' y' = rr at *
    go_enter Try.func21, Try.ntmps21
    go_wp2_with fail
    refine absC (fun x1 hx1 => ?_)
    have hx : Ext w x1 := by rw [hx1]; exact (((Ext.refl _).alloc _).alloc _)
    have bp : Bl x1 (w.heap.size) #[.int .i64 x, .int .i64 y] := by rw [hx1]; exact ((Bl.new (by simp)).alloc (by simp))
    have bq : Bl x1 (w.heap.size + 1) #[.int .i64 x', .int .i64 y'] := by rw [hx1]; exact (Bl.new (by simp))
    have HE := hx
    clear hx
    clear hx1
    refine (HA.out _).mono ?_
    rintro e u1 ⟨rfl, hx⟩
    replace bp := Bl.ext hx bp (Nat.succ_pos _)
    replace bq := Bl.ext hx bq (Nat.succ_pos _)
    replace HE := HE.trans hx
    clear hx
    go_wp2_with fail
    go_ret
    exact ⟨congrArg (fun x : Nat => Ending.returned (Value.int .i64 (x : Int))) HR.out.symm, HE⟩
  · cases hfy : fitP x' y'
    · have hr := lenI_no (.inr hfy : fitP x y = false ∨ fitP x' y' = false)
      have HR := hidP hr
      rw [hfx] at ha
      rw [hfy] at hb
      have HA := hidP ha; have HB := hidP hb
      clear ha hb hr hfx hfy
      generalize lenI x y x' y' = rr at *
      go_enter Try.func21, Try.ntmps21
      go_wp2_with fail
      refine absC (fun x1 hx1 => ?_)
      have hx : Ext w x1 := by rw [hx1]; exact (((Ext.refl _).alloc _).alloc _)
      have bp : Bl x1 (w.heap.size) #[.int .i64 x, .int .i64 y] := by rw [hx1]; exact ((Bl.new (by simp)).alloc (by simp))
      have bq : Bl x1 (w.heap.size + 1) #[.int .i64 x', .int .i64 y'] := by rw [hx1]; exact (Bl.new (by simp))
      have HE := hx
      clear hx
      clear hx1
      refine (HA.out _).mono ?_
      rintro e u1 ⟨rfl, hx⟩
      replace bp := Bl.ext hx bp (Nat.succ_pos _)
      replace bq := Bl.ext hx bq (Nat.succ_pos _)
      replace HE := HE.trans hx
      clear hx
      go_wp2_with fail
      refine (HB.out _).mono ?_
      rintro e u2 ⟨rfl, hx⟩
      replace bp := Bl.ext hx bp (Nat.succ_pos _)
      replace bq := Bl.ext hx bq (Nat.succ_pos _)
      replace HE := HE.trans hx
      clear hx
      go_wp2_with fail
      go_ret
      exact ⟨congrArg (fun x : Nat => Ending.returned (Value.int .i64 (x : Int))) HR.out.symm, HE⟩
    · have hr := lenI_yes hfx hfy
      rw [← sq_neg x x', ← sq_neg y y'] at hr
      have hf1 := fitP_iff.1 hfx
      have hf2 := fitP_iff.1 hfy
      have s1 := sq_bd (t := x - x') (by omega) (by omega)
      have s2 := sq_bd (t := y - y') (by omega) (by omega)
      rw [hfx] at ha
      rw [hfy] at hb
      have HR := hidP hr
      have HA := hidP ha; have HB := hidP hb
      clear ha hb hr hfx hfy
      generalize lenI x y x' y' = rr at *
      obtain ⟨s3, s4⟩ := s1
      obtain ⟨s5, s6⟩ := s2
      obtain ⟨⟨f1, f2⟩, f3, f4⟩ := hf1
      obtain ⟨⟨f5, f6⟩, f7, f8⟩ := hf2
      go_enter Try.func21, Try.ntmps21
      go_wp2_with fail
      refine absC (fun x1 hx1 => ?_)
      have hx : Ext w x1 := by rw [hx1]; exact (((Ext.refl _).alloc _).alloc _)
      have bp : Bl x1 (w.heap.size) #[.int .i64 x, .int .i64 y] := by rw [hx1]; exact ((Bl.new (by simp)).alloc (by simp))
      have bq : Bl x1 (w.heap.size + 1) #[.int .i64 x', .int .i64 y'] := by rw [hx1]; exact (Bl.new (by simp))
      have HE := hx
      clear hx
      clear hx1
      refine (HA.out _).mono ?_
      rintro e u1 ⟨rfl, hx⟩
      replace bp := Bl.ext hx bp (Nat.succ_pos _)
      replace bq := Bl.ext hx bq (Nat.succ_pos _)
      replace HE := HE.trans hx
      clear hx
      go_wp2_with fail
      refine (HB.out _).mono ?_
      rintro e u2 ⟨rfl, hx⟩
      replace bp := Bl.ext hx bp (Nat.succ_pos _)
      replace bq := Bl.ext hx bq (Nat.succ_pos _)
      replace HE := HE.trans hx
      clear hx
      go_wp2_with fail
      refine (d_RootI ((x - x') * (x - x') + (y - y') * (y - y')) _ (by omega) (by omega)).mono ?_
      rw [← HR.out]
      rintro e u3 ⟨rfl, hx⟩
      replace bp := Bl.ext hx bp (Nat.succ_pos _)
      replace bq := Bl.ext hx bq (Nat.succ_pos _)
      replace HE := HE.trans hx
      clear hx
      go_wp2_with fail
      go_ret
      exact ⟨rfl, HE⟩

set_option maxRecDepth 100000 in
set_option maxHeartbeats 4000000 in
theorem g_Aside (x y x' y' h : Int) (w : World) (i1 : -9223372036854775808 ≤ h) (i2 : h ≤ 9223372036854775807) :
    Calls Try.prog 22 #[.agg #[.int .i64 x, .int .i64 y], .agg #[.int .i64 x', .int .i64 y'], .int .i64 h] w fun e w' => e = .returned (.agg #[.int .i64 (asX x y x' y' h), .int .i64 (asY x y x' y' h)]) ∧ Ext w w' := by
  have HL := hidP (fun u => g_Len x y x' y' u)
  have hfit := @lenI_fit x y x' y'
  have hlb := lenI_bd x y x' y'
  by_cases h0 : lenI x y x' y' = 0
  · have HX : Hid (asX x y x' y' h = 0) := hidP (if_pos (.inl h0))
    have HY : Hid (asY x y x' y' h = 0) := hidP (if_pos (.inl h0))
    generalize asX x y x' y' h = vx at *
    generalize asY x y x' y' h = vy at *
    generalize lenI x y x' y' = ln at *
    subst h0
    clear hfit hlb
    go_enter Try.func22, Try.ntmps22
    go_wp2_with fail
    refine absC (fun x1 hx1 => ?_)
    have hx : Ext w x1 := by rw [hx1]; exact ((((Ext.refl _).alloc _).alloc _).alloc _)
    have bp : Bl x1 (w.heap.size) #[.int .i64 x, .int .i64 y] := by rw [hx1]; exact (((Bl.new (by simp)).alloc (by simp)).alloc (by simp))
    have bq : Bl x1 (w.heap.size + 1) #[.int .i64 x', .int .i64 y'] := by rw [hx1]; exact ((Bl.new (by simp)).alloc (by simp))
    have bs : Bl x1 (w.heap.size + 1 + 1) #[.int .i64 0, .int .i64 0] := by rw [hx1]; exact (Bl.new (by simp))
    have fs : Fz x1 (w.heap.size + 1 + 1) := by rw [hx1]; exact (Fz.new (by simp))
    have HE := hx
    clear hx
    clear hx1
    refine (HL.out _).mono ?_
    rintro e u1 ⟨rfl, hx⟩
    replace bp := Bl.ext hx bp (Nat.succ_pos _)
    replace bq := Bl.ext hx bq (Nat.succ_pos _)
    replace fs := Fz.ext hx fs bs (Nat.succ_pos _)
    replace bs := Bl.ext hx bs (Nat.succ_pos _)
    replace HE := HE.trans hx
    clear hx
    go_wp2_with fail
    refine absB (fun ue hue => ?_)
    have hbs : Bl ue (w.heap.size + 1 + 1) #[.int .i64 (0), .int .i64 (0)] := by rw [hue]; exact ((bs.set (by simp)).set (by simp))
    have heu : Ext w ue := by rw [hue]; exact (HE.store (by show w.heap.size ≤ w.heap.size + 1 + 1; omega) _).store (by show w.heap.size ≤ w.heap.size + 1 + 1; omega) _
    clear hue
    refine bodyPost_cells rfl rfl Try.underlying26 rfl (by kernel_rfl) (bl_two hbs) rfl ?_
    exact ⟨by rw [HX.out, HY.out], heu⟩
  · by_cases h1 : -65536 ≤ h
    · by_cases h2 : h ≤ 65536
      · have HX : Hid (asX x y x' y' h = nearI ((y - y') * h) (lenI x y x' y')) := hidP (if_neg (by omega))
        have HY : Hid (asY x y x' y' h = nearI ((x' - x) * h) (lenI x y x' y')) := hidP (if_neg (by omega))
        obtain ⟨hfa, hfb⟩ := hfit h0
        have hf1 := fitP_iff.1 hfa
        have hf2 := fitP_iff.1 hfb
        have HDL := hidP (fun u => g_delta x y x' y' u hfa hfb)
        have e1 : (y - y') * h = -(y' - y) * h := by rw [show y - y' = -(y' - y) by omega]
        have hx0 := HX.out
        rw [e1] at hx0
        clear HX
        have HX := hidP hx0
        clear hx0
        have m1 := mul_bd (a := -(y' - y)) (b := h) (A := 16777214) (B := 65536) (by omega) (by omega)
        have m2 := mul_bd (a := x' - x) (b := h) (A := 16777214) (B := 65536) (by omega) (by omega)
        have t1 : -16777214 ≤ x' - x ∧ x' - x ≤ 16777214 := by omega
        have t2 : -16777214 ≤ y' - y ∧ y' - y ≤ 16777214 := by omega
        generalize x' - x = dx at *
        generalize y' - y = dy at *
        generalize asX x y x' y' h = vx at *
        generalize asY x y x' y' h = vy at *
        generalize lenI x y x' y' = ln at *
        have hz : ((ln : Int) == 0) = false := by simp; omega
        have b1 : -1099511627776 ≤ -dy * h := by omega
        have b2 : -dy * h ≤ 1099511627776 := by omega
        have b3 : -1099511627776 ≤ dx * h := by omega
        have b4 : dx * h ≤ 1099511627776 := by omega
        obtain ⟨t3, t4⟩ := t1
        obtain ⟨t5, t6⟩ := t2
        have HZ := hidP h0
        have l0 : (0 : Int) ≤ (ln : Int) := by omega
        have l1 : (ln : Int) ≤ 33554431 := by omega
        clear hf1 hf2 hfa hfb h0 hfit hlb e1 m1 m2
        go_enter Try.func22, Try.ntmps22
        go_wp2_with fail
        refine absC (fun x1 hx1 => ?_)
        have hx : Ext w x1 := by rw [hx1]; exact ((((Ext.refl _).alloc _).alloc _).alloc _)
        have bp : Bl x1 (w.heap.size) #[.int .i64 x, .int .i64 y] := by rw [hx1]; exact (((Bl.new (by simp)).alloc (by simp)).alloc (by simp))
        have bq : Bl x1 (w.heap.size + 1) #[.int .i64 x', .int .i64 y'] := by rw [hx1]; exact ((Bl.new (by simp)).alloc (by simp))
        have bs : Bl x1 (w.heap.size + 1 + 1) #[.int .i64 0, .int .i64 0] := by rw [hx1]; exact (Bl.new (by simp))
        have fs : Fz x1 (w.heap.size + 1 + 1) := by rw [hx1]; exact (Fz.new (by simp))
        have HE := hx
        clear hx
        clear hx1
        refine (HL.out _).mono ?_
        rintro e u1 ⟨rfl, hx⟩
        replace bp := Bl.ext hx bp (Nat.succ_pos _)
        replace bq := Bl.ext hx bq (Nat.succ_pos _)
        replace fs := Fz.ext hx fs bs (Nat.succ_pos _)
        replace bs := Bl.ext hx bs (Nat.succ_pos _)
        replace HE := HE.trans hx
        clear hx
        go_wp2_with fail
        refine (HDL.out _).mono ?_
        rintro e u2 ⟨rfl, hx⟩
        replace bp := Bl.ext hx bp (Nat.succ_pos _)
        replace bq := Bl.ext hx bq (Nat.succ_pos _)
        replace fs := Fz.ext hx fs bs (Nat.succ_pos _)
        replace bs := Bl.ext hx bs (Nat.succ_pos _)
        replace HE := HE.trans hx
        clear hx
        go_wp2_with fail
        refine (g_Near (-dy * h) (ln : Int) _ (by omega) (by omega) (by omega) (by omega)).mono ?_
        rintro e w2 ⟨rfl, rfl⟩
        rw [← HX.out]
        go_wp2_with fail
        refine (g_Near (dx * h) (ln : Int) _ (by omega) (by omega) (by omega) (by omega)).mono ?_
        rintro e w2 ⟨rfl, rfl⟩
        rw [← HY.out]
        go_wp2_with fail
        refine absB (fun ue hue => ?_)
        have hbs : Bl ue (w.heap.size + 1 + 1) #[.int .i64 (vx), .int .i64 (vy)] := by rw [hue]; exact ((bs.set (by simp)).set (by simp))
        have heu : Ext w ue := by rw [hue]; exact (HE.store (by show w.heap.size ≤ w.heap.size + 1 + 1; omega) _).store (by show w.heap.size ≤ w.heap.size + 1 + 1; omega) _
        clear hue
        refine bodyPost_cells rfl rfl Try.underlying26 rfl (by kernel_rfl) (bl_two hbs) rfl ?_
        exact ⟨rfl, heu⟩
      · have HX : Hid (asX x y x' y' h = 0) := hidP (if_pos (.inr (.inr (by omega))))
        have HY : Hid (asY x y x' y' h = 0) := hidP (if_pos (.inr (.inr (by omega))))
        generalize asX x y x' y' h = vx at *
        generalize asY x y x' y' h = vy at *
        generalize lenI x y x' y' = ln at *
        have hd : decide (65536 < h) = true := decide_eq_true (by omega)
        have hz : ((ln : Int) == 0) = false := by simp; omega
        have HZ := hidP h0
        clear h0 hfit hlb
        go_enter Try.func22, Try.ntmps22
        go_wp2_with fail
        refine absC (fun x1 hx1 => ?_)
        have hx : Ext w x1 := by rw [hx1]; exact ((((Ext.refl _).alloc _).alloc _).alloc _)
        have bp : Bl x1 (w.heap.size) #[.int .i64 x, .int .i64 y] := by rw [hx1]; exact (((Bl.new (by simp)).alloc (by simp)).alloc (by simp))
        have bq : Bl x1 (w.heap.size + 1) #[.int .i64 x', .int .i64 y'] := by rw [hx1]; exact ((Bl.new (by simp)).alloc (by simp))
        have bs : Bl x1 (w.heap.size + 1 + 1) #[.int .i64 0, .int .i64 0] := by rw [hx1]; exact (Bl.new (by simp))
        have fs : Fz x1 (w.heap.size + 1 + 1) := by rw [hx1]; exact (Fz.new (by simp))
        have HE := hx
        clear hx
        clear hx1
        refine (HL.out _).mono ?_
        rintro e u1 ⟨rfl, hx⟩
        replace bp := Bl.ext hx bp (Nat.succ_pos _)
        replace bq := Bl.ext hx bq (Nat.succ_pos _)
        replace fs := Fz.ext hx fs bs (Nat.succ_pos _)
        replace bs := Bl.ext hx bs (Nat.succ_pos _)
        replace HE := HE.trans hx
        clear hx
        go_wp2_with fail
        refine absB (fun ue hue => ?_)
        have hbs : Bl ue (w.heap.size + 1 + 1) #[.int .i64 (0), .int .i64 (0)] := by rw [hue]; exact ((bs.set (by simp)).set (by simp))
        have heu : Ext w ue := by rw [hue]; exact (HE.store (by show w.heap.size ≤ w.heap.size + 1 + 1; omega) _).store (by show w.heap.size ≤ w.heap.size + 1 + 1; omega) _
        clear hue
        refine bodyPost_cells rfl rfl Try.underlying26 rfl (by kernel_rfl) (bl_two hbs) rfl ?_
        exact ⟨by rw [HX.out, HY.out], heu⟩
    · have HX : Hid (asX x y x' y' h = 0) := hidP (if_pos (.inr (.inl (by omega))))
      have HY : Hid (asY x y x' y' h = 0) := hidP (if_pos (.inr (.inl (by omega))))
      generalize asX x y x' y' h = vx at *
      generalize asY x y x' y' h = vy at *
      generalize lenI x y x' y' = ln at *
      have hd : decide (h < -65536) = true := decide_eq_true (by omega)
      have hz : ((ln : Int) == 0) = false := by simp; omega
      have HZ := hidP h0
      clear h0 hfit hlb
      go_enter Try.func22, Try.ntmps22
      go_wp2_with fail
      refine absC (fun x1 hx1 => ?_)
      have hx : Ext w x1 := by rw [hx1]; exact ((((Ext.refl _).alloc _).alloc _).alloc _)
      have bp : Bl x1 (w.heap.size) #[.int .i64 x, .int .i64 y] := by rw [hx1]; exact (((Bl.new (by simp)).alloc (by simp)).alloc (by simp))
      have bq : Bl x1 (w.heap.size + 1) #[.int .i64 x', .int .i64 y'] := by rw [hx1]; exact ((Bl.new (by simp)).alloc (by simp))
      have bs : Bl x1 (w.heap.size + 1 + 1) #[.int .i64 0, .int .i64 0] := by rw [hx1]; exact (Bl.new (by simp))
      have fs : Fz x1 (w.heap.size + 1 + 1) := by rw [hx1]; exact (Fz.new (by simp))
      have HE := hx
      clear hx
      clear hx1
      refine (HL.out _).mono ?_
      rintro e u1 ⟨rfl, hx⟩
      replace bp := Bl.ext hx bp (Nat.succ_pos _)
      replace bq := Bl.ext hx bq (Nat.succ_pos _)
      replace fs := Fz.ext hx fs bs (Nat.succ_pos _)
      replace bs := Bl.ext hx bs (Nat.succ_pos _)
      replace HE := HE.trans hx
      clear hx
      go_wp2_with fail
      refine absB (fun ue hue => ?_)
      have hbs : Bl ue (w.heap.size + 1 + 1) #[.int .i64 (0), .int .i64 (0)] := by rw [hue]; exact ((bs.set (by simp)).set (by simp))
      have heu : Ext w ue := by rw [hue]; exact (HE.store (by show w.heap.size ≤ w.heap.size + 1 + 1; omega) _).store (by show w.heap.size ≤ w.heap.size + 1 + 1; omega) _
      clear hue
      refine bodyPost_cells rfl rfl Try.underlying26 rfl (by kernel_rfl) (bl_two hbs) rfl ?_
      exact ⟨by rw [HX.out, HY.out], heu⟩

set_option maxRecDepth 100000 in
set_option maxHeartbeats 4000000 in
theorem d_Aside (x y x' y' h : Int) (w : World) (i1 : -9223372036854775808 ≤ h) (i2 : h ≤ 9223372036854775807) :
    Calls Try.prog 23 #[.agg #[.int .i64 x, .int .i64 y], .agg #[.int .i64 x', .int .i64 y'], .int .i64 h] w fun e w' => e = .returned (.agg #[.int .i64 (asX x y x' y' h), .int .i64 (asY x y x' y' h)]) ∧ Ext w w' := by
  have HL := hidP (fun u => d_Len x y x' y' u)
  have hfit := @lenI_fit x y x' y'
  have hlb := lenI_bd x y x' y'
  by_cases h0 : lenI x y x' y' = 0
  · have HX : Hid (asX x y x' y' h = 0) := hidP (if_pos (.inl h0))
    have HY : Hid (asY x y x' y' h = 0) := hidP (if_pos (.inl h0))
    generalize asX x y x' y' h = vx at *
    generalize asY x y x' y' h = vy at *
    generalize lenI x y x' y' = ln at *
    subst h0
    clear hfit hlb
    go_enter Try.func23, Try.ntmps23
    go_wp2_with fail
    refine absC (fun x1 hx1 => ?_)
    have hx : Ext w x1 := by rw [hx1]; exact ((((Ext.refl _).alloc _).alloc _).alloc _)
    have bp : Bl x1 (w.heap.size) #[.int .i64 x, .int .i64 y] := by rw [hx1]; exact (((Bl.new (by simp)).alloc (by simp)).alloc (by simp))
    have bq : Bl x1 (w.heap.size + 1) #[.int .i64 x', .int .i64 y'] := by rw [hx1]; exact ((Bl.new (by simp)).alloc (by simp))
    have bs : Bl x1 (w.heap.size + 1 + 1) #[.int .i64 0, .int .i64 0] := by rw [hx1]; exact (Bl.new (by simp))
    have fs : Fz x1 (w.heap.size + 1 + 1) := by rw [hx1]; exact (Fz.new (by simp))
    have HE := hx
    clear hx
    clear hx1
    refine (HL.out _).mono ?_
    rintro e u1 ⟨rfl, hx⟩
    replace bp := Bl.ext hx bp (Nat.succ_pos _)
    replace bq := Bl.ext hx bq (Nat.succ_pos _)
    replace fs := Fz.ext hx fs bs (Nat.succ_pos _)
    replace bs := Bl.ext hx bs (Nat.succ_pos _)
    replace HE := HE.trans hx
    clear hx
    go_wp2_with fail
    refine absB (fun ue hue => ?_)
    have hbs : Bl ue (w.heap.size + 1 + 1) #[.int .i64 (0), .int .i64 (0)] := by rw [hue]; exact ((bs.set (by simp)).set (by simp))
    have heu : Ext w ue := by rw [hue]; exact (HE.store (by show w.heap.size ≤ w.heap.size + 1 + 1; omega) _).store (by show w.heap.size ≤ w.heap.size + 1 + 1; omega) _
    clear hue
    refine bodyPost_cells rfl rfl Try.underlying26 rfl (by kernel_rfl) (bl_two hbs) rfl ?_
    exact ⟨by rw [HX.out, HY.out], heu⟩
  · by_cases h1 : -65536 ≤ h
    · by_cases h2 : h ≤ 65536
      · have HX : Hid (asX x y x' y' h = nearI ((y - y') * h) (lenI x y x' y')) := hidP (if_neg (by omega))
        have HY : Hid (asY x y x' y' h = nearI ((x' - x) * h) (lenI x y x' y')) := hidP (if_neg (by omega))
        obtain ⟨hfa, hfb⟩ := hfit h0
        have hf1 := fitP_iff.1 hfa
        have hf2 := fitP_iff.1 hfb
        have m1 := mul_bd (a := (y - y')) (b := h) (A := 16777214) (B := 65536) (by omega) (by omega)
        have m2 := mul_bd (a := (x' - x)) (b := h) (A := 16777214) (B := 65536) (by omega) (by omega)
        have b1 : -562949953421312 ≤ (y - y') * h := by omega
        have b2 : (y - y') * h ≤ 562949953421312 := by omega
        have b3 : -562949953421312 ≤ (x' - x) * h := by omega
        have b4 : (x' - x) * h ≤ 562949953421312 := by omega
        generalize asX x y x' y' h = vx at *
        generalize asY x y x' y' h = vy at *
        generalize lenI x y x' y' = ln at *
        have hz : ((ln : Int) == 0) = false := by simp; omega
        have HZ := hidP h0
        have l0 : (0 : Int) ≤ (ln : Int) := by omega
        have l1 : (ln : Int) ≤ 33554431 := by omega
        obtain ⟨⟨g1, g2⟩, g3, g4⟩ := hf1
        obtain ⟨⟨g5, g6⟩, g7, g8⟩ := hf2
        clear hfa hfb h0 hfit hlb m1 m2
        go_enter Try.func23, Try.ntmps23
        go_wp2_with fail
        refine absC (fun x1 hx1 => ?_)
        have hx : Ext w x1 := by rw [hx1]; exact ((((Ext.refl _).alloc _).alloc _).alloc _)
        have bp : Bl x1 (w.heap.size) #[.int .i64 x, .int .i64 y] := by rw [hx1]; exact (((Bl.new (by simp)).alloc (by simp)).alloc (by simp))
        have bq : Bl x1 (w.heap.size + 1) #[.int .i64 x', .int .i64 y'] := by rw [hx1]; exact ((Bl.new (by simp)).alloc (by simp))
        have bs : Bl x1 (w.heap.size + 1 + 1) #[.int .i64 0, .int .i64 0] := by rw [hx1]; exact (Bl.new (by simp))
        have fs : Fz x1 (w.heap.size + 1 + 1) := by rw [hx1]; exact (Fz.new (by simp))
        have HE := hx
        clear hx
        clear hx1
        refine (HL.out _).mono ?_
        rintro e u1 ⟨rfl, hx⟩
        replace bp := Bl.ext hx bp (Nat.succ_pos _)
        replace bq := Bl.ext hx bq (Nat.succ_pos _)
        replace fs := Fz.ext hx fs bs (Nat.succ_pos _)
        replace bs := Bl.ext hx bs (Nat.succ_pos _)
        replace HE := HE.trans hx
        clear hx
        go_wp2_with fail
        have HW0 := hidP (IntWalk.i64_in (y - y') (by omega))
        have HW1 := hidP (IntWalk.i64_in ((y - y') * h) (by omega))
        have HW2 := hidP (IntWalk.i64_in (x' - x) (by omega))
        have HW3 := hidP (IntWalk.i64_in ((x' - x) * h) (by omega))
        refine wp_region_plan (R := Ext) (.q 0 (.q 1 (.q 2 (.q 3 (.q 4 (.q 5 (.q 6 (.q 7 (.q 9 (.q 10 (.q 11 (.q 12 (.q 13 (.q 14 (.q 15 (.q 16 (.l 8 (.l 17 (.q 18 (.b 19 .done)))))))))))))))))))) (by kernel_rfl) (by kernel_rfl) (by kernel_rfl) (by kernel_rfl) Ext.refl (fun _ _ _ => Ext.trans) ?_
        refine absE (fun x2 hx2 => ?_)
        have hx : Ext u1 x2 := by rw [hx2]; exact (Ext.refl _).drew
        replace bp := Bl.ext hx bp (Nat.succ_pos _)
        replace bq := Bl.ext hx bq (Nat.succ_pos _)
        replace fs := Fz.ext hx fs bs (Nat.succ_pos _)
        replace bs := Bl.ext hx bs (Nat.succ_pos _)
        replace HE := HE.trans hx
        clear hx
        clear hx2
        repeat (refine wpE_q (v := ?_) rfl rfl (fun u hu => ?_) ?_; rotate_left 1; (focus (have kp := Bl.ext hu bp (Nat.succ_pos _); have kq := Bl.ext hu bq (Nat.succ_pos _); have ks := Bl.ext hu bs (Nat.succ_pos _); have wq0 := HW0.out; have wq1 := HW1.out; have wq2 := HW2.out; have wq3 := HW3.out; go_simp; (try rfl))); simp only [Act.put, List.setIfInBounds_toArray, List.set_cons_zero, List.set_cons_succ])
        refine wpE_l rfl rfl (fun K hK => ?_)
        go_simp
        refine (d_Near ((y - y') * h) (ln : Int) _ (by omega) (by omega) (by omega) (by omega)).mono ?_
        rw [← HX.out]
        rintro e u2 ⟨rfl, hx⟩
        refine hK.out _ _ hx ?_
        clear hK K
        try simp only [Act.put, List.setIfInBounds_toArray, List.set_cons_zero, List.set_cons_succ]
        replace bp := Bl.ext hx bp (Nat.succ_pos _)
        replace bq := Bl.ext hx bq (Nat.succ_pos _)
        replace fs := Fz.ext hx fs bs (Nat.succ_pos _)
        replace bs := Bl.ext hx bs (Nat.succ_pos _)
        replace HE := HE.trans hx
        clear hx
        refine wpE_l rfl rfl (fun K hK => ?_)
        go_simp
        refine (d_Near ((x' - x) * h) (ln : Int) _ (by omega) (by omega) (by omega) (by omega)).mono ?_
        rw [← HY.out]
        rintro e u3 ⟨rfl, hx⟩
        refine hK.out _ _ hx ?_
        clear hK K
        try simp only [Act.put, List.setIfInBounds_toArray, List.set_cons_zero, List.set_cons_succ]
        replace bp := Bl.ext hx bp (Nat.succ_pos _)
        replace bq := Bl.ext hx bq (Nat.succ_pos _)
        replace fs := Fz.ext hx fs bs (Nat.succ_pos _)
        replace bs := Bl.ext hx bs (Nat.succ_pos _)
        replace HE := HE.trans hx
        clear hx
        repeat (refine wpE_q (v := ?_) rfl rfl (fun u hu => ?_) ?_; rotate_left 1; (focus (have kp := Bl.ext hu bp (Nat.succ_pos _); have kq := Bl.ext hu bq (Nat.succ_pos _); have ks := Bl.ext hu bs (Nat.succ_pos _); have wq0 := HW0.out; have wq1 := HW1.out; have wq2 := HW2.out; have wq3 := HW3.out; go_simp; (try rfl))); simp only [Act.put, List.setIfInBounds_toArray, List.set_cons_zero, List.set_cons_succ])
        refine wpE_b rfl rfl (fun K hK => ?_)
        go_simp
        refine hK.out _ _ ?_
        clear hK K
        try simp only [Act.put, List.setIfInBounds_toArray, List.set_cons_zero, List.set_cons_succ]
        refine absE (fun x3 hx3 => ?_)
        have hbut : But u3 x3 (w.heap.size + 1 + 1) := by rw [hx3]; exact (But.refl _ _).store.store
        have hbn : Bl x3 (w.heap.size + 1 + 1) #[.int .i64 vx, .int .i64 vy] := by rw [hx3]; exact (Bl.set (Bl.set bs (by simp)) (by simp))
        replace bp := But.bl hbut bp (Nat.succ_pos _) (by omega)
        replace bq := But.bl hbut bq (Nat.succ_pos _) (by omega)
        replace fs : Fz x3 (w.heap.size + 1 + 1) := by rw [hx3]; exact (Fz.set (Fz.set fs))
        replace HE : Ext w x3 := by rw [hx3]; exact ((HE.store (by show w.heap.size ≤ w.heap.size + 1 + 1; omega) _).store (by show w.heap.size ≤ w.heap.size + 1 + 1; omega) _)
        clear bs hbut hx3
        have bs := hbn
        clear hbn
        refine wpE_done ?_
        go_wp2_with fail
        refine bodyPost_cells rfl rfl Try.underlying26 rfl (by kernel_rfl) (bl_two bs) rfl ?_
        exact ⟨rfl, HE⟩
      · have HX : Hid (asX x y x' y' h = 0) := hidP (if_pos (.inr (.inr (by omega))))
        have HY : Hid (asY x y x' y' h = 0) := hidP (if_pos (.inr (.inr (by omega))))
        generalize asX x y x' y' h = vx at *
        generalize asY x y x' y' h = vy at *
        generalize lenI x y x' y' = ln at *
        have hd : decide (65536 < h) = true := decide_eq_true (by omega)
        have hz : ((ln : Int) == 0) = false := by simp; omega
        have HZ := hidP h0
        clear h0 hfit hlb
        go_enter Try.func23, Try.ntmps23
        go_wp2_with fail
        refine absC (fun x1 hx1 => ?_)
        have hx : Ext w x1 := by rw [hx1]; exact ((((Ext.refl _).alloc _).alloc _).alloc _)
        have bp : Bl x1 (w.heap.size) #[.int .i64 x, .int .i64 y] := by rw [hx1]; exact (((Bl.new (by simp)).alloc (by simp)).alloc (by simp))
        have bq : Bl x1 (w.heap.size + 1) #[.int .i64 x', .int .i64 y'] := by rw [hx1]; exact ((Bl.new (by simp)).alloc (by simp))
        have bs : Bl x1 (w.heap.size + 1 + 1) #[.int .i64 0, .int .i64 0] := by rw [hx1]; exact (Bl.new (by simp))
        have fs : Fz x1 (w.heap.size + 1 + 1) := by rw [hx1]; exact (Fz.new (by simp))
        have HE := hx
        clear hx
        clear hx1
        refine (HL.out _).mono ?_
        rintro e u1 ⟨rfl, hx⟩
        replace bp := Bl.ext hx bp (Nat.succ_pos _)
        replace bq := Bl.ext hx bq (Nat.succ_pos _)
        replace fs := Fz.ext hx fs bs (Nat.succ_pos _)
        replace bs := Bl.ext hx bs (Nat.succ_pos _)
        replace HE := HE.trans hx
        clear hx
        go_wp2_with fail
        refine absB (fun ue hue => ?_)
        have hbs : Bl ue (w.heap.size + 1 + 1) #[.int .i64 (0), .int .i64 (0)] := by rw [hue]; exact ((bs.set (by simp)).set (by simp))
        have heu : Ext w ue := by rw [hue]; exact (HE.store (by show w.heap.size ≤ w.heap.size + 1 + 1; omega) _).store (by show w.heap.size ≤ w.heap.size + 1 + 1; omega) _
        clear hue
        refine bodyPost_cells rfl rfl Try.underlying26 rfl (by kernel_rfl) (bl_two hbs) rfl ?_
        exact ⟨by rw [HX.out, HY.out], heu⟩
    · have HX : Hid (asX x y x' y' h = 0) := hidP (if_pos (.inr (.inl (by omega))))
      have HY : Hid (asY x y x' y' h = 0) := hidP (if_pos (.inr (.inl (by omega))))
      generalize asX x y x' y' h = vx at *
      generalize asY x y x' y' h = vy at *
      generalize lenI x y x' y' = ln at *
      have hd : decide (h < -65536) = true := decide_eq_true (by omega)
      have hz : ((ln : Int) == 0) = false := by simp; omega
      have HZ := hidP h0
      clear h0 hfit hlb
      go_enter Try.func23, Try.ntmps23
      go_wp2_with fail
      refine absC (fun x1 hx1 => ?_)
      have hx : Ext w x1 := by rw [hx1]; exact ((((Ext.refl _).alloc _).alloc _).alloc _)
      have bp : Bl x1 (w.heap.size) #[.int .i64 x, .int .i64 y] := by rw [hx1]; exact (((Bl.new (by simp)).alloc (by simp)).alloc (by simp))
      have bq : Bl x1 (w.heap.size + 1) #[.int .i64 x', .int .i64 y'] := by rw [hx1]; exact ((Bl.new (by simp)).alloc (by simp))
      have bs : Bl x1 (w.heap.size + 1 + 1) #[.int .i64 0, .int .i64 0] := by rw [hx1]; exact (Bl.new (by simp))
      have fs : Fz x1 (w.heap.size + 1 + 1) := by rw [hx1]; exact (Fz.new (by simp))
      have HE := hx
      clear hx
      clear hx1
      refine (HL.out _).mono ?_
      rintro e u1 ⟨rfl, hx⟩
      replace bp := Bl.ext hx bp (Nat.succ_pos _)
      replace bq := Bl.ext hx bq (Nat.succ_pos _)
      replace fs := Fz.ext hx fs bs (Nat.succ_pos _)
      replace bs := Bl.ext hx bs (Nat.succ_pos _)
      replace HE := HE.trans hx
      clear hx
      go_wp2_with fail
      refine absB (fun ue hue => ?_)
      have hbs : Bl ue (w.heap.size + 1 + 1) #[.int .i64 (0), .int .i64 (0)] := by rw [hue]; exact ((bs.set (by simp)).set (by simp))
      have heu : Ext w ue := by rw [hue]; exact (HE.store (by show w.heap.size ≤ w.heap.size + 1 + 1; omega) _).store (by show w.heap.size ≤ w.heap.size + 1 + 1; omega) _
      clear hue
      refine bodyPost_cells rfl rfl Try.underlying26 rfl (by kernel_rfl) (bl_two hbs) rfl ?_
      exact ⟨by rw [HX.out, HY.out], heu⟩

theorem g_NearE (n d : Int) (w : World) (i1 : -9223372036854775808 ≤ n) (i2 : n ≤ 9223372036854775807) (i3 : -9223372036854775808 ≤ d) (i4 : d ≤ 9223372036854775807) :
    Calls Try.prog 17 #[.int .i64 n, .int .i64 d] w fun e w' => e = .returned (.int .i64 (nearI n d)) ∧ Ext w w' :=
  (g_Near n d w i1 i2 i3 i4).mono fun _ _ ⟨h1, h2⟩ => ⟨h1, h2 ▸ Ext.refl _⟩

set_option maxRecDepth 100000 in
set_option maxHeartbeats 4000000 in
theorem g_Ahead (x y x' y' n : Int) (w : World) (i1 : -9223372036854775808 ≤ n) (i2 : n ≤ 9223372036854775807) :
    Calls Try.prog 24 #[.agg #[.int .i64 x, .int .i64 y], .agg #[.int .i64 x', .int .i64 y'], .int .i64 n] w fun e w' => e = .returned (.agg #[.int .i64 (ahX x y x' y' n), .int .i64 (ahY x y x' y' n)]) ∧ Ext w w' := by
  have HL := hidP (fun u => g_Len x y x' y' u)
  have hfit := @lenI_fit x y x' y'
  have hlb := lenI_bd x y x' y'
  by_cases h0 : lenI x y x' y' = 0
  · have HX : Hid (ahX x y x' y' n = x) := hidP (if_pos (.inl h0))
    have HY : Hid (ahY x y x' y' n = y) := hidP (if_pos (.inl h0))
    generalize ahX x y x' y' n = vx at *
    generalize ahY x y x' y' n = vy at *
    generalize lenI x y x' y' = ln at *
    subst h0
    clear hfit hlb
    go_enter Try.func24, Try.ntmps24
    go_wp2_with fail
    refine absC (fun x1 hx1 => ?_)
    have hx : Ext w x1 := by rw [hx1]; exact ((((Ext.refl _).alloc _).alloc _).alloc _)
    have bp : Bl x1 (w.heap.size) #[.int .i64 x, .int .i64 y] := by rw [hx1]; exact (((Bl.new (by simp)).alloc (by simp)).alloc (by simp))
    have bq : Bl x1 (w.heap.size + 1) #[.int .i64 x', .int .i64 y'] := by rw [hx1]; exact ((Bl.new (by simp)).alloc (by simp))
    have bs : Bl x1 (w.heap.size + 1 + 1) #[.int .i64 0, .int .i64 0] := by rw [hx1]; exact (Bl.new (by simp))
    have fs : Fz x1 (w.heap.size + 1 + 1) := by rw [hx1]; exact (Fz.new (by simp))
    have HE := hx
    clear hx
    clear hx1
    refine (HL.out _).mono ?_
    rintro e u1 ⟨rfl, hx⟩
    replace bp := Bl.ext hx bp (Nat.succ_pos _)
    replace bq := Bl.ext hx bq (Nat.succ_pos _)
    replace fs := Fz.ext hx fs bs (Nat.succ_pos _)
    replace bs := Bl.ext hx bs (Nat.succ_pos _)
    replace HE := HE.trans hx
    clear hx
    go_wp2_with fail
    refine absB (fun ue hue => ?_)
    have hbs : Bl ue (w.heap.size + 1 + 1) #[.int .i64 (x), .int .i64 (y)] := by rw [hue]; exact ((bs.set (by simp)).set (by simp))
    have heu : Ext w ue := by rw [hue]; exact (HE.store (by show w.heap.size ≤ w.heap.size + 1 + 1; omega) _).store (by show w.heap.size ≤ w.heap.size + 1 + 1; omega) _
    clear hue
    refine bodyPost_cells rfl rfl Try.underlying26 rfl (by kernel_rfl) (bl_two hbs) rfl ?_
    exact ⟨by rw [HX.out, HY.out], heu⟩
  · by_cases h1 : 0 ≤ n
    · by_cases h2 : n ≤ 33554432
      · have HX : Hid (ahX x y x' y' n = x + nearI ((x' - x) * n) (lenI x y x' y')) := hidP (if_neg (by omega))
        have HY : Hid (ahY x y x' y' n = y + nearI ((y' - y) * n) (lenI x y x' y')) := hidP (if_neg (by omega))
        obtain ⟨hfa, hfb⟩ := hfit h0
        have hf1 := fitP_iff.1 hfa
        have hf2 := fitP_iff.1 hfb
        have m1 := mul_bd (a := (x' - x)) (b := n) (A := 16777214) (B := 33554432) (by omega) (by omega)
        have m2 := mul_bd (a := (y' - y)) (b := n) (A := 16777214) (B := 33554432) (by omega) (by omega)
        have b1 : -562949953421312 ≤ (x' - x) * n := by omega
        have b2 : (x' - x) * n ≤ 562949953421312 := by omega
        have b3 : -562949953421312 ≤ (y' - y) * n := by omega
        have b4 : (y' - y) * n ≤ 562949953421312 := by omega
        have nb1 := near_bd ((x' - x) * n) (lenI x y x' y')
        have nb2 := near_bd ((y' - y) * n) (lenI x y x' y')
        have HNX := hidP (rfl : nearI ((x' - x) * n) (lenI x y x' y') = nearI ((x' - x) * n) (lenI x y x' y'))
        have HNY := hidP (rfl : nearI ((y' - y) * n) (lenI x y x' y') = nearI ((y' - y) * n) (lenI x y x' y'))
        generalize hnx : nearI ((x' - x) * n) (lenI x y x' y') = nx at *
        generalize hny : nearI ((y' - y) * n) (lenI x y x' y') = ny at *
        obtain ⟨nb3, nb4⟩ := nb1
        obtain ⟨nb5, nb6⟩ := nb2
        clear HNX HNY
        have HDL := hidP (fun u => g_delta x y x' y' u hfa hfb)
        have t1 : -16777214 ≤ x' - x := by omega
        have t2 : x' - x ≤ 16777214 := by omega
        have t3 : -16777214 ≤ y' - y := by omega
        have t4 : y' - y ≤ 16777214 := by omega
        generalize x' - x = dx at *
        generalize y' - y = dy at *
        generalize ahX x y x' y' n = vx at *
        generalize ahY x y x' y' n = vy at *
        generalize lenI x y x' y' = ln at *
        have hz : ((ln : Int) == 0) = false := by simp; omega
        have HZ := hidP h0
        have l0 : (0 : Int) ≤ (ln : Int) := by omega
        have l1 : (ln : Int) ≤ 33554431 := by omega
        obtain ⟨⟨g1, g2⟩, g3, g4⟩ := hf1
        obtain ⟨⟨g5, g6⟩, g7, g8⟩ := hf2
        have HNX := hidP hnx
        have HNY := hidP hny
        clear hnx hny hfa hfb h0 hfit hlb m1 m2
        go_enter Try.func24, Try.ntmps24
        go_wp2_with fail
        refine absC (fun x1 hx1 => ?_)
        have hx : Ext w x1 := by rw [hx1]; exact ((((Ext.refl _).alloc _).alloc _).alloc _)
        have bp : Bl x1 (w.heap.size) #[.int .i64 x, .int .i64 y] := by rw [hx1]; exact (((Bl.new (by simp)).alloc (by simp)).alloc (by simp))
        have bq : Bl x1 (w.heap.size + 1) #[.int .i64 x', .int .i64 y'] := by rw [hx1]; exact ((Bl.new (by simp)).alloc (by simp))
        have bs : Bl x1 (w.heap.size + 1 + 1) #[.int .i64 0, .int .i64 0] := by rw [hx1]; exact (Bl.new (by simp))
        have fs : Fz x1 (w.heap.size + 1 + 1) := by rw [hx1]; exact (Fz.new (by simp))
        have HE := hx
        clear hx
        clear hx1
        refine (HL.out _).mono ?_
        rintro e u1 ⟨rfl, hx⟩
        replace bp := Bl.ext hx bp (Nat.succ_pos _)
        replace bq := Bl.ext hx bq (Nat.succ_pos _)
        replace fs := Fz.ext hx fs bs (Nat.succ_pos _)
        replace bs := Bl.ext hx bs (Nat.succ_pos _)
        replace HE := HE.trans hx
        clear hx
        go_wp2_with fail
        refine (HDL.out _).mono ?_
        rintro e u2 ⟨rfl, hx⟩
        replace bp := Bl.ext hx bp (Nat.succ_pos _)
        replace bq := Bl.ext hx bq (Nat.succ_pos _)
        replace fs := Fz.ext hx fs bs (Nat.succ_pos _)
        replace bs := Bl.ext hx bs (Nat.succ_pos _)
        replace HE := HE.trans hx
        clear hx
        go_wp2_with fail
        have HW0 := hidP (IntWalk.i64_in (dx * n) (by omega))
        have HW1 := hidP (IntWalk.i64_in (dy * n) (by omega))
        have HW2 := hidP (IntWalk.i64_in (x + nx) (by omega))
        have HW3 := hidP (IntWalk.i64_in (y + ny) (by omega))
        refine wp_region_plan (R := Ext) (.q 0 (.q 1 (.q 2 (.q 3 (.q 4 (.q 5 (.q 8 (.q 9 (.q 10 (.q 11 (.q 12 (.q 13 (.l 6 (.q 7 (.l 14 (.q 15 (.q 16 (.b 17 .done)))))))))))))))))) (by kernel_rfl) (by kernel_rfl) (by kernel_rfl) (by kernel_rfl) Ext.refl (fun _ _ _ => Ext.trans) ?_
        refine absE (fun x2 hx2 => ?_)
        have hx : Ext u2 x2 := by rw [hx2]; exact (Ext.refl _).drew
        replace bp := Bl.ext hx bp (Nat.succ_pos _)
        replace bq := Bl.ext hx bq (Nat.succ_pos _)
        replace fs := Fz.ext hx fs bs (Nat.succ_pos _)
        replace bs := Bl.ext hx bs (Nat.succ_pos _)
        replace HE := HE.trans hx
        clear hx
        clear hx2
        repeat (refine wpE_q (v := ?_) rfl rfl (fun u hu => ?_) ?_; rotate_left 1; (focus (have kp := Bl.ext hu bp (Nat.succ_pos _); have kq := Bl.ext hu bq (Nat.succ_pos _); have ks := Bl.ext hu bs (Nat.succ_pos _); have wq0 := HW0.out; have wq1 := HW1.out; have wq2 := HW2.out; have wq3 := HW3.out; go_simp; (try rfl))); simp only [Act.put, List.setIfInBounds_toArray, List.set_cons_zero, List.set_cons_succ])
        refine wpE_l rfl rfl (fun K hK => ?_)
        go_simp
        refine (g_NearE (dx * n) (ln : Int) _ (by omega) (by omega) (by omega) (by omega)).mono ?_
        rw [HNX.out]
        rintro e u3 ⟨rfl, hx⟩
        refine hK.out _ _ hx ?_
        clear hK K
        try simp only [Act.put, List.setIfInBounds_toArray, List.set_cons_zero, List.set_cons_succ]
        replace bp := Bl.ext hx bp (Nat.succ_pos _)
        replace bq := Bl.ext hx bq (Nat.succ_pos _)
        replace fs := Fz.ext hx fs bs (Nat.succ_pos _)
        replace bs := Bl.ext hx bs (Nat.succ_pos _)
        replace HE := HE.trans hx
        clear hx
        repeat (refine wpE_q (v := ?_) rfl rfl (fun u hu => ?_) ?_; rotate_left 1; (focus (have kp := Bl.ext hu bp (Nat.succ_pos _); have kq := Bl.ext hu bq (Nat.succ_pos _); have ks := Bl.ext hu bs (Nat.succ_pos _); have wq0 := HW0.out; have wq1 := HW1.out; have wq2 := HW2.out; have wq3 := HW3.out; go_simp; (try rfl))); simp only [Act.put, List.setIfInBounds_toArray, List.set_cons_zero, List.set_cons_succ])
        refine wpE_l rfl rfl (fun K hK => ?_)
        go_simp
        refine (g_NearE (dy * n) (ln : Int) _ (by omega) (by omega) (by omega) (by omega)).mono ?_
        rw [HNY.out]
        rintro e u4 ⟨rfl, hx⟩
        refine hK.out _ _ hx ?_
        clear hK K
        try simp only [Act.put, List.setIfInBounds_toArray, List.set_cons_zero, List.set_cons_succ]
        replace bp := Bl.ext hx bp (Nat.succ_pos _)
        replace bq := Bl.ext hx bq (Nat.succ_pos _)
        replace fs := Fz.ext hx fs bs (Nat.succ_pos _)
        replace bs := Bl.ext hx bs (Nat.succ_pos _)
        replace HE := HE.trans hx
        clear hx
        repeat (refine wpE_q (v := ?_) rfl rfl (fun u hu => ?_) ?_; rotate_left 1; (focus (have kp := Bl.ext hu bp (Nat.succ_pos _); have kq := Bl.ext hu bq (Nat.succ_pos _); have ks := Bl.ext hu bs (Nat.succ_pos _); have wq0 := HW0.out; have wq1 := HW1.out; have wq2 := HW2.out; have wq3 := HW3.out; go_simp; (try rfl))); simp only [Act.put, List.setIfInBounds_toArray, List.set_cons_zero, List.set_cons_succ])
        refine wpE_b rfl rfl (fun K hK => ?_)
        go_simp
        refine hK.out _ _ ?_
        clear hK K
        try simp only [Act.put, List.setIfInBounds_toArray, List.set_cons_zero, List.set_cons_succ]
        refine absE (fun x3 hx3 => ?_)
        have hbut : But u4 x3 (w.heap.size + 1 + 1) := by rw [hx3]; exact (But.refl _ _).store.store
        have hbn : Bl x3 (w.heap.size + 1 + 1) #[.int .i64 (x + nx), .int .i64 (y + ny)] := by rw [hx3]; exact (Bl.set (Bl.set bs (by simp)) (by simp))
        replace bp := But.bl hbut bp (Nat.succ_pos _) (by omega)
        replace bq := But.bl hbut bq (Nat.succ_pos _) (by omega)
        replace fs : Fz x3 (w.heap.size + 1 + 1) := by rw [hx3]; exact (Fz.set (Fz.set fs))
        replace HE : Ext w x3 := by rw [hx3]; exact ((HE.store (by show w.heap.size ≤ w.heap.size + 1 + 1; omega) _).store (by show w.heap.size ≤ w.heap.size + 1 + 1; omega) _)
        clear bs hbut hx3
        have bs := hbn
        clear hbn
        refine wpE_done ?_
        go_wp2_with fail
        refine bodyPost_cells rfl rfl Try.underlying26 rfl (by kernel_rfl) (bl_two bs) rfl ?_
        exact ⟨by rw [HX.out, HY.out], HE⟩
      · have HX : Hid (ahX x y x' y' n = x) := hidP (if_pos (.inr (.inr (by omega))))
        have HY : Hid (ahY x y x' y' n = y) := hidP (if_pos (.inr (.inr (by omega))))
        generalize ahX x y x' y' n = vx at *
        generalize ahY x y x' y' n = vy at *
        generalize lenI x y x' y' = ln at *
        have hd : decide (33554432 < n) = true := decide_eq_true (by omega)
        have hz : ((ln : Int) == 0) = false := by simp; omega
        have HZ := hidP h0
        clear h0 hfit hlb
        go_enter Try.func24, Try.ntmps24
        go_wp2_with fail
        refine absC (fun x1 hx1 => ?_)
        have hx : Ext w x1 := by rw [hx1]; exact ((((Ext.refl _).alloc _).alloc _).alloc _)
        have bp : Bl x1 (w.heap.size) #[.int .i64 x, .int .i64 y] := by rw [hx1]; exact (((Bl.new (by simp)).alloc (by simp)).alloc (by simp))
        have bq : Bl x1 (w.heap.size + 1) #[.int .i64 x', .int .i64 y'] := by rw [hx1]; exact ((Bl.new (by simp)).alloc (by simp))
        have bs : Bl x1 (w.heap.size + 1 + 1) #[.int .i64 0, .int .i64 0] := by rw [hx1]; exact (Bl.new (by simp))
        have fs : Fz x1 (w.heap.size + 1 + 1) := by rw [hx1]; exact (Fz.new (by simp))
        have HE := hx
        clear hx
        clear hx1
        refine (HL.out _).mono ?_
        rintro e u1 ⟨rfl, hx⟩
        replace bp := Bl.ext hx bp (Nat.succ_pos _)
        replace bq := Bl.ext hx bq (Nat.succ_pos _)
        replace fs := Fz.ext hx fs bs (Nat.succ_pos _)
        replace bs := Bl.ext hx bs (Nat.succ_pos _)
        replace HE := HE.trans hx
        clear hx
        go_wp2_with fail
        refine absB (fun ue hue => ?_)
        have hbs : Bl ue (w.heap.size + 1 + 1) #[.int .i64 (x), .int .i64 (y)] := by rw [hue]; exact ((bs.set (by simp)).set (by simp))
        have heu : Ext w ue := by rw [hue]; exact (HE.store (by show w.heap.size ≤ w.heap.size + 1 + 1; omega) _).store (by show w.heap.size ≤ w.heap.size + 1 + 1; omega) _
        clear hue
        refine bodyPost_cells rfl rfl Try.underlying26 rfl (by kernel_rfl) (bl_two hbs) rfl ?_
        exact ⟨by rw [HX.out, HY.out], heu⟩
    · have HX : Hid (ahX x y x' y' n = x) := hidP (if_pos (.inr (.inl (by omega))))
      have HY : Hid (ahY x y x' y' n = y) := hidP (if_pos (.inr (.inl (by omega))))
      generalize ahX x y x' y' n = vx at *
      generalize ahY x y x' y' n = vy at *
      generalize lenI x y x' y' = ln at *
      have hd : decide (n < 0) = true := decide_eq_true (by omega)
      have hz : ((ln : Int) == 0) = false := by simp; omega
      have HZ := hidP h0
      clear h0 hfit hlb
      go_enter Try.func24, Try.ntmps24
      go_wp2_with fail
      refine absC (fun x1 hx1 => ?_)
      have hx : Ext w x1 := by rw [hx1]; exact ((((Ext.refl _).alloc _).alloc _).alloc _)
      have bp : Bl x1 (w.heap.size) #[.int .i64 x, .int .i64 y] := by rw [hx1]; exact (((Bl.new (by simp)).alloc (by simp)).alloc (by simp))
      have bq : Bl x1 (w.heap.size + 1) #[.int .i64 x', .int .i64 y'] := by rw [hx1]; exact ((Bl.new (by simp)).alloc (by simp))
      have bs : Bl x1 (w.heap.size + 1 + 1) #[.int .i64 0, .int .i64 0] := by rw [hx1]; exact (Bl.new (by simp))
      have fs : Fz x1 (w.heap.size + 1 + 1) := by rw [hx1]; exact (Fz.new (by simp))
      have HE := hx
      clear hx
      clear hx1
      refine (HL.out _).mono ?_
      rintro e u1 ⟨rfl, hx⟩
      replace bp := Bl.ext hx bp (Nat.succ_pos _)
      replace bq := Bl.ext hx bq (Nat.succ_pos _)
      replace fs := Fz.ext hx fs bs (Nat.succ_pos _)
      replace bs := Bl.ext hx bs (Nat.succ_pos _)
      replace HE := HE.trans hx
      clear hx
      go_wp2_with fail
      refine absB (fun ue hue => ?_)
      have hbs : Bl ue (w.heap.size + 1 + 1) #[.int .i64 (x), .int .i64 (y)] := by rw [hue]; exact ((bs.set (by simp)).set (by simp))
      have heu : Ext w ue := by rw [hue]; exact (HE.store (by show w.heap.size ≤ w.heap.size + 1 + 1; omega) _).store (by show w.heap.size ≤ w.heap.size + 1 + 1; omega) _
      clear hue
      refine bodyPost_cells rfl rfl Try.underlying26 rfl (by kernel_rfl) (bl_two hbs) rfl ?_
      exact ⟨by rw [HX.out, HY.out], heu⟩

set_option maxRecDepth 100000 in
set_option maxHeartbeats 4000000 in
theorem d_Ahead (x y x' y' n : Int) (w : World) (i1 : -9223372036854775808 ≤ n) (i2 : n ≤ 9223372036854775807) :
    Calls Try.prog 25 #[.agg #[.int .i64 x, .int .i64 y], .agg #[.int .i64 x', .int .i64 y'], .int .i64 n] w fun e w' => e = .returned (.agg #[.int .i64 (ahX x y x' y' n), .int .i64 (ahY x y x' y' n)]) ∧ Ext w w' := by
  have HL := hidP (fun u => d_Len x y x' y' u)
  have hfit := @lenI_fit x y x' y'
  have hlb := lenI_bd x y x' y'
  by_cases h0 : lenI x y x' y' = 0
  · have HX : Hid (ahX x y x' y' n = x) := hidP (if_pos (.inl h0))
    have HY : Hid (ahY x y x' y' n = y) := hidP (if_pos (.inl h0))
    generalize ahX x y x' y' n = vx at *
    generalize ahY x y x' y' n = vy at *
    generalize lenI x y x' y' = ln at *
    subst h0
    clear hfit hlb
    go_enter Try.func25, Try.ntmps25
    go_wp2_with fail
    refine absC (fun x1 hx1 => ?_)
    have hx : Ext w x1 := by rw [hx1]; exact ((((Ext.refl _).alloc _).alloc _).alloc _)
    have bp : Bl x1 (w.heap.size) #[.int .i64 x, .int .i64 y] := by rw [hx1]; exact (((Bl.new (by simp)).alloc (by simp)).alloc (by simp))
    have bq : Bl x1 (w.heap.size + 1) #[.int .i64 x', .int .i64 y'] := by rw [hx1]; exact ((Bl.new (by simp)).alloc (by simp))
    have bs : Bl x1 (w.heap.size + 1 + 1) #[.int .i64 0, .int .i64 0] := by rw [hx1]; exact (Bl.new (by simp))
    have fs : Fz x1 (w.heap.size + 1 + 1) := by rw [hx1]; exact (Fz.new (by simp))
    have HE := hx
    clear hx
    clear hx1
    refine (HL.out _).mono ?_
    rintro e u1 ⟨rfl, hx⟩
    replace bp := Bl.ext hx bp (Nat.succ_pos _)
    replace bq := Bl.ext hx bq (Nat.succ_pos _)
    replace fs := Fz.ext hx fs bs (Nat.succ_pos _)
    replace bs := Bl.ext hx bs (Nat.succ_pos _)
    replace HE := HE.trans hx
    clear hx
    go_wp2_with fail
    refine absB (fun ue hue => ?_)
    have hbs : Bl ue (w.heap.size + 1 + 1) #[.int .i64 (x), .int .i64 (y)] := by rw [hue]; exact ((bs.set (by simp)).set (by simp))
    have heu : Ext w ue := by rw [hue]; exact (HE.store (by show w.heap.size ≤ w.heap.size + 1 + 1; omega) _).store (by show w.heap.size ≤ w.heap.size + 1 + 1; omega) _
    clear hue
    refine bodyPost_cells rfl rfl Try.underlying26 rfl (by kernel_rfl) (bl_two hbs) rfl ?_
    exact ⟨by rw [HX.out, HY.out], heu⟩
  · by_cases h1 : 0 ≤ n
    · by_cases h2 : n ≤ 33554432
      · have HX : Hid (ahX x y x' y' n = x + nearI ((x' - x) * n) (lenI x y x' y')) := hidP (if_neg (by omega))
        have HY : Hid (ahY x y x' y' n = y + nearI ((y' - y) * n) (lenI x y x' y')) := hidP (if_neg (by omega))
        obtain ⟨hfa, hfb⟩ := hfit h0
        have hf1 := fitP_iff.1 hfa
        have hf2 := fitP_iff.1 hfb
        have m1 := mul_bd (a := (x' - x)) (b := n) (A := 16777214) (B := 33554432) (by omega) (by omega)
        have m2 := mul_bd (a := (y' - y)) (b := n) (A := 16777214) (B := 33554432) (by omega) (by omega)
        have b1 : -562949953421312 ≤ (x' - x) * n := by omega
        have b2 : (x' - x) * n ≤ 562949953421312 := by omega
        have b3 : -562949953421312 ≤ (y' - y) * n := by omega
        have b4 : (y' - y) * n ≤ 562949953421312 := by omega
        have nb1 := near_bd ((x' - x) * n) (lenI x y x' y')
        have nb2 := near_bd ((y' - y) * n) (lenI x y x' y')
        have HNX := hidP (rfl : nearI ((x' - x) * n) (lenI x y x' y') = nearI ((x' - x) * n) (lenI x y x' y'))
        have HNY := hidP (rfl : nearI ((y' - y) * n) (lenI x y x' y') = nearI ((y' - y) * n) (lenI x y x' y'))
        generalize hnx : nearI ((x' - x) * n) (lenI x y x' y') = nx at *
        generalize hny : nearI ((y' - y) * n) (lenI x y x' y') = ny at *
        obtain ⟨nb3, nb4⟩ := nb1
        obtain ⟨nb5, nb6⟩ := nb2
        clear HNX HNY
        generalize ahX x y x' y' n = vx at *
        generalize ahY x y x' y' n = vy at *
        generalize lenI x y x' y' = ln at *
        have hz : ((ln : Int) == 0) = false := by simp; omega
        have HZ := hidP h0
        have l0 : (0 : Int) ≤ (ln : Int) := by omega
        have l1 : (ln : Int) ≤ 33554431 := by omega
        obtain ⟨⟨g1, g2⟩, g3, g4⟩ := hf1
        obtain ⟨⟨g5, g6⟩, g7, g8⟩ := hf2
        have HNX := hidP hnx
        have HNY := hidP hny
        clear hnx hny hfa hfb h0 hfit hlb m1 m2
        go_enter Try.func25, Try.ntmps25
        go_wp2_with fail
        refine absC (fun x1 hx1 => ?_)
        have hx : Ext w x1 := by rw [hx1]; exact ((((Ext.refl _).alloc _).alloc _).alloc _)
        have bp : Bl x1 (w.heap.size) #[.int .i64 x, .int .i64 y] := by rw [hx1]; exact (((Bl.new (by simp)).alloc (by simp)).alloc (by simp))
        have bq : Bl x1 (w.heap.size + 1) #[.int .i64 x', .int .i64 y'] := by rw [hx1]; exact ((Bl.new (by simp)).alloc (by simp))
        have bs : Bl x1 (w.heap.size + 1 + 1) #[.int .i64 0, .int .i64 0] := by rw [hx1]; exact (Bl.new (by simp))
        have fs : Fz x1 (w.heap.size + 1 + 1) := by rw [hx1]; exact (Fz.new (by simp))
        have HE := hx
        clear hx
        clear hx1
        refine (HL.out _).mono ?_
        rintro e u1 ⟨rfl, hx⟩
        replace bp := Bl.ext hx bp (Nat.succ_pos _)
        replace bq := Bl.ext hx bq (Nat.succ_pos _)
        replace fs := Fz.ext hx fs bs (Nat.succ_pos _)
        replace bs := Bl.ext hx bs (Nat.succ_pos _)
        replace HE := HE.trans hx
        clear hx
        go_wp2_with fail
        have HW0 := hidP (IntWalk.i64_in (x' - x) (by omega))
        have HW1 := hidP (IntWalk.i64_in ((x' - x) * n) (by omega))
        have HW2 := hidP (IntWalk.i64_in (y' - y) (by omega))
        have HW3 := hidP (IntWalk.i64_in ((y' - y) * n) (by omega))
        have HW4 := hidP (IntWalk.i64_in (x + nx) (by omega))
        have HW5 := hidP (IntWalk.i64_in (y + ny) (by omega))
        refine wp_region_plan (R := Ext) (.q 0 (.q 1 (.q 2 (.q 3 (.q 4 (.q 5 (.q 6 (.q 7 (.q 8 (.q 9 (.q 12 (.q 13 (.q 14 (.q 15 (.q 16 (.q 17 (.q 18 (.q 19 (.q 20 (.q 21 (.l 10 (.q 11 (.l 22 (.q 23 (.q 24 (.b 25 .done)))))))))))))))))))))))))) (by kernel_rfl) (by kernel_rfl) (by kernel_rfl) (by kernel_rfl) Ext.refl (fun _ _ _ => Ext.trans) ?_
        refine absE (fun x2 hx2 => ?_)
        have hx : Ext u1 x2 := by rw [hx2]; exact (Ext.refl _).drew
        replace bp := Bl.ext hx bp (Nat.succ_pos _)
        replace bq := Bl.ext hx bq (Nat.succ_pos _)
        replace fs := Fz.ext hx fs bs (Nat.succ_pos _)
        replace bs := Bl.ext hx bs (Nat.succ_pos _)
        replace HE := HE.trans hx
        clear hx
        clear hx2
        repeat (refine wpE_q (v := ?_) rfl rfl (fun u hu => ?_) ?_; rotate_left 1; (focus (have kp := Bl.ext hu bp (Nat.succ_pos _); have kq := Bl.ext hu bq (Nat.succ_pos _); have ks := Bl.ext hu bs (Nat.succ_pos _); have wq0 := HW0.out; have wq1 := HW1.out; have wq2 := HW2.out; have wq3 := HW3.out; have wq4 := HW4.out; have wq5 := HW5.out; go_simp; (try rfl))); simp only [Act.put, List.setIfInBounds_toArray, List.set_cons_zero, List.set_cons_succ])
        refine wpE_l rfl rfl (fun K hK => ?_)
        go_simp
        refine (d_Near ((x' - x) * n) (ln : Int) _ (by omega) (by omega) (by omega) (by omega)).mono ?_
        rw [HNX.out]
        rintro e u3 ⟨rfl, hx⟩
        refine hK.out _ _ hx ?_
        clear hK K
        try simp only [Act.put, List.setIfInBounds_toArray, List.set_cons_zero, List.set_cons_succ]
        replace bp := Bl.ext hx bp (Nat.succ_pos _)
        replace bq := Bl.ext hx bq (Nat.succ_pos _)
        replace fs := Fz.ext hx fs bs (Nat.succ_pos _)
        replace bs := Bl.ext hx bs (Nat.succ_pos _)
        replace HE := HE.trans hx
        clear hx
        repeat (refine wpE_q (v := ?_) rfl rfl (fun u hu => ?_) ?_; rotate_left 1; (focus (have kp := Bl.ext hu bp (Nat.succ_pos _); have kq := Bl.ext hu bq (Nat.succ_pos _); have ks := Bl.ext hu bs (Nat.succ_pos _); have wq0 := HW0.out; have wq1 := HW1.out; have wq2 := HW2.out; have wq3 := HW3.out; have wq4 := HW4.out; have wq5 := HW5.out; go_simp; (try rfl))); simp only [Act.put, List.setIfInBounds_toArray, List.set_cons_zero, List.set_cons_succ])
        refine wpE_l rfl rfl (fun K hK => ?_)
        go_simp
        refine (d_Near ((y' - y) * n) (ln : Int) _ (by omega) (by omega) (by omega) (by omega)).mono ?_
        rw [HNY.out]
        rintro e u4 ⟨rfl, hx⟩
        refine hK.out _ _ hx ?_
        clear hK K
        try simp only [Act.put, List.setIfInBounds_toArray, List.set_cons_zero, List.set_cons_succ]
        replace bp := Bl.ext hx bp (Nat.succ_pos _)
        replace bq := Bl.ext hx bq (Nat.succ_pos _)
        replace fs := Fz.ext hx fs bs (Nat.succ_pos _)
        replace bs := Bl.ext hx bs (Nat.succ_pos _)
        replace HE := HE.trans hx
        clear hx
        repeat (refine wpE_q (v := ?_) rfl rfl (fun u hu => ?_) ?_; rotate_left 1; (focus (have kp := Bl.ext hu bp (Nat.succ_pos _); have kq := Bl.ext hu bq (Nat.succ_pos _); have ks := Bl.ext hu bs (Nat.succ_pos _); have wq0 := HW0.out; have wq1 := HW1.out; have wq2 := HW2.out; have wq3 := HW3.out; have wq4 := HW4.out; have wq5 := HW5.out; go_simp; (try rfl))); simp only [Act.put, List.setIfInBounds_toArray, List.set_cons_zero, List.set_cons_succ])
        refine wpE_b rfl rfl (fun K hK => ?_)
        go_simp
        refine hK.out _ _ ?_
        clear hK K
        try simp only [Act.put, List.setIfInBounds_toArray, List.set_cons_zero, List.set_cons_succ]
        refine absE (fun x3 hx3 => ?_)
        have hbut : But u4 x3 (w.heap.size + 1 + 1) := by rw [hx3]; exact (But.refl _ _).store.store
        have hbn : Bl x3 (w.heap.size + 1 + 1) #[.int .i64 (x + nx), .int .i64 (y + ny)] := by rw [hx3]; exact (Bl.set (Bl.set bs (by simp)) (by simp))
        replace bp := But.bl hbut bp (Nat.succ_pos _) (by omega)
        replace bq := But.bl hbut bq (Nat.succ_pos _) (by omega)
        replace fs : Fz x3 (w.heap.size + 1 + 1) := by rw [hx3]; exact (Fz.set (Fz.set fs))
        replace HE : Ext w x3 := by rw [hx3]; exact ((HE.store (by show w.heap.size ≤ w.heap.size + 1 + 1; omega) _).store (by show w.heap.size ≤ w.heap.size + 1 + 1; omega) _)
        clear bs hbut hx3
        have bs := hbn
        clear hbn
        refine wpE_done ?_
        go_wp2_with fail
        refine bodyPost_cells rfl rfl Try.underlying26 rfl (by kernel_rfl) (bl_two bs) rfl ?_
        exact ⟨by rw [HX.out, HY.out], HE⟩
      · have HX : Hid (ahX x y x' y' n = x) := hidP (if_pos (.inr (.inr (by omega))))
        have HY : Hid (ahY x y x' y' n = y) := hidP (if_pos (.inr (.inr (by omega))))
        generalize ahX x y x' y' n = vx at *
        generalize ahY x y x' y' n = vy at *
        generalize lenI x y x' y' = ln at *
        have hd : decide (33554432 < n) = true := decide_eq_true (by omega)
        have hz : ((ln : Int) == 0) = false := by simp; omega
        have HZ := hidP h0
        clear h0 hfit hlb
        go_enter Try.func25, Try.ntmps25
        go_wp2_with fail
        refine absC (fun x1 hx1 => ?_)
        have hx : Ext w x1 := by rw [hx1]; exact ((((Ext.refl _).alloc _).alloc _).alloc _)
        have bp : Bl x1 (w.heap.size) #[.int .i64 x, .int .i64 y] := by rw [hx1]; exact (((Bl.new (by simp)).alloc (by simp)).alloc (by simp))
        have bq : Bl x1 (w.heap.size + 1) #[.int .i64 x', .int .i64 y'] := by rw [hx1]; exact ((Bl.new (by simp)).alloc (by simp))
        have bs : Bl x1 (w.heap.size + 1 + 1) #[.int .i64 0, .int .i64 0] := by rw [hx1]; exact (Bl.new (by simp))
        have fs : Fz x1 (w.heap.size + 1 + 1) := by rw [hx1]; exact (Fz.new (by simp))
        have HE := hx
        clear hx
        clear hx1
        refine (HL.out _).mono ?_
        rintro e u1 ⟨rfl, hx⟩
        replace bp := Bl.ext hx bp (Nat.succ_pos _)
        replace bq := Bl.ext hx bq (Nat.succ_pos _)
        replace fs := Fz.ext hx fs bs (Nat.succ_pos _)
        replace bs := Bl.ext hx bs (Nat.succ_pos _)
        replace HE := HE.trans hx
        clear hx
        go_wp2_with fail
        refine absB (fun ue hue => ?_)
        have hbs : Bl ue (w.heap.size + 1 + 1) #[.int .i64 (x), .int .i64 (y)] := by rw [hue]; exact ((bs.set (by simp)).set (by simp))
        have heu : Ext w ue := by rw [hue]; exact (HE.store (by show w.heap.size ≤ w.heap.size + 1 + 1; omega) _).store (by show w.heap.size ≤ w.heap.size + 1 + 1; omega) _
        clear hue
        refine bodyPost_cells rfl rfl Try.underlying26 rfl (by kernel_rfl) (bl_two hbs) rfl ?_
        exact ⟨by rw [HX.out, HY.out], heu⟩
    · have HX : Hid (ahX x y x' y' n = x) := hidP (if_pos (.inr (.inl (by omega))))
      have HY : Hid (ahY x y x' y' n = y) := hidP (if_pos (.inr (.inl (by omega))))
      generalize ahX x y x' y' n = vx at *
      generalize ahY x y x' y' n = vy at *
      generalize lenI x y x' y' = ln at *
      have hd : decide (n < 0) = true := decide_eq_true (by omega)
      have hz : ((ln : Int) == 0) = false := by simp; omega
      have HZ := hidP h0
      clear h0 hfit hlb
      go_enter Try.func25, Try.ntmps25
      go_wp2_with fail
      refine absC (fun x1 hx1 => ?_)
      have hx : Ext w x1 := by rw [hx1]; exact ((((Ext.refl _).alloc _).alloc _).alloc _)
      have bp : Bl x1 (w.heap.size) #[.int .i64 x, .int .i64 y] := by rw [hx1]; exact (((Bl.new (by simp)).alloc (by simp)).alloc (by simp))
      have bq : Bl x1 (w.heap.size + 1) #[.int .i64 x', .int .i64 y'] := by rw [hx1]; exact ((Bl.new (by simp)).alloc (by simp))
      have bs : Bl x1 (w.heap.size + 1 + 1) #[.int .i64 0, .int .i64 0] := by rw [hx1]; exact (Bl.new (by simp))
      have fs : Fz x1 (w.heap.size + 1 + 1) := by rw [hx1]; exact (Fz.new (by simp))
      have HE := hx
      clear hx
      clear hx1
      refine (HL.out _).mono ?_
      rintro e u1 ⟨rfl, hx⟩
      replace bp := Bl.ext hx bp (Nat.succ_pos _)
      replace bq := Bl.ext hx bq (Nat.succ_pos _)
      replace fs := Fz.ext hx fs bs (Nat.succ_pos _)
      replace bs := Bl.ext hx bs (Nat.succ_pos _)
      replace HE := HE.trans hx
      clear hx
      go_wp2_with fail
      refine absB (fun ue hue => ?_)
      have hbs : Bl ue (w.heap.size + 1 + 1) #[.int .i64 (x), .int .i64 (y)] := by rw [hue]; exact ((bs.set (by simp)).set (by simp))
      have heu : Ext w ue := by rw [hue]; exact (HE.store (by show w.heap.size ≤ w.heap.size + 1 + 1; omega) _).store (by show w.heap.size ≤ w.heap.size + 1 + 1; omega) _
      clear hue
      refine bodyPost_cells rfl rfl Try.underlying26 rfl (by kernel_rfl) (bl_two hbs) rfl ?_
      exact ⟨by rw [HX.out, HY.out], heu⟩

end Go.Proofs.Ytogcmnagiepofaa
