/- The laws of gauges live; the law of quotients to the nearest: its walk. -/
import Derived.Test.YtogcmnagiepofaaG4
namespace Go.Proofs.Ytogcmnagiepofaa
set_option linter.unusedVariables false
open Go Go.RowKit

theorem live_len : lenI 0 0 3 4 = 5 := by
  rw [lenI_yes (by decide) (by decide)]
  exact (isq_uniq (by decide) (by decide)).symm
theorem live_asX : asX 0 0 3 4 10 = -8 := by
  unfold asX
  rw [live_len]
  decide
theorem live_asY : asY 0 0 3 4 10 = 6 := by
  unfold asY
  rw [live_len]
  decide

set_option maxRecDepth 100000 in
set_option maxHeartbeats 2000000 in
theorem ga_lives (w : World) : Calls Try.prog 19 #[] w fun e w' => e = .returned (.bool true) ∧ Ext w w' := by
  have hl := fun u => g_Len 0 0 3 4 u
  rw [live_len] at hl
  have ha := fun u => g_Aside 0 0 3 4 10 u (by omega) (by omega)
  rw [live_asX, live_asY] at ha
  have HL := hidP hl; have HA := hidP ha
  clear hl ha
  go_enter Try.func19, Try.ntmps19
  go_wp2_with fail
  refine absC (fun x1 hx1 => ?_)
  have hx : Ext w x1 := by rw [hx1]; exact (((Ext.refl _).alloc _).alloc _)
  have bp : Bl x1 (w.heap.size) #[.int .i64 0, .int .i64 0] := by rw [hx1]; exact ((Bl.new (by simp)).alloc (by simp))
  have bq : Bl x1 (w.heap.size + 1) #[.int .i64 3, .int .i64 4] := by rw [hx1]; exact (Bl.new (by simp))
  have HE := hx
  clear hx
  clear hx1
  refine (HL.out _).mono ?_
  rintro e u1 ⟨rfl, hx⟩
  replace bp := Bl.ext hx bp (Nat.succ_pos _)
  replace bq := Bl.ext hx bq (Nat.succ_pos _)
  replace HE := HE.trans hx
  clear hx
  go_wp2_with fail
  refine (HA.out _).mono ?_
  rintro e u2 ⟨rfl, hx⟩
  replace bp := Bl.ext hx bp (Nat.succ_pos _)
  replace bq := Bl.ext hx bq (Nat.succ_pos _)
  replace HE := HE.trans hx
  clear hx
  go_wp2_with fail
  go_ret
  exact ⟨rfl, HE⟩

set_option maxRecDepth 100000 in
set_option maxHeartbeats 2000000 in
theorem gaugeNear_any (n d : Int) (w : World) (i1 : -9223372036854775808 ≤ n) (i2 : n ≤ 9223372036854775807) (i3 : -9223372036854775808 ≤ d) (i4 : d ≤ 9223372036854775807) :
    Calls Try.prog 3 #[.int .i64 n, .int .i64 d] w fun e w' => e = .returned (.bool true) ∧ Ext w w' := by
  have H1 := hidP (fun u => g_NearE n d u i1 i2 i3 i4)
  have H2 := hidP (fun u => d_Near n d u i1 i2 i3 i4)
  generalize nearI n d = r at *
  go_enter Try.func3, Try.ntmps3
  go_wp2_with fail
  refine (H1.out _).mono ?_
  rintro e u1 ⟨rfl, hx⟩
  have HE := hx
  clear hx
  go_wp2_with fail
  refine (H2.out _).mono ?_
  rintro e u2 ⟨rfl, hx⟩
  replace HE := HE.trans hx
  clear hx
  go_wp2_with fail
  refine (ga_lives _).mono ?_
  rintro e u3 ⟨rfl, hx⟩
  replace HE := HE.trans hx
  clear hx
  go_wp2_with fail
  go_ret
  exact ⟨rfl, HE⟩

end Go.Proofs.Ytogcmnagiepofaa
