/- Are rows of points the same? -/
import Derived.Test.YtlhaepcnhkaclaaM5
import Derived.Test.YtlhaepcnhkaclaaMG
namespace Go.Proofs.Ytlhaepcnhkaclaa
set_option linter.unusedVariables false
open Go Go.RowKit

set_option maxRecDepth 100000 in
set_option maxHeartbeats 4000000 in
theorem d_SameP (a a' : Option Addr) (n cap n' cap' : Nat) (l : List (Int × Int)) (w : World) (h : SlP w a n cap l) (h' : SlP w a' n' cap' l) :
    Calls Try.prog 33 #[.slice a n cap, .slice a' n' cap'] w fun e w' => e = .returned (.bool true) ∧ Ext w w' := by
  have H := hidP h; have H' := hidP h'
  have HLN := hidP h.len
  have hcap : n ≤ maxLen := Nat.le_trans h.2.1 h.2.2.1
  unfold maxLen at hcap
  obtain rfl : n = n' := by rw [← h.len, ← h'.len]
  clear h h'
  go_enter Try.func33, Try.ntmps33
  go_wp2_with fail
  go_loopw [5] (fun iv wr => ∃ j : Nat, j ≤ n ∧ iv = .int .i64 (j : Int) ∧ Ext w wr) (fun iv _ => n - (intOf iv).toNat)
  case atStart => exact ⟨0, by omega, rfl, Ext.refl _⟩
  case round =>
    obtain ⟨j, hj, rfl, HE⟩ := hrel
    by_cases hlt : j < n
    · obtain ⟨g, off, rfl, hc⟩ := (H.out.ext HE).at (by omega)
      obtain ⟨g2, off2, rfl, hc2⟩ := (H'.out.ext HE).at (by omega)
      have hjl : j < l.length := by rw [HLN.out]; exact hlt
      obtain ⟨h1, h2⟩ := hc j hjl
      obtain ⟨h3, h4⟩ := hc2 j hjl
      clear hc hc2
      generalize l[j] = pp at *
      obtain ⟨px, py⟩ := pp
      simp only at h1 h2 h3 h4
      go_wp2_with fail
      refine wp_region_plan (R := Ext) (.q 0 (.q 1 (.q 2 (.q 3 (.q 4 (.q 5 (.q 6 (.q 7 (.q 8 .done))))))))) (by kernel_rfl) (by kernel_rfl) (by kernel_rfl) (by kernel_rfl) Ext.refl (fun _ _ _ => Ext.trans) ?_
      refine absE (fun x1 hx1 => ?_)
      have hx : Ext wr x1 := by rw [hx1]; exact (Ext.refl _).drew
      replace h1 := hx.cell' h1
      replace h2 := hx.cell' h2
      replace h3 := hx.cell' h3
      replace h4 := hx.cell' h4
      replace HE := HE.trans hx
      clear hx
      clear hx1
      repeat (refine wpE_q (v := ?_) rfl rfl (fun u hu => ?_) ?_; rotate_left 1; (focus (have kh1 := hu.cell' h1; have kh2 := hu.cell' h2; have kh3 := hu.cell' h3; have kh4 := hu.cell' h4; go_simp; (try rfl))); simp only [Act.put, List.setIfInBounds_toArray, List.set_cons_zero, List.set_cons_succ])
      refine wpE_done ?_
      go_wp2_with fail
      go_roundw
      case rel => exact ⟨j + 1, by omega, by go_num, HE⟩
      case measure => simp only [intOf]; omega
    · obtain rfl : j = n := by omega
      go_wp2_with fail
      go_ret
      exact ⟨rfl, HE⟩

end Go.Proofs.Ytlhaepcnhkaclaa
