/- The document's sameness of whole numbers and fractions. -/
import Derived.Test.YtcipcpbjkcpgdaaQ18
import Derived.Test.YtcipcpbjkcpgdaaQ11
namespace Go.Proofs.Ytcipcpbjkcpgdaa
set_option linter.unusedVariables false
open Go Go.RowKit

section
variable {a d a' d' : Option Addr} {n c m k n' c' m' k' : Nat} {z z' : Int} {q q' : Rat} {w : World}
set_option maxRecDepth 100000 in
set_option maxHeartbeats 4000000 in
theorem d_SameWg (h : Nc w a n c z.natAbs) (h' : Nc w a' n' c' z'.natAbs) (hn : dl z.natAbs ≤ 1099511627776) :
    Calls Try.prog 49 #[.agg #[.bool (decide (z < 0)), .slice a n c], .agg #[.bool (decide (z' < 0)), .slice a' n' c']] w fun e w' => e = .returned (.bool (decide (z = z'))) ∧ Ext w w' := by
  have H := hidP h; have H' := hidP h'; have HN := hidP hn
  clear h h' hn
  by_cases hb : decide (z < 0) = decide (z' < 0)
  · have HR : Hid (decide (z = z') = decide (z.natAbs = z'.natAbs)) := hidP (by
      rw [decide_eq_decide] at hb ⊢
      omega)
    rw [← hb]
    clear hb
    generalize decide (z = z') = rr at *
    generalize decide (z < 0) = nb at *
    go_enter Try.func49, Try.ntmps49
    go_wp2_with fail
    refine absC (fun x1 hx1 => ?_)
    have hx : Ext w x1 := by rw [hx1]; exact (((Ext.refl _).alloc _).alloc _)
    have bp : Bl x1 (w.heap.size) #[.bool nb, .slice a n c] := by rw [hx1]; exact ((Bl.new (by simp)).alloc (by simp))
    have bq : Bl x1 (w.heap.size + 1) #[.bool nb, .slice a' n' c'] := by rw [hx1]; exact (Bl.new (by simp))
    have HE := hx
    clear hx
    clear hx1
    refine (d_Same (H.out.ext HE) (H'.out.ext HE) HN.out).mono ?_
    rw [← HR.out]
    rintro e u1 ⟨rfl, hx⟩
    replace bp := Bl.ext hx bp (Nat.succ_pos _)
    replace bq := Bl.ext hx bq (Nat.succ_pos _)
    replace HE := HE.trans hx
    clear hx
    go_wp2_with fail
    go_ret
    exact ⟨rfl, HE⟩
  · have HR : Hid (decide (z = z') = false) := hidP (decide_eq_false (fun h => hb (by rw [h])))
    generalize decide (z = z') = rr at *
    generalize decide (z < 0) = nb at *
    generalize decide (z' < 0) = nb' at *
    have hne : (nb == nb') = false := by simpa using hb
    have HB := hidP hb
    clear hb
    go_enter Try.func49, Try.ntmps49
    go_wp2_with fail
    go_ret
    exact ⟨congrArg (fun x => Ending.returned (Value.bool x)) HR.out.symm, ((Ext.refl _).alloc _).alloc _⟩

set_option maxRecDepth 100000 in
set_option maxHeartbeats 4000000 in
theorem gq_Same (h : Nc w a n c q.num.natAbs) (g : Nc w d m k q.den) (h' : Nc w a' n' c' q'.num.natAbs) (g' : Nc w d' m' k' q'.den) (hn : ql q ≤ 1099511627776) :
    Calls Try.prog 90 #[.agg #[.bool (decide (q.num < 0)), .slice a n c, .slice d m k], .agg #[.bool (decide (q'.num < 0)), .slice a' n' c', .slice d' m' k']] w fun e w' => e = .returned (.bool (decide (q = q'))) ∧ Ext w w' := by
  have H := hidP h; have H' := hidP h'; have HG := hidP g; have HG' := hidP g'; have HN := hidP hn
  have HW := hidP (fun u (t1 : Nc u a n c q.num.natAbs) (t2 : Nc u a' n' c' q'.num.natAbs) => d_SameWg t1 t2 (Nat.le_trans (ql_num hn) (by omega)))
  clear h h' g g' hn
  by_cases hz : q.num = q'.num
  · have HR : Hid (decide (q = q') = decide (q.den = q'.den)) := hidP (by
      rw [decide_eq_decide]
      exact ⟨fun h => by rw [h], fun h => Rat.ext hz h⟩)
    have hz2 := HW.out
    rw [decide_eq_true hz] at hz2
    clear HW
    have HW := hidP hz2
    clear hz2 hz
    generalize decide (q = q') = rr at *
    generalize decide (q.num < 0) = nb at *
    generalize decide (q'.num < 0) = nb' at *
    go_enter Try.func90, Try.ntmps90
    go_wp2_with fail
    refine absC (fun x1 hx1 => ?_)
    have hx : Ext w x1 := by rw [hx1]; exact (((Ext.refl _).alloc _).alloc _)
    have bp : Bl x1 (w.heap.size) #[.bool nb, .slice a n c, .slice d m k] := by rw [hx1]; exact ((Bl.new (by simp)).alloc (by simp))
    have bq : Bl x1 (w.heap.size + 1) #[.bool nb', .slice a' n' c', .slice d' m' k'] := by rw [hx1]; exact (Bl.new (by simp))
    have HE := hx
    clear hx
    clear hx1
    refine (HW.out _ (H.out.ext HE) (H'.out.ext HE)).mono ?_
    rintro e u1 ⟨rfl, hx⟩
    replace bp := Bl.ext hx bp (Nat.succ_pos _)
    replace bq := Bl.ext hx bq (Nat.succ_pos _)
    replace HE := HE.trans hx
    clear hx
    go_wp2_with fail
    refine (d_Same (HG.out.ext HE) (HG'.out.ext HE) (Nat.le_trans (ql_den HN.out) (by omega))).mono ?_
    rw [← HR.out]
    rintro e u2 ⟨rfl, hx⟩
    replace bp := Bl.ext hx bp (Nat.succ_pos _)
    replace bq := Bl.ext hx bq (Nat.succ_pos _)
    replace HE := HE.trans hx
    clear hx
    go_wp2_with fail
    go_ret
    exact ⟨rfl, HE⟩
  · have HR : Hid (decide (q = q') = false) := hidP (decide_eq_false (fun h => hz (by rw [h])))
    have hz2 := HW.out
    rw [decide_eq_false hz] at hz2
    clear HW
    have HW := hidP hz2
    have HZ := hidP hz
    clear hz2 hz
    generalize decide (q = q') = rr at *
    generalize decide (q.num < 0) = nb at *
    generalize decide (q'.num < 0) = nb' at *
    go_enter Try.func90, Try.ntmps90
    go_wp2_with fail
    refine absC (fun x1 hx1 => ?_)
    have hx : Ext w x1 := by rw [hx1]; exact (((Ext.refl _).alloc _).alloc _)
    have bp : Bl x1 (w.heap.size) #[.bool nb, .slice a n c, .slice d m k] := by rw [hx1]; exact ((Bl.new (by simp)).alloc (by simp))
    have bq : Bl x1 (w.heap.size + 1) #[.bool nb', .slice a' n' c', .slice d' m' k'] := by rw [hx1]; exact (Bl.new (by simp))
    have HE := hx
    clear hx
    clear hx1
    refine (HW.out _ (H.out.ext HE) (H'.out.ext HE)).mono ?_
    rintro e u1 ⟨rfl, hx⟩
    replace bp := Bl.ext hx bp (Nat.succ_pos _)
    replace bq := Bl.ext hx bq (Nat.succ_pos _)
    replace HE := HE.trans hx
    clear hx
    go_wp2_with fail
    go_ret
    exact ⟨congrArg (fun x => Ending.returned (Value.bool x)) HR.out.symm, HE⟩
end
end Go.Proofs.Ytcipcpbjkcpgdaa
