/- The program's whole numbers (whole): made, of an int, their sign, the other side. -/
import Derived.Test.YtcipcpbjkcpgdaaE3
import Derived.Test.YtcipcpbjkcpgdaaB4
namespace Go.Proofs.Ytcipcpbjkcpgdaa
set_option linter.unusedVariables false
open Go Go.RowKit

set_option maxRecDepth 100000 in
set_option maxHeartbeats 1000000 in
theorem w_clean_any (neg : Bool) (a : Option Addr) (n cap m : Nat) (w : World) (hs : Sl w a n cap (ints .u32 (dig B32 m))) :
    Calls Try.prog 136 #[.bool neg, .slice a n cap] w (RetW w (wz neg m)) := by
  have hln := hs.int_len
  have hA : (wz neg m).natAbs = m := by unfold wz; split <;> omega
  have hp := @dig_len_pos m
  have hN : neg = true ∧ 0 < n ↔ wz neg m < 0 := by
    unfold wz
    cases neg
    · simp
    · simp; omega
  have HN := hidP hN; have HA := hidP hA; have HS := hidP hs
  clear hN hA hs hp hln
  cases neg with
  | false =>
    go_enter Try.func136, Try.ntmps136
    go_wp2_with fail
    refine bodyPost_cells rfl rfl Try.underlying51 rfl (by kernel_rfl) (two (by go_simp; try rfl) (by go_simp; try rfl)) rfl ?_
    exact ⟨a, n, cap, by rw [show decide (wz false m < 0) = false by have := HN.out; simp at this; simp; omega], by rw [HA.out]; exact HS.out.ext ((Ext.refl _).alloc _), (Ext.refl _).alloc _⟩
  | true =>
    by_cases h0 : 0 < n
    · have h0i : (0 : Int) < (n : Int) := by omega
      go_enter Try.func136, Try.ntmps136
      go_wp2_with fail
      refine bodyPost_cells rfl rfl Try.underlying51 rfl (by kernel_rfl) (two (by go_simp; try rfl) (by go_simp; try rfl)) rfl ?_
      exact ⟨a, n, cap, by rw [show decide (wz true m < 0) = true by have := HN.out; simp at this; simp; omega], by rw [HA.out]; exact HS.out.ext ((Ext.refl _).alloc _), (Ext.refl _).alloc _⟩
    · obtain rfl : n = 0 := by omega
      go_enter Try.func136, Try.ntmps136
      go_wp2_with fail
      refine bodyPost_cells rfl rfl Try.underlying51 rfl (by kernel_rfl) (two (by go_simp; try rfl) (by go_simp; try rfl)) rfl ?_
      exact ⟨a, 0, cap, by rw [show decide (wz true m < 0) = false by have := HN.out; simp at this; simp; omega], by rw [HA.out]; exact HS.out.ext ((Ext.refl _).alloc _), (Ext.refl _).alloc _⟩

set_option maxRecDepth 100000 in
set_option maxHeartbeats 1000000 in
theorem w_Make_any (neg : Bool) (a : Option Addr) (n cap : Nat) (l : List Nat) (w : World) (hs : Sl w a n cap (ints .u32 l)) (hl : Ws l) (hn : n ≤ 1099511627776) :
    Calls Try.prog 64 #[.bool neg, .slice a n cap] w (RetW w (wz neg (val B32 l))) := by
  go_enter Try.func64, Try.ntmps64
  go_wp2_with fail
  refine (nat_Trim_any a n cap l _ (hs.ext ((Ext.refl _).alloc _)) hl hn).mono ?_
  rintro e w1 ⟨a1, n1, cap1, rfl, hs1, he1⟩
  have z0 := he1.cell' (p := ⟨w.heap.size, 0, none⟩) (v := .bool false) (by go_simp; try rfl)
  have q0 : w1.frozen? ⟨w.heap.size, 0, none⟩ = false := (he1.frozen (p := ⟨w.heap.size, 0, none⟩) (by simp)).trans (by go_simp)
  have z1 := he1.cell' (p := ⟨w.heap.size, 1, none⟩) (v := .slice none 0 0) (by go_simp; try rfl)
  have q1 : w1.frozen? ⟨w.heap.size, 1, none⟩ = false := (he1.frozen (p := ⟨w.heap.size, 1, none⟩) (by simp)).trans (by go_simp)
  have HE : Ext w w1 := ((Ext.refl _).alloc _).trans he1
  clear he1
  go_wp2_with fail
  refine (w_clean_any neg a1 n1 cap1 _ _ hs1).mono ?_
  rintro e w3 ⟨a3, n3, cap3, rfl, hs3, he3⟩
  have hgl : w.heap.size < w1.heap.size := World.block_lt_of_cell? w1 _ z0
  replace z0 := he3.cell' z0
  replace q0 := (he3.frozen (p := ⟨w.heap.size, 0, none⟩) hgl).trans q0
  replace z1 := he3.cell' z1
  replace q1 := (he3.frozen (p := ⟨w.heap.size, 1, none⟩) hgl).trans q1
  clear hgl
  replace HE := HE.trans he3
  clear he3 hs1
  generalize hbb : decide (wz neg (val B32 l) < 0) = bb at *
  have HBB := hidP hbb; clear hbb
  go_wp2_with fail
  refine bodyPost_cells rfl rfl Try.underlying51 rfl (by kernel_rfl) (two (by go_simp; try rfl) (by go_simp; try rfl)) rfl ?_
  exact RetW.stored z0 z1 hs3 HE (Nat.le_refl _) HBB.out.symm

set_option maxRecDepth 100000 in
set_option maxHeartbeats 1000000 in
theorem w_Of_any (n : Int) (w : World) (h1 : -9223372036854775808 ≤ n) (h2 : n ≤ 9223372036854775807) :
    Calls Try.prog 62 #[.int .i64 n] w (RetW w n) := by
  by_cases h0 : 0 ≤ n
  · obtain ⟨m, hm⟩ : ∃ m : Nat, n = (m : Int) := ⟨n.toNat, by omega⟩
    subst hm
    have ez : wz false m = (m : Int) := rfl
    have EZ := hidP ez
    clear ez
    go_enter Try.func62, Try.ntmps62
    go_wp2_with fail
    refine (nat_Of_any m _ (by omega)).mono ?_
    rintro e w1 ⟨a1, n1, cap1, rfl, hs1, he1⟩
    have z0 := he1.cell' (p := ⟨w.heap.size, 0, none⟩) (v := .bool false) (by go_simp; try rfl)
    have q0 : w1.frozen? ⟨w.heap.size, 0, none⟩ = false := (he1.frozen (p := ⟨w.heap.size, 0, none⟩) (by simp)).trans (by go_simp)
    have z1 := he1.cell' (p := ⟨w.heap.size, 1, none⟩) (v := .slice none 0 0) (by go_simp; try rfl)
    have q1 : w1.frozen? ⟨w.heap.size, 1, none⟩ = false := (he1.frozen (p := ⟨w.heap.size, 1, none⟩) (by simp)).trans (by go_simp)
    have HE : Ext w w1 := ((Ext.refl _).alloc _).trans he1
    clear he1
    go_wp2_with fail
    refine (w_clean_any false a1 n1 cap1 _ _ hs1).mono ?_
    rw [EZ.out]
    rintro e w3 ⟨a3, n3, cap3, rfl, hs3, he3⟩
    have hgl : w.heap.size < w1.heap.size := World.block_lt_of_cell? w1 _ z0
    replace z0 := he3.cell' z0
    replace q0 := (he3.frozen (p := ⟨w.heap.size, 0, none⟩) hgl).trans q0
    replace z1 := he3.cell' z1
    replace q1 := (he3.frozen (p := ⟨w.heap.size, 1, none⟩) hgl).trans q1
    clear hgl
    replace HE := HE.trans he3
    clear he3 hs1
    generalize hbb : decide ((m : Int) < 0) = bb at *
    have HBB := hidP hbb; clear hbb
    go_wp2_with fail
    refine bodyPost_cells rfl rfl Try.underlying51 rfl (by kernel_rfl) (two (by go_simp; try rfl) (by go_simp; try rfl)) rfl ?_
    exact RetW.stored z0 z1 hs3 HE (Nat.le_refl _) HBB.out.symm
  · obtain ⟨m, hm⟩ : ∃ m : Nat, n = -((m : Int) + 1) := ⟨(-1 - n).toNat, by omega⟩
    subst hm
    have hml : m ≤ 9223372036854775807 := by omega
    have ez : wz true (m + 1) = -((m : Int) + 1) := by unfold wz; simp
    have EZ := hidP ez
    clear ez
    have hlt : ¬ (0 : Int) ≤ -((m : Int) + 1) := h0
    obtain ⟨zn, hzn⟩ : ∃ zn : Int, zn = -((m : Int) + 1) := ⟨_, rfl⟩
    rw [← hzn] at EZ h0 h1 h2 ⊢
    have hz1 : zn < 0 := by omega
    have hw : wrap64 (-wrap64 (zn + 1)) = (m : Int) := by unfold wrap64; omega
    have HW := hidP hw
    clear hlt hw hzn h0 h1
    go_enter Try.func62, Try.ntmps62
    go_upto_region 3 with fail
    iterate 9 go_step
    rw [HW.out]
    generalize wrap64 (zn + 1) = q1
    go_wp2_with fail
    refine (nat_Of_any (m + 1) _ (by omega)).mono ?_
    rintro e w1 ⟨a1, n1, cap1, rfl, hs1, he1⟩
    have z0 := he1.cell' (p := ⟨w.heap.size, 0, none⟩) (v := .bool false) (by go_simp; try rfl)
    have q0 : w1.frozen? ⟨w.heap.size, 0, none⟩ = false := (he1.frozen (p := ⟨w.heap.size, 0, none⟩) (by simp)).trans (by go_simp)
    have z1 := he1.cell' (p := ⟨w.heap.size, 1, none⟩) (v := .slice none 0 0) (by go_simp; try rfl)
    have q1 : w1.frozen? ⟨w.heap.size, 1, none⟩ = false := (he1.frozen (p := ⟨w.heap.size, 1, none⟩) (by simp)).trans (by go_simp)
    have HE : Ext w w1 := ((Ext.refl _).alloc _).trans he1
    clear he1
    go_wp2_with fail
    refine (w_clean_any true a1 n1 cap1 _ _ hs1).mono ?_
    rw [EZ.out]
    rintro e w3 ⟨a3, n3, cap3, rfl, hs3, he3⟩
    have hgl : w.heap.size < w1.heap.size := World.block_lt_of_cell? w1 _ z0
    replace z0 := he3.cell' z0
    replace q0 := (he3.frozen (p := ⟨w.heap.size, 0, none⟩) hgl).trans q0
    replace z1 := he3.cell' z1
    replace q1 := (he3.frozen (p := ⟨w.heap.size, 1, none⟩) hgl).trans q1
    clear hgl
    replace HE := HE.trans he3
    clear he3 hs1
    generalize hbb : decide (zn < 0) = bb at *
    have HBB := hidP hbb; clear hbb
    go_wp2_with fail
    refine bodyPost_cells rfl rfl Try.underlying51 rfl (by kernel_rfl) (two (by go_simp; try rfl) (by go_simp; try rfl)) rfl ?_
    exact RetW.stored z0 z1 hs3 HE (Nat.le_refl _) HBB.out.symm

end Go.Proofs.Ytcipcpbjkcpgdaa
