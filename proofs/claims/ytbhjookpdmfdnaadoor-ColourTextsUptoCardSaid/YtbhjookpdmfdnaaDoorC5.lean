/- Colours: weigh, may; the document's own answers. -/
import Derived.Test.YtbhjookpdmfdnaaDoorC4
namespace Go.Proofs.YtbhjookpdmfdnaaDoor
set_option linter.unusedVariables false
open Go Go.RowKit

theorem ret_bool {a b : Bool} (h : a = b) : Ending.returned (.bool a) = .returned (.bool b) := by rw [h]

/-- May a colour be a weighted one? -/
def mayB (r g b a : Nat) : Bool := decide (r ≤ a ∧ g ≤ a ∧ b ≤ a)

set_option maxHeartbeats 1000000 in
theorem c_weigh_any (r g b a : Nat) (w : World) (h : Col8 r g b a) :
    Calls Tryd.prog 36 #[.agg #[.int .u8 (r : Int), .int .u8 (g : Int), .int .u8 (b : Int), .int .u8 (a : Int)]] w fun e w' => e = .returned (.agg #[.int .u8 ((fadr a r r : Nat) : Int), .int .u8 ((fadr a g g : Nat) : Int), .int .u8 ((fadr a b b : Nat) : Int), .int .u8 (a : Int)]) ∧ Ext w w' := by
  go_enter Tryd.func36, Tryd.ntmps36
  go_wp2_with fail
  refine (c_fade_any a r g b a _ h h.a).mono ?_
  rintro e u ⟨rfl, hu⟩
  have z0 := hu.cell' (p := ⟨w.heap.size, 0, none⟩) (v := .int .u8 (r : Int)) (by go_simp; try rfl)
  have y0 := hu.cell' (p := ⟨w.heap.size + 1, 0, none⟩) (v := .int .u8 0) (by go_simp; try rfl)
  have q0 : u.frozen? ⟨w.heap.size + 1, 0, none⟩ = false := (hu.frozen (p := ⟨w.heap.size + 1, 0, none⟩) (by simp)).trans (by go_simp)
  have z1 := hu.cell' (p := ⟨w.heap.size, 1, none⟩) (v := .int .u8 (g : Int)) (by go_simp; try rfl)
  have y1 := hu.cell' (p := ⟨w.heap.size + 1, 1, none⟩) (v := .int .u8 0) (by go_simp; try rfl)
  have q1 : u.frozen? ⟨w.heap.size + 1, 1, none⟩ = false := (hu.frozen (p := ⟨w.heap.size + 1, 1, none⟩) (by simp)).trans (by go_simp)
  have z2 := hu.cell' (p := ⟨w.heap.size, 2, none⟩) (v := .int .u8 (b : Int)) (by go_simp; try rfl)
  have y2 := hu.cell' (p := ⟨w.heap.size + 1, 2, none⟩) (v := .int .u8 0) (by go_simp; try rfl)
  have q2 : u.frozen? ⟨w.heap.size + 1, 2, none⟩ = false := (hu.frozen (p := ⟨w.heap.size + 1, 2, none⟩) (by simp)).trans (by go_simp)
  have z3 := hu.cell' (p := ⟨w.heap.size, 3, none⟩) (v := .int .u8 (a : Int)) (by go_simp; try rfl)
  have y3 := hu.cell' (p := ⟨w.heap.size + 1, 3, none⟩) (v := .int .u8 0) (by go_simp; try rfl)
  have q3 : u.frozen? ⟨w.heap.size + 1, 3, none⟩ = false := (hu.frozen (p := ⟨w.heap.size + 1, 3, none⟩) (by simp)).trans (by go_simp)
  have hsu := hu.size
  simp only [World.size_alloc] at hsu
  have HE : Ext w u := Ext.trans (((Ext.refl _).alloc _).alloc _) hu
  clear hu
  go_upto_region 2 with fail
  have he := (Ext.refl u).alloc (.cells #[.int .u8 ((fadr a r r : Nat) : Int), .int .u8 ((fadr a g g : Nat) : Int), .int .u8 ((fadr a b b : Nat) : Int), .int .u8 ((fadr a a a : Nat) : Int)] 39)
  have hq : ∀ j, (u.alloc (.cells #[.int .u8 ((fadr a r r : Nat) : Int), .int .u8 ((fadr a g g : Nat) : Int), .int .u8 ((fadr a b b : Nat) : Int), .int .u8 ((fadr a a a : Nat) : Int)] 39)).frozen? ⟨w.heap.size + 1, j, none⟩ = u.frozen? ⟨w.heap.size + 1, j, none⟩ := fun j => he.frozen (by show w.heap.size + 1 < _; omega)
  have x0 : (u.alloc (.cells #[.int .u8 ((fadr a r r : Nat) : Int), .int .u8 ((fadr a g g : Nat) : Int), .int .u8 ((fadr a b b : Nat) : Int), .int .u8 ((fadr a a a : Nat) : Int)] 39)).cell? ⟨u.heap.size, 0, none⟩ = some (.int .u8 ((fadr a r r : Nat) : Int)) := by go_simp; try rfl
  replace z0 := he.cell' z0
  replace y0 := he.cell' y0
  replace q0 := (hq 0).trans q0
  have x1 : (u.alloc (.cells #[.int .u8 ((fadr a r r : Nat) : Int), .int .u8 ((fadr a g g : Nat) : Int), .int .u8 ((fadr a b b : Nat) : Int), .int .u8 ((fadr a a a : Nat) : Int)] 39)).cell? ⟨u.heap.size, 1, none⟩ = some (.int .u8 ((fadr a g g : Nat) : Int)) := by go_simp; try rfl
  replace z1 := he.cell' z1
  replace y1 := he.cell' y1
  replace q1 := (hq 1).trans q1
  have x2 : (u.alloc (.cells #[.int .u8 ((fadr a r r : Nat) : Int), .int .u8 ((fadr a g g : Nat) : Int), .int .u8 ((fadr a b b : Nat) : Int), .int .u8 ((fadr a a a : Nat) : Int)] 39)).cell? ⟨u.heap.size, 2, none⟩ = some (.int .u8 ((fadr a b b : Nat) : Int)) := by go_simp; try rfl
  replace z2 := he.cell' z2
  replace y2 := he.cell' y2
  replace q2 := (hq 2).trans q2
  have x3 : (u.alloc (.cells #[.int .u8 ((fadr a r r : Nat) : Int), .int .u8 ((fadr a g g : Nat) : Int), .int .u8 ((fadr a b b : Nat) : Int), .int .u8 ((fadr a a a : Nat) : Int)] 39)).cell? ⟨u.heap.size, 3, none⟩ = some (.int .u8 ((fadr a a a : Nat) : Int)) := by go_simp; try rfl
  replace z3 := he.cell' z3
  replace y3 := he.cell' y3
  replace q3 := (hq 3).trans q3
  have x4 : (u.alloc (.cells #[.int .u8 ((fadr a r r : Nat) : Int), .int .u8 ((fadr a g g : Nat) : Int), .int .u8 ((fadr a b b : Nat) : Int), .int .u8 ((fadr a a a : Nat) : Int)] 39)).frozen? ⟨u.heap.size, 3, none⟩ = false := by go_simp
  replace HE := HE.trans he
  clear he hq
  generalize (u.alloc (.cells #[.int .u8 ((fadr a r r : Nat) : Int), .int .u8 ((fadr a g g : Nat) : Int), .int .u8 ((fadr a b b : Nat) : Int), .int .u8 ((fadr a a a : Nat) : Int)] 39)) = u2 at *
  have hne : ¬ w.heap.size + 1 = u.heap.size := by omega
  have hne' : ¬ u.heap.size = w.heap.size + 1 := by omega
  have hle : w.heap.size ≤ u.heap.size := by omega
  clear hsu
  generalize u.heap.size = G at *
  go_wp2_with fail
  refine bodyPost_cells rfl rfl Tryd.underlying39 rfl (by kernel_rfl) (four (by go_simp; try rfl) (by go_simp; try rfl) (by go_simp; try rfl) (by go_simp; try rfl)) rfl ⟨rfl, ?_⟩
  exact ((((HE.store hle _).store (Nat.le_succ _) _).store (Nat.le_succ _) _).store (Nat.le_succ _) _).store (Nat.le_succ _) _


end Go.Proofs.YtbhjookpdmfdnaaDoor
