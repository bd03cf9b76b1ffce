/- Colours: fade, mix, over, weigh. -/
import Derived.Test.YtbhjookpdmfdnaaDoorC3
namespace Go.Proofs.YtbhjookpdmfdnaaDoor
set_option linter.unusedVariables false
open Go Go.RowKit

/-- A byte colour, part by part. -/
structure Col8 (r g b a : Nat) : Prop where
  r : r ≤ 255
  g : g ≤ 255
  b : b ≤ 255
  a : a ≤ 255

theorem callFunc_enters {P : Program} {F : FuncId} {fn : Func} (hf : P.funcs[F]? = some fn) (hn : (fn.name == "runtime.NumGoroutine") = false) (hb : fn.body.isNone = false) (args : Array Value) (u : World) :
    (callFunc F args).run P u = .ok (.enter F args) u := by
  have hn' : ¬ fn.name = "runtime.NumGoroutine" := by simpa using hn
  have hb' : ¬ fn.body = none := fun h => by rw [h] at hb; cases hb
  simp [callFunc, Sem.run_bind, hf, hn', hb']

theorem c_each (k c : Nat) (f : Nat → Nat → Nat) (hf : ∀ x y, f x y ≤ 255) {r g b a r' g' b' a' : Nat} (w : World) (h : Col8 r g b a) (h' : Col8 r' g' b' a') (hcf : ∀ args u, (callFunc k args).run Tryd.prog u = .ok (.enter k args) u)
    (hdo : ∀ x y : Nat, x ≤ 255 → y ≤ 255 → ∀ u, Ext w u → Calls Tryd.prog k #[.int .u8 (x : Int), .int .u8 (y : Int), .pointer (some ⟨c, 0, none⟩)] u fun e u' => e = .returned (.int .u8 ((f x y : Nat) : Int)) ∧ u = u') :
    Calls Tryd.prog 46 #[(.agg #[.int .u8 (r : Int), .int .u8 (g : Int), .int .u8 (b : Int), .int .u8 (a : Int)]), (.agg #[.int .u8 (r' : Int), .int .u8 (g' : Int), .int .u8 (b' : Int), .int .u8 (a' : Int)]), .func (.func k) #[] #[.pointer (some ⟨c, 0, none⟩)]] w fun e w' => e = .returned (.agg #[.int .u8 ((f r r' : Nat) : Int), .int .u8 ((f g g' : Nat) : Int), .int .u8 ((f b b' : Nat) : Int), .int .u8 ((f a a' : Nat) : Int)]) ∧ Ext w w' :=
  c_each_any k c f hf r g b a r' g' b' a' w h.r h.g h.b h.a h'.r h'.g h'.b h'.a hcf hdo

set_option maxHeartbeats 1000000 in
theorem c_fade_any (n r g b a : Nat) (w : World) (h : Col8 r g b a) (hn : n ≤ 255) :
    Calls Tryd.prog 45 #[.agg #[.int .u8 (r : Int), .int .u8 (g : Int), .int .u8 (b : Int), .int .u8 (a : Int)], .int .u8 (n : Int)] w fun e w' => e = .returned (.agg #[.int .u8 ((fadr n r r : Nat) : Int), .int .u8 ((fadr n g g : Nat) : Int), .int .u8 ((fadr n b b : Nat) : Int), .int .u8 ((fadr n a a : Nat) : Int)]) ∧ Ext w w' := by
  go_enter Tryd.func45, Tryd.ntmps45
  have hmf : ∀ (fn : Fn) (first cap : Array Value) (w : World), (Instr.makeFunc fn first cap).run Tryd.prog w = .ok (.func fn first cap) w := fun _ _ _ _ => rfl
  go_wp2_with fail
  refine (c_each 56 (w.heap.size + 1) (fadr n) (fadr_le _) _ h h (callFunc_enters Tryd.func56 (by kernel_rfl) (by kernel_rfl)) (fun x y hx hy u hu => c_fade1_any _ _ x y u hx hy hn (hu.cell' (by go_simp; try rfl)))).mono ?_
  rintro e u ⟨rfl, hu⟩
  have z0 := hu.cell' (p := ⟨w.heap.size + 1 + 1, 0, none⟩) (v := .int .u8 0) (by go_simp; try rfl)
  have q0 : u.frozen? ⟨w.heap.size + 1 + 1, 0, none⟩ = false := (hu.frozen (p := ⟨w.heap.size + 1 + 1, 0, none⟩) (by simp)).trans (by go_simp)
  have z1 := hu.cell' (p := ⟨w.heap.size + 1 + 1, 1, none⟩) (v := .int .u8 0) (by go_simp; try rfl)
  have q1 : u.frozen? ⟨w.heap.size + 1 + 1, 1, none⟩ = false := (hu.frozen (p := ⟨w.heap.size + 1 + 1, 1, none⟩) (by simp)).trans (by go_simp)
  have z2 := hu.cell' (p := ⟨w.heap.size + 1 + 1, 2, none⟩) (v := .int .u8 0) (by go_simp; try rfl)
  have q2 : u.frozen? ⟨w.heap.size + 1 + 1, 2, none⟩ = false := (hu.frozen (p := ⟨w.heap.size + 1 + 1, 2, none⟩) (by simp)).trans (by go_simp)
  have z3 := hu.cell' (p := ⟨w.heap.size + 1 + 1, 3, none⟩) (v := .int .u8 0) (by go_simp; try rfl)
  have q3 : u.frozen? ⟨w.heap.size + 1 + 1, 3, none⟩ = false := (hu.frozen (p := ⟨w.heap.size + 1 + 1, 3, none⟩) (by simp)).trans (by go_simp)
  have HE : Ext w u := Ext.trans (by repeat (refine Ext.alloc ?_ _)
                                     exact Ext.refl _) hu
  clear hu
  go_wp2_with fail
  refine bodyPost_cells rfl rfl Tryd.underlying39 rfl (by kernel_rfl) (four (by go_simp; try rfl) (by go_simp; try rfl) (by go_simp; try rfl) (by go_simp; try rfl)) rfl ⟨rfl, ?_⟩
  refine (((HE.store ?_ _).store ?_ _).store ?_ _).store ?_ _ <;> (show w.heap.size ≤ w.heap.size + 1 + 1; omega)

set_option maxHeartbeats 1000000 in
theorem c_over_none_any (r' g' b' a' : Nat) (w : World) (h' : Col8 r' g' b' a') :
    Calls Tryd.prog 37 #[(.agg #[.int .u8 (0 : Int), .int .u8 (0 : Int), .int .u8 (0 : Int), .int .u8 (0 : Int)]), (.agg #[.int .u8 (r' : Int), .int .u8 (g' : Int), .int .u8 (b' : Int), .int .u8 (a' : Int)])] w fun e w' => e = .returned (.agg #[.int .u8 (r' : Int), .int .u8 (g' : Int), .int .u8 (b' : Int), .int .u8 (a' : Int)]) ∧ Ext w w' := by
  go_enter Tryd.func37, Tryd.ntmps37
  go_wp2_with fail
  refine bodyPost_cells rfl rfl Tryd.underlying39 rfl (by kernel_rfl) (four (by go_simp; try rfl) (by go_simp; try rfl) (by go_simp; try rfl) (by go_simp; try rfl)) rfl ⟨rfl, ?_⟩
  exact ((((Ext.refl _).alloc _).alloc _).alloc _).alloc _

set_option maxHeartbeats 1000000 in
theorem c_over_some_any (r g b a r' g' b' a' : Nat) (w : World) (h : Col8 r g b a) (h' : Col8 r' g' b' a') (hne : ¬ (r = 0 ∧ g = 0 ∧ b = 0 ∧ a = 0)) :
    Calls Tryd.prog 37 #[(.agg #[.int .u8 (r : Int), .int .u8 (g : Int), .int .u8 (b : Int), .int .u8 (a : Int)]), (.agg #[.int .u8 (r' : Int), .int .u8 (g' : Int), .int .u8 (b' : Int), .int .u8 (a' : Int)])] w fun e w' => e = .returned (.agg #[.int .u8 ((covr (255 - a) r r' : Nat) : Int), .int .u8 ((covr (255 - a) g g' : Nat) : Int), .int .u8 ((covr (255 - a) b b' : Nat) : Int), .int .u8 ((covr (255 - a) a a' : Nat) : Int)]) ∧ Ext w w' := by
  have hn : 255 - a ≤ 255 := by omega
  have ha := h.a
  have hz : (255 - (a : Int)) = ((255 - a : Nat) : Int) := by omega
  have HZ := hidP hz; clear hz
  go_enter Tryd.func37, Tryd.ntmps37
  have hmf : ∀ (fn : Fn) (first cap : Array Value) (w : World), (Instr.makeFunc fn first cap).run Tryd.prog w = .ok (.func fn first cap) w := fun _ _ _ _ => rfl
  go_wp2_with fail
  all_goals subst_vars
  all_goals rw [HZ.out]
  all_goals (
    refine (c_each 47 (w.heap.size + 1 + 1 + 1 + 1) (covr (255 - a)) (covr_le _) _ h h' (callFunc_enters Tryd.func47 (by kernel_rfl) (by kernel_rfl)) (fun x y hx hy u hu => c_over1_any _ _ x y u hx hy hn (hu.cell' (by go_simp; try rfl)))).mono ?_
    rintro e u ⟨rfl, hu⟩
    have z0 := hu.cell' (p := ⟨w.heap.size + 1 + 1, 0, none⟩) (v := .int .u8 0) (by go_simp; try rfl)
    have q0 : u.frozen? ⟨w.heap.size + 1 + 1, 0, none⟩ = false := (hu.frozen (p := ⟨w.heap.size + 1 + 1, 0, none⟩) (by simp)).trans (by go_simp)
    have z1 := hu.cell' (p := ⟨w.heap.size + 1 + 1, 1, none⟩) (v := .int .u8 0) (by go_simp; try rfl)
    have q1 : u.frozen? ⟨w.heap.size + 1 + 1, 1, none⟩ = false := (hu.frozen (p := ⟨w.heap.size + 1 + 1, 1, none⟩) (by simp)).trans (by go_simp)
    have z2 := hu.cell' (p := ⟨w.heap.size + 1 + 1, 2, none⟩) (v := .int .u8 0) (by go_simp; try rfl)
    have q2 : u.frozen? ⟨w.heap.size + 1 + 1, 2, none⟩ = false := (hu.frozen (p := ⟨w.heap.size + 1 + 1, 2, none⟩) (by simp)).trans (by go_simp)
    have z3 := hu.cell' (p := ⟨w.heap.size + 1 + 1, 3, none⟩) (v := .int .u8 0) (by go_simp; try rfl)
    have q3 : u.frozen? ⟨w.heap.size + 1 + 1, 3, none⟩ = false := (hu.frozen (p := ⟨w.heap.size + 1 + 1, 3, none⟩) (by simp)).trans (by go_simp)
    have HE : Ext w u := Ext.trans (by repeat (refine Ext.alloc ?_ _)
                                       exact Ext.refl _) hu
    clear hu
    go_wp2_with fail
    refine bodyPost_cells rfl rfl Tryd.underlying39 rfl (by kernel_rfl) (four (by go_simp; try rfl) (by go_simp; try rfl) (by go_simp; try rfl) (by go_simp; try rfl)) rfl ⟨rfl, ?_⟩
    refine (((HE.store ?_ _).store ?_ _).store ?_ _).store ?_ _ <;> (show w.heap.size ≤ w.heap.size + 1 + 1; omega))


end Go.Proofs.YtbhjookpdmfdnaaDoor
