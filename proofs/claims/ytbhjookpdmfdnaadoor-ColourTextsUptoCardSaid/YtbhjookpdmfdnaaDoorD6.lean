/- Colours in figures: the program's Parse and Text, and the document's. -/
import Derived.Test.YtbhjookpdmfdnaaDoorD4
import Derived.Test.YtbhjookpdmfdnaaDoorC7
namespace Go.Proofs.YtbhjookpdmfdnaaDoor
set_option linter.unusedVariables false
open Go Go.RowKit

theorem bodyPost_cells_tmp {P : Program} {fn : Func} {R : Ending → World → Prop} {a : Act} {w : World} {p q : Tmp} {ty : TypeId} {d : TypeDesc} {g : Nat} {cs : Array Value} {v : Value} (h : fn.results = #[.cell p ty, .tmp q])
    (hp : a.tmps.getD p undef = .pointer (some ⟨g, 0, none⟩)) (hu : P.underlying ty = some d) (hd : (match d with | .struct _ | .array _ _ => true | _ => false) = true) (hi : (P.info? ty).map (·.size) = some cs.size)
    (hg : ∀ j v, cs.toList[j]? = some v → w.cell? ⟨g, j, none⟩ = some v) (hq : a.tmps.getD q undef = v) (hdef : a.defers = []) (hR : R (.returned (.tuple #[.agg cs, v])) w) : bodyPost P fn R .ret a w := by
  refine bodyPost_ret (v := .tuple #[.agg cs, v]) ?_ hdef hR
  have hp' : a.tmps[p]?.getD undef = .pointer (some ⟨g, 0, none⟩) := by simpa using hp
  have hq' : a.tmps[q]?.getD undef = v := by simpa using hq
  simp [results, h, hp', hq', asAddr, run_loadVar_cells w g ty cs d hg hu hd hi]

/-- What Parse answers. -/
def parseV (r : Option (List Nat)) : Value :=
  match r with
  | some [r, g, b, a] => .tuple #[.agg #[.int .u8 (r : Int), .int .u8 (g : Int), .int .u8 (b : Int), .int .u8 (a : Int)], .int .i64 0]
  | _ => .tuple #[.agg #[.int .u8 0, .int .u8 0, .int .u8 0, .int .u8 0], .int .i64 3]
theorem parse_cases (R : Option (List Nat)) :
    (R = none ∧ parseV R = .tuple #[.agg #[.int .u8 0, .int .u8 0, .int .u8 0, .int .u8 0], .int .i64 3]) ∨
    (∃ m, R = some m ∧ m.length ≠ 4 ∧ parseV R = .tuple #[.agg #[.int .u8 0, .int .u8 0, .int .u8 0, .int .u8 0], .int .i64 3]) ∨
    (∃ r g b a, R = some [r, g, b, a] ∧ parseV R = .tuple #[.agg #[.int .u8 (r : Int), .int .u8 (g : Int), .int .u8 (b : Int), .int .u8 (a : Int)], .int .i64 0]) := by
  match R with
  | none => exact .inl ⟨rfl, rfl⟩
  | some [] => exact .inr (.inl ⟨_, rfl, by simp, rfl⟩)
  | some [_] => exact .inr (.inl ⟨_, rfl, by simp, rfl⟩)
  | some [_, _] => exact .inr (.inl ⟨_, rfl, by simp, rfl⟩)
  | some [_, _, _] => exact .inr (.inl ⟨_, rfl, by simp, rfl⟩)
  | some [r, g, b, a] => exact .inr (.inr ⟨r, g, b, a, rfl, rfl⟩)
  | some (_ :: _ :: _ :: _ :: _ :: _) => exact .inr (.inl ⟨_, rfl, by simp, rfl⟩)

set_option maxRecDepth 100000 in
set_option maxHeartbeats 2000000 in
theorem r08_Parse_any (s : ByteArray) (w : World) (hn : s.size ≤ 8796093022208) :
    Calls Tryd.prog 17 #[.string s] w fun e w' => e = .returned (parseV (unhexL (natsOf s))) ∧ Ext w w' := by
  have H := fun u => r07_Unhex_any s u hn
  generalize unhexL (natsOf s) = R at *
  have HH := hidP H; clear H
  rcases parse_cases R with ⟨rfl, hp⟩ | ⟨m, rfl, hm, hp⟩ | ⟨r, g, b, a, rfl, hp⟩
  · rw [hp]
    clear hp
    go_enter Tryd.func17, Tryd.ntmps17
    go_wp2_with fail
    refine (HH.out _).mono ?_
    rintro e w1 h1
    obtain ⟨rfl, he1⟩ := h1
    have z0 := he1.cell' (p := ⟨w.heap.size, 0, none⟩) (v := .int .u8 0) (by go_simp; try rfl)
    have q0 : w1.frozen? ⟨w.heap.size, 0, none⟩ = false := (he1.frozen (p := ⟨w.heap.size, 0, none⟩) (by simp)).trans (by go_simp)
    have z1 := he1.cell' (p := ⟨w.heap.size, 1, none⟩) (v := .int .u8 0) (by go_simp; try rfl)
    have q1 : w1.frozen? ⟨w.heap.size, 1, none⟩ = false := (he1.frozen (p := ⟨w.heap.size, 1, none⟩) (by simp)).trans (by go_simp)
    have z2 := he1.cell' (p := ⟨w.heap.size, 2, none⟩) (v := .int .u8 0) (by go_simp; try rfl)
    have q2 : w1.frozen? ⟨w.heap.size, 2, none⟩ = false := (he1.frozen (p := ⟨w.heap.size, 2, none⟩) (by simp)).trans (by go_simp)
    have z3 := he1.cell' (p := ⟨w.heap.size, 3, none⟩) (v := .int .u8 0) (by go_simp; try rfl)
    have q3 : w1.frozen? ⟨w.heap.size, 3, none⟩ = false := (he1.frozen (p := ⟨w.heap.size, 3, none⟩) (by simp)).trans (by go_simp)
    have HE : Ext w w1 := Ext.trans ((Ext.refl _).alloc _) he1
    clear he1
    go_wp2_with fail
    refine bodyPost_cells_tmp rfl rfl Tryd.underlying39 rfl (by kernel_rfl) (four (by go_simp; try rfl) (by go_simp; try rfl) (by go_simp; try rfl) (by go_simp; try rfl)) rfl rfl ⟨rfl, ?_⟩
    refine (((HE.store ?_ _).store ?_ _).store ?_ _).store ?_ _ <;> exact Nat.le_refl _
  · rw [hp]
    clear hp
    go_enter Tryd.func17, Tryd.ntmps17
    go_wp2_with fail
    refine (HH.out _).mono ?_
    rintro e w1 h1
    obtain ⟨a1, n1, c1, rfl, hs1, he1⟩ := h1
    have hl := hs1.int_len
    have hne : ((n1 : Int) == 4) = false := by simp; omega
    have hne2 : ((n1 : Int) != 4) = true := by simp; omega
    have z0 := he1.cell' (p := ⟨w.heap.size, 0, none⟩) (v := .int .u8 0) (by go_simp; try rfl)
    have q0 : w1.frozen? ⟨w.heap.size, 0, none⟩ = false := (he1.frozen (p := ⟨w.heap.size, 0, none⟩) (by simp)).trans (by go_simp)
    have z1 := he1.cell' (p := ⟨w.heap.size, 1, none⟩) (v := .int .u8 0) (by go_simp; try rfl)
    have q1 : w1.frozen? ⟨w.heap.size, 1, none⟩ = false := (he1.frozen (p := ⟨w.heap.size, 1, none⟩) (by simp)).trans (by go_simp)
    have z2 := he1.cell' (p := ⟨w.heap.size, 2, none⟩) (v := .int .u8 0) (by go_simp; try rfl)
    have q2 : w1.frozen? ⟨w.heap.size, 2, none⟩ = false := (he1.frozen (p := ⟨w.heap.size, 2, none⟩) (by simp)).trans (by go_simp)
    have z3 := he1.cell' (p := ⟨w.heap.size, 3, none⟩) (v := .int .u8 0) (by go_simp; try rfl)
    have q3 : w1.frozen? ⟨w.heap.size, 3, none⟩ = false := (he1.frozen (p := ⟨w.heap.size, 3, none⟩) (by simp)).trans (by go_simp)
    have HE : Ext w w1 := Ext.trans ((Ext.refl _).alloc _) he1
    clear he1 hl hm hs1
    go_wp2_with fail
    refine bodyPost_cells_tmp rfl rfl Tryd.underlying39 rfl (by kernel_rfl) (four (by go_simp; try rfl) (by go_simp; try rfl) (by go_simp; try rfl) (by go_simp; try rfl)) rfl rfl ⟨rfl, ?_⟩
    refine (((HE.store ?_ _).store ?_ _).store ?_ _).store ?_ _ <;> exact Nat.le_refl _
  · rw [hp]
    clear hp
    go_enter Tryd.func17, Tryd.ntmps17
    go_wp2_with fail
    refine (HH.out _).mono ?_
    rintro e w1 h1
    obtain ⟨a1, n1, c1, rfl, hs1, he1⟩ := h1
    have hl := hs1.int_len
    obtain rfl : n1 = 4 := by simpa using hl.symm
    obtain ⟨bb, off, rfl, hc⟩ := hs1.at_int (by omega)
    have k0 : w1.drew.cell? ⟨bb, off, none⟩ = some (.int .u8 (r : Int)) := by have := hc 0 (by simp); simpa using this
    have k1 : w1.drew.cell? ⟨bb, off + 1, none⟩ = some (.int .u8 (g : Int)) := by have := hc 1 (by simp); simpa using this
    have k2 : w1.drew.cell? ⟨bb, off + 2, none⟩ = some (.int .u8 (b : Int)) := by have := hc 2 (by simp); simpa using this
    have k3 : w1.drew.cell? ⟨bb, off + 3, none⟩ = some (.int .u8 (a : Int)) := by have := hc 3 (by simp); simpa using this
    clear hc hl hs1
    go_wp2_with fail
    replace he1 := he1.drew
    refine wp_region_plan (R := Ext) (.q 0 (.q 1 (.q 2 (.q 3 (.q 4 (.q 5 (.q 6 (.q 7 (.q 8 (.q 9 (.q 10 (.q 11 (.q 12 (.b 13 (.q 14 .done))))))))))))))) (by kernel_rfl) (by kernel_rfl) (by kernel_rfl) (by kernel_rfl) Ext.refl (fun _ _ _ => Ext.trans) ?_
    generalize w1.drew = w2 at *
    repeat (refine wpE_q (v := ?_) rfl rfl (fun u hu => ?_) ?_; rotate_left 1; (focus ((have cu0 := hu.cell' k0; have cu1 := hu.cell' k1; have cu2 := hu.cell' k2; have cu3 := hu.cell' k3); go_simp; (try go_bits); (try rfl))); simp only [Act.put, List.setIfInBounds_toArray, List.set_cons_zero, List.set_cons_succ])

    refine wpE_b rfl rfl (fun K hK => ?_)
    clear k0 k1 k2 k3
    have z0 := he1.cell' (p := ⟨w.heap.size, 0, none⟩) (v := .int .u8 0) (by go_simp; try rfl)
    have q0 : w2.frozen? ⟨w.heap.size, 0, none⟩ = false := (he1.frozen (p := ⟨w.heap.size, 0, none⟩) (by simp)).trans (by go_simp)
    have z1 := he1.cell' (p := ⟨w.heap.size, 1, none⟩) (v := .int .u8 0) (by go_simp; try rfl)
    have q1 : w2.frozen? ⟨w.heap.size, 1, none⟩ = false := (he1.frozen (p := ⟨w.heap.size, 1, none⟩) (by simp)).trans (by go_simp)
    have z2 := he1.cell' (p := ⟨w.heap.size, 2, none⟩) (v := .int .u8 0) (by go_simp; try rfl)
    have q2 : w2.frozen? ⟨w.heap.size, 2, none⟩ = false := (he1.frozen (p := ⟨w.heap.size, 2, none⟩) (by simp)).trans (by go_simp)
    have z3 := he1.cell' (p := ⟨w.heap.size, 3, none⟩) (v := .int .u8 0) (by go_simp; try rfl)
    have q3 : w2.frozen? ⟨w.heap.size, 3, none⟩ = false := (he1.frozen (p := ⟨w.heap.size, 3, none⟩) (by simp)).trans (by go_simp)
    have HE : Ext w w2 := Ext.trans ((Ext.refl _).alloc _) he1
    clear he1
    go_simp
    refine hK.out _ _ ?_
    clear hK K
    try simp only [Act.put, List.setIfInBounds_toArray, List.set_cons_zero, List.set_cons_succ]
    repeat (refine wpE_q (v := ?_) rfl rfl (fun u hu => ?_) ?_; rotate_left 1; (focus ((skip); go_simp; (try go_bits); (try rfl))); simp only [Act.put, List.setIfInBounds_toArray, List.set_cons_zero, List.set_cons_succ])
    refine wpE_done ?_
    go_wp2_with fail
    refine bodyPost_cells_tmp rfl rfl Tryd.underlying39 rfl (by kernel_rfl) (four (by go_simp; try rfl) (by go_simp; try rfl) (by go_simp; try rfl) (by go_simp; try rfl)) rfl rfl ⟨rfl, ?_⟩
    refine (((HE.store ?_ _).store ?_ _).store ?_ _).store ?_ _ <;> exact Nat.le_refl _

set_option maxRecDepth 100000 in
set_option maxHeartbeats 2000000 in
theorem c_Parse_any (s : ByteArray) (w : World) (hn : s.size ≤ 8796093022208) :
    Calls Tryd.prog 16 #[.string s] w fun e w' => e = .returned (parseV (unhexL (natsOf s))) ∧ Ext w w' := by
  have H := fun u => f_Unhex_any s u hn
  generalize unhexL (natsOf s) = R at *
  have HH := hidP H; clear H
  rcases parse_cases R with ⟨rfl, hp⟩ | ⟨m, rfl, hm, hp⟩ | ⟨r, g, b, a, rfl, hp⟩
  · rw [hp]
    clear hp
    go_enter Tryd.func16, Tryd.ntmps16
    go_wp2_with fail
    refine (HH.out _).mono ?_
    rintro e w1 h1
    obtain ⟨rfl, he1⟩ := h1
    have z0 := he1.cell' (p := ⟨w.heap.size, 0, none⟩) (v := .int .u8 0) (by go_simp; try rfl)
    have q0 : w1.frozen? ⟨w.heap.size, 0, none⟩ = false := (he1.frozen (p := ⟨w.heap.size, 0, none⟩) (by simp)).trans (by go_simp)
    have z1 := he1.cell' (p := ⟨w.heap.size, 1, none⟩) (v := .int .u8 0) (by go_simp; try rfl)
    have q1 : w1.frozen? ⟨w.heap.size, 1, none⟩ = false := (he1.frozen (p := ⟨w.heap.size, 1, none⟩) (by simp)).trans (by go_simp)
    have z2 := he1.cell' (p := ⟨w.heap.size, 2, none⟩) (v := .int .u8 0) (by go_simp; try rfl)
    have q2 : w1.frozen? ⟨w.heap.size, 2, none⟩ = false := (he1.frozen (p := ⟨w.heap.size, 2, none⟩) (by simp)).trans (by go_simp)
    have z3 := he1.cell' (p := ⟨w.heap.size, 3, none⟩) (v := .int .u8 0) (by go_simp; try rfl)
    have q3 : w1.frozen? ⟨w.heap.size, 3, none⟩ = false := (he1.frozen (p := ⟨w.heap.size, 3, none⟩) (by simp)).trans (by go_simp)
    have HE : Ext w w1 := Ext.trans ((Ext.refl _).alloc _) he1
    clear he1
    go_wp2_with fail
    refine bodyPost_cells_tmp rfl rfl Tryd.underlying39 rfl (by kernel_rfl) (four (by go_simp; try rfl) (by go_simp; try rfl) (by go_simp; try rfl) (by go_simp; try rfl)) rfl rfl ⟨rfl, ?_⟩
    refine (((HE.store ?_ _).store ?_ _).store ?_ _).store ?_ _ <;> exact Nat.le_refl _
  · rw [hp]
    clear hp
    go_enter Tryd.func16, Tryd.ntmps16
    go_wp2_with fail
    refine (HH.out _).mono ?_
    rintro e w1 h1
    obtain ⟨a1, n1, c1, rfl, hs1, he1⟩ := h1
    have hl := hs1.int_len
    have hne : ((n1 : Int) == 4) = false := by simp; omega
    have hne2 : ((n1 : Int) != 4) = true := by simp; omega
    have z0 := he1.cell' (p := ⟨w.heap.size, 0, none⟩) (v := .int .u8 0) (by go_simp; try rfl)
    have q0 : w1.frozen? ⟨w.heap.size, 0, none⟩ = false := (he1.frozen (p := ⟨w.heap.size, 0, none⟩) (by simp)).trans (by go_simp)
    have z1 := he1.cell' (p := ⟨w.heap.size, 1, none⟩) (v := .int .u8 0) (by go_simp; try rfl)
    have q1 : w1.frozen? ⟨w.heap.size, 1, none⟩ = false := (he1.frozen (p := ⟨w.heap.size, 1, none⟩) (by simp)).trans (by go_simp)
    have z2 := he1.cell' (p := ⟨w.heap.size, 2, none⟩) (v := .int .u8 0) (by go_simp; try rfl)
    have q2 : w1.frozen? ⟨w.heap.size, 2, none⟩ = false := (he1.frozen (p := ⟨w.heap.size, 2, none⟩) (by simp)).trans (by go_simp)
    have z3 := he1.cell' (p := ⟨w.heap.size, 3, none⟩) (v := .int .u8 0) (by go_simp; try rfl)
    have q3 : w1.frozen? ⟨w.heap.size, 3, none⟩ = false := (he1.frozen (p := ⟨w.heap.size, 3, none⟩) (by simp)).trans (by go_simp)
    have HE : Ext w w1 := Ext.trans ((Ext.refl _).alloc _) he1
    clear he1 hl hm hs1
    go_wp2_with fail
    refine bodyPost_cells_tmp rfl rfl Tryd.underlying39 rfl (by kernel_rfl) (four (by go_simp; try rfl) (by go_simp; try rfl) (by go_simp; try rfl) (by go_simp; try rfl)) rfl rfl ⟨rfl, ?_⟩
    refine (((HE.store ?_ _).store ?_ _).store ?_ _).store ?_ _ <;> exact Nat.le_refl _
  · rw [hp]
    clear hp
    go_enter Tryd.func16, Tryd.ntmps16
    go_wp2_with fail
    refine (HH.out _).mono ?_
    rintro e w1 h1
    obtain ⟨a1, n1, c1, rfl, hs1, he1⟩ := h1
    have hl := hs1.int_len
    obtain rfl : n1 = 4 := by simpa using hl.symm
    obtain ⟨bb, off, rfl, hc⟩ := hs1.at_int (by omega)
    have k0 : w1.drew.cell? ⟨bb, off, none⟩ = some (.int .u8 (r : Int)) := by have := hc 0 (by simp); simpa using this
    have k1 : w1.drew.cell? ⟨bb, off + 1, none⟩ = some (.int .u8 (g : Int)) := by have := hc 1 (by simp); simpa using this
    have k2 : w1.drew.cell? ⟨bb, off + 2, none⟩ = some (.int .u8 (b : Int)) := by have := hc 2 (by simp); simpa using this
    have k3 : w1.drew.cell? ⟨bb, off + 3, none⟩ = some (.int .u8 (a : Int)) := by have := hc 3 (by simp); simpa using this
    clear hc hl hs1
    go_wp2_with fail
    replace he1 := he1.drew
    refine wp_region_plan (R := Ext) (.q 0 (.q 1 (.q 2 (.q 3 (.q 4 (.q 5 (.q 6 (.q 7 (.q 8 (.q 9 (.q 10 (.q 11 (.q 12 (.l 13 (.b 14 (.q 15 .done)))))))))))))))) (by kernel_rfl) (by kernel_rfl) (by kernel_rfl) (by kernel_rfl) Ext.refl (fun _ _ _ => Ext.trans) ?_
    generalize w1.drew = w20 at *
    repeat (refine wpE_q (v := ?_) rfl rfl (fun u hu => ?_) ?_; rotate_left 1; (focus ((have cu0 := hu.cell' k0; have cu1 := hu.cell' k1; have cu2 := hu.cell' k2; have cu3 := hu.cell' k3); go_simp; (try go_bits); (try rfl))); simp only [Act.put, List.setIfInBounds_toArray, List.set_cons_zero, List.set_cons_succ])

    refine wpE_l rfl rfl (fun K hK => ?_)
    go_simp
    refine (c_colour_any r g b a _).mono ?_
    rintro e w2 ⟨rfl, hu⟩
    refine hK.out _ _ hu ?_
    clear hK K
    replace he1 := he1.trans hu
    replace k0 := hu.cell' k0
    replace k1 := hu.cell' k1
    replace k2 := hu.cell' k2
    replace k3 := hu.cell' k3
    clear hu
    try simp only [Act.put, List.setIfInBounds_toArray, List.set_cons_zero, List.set_cons_succ]
    refine wpE_b rfl rfl (fun K hK => ?_)
    clear k0 k1 k2 k3
    have z0 := he1.cell' (p := ⟨w.heap.size, 0, none⟩) (v := .int .u8 0) (by go_simp; try rfl)
    have q0 : w2.frozen? ⟨w.heap.size, 0, none⟩ = false := (he1.frozen (p := ⟨w.heap.size, 0, none⟩) (by simp)).trans (by go_simp)
    have z1 := he1.cell' (p := ⟨w.heap.size, 1, none⟩) (v := .int .u8 0) (by go_simp; try rfl)
    have q1 : w2.frozen? ⟨w.heap.size, 1, none⟩ = false := (he1.frozen (p := ⟨w.heap.size, 1, none⟩) (by simp)).trans (by go_simp)
    have z2 := he1.cell' (p := ⟨w.heap.size, 2, none⟩) (v := .int .u8 0) (by go_simp; try rfl)
    have q2 : w2.frozen? ⟨w.heap.size, 2, none⟩ = false := (he1.frozen (p := ⟨w.heap.size, 2, none⟩) (by simp)).trans (by go_simp)
    have z3 := he1.cell' (p := ⟨w.heap.size, 3, none⟩) (v := .int .u8 0) (by go_simp; try rfl)
    have q3 : w2.frozen? ⟨w.heap.size, 3, none⟩ = false := (he1.frozen (p := ⟨w.heap.size, 3, none⟩) (by simp)).trans (by go_simp)
    have HE : Ext w w2 := Ext.trans ((Ext.refl _).alloc _) he1
    clear he1
    go_simp
    refine hK.out _ _ ?_
    clear hK K
    try simp only [Act.put, List.setIfInBounds_toArray, List.set_cons_zero, List.set_cons_succ]
    repeat (refine wpE_q (v := ?_) rfl rfl (fun u hu => ?_) ?_; rotate_left 1; (focus ((skip); go_simp; (try go_bits); (try rfl))); simp only [Act.put, List.setIfInBounds_toArray, List.set_cons_zero, List.set_cons_succ])
    refine wpE_done ?_
    go_wp2_with fail
    refine bodyPost_cells_tmp rfl rfl Tryd.underlying39 rfl (by kernel_rfl) (four (by go_simp; try rfl) (by go_simp; try rfl) (by go_simp; try rfl) (by go_simp; try rfl)) rfl rfl ⟨rfl, ?_⟩
    refine (((HE.store ?_ _).store ?_ _).store ?_ _).store ?_ _ <;> exact Nat.le_refl _

end Go.Proofs.YtbhjookpdmfdnaaDoor
