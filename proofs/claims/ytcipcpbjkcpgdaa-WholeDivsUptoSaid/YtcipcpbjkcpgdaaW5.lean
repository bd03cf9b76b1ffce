/- The laws of whole numbers live. -/
import Derived.Test.YtcipcpbjkcpgdaaW3
import Derived.Test.YtcipcpbjkcpgdaaW4
namespace Go.Proofs.Ytcipcpbjkcpgdaa
set_option linter.unusedVariables false
open Go Go.RowKit

theorem bodyPost_cells2_tmp {P : Program} {fn : Func} {R : Ending → World → Prop} {a : Act} {w : World} {p p' q : Tmp} {ty : TypeId} {d : TypeDesc} {g g' : Nat} {cs cs' : Array Value} {v : Value} (h : fn.results = #[.cell p ty, .cell p' ty, .tmp q])
    (hp : a.tmps.getD p undef = .pointer (some ⟨g, 0, none⟩)) (hp2 : a.tmps.getD p' undef = .pointer (some ⟨g', 0, none⟩)) (hu : P.underlying ty = some d) (hd : (match d with | .struct _ | .array _ _ => true | _ => false) = true) (hi : (P.info? ty).map (·.size) = some cs.size) (hi' : (P.info? ty).map (·.size) = some cs'.size)
    (hg : ∀ j v, cs.toList[j]? = some v → w.cell? ⟨g, j, none⟩ = some v) (hg' : ∀ j v, cs'.toList[j]? = some v → w.cell? ⟨g', j, none⟩ = some v) (hq : a.tmps.getD q undef = v) (hdef : a.defers = []) (hR : R (.returned (.tuple #[.agg cs, .agg cs', v])) w) : bodyPost P fn R .ret a w := by
  refine bodyPost_ret (v := .tuple #[.agg cs, .agg cs', v]) ?_ hdef hR
  have hp' : a.tmps[p]?.getD undef = .pointer (some ⟨g, 0, none⟩) := by simpa using hp
  have hp3 : a.tmps[p']?.getD undef = .pointer (some ⟨g', 0, none⟩) := by simpa using hp2
  have hq' : a.tmps[q]?.getD undef = v := by simpa using hq
  simp [results, h, hp', hp3, hq', asAddr, run_loadVar_cells w g ty cs d hg hu hd hi, run_loadVar_cells w g' ty cs' d hg' hu hd hi']

set_option maxRecDepth 100000 in
set_option maxHeartbeats 2000000 in
theorem w_Div_live (a a' : Option Addr) (n cap n' cap' : Nat) (w : World) (hs : Sl w a n cap (ints .u32 (dig B32 7))) (hs' : Sl w a' n' cap' (ints .u32 (dig B32 2))) :
    Calls Try.prog 47 #[.agg #[.bool true, .slice a n cap], .agg #[.bool false, .slice a' n' cap']] w fun e w' => ∃ a2 n2 c2 a3 n3 c3, e = .returned (.tuple #[.agg #[.bool true, .slice a2 n2 c2], .agg #[.bool false, .slice a3 n3 c3], .bool true]) ∧ WhIn w' true a2 n2 c2 (-4) ∧ WhIn w' false a3 n3 c3 1 ∧ Ext w w' := by
  have hn : n = 1 := by have := hs.int_len; rw [dig_one (by omega) (by omega)] at this; exact this.symm
  have hn' : n' = 1 := by have := hs'.int_len; rw [dig_one (by omega) (by omega)] at this; exact this.symm
  subst hn; subst hn'
  have hs2 := hs'
  rw [dig_one (by omega) (by omega)] at hs2
  have HS := hidP hs; have HS' := hidP hs'; have HS2 := hidP hs2
  clear hs hs' hs2
  go_enter Try.func47, Try.ntmps47
  go_wp2_with fail
  refine (nat_Div_one a a' 1 cap 1 cap' _ 2 _ (HS.out.ext (((((Ext.refl _).alloc _).alloc _).alloc _).alloc _)) (HS2.out.ext (((((Ext.refl _).alloc _).alloc _).alloc _).alloc _)) (Ws.dig _) (by omega) (by omega) (by omega) (by rw [val_dig B32_two]; omega)).mono ?_
  rw [val_dig B32_two]
  rintro e w1 ⟨aq, nq, cq, ar, nr, cr, rfl, hq, hr, he1⟩
  have c0 := he1.cell' (p := ⟨w.heap.size, 0, none⟩) (v := .bool true) (by go_simp; try rfl)
  have c1 := he1.cell' (p := ⟨w.heap.size, 1, none⟩) (v := .slice a 1 cap) (by go_simp; try rfl)
  have d0 := he1.cell' (p := ⟨w.heap.size + 1, 0, none⟩) (v := .bool false) (by go_simp; try rfl)
  have d1 := he1.cell' (p := ⟨w.heap.size + 1, 1, none⟩) (v := .slice a' 1 cap') (by go_simp; try rfl)
  have z0 := he1.cell' (p := ⟨w.heap.size + 1 + 1, 0, none⟩) (v := .bool false) (by go_simp; try rfl)
  have qz0 : w1.frozen? ⟨w.heap.size + 1 + 1, 0, none⟩ = false := (he1.frozen (p := ⟨w.heap.size + 1 + 1, 0, none⟩) (by simp)).trans (by go_simp)
  have z1 := he1.cell' (p := ⟨w.heap.size + 1 + 1, 1, none⟩) (v := .slice none 0 0) (by go_simp; try rfl)
  have qz1 : w1.frozen? ⟨w.heap.size + 1 + 1, 1, none⟩ = false := (he1.frozen (p := ⟨w.heap.size + 1 + 1, 1, none⟩) (by simp)).trans (by go_simp)
  have y0 := he1.cell' (p := ⟨w.heap.size + 1 + 1 + 1, 0, none⟩) (v := .bool false) (by go_simp; try rfl)
  have qy0 : w1.frozen? ⟨w.heap.size + 1 + 1 + 1, 0, none⟩ = false := (he1.frozen (p := ⟨w.heap.size + 1 + 1 + 1, 0, none⟩) (by simp)).trans (by go_simp)
  have y1 := he1.cell' (p := ⟨w.heap.size + 1 + 1 + 1, 1, none⟩) (v := .slice none 0 0) (by go_simp; try rfl)
  have qy1 : w1.frozen? ⟨w.heap.size + 1 + 1 + 1, 1, none⟩ = false := (he1.frozen (p := ⟨w.heap.size + 1 + 1 + 1, 1, none⟩) (by simp)).trans (by go_simp)
  have HE : Ext w w1 := (((((Ext.refl _).alloc _).alloc _).alloc _).alloc _).trans he1
  clear he1
  have hr1 : dig B32 (7 % 2) = [1] := dig_one (by omega) (by omega)
  have hq1 : dig B32 (7 / 2) = [3] := dig_one (by omega) (by omega)
  rw [hr1] at hr
  rw [hq1] at hq
  obtain rfl : nr = 1 := hr.int_len.symm
  obtain rfl : nq = 1 := hq.int_len.symm
  clear hr1 hq1
  have ws1 : Ws [1] := by intro d hd; simp at hd; subst hd; decide
  have ws3 : Ws [3] := by intro d hd; simp at hd; subst hd; decide
  go_wp2_with fail
  have h1 := Sl.lit w1 57 #[.int .u32 1] 1 rfl (by omega)
  refine (nat_Add_any aq _ 1 cq 1 1 [3] [1] _ (hq.ext ((Ext.refl _).alloc _)) h1 ws3 ws1 (by omega) (by omega)).mono ?_
  rintro e w2 ⟨a4, n4, c4, rfl, h4, he2⟩
  replace he2 := ((Ext.refl w1).alloc _).trans he2
  replace qz0 := (he2.frozen (p := ⟨w.heap.size + 1 + 1, 0, none⟩) (World.block_lt_of_cell? w1 _ z0)).trans qz0
  replace qz1 := (he2.frozen (p := ⟨w.heap.size + 1 + 1, 1, none⟩) (World.block_lt_of_cell? w1 _ z1)).trans qz1
  replace qy0 := (he2.frozen (p := ⟨w.heap.size + 1 + 1 + 1, 0, none⟩) (World.block_lt_of_cell? w1 _ y0)).trans qy0
  replace qy1 := (he2.frozen (p := ⟨w.heap.size + 1 + 1 + 1, 1, none⟩) (World.block_lt_of_cell? w1 _ y1)).trans qy1
  replace c0 := he2.cell' c0
  replace c1 := he2.cell' c1
  replace d0 := he2.cell' d0
  replace d1 := he2.cell' d1
  replace z0 := he2.cell' z0
  replace z1 := he2.cell' z1
  replace y0 := he2.cell' y0
  replace y1 := he2.cell' y1
  replace hr := hr.ext he2
  replace HE := HE.trans he2
  clear he2 h1 hq
  have hv4 : val B32 [3] + val B32 [1] = 4 := by simp [val]
  rw [hv4, dig_one (by omega) (by omega)] at h4
  obtain rfl : n4 = 1 := h4.int_len.symm
  clear hv4
  go_wp2_with fail
  refine (nat_Sub_any a' ar 1 cap' 1 cr [2] [1] _ (HS2.out.ext HE) hr (by intro d hd; simp at hd; subst hd; decide) ws1 (by omega) (by omega)).mono ?_
  rintro e w3 ⟨a5, n5, c5, rfl, h5, he3⟩
  replace qz0 := (he3.frozen (p := ⟨w.heap.size + 1 + 1, 0, none⟩) (World.block_lt_of_cell? w2 _ z0)).trans qz0
  replace qz1 := (he3.frozen (p := ⟨w.heap.size + 1 + 1, 1, none⟩) (World.block_lt_of_cell? w2 _ z1)).trans qz1
  replace qy0 := (he3.frozen (p := ⟨w.heap.size + 1 + 1 + 1, 0, none⟩) (World.block_lt_of_cell? w2 _ y0)).trans qy0
  replace qy1 := (he3.frozen (p := ⟨w.heap.size + 1 + 1 + 1, 1, none⟩) (World.block_lt_of_cell? w2 _ y1)).trans qy1
  replace c0 := he3.cell' c0
  replace c1 := he3.cell' c1
  replace d0 := he3.cell' d0
  replace d1 := he3.cell' d1
  replace z0 := he3.cell' z0
  replace z1 := he3.cell' z1
  replace y0 := he3.cell' y0
  replace y1 := he3.cell' y1
  replace h4 := h4.ext he3
  replace HE := HE.trans he3
  clear he3 hr
  have hv5 : val B32 [2] - val B32 [1] = 1 := by simp [val]
  rw [hv5, dig_one (by omega) (by omega)] at h5
  obtain rfl : n5 = 1 := h5.int_len.symm
  generalize decide (val B32 [1] ≤ val B32 [2]) = bb at *
  clear hv5
  rw [← dig_one (d := 4) (by omega) (by omega)] at h4
  rw [← dig_one (d := 1) (by omega) (by omega)] at h5
  go_wp2_with fail
  refine (w_clean_any true a4 1 c4 4 _ h4).mono ?_
  rintro e w4 ⟨a6, n6, c6, rfl, h6, he4⟩
  replace qz0 := (he4.frozen (p := ⟨w.heap.size + 1 + 1, 0, none⟩) (World.block_lt_of_cell? w3 _ z0)).trans qz0
  replace qz1 := (he4.frozen (p := ⟨w.heap.size + 1 + 1, 1, none⟩) (World.block_lt_of_cell? w3 _ z1)).trans qz1
  replace qy0 := (he4.frozen (p := ⟨w.heap.size + 1 + 1 + 1, 0, none⟩) (World.block_lt_of_cell? w3 _ y0)).trans qy0
  replace qy1 := (he4.frozen (p := ⟨w.heap.size + 1 + 1 + 1, 1, none⟩) (World.block_lt_of_cell? w3 _ y1)).trans qy1
  replace c0 := he4.cell' c0
  replace c1 := he4.cell' c1
  replace d0 := he4.cell' d0
  replace d1 := he4.cell' d1
  replace z0 := he4.cell' z0
  replace z1 := he4.cell' z1
  replace y0 := he4.cell' y0
  replace y1 := he4.cell' y1
  replace h5 := h5.ext he4
  replace HE := HE.trans he4
  clear he4 h4
  rw [show decide (wz true 4 < 0) = true by decide]
  rw [show (wz true 4).natAbs = 4 by decide] at h6
  go_wp2_with fail
  refine (w_clean_any false a5 1 c5 1 _ h5).mono ?_
  rintro e w5 ⟨a7, n7, c7, rfl, h7, he5⟩
  replace qz0 := (he5.frozen (p := ⟨w.heap.size + 1 + 1, 0, none⟩) (World.block_lt_of_cell? w4 _ z0)).trans qz0
  replace qz1 := (he5.frozen (p := ⟨w.heap.size + 1 + 1, 1, none⟩) (World.block_lt_of_cell? w4 _ z1)).trans qz1
  replace qy0 := (he5.frozen (p := ⟨w.heap.size + 1 + 1 + 1, 0, none⟩) (World.block_lt_of_cell? w4 _ y0)).trans qy0
  replace qy1 := (he5.frozen (p := ⟨w.heap.size + 1 + 1 + 1, 1, none⟩) (World.block_lt_of_cell? w4 _ y1)).trans qy1
  replace c0 := he5.cell' c0
  replace c1 := he5.cell' c1
  replace d0 := he5.cell' d0
  replace d1 := he5.cell' d1
  replace z0 := he5.cell' z0
  replace z1 := he5.cell' z1
  replace y0 := he5.cell' y0
  replace y1 := he5.cell' y1
  replace h6 := h6.ext he5
  replace HE := HE.trans he5
  clear he5 h5
  rw [show decide (wz false 1 < 0) = false by decide]
  rw [show (wz false 1).natAbs = 1 by decide] at h7
  obtain rfl : n6 = 1 := by have := h6.int_len; rw [dig_one (by omega) (by omega)] at this; exact this.symm
  obtain rfl : n7 = 1 := by have := h7.int_len; rw [dig_one (by omega) (by omega)] at this; exact this.symm
  have H6 := hidP h6; have H7 := hidP h7; have HEE := hidP HE
  clear h6 h7 HE c0 c1 d0 d1
  go_wp2_with fail
  refine bodyPost_cells2_tmp rfl rfl rfl Try.underlying51 rfl (by kernel_rfl) (by kernel_rfl) (two (by go_simp; try rfl) (by go_simp; try rfl)) (two (by go_simp; try rfl) (by go_simp; try rfl)) rfl rfl ?_
  have hS : ∀ (aa : Option Addr) (nn cc m : Nat), Sl w5 aa nn cc (ints .u32 (dig B32 m)) → ∀ v0 v1 v2 v3 : Value, Sl ((((w5.setCell ⟨w.heap.size + 1 + 1, 0, none⟩ v0).setCell ⟨w.heap.size + 1 + 1, 1, none⟩ v1).setCell ⟨w.heap.size + 1 + 1 + 1, 0, none⟩ v2).setCell ⟨w.heap.size + 1 + 1 + 1, 1, none⟩ v3) aa nn cc (ints .u32 (dig B32 m)) := by
    intro aa nn cc m h v0 v1 v2 v3
    refine (((h.set v0 z0 (fun x hx => by cases hx)).set v1 (old := .slice none 0 0) ?_ (fun x hx => by cases hx)).set v2 (old := .bool false) ?_ (fun x hx => by cases hx)).set v3 (old := .slice none 0 0) ?_ (fun x hx => by cases hx)
    · rw [World.cell?_setCell_other _ _ _ _ (by simp)]; exact z1
    · rw [World.cell?_setCell_other _ _ _ _ (by simp), World.cell?_setCell_other _ _ _ _ (by simp)]; exact y0
    · rw [World.cell?_setCell_other _ _ _ _ (by simp), World.cell?_setCell_other _ _ _ _ (by simp), World.cell?_setCell_other _ _ _ _ (by simp)]; exact y1
  refine ⟨a6, 1, c6, a7, 1, c7, rfl, ⟨⟨_, hS _ _ _ _ H6.out _ _ _ _, Ws.dig _, by rw [val_dig B32_two]; rfl⟩, by omega⟩, ⟨⟨_, hS _ _ _ _ H7.out _ _ _ _, Ws.dig _, by rw [val_dig B32_two]; rfl⟩, by omega⟩, ?_⟩
  refine (((HEE.out.store ?_ _).store ?_ _).store ?_ _).store ?_ _ <;> (simp only []; omega)

end Go.Proofs.Ytcipcpbjkcpgdaa
