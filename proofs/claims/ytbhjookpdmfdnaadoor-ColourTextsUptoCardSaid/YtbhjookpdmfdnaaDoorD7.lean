/- Colours in figures: Text, and the law's walk. -/
import Derived.Test.YtbhjookpdmfdnaaDoorD6
namespace Go.Proofs.YtbhjookpdmfdnaaDoor
set_option linter.unusedVariables false
open Go Go.RowKit

theorem Sl.lit' (w : World) (e : TypeId) (cs : Array Value) (xs : List Value) (n : Nat) (hx : cs.toList = xs) (hn : cs.size = n) (hm : n ≤ 65536) : Sl (w.alloc (.cells cs e)) (some ⟨w.heap.size, 0, none⟩) n n xs := by
  rw [← hx]; exact Sl.lit w e cs n hn hm

theorem Sl.four (w : World) (e : TypeId) (r g b a : Nat) : Sl (w.alloc (.cells #[.int .u8 (r : Int), .int .u8 (g : Int), .int .u8 (b : Int), .int .u8 (a : Int)] e)) (some ⟨w.heap.size, 0, none⟩) 4 4 (ints .u8 [r, g, b, a]) :=
  Sl.lit' w e _ _ 4 rfl rfl (by omega)

theorem Col8.all {r g b a : Nat} (h : Col8 r g b a) : ∀ x ∈ [r, g, b, a], x ≤ 255 := by
  intro x hx
  have := h.r; have := h.g; have := h.b; have := h.a
  simp at hx
  omega

set_option maxRecDepth 100000 in
set_option maxHeartbeats 1000000 in
theorem r08_Text_any (r g b a : Nat) (X : ByteArray) (hX : bytesOf (hexL [r, g, b, a]) = X) (w : World) (h : Col8 r g b a) :
    Calls Tryd.prog 19 #[.agg #[.int .u8 (r : Int), .int .u8 (g : Int), .int .u8 (b : Int), .int .u8 (a : Int)]] w fun e w' => e = .returned (.string X) ∧ Ext w w' := by
  have HX := hidP hX; clear hX
  go_enter Tryd.func19, Tryd.ntmps19
  go_wp2_with fail
  have hs := Sl.four (w.alloc (.cells #[.int .u8 (r : Int), .int .u8 (g : Int), .int .u8 (b : Int), .int .u8 (a : Int)] 39)) 5 r g b a
  have hz : (w.alloc (.cells #[.int .u8 (r : Int), .int .u8 (g : Int), .int .u8 (b : Int), .int .u8 (a : Int)] 39)).heap.size = w.heap.size + 1 := by simp
  rw [hz] at hs
  refine (r07_Hex_any _ 4 4 [r, g, b, a] _ hs h.all (by omega)).mono ?_
  rw [HX.out]
  rintro e w1 ⟨rfl, he1⟩
  go_wp2_with fail
  go_ret
  exact ⟨rfl, (((Ext.refl _).alloc _).alloc _).trans he1⟩

set_option maxRecDepth 100000 in
set_option maxHeartbeats 1000000 in
theorem c_Text_any (r g b a : Nat) (X : ByteArray) (hX : bytesOf (hexL [r, g, b, a]) = X) (w : World) (h : Col8 r g b a) (hF : Tab w) :
    Calls Tryd.prog 18 #[.agg #[.int .u8 (r : Int), .int .u8 (g : Int), .int .u8 (b : Int), .int .u8 (a : Int)]] w fun e w' => e = .returned (.string X) ∧ Ext w w' := by
  have HX := hidP hX; clear hX
  have HF := hidP hF; clear hF
  go_enter Tryd.func18, Tryd.ntmps18
  go_wp2_with fail
  refine (c_of_any r g b a _).mono ?_
  rintro e w1 ⟨rfl, he1⟩
  have HE : Ext w w1 := by rw [← he1]; exact (((Ext.refl _).alloc _).alloc _).alloc _
  clear he1
  go_wp2_with fail
  have HE2 := HE.alloc (.cells #[.int .u8 (r : Int), .int .u8 (g : Int), .int .u8 (b : Int), .int .u8 (a : Int)] 74)
  refine (f_Hex_any _ 4 4 [r, g, b, a] _ (Sl.four _ _ r g b a) h.all (by omega) (HF.out.ext HE2)).mono ?_
  rw [HX.out]
  rintro e w2 ⟨rfl, he2⟩
  go_wp2_with fail
  go_ret
  exact ⟨rfl, HE2.trans he2⟩

theorem parse_nums (R : Option (List Nat)) : ∃ x0 x1 x2 x3 c : Nat, parseV R = .tuple #[.agg #[.int .u8 (x0 : Int), .int .u8 (x1 : Int), .int .u8 (x2 : Int), .int .u8 (x3 : Int)], .int .i64 (c : Int)] := by
  rcases parse_cases R with ⟨_, h⟩ | ⟨_, _, _, h⟩ | ⟨r, g, b, a, _, h⟩
  · exact ⟨0, 0, 0, 0, 3, h⟩
  · exact ⟨0, 0, 0, 0, 3, h⟩
  · exact ⟨r, g, b, a, 0, h⟩

set_option maxRecDepth 100000 in
set_option maxHeartbeats 4000000 in
theorem colourTexts_any (r g b a : Nat) (s : ByteArray) (w : World) (h : Col8 r g b a) (hn : s.size ≤ 8796093022208) (hF : Tab w) :
    Calls Tryd.prog 5 #[.agg #[.int .u8 (r : Int), .int .u8 (g : Int), .int .u8 (b : Int), .int .u8 (a : Int)], .string s] w fun e w' => e = .returned (.bool true) ∧ Ext w w' := by
  have hl : ∀ x ∈ [r, g, b, a], x ≤ 255 := by
    intro x hx
    have := h.r; have := h.g; have := h.b; have := h.a
    simp at hx
    omega
  have hUH : parseV (unhexL (natsOf (bytesOf (hexL [r, g, b, a])))) = .tuple #[.agg #[.int .u8 (r : Int), .int .u8 (g : Int), .int .u8 (b : Int), .int .u8 (a : Int)], .int .i64 0] := by
    rw [natsOf_bytesOf _ (fun x hx => Nat.le_trans (hexL_le _ hl x hx) (by omega)), unhexL_hexL _ hl]
    rfl
  have hsz2 : (bytesOf (hexL [r, g, b, a])).size ≤ 8796093022208 := by rw [bytesOf_size, hexL_len]; simp
  generalize hX : bytesOf (hexL [r, g, b, a]) = X at *
  have HX := hidP hX; clear hX
  obtain ⟨x0, x1, x2, x3, cc, hp⟩ := parse_nums (unhexL (natsOf s))
  have HP := hidP hp; clear hp
  have HUH := hidP hUH; clear hUH
  have HF := hidP hF; clear hF hl
  go_enter Tryd.func5, Tryd.ntmps5
  go_wp2_with fail
  refine (c_Parse_any s _ hn).mono ?_
  rw [HP.out]
  rintro e w1 ⟨rfl, he1⟩
  have c0 := he1.cell' (p := ⟨w.heap.size, 0, none⟩) (v := .int .u8 (r : Int)) (by go_simp; try rfl)
  have c1 := he1.cell' (p := ⟨w.heap.size, 1, none⟩) (v := .int .u8 (g : Int)) (by go_simp; try rfl)
  have c2 := he1.cell' (p := ⟨w.heap.size, 2, none⟩) (v := .int .u8 (b : Int)) (by go_simp; try rfl)
  have c3 := he1.cell' (p := ⟨w.heap.size, 3, none⟩) (v := .int .u8 (a : Int)) (by go_simp; try rfl)
  have HE : Ext w w1 := ((Ext.refl _).alloc _).trans he1
  clear he1
  go_wp2_with fail
  refine (r08_Parse_any s _ hn).mono ?_
  rw [HP.out]
  rintro e w2 ⟨rfl, he2⟩
  have d0 := he2.cell' (p := ⟨w1.heap.size, 0, none⟩) (v := .int .u8 (x0 : Int)) (by go_simp; try rfl)
  have d1 := he2.cell' (p := ⟨w1.heap.size, 1, none⟩) (v := .int .u8 (x1 : Int)) (by go_simp; try rfl)
  have d2 := he2.cell' (p := ⟨w1.heap.size, 2, none⟩) (v := .int .u8 (x2 : Int)) (by go_simp; try rfl)
  have d3 := he2.cell' (p := ⟨w1.heap.size, 3, none⟩) (v := .int .u8 (x3 : Int)) (by go_simp; try rfl)
  replace he2 := ((Ext.refl _).alloc _).trans he2
  replace c0 := he2.cell' c0
  replace c1 := he2.cell' c1
  replace c2 := he2.cell' c2
  replace c3 := he2.cell' c3
  replace HE := HE.trans he2
  clear he2
  have e0 := fun o => ((Ext.refl w2).alloc o).cell' c0
  have e1 := fun o => ((Ext.refl w2).alloc o).cell' c1
  have e2 := fun o => ((Ext.refl w2).alloc o).cell' c2
  have e3 := fun o => ((Ext.refl w2).alloc o).cell' c3
  go_wp2_with fail
  clear e0 e1 e2 e3
  refine (c_Text_any r g b a X HX.out _ h (HF.out.ext (HE.alloc _))).mono ?_
  rintro e w3 ⟨rfl, he3⟩
  have y0 := he3.cell' (p := ⟨w2.heap.size, 0, none⟩) (v := .int .u8 (x0 : Int)) (by go_simp; try rfl)
  have y1 := he3.cell' (p := ⟨w2.heap.size, 1, none⟩) (v := .int .u8 (x1 : Int)) (by go_simp; try rfl)
  have y2 := he3.cell' (p := ⟨w2.heap.size, 2, none⟩) (v := .int .u8 (x2 : Int)) (by go_simp; try rfl)
  have y3 := he3.cell' (p := ⟨w2.heap.size, 3, none⟩) (v := .int .u8 (x3 : Int)) (by go_simp; try rfl)
  replace he3 := ((Ext.refl _).alloc _).trans he3
  replace c0 := he3.cell' c0
  replace c1 := he3.cell' c1
  replace c2 := he3.cell' c2
  replace c3 := he3.cell' c3
  replace d0 := he3.cell' d0
  replace d1 := he3.cell' d1
  replace d2 := he3.cell' d2
  replace d3 := he3.cell' d3
  replace HE := HE.trans he3
  clear he3
  go_wp2_with fail
  refine (c_Parse_any X _ hsz2).mono ?_
  rw [HUH.out]
  rintro e w4 ⟨rfl, he4⟩
  replace c0 := he4.cell' c0
  replace c1 := he4.cell' c1
  replace c2 := he4.cell' c2
  replace c3 := he4.cell' c3
  replace d0 := he4.cell' d0
  replace d1 := he4.cell' d1
  replace d2 := he4.cell' d2
  replace d3 := he4.cell' d3
  replace y0 := he4.cell' y0
  replace y1 := he4.cell' y1
  replace y2 := he4.cell' y2
  replace y3 := he4.cell' y3
  replace HE := HE.trans he4
  clear he4
  go_upto_region 4 with fail
  obtain ⟨w0, hw0⟩ : ∃ w0 : World, w0 = World.drew (w4.alloc (.cells #[.int .u8 (r : Int), .int .u8 (g : Int), .int .u8 (b : Int), .int .u8 (a : Int)] 39)) := ⟨_, rfl⟩
  have z0 : w0.cell? ⟨w4.heap.size, 0, none⟩ = some (.int .u8 (r : Int)) := by rw [hw0]; go_simp; try rfl
  have z1 : w0.cell? ⟨w4.heap.size, 1, none⟩ = some (.int .u8 (g : Int)) := by rw [hw0]; go_simp; try rfl
  have z2 : w0.cell? ⟨w4.heap.size, 2, none⟩ = some (.int .u8 (b : Int)) := by rw [hw0]; go_simp; try rfl
  have z3 : w0.cell? ⟨w4.heap.size, 3, none⟩ = some (.int .u8 (a : Int)) := by rw [hw0]; go_simp; try rfl
  have he0 : Ext w4 w0 := by rw [hw0]; exact ((Ext.refl _).alloc _).drew
  replace c0 := he0.cell' c0
  replace c1 := he0.cell' c1
  replace c2 := he0.cell' c2
  replace c3 := he0.cell' c3
  replace d0 := he0.cell' d0
  replace d1 := he0.cell' d1
  replace d2 := he0.cell' d2
  replace d3 := he0.cell' d3
  replace y0 := he0.cell' y0
  replace y1 := he0.cell' y1
  replace y2 := he0.cell' y2
  replace y3 := he0.cell' y3
  replace HE := HE.trans he0
  clear he0
  refine wp_region_plan (R := Ext) (.q 0 (.q 2 (.l 1 (.l 3 (.q 4 (.q 5 (.q 6 (.q 7 (.q 8 (.q 9 (.q 10 (.q 11 (.q 12 (.q 13 (.q 14 (.q 15 (.q 16 (.q 17 (.q 18 (.q 19 (.q 20 (.q 21 (.q 22 (.q 23 (.q 24 (.l 25 (.q 26 (.q 27 .done)))))))))))))))))))))))))))) (by kernel_rfl) (by kernel_rfl) (by kernel_rfl) (by kernel_rfl) Ext.refl (fun _ _ _ => Ext.trans) ?_
  rw [← hw0]
  clear hw0
  repeat (refine wpE_q (v := ?_) rfl rfl (fun u hu => ?_) ?_; rotate_left 1; (focus ((have k0 := hu.cell' c0; have k1 := hu.cell' c1; have k2 := hu.cell' c2; have k3 := hu.cell' c3; have k4 := hu.cell' d0; have k5 := hu.cell' d1; have k6 := hu.cell' d2; have k7 := hu.cell' d3; have k8 := hu.cell' y0; have k9 := hu.cell' y1; have k10 := hu.cell' y2; have k11 := hu.cell' y3; have k12 := hu.cell' z0; have k13 := hu.cell' z1; have k14 := hu.cell' z2; have k15 := hu.cell' z3); go_simp; (try rfl))); simp only [Act.put, List.setIfInBounds_toArray, List.set_cons_zero, List.set_cons_succ])
  refine wpE_l rfl rfl (fun K hK => ?_)
  go_simp
  refine (c_Text_any r g b a X HX.out _ h (HF.out.ext HE)).mono ?_
  rintro e u ⟨rfl, hu⟩
  refine hK.out _ _ hu ?_
  clear hK K
  replace HE := HE.trans hu
  replace c0 := hu.cell' c0
  replace c1 := hu.cell' c1
  replace c2 := hu.cell' c2
  replace c3 := hu.cell' c3
  replace d0 := hu.cell' d0
  replace d1 := hu.cell' d1
  replace d2 := hu.cell' d2
  replace d3 := hu.cell' d3
  replace y0 := hu.cell' y0
  replace y1 := hu.cell' y1
  replace y2 := hu.cell' y2
  replace y3 := hu.cell' y3
  replace z0 := hu.cell' z0
  replace z1 := hu.cell' z1
  replace z2 := hu.cell' z2
  replace z3 := hu.cell' z3
  clear hu
  try simp only [Act.put, List.setIfInBounds_toArray, List.set_cons_zero, List.set_cons_succ]
  refine wpE_l rfl rfl (fun K hK => ?_)
  go_simp
  refine (r08_Text_any r g b a X HX.out _ h).mono ?_
  rintro e u ⟨rfl, hu⟩
  refine hK.out _ _ hu ?_
  clear hK K
  replace HE := HE.trans hu
  replace c0 := hu.cell' c0
  replace c1 := hu.cell' c1
  replace c2 := hu.cell' c2
  replace c3 := hu.cell' c3
  replace d0 := hu.cell' d0
  replace d1 := hu.cell' d1
  replace d2 := hu.cell' d2
  replace d3 := hu.cell' d3
  replace y0 := hu.cell' y0
  replace y1 := hu.cell' y1
  replace y2 := hu.cell' y2
  replace y3 := hu.cell' y3
  replace z0 := hu.cell' z0
  replace z1 := hu.cell' z1
  replace z2 := hu.cell' z2
  replace z3 := hu.cell' z3
  clear hu
  try simp only [Act.put, List.setIfInBounds_toArray, List.set_cons_zero, List.set_cons_succ]
  repeat (refine wpE_q (v := ?_) rfl rfl (fun u hu => ?_) ?_; rotate_left 1; (focus ((have k0 := hu.cell' c0; have k1 := hu.cell' c1; have k2 := hu.cell' c2; have k3 := hu.cell' c3; have k4 := hu.cell' d0; have k5 := hu.cell' d1; have k6 := hu.cell' d2; have k7 := hu.cell' d3; have k8 := hu.cell' y0; have k9 := hu.cell' y1; have k10 := hu.cell' y2; have k11 := hu.cell' y3; have k12 := hu.cell' z0; have k13 := hu.cell' z1; have k14 := hu.cell' z2; have k15 := hu.cell' z3); go_simp; (try rfl))); simp only [Act.put, List.setIfInBounds_toArray, List.set_cons_zero, List.set_cons_succ])
  refine wpE_l rfl rfl (fun K hK => ?_)
  go_simp
  refine (lives_any _).mono ?_
  rintro e u ⟨rfl, hu⟩
  refine hK.out _ _ hu ?_
  clear hK K
  replace HE := HE.trans hu
  replace c0 := hu.cell' c0
  replace c1 := hu.cell' c1
  replace c2 := hu.cell' c2
  replace c3 := hu.cell' c3
  replace d0 := hu.cell' d0
  replace d1 := hu.cell' d1
  replace d2 := hu.cell' d2
  replace d3 := hu.cell' d3
  replace y0 := hu.cell' y0
  replace y1 := hu.cell' y1
  replace y2 := hu.cell' y2
  replace y3 := hu.cell' y3
  replace z0 := hu.cell' z0
  replace z1 := hu.cell' z1
  replace z2 := hu.cell' z2
  replace z3 := hu.cell' z3
  clear hu
  try simp only [Act.put, List.setIfInBounds_toArray, List.set_cons_zero, List.set_cons_succ]
  repeat (refine wpE_q (v := ?_) rfl rfl (fun u hu => ?_) ?_; rotate_left 1; (focus ((have k0 := hu.cell' c0; have k1 := hu.cell' c1; have k2 := hu.cell' c2; have k3 := hu.cell' c3; have k4 := hu.cell' d0; have k5 := hu.cell' d1; have k6 := hu.cell' d2; have k7 := hu.cell' d3; have k8 := hu.cell' y0; have k9 := hu.cell' y1; have k10 := hu.cell' y2; have k11 := hu.cell' y3; have k12 := hu.cell' z0; have k13 := hu.cell' z1; have k14 := hu.cell' z2; have k15 := hu.cell' z3); go_simp; (try rfl))); simp only [Act.put, List.setIfInBounds_toArray, List.set_cons_zero, List.set_cons_succ])
  refine wpE_done ?_
  go_wp2_with fail
  go_ret
  exact ⟨rfl, HE⟩

end Go.Proofs.YtbhjookpdmfdnaaDoor
