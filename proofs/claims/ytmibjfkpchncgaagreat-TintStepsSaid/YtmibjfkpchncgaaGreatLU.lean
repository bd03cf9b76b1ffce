/- Arguments that are paints. -/
import Derived.Test.YtmibjfkpchncgaaGreatLR
import Derived.Test.YtmibjfkpchncgaaGreatLP
namespace Go.Proofs.YtmibjfkpchncgaaGreat
open Go Go.RowKit Go.ChangeShapes Go.WideShapes Go.ChangeAt Go.Deep
set_option linter.unusedVariables false
set_option linter.unusedSimpArgs false

theorem luB : Tryz.prog.cellsOf 4 = 1 := by kernel_rfl
theorem luI : Tryz.prog.cellsOf 3 = 1 := by kernel_rfl
theorem luP : Tryz.prog.cellsOf 30 = 22 := by kernel_rfl
theorem list22 {α : Type} {l : List α} (h : l.length = 22) : ∃ c0 c1 c2 c3 c4 c5 c6 c7 c8 c9 c10 c11 c12 c13 c14 c15 c16 c17 c18 c19 c20 c21, l = [c0, c1, c2, c3, c4, c5, c6, c7, c8, c9, c10, c11, c12, c13, c14, c15, c16, c17, c18, c19, c20, c21] := by
  match l, h with
  | [c0, c1, c2, c3, c4, c5, c6, c7, c8, c9, c10, c11, c12, c13, c14, c15, c16, c17, c18, c19, c20, c21], _ => exact ⟨c0, c1, c2, c3, c4, c5, c6, c7, c8, c9, c10, c11, c12, c13, c14, c15, c16, c17, c18, c19, c20, c21, rfl⟩
section
variable {H : Type} {enc : TypeId × Value → H} {W : World} {spare : Nat → Bool} {held : Bool} {base : Nat}
set_option maxRecDepth 100000 in
theorem pair_cells {fuel : Nat} {cs : List Value} {x : DataW H × List MemPlace} (h : DataW.trod enc Tryz.prog W base spare held fuel 25 cs = some x) : ∃ p q : Int, cs = [.int .i64 p, .int .i64 q] ∧ (Lit.int .i64 p).wf = true ∧ (Lit.int .i64 q).wf = true := by
  obtain ⟨y0, y1, m, rfl, hl, t0, t1⟩ := trod_struct2 Tryz.underlying25 h
  rw [lpP] at hl
  match cs, hl with
  | [c0, c1], _ =>
    have t0' : DataW.trod enc Tryz.prog W base spare held m 3 [c0] = some y0 := by simpa [luI] using t0
    have t1' : DataW.trod enc Tryz.prog W base spare held m 3 [c1] = some y1 := by simpa [luI] using t1
    obtain ⟨x, hx, _, wx⟩ := DataW.trod_int Tryz.underlying3 t0'
    obtain ⟨y, hy, _, wy⟩ := DataW.trod_int Tryz.underlying3 t1'
    cases hx; cases hy
    exact ⟨x, y, rfl, wx, wy⟩
set_option maxRecDepth 100000 in
theorem raster_cells {fuel : Nat} {cs : List Value} {x : DataW H × List MemPlace} (h : DataW.trod enc Tryz.prog W base spare held fuel 28 cs = some x) :
    ∃ (p q : Int) (a : Option Addr) (n c : Nat) (l : List Col), cs = [.int .i64 p, .int .i64 q, .slice a n c] ∧ (Lit.int .i64 p).wf = true ∧ (Lit.int .i64 q).wf = true ∧ SlC W a n c l ∧ (∀ z ∈ l, colOk z) ∧ n ≤ Rows.uptoBulk x.1 := by
  obtain ⟨y0, y1, y2, m, rfl, hl, t0, t1, t2⟩ := trod_struct3 Tryz.underlying28 h
  rw [lrR] at hl
  match cs, hl with
  | [c0, c1, c2], _ =>
    have t0' : DataW.trod enc Tryz.prog W base spare held m 3 [c0] = some y0 := by simpa [luI] using t0
    have t1' : DataW.trod enc Tryz.prog W base spare held m 3 [c1] = some y1 := by simpa [luI] using t1
    have t2' : DataW.trod enc Tryz.prog W base spare held m 26 [c2] = some y2 := by
      have e : Tryz.prog.cellsOf 26 = 1 := by kernel_rfl
      simpa [e] using t2
    obtain ⟨x, hx, _, wx⟩ := DataW.trod_int Tryz.underlying3 t0'
    obtain ⟨y, hy, _, wy⟩ := DataW.trod_int Tryz.underlying3 t1'
    obtain ⟨a, n, c, l, hc, hs, hw, hb⟩ := colours_cells t2'
    cases hx; cases hy; cases hc
    refine ⟨x, y, a, n, c, l, rfl, wx, wy, hs, hw, ?_⟩
    simp only [Rows.uptoBulk, Rows.uptoBulkAll]
    omega
set_option maxRecDepth 100000 in
set_option maxHeartbeats 4000000 in
theorem paint_cells {fuel : Nat} {cs : List Value} {x : DataW H × List MemPlace} (h : DataW.trod enc Tryz.prog W base spare held fuel 30 cs = some x) :
    ∃ (k : Int) (p q : Col) (px py qx qy r ux uy vx vy x y : Int) (a : Option Addr) (n c : Nat) (s : Bool) (l : List Col), cs = [.int .i64 k, .int .u8 (p.1 : Int), .int .u8 (p.2.1 : Int), .int .u8 (p.2.2.1 : Int), .int .u8 (p.2.2.2 : Int), .int .u8 (q.1 : Int), .int .u8 (q.2.1 : Int), .int .u8 (q.2.2.1 : Int), .int .u8 (q.2.2.2 : Int), .int .i64 px, .int .i64 py, .int .i64 qx, .int .i64 qy, .int .i64 r, .int .i64 ux, .int .i64 uy, .int .i64 vx, .int .i64 vy, .int .i64 x, .int .i64 y, .slice a n c, .bool s] ∧ colOk p ∧ colOk q ∧
      (((Lit.int .i64 k).wf = true ∧ (Lit.int .i64 r).wf = true ∧ (Lit.int .i64 x).wf = true ∧ (Lit.int .i64 y).wf = true) ∧ ((Lit.int .i64 px).wf = true ∧ (Lit.int .i64 py).wf = true ∧ (Lit.int .i64 qx).wf = true ∧ (Lit.int .i64 qy).wf = true) ∧ ((Lit.int .i64 ux).wf = true ∧ (Lit.int .i64 uy).wf = true ∧ (Lit.int .i64 vx).wf = true ∧ (Lit.int .i64 vy).wf = true)) ∧ SlC W a n c l ∧ (∀ z ∈ l, colOk z) := by
  obtain ⟨xs, m, _, rfl, hl, hn, hf⟩ := DataW.trod_struct Tryz.underlying30 h
  rw [luP] at hl
  obtain ⟨c0, c1, c2, c3, c4, c5, c6, c7, c8, c9, c10, c11, c12, c13, c14, c15, c16, c17, c18, c19, c20, c21, rfl⟩ := list22 hl
  have hx : ∀ i, i < 10 → ∃ y, xs[i]? = some y := fun i hi => ⟨_, List.getElem?_eq_getElem (by rw [hn]; exact hi)⟩
  obtain ⟨y0, e0⟩ := hx 0 (by omega)
  obtain ⟨y1, e1⟩ := hx 1 (by omega)
  obtain ⟨y2, e2⟩ := hx 2 (by omega)
  obtain ⟨y3, e3⟩ := hx 3 (by omega)
  obtain ⟨y4, e4⟩ := hx 4 (by omega)
  obtain ⟨y5, e5⟩ := hx 5 (by omega)
  obtain ⟨y6, e6⟩ := hx 6 (by omega)
  obtain ⟨y7, e7⟩ := hx 7 (by omega)
  obtain ⟨y8, e8⟩ := hx 8 (by omega)
  obtain ⟨y9, e9⟩ := hx 9 (by omega)
  have t0 : DataW.trod enc Tryz.prog W base spare held m 3 [c0] = some y0 := by have := hf 0 _ rfl; rw [e0] at this; simpa [luI] using this
  have t1 : DataW.trod enc Tryz.prog W base spare held m 23 [c1, c2, c3, c4] = some y1 := by have := hf 1 _ rfl; rw [e1] at this; simpa [lrC] using this
  have t2 : DataW.trod enc Tryz.prog W base spare held m 23 [c5, c6, c7, c8] = some y2 := by have := hf 2 _ rfl; rw [e2] at this; simpa [lrC] using this
  have t3 : DataW.trod enc Tryz.prog W base spare held m 25 [c9, c10] = some y3 := by have := hf 3 _ rfl; rw [e3] at this; simpa [lpP] using this
  have t4 : DataW.trod enc Tryz.prog W base spare held m 25 [c11, c12] = some y4 := by have := hf 4 _ rfl; rw [e4] at this; simpa [lpP] using this
  have t5 : DataW.trod enc Tryz.prog W base spare held m 3 [c13] = some y5 := by have := hf 5 _ rfl; rw [e5] at this; simpa [luI] using this
  have t6 : DataW.trod enc Tryz.prog W base spare held m 25 [c14, c15] = some y6 := by have := hf 6 _ rfl; rw [e6] at this; simpa [lpP] using this
  have t7 : DataW.trod enc Tryz.prog W base spare held m 25 [c16, c17] = some y7 := by have := hf 7 _ rfl; rw [e7] at this; simpa [lpP] using this
  have t8 : DataW.trod enc Tryz.prog W base spare held m 28 [c18, c19, c20] = some y8 := by have := hf 8 _ rfl; rw [e8] at this; simpa [lrR] using this
  have t9 : DataW.trod enc Tryz.prog W base spare held m 4 [c21] = some y9 := by have := hf 9 _ rfl; rw [e9] at this; simpa [luB] using this
  obtain ⟨k, hk, _, wk⟩ := DataW.trod_int Tryz.underlying3 t0
  obtain ⟨p, hp, wp⟩ := colour_cells t1
  obtain ⟨q, hq, wq⟩ := colour_cells t2
  obtain ⟨px, py, hP, wpx, wpy⟩ := pair_cells t3
  obtain ⟨qx, qy, hQ, wqx, wqy⟩ := pair_cells t4
  obtain ⟨r, hr, _, wr⟩ := DataW.trod_int Tryz.underlying3 t5
  obtain ⟨ux, uy, hU, wux, wuy⟩ := pair_cells t6
  obtain ⟨vx, vy, hV, wvx, wvy⟩ := pair_cells t7
  obtain ⟨x, y, a, n, c, l, hR, wx, wy, hs, hw, _⟩ := raster_cells t8
  obtain ⟨s, hS, _⟩ := DataW.trod_bool Tryz.underlying4 t9
  refine ⟨k, p, q, px, py, qx, qy, r, ux, uy, vx, vy, x, y, a, n, c, s, l, ?_, wp, wq, ⟨⟨wk, wr, wx, wy⟩, ⟨wpx, wpy, wqx, wqy⟩, wux, wuy, wvx, wvy⟩, hs, hw⟩
  simp only [List.cons.injEq, and_true] at hk hp hq hP hQ hr hU hV hR hS
  obtain ⟨d1, d2, d3, d4⟩ := hp
  obtain ⟨f1, f2, f3, f4⟩ := hq
  obtain ⟨g1, g2⟩ := hP
  obtain ⟨g3, g4⟩ := hQ
  obtain ⟨g5, g6⟩ := hU
  obtain ⟨g7, g8⟩ := hV
  obtain ⟨g9, g10, g11⟩ := hR
  rw [hk, d1, d2, d3, d4, f1, f2, f3, f4, g1, g2, g3, g4, hr, g5, g6, g7, g8, g9, g10, g11, hS]
set_option maxRecDepth 100000 in
theorem paint_arg {r : Reach} {b0 : Nat} {v : Value} {d : DataW H} {p : List MemPlace} (hv : Value.okWide Tryz.prog W r b0 30 v) (h : DataW.Trod enc Tryz.prog W base spare held 30 v d p) :
    ∃ (k : Int) (p q : Col) (px py qx qy r ux uy vx vy x y : Int) (a : Option Addr) (n c : Nat) (s : Bool) (l : List Col), v = .agg #[.int .i64 k, .int .u8 (p.1 : Int), .int .u8 (p.2.1 : Int), .int .u8 (p.2.2.1 : Int), .int .u8 (p.2.2.2 : Int), .int .u8 (q.1 : Int), .int .u8 (q.2.1 : Int), .int .u8 (q.2.2.1 : Int), .int .u8 (q.2.2.2 : Int), .int .i64 px, .int .i64 py, .int .i64 qx, .int .i64 qy, .int .i64 r, .int .i64 ux, .int .i64 uy, .int .i64 vx, .int .i64 vy, .int .i64 x, .int .i64 y, .slice a n c, .bool s] ∧ colOk p ∧ colOk q ∧
      (((Lit.int .i64 k).wf = true ∧ (Lit.int .i64 r).wf = true ∧ (Lit.int .i64 x).wf = true ∧ (Lit.int .i64 y).wf = true) ∧ ((Lit.int .i64 px).wf = true ∧ (Lit.int .i64 py).wf = true ∧ (Lit.int .i64 qx).wf = true ∧ (Lit.int .i64 qy).wf = true) ∧ ((Lit.int .i64 ux).wf = true ∧ (Lit.int .i64 uy).wf = true ∧ (Lit.int .i64 vx).wf = true ∧ (Lit.int .i64 vy).wf = true)) ∧ SlC W a n c l ∧ (∀ z ∈ l, colOk z) := by
  obtain ⟨cs, rfl, hsz⟩ := okWide_struct Tryz.underlying30 hv
  obtain ⟨fuel, hf⟩ := h
  obtain ⟨k, p, q, px, py, qx, qy, r, ux, uy, vx, vy, x, y, a, n, c, s, l, hc, h1⟩ := paint_cells hf
  refine ⟨k, p, q, px, py, qx, qy, r, ux, uy, vx, vy, x, y, a, n, c, s, l, ?_, h1⟩
  rw [← hc]
  simp [Value.cells]
end
end Go.Proofs.YtmibjfkpchncgaaGreat
