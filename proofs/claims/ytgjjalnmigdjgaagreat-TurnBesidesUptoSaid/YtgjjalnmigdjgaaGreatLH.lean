/- Arguments that are rows of ways, and edges. -/
import Derived.Test.YtgjjalnmigdjgaaGreatLG
import Derived.Test.YtgjjalnmigdjgaaGreatU19
namespace Go.Proofs.YtgjjalnmigdjgaaGreat
open Go Go.RowKit Go.ChangeShapes Go.WideShapes Go.ChangeAt Go.Deep
set_option linter.unusedVariables false
set_option linter.unusedSimpArgs false
theorem lhE : Tryz.prog.cellsOf 40 = 12 := by kernel_rfl
theorem list12 {α : Type} {l : List α} (h : l.length = 12) : ∃ a b c d e f a' b' c' d' e' f', l = [a, b, c, d, e, f, a', b', c', d', e', f'] := by
  match l, h with
  | [a, b, c, d, e, f, a', b', c', d', e', f'], _ => exact ⟨a, b, c, d, e, f, a', b', c', d', e', f', rfl⟩
section
variable {H : Type} {enc : TypeId × Value → H} {W : World} {spare : Nat → Bool} {held : Bool} {base : Nat}
theorem wfI {n : Int} (hw : (Lit.int .i64 n).wf = true) : -9223372036854775808 ≤ n ∧ n ≤ 9223372036854775807 := by
  simp [Lit.wf] at hw
  exact ⟨hw.1, hw.2⟩
set_option maxRecDepth 100000 in
theorem pair_cellsW {fuel : Nat} {cs : List Value} {x : DataW H × List MemPlace} (h : DataW.trod enc Tryz.prog W base spare held fuel 51 cs = some x) : ∃ p q : Int, cs = [.int .i64 p, .int .i64 q] ∧ (-9223372036854775808 ≤ p ∧ p ≤ 9223372036854775807 ∧ -9223372036854775808 ≤ q ∧ q ≤ 9223372036854775807) := by
  obtain ⟨y0, y1, m, rfl, hl, t0, t1⟩ := trod_struct2 Tryz.underlying51 h
  rw [lpP] at hl
  match cs, hl with
  | [c0, c1], _ =>
    have t0' : DataW.trod enc Tryz.prog W base spare held m 3 [c0] = some y0 := by simpa [lgI] using t0
    have t1' : DataW.trod enc Tryz.prog W base spare held m 3 [c1] = some y1 := by simpa [lgI] using t1
    obtain ⟨x, hx, _, wx⟩ := DataW.trod_int Tryz.underlying3 t0'
    obtain ⟨y, hy, _, wy⟩ := DataW.trod_int Tryz.underlying3 t1'
    cases hx; cases hy
    exact ⟨x, y, rfl, (wfI wx).1, (wfI wx).2, (wfI wy).1, (wfI wy).2⟩
set_option maxRecDepth 100000 in
theorem seg_cellsW {fuel : Nat} {cs : List Value} {x : DataW H × List MemPlace} (h : DataW.trod enc Tryz.prog W base spare held fuel 53 cs = some x) : ∃ q : Sg, cs = [.int .i64 q.1.1, .int .i64 q.1.2, .int .i64 q.2.1, .int .i64 q.2.2] ∧ wfS q := by
  obtain ⟨y0, y1, m, rfl, hl, t0, t1⟩ := trod_struct2 Tryz.underlying53 h
  rw [lgS] at hl
  match cs, hl with
  | [c0, c1, c2, c3], _ =>
    have t0' : DataW.trod enc Tryz.prog W base spare held m 51 [c0, c1] = some y0 := by simpa [lpP] using t0
    have t1' : DataW.trod enc Tryz.prog W base spare held m 51 [c2, c3] = some y1 := by simpa [lpP] using t1
    obtain ⟨a, b, ha, wa⟩ := pair_cellsW t0'
    obtain ⟨c, d, hc, wc⟩ := pair_cellsW t1'
    cases ha; cases hc
    exact ⟨((a, b), (c, d)), rfl, wa, wc⟩
set_option maxRecDepth 100000 in
theorem segs_cellsW {fuel : Nat} {cs : List Value} {x : DataW H × List MemPlace} (h : DataW.trod enc Tryz.prog W base spare held fuel 22 cs = some x) :
    ∃ (a : Option Addr) (n cap : Nat) (l : List Sg), cs = [.slice a n cap] ∧ SlG W a n cap l ∧ (∀ g ∈ l, wfS g) ∧ n ≤ Rows.uptoBulk x.1 := by
 rcases open_slice Tryz.underlying22 h with ⟨rfl, rfl⟩ | ⟨a, len, cap, m, n, D, Pl, rfl, hb, hl, hm, hmm, hx, hi⟩
 · exact ⟨none, 0, 0, [], rfl, SlK.nil 4 W, fun g hg => by simp at hg, Nat.zero_le _⟩
 rw [lgS] at hi
 have hlm : len ≤ m := by rw [hmm]; split <;> omega
 obtain ⟨f, hf⟩ := choose_lt (n := m) (p := fun i (q : Sg) => (W.cell? (a.add (i * 4)) = some (.int .i64 q.1.1) ∧ W.cell? (a.add (i * 4 + 1)) = some (.int .i64 q.1.2) ∧ W.cell? (a.add (i * 4 + 2)) = some (.int .i64 q.2.1) ∧ W.cell? (a.add (i * 4 + 3)) = some (.int .i64 q.2.2)) ∧ wfS q) (fun i him => by
  obtain ⟨cs', hc, ht⟩ := hi i him
  obtain ⟨q, rfl, wq⟩ := seg_cellsW ht
  obtain ⟨_, _, hat⟩ := World.cells?_some hc
  refine ⟨q, ⟨?_, ?_, ?_, ?_⟩, wq⟩
  · have := hat 0 (by omega)
    rwa [add_add, Nat.add_zero] at this
  · have := hat 1 (by omega)
    rwa [add_add] at this
  · have := hat 2 (by omega)
    rwa [add_add] at this
  have := hat 3 (by omega)
  rwa [add_add] at this)
 have hbk : len ≤ Rows.uptoBulk x.1 := by
  rw [hx]
  simp only [Rows.uptoBulk]
  have := bulk_len (H := H) ((List.range len).map D)
  rw [List.length_map, List.length_range] at this
  omega
 rcases Nat.eq_zero_or_pos len with h0 | h0
 · subst h0
   exact ⟨some a, 0, cap, [], rfl, ⟨rfl, Nat.zero_le _, hm, fun h => absurd h (by omega)⟩, fun g hg => by simp at hg, Nat.zero_le _⟩
 have h1 := (hf 0 (by omega)).1.1
 rw [Nat.zero_mul] at h1
 have h2 : a.add 0 = a := by simp [Addr.add]
 rw [h2] at h1
 have hs := spot_none h1
 refine ⟨some a, len, cap, (List.range len).map f, rfl, ?_, fun g hg => ?_, hbk⟩
 · rw [hs]
   have hadd : ∀ j, a.add j = ⟨a.block, a.off + j, none⟩ := fun j => by
    rw [hs]
    unfold Addr.add
    by_cases hz : j = 0
    · subst hz; simp
    simp [hz]
   refine SlG.mk (by simp) hl hm (fun i hi2 => ?_)
   have hi3 : i < len := by simpa using hi2
   have := (hf i (by omega)).1
   rw [hadd, hadd, hadd, hadd] at this
   simpa using this
 obtain ⟨i, hi, rfl⟩ := List.mem_map.1 hg
 exact (hf i (by have := List.mem_range.1 hi; omega)).2
set_option maxRecDepth 100000 in
theorem segs_arg {r : Reach} {b0 : Nat} {v : Value} {x : DataW H} {p : List MemPlace} (hv : Value.okWide Tryz.prog W r b0 22 v) (h : DataW.Trod enc Tryz.prog W base spare held 22 v x p) :
    ∃ (a : Option Addr) (n c : Nat) (l : List Sg), v = .slice a n c ∧ SlG W a n c l ∧ (∀ g ∈ l, wfS g) ∧ n ≤ Rows.uptoBulk x := by
  obtain ⟨a0, n0, c0, rfl⟩ := okWide_slice Tryz.underlying22 hv
  obtain ⟨fuel, hf⟩ := h
  obtain ⟨a, n, c, l, hc, hs, hw, hb⟩ := segs_cellsW hf
  cases hc
  exact ⟨a0, n0, c0, l, rfl, hs, hw, hb⟩
set_option maxRecDepth 100000 in
theorem spot_cells {fuel : Nat} {cs : List Value} {x : DataW H × List MemPlace} (h : DataW.trod enc Tryz.prog W base spare held fuel 31 cs = some x) :
    ∃ (g : Bool) (a : Option Addr) (n cap : Nat) (l : List Nat) (d : Option Addr) (m k : Nat) (e : List Nat) (g' : Bool) (a' : Option Addr) (n' cap' : Nat) (l' : List Nat) (d' : Option Addr) (m' k' : Nat) (e' : List Nat), cs = [.bool g, .slice a n cap, .slice d m k, .bool g', .slice a' n' cap', .slice d' m' k'] ∧
      (Sl W a n cap (ints .u32 l) ∧ (∀ y ∈ l, (Lit.int .u32 (y : Int)).wf = true) ∧ n ≤ Rows.uptoBulk x.1 ∧ Sl W d m k (ints .u32 e) ∧ (∀ y ∈ e, (Lit.int .u32 (y : Int)).wf = true) ∧ m ≤ Rows.uptoBulk x.1) ∧
      (Sl W a' n' cap' (ints .u32 l') ∧ (∀ y ∈ l', (Lit.int .u32 (y : Int)).wf = true) ∧ n' ≤ Rows.uptoBulk x.1 ∧ Sl W d' m' k' (ints .u32 e') ∧ (∀ y ∈ e', (Lit.int .u32 (y : Int)).wf = true) ∧ m' ≤ Rows.uptoBulk x.1) := by
  obtain ⟨y0, y1, f, rfl, hl, t0, t1⟩ := trod_struct2 Tryz.underlying31 h
  rw [lgO] at hl
  obtain ⟨c0, c1, c2, c3, c4, c5, rfl⟩ := list6 hl
  have t0' : DataW.trod enc Tryz.prog W base spare held f 29 [c0, c1, c2] = some y0 := by simpa [lfF] using t0
  have t1' : DataW.trod enc Tryz.prog W base spare held f 29 [c3, c4, c5] = some y1 := by simpa [lfF] using t1
  obtain ⟨g, a, n, cap, l, d, m, k, e, hc, h1, h2, h3, h4, h5, h6⟩ := frac_cells t0'
  obtain ⟨g', a', n', cap', l', d', m', k', e', hc', i1, i2, i3, i4, i5, i6⟩ := frac_cells t1'
  cases hc; cases hc'
  refine ⟨g, a, n, cap, l, d, m, k, e, g', a', n', cap', l', d', m', k', e', rfl, ⟨h1, h2, ?_, h4, h5, ?_⟩, ⟨i1, i2, ?_, i4, i5, ?_⟩⟩
  all_goals (simp only [Rows.uptoBulk, Rows.uptoBulkAll]; omega)
def FwS (w : World) (a : Option Addr) (n cap : Nat) (l : List Nat) (d : Option Addr) (m k : Nat) (e : List Nat) (B : Nat) : Prop := Sl w a n cap (ints .u32 l) ∧ (∀ y ∈ l, (Lit.int .u32 (y : Int)).wf = true) ∧ n ≤ B ∧ Sl w d m k (ints .u32 e) ∧ (∀ y ∈ e, (Lit.int .u32 (y : Int)).wf = true) ∧ m ≤ B
theorem FwS.mono {w : World} {a : Option Addr} {n cap : Nat} {l : List Nat} {d : Option Addr} {m k : Nat} {e : List Nat} {B C : Nat} (h : FwS w a n cap l d m k e B) (hb : B ≤ C) : FwS w a n cap l d m k e C := ⟨h.1, h.2.1, Nat.le_trans h.2.2.1 hb, h.2.2.2.1, h.2.2.2.2.1, Nat.le_trans h.2.2.2.2.2 hb⟩
set_option maxRecDepth 100000 in
theorem edge_arg {r : Reach} {b0 : Nat} {v : Value} {x : DataW H} {p : List MemPlace} (hv : Value.okWide Tryz.prog W r b0 40 v) (h : DataW.Trod enc Tryz.prog W base spare held 40 v x p) :
    ∃ (g1 : Bool) (a1 : Option Addr) (n1 c1 : Nat) (l1 : List Nat) (d1 : Option Addr) (m1 k1 : Nat) (e1 : List Nat) (g2 : Bool) (a2 : Option Addr) (n2 c2 : Nat) (l2 : List Nat) (d2 : Option Addr) (m2 k2 : Nat) (e2 : List Nat) (g3 : Bool) (a3 : Option Addr) (n3 c3 : Nat) (l3 : List Nat) (d3 : Option Addr) (m3 k3 : Nat) (e3 : List Nat) (g4 : Bool) (a4 : Option Addr) (n4 c4 : Nat) (l4 : List Nat) (d4 : Option Addr) (m4 k4 : Nat) (e4 : List Nat), v = .agg #[.bool g1, .slice a1 n1 c1, .slice d1 m1 k1, .bool g2, .slice a2 n2 c2, .slice d2 m2 k2, .bool g3, .slice a3 n3 c3, .slice d3 m3 k3, .bool g4, .slice a4 n4 c4, .slice d4 m4 k4] ∧ FwS W a1 n1 c1 l1 d1 m1 k1 e1 (Rows.uptoBulk x) ∧ FwS W a2 n2 c2 l2 d2 m2 k2 e2 (Rows.uptoBulk x) ∧ FwS W a3 n3 c3 l3 d3 m3 k3 e3 (Rows.uptoBulk x) ∧ FwS W a4 n4 c4 l4 d4 m4 k4 e4 (Rows.uptoBulk x) := by
 obtain ⟨cs, rfl, hsz⟩ := okWide_struct Tryz.underlying40 hv
 obtain ⟨fuel, hf⟩ := h
 obtain ⟨y0, y1, f, hx, hl, t0, t1⟩ := trod_struct2 Tryz.underlying40 hf
 cases hx
 rw [lhE] at hl
 obtain ⟨c0, c1, c2, c3, c4, c5, b0_, b1_, b2_, b3_, b4_, b5_, he⟩ := list12 hl
 rw [he] at t0 t1
 have t0' : DataW.trod enc Tryz.prog W base spare held f 31 [c0, c1, c2, c3, c4, c5] = some y0 := by simpa [lgO] using t0
 have t1' : DataW.trod enc Tryz.prog W base spare held f 31 [b0_, b1_, b2_, b3_, b4_, b5_] = some y1 := by simpa [lgO] using t1
 obtain ⟨g1, a1, n1, c1, l1, d1, m1, k1, e1, g2, a2, n2, c2, l2, d2, m2, k2, e2, hc, h1, h2⟩ := spot_cells t0'
 obtain ⟨g3, a3, n3, c3, l3, d3, m3, k3, e3, g4, a4, n4, c4, l4, d4, m4, k4, e4, hc', h3, h4⟩ := spot_cells t1'
 cases hc; cases hc'
 have w1 : Rows.uptoBulk y0.1 ≤ Rows.uptoBulk (DataW.agg [y0.1, y1.1]) := by simp only [Rows.uptoBulk, Rows.uptoBulkAll]; omega
 have w2 : Rows.uptoBulk y1.1 ≤ Rows.uptoBulk (DataW.agg [y0.1, y1.1]) := by simp only [Rows.uptoBulk, Rows.uptoBulkAll]; omega
 refine ⟨g1, a1, n1, c1, l1, d1, m1, k1, e1, g2, a2, n2, c2, l2, d2, m2, k2, e2, g3, a3, n3, c3, l3, d3, m3, k3, e3, g4, a4, n4, c4, l4, d4, m4, k4, e4, ?_, FwS.mono h1 w1, FwS.mono h2 w1, FwS.mono h3 w2, FwS.mono h4 w2⟩
 have : cs.toList = [.bool g1, .slice a1 n1 c1, .slice d1 m1 k1, .bool g2, .slice a2 n2 c2, .slice d2 m2 k2, .bool g3, .slice a3 n3 c3, .slice d3 m3 k3, .bool g4, .slice a4 n4 c4, .slice d4 m4 k4] := he
 rw [← Array.toArray_toList (xs := cs), this]
end
end Go.Proofs.YtgjjalnmigdjgaaGreat
