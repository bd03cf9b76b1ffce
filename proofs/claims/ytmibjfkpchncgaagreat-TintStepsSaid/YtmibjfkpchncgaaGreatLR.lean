/- Arguments that are rasters. -/
import Derived.Test.YtmibjfkpchncgaaGreatLL
import Derived.Test.YtmibjfkpchncgaaGreatR1
import Derived.Lib.SmallJoins
namespace Go.Proofs.YtmibjfkpchncgaaGreat
open Go Go.RowKit Go.ChangeShapes Go.WideShapes Go.ChangeAt Go.Deep
set_option linter.unusedVariables false

theorem lrU : Tryz.prog.cellsOf 5 = 1 := by kernel_rfl
theorem lrC : Tryz.prog.cellsOf 23 = 4 := by kernel_rfl
theorem lrR : Tryz.prog.cellsOf 28 = 3 := by kernel_rfl
theorem byte_of {x : Int} (h : (Lit.int .u8 x).wf = true) : ∃ m : Nat, x = (m : Int) ∧ m ≤ 255 := by
  simp [Lit.wf] at h
  have h1 : (0 : Int) ≤ x := h.1
  have h2 : x ≤ (255 : Int) := h.2
  exact ⟨x.toNat, by omega, by omega⟩
/-- All four are bytes. -/
abbrev colOk (q : Col) : Prop := q.1 ≤ 255 ∧ q.2.1 ≤ 255 ∧ q.2.2.1 ≤ 255 ∧ q.2.2.2 ≤ 255
theorem SlC.mk {w : World} {b off n cap : Nat} {l : List Col} (hl : l.length = n) (hn : n ≤ cap) (hc : cap ≤ maxLen) (h : ∀ (i : Nat) (hi : i < l.length), w.cell? ⟨b, off + i * 4, none⟩ = some (.int .u8 (l[i].1 : Int)) ∧ w.cell? ⟨b, off + (i * 4 + 1), none⟩ = some (.int .u8 (l[i].2.1 : Int)) ∧ w.cell? ⟨b, off + (i * 4 + 2), none⟩ = some (.int .u8 (l[i].2.2.1 : Int)) ∧ w.cell? ⟨b, off + (i * 4 + 3), none⟩ = some (.int .u8 (l[i].2.2.2 : Int))) : SlC w (some ⟨b, off, none⟩) n cap l := by
  refine ⟨by rw [cols_len, hl], hn, hc, fun _ => ⟨b, off, rfl, fun t u hu => ?_⟩⟩
  have ht : t < l.length * 4 := by
    have := (List.getElem?_eq_some_iff.1 hu).1
    rwa [cols_len] at this
  have hi : t / 4 < l.length := by omega
  obtain ⟨g0, g1, g2, g3⟩ := cols_get l (t / 4) hi
  obtain ⟨k0, k1, k2, k3⟩ := h (t / 4) hi
  rcases (by omega : t % 4 = 0 ∨ t % 4 = 1 ∨ t % 4 = 2 ∨ t % 4 = 3) with h0 | h0 | h0 | h0
  · have e : t = t / 4 * 4 := by omega
    rw [e] at hu ⊢
    rw [g0] at hu
    rw [← hu]; exact k0
  · have e : t = t / 4 * 4 + 1 := by omega
    rw [e] at hu ⊢
    rw [g1] at hu
    rw [← hu]; exact k1
  · have e : t = t / 4 * 4 + 2 := by omega
    rw [e] at hu ⊢
    rw [g2] at hu
    rw [← hu]; exact k2
  · have e : t = t / 4 * 4 + 3 := by omega
    rw [e] at hu ⊢
    rw [g3] at hu
    rw [← hu]; exact k3
section
variable {H : Type} {enc : TypeId × Value → H} {W : World} {spare : Nat → Bool} {held : Bool} {base : Nat}
set_option maxRecDepth 100000 in
theorem colour_cells {fuel : Nat} {cs : List Value} {x : DataW H × List MemPlace} (h : DataW.trod enc Tryz.prog W base spare held fuel 23 cs = some x) : ∃ q : Col, cs = [.int .u8 (q.1 : Int), .int .u8 (q.2.1 : Int), .int .u8 (q.2.2.1 : Int), .int .u8 (q.2.2.2 : Int)] ∧ colOk q := by
  obtain ⟨y0, y1, y2, y3, m, rfl, hl, t0, t1, t2, t3⟩ := Go.Joins.trod_struct4 Tryz.underlying23 h
  rw [lrC] at hl
  match cs, hl with
  | [c0, c1, c2, c3], _ =>
    have t0' : DataW.trod enc Tryz.prog W base spare held m 5 [c0] = some y0 := by simpa [lrU] using t0
    have t1' : DataW.trod enc Tryz.prog W base spare held m 5 [c1] = some y1 := by simpa [lrU] using t1
    have t2' : DataW.trod enc Tryz.prog W base spare held m 5 [c2] = some y2 := by simpa [lrU] using t2
    have t3' : DataW.trod enc Tryz.prog W base spare held m 5 [c3] = some y3 := by simpa [lrU] using t3
    obtain ⟨x0, h0, _, w0⟩ := DataW.trod_int Tryz.underlying5 t0'
    obtain ⟨x1, h1, _, w1⟩ := DataW.trod_int Tryz.underlying5 t1'
    obtain ⟨x2, h2, _, w2⟩ := DataW.trod_int Tryz.underlying5 t2'
    obtain ⟨x3, h3, _, w3⟩ := DataW.trod_int Tryz.underlying5 t3'
    obtain ⟨m0, rfl, b0⟩ := byte_of w0
    obtain ⟨m1, rfl, b1⟩ := byte_of w1
    obtain ⟨m2, rfl, b2⟩ := byte_of w2
    obtain ⟨m3, rfl, b3⟩ := byte_of w3
    cases h0; cases h1; cases h2; cases h3
    exact ⟨(m0, m1, m2, m3), rfl, b0, b1, b2, b3⟩
set_option maxRecDepth 100000 in
theorem colours_cells {fuel : Nat} {cs : List Value} {x : DataW H × List MemPlace} (h : DataW.trod enc Tryz.prog W base spare held fuel 26 cs = some x) :
    ∃ (a : Option Addr) (n cap : Nat) (l : List Col), cs = [.slice a n cap] ∧ SlC W a n cap l ∧ (∀ q ∈ l, colOk q) ∧ n ≤ Rows.uptoBulk x.1 := by
  rcases open_slice Tryz.underlying26 h with ⟨rfl, rfl⟩ | ⟨a, len, cap, m, n, D, Pl, rfl, hb, hl, hm, hmm, hx, hi⟩
  · exact ⟨none, 0, 0, [], rfl, SlK.nil 4 W, by simp, Nat.zero_le _⟩
  · rw [lrC] at hi
    have hlm : len ≤ m := by rw [hmm]; split <;> omega
    obtain ⟨f, hf⟩ := choose_lt (n := m) (p := fun i (q : Col) => (W.cell? (a.add (i * 4)) = some (.int .u8 (q.1 : Int)) ∧ W.cell? (a.add (i * 4 + 1)) = some (.int .u8 (q.2.1 : Int)) ∧ W.cell? (a.add (i * 4 + 2)) = some (.int .u8 (q.2.2.1 : Int)) ∧ W.cell? (a.add (i * 4 + 3)) = some (.int .u8 (q.2.2.2 : Int))) ∧ colOk q) (fun i him => by
      obtain ⟨cs', hc, ht⟩ := hi i him
      obtain ⟨q, rfl, hq⟩ := colour_cells ht
      obtain ⟨_, _, hat⟩ := World.cells?_some hc
      refine ⟨q, ⟨?_, ?_, ?_, ?_⟩, hq⟩
      · have := hat 0 (by omega)
        rwa [add_add, Nat.add_zero] at this
      · have := hat 1 (by omega)
        rwa [add_add] at this
      · have := hat 2 (by omega)
        rwa [add_add] at this
      · have := hat 3 (by omega)
        rwa [add_add] at this)
    have hbk : len ≤ Rows.uptoBulk x.1 := by
      rw [hx]
      simp only [Rows.uptoBulk]
      have := bulk_len (H := H) ((List.range len).map D)
      rw [List.length_map, List.length_range] at this
      omega
    rcases Nat.eq_zero_or_pos len with h0 | h0
    · subst h0
      exact ⟨some a, 0, cap, [], rfl, ⟨rfl, Nat.zero_le _, hm, fun h => absurd h (by omega)⟩, by simp, Nat.zero_le _⟩
    · have h1 := (hf 0 (by omega)).1.1
      rw [Nat.zero_mul] at h1
      have h2 : a.add 0 = a := by simp [Addr.add]
      rw [h2] at h1
      have hs := spot_none h1
      refine ⟨some a, len, cap, (List.range len).map f, rfl, ?_, fun q hq => ?_, hbk⟩
      · rw [hs]
        have hadd : ∀ j, a.add j = ⟨a.block, a.off + j, none⟩ := fun j => by
          rw [hs]
          unfold Addr.add
          by_cases hz : j = 0
          · subst hz; simp
          · simp [hz]
        refine SlC.mk (by simp) hl hm (fun i hi2 => ?_)
        have hi3 : i < len := by simpa using hi2
        have := (hf i (by omega)).1
        rw [hadd, hadd, hadd, hadd] at this
        simpa using this
      · simp only [List.mem_map, List.mem_range] at hq
        obtain ⟨i, hi3, rfl⟩ := hq
        exact (hf i (by omega)).2
set_option maxRecDepth 100000 in
theorem raster_arg {r : Reach} {b0 : Nat} {v : Value} {d : DataW H} {p : List MemPlace} (hv : Value.okWide Tryz.prog W r b0 28 v) (h : DataW.Trod enc Tryz.prog W base spare held 28 v d p) :
    ∃ (x y : Int) (a : Option Addr) (n cap : Nat) (l : List Col), v = .agg #[.int .i64 x, .int .i64 y, .slice a n cap] ∧ (Lit.int .i64 x).wf = true ∧ (Lit.int .i64 y).wf = true ∧ SlC W a n cap l ∧ (∀ p ∈ l, colOk p) ∧ n ≤ Rows.uptoBulk d := by
  obtain ⟨c0, c1, c2, y0, y1, y2, n, rfl, hd, _, t0, t1, t2⟩ := Go.Joins.open_agg3 Tryz.underlying28 (by kernel_rfl) lrR hv h
  obtain ⟨x, hx, _, wx⟩ := DataW.trod_int Tryz.underlying3 t0
  obtain ⟨y, hy, _, wy⟩ := DataW.trod_int Tryz.underlying3 t1
  obtain ⟨a, m, cap, l, hc, hs, hw, hb⟩ := colours_cells t2
  cases hx; cases hy
  simp only [List.cons.injEq, and_true] at hc
  subst hc
  refine ⟨x, y, a, m, cap, l, rfl, wx, wy, hs, hw, ?_⟩
  rw [hd]
  simp only [Rows.uptoBulk, Rows.uptoBulkAll]
  omega
end
end Go.Proofs.YtmibjfkpchncgaaGreat
