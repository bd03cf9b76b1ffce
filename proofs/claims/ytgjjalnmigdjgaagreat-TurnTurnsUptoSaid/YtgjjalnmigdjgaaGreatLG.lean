/- Arguments that are sets of points told by ways, and spots. -/
import Derived.Test.YtgjjalnmigdjgaaGreatLL
import Derived.Test.YtgjjalnmigdjgaaGreatLP
import Derived.Test.YtgjjalnmigdjgaaGreatLF
import Derived.Test.YtgjjalnmigdjgaaGreatU5
import Derived.Lib.SmallJoins
namespace Go.Proofs.YtgjjalnmigdjgaaGreat
open Go Go.RowKit Go.ChangeShapes Go.WideShapes Go.ChangeAt Go.Deep
set_option linter.unusedVariables false
set_option linter.unusedSimpArgs false
theorem lgS : Tryz.prog.cellsOf 53 = 4 := by kernel_rfl
theorem lgT : Tryz.prog.cellsOf 24 = 3 := by kernel_rfl
theorem lgI : Tryz.prog.cellsOf 3 = 1 := by kernel_rfl
theorem lgL : Tryz.prog.cellsOf 22 = 1 := by kernel_rfl
theorem lgO : Tryz.prog.cellsOf 31 = 6 := by kernel_rfl
theorem SlG.mk {w : World} {b off n cap : Nat} {l : List Sg} (hl : l.length = n) (hn : n ≤ cap) (hc : cap ≤ maxLen) (h : ∀ (i : Nat) (hi : i < l.length), w.cell? ⟨b, off + i * 4, none⟩ = some (.int .i64 l[i].1.1) ∧ w.cell? ⟨b, off + (i * 4 + 1), none⟩ = some (.int .i64 l[i].1.2) ∧ w.cell? ⟨b, off + (i * 4 + 2), none⟩ = some (.int .i64 l[i].2.1) ∧ w.cell? ⟨b, off + (i * 4 + 3), none⟩ = some (.int .i64 l[i].2.2)) : SlG w (some ⟨b, off, none⟩) n cap l := by
  refine ⟨by rw [sgs_len, hl], hn, hc, fun _ => ⟨b, off, rfl, fun t u hu => ?_⟩⟩
  have ht : t < l.length * 4 := by
    have := (List.getElem?_eq_some_iff.1 hu).1
    rwa [sgs_len] at this
  have hi : t / 4 < l.length := by omega
  obtain ⟨g0, g1, g2, g3⟩ := sgs_get l (t / 4) hi
  obtain ⟨k0, k1, k2, k3⟩ := h (t / 4) hi
  rcases (by omega : t % 4 = 0 ∨ t % 4 = 1 ∨ t % 4 = 2 ∨ t % 4 = 3) with h0 | h0 | h0 | h0
  · have e : t = t / 4 * 4 := by omega
    rw [e] at hu ⊢
    rw [g0] at hu
    rw [← hu]; exact k0
  · have e : t = t / 4 * 4 + 1 := by omega
    rw [e] at hu ⊢
    rw [g1] at hu
    rw [← hu]; exact k1
  · have e : t = t / 4 * 4 + 2 := by omega
    rw [e] at hu ⊢
    rw [g2] at hu
    rw [← hu]; exact k2
  · have e : t = t / 4 * 4 + 3 := by omega
    rw [e] at hu ⊢
    rw [g3] at hu
    rw [← hu]; exact k3
theorem list6 {α : Type} {l : List α} (h : l.length = 6) : ∃ a b c d e f, l = [a, b, c, d, e, f] := by
  match l, h with
  | [a, b, c, d, e, f], _ => exact ⟨a, b, c, d, e, f, rfl⟩
section
variable {H : Type} {enc : TypeId × Value → H} {W : World} {spare : Nat → Bool} {held : Bool} {base : Nat}
set_option maxRecDepth 100000 in
theorem pair_cells {fuel : Nat} {cs : List Value} {x : DataW H × List MemPlace} (h : DataW.trod enc Tryz.prog W base spare held fuel 51 cs = some x) : ∃ p q : Int, cs = [.int .i64 p, .int .i64 q] := by
  obtain ⟨y0, y1, m, rfl, hl, t0, t1⟩ := trod_struct2 Tryz.underlying51 h
  rw [lpP] at hl
  match cs, hl with
  | [c0, c1], _ =>
    have t0' : DataW.trod enc Tryz.prog W base spare held m 3 [c0] = some y0 := by simpa [lgI] using t0
    have t1' : DataW.trod enc Tryz.prog W base spare held m 3 [c1] = some y1 := by simpa [lgI] using t1
    obtain ⟨x, hx, _, wx⟩ := DataW.trod_int Tryz.underlying3 t0'
    obtain ⟨y, hy, _, wy⟩ := DataW.trod_int Tryz.underlying3 t1'
    cases hx; cases hy
    exact ⟨x, y, rfl⟩
set_option maxRecDepth 100000 in
theorem seg_cells {fuel : Nat} {cs : List Value} {x : DataW H × List MemPlace} (h : DataW.trod enc Tryz.prog W base spare held fuel 53 cs = some x) : ∃ q : Sg, cs = [.int .i64 q.1.1, .int .i64 q.1.2, .int .i64 q.2.1, .int .i64 q.2.2] := by
  obtain ⟨y0, y1, m, rfl, hl, t0, t1⟩ := trod_struct2 Tryz.underlying53 h
  rw [lgS] at hl
  match cs, hl with
  | [c0, c1, c2, c3], _ =>
    have t0' : DataW.trod enc Tryz.prog W base spare held m 51 [c0, c1] = some y0 := by simpa [lpP] using t0
    have t1' : DataW.trod enc Tryz.prog W base spare held m 51 [c2, c3] = some y1 := by simpa [lpP] using t1
    obtain ⟨a, b, ha⟩ := pair_cells t0'
    obtain ⟨c, d, hc⟩ := pair_cells t1'
    cases ha; cases hc
    exact ⟨((a, b), (c, d)), rfl⟩
set_option maxRecDepth 100000 in
theorem segs_cells {fuel : Nat} {cs : List Value} {x : DataW H × List MemPlace} (h : DataW.trod enc Tryz.prog W base spare held fuel 22 cs = some x) :
    ∃ (a : Option Addr) (n cap : Nat) (l : List Sg), cs = [.slice a n cap] ∧ SlG W a n cap l ∧ n ≤ Rows.uptoBulk x.1 := by
  rcases open_slice Tryz.underlying22 h with ⟨rfl, rfl⟩ | ⟨a, len, cap, m, n, D, Pl, rfl, hb, hl, hm, hmm, hx, hi⟩
  · exact ⟨none, 0, 0, [], rfl, SlK.nil 4 W, Nat.zero_le _⟩
  · rw [lgS] at hi
    have hlm : len ≤ m := by rw [hmm]; split <;> omega
    obtain ⟨f, hf⟩ := choose_lt (n := m) (p := fun i (q : Sg) => (W.cell? (a.add (i * 4)) = some (.int .i64 q.1.1) ∧ W.cell? (a.add (i * 4 + 1)) = some (.int .i64 q.1.2) ∧ W.cell? (a.add (i * 4 + 2)) = some (.int .i64 q.2.1) ∧ W.cell? (a.add (i * 4 + 3)) = some (.int .i64 q.2.2))) (fun i him => by
      obtain ⟨cs', hc, ht⟩ := hi i him
      obtain ⟨q, rfl⟩ := seg_cells ht
      obtain ⟨_, _, hat⟩ := World.cells?_some hc
      refine ⟨q, ?_, ?_, ?_, ?_⟩
      · have := hat 0 (by omega)
        rwa [add_add, Nat.add_zero] at this
      · have := hat 1 (by omega)
        rwa [add_add] at this
      · have := hat 2 (by omega)
        rwa [add_add] at this
      · have := hat 3 (by omega)
        rwa [add_add] at this)
    have hbk : len ≤ Rows.uptoBulk x.1 := by
      rw [hx]
      simp only [Rows.uptoBulk]
      have := bulk_len (H := H) ((List.range len).map D)
      rw [List.length_map, List.length_range] at this
      omega
    rcases Nat.eq_zero_or_pos len with h0 | h0
    · subst h0
      exact ⟨some a, 0, cap, [], rfl, ⟨rfl, Nat.zero_le _, hm, fun h => absurd h (by omega)⟩, Nat.zero_le _⟩
    · have h1 := (hf 0 (by omega)).1
      rw [Nat.zero_mul] at h1
      have h2 : a.add 0 = a := by simp [Addr.add]
      rw [h2] at h1
      have hs := spot_none h1
      refine ⟨some a, len, cap, (List.range len).map f, rfl, ?_, hbk⟩
      · rw [hs]
        have hadd : ∀ j, a.add j = ⟨a.block, a.off + j, none⟩ := fun j => by
          rw [hs]
          unfold Addr.add
          by_cases hz : j = 0
          · subst hz; simp
          · simp [hz]
        refine SlG.mk (by simp) hl hm (fun i hi2 => ?_)
        have hi3 : i < len := by simpa using hi2
        have := (hf i (by omega))
        rw [hadd, hadd, hadd, hadd] at this
        simpa using this
set_option maxRecDepth 100000 in
theorem term_arg {r : Reach} {b0 : Nat} {v : Value} {x : DataW H} {p : List MemPlace} (hv : Value.okWide Tryz.prog W r b0 24 v) (h : DataW.Trod enc Tryz.prog W base spare held 24 v x p) :
    ∃ (a : Option Addr) (n c : Nat) (l : List Sg) (q : Int) (g : Bool), v = .agg #[.slice a n c, .int .i64 q, .bool g] ∧ SlG W a n c l ∧ n ≤ Rows.uptoBulk x := by
  obtain ⟨cs, rfl, hsz⟩ := okWide_struct Tryz.underlying24 hv
  obtain ⟨fuel, hf⟩ := h
  obtain ⟨y0, y1, y2, m, hx, hl, t0, t1, t2⟩ := trod_struct3 Tryz.underlying24 hf
  cases hx
  rw [lgT] at hl
  obtain ⟨c0, c1, c2, he⟩ := list3 hl
  rw [he] at t0 t1 t2
  have t0' : DataW.trod enc Tryz.prog W base spare held m 22 [c0] = some y0 := by simpa [lgL] using t0
  have t1' : DataW.trod enc Tryz.prog W base spare held m 3 [c1] = some y1 := by simpa [lgI, lgL] using t1
  have t2' : DataW.trod enc Tryz.prog W base spare held m 4 [c2] = some y2 := by
    have e : Tryz.prog.cellsOf 4 = 1 := by kernel_rfl
    simpa [e, lgI, lgL] using t2
  obtain ⟨a, n, c, l, hc, hs, hb⟩ := segs_cells t0'
  obtain ⟨q, hq, _, wq⟩ := DataW.trod_int Tryz.underlying3 t1'
  obtain ⟨g, hg, _⟩ := DataW.trod_bool Tryz.underlying4 t2'
  cases hc; cases hq; cases hg
  refine ⟨a, n, c, l, q, g, ?_, hs, ?_⟩
  · have : cs.toList = [.slice a n c, .int .i64 q, .bool g] := he
    rw [← Array.toArray_toList (xs := cs), this]
  · simp only [Rows.uptoBulk, Rows.uptoBulkAll]; omega
set_option maxRecDepth 100000 in
theorem spot_arg {r : Reach} {b0 : Nat} {v : Value} {x : DataW H} {p : List MemPlace} (hv : Value.okWide Tryz.prog W r b0 31 v) (h : DataW.Trod enc Tryz.prog W base spare held 31 v x p) :
    ∃ (g : Bool) (a : Option Addr) (n cap : Nat) (l : List Nat) (d : Option Addr) (m k : Nat) (e : List Nat) (g' : Bool) (a' : Option Addr) (n' cap' : Nat) (l' : List Nat) (d' : Option Addr) (m' k' : Nat) (e' : List Nat), v = .agg #[.bool g, .slice a n cap, .slice d m k, .bool g', .slice a' n' cap', .slice d' m' k'] ∧
      (Sl W a n cap (ints .u32 l) ∧ (∀ y ∈ l, (Lit.int .u32 (y : Int)).wf = true) ∧ n ≤ Rows.uptoBulk x ∧ Sl W d m k (ints .u32 e) ∧ (∀ y ∈ e, (Lit.int .u32 (y : Int)).wf = true) ∧ m ≤ Rows.uptoBulk x) ∧
      (Sl W a' n' cap' (ints .u32 l') ∧ (∀ y ∈ l', (Lit.int .u32 (y : Int)).wf = true) ∧ n' ≤ Rows.uptoBulk x ∧ Sl W d' m' k' (ints .u32 e') ∧ (∀ y ∈ e', (Lit.int .u32 (y : Int)).wf = true) ∧ m' ≤ Rows.uptoBulk x) := by
  obtain ⟨cs, rfl, hsz⟩ := okWide_struct Tryz.underlying31 hv
  obtain ⟨fuel, hf⟩ := h
  obtain ⟨y0, y1, f, hx, hl, t0, t1⟩ := trod_struct2 Tryz.underlying31 hf
  cases hx
  rw [lgO] at hl
  obtain ⟨c0, c1, c2, c3, c4, c5, he⟩ := list6 hl
  rw [he] at t0 t1
  have t0' : DataW.trod enc Tryz.prog W base spare held f 29 [c0, c1, c2] = some y0 := by simpa [lfF] using t0
  have t1' : DataW.trod enc Tryz.prog W base spare held f 29 [c3, c4, c5] = some y1 := by simpa [lfF] using t1
  obtain ⟨g, a, n, cap, l, d, m, k, e, hc, h1, h2, h3, h4, h5, h6⟩ := frac_cells t0'
  obtain ⟨g', a', n', cap', l', d', m', k', e', hc', i1, i2, i3, i4, i5, i6⟩ := frac_cells t1'
  cases hc; cases hc'
  refine ⟨g, a, n, cap, l, d, m, k, e, g', a', n', cap', l', d', m', k', e', ?_, ⟨h1, h2, ?_, h4, h5, ?_⟩, ⟨i1, i2, ?_, i4, i5, ?_⟩⟩
  · have : cs.toList = [.bool g, .slice a n cap, .slice d m k, .bool g', .slice a' n' cap', .slice d' m' k'] := he
    rw [← Array.toArray_toList (xs := cs), this]
  all_goals (simp only [Rows.uptoBulk, Rows.uptoBulkAll]; omega)
end
end Go.Proofs.YtgjjalnmigdjgaaGreat
