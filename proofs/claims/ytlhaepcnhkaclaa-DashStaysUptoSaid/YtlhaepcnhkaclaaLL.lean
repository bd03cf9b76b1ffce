/- Arguments that are rows of points, lines. -/
import Derived.Test.YtlhaepcnhkaclaaLP
import Derived.Test.YtlhaepcnhkaclaaMG
import Derived.Deep.Slices
namespace Go.Proofs.Ytlhaepcnhkaclaa
open Go Go.RowKit Go.ChangeShapes Go.WideShapes Go.ChangeAt Go.Deep
set_option linter.unusedVariables false

theorem llI : Try.prog.cellsOf 3 = 1 := by kernel_rfl
theorem SlP.mk {w : World} {b off n cap : Nat} {l : List (Int × Int)} (hl : l.length = n) (hn : n ≤ cap) (hc : cap ≤ maxLen) (h : ∀ (i : Nat) (hi : i < l.length), w.cell? ⟨b, off + i * 2, none⟩ = some (.int .i64 l[i].1) ∧ w.cell? ⟨b, off + (i * 2 + 1), none⟩ = some (.int .i64 l[i].2)) : SlP w (some ⟨b, off, none⟩) n cap l := by
  refine ⟨by rw [pts_len, hl], hn, hc, fun _ => ⟨b, off, rfl, fun t u hu => ?_⟩⟩
  have ht : t < l.length * 2 := by
    have := (List.getElem?_eq_some_iff.1 hu).1
    rwa [pts_len] at this
  have hi : t / 2 < l.length := by omega
  have hg := pts_get l (t / 2) hi
  have hh := h (t / 2) hi
  rcases Nat.mod_two_eq_zero_or_one t with h0 | h0
  · have e : t = t / 2 * 2 := by omega
    rw [e] at hu ⊢
    rw [hg.1] at hu
    rw [← hu]
    exact hh.1
  · have e : t = t / 2 * 2 + 1 := by omega
    rw [e] at hu ⊢
    rw [hg.2] at hu
    rw [← hu]
    exact hh.2
section
variable {H : Type} {enc : TypeId × Value → H} {W : World} {spare : Nat → Bool} {held : Bool} {base : Nat}
set_option maxRecDepth 100000 in
theorem point_cells {fuel : Nat} {cs : List Value} {x : DataW H × List MemPlace} (h : DataW.trod enc Try.prog W base spare held fuel 36 cs = some x) : ∃ p : Int × Int, cs = [.int .i64 p.1, .int .i64 p.2] := by
  obtain ⟨y0, y1, m, rfl, hl, t0, t1⟩ := trod_struct2 Try.underlying36 h
  rw [lpP] at hl
  match cs, hl with
  | [c0, c1], _ =>
    have t0' : DataW.trod enc Try.prog W base spare held m 3 [c0] = some y0 := by simpa [llI] using t0
    have t1' : DataW.trod enc Try.prog W base spare held m 3 [c1] = some y1 := by simpa [llI] using t1
    obtain ⟨x, hx, _, wx⟩ := DataW.trod_int Try.underlying3 t0'
    obtain ⟨y, hy, _, wy⟩ := DataW.trod_int Try.underlying3 t1'
    cases hx; cases hy
    exact ⟨(x, y), rfl⟩
set_option maxRecDepth 100000 in
theorem points_cells {fuel : Nat} {cs : List Value} {x : DataW H × List MemPlace} (h : DataW.trod enc Try.prog W base spare held fuel 22 cs = some x) :
    ∃ (a : Option Addr) (n cap : Nat) (l : List (Int × Int)), cs = [.slice a n cap] ∧ SlP W a n cap l ∧ n ≤ Rows.uptoBulk x.1 := by
  rcases open_slice Try.underlying22 h with ⟨rfl, rfl⟩ | ⟨a, len, cap, m, n, D, Pl, rfl, hb, hl, hm, hmm, hx, hi⟩
  · exact ⟨none, 0, 0, [], rfl, SlK.nil 2 W, Nat.zero_le _⟩
  · rw [lpP] at hi
    have hlm : len ≤ m := by rw [hmm]; split <;> omega
    obtain ⟨f, hf⟩ := choose_lt (n := m) (p := fun i (q : Int × Int) => W.cell? (a.add (i * 2)) = some (.int .i64 q.1) ∧ W.cell? (a.add (i * 2 + 1)) = some (.int .i64 q.2)) (fun i him => by
      obtain ⟨cs', hc, ht⟩ := hi i him
      obtain ⟨q, rfl⟩ := point_cells ht
      obtain ⟨_, _, hat⟩ := World.cells?_some hc
      refine ⟨q, ?_, ?_⟩
      · have := hat 0 (by omega)
        rwa [add_add, Nat.add_zero] at this
      · have := hat 1 (by omega)
        rwa [add_add] at this)
    have hbk : len ≤ Rows.uptoBulk x.1 := by
      rw [hx]
      simp only [Rows.uptoBulk]
      have := bulk_len (H := H) ((List.range len).map D)
      rw [List.length_map, List.length_range] at this
      omega
    rcases Nat.eq_zero_or_pos len with h0 | h0
    · subst h0
      exact ⟨some a, 0, cap, [], rfl, ⟨rfl, Nat.zero_le _, hm, fun h => absurd h (by omega)⟩, Nat.zero_le _⟩
    · have h1 := (hf 0 (by omega)).1
      rw [Nat.zero_mul] at h1
      have h2 : a.add 0 = a := by simp [Addr.add]
      rw [h2] at h1
      have hs := spot_none h1
      refine ⟨some a, len, cap, (List.range len).map f, rfl, ?_, hbk⟩
      rw [hs]
      have hadd : ∀ j, a.add j = ⟨a.block, a.off + j, none⟩ := fun j => by
        rw [hs]
        unfold Addr.add
        by_cases hz : j = 0
        · subst hz; simp
        · simp [hz]
      refine SlP.mk (by simp) hl hm (fun i hi2 => ?_)
      have hi3 : i < len := by simpa using hi2
      have := hf i (by omega)
      rw [hadd, hadd] at this
      simpa using this
set_option maxRecDepth 100000 in
theorem points_arg {r : Reach} {b0 : Nat} {v : Value} {d : DataW H} {p : List MemPlace} (hv : Value.okWide Try.prog W r b0 22 v) (h : DataW.Trod enc Try.prog W base spare held 22 v d p) :
    ∃ (a : Option Addr) (n cap : Nat) (l : List (Int × Int)), v = .slice a n cap ∧ SlP W a n cap l ∧ (∀ p ∈ l, True) ∧ n ≤ Rows.uptoBulk d := by
  obtain ⟨a0, len, cap, rfl⟩ := okWide_slice Try.underlying22 hv
  obtain ⟨fuel, hf⟩ := h
  obtain ⟨a, n, c, l, hc, hs, hb⟩ := points_cells hf
  simp [Value.cells] at hc
  obtain ⟨rfl, rfl, rfl⟩ := hc
  exact ⟨_, _, _, l, rfl, hs, fun _ _ => trivial, hb⟩
end
end Go.Proofs.Ytlhaepcnhkaclaa
