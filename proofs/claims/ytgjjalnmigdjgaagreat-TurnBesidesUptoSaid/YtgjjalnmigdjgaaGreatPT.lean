/- Slices whose elements have several cells: points. -/
import Derived.Test.YtgjjalnmigdjgaaGreatM1
import Derived.Test.YtgjjalnmigdjgaaGreatProg
namespace Go.Proofs.YtgjjalnmigdjgaaGreat
set_option linter.unusedVariables false
open Go Go.RowKit
theorem cell_lt {w : World} {b off : Nat} {v : Value} (h : w.cell? ⟨b, off, none⟩ = some v) : b < w.heap.size := World.block_lt_of_cell? w ⟨b, off, none⟩ h
theorem low_cell {n0 : Nat} {w u : World} {b off : Nat} {v : Value} (he : Below n0 w u) (h : w.cell? ⟨b, off, none⟩ = some v) (hl : b < n0) : u.cell? ⟨b, off, none⟩ = some v :=
  (Below.cell (p := ⟨b, off, none⟩) he hl).trans h
/-- A slice of elements of K cells each reads, cell by cell, as xs. -/
def SlK (K : Nat) (w : World) (a : Option Addr) (n cap : Nat) (xs : List Value) : Prop :=
  xs.length = n * K ∧ n ≤ cap ∧ cap ≤ maxLen ∧ (0 < n → ∃ b off, a = some ⟨b, off, none⟩ ∧ ∀ i u, xs[i]? = some u → w.cell? ⟨b, off + i, none⟩ = some u)
theorem SlK.ext {K : Nat} {w u : World} {a : Option Addr} {n cap : Nat} {xs : List Value} (h : SlK K w a n cap xs) (he : Ext w u) : SlK K u a n cap xs :=
  ⟨h.1, h.2.1, h.2.2.1, fun hn => let ⟨b, off, ha, hc⟩ := h.2.2.2 hn; ⟨b, off, ha, fun i u hu => he.cell' (hc i u hu)⟩⟩
theorem SlK.nil (K : Nat) (w : World) : SlK K w none 0 0 [] := ⟨by simp, Nat.le_refl _, Nat.zero_le _, fun h => absurd h (by omega)⟩
theorem SlK.of_owns {K : Nat} {w : World} {base : Nat} {t : TypeId} {v : Value} {n : Nat} {xs : List Value} (h : w.ownsRow base t K v n xs) :
    ∃ a cap, v = .slice a n cap ∧ SlK K w a n cap xs := by
  obtain ⟨h1, h2⟩ := h
  rcases h2 with ⟨rfl, rfl⟩ | ⟨g, cap, cur, rfl, hg, hh, hn, hm, hs, hx⟩
  · exact ⟨none, 0, rfl, h1, Nat.le_refl _, Nat.zero_le _, fun h => absurd h (by omega)⟩
  · refine ⟨_, cap, rfl, h1, hn, hm, fun _ => ⟨g, 0, rfl, fun i u hu => ?_⟩⟩
    have hi : i < n * K := by
      have := (List.getElem?_eq_some_iff.1 hu).1
      omega
    have := World.ownsRow.cellAt (w := w) (base := base) (e := t) (size := K) ⟨h1, .inr ⟨g, cap, cur, rfl, hg, hh, hn, hm, hs, hx⟩⟩ i hi
    rw [Nat.zero_add, this, hu]
/-- t is the type of slices of e, whose values have K cells; z is e's zero value, of so many bytes. -/
def SlTK (P : Program) (t e : TypeId) (K : Nat) (z : Value) (bytes : Nat) : Prop :=
  P.underlying t = some (.slice e) ∧ 0 < K ∧ ∃ i, P.info? e = some i ∧ i.zero = some z ∧ i.size = K ∧ i.bytes = bytes ∧ z.cells.size = K
/-- Points, cell by cell. -/
def pts (l : List (Int × Int)) : List Value := l.flatMap fun p => [.int .i64 p.1, .int .i64 p.2]
theorem pts_len (l : List (Int × Int)) : (pts l).length = l.length * 2 := by
  induction l with
  | nil => rfl
  | cons p r ih => simp only [pts, List.flatMap_cons, List.length_append, List.length_cons, List.length_nil] at *; omega
theorem pts_get (l : List (Int × Int)) (i : Nat) (h : i < l.length) : (pts l)[i * 2]? = some (.int .i64 l[i].1) ∧ (pts l)[i * 2 + 1]? = some (.int .i64 l[i].2) := by
  induction l generalizing i with
  | nil => simp at h
  | cons p r ih =>
    cases i with
    | zero => exact ⟨rfl, rfl⟩
    | succ i =>
      have := ih i (by simpa using h)
      have e1 : (i + 1) * 2 = i * 2 + 1 + 1 := by omega
      rw [e1]
      simpa [pts] using this
/-- A row of points. -/
def SlP (w : World) (a : Option Addr) (n cap : Nat) (l : List (Int × Int)) : Prop := SlK 2 w a n cap (pts l)
theorem SlP.ext {w u : World} {a : Option Addr} {n cap : Nat} {l : List (Int × Int)} (h : SlP w a n cap l) (he : Ext w u) : SlP u a n cap l := SlK.ext h he
theorem SlP.len {w : World} {a : Option Addr} {n cap : Nat} {l : List (Int × Int)} (h : SlP w a n cap l) : l.length = n := by
  have h1 := h.1
  rw [pts_len] at h1
  omega
theorem SlP.at {w : World} {a : Option Addr} {n cap : Nat} {l : List (Int × Int)} (h : SlP w a n cap l) (h0 : 0 < n) : ∃ b off, a = some ⟨b, off, none⟩ ∧ ∀ (i : Nat) (hi : i < l.length), w.cell? ⟨b, off + i * 2, none⟩ = some (.int .i64 l[i].1) ∧ w.cell? ⟨b, off + i * 2 + 1, none⟩ = some (.int .i64 l[i].2) := by
  obtain ⟨b, off, ha, hc⟩ := h.2.2.2 h0
  exact ⟨b, off, ha, fun i hi => ⟨hc _ _ (pts_get l i hi).1, hc _ _ (pts_get l i hi).2⟩⟩
end Go.Proofs.YtgjjalnmigdjgaaGreat
