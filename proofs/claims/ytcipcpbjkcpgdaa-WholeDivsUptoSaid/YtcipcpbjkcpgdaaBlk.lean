/- A block of a call's own, known whole: what it holds, and how that is kept. -/
import Derived.Test.YtcipcpbjkcpgdaaMem
import Derived.WalkLawsBesides
namespace Go.Proofs.Ytcipcpbjkcpgdaa
set_option linter.unusedVariables false
open Go Go.RowKit

/-- The walk's world under a name. -/
theorem absC {P : Program} {f : FuncId} {args : Array Value} {w : World} {R : Ending → World → Prop} (h : ∀ u, u = w → Calls P f args u R) : Calls P f args w R := h w rfl
theorem absW {P : Program} {c : Code} {Q : Exit → Act → World → Prop} {a : Act} {w : World} (h : ∀ u, u = w → Code.wp P c Q a u) : Code.wp P c Q a w := h w rfl

/-- A block's cells, all of them. -/
abbrev Bl (w : World) (g : Nat) (cs : Array Value) : Prop := ∀ j, w.cell? ⟨g, j, none⟩ = cs[j]?
/-- It may be written. -/
abbrev Fz (w : World) (g : Nat) : Prop := ∀ j, w.frozen? ⟨g, j, none⟩ = false

theorem Bl.lt {w : World} {g : Nat} {cs : Array Value} (h : Bl w g cs) (h0 : 0 < cs.size) : g < w.heap.size := by
  have h1 := h 0
  rw [Array.getElem?_eq_getElem h0] at h1
  exact World.block_lt_of_cell? w ⟨g, 0, none⟩ h1
theorem Bl.ext {w u : World} {g : Nat} {cs : Array Value} (he : Ext w u) (h : Bl w g cs) (h0 : 0 < cs.size) : Bl u g cs := fun j =>
  (Below.cell (p := ⟨g, j, none⟩) he (h.lt h0)).trans (h j)
theorem Fz.ext {w u : World} {g : Nat} {cs : Array Value} (he : Ext w u) (hf : Fz w g) (h : Bl w g cs) (h0 : 0 < cs.size) : Fz u g := fun j =>
  (Below.frozen (p := ⟨g, j, none⟩) he (h.lt h0)).trans (hf j)
theorem Bl.new {w : World} {g : Nat} {cs : Array Value} {e : TypeId} (hg : g = w.heap.size) : Bl (w.alloc (.cells cs e)) g cs := fun j => by
  subst hg
  unfold World.cell?
  rw [heap_alloc_new]
  rfl
theorem Fz.new {w : World} {g : Nat} {cs : Array Value} {e : TypeId} (hg : g = w.heap.size) : Fz (w.alloc (.cells cs e)) g := fun j => by
  subst hg
  unfold World.frozen?
  rw [heap_alloc_new]
  simp
theorem Bl.drew {w : World} {g : Nat} {cs : Array Value} (h : Bl w g cs) : Bl w.drew g cs := h
theorem Fz.drew {w : World} {g : Nat} (h : Fz w g) : Fz w.drew g := h
theorem Bl.set {w : World} {g j : Nat} {cs : Array Value} {v : Value} (h : Bl w g cs) (hj : j < cs.size) : Bl (w.setCell ⟨g, j, none⟩ v) g (cs.setIfInBounds j v) := fun i => by
  by_cases hij : i = j
  · subst hij
    have h1 := h i
    rw [Array.getElem?_eq_getElem hj] at h1
    rw [World.cell?_setCell_same w ⟨g, i, none⟩ _ h1]
    simp [hj]
  · rw [World.cell?_setCell_other w ⟨g, j, none⟩ ⟨g, i, none⟩ v (by simp), h i]
    simp [Ne.symm hij]
theorem Bl.other {w : World} {g g' j : Nat} {cs : Array Value} {v : Value} (h : Bl w g cs) (hg : g ≠ g') : Bl (w.setCell ⟨g', j, none⟩ v) g cs := fun i => by
  rw [World.cell?_setCell_other w ⟨g', j, none⟩ ⟨g, i, none⟩ v (by simp), h i]

theorem Bl.alloc {w : World} {g : Nat} {cs : Array Value} {o : Obj} (h : Bl w g cs) (h0 : 0 < cs.size) : Bl (w.alloc o) g cs := Bl.ext ((Ext.refl w).alloc o) h h0
theorem Fz.alloc {w : World} {g : Nat} {cs : Array Value} {o : Obj} (hf : Fz w g) (h : Bl w g cs) (h0 : 0 < cs.size) : Fz (w.alloc o) g := Fz.ext ((Ext.refl w).alloc o) hf h h0
theorem Fz.set {w : World} {g g' j : Nat} {v : Value} (h : Fz w g) : Fz (w.setCell ⟨g', j, none⟩ v) g := fun i => by
  rw [← h i]
  simp

/-- All blocks but one are as they were. -/
def But (w u : World) (g : Nat) : Prop := w.heap.size ≤ u.heap.size ∧ ∀ k, k < w.heap.size → k ≠ g → u.heap[k]? = w.heap[k]?
theorem But.refl (w : World) (g : Nat) : But w w g := ⟨Nat.le_refl _, fun _ _ _ => rfl⟩
theorem But.store {w u : World} {g j : Nat} {v : Value} (h : But w u g) : But w (u.setCell ⟨g, j, none⟩ v) g :=
  ⟨Nat.le_trans h.1 (by simp), fun k hk hg => (heap_setCell_other u ⟨g, j, none⟩ k v (fun e => hg (by simp [e]))).trans (h.2 k hk hg)⟩
theorem But.row {w u : World} {g g' B e n cap m : Nat} {xs : List Value} (h : But w u g) (hr : w.ownsRow B e 1 (.slice (some ⟨g', 0, none⟩) n cap) m xs) (hne : g' ≠ g) : u.ownsRow B e 1 (.slice (some ⟨g', 0, none⟩) n cap) m xs := by
  obtain ⟨h1, h2⟩ := hr
  refine ⟨h1, ?_⟩
  rcases h2 with h2 | ⟨g2, cap2, cur, hv, hg, hh, hn, hm, hs, hx⟩
  · exact .inl h2
  · have e : g2 = g' := by simp at hv; exact hv.1.symm
    subst e
    have hlt : g2 < w.heap.size := by
      rcases Nat.lt_or_ge g2 w.heap.size with h | h
      · exact h
      · rw [Array.getElem?_eq_none h] at hh; cases hh
    exact .inr ⟨g2, cap2, cur, hv, hg, by rw [h.2 g2 hlt hne]; exact hh, hn, hm, hs, hx⟩
theorem But.of_ext {w u : World} (g : Nat) (h : Ext w u) : But w u g := ⟨h.size, fun k hk _ => h.block k hk⟩
theorem But.trans {w u v : World} {g : Nat} (h : But w u g) (h' : But u v g) : But w v g := ⟨Nat.le_trans h.1 h'.1, fun k hk hg => (h'.2 k (Nat.lt_of_lt_of_le hk h.1) hg).trans (h.2 k hk hg)⟩

theorem But.cell {w u : World} {g : Nat} (h : But w u g) {p : Addr} {v : Value} (hp : w.cell? p = some v) (hg : p.block ≠ g) : u.cell? p = some v :=
  (World.cell?_of_block (h.2 p.block (World.block_lt_of_cell? w p hp) hg)).trans hp
theorem But.bl {w u : World} {g h : Nat} {cs : Array Value} (hb : But w u g) (hh : Bl w h cs) (h0 : 0 < cs.size) (hne : h ≠ g) : Bl u h cs := fun j =>
  (World.cell?_of_block (a := ⟨h, j, none⟩) (hb.2 h (hh.lt h0) hne)).trans (hh j)
theorem But.fz {w u : World} {g h : Nat} {cs : Array Value} (hb : But w u g) (hf : Fz w h) (hh : Bl w h cs) (h0 : 0 < cs.size) (hne : h ≠ g) : Fz u h := fun j =>
  (World.frozen?_of_block (a := ⟨h, j, none⟩) (hb.2 h (hh.lt h0) hne)).trans (hf j)
/-- Numbers lie elsewhere than a block without numbers. -/
theorem Sl.but {w u : World} {g : Nat} {cs : Array Value} {a : Option Addr} {n cap : Nat} {k : IntKind} {l : List Nat} (h : Sl w a n cap (ints k l)) (hb : Bl w g cs) (hcs : ∀ (j : Nat) (x : Int), cs[j]? ≠ some (Value.int k x)) (hu : But w u g) : Sl u a n cap (ints k l) := by
  refine ⟨h.1, h.2.1, h.2.2.1, fun h0 => ?_⟩
  obtain ⟨b, off, ha, hc⟩ := h.2.2.2 h0
  refine ⟨b, off, ha, fun i x hx => hu.cell (hc i x hx) ?_⟩
  rintro rfl
  have h1 := hc i x hx
  rw [hb] at h1
  simp only [ints, List.getElem?_map, Option.map_eq_some_iff] at hx
  obtain ⟨y, _, rfl⟩ := hx
  exact hcs _ _ h1
theorem not_ints2 {k : IntKind} {v0 v1 : Value} (h0 : ∀ x, v0 ≠ .int k x) (h1 : ∀ x, v1 ≠ .int k x) : ∀ (j : Nat) (x : Int), (#[v0, v1] : Array Value)[j]? ≠ some (.int k x) := by
  intro j x
  match j with
  | 0 => simpa using h0 x
  | 1 => simpa using h1 x
  | j + 2 => simp
theorem not_ints3 {k : IntKind} {v0 v1 v2 : Value} (h0 : ∀ x, v0 ≠ .int k x) (h1 : ∀ x, v1 ≠ .int k x) (h2 : ∀ x, v2 ≠ .int k x) : ∀ (j : Nat) (x : Int), (#[v0, v1, v2] : Array Value)[j]? ≠ some (.int k x) := by
  intro j x
  match j with
  | 0 => simpa using h0 x
  | 1 => simpa using h1 x
  | 2 => simpa using h2 x
  | j + 3 => simp

end Go.Proofs.Ytcipcpbjkcpgdaa
