/- Blocks of one cell, and rows told apart by what they hold. -/
import Derived.Test.YtlhaepcnhkaclaaM1
import Derived.Test.YtlhaepcnhkaclaaProg
import Derived.RangeFuncNested
import Derived.RangeFuncBound
import Derived.RangeFuncCalls
import Derived.RangeFuncLeaves
import Derived.RangeFuncBox
import Derived.RangeFuncFrom
import Derived.Shelf.Abstract
import Derived.WalkKit
import Derived.OwnWalkIn
import Derived.TacticsInMore
import Derived.LoopNIn
import Derived.LoopIn
namespace Go.Proofs.Ytlhaepcnhkaclaa
set_option linter.unusedVariables false
set_option linter.unusedSimpArgs false
open Go Go.RowKit Go.Shelf

/-- A block of one cell, not frozen. -/
def Box1 (W : World) (b : Nat) (t : TypeId) (v : Value) : Prop := W.heap[b]? = some (.cells #[v] t (0, 0))
theorem Box1.cell {W : World} {b : Nat} {t : TypeId} {v : Value} (h : Box1 W b t v) : W.cell? ⟨b, 0, none⟩ = some v := by
  unfold Box1 at h
  simp [World.cell?, h]
theorem Box1.free {W : World} {b : Nat} {t : TypeId} {v : Value} (h : Box1 W b t v) : W.frozen? ⟨b, 0, none⟩ = false := by
  unfold Box1 at h
  simp [World.frozen?, h]
theorem Box1.lt {W : World} {b : Nat} {t : TypeId} {v : Value} (h : Box1 W b t v) : b < W.heap.size := (Array.getElem?_eq_some_iff.1 h).1
theorem Box1.set {W : World} {b : Nat} {t : TypeId} {v : Value} (h : Box1 W b t v) (u : Value) : Box1 (W.setCell ⟨b, 0, none⟩ u) b t u := by
  have hlt := h.lt
  unfold Box1 at *
  show (W.heap.modify b _)[b]? = _
  rw [Array.getElem?_eq_getElem (by rw [Array.size_modify]; exact hlt), Array.getElem_modify_self]
  rw [Array.getElem?_eq_getElem hlt, Option.some.injEq] at h
  rw [h]
  rfl
theorem Box1.new {W : World} {t : TypeId} {v : Value} : Box1 (W.alloc (.cells #[v] t)) W.heap.size t v := World.alloc_heap_new W _
theorem Box1.ext {W W' : World} {b : Nat} {t : TypeId} {v : Value} (h : Box1 W b t v) (he : Ext W W') : Box1 W' b t v := (he.block b h.lt).trans h
theorem Box1.but {W W' : World} {b k : Nat} {t : TypeId} {v : Value} (h : Box1 W b t v) (he : But W W' k) (hne : b ≠ k) : Box1 W' b t v := (he.2 b h.lt hne).trans h
/-- A row's block holds cells of its own type. -/
theorem owns_tag {W : World} {B K n : Nat} {e t : TypeId} {v : Value} {xs : List Value} (h : W.ownsRow B e K v n xs) {k : Nat} {cs : Array Value} {fz : Nat × Nat} (hk : W.heap[k]? = some (.cells cs t fz)) (hne : e ≠ t) : v.ownBlock = none ∨ v.ownBlock ≠ some k := by
  rcases h.2 with ⟨rfl, _⟩ | ⟨g, cap, cur, rfl, hg, hh, _⟩
  · exact .inl rfl
  · right
    intro he
    simp only [Value.ownBlock, Option.some.injEq] at he
    subst he
    rw [hh] at hk
    cases hk
    exact hne rfl
theorem owns_other {W : World} {B B' K K' n n' : Nat} {e t : TypeId} {v v' : Value} {xs xs' : List Value} (h : W.ownsRow B e K v n xs) (h' : W.ownsRow B' t K' v' n' xs') (hne : e ≠ t) : v.ownBlock = none ∨ v.ownBlock ≠ v'.ownBlock := by
  rcases h'.2 with ⟨rfl, _⟩ | ⟨g, cap, cur, rfl, hg, hh, _⟩
  · rcases h.2 with ⟨rfl, _⟩ | ⟨g, cap, cur, rfl, _⟩
    · exact .inl rfl
    · right; simp [Value.ownBlock]
  · exact owns_tag h hh hne
theorem owns_book {W W' : World} {row : Option Nat} {B K n : Nat} {e : TypeId} {v : Value} {xs : List Value} (h : W.ownsRow B e K v n xs) (hg : W.grownBy W' row) (hr : ∀ r, row = some r → ∃ o : Obj, W.heap[r]? = some o ∧ o.isCells = false) : W'.ownsRow B e K v n xs := by
  refine h.kept hg ?_
  rcases h.2 with ⟨rfl, _⟩ | ⟨g, cap, cur, rfl, _, hh, _⟩
  · exact .inl rfl
  · right
    intro he
    obtain ⟨o, ho, hc⟩ := hr g he.symm
    rw [hh] at ho
    cases ho
    cases hc
theorem owns_ext {W W' : World} {B K n : Nat} {e : TypeId} {v : Value} {xs : List Value} (h : W.ownsRow B e K v n xs) (he : Ext W W') : W'.ownsRow B e K v n xs :=
  h.kept (row := none) ⟨he.os, he.tape, he.output, he.size, fun k hk _ => he.block k hk⟩ (by cases v.ownBlock <;> simp)
theorem Box1.book {W W' : World} {row : Option Nat} {b : Nat} {t : TypeId} {v : Value} (h : Box1 W b t v) (hg : W.grownBy W' row) (hr : ∀ r, row = some r → ∃ o : Obj, W.heap[r]? = some o ∧ o.isCells = false) : Box1 W' b t v := by
  refine (hg.block b h.lt ?_).trans h
  intro he
  obtain ⟨o, ho, hc⟩ := hr b he.symm
  rw [show W.heap[b]? = _ from h] at ho
  cases ho
  cases hc
theorem Box1.grown {W W' : World} {row : Option Nat} {b : Nat} {t : TypeId} {v : Value} (h : Box1 W b t v) (hg : W.grownBy W' row) (hne : some b ≠ row) : Box1 W' b t v := (hg.block b h.lt hne).trans h
theorem owns_box {W : World} {B K n b : Nat} {e t : TypeId} {v u : Value} {xs : List Value} (h : W.ownsRow B e K v n xs) (hb : Box1 W b t u) (hne : e ≠ t) : some b ≠ v.ownBlock := by
  rcases owns_tag h hb hne with h1 | h1
  · rw [h1]; simp
  · exact fun h => h1 h.symm
theorem owns_slice {W : World} {B n : Nat} {e : TypeId} {v : Value} {xs : List Value} (h : W.ownsRow B e 1 v n xs) : ∃ a c, v = .slice a n c ∧ Sl W a n c xs := by
  obtain ⟨a, c, h1, h2⟩ := Sl.of_owns h
  exact ⟨a, c, h1, h2⟩
theorem absCI {F : Fence} {n : Nat} {P : Program} {f : FuncId} {args : Array Value} {w : World} {R : Ending → World → Prop} (h : ∀ u, u = w → CallsIn F n P f args u R) : CallsIn F n P f args w R := h w rfl
theorem Ext.book {w W W' : World} {row : Option Nat} (h : Ext w W) (hg : W.grownBy W' row) (hr : ∀ r, row = some r → w.heap.size ≤ r) : Ext w W' := Below.grown h hg h.size hr
theorem some_ne {a b : Nat} (h : a ≠ b) : some a ≠ some b := fun e => h (Option.some.inj e)
theorem owns_cells {W : World} {B K n j : Nat} {e : TypeId} {v : Value} {xs : List Value} {o : Obj} (h : W.ownsRow B e K v n xs) (he : v.ownBlock = some j) (hj : W.heap[j]? = some o) : o.isCells = true := by
  rcases h.2 with ⟨rfl, _⟩ | ⟨g, cap, cur, rfl, _, hh, _⟩
  · cases he
  · simp only [Value.ownBlock, Option.some.injEq] at he
    subst he
    rw [hh] at hj
    cases hj
    rfl
theorem others_ext {W W' : World} (h : Ext W W') : KeepsOthers W W' := ⟨h.size, fun k o hk _ => (h.block k (Array.getElem?_eq_some_iff.1 hk).1).trans hk⟩

theorem results_three {P : Program} {fn : Func} {tmps : Array Value} {w : World} {p0 p1 p2 : Tmp} {t0 t1 t2 : TypeId} {b0 b1 b2 : Nat} {v0 v1 v2 : Value} (h : fn.results = #[.cell p0 t0, .cell p1 t1, .cell p2 t2])
    (h0 : tmps.getD p0 undef = .pointer (some ⟨b0, 0, none⟩)) (h1 : tmps.getD p1 undef = .pointer (some ⟨b1, 0, none⟩)) (h2 : tmps.getD p2 undef = .pointer (some ⟨b2, 0, none⟩))
    (l0 : (loadVar t0 ⟨b0, 0, none⟩).run P w = .ok v0 w) (l1 : (loadVar t1 ⟨b1, 0, none⟩).run P w = .ok v1 w) (l2 : (loadVar t2 ⟨b2, 0, none⟩).run P w = .ok v2 w) : (results fn tmps).run P w = .ok (.tuple #[v0, v1, v2]) w := by
  have h0' : tmps[p0]?.getD undef = .pointer (some ⟨b0, 0, none⟩) := by simpa using h0
  have h1' : tmps[p1]?.getD undef = .pointer (some ⟨b1, 0, none⟩) := by simpa using h1
  have h2' : tmps[p2]?.getD undef = .pointer (some ⟨b2, 0, none⟩) := by simpa using h2
  simp [results, h, h0', h1', h2', asAddr, l0, l1, l2]
theorem load_in {w : World} {b : Nat} {x : Int} (h : w.cell? ⟨b, 0, none⟩ = some (.int .i64 x)) : (loadVar 3 ⟨b, 0, none⟩).run Try.prog w = .ok (.int .i64 x) w := by go_simp
theorem load_er {w : World} {b : Nat} {x : Int} (h : w.cell? ⟨b, 0, none⟩ = some (.int .i64 x)) : (loadVar 27 ⟨b, 0, none⟩).run Try.prog w = .ok (.int .i64 x) w := by go_simp
theorem cf_enters {P : Program} {F : FuncId} {fn : Func} (hf : P.funcs[F]? = some fn) (hn : (fn.name == "runtime.NumGoroutine") = false) (hb : fn.body.isNone = false) (args : Array Value) (u : World) :
    (callFunc F args).run P u = .ok (.enter F args) u := by
  have hn' : ¬ fn.name = "runtime.NumGoroutine" := by simpa using hn
  have hb' : ¬ fn.body = none := fun h => by rw [h] at hb; cases hb
  simp [callFunc, Sem.run_bind, hf, hn', hb']
theorem own_base {W : World} {B B' K n : Nat} {e : TypeId} {v : Value} {xs : List Value} (h : W.ownsRow B e K v n xs) (hb : B' ≤ B) : W.ownsRow B' e K v n xs := by
  obtain ⟨h1, h2⟩ := h
  refine ⟨h1, ?_⟩
  rcases h2 with h2 | ⟨g, cap, cur, hv, hg, hr⟩
  · exact .inl h2
  · exact .inr ⟨g, cap, cur, hv, Nat.le_trans hb hg, hr⟩
/-- A row of one element of K cells that was just made. -/
theorem own_one (W : World) (B e K : Nat) (cs : Array Value) (hK : cs.size = K) (hB : B ≤ W.heap.size) : (W.alloc (.cells cs e)).ownsRow B e K (.slice (some ⟨W.heap.size, 0, none⟩) 1 1) 1 cs.toList := by
  refine ⟨by simp [hK], .inr ⟨W.heap.size, 1, cs, rfl, hB, World.alloc_heap_new W _, Nat.le_refl _, by unfold maxLen; omega, by simp [hK], ?_⟩⟩
  rw [List.take_of_length_le (by simp [hK])]

end Go.Proofs.Ytlhaepcnhkaclaa
