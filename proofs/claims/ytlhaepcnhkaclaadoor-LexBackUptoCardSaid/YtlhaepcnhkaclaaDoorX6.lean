/- A text's lines: the program's. -/
import Derived.Test.YtlhaepcnhkaclaaDoorX5
namespace Go.Proofs.YtlhaepcnhkaclaaDoor
set_option linter.unusedVariables false
set_option linter.unusedSimpArgs false
open Go Go.RowKit Go.Shelf
attribute [local go_sem] Oper.semAt_some

/-- Line by line: the lines' words; the line, and an error's number. -/
def linesF : List (List Nat × Bool) → List (List (List Nat)) → List (List (List Nat)) × Nat × Nat
  | [], acc => (acc, 0, 0)
  | x :: r, acc => if (oneL (acc.length + 1) x.1 x.2).1 = 0 then linesF r (acc ++ [(oneL (acc.length + 1) x.1 x.2).2]) else ([], acc.length + 1, (oneL (acc.length + 1) x.1 x.2).1)
/-- Rows of strings, each the call's own. -/
def InnR (W : World) (vs : List Value) (acc : List (List (List Nat))) : Prop := vs.length = acc.length ∧ ∀ i (hi : i < acc.length), ∃ u, vs[i]? = some u ∧ W.ownsRow 0 9 1 u acc[i].length (strN acc[i])
/-- A row of rows of strings. -/
def SlSS (w : World) (a : Option Addr) (n c : Nat) (ll : List (List (List Nat))) : Prop := ∃ vs, Sl w a n c vs ∧ vs.length = ll.length ∧ ∀ i (hi : i < ll.length), ∃ a' n' c', vs[i]? = some (.slice a' n' c') ∧ Sl w a' n' c' (strN ll[i])
def RetLs (w : World) (r : List (List (List Nat)) × Nat × Nat) (e : Ending) (w' : World) : Prop := ∃ a n c, e = .returned (.tuple #[.slice a n c, .int .i64 (r.2.1 : Int), .int .i64 (r.2.2 : Int)]) ∧ SlSS w' a n c r.1 ∧ Ext w w'

/-- A row's block holds cells of its own type. -/
theorem owns_tag {W : World} {B K n : Nat} {e t : TypeId} {v : Value} {xs : List Value} (h : W.ownsRow B e K v n xs) {k : Nat} {cs : Array Value} {fz : Nat × Nat} (hk : W.heap[k]? = some (.cells cs t fz)) (hne : e ≠ t) : v.ownBlock = none ∨ v.ownBlock ≠ some k := by
  rcases h.2 with ⟨rfl, _⟩ | ⟨g, cap, cur, rfl, hg, hh, _⟩
  · exact .inl rfl
  · right
    intro he
    simp only [Value.ownBlock, Option.some.injEq] at he
    subst he
    rw [hh] at hk
    cases hk
    exact hne rfl
theorem owns_other {W : World} {B B' K K' n n' : Nat} {e t : TypeId} {v v' : Value} {xs xs' : List Value} (h : W.ownsRow B e K v n xs) (h' : W.ownsRow B' t K' v' n' xs') (hne : e ≠ t) : v.ownBlock = none ∨ v.ownBlock ≠ v'.ownBlock := by
  rcases h'.2 with ⟨rfl, _⟩ | ⟨g, cap, cur, rfl, hg, hh, _⟩
  · rcases h.2 with ⟨rfl, _⟩ | ⟨g, cap, cur, rfl, _⟩
    · exact .inl rfl
    · right; simp [Value.ownBlock]
  · exact owns_tag h hh hne
theorem owns_book {W W' : World} {row : Option Nat} {B K n : Nat} {e : TypeId} {v : Value} {xs : List Value} (h : W.ownsRow B e K v n xs) (hg : W.grownBy W' row) (hr : ∀ r, row = some r → ∃ o : Obj, W.heap[r]? = some o ∧ o.isCells = false) : W'.ownsRow B e K v n xs := by
  refine h.kept hg ?_
  rcases h.2 with ⟨rfl, _⟩ | ⟨g, cap, cur, rfl, _, hh, _⟩
  · exact .inl rfl
  · right
    intro he
    obtain ⟨o, ho, hc⟩ := hr g he.symm
    rw [hh] at ho
    cases ho
    cases hc
theorem owns_ext {W W' : World} {B K n : Nat} {e : TypeId} {v : Value} {xs : List Value} (h : W.ownsRow B e K v n xs) (he : Ext W W') : W'.ownsRow B e K v n xs :=
  h.kept (row := none) ⟨he.os, he.tape, he.output, he.size, fun k hk _ => he.block k hk⟩ (by cases v.ownBlock <;> simp)
theorem Box1.book {W W' : World} {row : Option Nat} {b : Nat} {t : TypeId} {v : Value} (h : Box1 W b t v) (hg : W.grownBy W' row) (hr : ∀ r, row = some r → ∃ o : Obj, W.heap[r]? = some o ∧ o.isCells = false) : Box1 W' b t v := by
  refine (hg.block b h.lt ?_).trans h
  intro he
  obtain ⟨o, ho, hc⟩ := hr b he.symm
  rw [show W.heap[b]? = _ from h] at ho
  cases ho
  cases hc
theorem Box1.grown {W W' : World} {row : Option Nat} {b : Nat} {t : TypeId} {v : Value} (h : Box1 W b t v) (hg : W.grownBy W' row) (hne : some b ≠ row) : Box1 W' b t v := (hg.block b h.lt hne).trans h
theorem owns_box {W : World} {B K n b : Nat} {e t : TypeId} {v u : Value} {xs : List Value} (h : W.ownsRow B e K v n xs) (hb : Box1 W b t u) (hne : e ≠ t) : some b ≠ v.ownBlock := by
  rcases owns_tag h hb hne with h1 | h1
  · rw [h1]; simp
  · exact fun h => h1 h.symm
theorem InnR.book {W W' : World} {row : Option Nat} {vs : List Value} {acc : List (List (List Nat))} (h : InnR W vs acc) (hg : W.grownBy W' row) (hr : ∀ r, row = some r → ∃ o : Obj, W.heap[r]? = some o ∧ o.isCells = false) : InnR W' vs acc :=
  ⟨h.1, fun i hi => by obtain ⟨u, h1, h2⟩ := h.2 i hi; exact ⟨u, h1, owns_book h2 hg hr⟩⟩
theorem InnR.grown {W W' : World} {vs : List Value} {acc : List (List (List Nat))} {k : Nat} {cs : Array Value} {fz : Nat × Nat} {t : TypeId} (h : InnR W vs acc) (hg : W.grownBy W' (some k)) (hk : W.heap[k]? = some (.cells cs t fz)) (hne : 9 ≠ t) : InnR W' vs acc :=
  ⟨h.1, fun i hi => by obtain ⟨u, h1, h2⟩ := h.2 i hi; exact ⟨u, h1, h2.kept hg (owns_tag h2 hk hne)⟩⟩
theorem InnR.ext {W W' : World} {vs : List Value} {acc : List (List (List Nat))} (h : InnR W vs acc) (he : Ext W W') : InnR W' vs acc :=
  ⟨h.1, fun i hi => by obtain ⟨u, h1, h2⟩ := h.2 i hi; exact ⟨u, h1, owns_ext h2 he⟩⟩
theorem InnR.row {W W' : World} {vs vs' : List Value} {acc : List (List (List Nat))} {B K n : Nat} {v : Value} (h : InnR W vs acc) (hv : W.ownsRow B 53 K v n vs') (hg : W.grownBy W' v.ownBlock) : InnR W' vs acc :=
  ⟨h.1, fun i hi => by obtain ⟨u, h1, h2⟩ := h.2 i hi; exact ⟨u, h1, h2.kept hg (owns_other h2 hv (by decide))⟩⟩
theorem InnR.snoc {W : World} {vs : List Value} {acc : List (List (List Nat))} (h : InnR W vs acc) {u : Value} {ws : List (List Nat)} (hu : W.ownsRow 0 9 1 u ws.length (strN ws)) : InnR W (vs ++ [u]) (acc ++ [ws]) := by
  refine ⟨by simp [h.1], fun i hi => ?_⟩
  by_cases hl : i < acc.length
  · obtain ⟨u', h1, h2⟩ := h.2 i hl
    refine ⟨u', ?_, ?_⟩
    · rw [List.getElem?_append_left (by rw [h.1]; exact hl)]; exact h1
    · rw [List.getElem_append_left hl]; exact h2
  · have e : i = acc.length := by simp at hi; omega
    subst e
    refine ⟨u, ?_, ?_⟩
    · rw [← h.1, List.getElem?_append_right (Nat.le_refl _)]; simp
    · rw [List.getElem_append_right (Nat.le_refl _)]; simpa using hu
theorem owns_slice {W : World} {B n : Nat} {e : TypeId} {v : Value} {xs : List Value} (h : W.ownsRow B e 1 v n xs) : ∃ a c, v = .slice a n c ∧ Sl W a n c xs := by
  obtain ⟨a, c, h1, h2⟩ := Sl.of_owns h
  exact ⟨a, c, h1, h2⟩
theorem InnR.ss {W : World} {vs : List Value} {acc : List (List (List Nat))} (h : InnR W vs acc) {a : Option Addr} {n c : Nat} (hs : Sl W a n c vs) : SlSS W a n c acc :=
  ⟨vs, hs, h.1, fun i hi => by
    obtain ⟨u, h1, h2⟩ := h.2 i hi
    obtain ⟨a', c', rfl, h3⟩ := owns_slice h2
    exact ⟨a', _, c', h1, h3⟩⟩
theorem T_ss : SlT Tryd.prog 23 53 (.slice none 0 0) 24 :=
  let ⟨i, h1, h2, h3, h4⟩ := info_parts (P := Tryd.prog) (e := 53) (z := .slice none 0 0) (size := 1) (bytes := 24) (by kernel_rfl); ⟨Tryd.underlying23, i, h1, h2, h3, h4, rfl⟩
/-- One element more, inside a fence: what the walk is told of the world. -/
theorem wpListIn_appS {F : Fence} {m : Nat} {P : Program} {ops : Array Oper} {rest : List Oper} {o : Oper} {a : Act} {Q : Exit → Act → World → Prop} {w : World} {t e : TypeId} {z : Value} {bytes B : Nat} (hT : SlT P t e z bytes)
    (hgd : o.guard = none) (s x : Operand) (ho : o.op = .call { callee := .builtin .append, args := #[s, x], argTypes := #[t, t] })
    {v : Value} {n : Nat} {xs : List Value} (hown : w.ownsRow B e 1 v n xs) (hB : B ≤ w.heap.size) {ad : Addr} {c : Nat} (u : Value) (hs : a.eval s = v) (hx : a.eval x = .slice (some ad) 1 c)
    (hnews : ∀ j y, [u][j]? = some y → w.cell? (ad.add j) = some y) (h1 : u.oneCell' = true) (hb : n + 1 ≤ 17592186044416) (hb' : (n + 1) * bytes ≤ 140737488355328)
    (h : ∀ v' w', w'.ownsRow B e 1 v' (n + 1) (xs ++ [u]) → w.grownBy w' v.ownBlock → wpListIn F m P ops Q rest (a.put o.dst v') w') : wpListIn F m P ops Q (o :: rest) a w := by
  obtain ⟨ht, i, hi, hz, hsz, hby, hzs⟩ := hT
  refine wpListIn_append_own w hgd s x t ho B e i z 1 bytes ht hi hz hsz hby hzs (by decide) v n xs hs hown ad 1 c [u] hx rfl hnews (by simpa using h1) (by unfold maxLen; omega) hb' hB ?_
  intro v' w' h2 h3 _
  exact h v' w' h2 h3
/-- What the iterator hands out lies in the text. -/
theorem lineAt_mem {g : Nat} {W : World} : ∀ (k o n c : Nat) (l : List Nat), l.length ≤ k → Sl W (some ⟨g, o, none⟩) n c (ints .u8 l) → (∀ x ∈ l, x ≤ 255) → ∀ x ∈ linesA g o c (linesP l), (∃ o', x.1.1 = some ⟨g, o', none⟩) ∧ Sl W x.1.1 x.1.2.1 x.1.2.2 (ints .u8 x.2.1) ∧ ∀ y ∈ x.2.1, y ≤ 255
  | 0, o, n, c, l, hk, hs, hl, x, hx => by
    have : l = [] := List.length_eq_zero_iff.1 (by omega)
    subst this
    rw [linesP_nil] at hx
    simp [linesA] at hx
  | k + 1, o, n, c, l, hk, hs, hl, x, hx => by
    have hlen := hs.int_len
    have hcap := hs.2.1
    by_cases h0 : l = []
    · subst h0
      rw [linesP_nil] at hx
      simp [linesA] at hx
    · rcases index_bytes (v := 10) hl (by omega) with ⟨h1, _⟩ | ⟨p, r, rfl, h1, _⟩
      · rw [linesP_no h1 h0] at hx
        simp only [linesA, List.mem_singleton] at hx
        subst hx
        refine ⟨⟨o, rfl⟩, ?_, hl⟩
        rw [hlen]
        simpa using hs
      · rw [linesP_at h1] at hx
        simp only [linesA, List.mem_cons] at hx
        have hll : (p ++ 10 :: r).length = p.length + (r.length + 1) := by simp
        rcases hx with rfl | hx
        · refine ⟨⟨o, rfl⟩, ?_, fun y hy => hl y (by simp [hy])⟩
          have := hs.takeB (k := p.length) (m := p.length) (by omega) (Nat.le_refl _) (by omega)
          rw [List.take_left] at this
          simpa using this
        · have hd := hs.dropB (k := p.length + 1) (by omega)
          have hdr : (p ++ 10 :: r).drop (p.length + 1) = r := by rw [show p ++ 10 :: r = (p ++ [10]) ++ r by simp, show p.length + 1 = (p ++ [10]).length by simp, List.drop_left]
          rw [hdr] at hd
          exact lineAt_mem k _ _ _ r (by omega) hd (fun y hy => hl y (by simp [hy])) x hx

end Go.Proofs.YtlhaepcnhkaclaaDoor
