/- Laws on blocks, rows and appends, of elements of several cells. -/
import Derived.Test.YtlhaepcnhkaclaaMG
import Derived.OwnWalk
namespace Go.Proofs.Ytlhaepcnhkaclaa
set_option linter.unusedVariables false
open Go Go.RowKit

theorem But.rowB {w u : World} {g B e K m : Nat} {v : Value} {xs : List Value} (h : But w u g) (hr : w.ownsRow B e K v m xs) (hlt : g < B) : u.ownsRow B e K v m xs := by
  obtain ⟨h1, h2⟩ := hr
  refine ⟨h1, ?_⟩
  rcases h2 with h2 | ⟨g2, cap2, cur, hv, hg, hh, hn, hm, hs, hx⟩
  · exact .inl h2
  · have hl : g2 < w.heap.size := by
      rcases Nat.lt_or_ge g2 w.heap.size with h | h
      · exact h
      · rw [Array.getElem?_eq_none h] at hh; cases hh
    have hgB : B ≤ g2 := by first | exact hg.1 | exact hg
    exact .inr ⟨g2, cap2, cur, hv, hg, by rw [h.2 g2 hl (by omega)]; exact hh, hn, hm, hs, hx⟩
/-- One element more, in a row whose block is no older than B. -/
theorem wpList_appB {P : Program} {ops : Array Oper} {rest : List Oper} {o : Oper} {a : Act} {Q : Exit → Act → World → Prop} {w : World} {t e e' : TypeId} {K B : Nat} {z : Value} {bytes : Nat} (hT : SlTK P t e K z bytes)
    (hgd : o.guard = none) (s x : Operand) (ho : o.op = .call { callee := .builtin .append, args := #[s, x], argTypes := #[t, t] })
    {v : Value} {n : Nat} {xs : List Value} (hown : w.ownsRow B e K v n xs) (hB : B ≤ w.heap.size) (cs : Array Value) (hcs : cs.size = K) (h1 : ∀ u ∈ cs.toList, u.oneCell' = true) {c : Nat} (hs : a.eval s = v)
    (hx : a.eval x = .slice (some ⟨w.heap.size, 0, none⟩) 1 c) (hb : n + 1 ≤ 17592186044416) (hb' : (n + 1) * bytes ≤ 140737488355328)
    (h : ∀ v' w', w'.ownsRow B e K v' (n + 1) (xs ++ cs.toList) → Below B w w' → wpList P ops Q rest (a.put o.dst v') w') :
    wpList P ops Q (o :: rest) a (w.alloc (.cells cs e')) := by
  obtain ⟨ht, hK, i, hi, hz, hsz, hby, hzs⟩ := hT
  have hB' : B ≤ (w.alloc (.cells cs e')).heap.size := Nat.le_trans hB (by simp)
  refine wpList_plain hgd fun _ hk => wp_append_own (w.alloc (.cells cs e')) s x t ho B e i z K bytes ht hi hz hsz hby hzs hK v n xs hs (hown.alloc _) ⟨w.heap.size, 0, none⟩ 1 c cs.toList hx (by simp [hcs]) ?_ h1 (by unfold maxLen; omega) hb' hB' ?_
  · intro j u hj
    have hb := Bl.new (e := e') (cs := cs) (rfl : w.heap.size = w.heap.size) j
    have e1 : (⟨w.heap.size, 0, none⟩ : Addr).add j = ⟨w.heap.size, j, none⟩ := by unfold Addr.add; split <;> simp_all
    rw [e1, hb, ← hj]
    simp
  · intro v' w' g1 g2 _
    exact hk _ _ (h v' w' g1 (Below.grown ((Below.refl B w).alloc hB _) g2 hB' (fun k hk => (hown.lt k hk).1)))
theorem Fz.lowB {w w' : World} {g B : Nat} (h : Below B w w') (hf : Fz w g) (hg : g < B) : Fz w' g := fun j => (World.frozen?_of_block (w := w) (a := ⟨g, j, none⟩) (h.block g hg)).trans (hf j)
theorem Bl.lowB {w w' : World} {g B : Nat} {cs : Array Value} (h : Below B w w') (hb : Bl w g cs) (hg : g < B) : Bl w' g cs := fun j => (World.cell?_of_block (w := w) (a := ⟨g, j, none⟩) (h.block g hg)).trans (hb j)
theorem wp_appB {P : Program} {o : Oper} {a : Act} {K' : Act → World → Prop} {Q : Exit → Act → World → Prop} {w : World} {t e : TypeId} {K B : Nat} {z : Value} {bytes : Nat} (hT : SlTK P t e K z bytes)
    (s x : Operand) (ho : o.op = .call { callee := .builtin .append, args := #[s, x], argTypes := #[t, t] })
    {v : Value} {n : Nat} {xs : List Value} (hown : w.ownsRow B e K v n xs) (hB : B ≤ w.heap.size) {ad : Addr} {m c : Nat} (news : List Value) (hs : a.eval s = v) (hx : a.eval x = .slice (some ad) m c)
    (hl : news.length = m * K) (hnews : ∀ j u, news[j]? = some u → w.cell? (ad.add j) = some u) (h1 : ∀ u ∈ news, u.oneCell' = true) (hb : n + m ≤ 17592186044416) (hb' : (n + m) * bytes ≤ 140737488355328)
    (h : ∀ v' w', w'.ownsRow B e K v' (n + m) (xs ++ news) → Below B w w' → K' (a.put o.dst v') w') : o.wp P a w K' Q := by
  obtain ⟨ht, hK, i, hi, hz, hsz, hby, hzs⟩ := hT
  refine wp_append_own w s x t ho B e i z K bytes ht hi hz hsz hby hzs hK v n xs hs hown ad m c news hx hl hnews h1 (by unfold maxLen; omega) hb' hB ?_
  intro v' w' g1 g2 _
  exact h v' w' g1 (Below.grown (Below.refl B w) g2 hB (fun k hk => (hown.lt k hk).1))

/-- A row is as it was where another block was written. -/
theorem own_but {w u : World} {B e K m k : Nat} {v : Value} {xs : List Value} (h : w.ownsRow B e K v m xs) (hb : But w u k) (hk : ∀ r, v.ownBlock = some r → r ≠ k) : u.ownsRow B e K v m xs := by
  obtain ⟨h1, h2⟩ := h
  refine ⟨h1, ?_⟩
  rcases h2 with h2 | ⟨g, cap, cur, rfl, hg, hh, hn, hm, hs, hx⟩
  · exact .inl h2
  · have hlt : g < w.heap.size := by
      rcases Nat.lt_or_ge g w.heap.size with h | h
      · exact h
      · rw [Array.getElem?_eq_none h] at hh; cases hh
    exact .inr ⟨g, cap, cur, rfl, hg, by rw [hb.2 g hlt (hk g rfl)]; exact hh, hn, hm, hs, hx⟩
theorem own_ext {w u : World} {B e K m : Nat} {v : Value} {xs : List Value} (h : w.ownsRow B e K v m xs) (he : Ext w u) : u.ownsRow B e K v m xs := by
  obtain ⟨h1, h2⟩ := h
  refine ⟨h1, ?_⟩
  rcases h2 with h2 | ⟨g, cap, cur, hv, hg, hh, hn, hm, hs, hx⟩
  · exact .inl h2
  · have hlt : g < w.heap.size := by
      rcases Nat.lt_or_ge g w.heap.size with h | h
      · exact h
      · rw [Array.getElem?_eq_none h] at hh; cases hh
    exact .inr ⟨g, cap, cur, hv, hg, by rw [he.block g hlt]; exact hh, hn, hm, hs, hx⟩
/-- A row of no elements. -/
theorem own_nil (w : World) (B e K : Nat) : w.ownsRow B e K (.slice none 0 0) 0 [] := ⟨by simp, .inl ⟨rfl, rfl⟩⟩

end Go.Proofs.Ytlhaepcnhkaclaa
