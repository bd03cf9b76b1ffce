/- Rows of strings and of slices: reading, growing. -/
import Derived.Test.YtlhaepcnhkaclaaDoorM4
import Derived.Test.YtlhaepcnhkaclaaDoorRF
import Derived.OwnWalk
namespace Go.Proofs.YtlhaepcnhkaclaaDoor
set_option linter.unusedVariables false
set_option linter.unusedSimpArgs false
open Go Go.RowKit

def strs (l : List ByteArray) : List Value := l.map Value.string
def intsZ (l : List Int) : List Value := l.map (Value.int .i64)
theorem strs_len (l : List ByteArray) : (strs l).length = l.length := by simp [strs]
theorem intsZ_len (l : List Int) : (intsZ l).length = l.length := by simp [intsZ]

theorem Sl.cell_at {w : World} {a : Option Addr} {n cap : Nat} {xs : List Value} (h : Sl w a n cap xs) (i : Nat) (hi : i < n) :
    ∃ b off u, a = some ⟨b, off, none⟩ ∧ xs[i]? = some u ∧ w.cell? ⟨b, off + i, none⟩ = some u := by
  obtain ⟨b, off, ha, hc⟩ := h.2.2.2 (by omega)
  have hl := h.1
  exact ⟨b, off, xs[i]'(by omega), ha, List.getElem?_eq_getElem (by omega), hc i _ (List.getElem?_eq_getElem (by omega))⟩

/-- 'd = append(d, ..)' of one value, whatever its size. -/
theorem wp_appW {P : Program} {o : Oper} {a : Act} {K : Act → World → Prop} {Q : Exit → Act → World → Prop} {W w : World} {t e : TypeId} {z : Value} {bytes : Nat} (hT : SlT P t e z bytes)
    (s x : Operand) (ho : o.op = .call { callee := .builtin .append, args := #[s, x], argTypes := #[t, t] })
    {v : Value} {n : Nat} {xs : List Value} (hown : w.ownsRow W.heap.size e 1 v n xs) (he : Ext W w) {ad : Addr} {m c : Nat} (news : List Value) (hs : a.eval s = v) (hx : a.eval x = .slice (some ad) m c)
    (hl : news.length = m) (hnews : ∀ j u, news[j]? = some u → w.cell? (ad.add j) = some u) (h1 : ∀ u ∈ news, u.oneCell' = true) (hb : n + m ≤ 17592186044416) (hb' : (n + m) * bytes ≤ 140737488355328)
    (h : ∀ v' w', w'.ownsRow W.heap.size e 1 v' (n + m) (xs ++ news) → Ext W w' → K (a.put o.dst v') w') : o.wp P a w K Q := by
  obtain ⟨ht, i, hi, hz, hsz, hby, hzs⟩ := hT
  refine wp_append_own w s x t ho W.heap.size e i z 1 bytes ht hi hz hsz hby hzs (by decide) v n xs hs hown ad m c news hx (by simpa using hl) hnews h1 (by unfold maxLen; omega)
    hb' he.size ?_
  intro v' w' h1 h2 _
  exact h v' w' h1 (Below.grown he h2 he.size (fun k hk => (hown.lt k hk).1))
theorem wpList_appW1 {P : Program} {ops : Array Oper} {rest : List Oper} {o : Oper} {a : Act} {Q : Exit → Act → World → Prop} {W w : World} {t e e' : TypeId} {z : Value} {bytes : Nat} (hT : SlT P t e z bytes)
    (hgd : o.guard = none) (s x : Operand) (ho : o.op = .call { callee := .builtin .append, args := #[s, x], argTypes := #[t, t] })
    {v : Value} {n : Nat} {xs : List Value} (hown : w.ownsRow W.heap.size e 1 v n xs) (he : Ext W w) (u : Value) (hu : u.oneCell' = true) {c : Nat} (hs : a.eval s = v)
    (hx : a.eval x = .slice (some ⟨w.heap.size, 0, none⟩) 1 c) (hb : n + 1 ≤ 17592186044416) (hb' : (n + 1) * bytes ≤ 140737488355328)
    (h : ∀ v' w', w'.ownsRow W.heap.size e 1 v' (n + 1) (xs ++ [u]) → Ext W w' → wpList P ops Q rest (a.put o.dst v') w') :
    wpList P ops Q (o :: rest) a (w.alloc (.cells #[u] e')) :=
  wpList_plain hgd fun _ hK => wp_appW hT s x ho (hown.alloc _) (he.alloc _) [u] hs hx rfl (cell_one_new _ _ _) (by simpa using hu) hb hb' fun v' w' h1 h2 => hK _ _ (h v' w' h1 h2)
theorem wpList_make0W {P : Program} {ops : Array Oper} {rest : List Oper} {o : Oper} {a : Act} {Q : Exit → Act → World → Prop} {W w : World} {t e : TypeId} {z : Value} {bytes : Nat} (hT : SlT P t e z bytes)
    (hgd : o.guard = none) (x y : Operand) (ho : o.op = .makeSlice t x y) {kl kc : IntKind} {n : Nat} (hx : a.eval x = .int kl 0) (hy : a.eval y = .int kc (n : Int)) (he : Ext W w) (hn : n ≤ 17592186044416) (hb' : bytes * n ≤ 140737488355328)
    (h : ∀ w', w'.ownsRow W.heap.size e 1 (.slice (some ⟨w.heap.size, 0, none⟩) 0 n) 0 [] → Ext W w' → wpList P ops Q rest (a.put o.dst (.slice (some ⟨w.heap.size, 0, none⟩) 0 n)) w') :
    wpList P ops Q (o :: rest) a w := by
  obtain ⟨ht, i, hi, hz, hsz, hby, hzs⟩ := hT
  refine wpList_plain hgd fun K hK => ?_
  obtain ⟨w', hr, hown, hgr⟩ := run_make_own (P := P) w W.heap.size t e i z 1 ht hi hz hsz kl kc n (by
    rw [hby]; exact Nat.le_trans hb' (by decide)) (by unfold maxLen; omega) he.size
  unfold Oper.wp execOp
  simp only [ho, hx, hy, Sem.run_bind, Sem.run_pure, hr, Result.andThen_ok]
  exact hK _ _ (h _ hown (Below.grown he hgr he.size (fun k hk => by cases hk)))

theorem T_int : SlT Tryd.prog 38 3 (.int .i64 0) 8 :=
  let ⟨i, h1, h2, h3, h4⟩ := info_parts (P := Tryd.prog) (e := 3) (z := .int .i64 0) (size := 1) (bytes := 8) (by kernel_rfl); ⟨Tryd.underlying38, i, h1, h2, h3, h4, rfl⟩
theorem T_str : SlT Tryd.prog 53 9 (.string ⟨#[]⟩) 16 :=
  let ⟨i, h1, h2, h3, h4⟩ := info_parts (P := Tryd.prog) (e := 9) (z := .string ⟨#[]⟩) (size := 1) (bytes := 16) (by kernel_rfl); ⟨Tryd.underlying53, i, h1, h2, h3, h4, rfl⟩

theorem ownsRow_ext {w u : World} {B e n : Nat} {v : Value} {xs : List Value} (h : w.ownsRow B e 1 v n xs) (he : Ext w u) : u.ownsRow B e 1 v n xs := by
  obtain ⟨h1, h2⟩ := h
  refine ⟨h1, ?_⟩
  rcases h2 with h2 | ⟨g, cap, cur, rfl, hg, hh, hn, hm, hs, hx⟩
  · exact .inl h2
  · have hlt : g < w.heap.size := by
      rcases Nat.lt_or_ge g w.heap.size with h | h
      · exact h
      · rw [Array.getElem?_eq_none h] at hh; cases hh
    exact .inr ⟨g, cap, cur, rfl, hg, (he.block g hlt).trans hh, hn, hm, hs, hx⟩

end Go.Proofs.YtlhaepcnhkaclaaDoor
