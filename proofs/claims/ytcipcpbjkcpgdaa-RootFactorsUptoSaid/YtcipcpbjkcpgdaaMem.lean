/- What a slice reads as in a world, and how that is kept. -/
import Derived.Test.YtcipcpbjkcpgdaaCore
import Derived.Test.YtcipcpbjkcpgdaaReg
import Derived.WalkSpells
import Derived.WalkLawsBesides
namespace Go.Proofs.Ytcipcpbjkcpgdaa
set_option linter.unusedVariables false
open Go Go.RowKit

theorem hidP {p : Prop} (h : p) : Hid p := h

theorem ret_int {k : IntKind} {a b : Int} (h : a = b) : Ending.returned (.int k a) = .returned (.int k b) := by rw [h]

/-- A slice of one-celled elements reads as xs. -/
def Sl (w : World) (a : Option Addr) (n cap : Nat) (xs : List Value) : Prop :=
  xs.length = n ∧ n ≤ cap ∧ cap ≤ maxLen ∧ (0 < n → ∃ b off, a = some ⟨b, off, none⟩ ∧ ∀ i u, xs[i]? = some u → w.cell? ⟨b, off + i, none⟩ = some u)

theorem Sl.ext {w u : World} {a : Option Addr} {n cap : Nat} {xs : List Value} (h : Sl w a n cap xs) (he : Ext w u) : Sl u a n cap xs :=
  ⟨h.1, h.2.1, h.2.2.1, fun hn => let ⟨b, off, ha, hc⟩ := h.2.2.2 hn; ⟨b, off, ha, fun i u hu => he.cell' (hc i u hu)⟩⟩

theorem Sl.nil (w : World) : Sl w none 0 0 [] := ⟨rfl, Nat.le_refl _, Nat.zero_le _, fun h => absurd h (by omega)⟩
theorem Sl.empty (w : World) (a : Option Addr) (cap : Nat) (hc : cap ≤ maxLen) : Sl w a 0 cap [] := ⟨rfl, Nat.zero_le _, hc, fun h => absurd h (by omega)⟩

theorem Sl.take {w : World} {a : Option Addr} {n cap : Nat} {xs : List Value} (h : Sl w a n cap xs) (k : Nat) (hk : k ≤ n) : Sl w a k cap (xs.take k) := by
  refine ⟨by rw [List.length_take, h.1]; omega, by have := h.2.1; omega, h.2.2.1, fun h0 => ?_⟩
  obtain ⟨b, off, ha, hc⟩ := h.2.2.2 (by omega)
  refine ⟨b, off, ha, fun i u hu => hc i u ?_⟩
  rw [List.getElem?_take] at hu
  split at hu
  · exact hu
  · cases hu

/-- Numbers as values. -/
def ints (k : IntKind) (l : List Nat) : List Value := l.map fun x : Nat => Value.int k (x : Int)
theorem ints_len (k : IntKind) (l : List Nat) : (ints k l).length = l.length := by simp [ints]
theorem ints_take (k : IntKind) (l : List Nat) (n : Nat) : (ints k l).take n = ints k (l.take n) := by simp [ints, List.map_take]
theorem ints_get (k : IntKind) (l : List Nat) (i : Nat) (h : i < l.length) : (ints k l)[i]? = some (.int k (l[i] : Nat)) := by simp [ints, h]
theorem ints_append (k : IntKind) (l m : List Nat) : ints k (l ++ m) = ints k l ++ ints k m := by simp [ints]

theorem Sl.at_int {w : World} {a : Option Addr} {n cap : Nat} {k : IntKind} {l : List Nat} (h : Sl w a n cap (ints k l)) (hn : 0 < n) :
    ∃ b off, a = some ⟨b, off, none⟩ ∧ ∀ i (hi : i < l.length), w.cell? ⟨b, off + i, none⟩ = some (.int k (l[i] : Nat)) := by
  obtain ⟨b, off, ha, hc⟩ := h.2.2.2 hn
  exact ⟨b, off, ha, fun i hi => hc i _ (ints_get k l i hi)⟩

theorem Sl.int_len {w : World} {a : Option Addr} {n cap : Nat} {k : IntKind} {l : List Nat} (h : Sl w a n cap (ints k l)) : l.length = n := by rw [← h.1, ints_len]

/-- The call hands back a slice that reads as xs; what was there is as it was. -/
def RetSl (w : World) (xs : List Value) (e : Ending) (w' : World) : Prop := ∃ a n cap, e = .returned (.slice a n cap) ∧ Sl w' a n cap xs ∧ Ext w w'

/-- What an owned row of one-celled elements reads as. -/
theorem Sl.of_owns {w : World} {base : Nat} {t : TypeId} {v : Value} {n : Nat} {xs : List Value} (h : w.ownsRow base t 1 v n xs) :
    ∃ a cap, v = .slice a n cap ∧ Sl w a n cap xs := by
  obtain ⟨h1, h2⟩ := h
  rcases h2 with ⟨rfl, rfl⟩ | ⟨g, cap, cur, rfl, hg, hh, hn, hm, hs, hx⟩
  · exact ⟨none, 0, rfl, by simpa using h1, Nat.le_refl _, Nat.zero_le _, fun h => absurd h (by omega)⟩
  · refine ⟨_, cap, rfl, by simpa using h1, hn, hm, fun _ => ⟨g, 0, rfl, fun i u hu => ?_⟩⟩
    have hi : i < n := by
      have := (List.getElem?_eq_some_iff.1 hu).1
      simpa [h1] using this
    have := World.ownsRow.cellAt (w := w) (base := base) (e := t) (size := 1) ⟨h1, .inr ⟨g, cap, cur, rfl, hg, hh, hn, hm, hs, hx⟩⟩ i (by omega)
    rw [Nat.zero_add, this, hu]

theorem Sl.of_owns' {w : World} {base : Nat} {t : TypeId} {a : Option Addr} {n cap : Nat} {xs : List Value} (h : w.ownsRow base t 1 (.slice a n cap) n xs) : Sl w a n cap xs := by
  obtain ⟨a', cap', he, hs⟩ := Sl.of_owns h
  cases he; exact hs
/-- A slice that was just written out. -/
theorem Sl.lit (w : World) (e : TypeId) (cs : Array Value) (n : Nat) (hn : cs.size = n) (hm : n ≤ 65536) : Sl (w.alloc (.cells cs e)) (some ⟨w.heap.size, 0, none⟩) n n cs.toList :=
  Sl.of_owns' (World.ownsRow_lit (base := 0) (size := 1) w cs n (Nat.zero_le _) (by unfold maxLen; omega) (by simpa using hn))

/-- t is the type of slices of e, whose values have one cell; z is e's zero value, of so many bytes. -/
def SlT (P : Program) (t e : TypeId) (z : Value) (bytes : Nat) : Prop :=
  P.underlying t = some (.slice e) ∧ ∃ i, P.info? e = some i ∧ i.zero = some z ∧ i.size = 1 ∧ i.bytes = bytes ∧ z.cells.size = 1

/-- 'd = append(d, ..)' on a slice of the call's own. -/
theorem wp_app {P : Program} {o : Oper} {a : Act} {K : Act → World → Prop} {Q : Exit → Act → World → Prop} {W w : World} {t e : TypeId} {z : Value} {bytes : Nat} (hT : SlT P t e z bytes)
    (s x : Operand) (ho : o.op = .call { callee := .builtin .append, args := #[s, x], argTypes := #[t, t] })
    {v : Value} {n : Nat} {xs : List Value} (hown : w.ownsRow W.heap.size e 1 v n xs) (he : Ext W w) {ad : Addr} {m c : Nat} (news : List Value) (hs : a.eval s = v) (hx : a.eval x = .slice (some ad) m c)
    (hl : news.length = m) (hnews : ∀ j u, news[j]? = some u → w.cell? (ad.add j) = some u) (h1 : ∀ u ∈ news, u.oneCell' = true) (hb : n + m ≤ 17592186044416) (hb' : bytes ≤ 8)
    (h : ∀ v' w', w'.ownsRow W.heap.size e 1 v' (n + m) (xs ++ news) → Ext W w' → K (a.put o.dst v') w') : o.wp P a w K Q := by
  obtain ⟨ht, i, hi, hz, hsz, hby, hzs⟩ := hT
  refine wp_append_own w s x t ho W.heap.size e i z 1 bytes ht hi hz hsz hby hzs (by decide) v n xs hs hown ad m c news hx (by simpa using hl) hnews h1 (by unfold maxLen; omega)
    (Nat.le_trans (Nat.mul_le_mul hb hb') (by decide)) he.size ?_
  intro v' w' h1 h2 _
  exact h v' w' h1 (Below.grown he h2 he.size (fun k hk => (hown.lt k hk).1))

theorem wpList_app {P : Program} {ops : Array Oper} {rest : List Oper} {o : Oper} {a : Act} {Q : Exit → Act → World → Prop} {W w : World} {t e : TypeId} {z : Value} {bytes : Nat} (hT : SlT P t e z bytes)
    (hgd : o.guard = none) (s x : Operand) (ho : o.op = .call { callee := .builtin .append, args := #[s, x], argTypes := #[t, t] })
    {v : Value} {n : Nat} {xs : List Value} (hown : w.ownsRow W.heap.size e 1 v n xs) (he : Ext W w) {ad : Addr} {m c : Nat} (news : List Value) (hs : a.eval s = v) (hx : a.eval x = .slice (some ad) m c)
    (hl : news.length = m) (hnews : ∀ j u, news[j]? = some u → w.cell? (ad.add j) = some u) (h1 : ∀ u ∈ news, u.oneCell' = true) (hb : n + m ≤ 17592186044416) (hb' : bytes ≤ 8)
    (h : ∀ v' w', w'.ownsRow W.heap.size e 1 v' (n + m) (xs ++ news) → Ext W w' → wpList P ops Q rest (a.put o.dst v') w') : wpList P ops Q (o :: rest) a w :=
  wpList_plain hgd fun _ hK => wp_app hT s x ho hown he news hs hx hl hnews h1 hb hb' fun v' w' h1 h2 => hK _ _ (h v' w' h1 h2)

/-- One value more: it lies in a block of its own that was made just before. -/
theorem wpList_app1 {P : Program} {ops : Array Oper} {rest : List Oper} {o : Oper} {a : Act} {Q : Exit → Act → World → Prop} {W w : World} {t e e' : TypeId} {z : Value} {bytes : Nat} (hT : SlT P t e z bytes)
    (hgd : o.guard = none) (s x : Operand) (ho : o.op = .call { callee := .builtin .append, args := #[s, x], argTypes := #[t, t] })
    {v : Value} {n : Nat} {xs : List Value} (hown : w.ownsRow W.heap.size e 1 v n xs) (he : Ext W w) (u : Value) (hu : u.oneCell' = true) {c : Nat} (hs : a.eval s = v)
    (hx : a.eval x = .slice (some ⟨w.heap.size, 0, none⟩) 1 c) (hb : n + 1 ≤ 17592186044416) (hb' : bytes ≤ 8)
    (h : ∀ v' w', w'.ownsRow W.heap.size e 1 v' (n + 1) (xs ++ [u]) → Ext W w' → wpList P ops Q rest (a.put o.dst v') w') :
    wpList P ops Q (o :: rest) a (w.alloc (.cells #[u] e')) :=
  wpList_app hT hgd s x ho (hown.alloc _) (he.alloc _) [u] hs hx rfl (cell_one_new _ _ _) (by simpa using hu) hb hb' h

def B32 : Nat := 4294967296
def B16 : Nat := 65536
theorem B32_two : 2 ≤ B32 := by unfold B32; omega
theorem B16_two : 2 ≤ B16 := by unfold B16; omega
theorem B32_eq : B32 = 4294967296 := rfl
theorem B16_eq : B16 = 65536 := rfl
theorem B32_sq : B32 = B16 * B16 := rfl
/-- A number's words: each is of 32 bits. -/
def Ws (l : List Nat) : Prop := ∀ x ∈ l, x < B32
def Hs (l : List Nat) : Prop := ∀ x ∈ l, x < B16
theorem Ws.at {l : List Nat} (h : Ws l) (i : Nat) (hi : i < l.length) : l[i] < 4294967296 := h _ (List.getElem_mem hi)
theorem Hs.at {l : List Nat} (h : Hs l) (i : Nat) (hi : i < l.length) : l[i] < 65536 := h _ (List.getElem_mem hi)
theorem Ws.dig (n : Nat) : Ws (dig B32 n) := dig_lt B32_two n
theorem Hs.dig (n : Nat) : Hs (dig B16 n) := dig_lt B16_two n

end Go.Proofs.Ytcipcpbjkcpgdaa
