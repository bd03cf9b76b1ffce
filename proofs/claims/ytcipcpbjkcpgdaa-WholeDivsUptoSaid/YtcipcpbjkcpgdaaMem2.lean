/- More on slices of a call's own: made whole, made with room, written in place. -/
import Derived.Test.YtcipcpbjkcpgdaaMem
import Derived.Laws.CopyOwn
namespace Go.Proofs.Ytcipcpbjkcpgdaa
set_option linter.unusedVariables false
open Go Go.RowKit

/-- 'make([]T, n)'. -/
theorem wp_make {P : Program} {o : Oper} {a : Act} {K : Act → World → Prop} {Q : Exit → Act → World → Prop} {W w : World} {t e : TypeId} {z : Value} {bytes : Nat} (hT : SlT P t e z bytes)
    (x y : Operand) (ho : o.op = .makeSlice t x y) {kl kc : IntKind} {n : Nat} (hx : a.eval x = .int kl (n : Int)) (hy : a.eval y = .int kc (n : Int)) (he : Ext W w) (hn : n ≤ 17592186044416) (hb' : bytes ≤ 8) (hzc : z.cells = #[z])
    (h : ∀ w', w'.ownsRow W.heap.size e 1 (.slice (some ⟨w.heap.size, 0, none⟩) n n) n (List.replicate n z) → Ext w w' → w'.heap.size = w.heap.size + 1 → K (a.put o.dst (.slice (some ⟨w.heap.size, 0, none⟩) n n)) w') :
    o.wp P a w K Q := by
  obtain ⟨ht, i, hi, hz, hsz, hby, hzs⟩ := hT
  have hr := run_make (P := P) w t e i z ht hi hz kl kc n n (by omega) (Int.le_refl _) (by
    have h1 : bytes * n ≤ 281474976710656 := Nat.le_trans (Nat.mul_le_mul hb' hn) (by decide)
    have h2 : ((i.bytes * n : Nat) : Int) ≤ 281474976710656 := by rw [hby]; omega
    rwa [Int.natCast_mul] at h2) (by omega)
  simp only [Int.toNat_natCast] at hr
  unfold Oper.wp execOp
  simp only [ho, hx, hy, Sem.run_bind, Sem.run_pure, hr, Result.andThen_ok]
  refine h _ ?_ ((Ext.refl _).alloc _) (by simp)
  have hown := World.ownsRow_lit (base := W.heap.size) (e := e) (size := 1) w (madeCells z.cells (n * 1)) n he.size (by unfold maxLen; omega) (by simp [madeCells])
  have hl : (madeCells z.cells (n * 1)).toList = List.replicate n z := by
    rw [Nat.mul_one, hzc, toList_madeCells_one]
  rw [hl] at hown
  rw [hsz]
  exact hown

theorem wpList_make {P : Program} {ops : Array Oper} {rest : List Oper} {o : Oper} {a : Act} {Q : Exit → Act → World → Prop} {W w : World} {t e : TypeId} {z : Value} {bytes : Nat} (hT : SlT P t e z bytes)
    (hgd : o.guard = none) (x y : Operand) (ho : o.op = .makeSlice t x y) {kl kc : IntKind} {n : Nat} (hx : a.eval x = .int kl (n : Int)) (hy : a.eval y = .int kc (n : Int)) (he : Ext W w) (hn : n ≤ 17592186044416) (hb' : bytes ≤ 8) (hzc : z.cells = #[z])
    (h : ∀ w', w'.ownsRow W.heap.size e 1 (.slice (some ⟨w.heap.size, 0, none⟩) n n) n (List.replicate n z) → Ext W w' → w'.heap.size = w.heap.size + 1 → wpList P ops Q rest (a.put o.dst (.slice (some ⟨w.heap.size, 0, none⟩) n n)) w') :
    wpList P ops Q (o :: rest) a w :=
  wpList_plain hgd fun _ hK => wp_make hT x y ho hx hy he hn hb' hzc fun w' h1 h2 h3 => hK _ _ (h w' h1 (he.trans h2) h3)

/-- 'make([]T, 0, n)'. -/
theorem wpList_make0 {P : Program} {ops : Array Oper} {rest : List Oper} {o : Oper} {a : Act} {Q : Exit → Act → World → Prop} {W w : World} {t e : TypeId} {z : Value} {bytes : Nat} (hT : SlT P t e z bytes)
    (hgd : o.guard = none) (x y : Operand) (ho : o.op = .makeSlice t x y) {kl kc : IntKind} {n : Nat} (hx : a.eval x = .int kl 0) (hy : a.eval y = .int kc (n : Int)) (he : Ext W w) (hn : n ≤ 17592186044416) (hb' : bytes ≤ 8)
    (h : ∀ w', w'.ownsRow W.heap.size e 1 (.slice (some ⟨w.heap.size, 0, none⟩) 0 n) 0 [] → Ext W w' → wpList P ops Q rest (a.put o.dst (.slice (some ⟨w.heap.size, 0, none⟩) 0 n)) w') :
    wpList P ops Q (o :: rest) a w := by
  obtain ⟨ht, i, hi, hz, hsz, hby, hzs⟩ := hT
  refine wpList_plain hgd fun K hK => ?_
  obtain ⟨w', hr, hown, hgr⟩ := run_make_own (P := P) w W.heap.size t e i z 1 ht hi hz hsz kl kc n (by
    rw [hby]; exact Nat.le_trans (Nat.mul_le_mul hb' hn) (by decide)) (by unfold maxLen; omega) he.size
  unfold Oper.wp execOp
  simp only [ho, hx, hy, Sem.run_bind, Sem.run_pure, hr, Result.andThen_ok]
  exact hK _ _ (h _ hown (Below.grown he hgr he.size (fun k hk => by cases hk)))

theorem Row.cell {w : World} {B e g n cap : Nat} {k : IntKind} {D : List Nat} (h : w.ownsRow B e 1 (.slice (some ⟨g, 0, none⟩) n cap) n (ints k D)) (j : Nat) (hj : j < D.length) :
    w.cell? ⟨g, j, none⟩ = some (.int k (D[j] : Nat)) := by
  have hl : D.length = n := by have := h.1; rw [ints_len] at this; omega
  rw [World.ownsRow.cellAt (w := w) h j (by omega), ints_get k D j hj]
theorem Row.free {w : World} {B e g n cap : Nat} {xs : List Value} (h : w.ownsRow B e 1 (.slice (some ⟨g, 0, none⟩) n cap) n xs) (j : Nat) : w.frozen? ⟨g, j, none⟩ = false :=
  World.ownsRow.frozenAt (w := w) h j
theorem Row.store {w : World} {B e g n cap : Nat} {k : IntKind} {D : List Nat} (h : w.ownsRow B e 1 (.slice (some ⟨g, 0, none⟩) n cap) n (ints k D)) (j v : Nat) :
    (w.setCell ⟨g, j, none⟩ (.int k (v : Int))).ownsRow B e 1 (.slice (some ⟨g, 0, none⟩) n cap) n (ints k (D.set j v)) := by
  have := (World.ownsRow.stored (w := w) h j (.int k (v : Int))).1
  have e : (ints k D).set j (.int k (v : Int)) = ints k (D.set j v) := by simp [ints, List.map_set]
  rw [e] at this
  exact this
theorem Row.base {w : World} {B e g n cap : Nat} {xs : List Value} (h : w.ownsRow B e 1 (.slice (some ⟨g, 0, none⟩) n cap) n xs) : B ≤ g ∧ g < w.heap.size := h.lt g rfl
theorem Row.len {w : World} {B e g n cap : Nat} {k : IntKind} {D : List Nat} (h : w.ownsRow B e 1 (.slice (some ⟨g, 0, none⟩) n cap) n (ints k D)) : D.length = n := by
  have := h.1; rw [ints_len] at this; omega
theorem replicate_ints (k : IntKind) (n : Nat) : List.replicate n (Value.int k 0) = ints k (List.replicate n 0) := by simp [ints]

theorem val_set (B : Nat) : ∀ (D : List Nat) (j v : Nat) (h : j < D.length), val B (D.set j v) + B ^ j * D[j] = val B D + B ^ j * v
  | [], j, v, h => by simp at h
  | x :: r, 0, v, h => by simp [val]; omega
  | x :: r, j + 1, v, h => by
    have ih := val_set B r j v (by simpa using h)
    simp only [List.set_cons_succ, val, List.getElem_cons_succ, Nat.pow_succ]
    have e1 : B ^ j * B * r[j]'(by simpa using h) = B * (B ^ j * r[j]'(by simpa using h)) := by rw [Nat.mul_comm (B ^ j) B, Nat.mul_assoc]
    have e2 : B ^ j * B * v = B * (B ^ j * v) := by rw [Nat.mul_comm (B ^ j) B, Nat.mul_assoc]
    rw [e1, e2]
    have : B * (val B (r.set j v) + B ^ j * r[j]'(by simpa using h)) = B * (val B r + B ^ j * v) := by rw [ih]
    rw [Nat.mul_add, Nat.mul_add] at this
    omega
theorem val_replicate (B n : Nat) : val B (List.replicate n 0) = 0 := by
  induction n with
  | zero => rfl
  | succ n ih => simp [List.replicate_succ, val, ih]
theorem set_lt {B : Nat} {D : List Nat} (h : ∀ x ∈ D, x < B) (j v : Nat) (hv : v < B) : ∀ x ∈ D.set j v, x < B := by
  intro x hx
  rcases List.mem_or_eq_of_mem_set hx with h1 | h1
  · exact h x h1
  · subst h1; exact hv
theorem getD_set (D : List Nat) (i j v : Nat) (h : i ≠ j) : (D.set i v).getD j 0 = D.getD j 0 := by
  rw [List.getD_eq_getElem?_getD, List.getElem?_set_ne h, List.getD_eq_getElem?_getD]

/-- 'copy(d, s)' into a whole row of the call's own. -/
theorem wpList_copyRow {P : Program} {ops : Array Oper} {rest : List Oper} {o : Oper} {a : Act} {Q : Exit → Act → World → Prop} {W w : World} {t t' e : TypeId} {z : Value} {bytes : Nat} (hT : SlT P t e z bytes)
    (hgd : o.guard = none) (x y : Operand) (ho : o.op = .call { callee := .builtin .copy, args := #[x, y], argTypes := #[t, t'] }) {g n sn sc k : Nat} {sa : Option Addr} {xs ys : List Value}
    (hx : a.eval x = .slice (some ⟨g, 0, none⟩) n n) (hy : a.eval y = .slice sa sn sc) (hown : w.ownsRow W.heap.size e 1 (.slice (some ⟨g, 0, none⟩) n n) n xs) (he : Ext W w) (hs : Sl w sa sn sc ys)
    (h1 : ∀ v ∈ ys, v.oneCell' = true) (hk : k = Nat.min sn n)
    (h : ∀ w', w'.ownsRow W.heap.size e 1 (.slice (some ⟨g, 0, none⟩) n n) n (ys.take k ++ xs.drop k) → Ext W w' → wpList P ops Q rest (a.put o.dst (.int .i64 k)) w') :
    wpList P ops Q (o :: rest) a w := by
  obtain ⟨ht, i, hi, hz, hsz, hby, hzs⟩ := hT
  obtain ⟨hxl, hx2⟩ := hown
  rcases hx2 with ⟨hbad, _⟩ | ⟨g', cap, cur, hv, hg, hh, hn, hm, hcs, hxs⟩
  · cases hbad
  simp only [Value.slice.injEq, Option.some.injEq, Addr.mk.injEq, and_true, true_and] at hv
  obtain ⟨rfl, rfl⟩ := hv
  have hcur : cur.toList = xs := by rw [← hxs, List.take_of_length_le (by rw [Array.length_toList]; omega)]
  have hcl : xs.length = n := by omega
  have hkn : k ≤ n := by rw [hk]; exact Nat.min_le_right _ _
  have hks : k ≤ sn := by rw [hk]; exact Nat.min_le_left _ _
  have hyl := hs.1
  refine wpList_copy_splice hgd x y t t' ho e ht (by rw [hi]; simp [hsz]) _ _ _ _ _ _ hx hy g 0 xs e (by rw [hh, ← hcur]) (ys.take k) (by rw [List.length_take, ← hk]; omega) ?_ (by rw [List.length_take]; omega)
    (fun v hv => h1 v (List.mem_of_mem_take hv)) W.heap.size W he hg ?_
  · intro hpos
    rw [List.length_take] at hpos
    obtain ⟨b, off, hsa, hc⟩ := hs.2.2.2 (by omega)
    refine ⟨rfl, ⟨b, off, none⟩, hsa, fun j v hj => ?_⟩
    rw [List.getElem?_take] at hj
    split at hj
    · have := hc j v hj
      by_cases h0 : j = 0
      · subst h0; simpa [Addr.add] using this
      · simpa [Addr.add, h0] using this
    · cases hj
  · intro w' hh' he'
    have hlen : (ys.take k).length = k := by rw [List.length_take]; omega
    have e1 : goInt (ys.take k).length = .int .i64 (k : Int) := by rw [hlen]; rfl
    rw [e1]
    refine h w' ?_ he'
    have hsp : splice xs 0 (ys.take k) = ys.take k ++ xs.drop k := by simp [splice, hlen]
    have h2 := hh'.out
    rw [hsp] at h2
    refine ⟨by rw [List.length_append, hlen, List.length_drop]; omega, .inr ⟨g, n, _, rfl, hg, h2, Nat.le_refl _, hm, by simp [hlen]; omega, ?_⟩⟩
    rw [List.take_of_length_le (by simp [hlen]; omega)]

theorem ints_one (k : IntKind) (l : List Nat) : ∀ v ∈ ints k l, v.oneCell' = true := by
  intro v hv
  simp only [ints, List.mem_map] at hv
  obtain ⟨x, _, rfl⟩ := hv
  rfl

end Go.Proofs.Ytcipcpbjkcpgdaa
