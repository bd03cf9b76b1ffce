/- Joined: PT G1 G2 G3 G4 G9 GP G10 G11 G12 G15 G16. -/
import Derived.Test.YtlhaepcnhkaclaaM1
import Derived.Test.YtlhaepcnhkaclaaProg
import Derived.Test.YtlhaepcnhkaclaaMQ
import Derived.Deep.DeepCutAuto
import Derived.IntWalk
namespace Go.Proofs.Ytlhaepcnhkaclaa
set_option linter.unusedVariables false
open Go Go.RowKit

theorem cell_lt {w : World} {b off : Nat} {v : Value} (h : w.cell? ⟨b, off, none⟩ = some v) : b < w.heap.size := World.block_lt_of_cell? w ⟨b, off, none⟩ h
theorem low_cell {n0 : Nat} {w u : World} {b off : Nat} {v : Value} (he : Below n0 w u) (h : w.cell? ⟨b, off, none⟩ = some v) (hl : b < n0) : u.cell? ⟨b, off, none⟩ = some v :=
  (Below.cell (p := ⟨b, off, none⟩) he hl).trans h

/-- A slice of elements of K cells each reads, cell by cell, as xs. -/
def SlK (K : Nat) (w : World) (a : Option Addr) (n cap : Nat) (xs : List Value) : Prop :=
  xs.length = n * K ∧ n ≤ cap ∧ cap ≤ maxLen ∧ (0 < n → ∃ b off, a = some ⟨b, off, none⟩ ∧ ∀ i u, xs[i]? = some u → w.cell? ⟨b, off + i, none⟩ = some u)
theorem SlK.ext {K : Nat} {w u : World} {a : Option Addr} {n cap : Nat} {xs : List Value} (h : SlK K w a n cap xs) (he : Ext w u) : SlK K u a n cap xs :=
  ⟨h.1, h.2.1, h.2.2.1, fun hn => let ⟨b, off, ha, hc⟩ := h.2.2.2 hn; ⟨b, off, ha, fun i u hu => he.cell' (hc i u hu)⟩⟩
theorem SlK.nil (K : Nat) (w : World) : SlK K w none 0 0 [] := ⟨by simp, Nat.le_refl _, Nat.zero_le _, fun h => absurd h (by omega)⟩
theorem SlK.of_owns {K : Nat} {w : World} {base : Nat} {t : TypeId} {v : Value} {n : Nat} {xs : List Value} (h : w.ownsRow base t K v n xs) :
    ∃ a cap, v = .slice a n cap ∧ SlK K w a n cap xs := by
  obtain ⟨h1, h2⟩ := h
  rcases h2 with ⟨rfl, rfl⟩ | ⟨g, cap, cur, rfl, hg, hh, hn, hm, hs, hx⟩
  · exact ⟨none, 0, rfl, h1, Nat.le_refl _, Nat.zero_le _, fun h => absurd h (by omega)⟩
  · refine ⟨_, cap, rfl, h1, hn, hm, fun _ => ⟨g, 0, rfl, fun i u hu => ?_⟩⟩
    have hi : i < n * K := by
      have := (List.getElem?_eq_some_iff.1 hu).1
      omega
    have := World.ownsRow.cellAt (w := w) (base := base) (e := t) (size := K) ⟨h1, .inr ⟨g, cap, cur, rfl, hg, hh, hn, hm, hs, hx⟩⟩ i hi
    rw [Nat.zero_add, this, hu]
theorem SlK.of_owns' {K : Nat} {w : World} {base : Nat} {t : TypeId} {a : Option Addr} {n cap : Nat} {xs : List Value} (h : w.ownsRow base t K (.slice a n cap) n xs) : SlK K w a n cap xs := by
  obtain ⟨a', cap', he, hs⟩ := SlK.of_owns h
  cases he; exact hs

/-- t is the type of slices of e, whose values have K cells; z is e's zero value, of so many bytes. -/
def SlTK (P : Program) (t e : TypeId) (K : Nat) (z : Value) (bytes : Nat) : Prop :=
  P.underlying t = some (.slice e) ∧ 0 < K ∧ ∃ i, P.info? e = some i ∧ i.zero = some z ∧ i.size = K ∧ i.bytes = bytes ∧ z.cells.size = K

/-- One element more: it lies in a block of its own that was made just before. -/
theorem wpList_appK {P : Program} {ops : Array Oper} {rest : List Oper} {o : Oper} {a : Act} {Q : Exit → Act → World → Prop} {W w : World} {t e e' : TypeId} {K : Nat} {z : Value} {bytes : Nat} (hT : SlTK P t e K z bytes)
    (hgd : o.guard = none) (s x : Operand) (ho : o.op = .call { callee := .builtin .append, args := #[s, x], argTypes := #[t, t] })
    {v : Value} {n : Nat} {xs : List Value} (hown : w.ownsRow W.heap.size e K v n xs) (he : Ext W w) (cs : Array Value) (hcs : cs.size = K) (h1 : ∀ u ∈ cs.toList, u.oneCell' = true) {c : Nat} (hs : a.eval s = v)
    (hx : a.eval x = .slice (some ⟨w.heap.size, 0, none⟩) 1 c) (hb : n + 1 ≤ 17592186044416) (hb' : (n + 1) * bytes ≤ 140737488355328)
    (h : ∀ v' w', w'.ownsRow W.heap.size e K v' (n + 1) (xs ++ cs.toList) → Ext W w' → wpList P ops Q rest (a.put o.dst v') w') :
    wpList P ops Q (o :: rest) a (w.alloc (.cells cs e')) := by
  obtain ⟨ht, hK, i, hi, hz, hsz, hby, hzs⟩ := hT
  refine wpList_plain hgd fun _ hk => wp_append_own (w.alloc (.cells cs e')) s x t ho W.heap.size e i z K bytes ht hi hz hsz hby hzs hK v n xs hs (hown.alloc _) ⟨w.heap.size, 0, none⟩ 1 c cs.toList hx (by simp [hcs]) ?_ h1 (by unfold maxLen; omega) hb' (he.alloc _).size ?_
  · intro j u hj
    have hb := Bl.new (e := e') (cs := cs) (rfl : w.heap.size = w.heap.size) j
    have e1 : (⟨w.heap.size, 0, none⟩ : Addr).add j = ⟨w.heap.size, j, none⟩ := by unfold Addr.add; split <;> simp_all
    rw [e1, hb, ← hj]
    simp
  · intro v' w' g1 g2 _
    exact hk _ _ (h v' w' g1 (Below.grown (he.alloc _) g2 (he.alloc _).size (fun k hk => (hown.lt k hk).1)))

/-- 'make([]T, 0, n)'. -/
theorem wpList_make0K {P : Program} {ops : Array Oper} {rest : List Oper} {o : Oper} {a : Act} {Q : Exit → Act → World → Prop} {W w : World} {t e : TypeId} {K : Nat} {z : Value} {bytes : Nat} (hT : SlTK P t e K z bytes)
    (hgd : o.guard = none) (x y : Operand) (ho : o.op = .makeSlice t x y) {kl kc : IntKind} {n : Nat} (hx : a.eval x = .int kl 0) (hy : a.eval y = .int kc (n : Int)) (he : Ext W w) (hn : n ≤ 17592186044416) (hb' : bytes * n ≤ 140737488355328)
    (h : ∀ w', w'.ownsRow W.heap.size e K (.slice (some ⟨w.heap.size, 0, none⟩) 0 n) 0 [] → Ext W w' → wpList P ops Q rest (a.put o.dst (.slice (some ⟨w.heap.size, 0, none⟩) 0 n)) w') :
    wpList P ops Q (o :: rest) a w := by
  obtain ⟨ht, hK, i, hi, hz, hsz, hby, hzs⟩ := hT
  refine wpList_plain hgd fun K' hK' => ?_
  obtain ⟨w', hr, hown, hgr⟩ := run_make_own (P := P) w W.heap.size t e i z K ht hi hz hsz kl kc n (by
    rw [hby]; exact Nat.le_trans hb' (by decide)) (by unfold maxLen; omega) he.size
  unfold Oper.wp execOp
  simp only [ho, hx, hy, Sem.run_bind, Sem.run_pure, hr, Result.andThen_ok]
  exact hK' _ _ (h _ hown (Below.grown he hgr he.size (fun k hk => by cases hk)))

/-- Points, cell by cell. -/
def pts (l : List (Int × Int)) : List Value := l.flatMap fun p => [.int .i64 p.1, .int .i64 p.2]
theorem pts_append (l m : List (Int × Int)) : pts (l ++ m) = pts l ++ pts m := by simp [pts]
theorem pts_len (l : List (Int × Int)) : (pts l).length = l.length * 2 := by
  induction l with
  | nil => rfl
  | cons p r ih => simp only [pts, List.flatMap_cons, List.length_append, List.length_cons, List.length_nil] at *; omega
theorem pts_get (l : List (Int × Int)) (i : Nat) (h : i < l.length) : (pts l)[i * 2]? = some (.int .i64 l[i].1) ∧ (pts l)[i * 2 + 1]? = some (.int .i64 l[i].2) := by
  induction l generalizing i with
  | nil => simp at h
  | cons p r ih =>
    cases i with
    | zero => exact ⟨rfl, rfl⟩
    | succ i =>
      have := ih i (by simpa using h)
      have e1 : (i + 1) * 2 = i * 2 + 1 + 1 := by omega
      rw [e1]
      simpa [pts] using this
/-- A row of points. -/
def SlP (w : World) (a : Option Addr) (n cap : Nat) (l : List (Int × Int)) : Prop := SlK 2 w a n cap (pts l)
theorem SlP.ext {w u : World} {a : Option Addr} {n cap : Nat} {l : List (Int × Int)} (h : SlP w a n cap l) (he : Ext w u) : SlP u a n cap l := SlK.ext h he
theorem SlP.len {w : World} {a : Option Addr} {n cap : Nat} {l : List (Int × Int)} (h : SlP w a n cap l) : l.length = n := by
  have h1 := h.1
  rw [pts_len] at h1
  omega
theorem SlP.at {w : World} {a : Option Addr} {n cap : Nat} {l : List (Int × Int)} (h : SlP w a n cap l) (h0 : 0 < n) : ∃ b off, a = some ⟨b, off, none⟩ ∧ ∀ (i : Nat) (hi : i < l.length), w.cell? ⟨b, off + i * 2, none⟩ = some (.int .i64 l[i].1) ∧ w.cell? ⟨b, off + i * 2 + 1, none⟩ = some (.int .i64 l[i].2) := by
  obtain ⟨b, off, ha, hc⟩ := h.2.2.2 h0
  exact ⟨b, off, ha, fun i hi => ⟨hc _ _ (pts_get l i hi).1, hc _ _ (pts_get l i hi).2⟩⟩
theorem pts_one (p : Int × Int) : pts [p] = [.int .i64 p.1, .int .i64 p.2] := rfl
/-- The call hands back a row of points. -/
def RetP (w : World) (l : List (Int × Int)) (e : Ending) (w' : World) : Prop := ∃ a n cap, e = .returned (.slice a n cap) ∧ SlP w' a n cap l ∧ Ext w w'
theorem T_pt : SlTK Try.prog 22 36 2 (.agg #[.int .i64 0, .int .i64 0]) 16 :=
  let ⟨i, h1, h2, h3, h4⟩ := info_parts (P := Try.prog) (e := 36) (z := .agg #[.int .i64 0, .int .i64 0]) (size := 2) (bytes := 16) (by kernel_rfl); ⟨Try.underlying22, by omega, i, h1, h2, h3, h4, rfl⟩
theorem ends_pt (x y : Int) : ∀ u ∈ (#[Value.int .i64 x, Value.int .i64 y] : Array Value).toList, u.oneCell' = true := by
  intro u hu
  simp at hu
  rcases hu with rfl | rfl <;> rfl
end Go.Proofs.Ytlhaepcnhkaclaa

namespace Go.Proofs.Ytlhaepcnhkaclaa
set_option linter.unusedVariables false
open Go Go.RowKit

/-- An int that fits the grid. -/
def fit1 (n : Int) : Bool := decide (-8388607 ≤ n ∧ n ≤ 8388607)
def fitP (x y : Int) : Bool := fit1 x && fit1 y
theorem fit1_iff {n : Int} : fit1 n = true ↔ -8388607 ≤ n ∧ n ≤ 8388607 := decide_eq_true_iff
theorem fitP_iff {x y : Int} : fitP x y = true ↔ (-8388607 ≤ x ∧ x ≤ 8388607) ∧ (-8388607 ≤ y ∧ y ≤ 8388607) := by
  unfold fitP; rw [Bool.and_eq_true, fit1_iff, fit1_iff]

theorem a_within (n : Int) (w : World) : Calls Try.prog 63 #[.int .i64 n, .int .i64 8388607] w fun e w' => e = .returned (.bool (fit1 n)) ∧ w = w' := by
  by_cases h1 : -8388607 ≤ n
  · by_cases h2 : n ≤ 8388607
    · have hr : fit1 n = true := fit1_iff.2 ⟨h1, h2⟩
      rw [hr]; clear hr
      go_enter Try.func63, Try.ntmps63
      go_wp2
      go_ret
      exact ⟨rfl, rfl⟩
    · have hr : fit1 n = false := by rw [Bool.eq_false_iff]; intro h; rw [fit1_iff] at h; omega
      rw [hr]; clear hr
      have h3 : decide (n ≤ 8388607) = false := decide_eq_false h2
      go_enter Try.func63, Try.ntmps63
      go_wp2
      go_ret
      exact ⟨rfl, rfl⟩
  · have hr : fit1 n = false := by rw [Bool.eq_false_iff]; intro h; rw [fit1_iff] at h; omega
    rw [hr]; clear hr
    have h3 : decide (-8388607 ≤ n) = false := decide_eq_false h1
    go_enter Try.func63, Try.ntmps63
    go_wp2
    go_ret
    exact ⟨rfl, rfl⟩
theorem a_Fits (x y : Int) (w : World) : Calls Try.prog 39 #[.agg #[.int .i64 x, .int .i64 y]] w fun e w' => e = .returned (.bool (fitP x y)) ∧ Ext w w' := by
  have hx := hidP (a_within x); have hy := hidP (a_within y)
  cases hfx : fit1 x
  · have hr : fitP x y = false := by unfold fitP; rw [hfx]; rfl
    rw [hr]
    rw [hfx] at hx
    clear hr hfx
    go_enter Try.func39, Try.ntmps39
    go_wp2_with fail
    refine (hx.out _).mono ?_
    rintro e w' ⟨rfl, rfl⟩
    go_wp2_with fail
    go_ret
    exact ⟨rfl, (Ext.refl _).alloc _⟩
  · have hr : fitP x y = fit1 y := by unfold fitP; rw [hfx]; rfl
    rw [hr]
    rw [hfx] at hx
    clear hr hfx
    generalize fit1 y = fy at *
    go_enter Try.func39, Try.ntmps39
    go_wp2_with fail
    refine (hx.out _).mono ?_
    rintro e w' ⟨rfl, rfl⟩
    go_wp2_with fail
    refine (hy.out _).mono ?_
    rintro e w' ⟨rfl, rfl⟩
    go_wp2_with fail
    go_ret
    exact ⟨rfl, (Ext.refl _).alloc _⟩
theorem d_Fits (x y : Int) (w : World) : Calls Try.prog 47 #[.agg #[.int .i64 x, .int .i64 y]] w fun e w' => e = .returned (.bool (fitP x y)) ∧ Ext w w' := by
  have key : ∀ r : Bool, fitP x y = r → (r = false ∨ ((-8388607 ≤ x ∧ x ≤ 8388607) ∧ (-8388607 ≤ y ∧ y ≤ 8388607))) := fun r h => by
    cases r
    · exact .inl rfl
    · exact .inr (fitP_iff.1 h)
  have hno : ¬ ((-8388607 ≤ x ∧ x ≤ 8388607) ∧ (-8388607 ≤ y ∧ y ≤ 8388607)) → fitP x y = false := fun h => by rw [Bool.eq_false_iff]; intro h2; exact h (fitP_iff.1 h2)
  have hyes := @fitP_iff x y
  generalize fitP x y = f at *
  have HY := hidP hyes; have HN := hidP hno
  clear key hno hyes
  by_cases h1 : -8388607 ≤ x
  · by_cases h2 : x ≤ 8388607
    · by_cases h3 : -8388607 ≤ y
      · by_cases h4 : y ≤ 8388607
        · have HR := hidP (HY.out.2 ⟨⟨h1, h2⟩, h3, h4⟩)
          go_enter Try.func47, Try.ntmps47
          go_wp2
          go_ret
          exact ⟨congrArg (fun x => Ending.returned (Value.bool x)) HR.out.symm, (Ext.refl _).alloc _⟩
        · have HR := hidP (HN.out (fun h => h4 h.2.2))
          have h5 : decide (y ≤ 8388607) = false := decide_eq_false h4
          go_enter Try.func47, Try.ntmps47
          go_wp2
          go_ret
          exact ⟨congrArg (fun x => Ending.returned (Value.bool x)) HR.out.symm, (Ext.refl _).alloc _⟩
      · have HR := hidP (HN.out (fun h => h3 h.2.1))
        have h5 : decide (-8388607 ≤ y) = false := decide_eq_false h3
        go_enter Try.func47, Try.ntmps47
        go_wp2
        go_ret
        exact ⟨congrArg (fun x => Ending.returned (Value.bool x)) HR.out.symm, (Ext.refl _).alloc _⟩
    · have HR := hidP (HN.out (fun h => h2 h.1.2))
      have h5 : decide (x ≤ 8388607) = false := decide_eq_false h2
      go_enter Try.func47, Try.ntmps47
      go_wp2
      go_ret
      exact ⟨congrArg (fun x => Ending.returned (Value.bool x)) HR.out.symm, (Ext.refl _).alloc _⟩
  · have HR := hidP (HN.out (fun h => h1 h.1.1))
    have h5 : decide (-8388607 ≤ x) = false := decide_eq_false h1
    go_enter Try.func47, Try.ntmps47
    go_wp2
    go_ret
    exact ⟨congrArg (fun x => Ending.returned (Value.bool x)) HR.out.symm, (Ext.refl _).alloc _⟩

/-- A quotient, to the nearest. -/
def nearI (n d : Int) : Int := if -1125899906842624 ≤ n ∧ n ≤ 1125899906842624 ∧ 1 ≤ d ∧ d ≤ 4294967296 then (2 * n + d) / (2 * d) else 0
theorem near_div (v y : Int) (h : 0 < y) : (v.tmod y < 0 → v.tdiv y - 1 = v / y) ∧ (0 ≤ v.tmod y → v.tdiv y = v / y) ∧ -y < v.tmod y ∧ v.tmod y < y := by
  have h1 := Int.tmod_add_mul_tdiv v y
  have h2 : v.tmod y < y := Int.tmod_lt_of_pos v h
  have h3 : -y < v.tmod y := Int.lt_tmod_of_pos v h
  generalize v.tmod y = r at *
  generalize v.tdiv y = q at *
  refine ⟨fun hr => ?_, fun hr => ?_, h3, h2⟩
  · refine ((Int.ediv_emod_unique h).2 ⟨?_, by omega, by omega⟩ : v / y = q - 1 ∧ v % y = r + y).1.symm
    rw [Int.mul_sub]; omega
  · exact ((Int.ediv_emod_unique h).2 ⟨by omega, hr, h2⟩ : v / y = q ∧ v % y = r).1.symm
end Go.Proofs.Ytlhaepcnhkaclaa

namespace Go.Proofs.Ytlhaepcnhkaclaa
set_option linter.unusedVariables false
open Go Go.RowKit

set_option maxRecDepth 100000 in
set_option maxHeartbeats 2000000 in
theorem g_Near (n d : Int) (w : World) (i1 : -9223372036854775808 ≤ n) (i2 : n ≤ 9223372036854775807) (i3 : -9223372036854775808 ≤ d) (i4 : d ≤ 9223372036854775807) :
    Calls Try.prog 84 #[.int .i64 n, .int .i64 d] w fun e w' => e = .returned (.int .i64 (nearI n d)) ∧ w = w' := by
  by_cases h1 : -1125899906842624 ≤ n
  · by_cases h2 : n ≤ 1125899906842624
    · by_cases h3 : 1 ≤ d
      · by_cases h4 : d ≤ 4294967296
        · have HR : Hid (nearI n d = (2 * n + d) / (2 * d)) := hidP (if_pos ⟨h1, h2, h3, h4⟩)
          generalize nearI n d = rr at *
          have hnd := near_div (2 * n + d) (2 * d) (by omega)
          have hb1 : -9007199254740992 ≤ (2 * n + d).tdiv (2 * d) ∧ (2 * n + d).tdiv (2 * d) ≤ 9007199254740992 := by
            have a1 := hnd.1; have a2 := hnd.2.1
            have a3 : (2 * n + d) / (2 * d) ≤ (2 * n + d).natAbs := by
              have := Int.natAbs_ediv_le_natAbs (2 * n + d) (2 * d); omega
            have a4 : -((2 * n + d).natAbs : Int) ≤ (2 * n + d) / (2 * d) := by
              have := Int.natAbs_ediv_le_natAbs (2 * n + d) (2 * d); omega
            rcases Int.lt_or_le ((2 * n + d).tmod (2 * d)) 0 with h | h
            · have := a1 h; omega
            · have := a2 h; omega
          have hb2 : -8589934592 ≤ (2 * n + d).tmod (2 * d) ∧ (2 * n + d).tmod (2 * d) ≤ 8589934592 := by have := hnd.2.2; omega
          have hd0 : ((2 * d == 0) : Bool) = false := by simp; omega
          have HND := hidP hnd
          have hb3 := hb1.1; have hb4 := hb1.2; have hb5 := hb2.1; have hb6 := hb2.2
          have hv : 2 * n + d = 2 * n + d := rfl
          clear hnd hb1 hb2 hv
          by_cases hr : (2 * n + d).tmod (2 * d) < 0
          · have HRR : Hid (rr = (2 * n + d).tdiv (2 * d) - 1) := hidP (by rw [HR.out]; exact (HND.out.1 hr).symm)
            have hrd : decide ((2 * n + d).tmod (2 * d) < 0) = true := decide_eq_true hr
            go_enter Try.func84, Try.ntmps84
            go_wp2
            go_ret
            exact ⟨congrArg (fun x => Ending.returned (Value.int .i64 x)) HRR.out.symm, rfl⟩
          · have HRR : Hid (rr = (2 * n + d).tdiv (2 * d)) := hidP (by rw [HR.out]; exact (HND.out.2.1 (by omega)).symm)
            have hrd : decide ((2 * n + d).tmod (2 * d) < 0) = false := decide_eq_false hr
            go_enter Try.func84, Try.ntmps84
            go_wp2
            go_ret
            exact ⟨congrArg (fun x => Ending.returned (Value.int .i64 x)) HRR.out.symm, rfl⟩
        · have h5 : decide (4294967296 < d) = true := decide_eq_true (by omega)
          have HR : Hid (nearI n d = 0) := hidP (if_neg (by omega))
          generalize nearI n d = rr at *
          go_enter Try.func84, Try.ntmps84
          go_wp2
          go_ret
          exact ⟨congrArg (fun x => Ending.returned (Value.int .i64 x)) HR.out.symm, rfl⟩
      · have h5 : decide (d < 1) = true := decide_eq_true (by omega)
        have HR : Hid (nearI n d = 0) := hidP (if_neg (by omega))
        generalize nearI n d = rr at *
        go_enter Try.func84, Try.ntmps84
        go_wp2
        go_ret
        exact ⟨congrArg (fun x => Ending.returned (Value.int .i64 x)) HR.out.symm, rfl⟩
    · have h5 : decide (1125899906842624 < n) = true := decide_eq_true (by omega)
      have HR : Hid (nearI n d = 0) := hidP (if_neg (by omega))
      generalize nearI n d = rr at *
      go_enter Try.func84, Try.ntmps84
      go_wp2
      go_ret
      exact ⟨congrArg (fun x => Ending.returned (Value.int .i64 x)) HR.out.symm, rfl⟩
  · have h5 : decide (n < -1125899906842624) = true := decide_eq_true (by omega)
    have HR : Hid (nearI n d = 0) := hidP (if_neg (by omega))
    generalize nearI n d = rr at *
    go_enter Try.func84, Try.ntmps84
    go_wp2
    go_ret
    exact ⟨congrArg (fun x => Ending.returned (Value.int .i64 x)) HR.out.symm, rfl⟩

theorem near_rat {n d : Int} (h : 1 ≤ d) : ((n : Rat) / (d : Rat) + mkRat 1 2).floor = (2 * n + d) / (2 * d) := by
  have e1 : (n : Rat) / (d : Rat) = mkRat n d.natAbs := by
    rw [← Rat.divInt_eq_div, mz_div (by omega)]
    have : mz n d = n := by unfold mz; rw [if_neg (by omega)]
    rw [this]
  have hn : d.natAbs ≠ 0 := by omega
  rw [e1, Rat.mkRat_add_mkRat _ _ hn (by omega), floor_mk (Nat.mul_ne_zero hn (by omega))]
  have e2 : ((d.natAbs : Nat) : Int) = d := by omega
  rw [Int.natCast_mul, e2]
  have e3 : n * ((2 : Nat) : Int) + 1 * d = 2 * n + d := by omega
  have e4 : d * ((2 : Nat) : Int) = 2 * d := by omega
  rw [e3, e4]
theorem rat_ne {d : Int} (h : 1 ≤ d) : (d : Rat) ≠ 0 := by
  intro h0
  rw [Rat.intCast_eq_zero_iff] at h0
  omega
theorem near_range {n d : Int} (h1 : -1125899906842624 ≤ n) (h2 : n ≤ 1125899906842624) (h3 : 1 ≤ d) (h4 : d ≤ 4294967296) : -9007199254740992 ≤ (2 * n + d) / (2 * d) ∧ (2 * n + d) / (2 * d) ≤ 9007199254740992 := by
  have := Int.natAbs_ediv_le_natAbs (2 * n + d) (2 * d)
  omega
theorem ql_half : ql (mkRat 1 2) ≤ 1 := by
  refine ql_mk ?_ ?_ (by omega)
  · exact dl_small (by decide)
  · exact dl_small (by decide)

set_option maxRecDepth 100000 in
set_option maxHeartbeats 4000000 in
theorem dq_Near {b : Bool} {a d : Option Addr} {n c m k N : Nat} {q : Rat} {w : World} (h : Fq w b a n c d m k q N) (hN : N ≤ 68719476736) (hN1 : 1 ≤ N) (hr : -9223372036854775808 ≤ (q + mkRat 1 2).floor ∧ (q + mkRat 1 2).floor ≤ 9223372036854775807) :
    Calls Try.prog 85 #[.agg #[.bool b, .slice a n c, .slice d m k]] w fun e w' => e = .returned (.int .i64 (q + mkRat 1 2).floor) ∧ Ext w w' := by
  have q1 := h.ql hN1
  have q3 := ql_half
  have x1 : ql (q + mkRat 1 2) ≤ 137438953472 := by have := ql_add q1 q3; omega
  have L1 := hidP q3; have L2 := hidP x1
  have f2 := ql_floor x1
  have A10 := hidP (fun (u : World) => gq_Half u)
  have A11 := hidP (fun (u : World) (t1 : Fq u b a n c d m k q N) (b2 : Bool) (a2 d2 : Option Addr) (n2 c2 m2 k2 : Nat) (t2 : Fq u b2 a2 n2 c2 d2 m2 k2 (mkRat 1 2) 1) => gq_Add t1 t2 (by omega) (by omega))
  have A12 := hidP (fun (u : World) (b2 : Bool) (a2 d2 : Option Addr) (n2 c2 m2 k2 : Nat) (t2 : Fq u b2 a2 n2 c2 d2 m2 k2 (q + mkRat 1 2) 137438953472) => gq_Floor t2 (by omega))
  have HF := hidP f2
  have HI : Hid (intR (q + mkRat 1 2).floor = .tuple #[.int .i64 (q + mkRat 1 2).floor, .bool true]) := hidP (if_pos hr)
  generalize (q + mkRat 1 2).floor = ff at *
  generalize q + mkRat 1 2 = r1 at *
  generalize mkRat 1 2 = hf at *
  have H := hidP h
  clear h q1 q3 x1 f2 hr hN hN1
  go_enter Try.func85, Try.ntmps85
  go_wp2_with fail
  refine wp_region_plan (R := Ext) (.q 0 (.l 1 (.l 2 (.l 3 (.l 4 (.q 5 (.q 6 (.q 7 (.q 8 (.q 9 .done)))))))))) (by kernel_rfl) (by kernel_rfl) (by kernel_rfl) (by kernel_rfl) Ext.refl (fun _ _ _ => Ext.trans) ?_
  refine absE (fun x1 hx1 => ?_)
  have hx : Ext w x1 := by rw [hx1]; exact ((Ext.refl _).alloc _).drew
  have bp : Bl x1 (w.heap.size) #[.bool b, .slice a n c, .slice d m k] := by rw [hx1]; exact (Bl.new (by simp)).drew
  have HE := hx
  clear hx
  clear hx1
  repeat (refine wpE_q (v := ?_) rfl rfl (fun u hu => ?_) ?_; rotate_left 1; (focus (have kp := Bl.ext hu bp (Nat.succ_pos _); go_simp; (try rfl))); simp only [Act.put, List.setIfInBounds_toArray, List.set_cons_zero, List.set_cons_succ])
  refine wpE_l rfl rfl (fun K hK => ?_)
  go_simp
  refine (A10.out _).mono ?_
  rintro e u1 ⟨a1, n1, c1, d1, m1, k1, rfl, hs1, ht1, hx⟩
  refine hK.out _ _ hx ?_
  clear hK K
  try simp only [Act.put, List.setIfInBounds_toArray, List.set_cons_zero, List.set_cons_succ]
  replace bp := Bl.ext hx bp (Nat.succ_pos _)
  replace HE := HE.trans hx
  clear hx
  replace hs1 : Nc u1 a1 n1 c1 (hf.num).natAbs := hs1
  replace ht1 : Nc u1 d1 m1 k1 (hf.den) := ht1
  refine wpE_l rfl rfl (fun K hK => ?_)
  go_simp
  refine (A11.out _ (H.out.ext HE) _ _ _ _ _ _ _ (fq_of hs1 ht1 L1.out (by omega))).mono ?_
  rintro e u2 ⟨a2, n2, c2, d2, m2, k2, rfl, hs2, ht2, hx⟩
  refine hK.out _ _ hx ?_
  clear hK K
  try simp only [Act.put, List.setIfInBounds_toArray, List.set_cons_zero, List.set_cons_succ]
  replace bp := Bl.ext hx bp (Nat.succ_pos _)
  replace hs1 := hs1.ext hx
  replace ht1 := ht1.ext hx
  replace HE := HE.trans hx
  clear hx
  replace hs2 : Nc u2 a2 n2 c2 (r1.num).natAbs := hs2
  replace ht2 : Nc u2 d2 m2 k2 (r1.den) := ht2
  refine wpE_l rfl rfl (fun K hK => ?_)
  go_simp
  refine (A12.out _ _ _ _ _ _ _ _ (fq_of hs2 ht2 L2.out (by omega))).mono ?_
  rintro e u3 ⟨a3, n3, c3, rfl, hs3, hx⟩
  refine hK.out _ _ hx ?_
  clear hK K
  try simp only [Act.put, List.setIfInBounds_toArray, List.set_cons_zero, List.set_cons_succ]
  replace bp := Bl.ext hx bp (Nat.succ_pos _)
  replace hs1 := hs1.ext hx
  replace ht1 := ht1.ext hx
  replace hs2 := hs2.ext hx
  replace ht2 := ht2.ext hx
  replace HE := HE.trans hx
  clear hx
  replace hs3 : Nc u3 a3 n3 c3 (ff).natAbs := hs3
  refine wpE_l rfl rfl (fun K hK => ?_)
  go_simp
  refine (r02_Int_any _ a3 n3 c3 ff _ (hs3.wh (by have := HF.out; omega)) (by have := hs3.len; have := HF.out; omega)).mono ?_
  rw [HI.out]
  rintro e u4 ⟨rfl, hx⟩
  refine hK.out _ _ hx ?_
  clear hK K
  try simp only [Act.put, List.setIfInBounds_toArray, List.set_cons_zero, List.set_cons_succ]
  replace bp := Bl.ext hx bp (Nat.succ_pos _)
  replace hs1 := hs1.ext hx
  replace ht1 := ht1.ext hx
  replace hs2 := hs2.ext hx
  replace ht2 := ht2.ext hx
  replace hs3 := hs3.ext hx
  replace HE := HE.trans hx
  clear hx
  repeat (refine wpE_q (v := ?_) rfl rfl (fun u hu => ?_) ?_; rotate_left 1; (focus (have kp := Bl.ext hu bp (Nat.succ_pos _); go_simp; (try rfl))); simp only [Act.put, List.setIfInBounds_toArray, List.set_cons_zero, List.set_cons_succ])
  refine wpE_done ?_
  go_wp2_with fail
  go_ret
  exact ⟨rfl, HE⟩

set_option maxRecDepth 100000 in
set_option maxHeartbeats 2000000 in
theorem d_Near (n d : Int) (w : World) (i1 : -9223372036854775808 ≤ n) (i2 : n ≤ 9223372036854775807) (i3 : -9223372036854775808 ≤ d) (i4 : d ≤ 9223372036854775807) :
    Calls Try.prog 60 #[.int .i64 n, .int .i64 d] w fun e w' => e = .returned (.int .i64 (nearI n d)) ∧ Ext w w' := by
  by_cases h1 : -1125899906842624 ≤ n
  · by_cases h2 : n ≤ 1125899906842624
    · by_cases h3 : 1 ≤ d
      · by_cases h4 : d ≤ 4294967296
        · have HR : Hid (nearI n d = (2 * n + d) / (2 * d)) := hidP (if_pos ⟨h1, h2, h3, h4⟩)
          have HNR := near_rat (n := n) h3
          rw [← HR.out] at HNR
          have hrg := near_range h1 h2 h3 h4
          rw [← HR.out] at hrg
          have A0 := hidP (fun u => gq_Int n u i1 i2)
          have A1 := hidP (fun u => gq_Int d u i3 i4)
          have l1 := ql_int i1 i2
          have l2 := ql_int i3 i4
          have L1 := hidP l1; have L2 := hidP l2
          have A2 := hidP (fun (u : World) (b1 b2 : Bool) (a1 d1 a2 d2 : Option Addr) (n1 c1 m1 k1 n2 c2 m2 k2 : Nat) (t1 : Fq u b1 a1 n1 c1 d1 m1 k1 (n : Rat) 2) (t2 : Fq u b2 a2 n2 c2 d2 m2 k2 (d : Rat) 2) => gq_Div t1 t2 (by omega) (by omega) (rat_ne h3))
          have l3 : ql ((n : Rat) / (d : Rat)) ≤ 4 := ql_div l1 l2 (by omega) (by omega)
          have L3 := hidP l3
          have A3b := fun (u : World) (b2 : Bool) (a2 d2 : Option Addr) (n2 c2 m2 k2 : Nat) (t2 : Fq u b2 a2 n2 c2 d2 m2 k2 ((n : Rat) / (d : Rat)) 4) => dq_Near t2 (by omega) (by omega) (by rw [HNR]; omega)
          rw [HNR] at A3b
          have A3 := hidP A3b
          generalize nearI n d = rr at *
          generalize (n : Rat) / (d : Rat) = qq at *
          generalize (n : Rat) = qn at *
          generalize (d : Rat) = qd at *
          clear HNR hrg l1 l2 l3 HR A3b
          go_enter Try.func60, Try.ntmps60
          go_wp2_with fail
          refine (A0.out _).mono ?_
          rintro e u1 ⟨a1, n1, c1, d1, m1, k1, rfl, hs1, ht1, hx⟩
          have HE := hx
          clear hx
          replace hs1 : Nc u1 a1 n1 c1 (qn.num).natAbs := hs1
          replace ht1 : Nc u1 d1 m1 k1 (qn.den) := ht1
          go_wp2_with fail
          refine (A1.out _).mono ?_
          rintro e u2 ⟨a2, n2, c2, d2, m2, k2, rfl, hs2, ht2, hx⟩
          replace hs1 := hs1.ext hx
          replace ht1 := ht1.ext hx
          replace HE := HE.trans hx
          clear hx
          replace hs2 : Nc u2 a2 n2 c2 (qd.num).natAbs := hs2
          replace ht2 : Nc u2 d2 m2 k2 (qd.den) := ht2
          go_wp2_with fail
          refine (A2.out _ _ _ _ _ _ _ _ _ _ _ _ _ _ _ (fq_of hs1 ht1 L1.out (by omega)) (fq_of hs2 ht2 L2.out (by omega))).mono ?_
          rintro e u3 ⟨a3, n3, c3, d3, m3, k3, rfl, hs3, ht3, hx⟩
          replace hs1 := hs1.ext hx
          replace ht1 := ht1.ext hx
          replace hs2 := hs2.ext hx
          replace ht2 := ht2.ext hx
          replace HE := HE.trans hx
          clear hx
          replace hs3 : Nc u3 a3 n3 c3 qq.num.natAbs := hs3
          replace ht3 : Nc u3 d3 m3 k3 qq.den := ht3
          go_upto_region 4 with fail
          refine absW (fun x1 hx1 => ?_)
          have hx : Ext u3 x1 := by rw [hx1]; exact ((Ext.refl _).alloc _)
          have bx : Bl x1 (u3.heap.size) #[.bool (decide (qq.num < 0)), .slice a3 n3 c3, .slice d3 m3 k3] := by rw [hx1]; exact (Bl.new (by simp))
          replace hs1 := hs1.ext hx
          replace ht1 := ht1.ext hx
          replace hs2 := hs2.ext hx
          replace ht2 := ht2.ext hx
          replace hs3 := hs3.ext hx
          replace ht3 := ht3.ext hx
          replace HE := HE.trans hx
          clear hx
          clear hx1
          go_wp2_with fail
          refine (A3.out _ _ _ _ _ _ _ _ (fq_of hs3 ht3 L3.out (by omega))).mono ?_
          rintro e u4 ⟨rfl, hx⟩
          replace bx := Bl.ext hx bx (Nat.succ_pos _)
          replace hs1 := hs1.ext hx
          replace ht1 := ht1.ext hx
          replace hs2 := hs2.ext hx
          replace ht2 := ht2.ext hx
          replace hs3 := hs3.ext hx
          replace ht3 := ht3.ext hx
          replace HE := HE.trans hx
          clear hx
          go_wp2_with fail
          go_ret
          exact ⟨rfl, HE⟩
        · have h5 : decide (4294967296 < d) = true := decide_eq_true (by omega)
          have HR : Hid (nearI n d = 0) := hidP (if_neg (by omega))
          generalize nearI n d = rr at *
          go_enter Try.func60, Try.ntmps60
          go_wp2
          go_ret
          exact ⟨congrArg (fun x => Ending.returned (Value.int .i64 x)) HR.out.symm, Ext.refl _⟩
      · have h5 : decide (d < 1) = true := decide_eq_true (by omega)
        have HR : Hid (nearI n d = 0) := hidP (if_neg (by omega))
        generalize nearI n d = rr at *
        go_enter Try.func60, Try.ntmps60
        go_wp2
        go_ret
        exact ⟨congrArg (fun x => Ending.returned (Value.int .i64 x)) HR.out.symm, Ext.refl _⟩
    · have h5 : decide (1125899906842624 < n) = true := decide_eq_true (by omega)
      have HR : Hid (nearI n d = 0) := hidP (if_neg (by omega))
      generalize nearI n d = rr at *
      go_enter Try.func60, Try.ntmps60
      go_wp2
      go_ret
      exact ⟨congrArg (fun x => Ending.returned (Value.int .i64 x)) HR.out.symm, Ext.refl _⟩
  · have h5 : decide (n < -1125899906842624) = true := decide_eq_true (by omega)
    have HR : Hid (nearI n d = 0) := hidP (if_neg (by omega))
    generalize nearI n d = rr at *
    go_enter Try.func60, Try.ntmps60
    go_wp2
    go_ret
    exact ⟨congrArg (fun x => Ending.returned (Value.int .i64 x)) HR.out.symm, Ext.refl _⟩

end Go.Proofs.Ytlhaepcnhkaclaa

namespace Go.Proofs.Ytlhaepcnhkaclaa
set_option linter.unusedVariables false
open Go Go.RowKit

theorem sq_bd {t : Int} (h1 : -16777214 ≤ t) (h2 : t ≤ 16777214) : 0 ≤ t * t ∧ t * t ≤ 281474909601796 := by
  have h3 : t.natAbs ≤ 16777214 := by omega
  have h4 := Nat.mul_le_mul h3 h3
  have h5 := Int.natAbs_mul_self (a := t)
  omega
theorem isq_bd {n : Nat} (h : n ≤ 562949819203592) : isq n ≤ 33554431 := by
  have h1 := (isq_spec n).1
  rcases Nat.lt_or_ge 33554431 (isq n) with h2 | h2
  · have := Nat.mul_le_mul h2 h2
    omega
  · exact h2
/-- How long a way is. -/
def lenI (x y x' y' : Int) : Nat := if fitP x y && fitP x' y' then isq ((x' - x) * (x' - x) + (y' - y) * (y' - y)).toNat else 0
theorem lenI_yes {x y x' y' : Int} (h : fitP x y = true) (h' : fitP x' y' = true) : lenI x y x' y' = isq ((x' - x) * (x' - x) + (y' - y) * (y' - y)).toNat := by
  unfold lenI; rw [h, h']; rfl
theorem lenI_no {x y x' y' : Int} (h : fitP x y = false ∨ fitP x' y' = false) : lenI x y x' y' = 0 := by
  unfold lenI
  rcases h with h | h
  · rw [h]; rfl
  · rw [h, Bool.and_false]; rfl
theorem lenI_bd (x y x' y' : Int) : lenI x y x' y' ≤ 33554431 := by
  unfold lenI
  split
  · next h =>
    rw [Bool.and_eq_true, fitP_iff, fitP_iff] at h
    have h1 := sq_bd (t := x' - x) (by omega) (by omega)
    have h2 := sq_bd (t := y' - y) (by omega) (by omega)
    exact isq_bd (by omega)
  · omega
theorem lenI_fit {x y x' y' : Int} (h : lenI x y x' y' ≠ 0) : fitP x y = true ∧ fitP x' y' = true := by
  unfold lenI at h
  split at h
  · next h1 => rw [Bool.and_eq_true] at h1; exact h1
  · exact absurd rfl h
theorem sq_neg (x x' : Int) : (x - x') * (x - x') = (x' - x) * (x' - x) := by
  have : x - x' = -(x' - x) := by omega
  rw [this, Int.neg_mul_neg]

set_option maxRecDepth 100000 in
set_option maxHeartbeats 2000000 in
theorem g_delta (x y x' y' : Int) (w : World) (h : fitP x y = true) (h' : fitP x' y' = true) :
    Calls Try.prog 80 #[.agg #[.int .i64 x, .int .i64 y], .agg #[.int .i64 x', .int .i64 y']] w fun e w' => e = .returned (.tuple #[.int .i64 (x' - x), .int .i64 (y' - y)]) ∧ Ext w w' := by
  rw [fitP_iff] at h h'
  obtain ⟨⟨h1, h2⟩, h3, h4⟩ := h
  obtain ⟨⟨h5, h6⟩, h7, h8⟩ := h'
  go_enter Try.func80, Try.ntmps80
  go_wp2_with fail
  go_quiet (fail)
  go_wp2
  go_ret2
  exact ⟨rfl, (((Ext.refl _).alloc _).alloc _).drewN _⟩

set_option maxRecDepth 100000 in
set_option maxHeartbeats 2000000 in
theorem g_Len (x y x' y' : Int) (w : World) :
    Calls Try.prog 53 #[.agg #[.int .i64 x, .int .i64 y], .agg #[.int .i64 x', .int .i64 y']] w fun e w' => e = .returned (.int .i64 (lenI x y x' y' : Nat)) ∧ Ext w w' := by
  have ha := fun u => a_Fits x y u
  have hb := fun u => a_Fits x' y' u
  cases hfx : fitP x y
  · have hr := lenI_no (.inl hfx : fitP x y = false ∨ fitP x' y' = false)
    have HR := hidP hr
    rw [hfx] at ha
    have HA := hidP ha
    clear ha hb hr hfx
    generalize lenI x y x' y' = rr at *
    go_enter Try.func53, Try.ntmps53
    go_wp2_with fail
    refine (HA.out _).mono ?_
    rintro e u1 ⟨rfl, hx1⟩
    go_wp2_with fail
    go_ret
    exact ⟨congrArg (fun x : Nat => Ending.returned (Value.int .i64 (x : Int))) HR.out.symm, (((Ext.refl _).alloc _).alloc _).trans hx1⟩
  · cases hfy : fitP x' y'
    · have hr := lenI_no (.inr hfy : fitP x y = false ∨ fitP x' y' = false)
      have HR := hidP hr
      rw [hfx] at ha
      rw [hfy] at hb
      have HA := hidP ha; have HB := hidP hb
      clear ha hb hr hfx hfy
      generalize lenI x y x' y' = rr at *
      go_enter Try.func53, Try.ntmps53
      go_wp2_with fail
      refine absC (fun x1 hx1 => ?_)
      have hx : Ext w x1 := by rw [hx1]; exact (((Ext.refl _).alloc _).alloc _)
      have bq : Bl x1 (w.heap.size + 1) #[.int .i64 x', .int .i64 y'] := by rw [hx1]; exact (Bl.new (by simp))
      clear hx1
      refine (HA.out _).mono ?_
      rintro e u1 ⟨rfl, he⟩
      replace bq := Bl.ext he bq (Nat.succ_pos _)
      replace hx := hx.trans he
      clear he
      go_wp2_with fail
      refine (HB.out _).mono ?_
      rintro e u2 ⟨rfl, he⟩
      replace hx := hx.trans he
      clear he
      go_wp2_with fail
      go_ret
      exact ⟨congrArg (fun x : Nat => Ending.returned (Value.int .i64 (x : Int))) HR.out.symm, hx⟩
    · have hr := lenI_yes hfx hfy
      have hdl := fun u => g_delta x y x' y' u hfx hfy
      have hf1 := fitP_iff.1 hfx
      have hf2 := fitP_iff.1 hfy
      have s1 := sq_bd (t := x' - x) (by omega) (by omega)
      have s2 := sq_bd (t := y' - y) (by omega) (by omega)
      have t1 : -16777214 ≤ x' - x ∧ x' - x ≤ 16777214 := by omega
      have t2 : -16777214 ≤ y' - y ∧ y' - y ≤ 16777214 := by omega
      rw [hfx] at ha
      rw [hfy] at hb
      generalize x' - x = dx at *
      generalize y' - y = dy at *
      have HR := hidP hr
      have HA := hidP ha; have HB := hidP hb; have HD := hidP hdl
      clear ha hb hr hfx hfy hdl hf1 hf2
      generalize lenI x y x' y' = rr at *
      obtain ⟨s3, s4⟩ := s1
      obtain ⟨s5, s6⟩ := s2
      obtain ⟨t3, t4⟩ := t1
      obtain ⟨t5, t6⟩ := t2
      go_enter Try.func53, Try.ntmps53
      go_wp2_with fail
      refine absC (fun x1 hx1 => ?_)
      have hx : Ext w x1 := by rw [hx1]; exact (((Ext.refl _).alloc _).alloc _)
      have bp : Bl x1 (w.heap.size) #[.int .i64 x, .int .i64 y] := by rw [hx1]; exact ((Bl.new (by simp)).alloc (by simp))
      have bq : Bl x1 (w.heap.size + 1) #[.int .i64 x', .int .i64 y'] := by rw [hx1]; exact (Bl.new (by simp))
      clear hx1
      refine (HA.out _).mono ?_
      rintro e u1 ⟨rfl, he⟩
      replace bp := Bl.ext he bp (Nat.succ_pos _)
      replace bq := Bl.ext he bq (Nat.succ_pos _)
      replace hx := hx.trans he
      clear he
      go_wp2_with fail
      refine (HB.out _).mono ?_
      rintro e u2 ⟨rfl, he⟩
      replace bp := Bl.ext he bp (Nat.succ_pos _)
      replace bq := Bl.ext he bq (Nat.succ_pos _)
      replace hx := hx.trans he
      clear he
      go_wp2_with fail
      refine (HD.out _).mono ?_
      rintro e u3 ⟨rfl, he⟩
      replace hx := hx.trans he
      clear he
      go_wp2_with fail
      refine (p_SqrtInt (dx * dx + dy * dy) _ (by omega) (by omega)).mono ?_
      rw [← HR.out]
      rintro e u4 ⟨rfl, rfl⟩
      go_wp2_with fail
      go_ret
      exact ⟨rfl, hx⟩

set_option maxRecDepth 100000 in
set_option maxHeartbeats 2000000 in
theorem d_Root (m : Nat) (w : World) (h : m ≤ 562949819203592) :
    Calls Try.prog 58 #[.int .i64 (m : Int)] w fun e w' => e = .returned (.int .i64 (isq m : Nat)) ∧ Ext w w' := by
  have hq := isq_bd h
  have hS := fun u (t : Nu u (some ⟨0, 0, none⟩) 0 0 m) => True
  clear hS
  have hdm : dl m ≤ 2 := dl_u64 (by omega)
  have HDM := hidP hdm
  clear hdm
  generalize hs : isq m = s at *
  have HS := hidP hs
  clear hs
  go_enter Try.func58, Try.ntmps58
  go_wp2_with fail
  refine (d_Of m _ (by omega)).mono ?_
  rintro e u1 ⟨a1, n1, c1, rfl, hs1, he1⟩
  go_wp2_with fail
  refine (q_Sqrt (hs1.nu (by have := HDM.out; omega)) (by have := HDM.out; omega)).mono ?_
  rw [HS.out]
  rintro e u2 ⟨a2, n2, c2, rfl, hs2, he2⟩
  have hx := he1.trans he2
  clear he1 he2 hs1
  have hl := hs2.len
  rcases Nat.eq_zero_or_pos s with h0 | h0
  · subst h0
    obtain rfl : n2 = 0 := by rw [hl]; exact dl_zero
    clear hs2 hl
    go_wp2_with fail
    go_loop [3, 5] (fun v i => v = .int .i64 0 ∧ i = .int .i64 (-1)) (fun _ _ => 0)
    case atStart => exact ⟨rfl, rfl⟩
    case round =>
      obtain ⟨rfl, rfl⟩ := hrel
      go_wp2_with fail
      go_ret
      exact ⟨rfl, hx⟩
  · have hds : dig B32 s = [s] := dig_one h0 (by omega)
    obtain rfl : n2 = 1 := by rw [hl]; unfold dl; rw [hds]; rfl
    unfold Nc at hs2
    rw [hds] at hs2
    obtain ⟨bl, off, ha, hc⟩ := hs2.2.2.2 (by omega)
    have hcell : u2.cell? ⟨bl, off, none⟩ = some (.int .u32 (s : Int)) := hc 0 _ rfl
    subst ha
    clear hc hs2 hl hds
    go_wp2_with fail
    go_loop [3, 5] (fun v i => ∃ k : Nat, k ≤ 1 ∧ i = .int .i64 ((k : Int) - 1) ∧ v = .int .i64 ((s : Int) * (1 - (k : Int)))) (fun _ i => (intOf i + 1).toNat)
    case atStart => exact ⟨1, by omega, rfl, by simp⟩
    case round =>
      obtain ⟨k, hk, rfl, rfl⟩ := hrel
      have hk2 : k = 0 ∨ k = 1 := by omega
      rcases hk2 with rfl | rfl
      · have e1 : (s : Int) * (1 - ((0 : Nat) : Int)) = (s : Int) := by simp
        have e2 : ((0 : Nat) : Int) - 1 = -1 := rfl
        rw [e1, e2]
        clear e1 e2
        go_wp2_with fail
        go_ret
        exact ⟨rfl, hx⟩
      · have e1 : (s : Int) * (1 - ((1 : Nat) : Int)) = 0 := by simp
        have e2 : ((1 : Nat) : Int) - 1 = 0 := rfl
        rw [e1, e2]
        clear e1 e2
        go_wp2_with fail
        go_round
        case rel => exact ⟨0, by omega, rfl, by simp⟩
        case measure => simp [intOf]
end Go.Proofs.Ytlhaepcnhkaclaa

namespace Go.Proofs.Ytlhaepcnhkaclaa
set_option linter.unusedVariables false
open Go Go.RowKit

theorem d_RootI (n : Int) (w : World) (h1 : 0 ≤ n) (h2 : n ≤ 562949819203592) : Calls Try.prog 58 #[.int .i64 n] w fun e w' => e = .returned (.int .i64 (isq n.toNat : Nat)) ∧ Ext w w' := by
  obtain ⟨m, rfl⟩ := Int.eq_ofNat_of_zero_le h1
  rw [Int.toNat_natCast]
  exact d_Root m w (by omega)
theorem mul_bd {a b : Int} {A B : Nat} (ha : a.natAbs ≤ A) (hb : b.natAbs ≤ B) : (a * b).natAbs ≤ A * B := by
  rw [Int.natAbs_mul]; exact Nat.mul_le_mul ha hb
theorem near_bd (n d : Int) : -9007199254740992 ≤ nearI n d ∧ nearI n d ≤ 9007199254740992 := by
  unfold nearI
  split
  · next h => exact near_range h.1 h.2.1 h.2.2.1 h.2.2.2
  · omega
theorem near_zero {d : Int} (h : 1 ≤ d) : nearI 0 d = 0 := by
  unfold nearI
  split
  · rw [Int.ediv_eq_zero_of_lt (by omega) (by omega)]
  · rfl
def asX (x y x' y' h : Int) : Int := if lenI x y x' y' = 0 ∨ h < -65536 ∨ 65536 < h then 0 else nearI ((y - y') * h) (lenI x y x' y')
def asY (x y x' y' h : Int) : Int := if lenI x y x' y' = 0 ∨ h < -65536 ∨ 65536 < h then 0 else nearI ((x' - x) * h) (lenI x y x' y')
def ahX (x y x' y' n : Int) : Int := if lenI x y x' y' = 0 ∨ n < 0 ∨ 33554432 < n then x else x + nearI ((x' - x) * n) (lenI x y x' y')
def ahY (x y x' y' n : Int) : Int := if lenI x y x' y' = 0 ∨ n < 0 ∨ 33554432 < n then y else y + nearI ((y' - y) * n) (lenI x y x' y')

set_option maxRecDepth 100000 in
set_option maxHeartbeats 2000000 in
theorem d_Len (x y x' y' : Int) (w : World) :
    Calls Try.prog 34 #[.agg #[.int .i64 x, .int .i64 y], .agg #[.int .i64 x', .int .i64 y']] w fun e w' => e = .returned (.int .i64 (lenI x y x' y' : Nat)) ∧ Ext w w' := by
  have ha := fun u => d_Fits x y u
  have hb := fun u => d_Fits x' y' u
  cases hfx : fitP x y
  · have hr := lenI_no (.inl hfx : fitP x y = false ∨ fitP x' y' = false)
    have HR := hidP hr
    rw [hfx] at ha
    have HA := hidP ha
    clear ha hb hr hfx
    generalize lenI x y x' y' = rr at *
    go_enter Try.func34, Try.ntmps34
    go_wp2_with fail
    refine absC (fun x1 hx1 => ?_)
    have hx : Ext w x1 := by rw [hx1]; exact (((Ext.refl _).alloc _).alloc _)
    have bp : Bl x1 (w.heap.size) #[.int .i64 x, .int .i64 y] := by rw [hx1]; exact ((Bl.new (by simp)).alloc (by simp))
    have bq : Bl x1 (w.heap.size + 1) #[.int .i64 x', .int .i64 y'] := by rw [hx1]; exact (Bl.new (by simp))
    have HE := hx
    clear hx
    clear hx1
    refine (HA.out _).mono ?_
    rintro e u1 ⟨rfl, hx⟩
    replace bp := Bl.ext hx bp (Nat.succ_pos _)
    replace bq := Bl.ext hx bq (Nat.succ_pos _)
    replace HE := HE.trans hx
    clear hx
    go_wp2_with fail
    go_ret
    exact ⟨congrArg (fun x : Nat => Ending.returned (Value.int .i64 (x : Int))) HR.out.symm, HE⟩
  · cases hfy : fitP x' y'
    · have hr := lenI_no (.inr hfy : fitP x y = false ∨ fitP x' y' = false)
      have HR := hidP hr
      rw [hfx] at ha
      rw [hfy] at hb
      have HA := hidP ha; have HB := hidP hb
      clear ha hb hr hfx hfy
      generalize lenI x y x' y' = rr at *
      go_enter Try.func34, Try.ntmps34
      go_wp2_with fail
      refine absC (fun x1 hx1 => ?_)
      have hx : Ext w x1 := by rw [hx1]; exact (((Ext.refl _).alloc _).alloc _)
      have bp : Bl x1 (w.heap.size) #[.int .i64 x, .int .i64 y] := by rw [hx1]; exact ((Bl.new (by simp)).alloc (by simp))
      have bq : Bl x1 (w.heap.size + 1) #[.int .i64 x', .int .i64 y'] := by rw [hx1]; exact (Bl.new (by simp))
      have HE := hx
      clear hx
      clear hx1
      refine (HA.out _).mono ?_
      rintro e u1 ⟨rfl, hx⟩
      replace bp := Bl.ext hx bp (Nat.succ_pos _)
      replace bq := Bl.ext hx bq (Nat.succ_pos _)
      replace HE := HE.trans hx
      clear hx
      go_wp2_with fail
      refine (HB.out _).mono ?_
      rintro e u2 ⟨rfl, hx⟩
      replace bp := Bl.ext hx bp (Nat.succ_pos _)
      replace bq := Bl.ext hx bq (Nat.succ_pos _)
      replace HE := HE.trans hx
      clear hx
      go_wp2_with fail
      go_ret
      exact ⟨congrArg (fun x : Nat => Ending.returned (Value.int .i64 (x : Int))) HR.out.symm, HE⟩
    · have hr := lenI_yes hfx hfy
      rw [← sq_neg x x', ← sq_neg y y'] at hr
      have hf1 := fitP_iff.1 hfx
      have hf2 := fitP_iff.1 hfy
      have s1 := sq_bd (t := x - x') (by omega) (by omega)
      have s2 := sq_bd (t := y - y') (by omega) (by omega)
      rw [hfx] at ha
      rw [hfy] at hb
      have HR := hidP hr
      have HA := hidP ha; have HB := hidP hb
      clear ha hb hr hfx hfy
      generalize lenI x y x' y' = rr at *
      obtain ⟨s3, s4⟩ := s1
      obtain ⟨s5, s6⟩ := s2
      obtain ⟨⟨f1, f2⟩, f3, f4⟩ := hf1
      obtain ⟨⟨f5, f6⟩, f7, f8⟩ := hf2
      go_enter Try.func34, Try.ntmps34
      go_wp2_with fail
      refine absC (fun x1 hx1 => ?_)
      have hx : Ext w x1 := by rw [hx1]; exact (((Ext.refl _).alloc _).alloc _)
      have bp : Bl x1 (w.heap.size) #[.int .i64 x, .int .i64 y] := by rw [hx1]; exact ((Bl.new (by simp)).alloc (by simp))
      have bq : Bl x1 (w.heap.size + 1) #[.int .i64 x', .int .i64 y'] := by rw [hx1]; exact (Bl.new (by simp))
      have HE := hx
      clear hx
      clear hx1
      refine (HA.out _).mono ?_
      rintro e u1 ⟨rfl, hx⟩
      replace bp := Bl.ext hx bp (Nat.succ_pos _)
      replace bq := Bl.ext hx bq (Nat.succ_pos _)
      replace HE := HE.trans hx
      clear hx
      go_wp2_with fail
      refine (HB.out _).mono ?_
      rintro e u2 ⟨rfl, hx⟩
      replace bp := Bl.ext hx bp (Nat.succ_pos _)
      replace bq := Bl.ext hx bq (Nat.succ_pos _)
      replace HE := HE.trans hx
      clear hx
      go_wp2_with fail
      refine (d_RootI ((x - x') * (x - x') + (y - y') * (y - y')) _ (by omega) (by omega)).mono ?_
      rw [← HR.out]
      rintro e u3 ⟨rfl, hx⟩
      replace bp := Bl.ext hx bp (Nat.succ_pos _)
      replace bq := Bl.ext hx bq (Nat.succ_pos _)
      replace HE := HE.trans hx
      clear hx
      go_wp2_with fail
      go_ret
      exact ⟨rfl, HE⟩

theorem g_NearE (n d : Int) (w : World) (i1 : -9223372036854775808 ≤ n) (i2 : n ≤ 9223372036854775807) (i3 : -9223372036854775808 ≤ d) (i4 : d ≤ 9223372036854775807) :
    Calls Try.prog 84 #[.int .i64 n, .int .i64 d] w fun e w' => e = .returned (.int .i64 (nearI n d)) ∧ Ext w w' :=
  (g_Near n d w i1 i2 i3 i4).mono fun _ _ ⟨h1, h2⟩ => ⟨h1, h2 ▸ Ext.refl _⟩

set_option maxRecDepth 100000 in
set_option maxHeartbeats 4000000 in
theorem g_Ahead (x y x' y' n : Int) (w : World) (i1 : -9223372036854775808 ≤ n) (i2 : n ≤ 9223372036854775807) :
    Calls Try.prog 59 #[.agg #[.int .i64 x, .int .i64 y], .agg #[.int .i64 x', .int .i64 y'], .int .i64 n] w fun e w' => e = .returned (.agg #[.int .i64 (ahX x y x' y' n), .int .i64 (ahY x y x' y' n)]) ∧ Ext w w' := by
  have HL := hidP (fun u => g_Len x y x' y' u)
  have hfit := @lenI_fit x y x' y'
  have hlb := lenI_bd x y x' y'
  by_cases h0 : lenI x y x' y' = 0
  · have HX : Hid (ahX x y x' y' n = x) := hidP (if_pos (.inl h0))
    have HY : Hid (ahY x y x' y' n = y) := hidP (if_pos (.inl h0))
    generalize ahX x y x' y' n = vx at *
    generalize ahY x y x' y' n = vy at *
    generalize lenI x y x' y' = ln at *
    subst h0
    clear hfit hlb
    go_enter Try.func59, Try.ntmps59
    go_wp2_with fail
    refine absC (fun x1 hx1 => ?_)
    have hx : Ext w x1 := by rw [hx1]; exact ((((Ext.refl _).alloc _).alloc _).alloc _)
    have bp : Bl x1 (w.heap.size) #[.int .i64 x, .int .i64 y] := by rw [hx1]; exact (((Bl.new (by simp)).alloc (by simp)).alloc (by simp))
    have bq : Bl x1 (w.heap.size + 1) #[.int .i64 x', .int .i64 y'] := by rw [hx1]; exact ((Bl.new (by simp)).alloc (by simp))
    have bs : Bl x1 (w.heap.size + 1 + 1) #[.int .i64 0, .int .i64 0] := by rw [hx1]; exact (Bl.new (by simp))
    have fs : Fz x1 (w.heap.size + 1 + 1) := by rw [hx1]; exact (Fz.new (by simp))
    have HE := hx
    clear hx
    clear hx1
    refine (HL.out _).mono ?_
    rintro e u1 ⟨rfl, hx⟩
    replace bp := Bl.ext hx bp (Nat.succ_pos _)
    replace bq := Bl.ext hx bq (Nat.succ_pos _)
    replace fs := Fz.ext hx fs bs (Nat.succ_pos _)
    replace bs := Bl.ext hx bs (Nat.succ_pos _)
    replace HE := HE.trans hx
    clear hx
    go_wp2_with fail
    refine absB (fun ue hue => ?_)
    have hbs : Bl ue (w.heap.size + 1 + 1) #[.int .i64 (x), .int .i64 (y)] := by rw [hue]; exact ((bs.set (by simp)).set (by simp))
    have heu : Ext w ue := by rw [hue]; exact (HE.store (by show w.heap.size ≤ w.heap.size + 1 + 1; omega) _).store (by show w.heap.size ≤ w.heap.size + 1 + 1; omega) _
    clear hue
    refine bodyPost_cells rfl rfl Try.underlying36 rfl (by kernel_rfl) (bl_two hbs) rfl ?_
    exact ⟨by rw [HX.out, HY.out], heu⟩
  · by_cases h1 : 0 ≤ n
    · by_cases h2 : n ≤ 33554432
      · have HX : Hid (ahX x y x' y' n = x + nearI ((x' - x) * n) (lenI x y x' y')) := hidP (if_neg (by omega))
        have HY : Hid (ahY x y x' y' n = y + nearI ((y' - y) * n) (lenI x y x' y')) := hidP (if_neg (by omega))
        obtain ⟨hfa, hfb⟩ := hfit h0
        have hf1 := fitP_iff.1 hfa
        have hf2 := fitP_iff.1 hfb
        have m1 := mul_bd (a := (x' - x)) (b := n) (A := 16777214) (B := 33554432) (by omega) (by omega)
        have m2 := mul_bd (a := (y' - y)) (b := n) (A := 16777214) (B := 33554432) (by omega) (by omega)
        have b1 : -562949953421312 ≤ (x' - x) * n := by omega
        have b2 : (x' - x) * n ≤ 562949953421312 := by omega
        have b3 : -562949953421312 ≤ (y' - y) * n := by omega
        have b4 : (y' - y) * n ≤ 562949953421312 := by omega
        have nb1 := near_bd ((x' - x) * n) (lenI x y x' y')
        have nb2 := near_bd ((y' - y) * n) (lenI x y x' y')
        have HNX := hidP (rfl : nearI ((x' - x) * n) (lenI x y x' y') = nearI ((x' - x) * n) (lenI x y x' y'))
        have HNY := hidP (rfl : nearI ((y' - y) * n) (lenI x y x' y') = nearI ((y' - y) * n) (lenI x y x' y'))
        generalize hnx : nearI ((x' - x) * n) (lenI x y x' y') = nx at *
        generalize hny : nearI ((y' - y) * n) (lenI x y x' y') = ny at *
        obtain ⟨nb3, nb4⟩ := nb1
        obtain ⟨nb5, nb6⟩ := nb2
        clear HNX HNY
        have HDL := hidP (fun u => g_delta x y x' y' u hfa hfb)
        have t1 : -16777214 ≤ x' - x := by omega
        have t2 : x' - x ≤ 16777214 := by omega
        have t3 : -16777214 ≤ y' - y := by omega
        have t4 : y' - y ≤ 16777214 := by omega
        generalize x' - x = dx at *
        generalize y' - y = dy at *
        generalize ahX x y x' y' n = vx at *
        generalize ahY x y x' y' n = vy at *
        generalize lenI x y x' y' = ln at *
        have hz : ((ln : Int) == 0) = false := by simp; omega
        have HZ := hidP h0
        have l0 : (0 : Int) ≤ (ln : Int) := by omega
        have l1 : (ln : Int) ≤ 33554431 := by omega
        obtain ⟨⟨g1, g2⟩, g3, g4⟩ := hf1
        obtain ⟨⟨g5, g6⟩, g7, g8⟩ := hf2
        have HNX := hidP hnx
        have HNY := hidP hny
        clear hnx hny hfa hfb h0 hfit hlb m1 m2
        go_enter Try.func59, Try.ntmps59
        go_wp2_with fail
        refine absC (fun x1 hx1 => ?_)
        have hx : Ext w x1 := by rw [hx1]; exact ((((Ext.refl _).alloc _).alloc _).alloc _)
        have bp : Bl x1 (w.heap.size) #[.int .i64 x, .int .i64 y] := by rw [hx1]; exact (((Bl.new (by simp)).alloc (by simp)).alloc (by simp))
        have bq : Bl x1 (w.heap.size + 1) #[.int .i64 x', .int .i64 y'] := by rw [hx1]; exact ((Bl.new (by simp)).alloc (by simp))
        have bs : Bl x1 (w.heap.size + 1 + 1) #[.int .i64 0, .int .i64 0] := by rw [hx1]; exact (Bl.new (by simp))
        have fs : Fz x1 (w.heap.size + 1 + 1) := by rw [hx1]; exact (Fz.new (by simp))
        have HE := hx
        clear hx
        clear hx1
        refine (HL.out _).mono ?_
        rintro e u1 ⟨rfl, hx⟩
        replace bp := Bl.ext hx bp (Nat.succ_pos _)
        replace bq := Bl.ext hx bq (Nat.succ_pos _)
        replace fs := Fz.ext hx fs bs (Nat.succ_pos _)
        replace bs := Bl.ext hx bs (Nat.succ_pos _)
        replace HE := HE.trans hx
        clear hx
        go_wp2_with fail
        refine (HDL.out _).mono ?_
        rintro e u2 ⟨rfl, hx⟩
        replace bp := Bl.ext hx bp (Nat.succ_pos _)
        replace bq := Bl.ext hx bq (Nat.succ_pos _)
        replace fs := Fz.ext hx fs bs (Nat.succ_pos _)
        replace bs := Bl.ext hx bs (Nat.succ_pos _)
        replace HE := HE.trans hx
        clear hx
        go_wp2_with fail
        have HW0 := hidP (IntWalk.i64_in (dx * n) (by omega))
        have HW1 := hidP (IntWalk.i64_in (dy * n) (by omega))
        have HW2 := hidP (IntWalk.i64_in (x + nx) (by omega))
        have HW3 := hidP (IntWalk.i64_in (y + ny) (by omega))
        refine wp_region_plan (R := Ext) (.q 0 (.q 1 (.q 2 (.q 3 (.q 4 (.q 5 (.q 8 (.q 9 (.q 10 (.q 11 (.q 12 (.q 13 (.l 6 (.q 7 (.l 14 (.q 15 (.q 16 (.b 17 .done)))))))))))))))))) (by kernel_rfl) (by kernel_rfl) (by kernel_rfl) (by kernel_rfl) Ext.refl (fun _ _ _ => Ext.trans) ?_
        refine absE (fun x2 hx2 => ?_)
        have hx : Ext u2 x2 := by rw [hx2]; exact (Ext.refl _).drew
        replace bp := Bl.ext hx bp (Nat.succ_pos _)
        replace bq := Bl.ext hx bq (Nat.succ_pos _)
        replace fs := Fz.ext hx fs bs (Nat.succ_pos _)
        replace bs := Bl.ext hx bs (Nat.succ_pos _)
        replace HE := HE.trans hx
        clear hx
        clear hx2
        repeat (refine wpE_q (v := ?_) rfl rfl (fun u hu => ?_) ?_; rotate_left 1; (focus (have kp := Bl.ext hu bp (Nat.succ_pos _); have kq := Bl.ext hu bq (Nat.succ_pos _); have ks := Bl.ext hu bs (Nat.succ_pos _); have wq0 := HW0.out; have wq1 := HW1.out; have wq2 := HW2.out; have wq3 := HW3.out; go_simp; (try rfl))); simp only [Act.put, List.setIfInBounds_toArray, List.set_cons_zero, List.set_cons_succ])
        refine wpE_l rfl rfl (fun K hK => ?_)
        go_simp
        refine (g_NearE (dx * n) (ln : Int) _ (by omega) (by omega) (by omega) (by omega)).mono ?_
        rw [HNX.out]
        rintro e u3 ⟨rfl, hx⟩
        refine hK.out _ _ hx ?_
        clear hK K
        try simp only [Act.put, List.setIfInBounds_toArray, List.set_cons_zero, List.set_cons_succ]
        replace bp := Bl.ext hx bp (Nat.succ_pos _)
        replace bq := Bl.ext hx bq (Nat.succ_pos _)
        replace fs := Fz.ext hx fs bs (Nat.succ_pos _)
        replace bs := Bl.ext hx bs (Nat.succ_pos _)
        replace HE := HE.trans hx
        clear hx
        repeat (refine wpE_q (v := ?_) rfl rfl (fun u hu => ?_) ?_; rotate_left 1; (focus (have kp := Bl.ext hu bp (Nat.succ_pos _); have kq := Bl.ext hu bq (Nat.succ_pos _); have ks := Bl.ext hu bs (Nat.succ_pos _); have wq0 := HW0.out; have wq1 := HW1.out; have wq2 := HW2.out; have wq3 := HW3.out; go_simp; (try rfl))); simp only [Act.put, List.setIfInBounds_toArray, List.set_cons_zero, List.set_cons_succ])
        refine wpE_l rfl rfl (fun K hK => ?_)
        go_simp
        refine (g_NearE (dy * n) (ln : Int) _ (by omega) (by omega) (by omega) (by omega)).mono ?_
        rw [HNY.out]
        rintro e u4 ⟨rfl, hx⟩
        refine hK.out _ _ hx ?_
        clear hK K
        try simp only [Act.put, List.setIfInBounds_toArray, List.set_cons_zero, List.set_cons_succ]
        replace bp := Bl.ext hx bp (Nat.succ_pos _)
        replace bq := Bl.ext hx bq (Nat.succ_pos _)
        replace fs := Fz.ext hx fs bs (Nat.succ_pos _)
        replace bs := Bl.ext hx bs (Nat.succ_pos _)
        replace HE := HE.trans hx
        clear hx
        repeat (refine wpE_q (v := ?_) rfl rfl (fun u hu => ?_) ?_; rotate_left 1; (focus (have kp := Bl.ext hu bp (Nat.succ_pos _); have kq := Bl.ext hu bq (Nat.succ_pos _); have ks := Bl.ext hu bs (Nat.succ_pos _); have wq0 := HW0.out; have wq1 := HW1.out; have wq2 := HW2.out; have wq3 := HW3.out; go_simp; (try rfl))); simp only [Act.put, List.setIfInBounds_toArray, List.set_cons_zero, List.set_cons_succ])
        refine wpE_b rfl rfl (fun K hK => ?_)
        go_simp
        refine hK.out _ _ ?_
        clear hK K
        try simp only [Act.put, List.setIfInBounds_toArray, List.set_cons_zero, List.set_cons_succ]
        refine absE (fun x3 hx3 => ?_)
        have hbut : But u4 x3 (w.heap.size + 1 + 1) := by rw [hx3]; exact (But.refl _ _).store.store
        have hbn : Bl x3 (w.heap.size + 1 + 1) #[.int .i64 (x + nx), .int .i64 (y + ny)] := by rw [hx3]; exact (Bl.set (Bl.set bs (by simp)) (by simp))
        replace bp := But.bl hbut bp (Nat.succ_pos _) (by omega)
        replace bq := But.bl hbut bq (Nat.succ_pos _) (by omega)
        replace fs : Fz x3 (w.heap.size + 1 + 1) := by rw [hx3]; exact (Fz.set (Fz.set fs))
        replace HE : Ext w x3 := by rw [hx3]; exact ((HE.store (by show w.heap.size ≤ w.heap.size + 1 + 1; omega) _).store (by show w.heap.size ≤ w.heap.size + 1 + 1; omega) _)
        clear bs hbut hx3
        have bs := hbn
        clear hbn
        refine wpE_done ?_
        go_wp2_with fail
        refine bodyPost_cells rfl rfl Try.underlying36 rfl (by kernel_rfl) (bl_two bs) rfl ?_
        exact ⟨by rw [HX.out, HY.out], HE⟩
      · have HX : Hid (ahX x y x' y' n = x) := hidP (if_pos (.inr (.inr (by omega))))
        have HY : Hid (ahY x y x' y' n = y) := hidP (if_pos (.inr (.inr (by omega))))
        generalize ahX x y x' y' n = vx at *
        generalize ahY x y x' y' n = vy at *
        generalize lenI x y x' y' = ln at *
        have hd : decide (33554432 < n) = true := decide_eq_true (by omega)
        have hz : ((ln : Int) == 0) = false := by simp; omega
        have HZ := hidP h0
        clear h0 hfit hlb
        go_enter Try.func59, Try.ntmps59
        go_wp2_with fail
        refine absC (fun x1 hx1 => ?_)
        have hx : Ext w x1 := by rw [hx1]; exact ((((Ext.refl _).alloc _).alloc _).alloc _)
        have bp : Bl x1 (w.heap.size) #[.int .i64 x, .int .i64 y] := by rw [hx1]; exact (((Bl.new (by simp)).alloc (by simp)).alloc (by simp))
        have bq : Bl x1 (w.heap.size + 1) #[.int .i64 x', .int .i64 y'] := by rw [hx1]; exact ((Bl.new (by simp)).alloc (by simp))
        have bs : Bl x1 (w.heap.size + 1 + 1) #[.int .i64 0, .int .i64 0] := by rw [hx1]; exact (Bl.new (by simp))
        have fs : Fz x1 (w.heap.size + 1 + 1) := by rw [hx1]; exact (Fz.new (by simp))
        have HE := hx
        clear hx
        clear hx1
        refine (HL.out _).mono ?_
        rintro e u1 ⟨rfl, hx⟩
        replace bp := Bl.ext hx bp (Nat.succ_pos _)
        replace bq := Bl.ext hx bq (Nat.succ_pos _)
        replace fs := Fz.ext hx fs bs (Nat.succ_pos _)
        replace bs := Bl.ext hx bs (Nat.succ_pos _)
        replace HE := HE.trans hx
        clear hx
        go_wp2_with fail
        refine absB (fun ue hue => ?_)
        have hbs : Bl ue (w.heap.size + 1 + 1) #[.int .i64 (x), .int .i64 (y)] := by rw [hue]; exact ((bs.set (by simp)).set (by simp))
        have heu : Ext w ue := by rw [hue]; exact (HE.store (by show w.heap.size ≤ w.heap.size + 1 + 1; omega) _).store (by show w.heap.size ≤ w.heap.size + 1 + 1; omega) _
        clear hue
        refine bodyPost_cells rfl rfl Try.underlying36 rfl (by kernel_rfl) (bl_two hbs) rfl ?_
        exact ⟨by rw [HX.out, HY.out], heu⟩
    · have HX : Hid (ahX x y x' y' n = x) := hidP (if_pos (.inr (.inl (by omega))))
      have HY : Hid (ahY x y x' y' n = y) := hidP (if_pos (.inr (.inl (by omega))))
      generalize ahX x y x' y' n = vx at *
      generalize ahY x y x' y' n = vy at *
      generalize lenI x y x' y' = ln at *
      have hd : decide (n < 0) = true := decide_eq_true (by omega)
      have hz : ((ln : Int) == 0) = false := by simp; omega
      have HZ := hidP h0
      clear h0 hfit hlb
      go_enter Try.func59, Try.ntmps59
      go_wp2_with fail
      refine absC (fun x1 hx1 => ?_)
      have hx : Ext w x1 := by rw [hx1]; exact ((((Ext.refl _).alloc _).alloc _).alloc _)
      have bp : Bl x1 (w.heap.size) #[.int .i64 x, .int .i64 y] := by rw [hx1]; exact (((Bl.new (by simp)).alloc (by simp)).alloc (by simp))
      have bq : Bl x1 (w.heap.size + 1) #[.int .i64 x', .int .i64 y'] := by rw [hx1]; exact ((Bl.new (by simp)).alloc (by simp))
      have bs : Bl x1 (w.heap.size + 1 + 1) #[.int .i64 0, .int .i64 0] := by rw [hx1]; exact (Bl.new (by simp))
      have fs : Fz x1 (w.heap.size + 1 + 1) := by rw [hx1]; exact (Fz.new (by simp))
      have HE := hx
      clear hx
      clear hx1
      refine (HL.out _).mono ?_
      rintro e u1 ⟨rfl, hx⟩
      replace bp := Bl.ext hx bp (Nat.succ_pos _)
      replace bq := Bl.ext hx bq (Nat.succ_pos _)
      replace fs := Fz.ext hx fs bs (Nat.succ_pos _)
      replace bs := Bl.ext hx bs (Nat.succ_pos _)
      replace HE := HE.trans hx
      clear hx
      go_wp2_with fail
      refine absB (fun ue hue => ?_)
      have hbs : Bl ue (w.heap.size + 1 + 1) #[.int .i64 (x), .int .i64 (y)] := by rw [hue]; exact ((bs.set (by simp)).set (by simp))
      have heu : Ext w ue := by rw [hue]; exact (HE.store (by show w.heap.size ≤ w.heap.size + 1 + 1; omega) _).store (by show w.heap.size ≤ w.heap.size + 1 + 1; omega) _
      clear hue
      refine bodyPost_cells rfl rfl Try.underlying36 rfl (by kernel_rfl) (bl_two hbs) rfl ?_
      exact ⟨by rw [HX.out, HY.out], heu⟩

set_option maxRecDepth 100000 in
set_option maxHeartbeats 4000000 in
theorem d_Ahead (x y x' y' n : Int) (w : World) (i1 : -9223372036854775808 ≤ n) (i2 : n ≤ 9223372036854775807) :
    Calls Try.prog 37 #[.agg #[.int .i64 x, .int .i64 y], .agg #[.int .i64 x', .int .i64 y'], .int .i64 n] w fun e w' => e = .returned (.agg #[.int .i64 (ahX x y x' y' n), .int .i64 (ahY x y x' y' n)]) ∧ Ext w w' := by
  have HL := hidP (fun u => d_Len x y x' y' u)
  have hfit := @lenI_fit x y x' y'
  have hlb := lenI_bd x y x' y'
  by_cases h0 : lenI x y x' y' = 0
  · have HX : Hid (ahX x y x' y' n = x) := hidP (if_pos (.inl h0))
    have HY : Hid (ahY x y x' y' n = y) := hidP (if_pos (.inl h0))
    generalize ahX x y x' y' n = vx at *
    generalize ahY x y x' y' n = vy at *
    generalize lenI x y x' y' = ln at *
    subst h0
    clear hfit hlb
    go_enter Try.func37, Try.ntmps37
    go_wp2_with fail
    refine absC (fun x1 hx1 => ?_)
    have hx : Ext w x1 := by rw [hx1]; exact ((((Ext.refl _).alloc _).alloc _).alloc _)
    have bp : Bl x1 (w.heap.size) #[.int .i64 x, .int .i64 y] := by rw [hx1]; exact (((Bl.new (by simp)).alloc (by simp)).alloc (by simp))
    have bq : Bl x1 (w.heap.size + 1) #[.int .i64 x', .int .i64 y'] := by rw [hx1]; exact ((Bl.new (by simp)).alloc (by simp))
    have bs : Bl x1 (w.heap.size + 1 + 1) #[.int .i64 0, .int .i64 0] := by rw [hx1]; exact (Bl.new (by simp))
    have fs : Fz x1 (w.heap.size + 1 + 1) := by rw [hx1]; exact (Fz.new (by simp))
    have HE := hx
    clear hx
    clear hx1
    refine (HL.out _).mono ?_
    rintro e u1 ⟨rfl, hx⟩
    replace bp := Bl.ext hx bp (Nat.succ_pos _)
    replace bq := Bl.ext hx bq (Nat.succ_pos _)
    replace fs := Fz.ext hx fs bs (Nat.succ_pos _)
    replace bs := Bl.ext hx bs (Nat.succ_pos _)
    replace HE := HE.trans hx
    clear hx
    go_wp2_with fail
    refine absB (fun ue hue => ?_)
    have hbs : Bl ue (w.heap.size + 1 + 1) #[.int .i64 (x), .int .i64 (y)] := by rw [hue]; exact ((bs.set (by simp)).set (by simp))
    have heu : Ext w ue := by rw [hue]; exact (HE.store (by show w.heap.size ≤ w.heap.size + 1 + 1; omega) _).store (by show w.heap.size ≤ w.heap.size + 1 + 1; omega) _
    clear hue
    refine bodyPost_cells rfl rfl Try.underlying36 rfl (by kernel_rfl) (bl_two hbs) rfl ?_
    exact ⟨by rw [HX.out, HY.out], heu⟩
  · by_cases h1 : 0 ≤ n
    · by_cases h2 : n ≤ 33554432
      · have HX : Hid (ahX x y x' y' n = x + nearI ((x' - x) * n) (lenI x y x' y')) := hidP (if_neg (by omega))
        have HY : Hid (ahY x y x' y' n = y + nearI ((y' - y) * n) (lenI x y x' y')) := hidP (if_neg (by omega))
        obtain ⟨hfa, hfb⟩ := hfit h0
        have hf1 := fitP_iff.1 hfa
        have hf2 := fitP_iff.1 hfb
        have m1 := mul_bd (a := (x' - x)) (b := n) (A := 16777214) (B := 33554432) (by omega) (by omega)
        have m2 := mul_bd (a := (y' - y)) (b := n) (A := 16777214) (B := 33554432) (by omega) (by omega)
        have b1 : -562949953421312 ≤ (x' - x) * n := by omega
        have b2 : (x' - x) * n ≤ 562949953421312 := by omega
        have b3 : -562949953421312 ≤ (y' - y) * n := by omega
        have b4 : (y' - y) * n ≤ 562949953421312 := by omega
        have nb1 := near_bd ((x' - x) * n) (lenI x y x' y')
        have nb2 := near_bd ((y' - y) * n) (lenI x y x' y')
        have HNX := hidP (rfl : nearI ((x' - x) * n) (lenI x y x' y') = nearI ((x' - x) * n) (lenI x y x' y'))
        have HNY := hidP (rfl : nearI ((y' - y) * n) (lenI x y x' y') = nearI ((y' - y) * n) (lenI x y x' y'))
        generalize hnx : nearI ((x' - x) * n) (lenI x y x' y') = nx at *
        generalize hny : nearI ((y' - y) * n) (lenI x y x' y') = ny at *
        obtain ⟨nb3, nb4⟩ := nb1
        obtain ⟨nb5, nb6⟩ := nb2
        clear HNX HNY
        generalize ahX x y x' y' n = vx at *
        generalize ahY x y x' y' n = vy at *
        generalize lenI x y x' y' = ln at *
        have hz : ((ln : Int) == 0) = false := by simp; omega
        have HZ := hidP h0
        have l0 : (0 : Int) ≤ (ln : Int) := by omega
        have l1 : (ln : Int) ≤ 33554431 := by omega
        obtain ⟨⟨g1, g2⟩, g3, g4⟩ := hf1
        obtain ⟨⟨g5, g6⟩, g7, g8⟩ := hf2
        have HNX := hidP hnx
        have HNY := hidP hny
        clear hnx hny hfa hfb h0 hfit hlb m1 m2
        go_enter Try.func37, Try.ntmps37
        go_wp2_with fail
        refine absC (fun x1 hx1 => ?_)
        have hx : Ext w x1 := by rw [hx1]; exact ((((Ext.refl _).alloc _).alloc _).alloc _)
        have bp : Bl x1 (w.heap.size) #[.int .i64 x, .int .i64 y] := by rw [hx1]; exact (((Bl.new (by simp)).alloc (by simp)).alloc (by simp))
        have bq : Bl x1 (w.heap.size + 1) #[.int .i64 x', .int .i64 y'] := by rw [hx1]; exact ((Bl.new (by simp)).alloc (by simp))
        have bs : Bl x1 (w.heap.size + 1 + 1) #[.int .i64 0, .int .i64 0] := by rw [hx1]; exact (Bl.new (by simp))
        have fs : Fz x1 (w.heap.size + 1 + 1) := by rw [hx1]; exact (Fz.new (by simp))
        have HE := hx
        clear hx
        clear hx1
        refine (HL.out _).mono ?_
        rintro e u1 ⟨rfl, hx⟩
        replace bp := Bl.ext hx bp (Nat.succ_pos _)
        replace bq := Bl.ext hx bq (Nat.succ_pos _)
        replace fs := Fz.ext hx fs bs (Nat.succ_pos _)
        replace bs := Bl.ext hx bs (Nat.succ_pos _)
        replace HE := HE.trans hx
        clear hx
        go_wp2_with fail
        have HW0 := hidP (IntWalk.i64_in (x' - x) (by omega))
        have HW1 := hidP (IntWalk.i64_in ((x' - x) * n) (by omega))
        have HW2 := hidP (IntWalk.i64_in (y' - y) (by omega))
        have HW3 := hidP (IntWalk.i64_in ((y' - y) * n) (by omega))
        have HW4 := hidP (IntWalk.i64_in (x + nx) (by omega))
        have HW5 := hidP (IntWalk.i64_in (y + ny) (by omega))
        refine wp_region_plan (R := Ext) (.q 0 (.q 1 (.q 2 (.q 3 (.q 4 (.q 5 (.q 6 (.q 7 (.q 8 (.q 9 (.q 12 (.q 13 (.q 14 (.q 15 (.q 16 (.q 17 (.q 18 (.q 19 (.q 20 (.q 21 (.l 10 (.q 11 (.l 22 (.q 23 (.q 24 (.b 25 .done)))))))))))))))))))))))))) (by kernel_rfl) (by kernel_rfl) (by kernel_rfl) (by kernel_rfl) Ext.refl (fun _ _ _ => Ext.trans) ?_
        refine absE (fun x2 hx2 => ?_)
        have hx : Ext u1 x2 := by rw [hx2]; exact (Ext.refl _).drew
        replace bp := Bl.ext hx bp (Nat.succ_pos _)
        replace bq := Bl.ext hx bq (Nat.succ_pos _)
        replace fs := Fz.ext hx fs bs (Nat.succ_pos _)
        replace bs := Bl.ext hx bs (Nat.succ_pos _)
        replace HE := HE.trans hx
        clear hx
        clear hx2
        repeat (refine wpE_q (v := ?_) rfl rfl (fun u hu => ?_) ?_; rotate_left 1; (focus (have kp := Bl.ext hu bp (Nat.succ_pos _); have kq := Bl.ext hu bq (Nat.succ_pos _); have ks := Bl.ext hu bs (Nat.succ_pos _); have wq0 := HW0.out; have wq1 := HW1.out; have wq2 := HW2.out; have wq3 := HW3.out; have wq4 := HW4.out; have wq5 := HW5.out; go_simp; (try rfl))); simp only [Act.put, List.setIfInBounds_toArray, List.set_cons_zero, List.set_cons_succ])
        refine wpE_l rfl rfl (fun K hK => ?_)
        go_simp
        refine (d_Near ((x' - x) * n) (ln : Int) _ (by omega) (by omega) (by omega) (by omega)).mono ?_
        rw [HNX.out]
        rintro e u3 ⟨rfl, hx⟩
        refine hK.out _ _ hx ?_
        clear hK K
        try simp only [Act.put, List.setIfInBounds_toArray, List.set_cons_zero, List.set_cons_succ]
        replace bp := Bl.ext hx bp (Nat.succ_pos _)
        replace bq := Bl.ext hx bq (Nat.succ_pos _)
        replace fs := Fz.ext hx fs bs (Nat.succ_pos _)
        replace bs := Bl.ext hx bs (Nat.succ_pos _)
        replace HE := HE.trans hx
        clear hx
        repeat (refine wpE_q (v := ?_) rfl rfl (fun u hu => ?_) ?_; rotate_left 1; (focus (have kp := Bl.ext hu bp (Nat.succ_pos _); have kq := Bl.ext hu bq (Nat.succ_pos _); have ks := Bl.ext hu bs (Nat.succ_pos _); have wq0 := HW0.out; have wq1 := HW1.out; have wq2 := HW2.out; have wq3 := HW3.out; have wq4 := HW4.out; have wq5 := HW5.out; go_simp; (try rfl))); simp only [Act.put, List.setIfInBounds_toArray, List.set_cons_zero, List.set_cons_succ])
        refine wpE_l rfl rfl (fun K hK => ?_)
        go_simp
        refine (d_Near ((y' - y) * n) (ln : Int) _ (by omega) (by omega) (by omega) (by omega)).mono ?_
        rw [HNY.out]
        rintro e u4 ⟨rfl, hx⟩
        refine hK.out _ _ hx ?_
        clear hK K
        try simp only [Act.put, List.setIfInBounds_toArray, List.set_cons_zero, List.set_cons_succ]
        replace bp := Bl.ext hx bp (Nat.succ_pos _)
        replace bq := Bl.ext hx bq (Nat.succ_pos _)
        replace fs := Fz.ext hx fs bs (Nat.succ_pos _)
        replace bs := Bl.ext hx bs (Nat.succ_pos _)
        replace HE := HE.trans hx
        clear hx
        repeat (refine wpE_q (v := ?_) rfl rfl (fun u hu => ?_) ?_; rotate_left 1; (focus (have kp := Bl.ext hu bp (Nat.succ_pos _); have kq := Bl.ext hu bq (Nat.succ_pos _); have ks := Bl.ext hu bs (Nat.succ_pos _); have wq0 := HW0.out; have wq1 := HW1.out; have wq2 := HW2.out; have wq3 := HW3.out; have wq4 := HW4.out; have wq5 := HW5.out; go_simp; (try rfl))); simp only [Act.put, List.setIfInBounds_toArray, List.set_cons_zero, List.set_cons_succ])
        refine wpE_b rfl rfl (fun K hK => ?_)
        go_simp
        refine hK.out _ _ ?_
        clear hK K
        try simp only [Act.put, List.setIfInBounds_toArray, List.set_cons_zero, List.set_cons_succ]
        refine absE (fun x3 hx3 => ?_)
        have hbut : But u4 x3 (w.heap.size + 1 + 1) := by rw [hx3]; exact (But.refl _ _).store.store
        have hbn : Bl x3 (w.heap.size + 1 + 1) #[.int .i64 (x + nx), .int .i64 (y + ny)] := by rw [hx3]; exact (Bl.set (Bl.set bs (by simp)) (by simp))
        replace bp := But.bl hbut bp (Nat.succ_pos _) (by omega)
        replace bq := But.bl hbut bq (Nat.succ_pos _) (by omega)
        replace fs : Fz x3 (w.heap.size + 1 + 1) := by rw [hx3]; exact (Fz.set (Fz.set fs))
        replace HE : Ext w x3 := by rw [hx3]; exact ((HE.store (by show w.heap.size ≤ w.heap.size + 1 + 1; omega) _).store (by show w.heap.size ≤ w.heap.size + 1 + 1; omega) _)
        clear bs hbut hx3
        have bs := hbn
        clear hbn
        refine wpE_done ?_
        go_wp2_with fail
        refine bodyPost_cells rfl rfl Try.underlying36 rfl (by kernel_rfl) (bl_two bs) rfl ?_
        exact ⟨by rw [HX.out, HY.out], HE⟩
      · have HX : Hid (ahX x y x' y' n = x) := hidP (if_pos (.inr (.inr (by omega))))
        have HY : Hid (ahY x y x' y' n = y) := hidP (if_pos (.inr (.inr (by omega))))
        generalize ahX x y x' y' n = vx at *
        generalize ahY x y x' y' n = vy at *
        generalize lenI x y x' y' = ln at *
        have hd : decide (33554432 < n) = true := decide_eq_true (by omega)
        have hz : ((ln : Int) == 0) = false := by simp; omega
        have HZ := hidP h0
        clear h0 hfit hlb
        go_enter Try.func37, Try.ntmps37
        go_wp2_with fail
        refine absC (fun x1 hx1 => ?_)
        have hx : Ext w x1 := by rw [hx1]; exact ((((Ext.refl _).alloc _).alloc _).alloc _)
        have bp : Bl x1 (w.heap.size) #[.int .i64 x, .int .i64 y] := by rw [hx1]; exact (((Bl.new (by simp)).alloc (by simp)).alloc (by simp))
        have bq : Bl x1 (w.heap.size + 1) #[.int .i64 x', .int .i64 y'] := by rw [hx1]; exact ((Bl.new (by simp)).alloc (by simp))
        have bs : Bl x1 (w.heap.size + 1 + 1) #[.int .i64 0, .int .i64 0] := by rw [hx1]; exact (Bl.new (by simp))
        have fs : Fz x1 (w.heap.size + 1 + 1) := by rw [hx1]; exact (Fz.new (by simp))
        have HE := hx
        clear hx
        clear hx1
        refine (HL.out _).mono ?_
        rintro e u1 ⟨rfl, hx⟩
        replace bp := Bl.ext hx bp (Nat.succ_pos _)
        replace bq := Bl.ext hx bq (Nat.succ_pos _)
        replace fs := Fz.ext hx fs bs (Nat.succ_pos _)
        replace bs := Bl.ext hx bs (Nat.succ_pos _)
        replace HE := HE.trans hx
        clear hx
        go_wp2_with fail
        refine absB (fun ue hue => ?_)
        have hbs : Bl ue (w.heap.size + 1 + 1) #[.int .i64 (x), .int .i64 (y)] := by rw [hue]; exact ((bs.set (by simp)).set (by simp))
        have heu : Ext w ue := by rw [hue]; exact (HE.store (by show w.heap.size ≤ w.heap.size + 1 + 1; omega) _).store (by show w.heap.size ≤ w.heap.size + 1 + 1; omega) _
        clear hue
        refine bodyPost_cells rfl rfl Try.underlying36 rfl (by kernel_rfl) (bl_two hbs) rfl ?_
        exact ⟨by rw [HX.out, HY.out], heu⟩
    · have HX : Hid (ahX x y x' y' n = x) := hidP (if_pos (.inr (.inl (by omega))))
      have HY : Hid (ahY x y x' y' n = y) := hidP (if_pos (.inr (.inl (by omega))))
      generalize ahX x y x' y' n = vx at *
      generalize ahY x y x' y' n = vy at *
      generalize lenI x y x' y' = ln at *
      have hd : decide (n < 0) = true := decide_eq_true (by omega)
      have hz : ((ln : Int) == 0) = false := by simp; omega
      have HZ := hidP h0
      clear h0 hfit hlb
      go_enter Try.func37, Try.ntmps37
      go_wp2_with fail
      refine absC (fun x1 hx1 => ?_)
      have hx : Ext w x1 := by rw [hx1]; exact ((((Ext.refl _).alloc _).alloc _).alloc _)
      have bp : Bl x1 (w.heap.size) #[.int .i64 x, .int .i64 y] := by rw [hx1]; exact (((Bl.new (by simp)).alloc (by simp)).alloc (by simp))
      have bq : Bl x1 (w.heap.size + 1) #[.int .i64 x', .int .i64 y'] := by rw [hx1]; exact ((Bl.new (by simp)).alloc (by simp))
      have bs : Bl x1 (w.heap.size + 1 + 1) #[.int .i64 0, .int .i64 0] := by rw [hx1]; exact (Bl.new (by simp))
      have fs : Fz x1 (w.heap.size + 1 + 1) := by rw [hx1]; exact (Fz.new (by simp))
      have HE := hx
      clear hx
      clear hx1
      refine (HL.out _).mono ?_
      rintro e u1 ⟨rfl, hx⟩
      replace bp := Bl.ext hx bp (Nat.succ_pos _)
      replace bq := Bl.ext hx bq (Nat.succ_pos _)
      replace fs := Fz.ext hx fs bs (Nat.succ_pos _)
      replace bs := Bl.ext hx bs (Nat.succ_pos _)
      replace HE := HE.trans hx
      clear hx
      go_wp2_with fail
      refine absB (fun ue hue => ?_)
      have hbs : Bl ue (w.heap.size + 1 + 1) #[.int .i64 (x), .int .i64 (y)] := by rw [hue]; exact ((bs.set (by simp)).set (by simp))
      have heu : Ext w ue := by rw [hue]; exact (HE.store (by show w.heap.size ≤ w.heap.size + 1 + 1; omega) _).store (by show w.heap.size ≤ w.heap.size + 1 + 1; omega) _
      clear hue
      refine bodyPost_cells rfl rfl Try.underlying36 rfl (by kernel_rfl) (bl_two hbs) rfl ?_
      exact ⟨by rw [HX.out, HY.out], heu⟩

end Go.Proofs.Ytlhaepcnhkaclaa

namespace Go.Proofs.Ytlhaepcnhkaclaa
set_option linter.unusedVariables false
open Go Go.RowKit

/-- Do all points fit? -/
def fitL (l : List (Int × Int)) : Bool := l.all fun p => fitP p.1 p.2
theorem fitL_take {l : List (Int × Int)} {j : Nat} (h : j < l.length) (h1 : fitL (l.take j) = true) (h2 : fitP l[j].1 l[j].2 = true) : fitL (l.take (j + 1)) = true := by
  unfold fitL at *
  rw [List.take_succ_eq_append_getElem h, List.all_append, h1]
  simp [h2]
theorem fitL_no {l : List (Int × Int)} {j : Nat} (h : j < l.length) (h2 : fitP l[j].1 l[j].2 = false) : fitL l = false := by
  unfold fitL
  rw [List.all_eq_false]
  exact ⟨l[j], List.getElem_mem h, by rw [h2]; exact Bool.false_ne_true⟩
theorem fitL_at {l : List (Int × Int)} (h : fitL l = true) (j : Nat) (hj : j < l.length) : fitP l[j].1 l[j].2 = true := by
  unfold fitL at h
  exact List.all_eq_true.1 h l[j] (List.getElem_mem hj)
theorem maxLen_le : maxLen ≤ 9223372036854775807 := by unfold maxLen; omega

set_option maxRecDepth 100000 in
set_option maxHeartbeats 4000000 in
theorem g_fits (a : Option Addr) (n cap : Nat) (l : List (Int × Int)) (w : World) (h : SlP w a n cap l) :
    Calls Try.prog 54 #[.slice a n cap] w fun e w' => e = .returned (.bool (fitL l)) ∧ Ext w w' := by
  have H := hidP h
  have HLN := hidP h.len
  have hcap : n ≤ maxLen := Nat.le_trans h.2.1 h.2.2.1
  unfold maxLen at hcap
  have HF := hidP (fun (j : Nat) (h : j < l.length) => fitL_no h); have HT := hidP (fun (j : Nat) (h : j < l.length) => fitL_take h)
  have HE0 : Hid (fitL (l.take 0) = true) := hidP (by simp [fitL])
  clear h
  go_enter Try.func54, Try.ntmps54
  go_wp2_with fail
  go_loopw [7] (fun iv wr => ∃ j : Nat, j ≤ n ∧ iv = .int .i64 (j : Int) ∧ Hid (fitL (l.take j) = true) ∧ Ext w wr) (fun iv _ => n - (intOf iv).toNat)
  case atStart => exact ⟨0, by omega, rfl, HE0, Ext.refl _⟩
  case round =>
    clear HE0
    obtain ⟨j, hj, rfl, HJ, HE⟩ := hrel
    by_cases hlt : j < n
    · obtain ⟨g, off, rfl, hc⟩ := (H.out.ext HE).at (by omega)
      obtain ⟨h1, h2⟩ := hc j (by rw [HLN.out]; exact hlt)
      have HF1 := hidP (HF.out j (by rw [HLN.out]; exact hlt))
      have HT1 := hidP (HT.out j (by rw [HLN.out]; exact hlt) HJ.out)
      have hfit := fun u => a_Fits (l[j]'(by rw [HLN.out]; exact hlt)).1 (l[j]'(by rw [HLN.out]; exact hlt)).2 u
      clear hc
      generalize (l[j]'(by rw [HLN.out]; exact hlt)).1 = px at *
      generalize (l[j]'(by rw [HLN.out]; exact hlt)).2 = py at *
      cases hfp : fitP px py
      · have HR := hidP (HF1.out hfp)
        rw [hfp] at hfit
        have HFIT := hidP hfit
        clear hfit hfp HF1 HT1
        go_wp2_with fail
        refine (HFIT.out _).mono ?_
        rintro e u1 ⟨rfl, hx⟩
        have HX := HE.trans (((Ext.refl _).alloc _).trans hx)
        clear hx
        go_wp2_with fail
        go_ret
        exact ⟨congrArg (fun x => Ending.returned (Value.bool x)) HR.out.symm, HX⟩
      · have HR := hidP (HT1.out hfp)
        rw [hfp] at hfit
        have HFIT := hidP hfit
        clear hfit hfp HF1 HT1
        go_wp2_with fail
        refine (HFIT.out _).mono ?_
        rintro e u1 ⟨rfl, hx⟩
        have HX := HE.trans (((Ext.refl _).alloc _).trans hx)
        clear hx
        go_wp2_with fail
        go_roundw
        case rel => exact ⟨j + 1, by omega, by go_num, HR, HX⟩
        case measure => simp only [intOf]; omega
    · obtain rfl : j = n := by omega
      have HR : Hid (fitL l = true) := hidP (by have := HJ.out; rwa [List.take_of_length_le (by rw [HLN.out]; omega)] at this)
      clear HJ HF HT
      go_wp2_with fail
      go_ret
      exact ⟨congrArg (fun x => Ending.returned (Value.bool x)) HR.out.symm, HE⟩

set_option maxRecDepth 100000 in
set_option maxHeartbeats 4000000 in
theorem d_fits (a : Option Addr) (n cap : Nat) (l : List (Int × Int)) (w : World) (h : SlP w a n cap l) :
    Calls Try.prog 30 #[.slice a n cap] w fun e w' => e = .returned (.bool (fitL l)) ∧ Ext w w' := by
  have H := hidP h
  have HLN := hidP h.len
  have hcap : n ≤ maxLen := Nat.le_trans h.2.1 h.2.2.1
  unfold maxLen at hcap
  have HF := hidP (fun (j : Nat) (h : j < l.length) => fitL_no h); have HT := hidP (fun (j : Nat) (h : j < l.length) => fitL_take h)
  have HE0 : Hid (fitL (l.take 0) = true) := hidP (by simp [fitL])
  clear h
  go_enter Try.func30, Try.ntmps30
  go_wp2_with fail
  go_loopw [3] (fun iv wr => ∃ j : Nat, j ≤ n ∧ iv = .int .i64 (j : Int) ∧ Hid (fitL (l.take j) = true) ∧ Ext w wr) (fun iv _ => n - (intOf iv).toNat)
  case atStart => exact ⟨0, by omega, rfl, HE0, Ext.refl _⟩
  case round =>
    clear HE0
    obtain ⟨j, hj, rfl, HJ, HE⟩ := hrel
    by_cases hlt : j < n
    · obtain ⟨g, off, rfl, hc⟩ := (H.out.ext HE).at (by omega)
      obtain ⟨h1, h2⟩ := hc j (by rw [HLN.out]; exact hlt)
      have HF1 := hidP (HF.out j (by rw [HLN.out]; exact hlt))
      have HT1 := hidP (HT.out j (by rw [HLN.out]; exact hlt) HJ.out)
      have hfit := fun u => d_Fits (l[j]'(by rw [HLN.out]; exact hlt)).1 (l[j]'(by rw [HLN.out]; exact hlt)).2 u
      clear hc
      generalize (l[j]'(by rw [HLN.out]; exact hlt)).1 = px at *
      generalize (l[j]'(by rw [HLN.out]; exact hlt)).2 = py at *
      cases hfp : fitP px py
      · have HR := hidP (HF1.out hfp)
        rw [hfp] at hfit
        have HFIT := hidP hfit
        clear hfit hfp HF1 HT1
        go_wp2_with fail
        refine (HFIT.out _).mono ?_
        rintro e u1 ⟨rfl, hx⟩
        have HX := HE.trans (hx)
        clear hx
        go_wp2_with fail
        go_ret
        exact ⟨congrArg (fun x => Ending.returned (Value.bool x)) HR.out.symm, HX⟩
      · have HR := hidP (HT1.out hfp)
        rw [hfp] at hfit
        have HFIT := hidP hfit
        clear hfit hfp HF1 HT1
        go_wp2_with fail
        refine (HFIT.out _).mono ?_
        rintro e u1 ⟨rfl, hx⟩
        have HX := HE.trans (hx)
        clear hx
        go_wp2_with fail
        go_roundw
        case rel => exact ⟨j + 1, by omega, by go_num, HR, HX⟩
        case measure => simp only [intOf]; omega
    · obtain rfl : j = n := by omega
      have HR : Hid (fitL l = true) := hidP (by have := HJ.out; rwa [List.take_of_length_le (by rw [HLN.out]; omega)] at this)
      clear HJ HF HT
      go_wp2_with fail
      go_ret
      exact ⟨congrArg (fun x => Ending.returned (Value.bool x)) HR.out.symm, HE⟩

end Go.Proofs.Ytlhaepcnhkaclaa

namespace Go.Proofs.Ytlhaepcnhkaclaa
set_option linter.unusedVariables false
open Go Go.RowKit

abbrev Pt := Int × Int
/-- Twice the area of a triangle at the middle. -/
def cr (p q : Pt) : Int := p.1 * q.2 - q.1 * p.2
theorem cr_anti (p q : Pt) : cr p q = -cr q p := by unfold cr; omega
theorem cr_self (p : Pt) : cr p p = 0 := by unfold cr; omega
def tri (o p q : Pt) : Int := (p.1 - o.1) * (q.2 - o.2) - (p.2 - o.2) * (q.1 - o.1)
theorem tri_cr (o p q : Pt) : tri o p q = cr p q + cr o p + cr q o := by unfold tri cr; grind
/-- Along a row. -/
def path (f : Pt → Pt → Int) : List Pt → Int
  | [] => 0
  | [_] => 0
  | a :: b :: r => f a b + path f (b :: r)
theorem path_snoc (f : Pt → Pt → Int) : ∀ (l : List Pt) (h : l ≠ []) (x : Pt), path f (l ++ [x]) = path f l + f (l.getLast h) x
  | [a], _, x => by simp [path]
  | a :: b :: r, _, x => by
    have := path_snoc f (b :: r) (by simp) x
    simp only [List.cons_append] at this ⊢
    simp only [path, this]
    rw [List.getLast_cons (by simp : b :: r ≠ [])]
    omega
theorem path_take (f : Pt → Pt → Int) (l : List Pt) (k : Nat) (h : k + 1 < l.length) : path f (l.take (k + 2)) = path f (l.take (k + 1)) + f l[k] l[k + 1] := by
  rw [List.take_succ_eq_append_getElem (by omega), path_snoc f (l.take (k + 1)) (by intro h0; have := congrArg List.length h0; rw [List.length_take, List.length_nil] at this; omega)]
  congr 2
  rw [List.getLast_eq_getElem]
  simp
  congr 1
  omega
theorem path_rev (l : List Pt) : path cr l.reverse = -path cr l := by
  induction l with
  | nil => rfl
  | cons a r ih =>
    cases r with
    | nil => rfl
    | cons b s =>
      rw [List.reverse_cons, path_snoc cr _ (by simp), ih]
      have e : (b :: s).reverse.getLast (by simp) = b := by simp
      rw [e]
      simp only [path]
      rw [cr_anti b a]
      omega
/-- Twice the area around points. -/
def twL (l : List Pt) : Int := if h : l = [] then 0 else path cr l + cr (l.getLast h) (l.head h)
theorem twL_rev (l : List Pt) : twL l.reverse = -twL l := by
  unfold twL
  by_cases h : l = []
  · subst h; rfl
  · have h' : l.reverse ≠ [] := by simpa using h
    rw [dif_neg h, dif_neg h', path_rev, List.getLast_reverse, List.head_reverse, cr_anti (l.head h)]
    omega
theorem fitL_rev (l : List Pt) : fitL l.reverse = fitL l := by unfold fitL; rw [List.all_reverse]
/-- What the program and the document say of an area. -/
def twI (l : List Pt) : Int := if fitL l = true then twL l else 0
theorem twI_rev (l : List Pt) : twI l.reverse = -twI l := by
  unfold twI
  rw [fitL_rev]
  split
  · exact twL_rev l
  · rfl
/-- Turned round, where the area is below 0. -/
def roundL (l : List Pt) : List Pt := if twI l < 0 then l.reverse else l
theorem round_pos (l : List Pt) : 0 ≤ twI (roundL l) := by
  unfold roundL
  split
  · rw [twI_rev]; omega
  · omega
theorem cr_bd {p q : Pt} (hp : fitP p.1 p.2 = true) (hq : fitP q.1 q.2 = true) : -140737454800898 ≤ cr p q ∧ cr p q ≤ 140737454800898 := by
  rw [fitP_iff] at hp hq
  have h1 := mul_bd (a := p.1) (b := q.2) (A := 8388607) (B := 8388607) (by omega) (by omega)
  have h2 := mul_bd (a := q.1) (b := p.2) (A := 8388607) (B := 8388607) (by omega) (by omega)
  unfold cr
  omega
theorem tri_bd {o p q : Pt} (ho : fitP o.1 o.2 = true) (hp : fitP p.1 p.2 = true) (hq : fitP q.1 q.2 = true) : -562949819203592 ≤ tri o p q ∧ tri o p q ≤ 562949819203592 := by
  rw [fitP_iff] at ho hp hq
  have h1 := mul_bd (a := p.1 - o.1) (b := q.2 - o.2) (A := 16777214) (B := 16777214) (by omega) (by omega)
  have h2 := mul_bd (a := p.2 - o.2) (b := q.1 - o.1) (A := 16777214) (B := 16777214) (by omega) (by omega)
  unfold tri
  omega
/-- The program's sum so far. -/
def twS (l : List Pt) : Nat → Int
  | 0 => 0
  | k + 1 => twS l k + cr (l.getD k (0, 0)) (l.getD ((k + 1) % l.length) (0, 0))
theorem getD_fit {l : List Pt} (h : fitL l = true) (j : Nat) : fitP (l.getD j (0, 0)).1 (l.getD j (0, 0)).2 = true := by
  by_cases hj : j < l.length
  · rw [List.getD_eq_getElem?_getD, List.getElem?_eq_getElem hj]
    exact fitL_at h j hj
  · rw [List.getD_eq_getElem?_getD, List.getElem?_eq_none (by omega)]
    decide
theorem twS_bd {l : List Pt} (h : fitL l = true) (k : Nat) : -(140737454800898 * (k : Int)) ≤ twS l k ∧ twS l k ≤ 140737454800898 * (k : Int) := by
  induction k with
  | zero => simp [twS]
  | succ k ih =>
    have := cr_bd (getD_fit h k) (getD_fit h ((k + 1) % l.length))
    simp only [twS]
    omega
theorem twS_path (l : List Pt) (k : Nat) (h : k < l.length) : twS l k = path cr (l.take (k + 1)) := by
  induction k with
  | zero =>
    cases l with
    | nil => simp at h
    | cons a r => simp [twS, path]
  | succ k ih =>
    rw [path_take cr l k (by omega), ← ih (by omega)]
    simp only [twS]
    rw [Nat.mod_eq_of_lt h, List.getD_eq_getElem?_getD, List.getD_eq_getElem?_getD, List.getElem?_eq_getElem (by omega), List.getElem?_eq_getElem h]
    rfl
theorem twS_end (l : List Pt) : twS l l.length = twL l := by
  unfold twL
  by_cases h : l = []
  · subst h; rfl
  · rw [dif_neg h]
    have hl : 0 < l.length := List.length_pos_iff.2 h
    obtain ⟨m, hm⟩ : ∃ m, l.length = m + 1 := ⟨l.length - 1, by omega⟩
    rw [hm]
    simp only [twS]
    rw [twS_path l m (by omega), hm, Nat.mod_self, List.take_of_length_le (by omega)]
    congr 2
    · rw [List.getLast_eq_getElem, List.getD_eq_getElem?_getD, List.getElem?_eq_getElem (by omega)]
      simp [hm]
    · rw [List.head_eq_getElem, List.getD_eq_getElem?_getD, List.getElem?_eq_getElem (by omega)]
      rfl
/-- The document's sum so far. -/
def trS (l : List Pt) : Nat → Int
  | 0 => 0
  | k + 1 => trS l k + tri (l.getD 0 (0, 0)) (l.getD (k + 1) (0, 0)) (l.getD (k + 2) (0, 0))
theorem trS_bd {l : List Pt} (h : fitL l = true) (k : Nat) : -(562949819203592 * (k : Int)) ≤ trS l k ∧ trS l k ≤ 562949819203592 * (k : Int) := by
  induction k with
  | zero => simp [trS]
  | succ k ih =>
    have := tri_bd (getD_fit h 0) (getD_fit h (k + 1)) (getD_fit h (k + 2))
    simp only [trS]
    omega
theorem trS_path (l : List Pt) (k : Nat) (h : k + 1 < l.length) : trS l k = path cr (l.take (k + 2)) + cr (l.getD (k + 1) (0, 0)) (l.getD 0 (0, 0)) := by
  induction k with
  | zero =>
    match l, h with
    | a :: b :: r, _ => simp [trS, path]; rw [cr_anti a b]; omega
  | succ k ih =>
    rw [path_take cr l (k + 1) (by omega)]
    simp only [trS]
    have ih' : trS l k = path cr (l.take (k + 1 + 1)) + cr (l.getD (k + 1) (0, 0)) (l.getD 0 (0, 0)) := ih (by omega)
    rw [ih', tri_cr]
    have e1 : l[k + 1] = l.getD (k + 1) (0, 0) := by rw [List.getD_eq_getElem?_getD, List.getElem?_eq_getElem (by omega)]; rfl
    have e2 : l[k + 1 + 1] = l.getD (k + 2) (0, 0) := by rw [List.getD_eq_getElem?_getD, List.getElem?_eq_getElem (by omega)]; rfl
    rw [e1, e2, cr_anti (l.getD 0 (0, 0)) (l.getD (k + 1) (0, 0))]
    show _ = _ + cr (l.getD (k + 2) (0, 0)) _
    omega
theorem trS_end (l : List Pt) : trS l (l.length - 2) = twL l := by
  match l with
  | [] => rfl
  | [a] => simp [trS, twL, path, cr_self]
  | a :: b :: r =>
    have h := trS_path (a :: b :: r) r.length (by simp)
    have e : (a :: b :: r).length - 2 = r.length := by simp
    rw [e, h, List.take_of_length_le (by simp)]
    unfold twL
    rw [dif_neg (by simp)]
    congr 2
    rw [List.getLast_eq_getElem, List.getD_eq_getElem?_getD, List.getElem?_eq_getElem (by simp)]
    simp

/-- How long a line is, as the program reckons: first the way back. -/
def lenP (p q : Pt) : Int := (lenI p.1 p.2 q.1 q.2 : Nat)
def longL (l : List Pt) (c : Bool) : Int := if fitL l = true then path lenP l + (if h : l = [] then 0 else if c = true then lenP (l.getLast h) (l.head h) else 0) else 0
theorem lenP_bd (p q : Pt) : 0 ≤ lenP p q ∧ lenP p q ≤ 33554431 := by
  unfold lenP
  have := lenI_bd p.1 p.2 q.1 q.2
  omega
theorem path_len_bd (l : List Pt) : 0 ≤ path lenP l ∧ path lenP l ≤ 33554431 * (l.length : Int) := by
  induction l with
  | nil => simp [path]
  | cons a r ih =>
    cases r with
    | nil => simp [path]
    | cons b s =>
      have := lenP_bd a b
      simp only [path, List.length_cons] at *
      omega
end Go.Proofs.Ytlhaepcnhkaclaa

namespace Go.Proofs.Ytlhaepcnhkaclaa
set_option linter.unusedVariables false
open Go Go.RowKit

theorem twI_yes {l : List Pt} (h : fitL l = true) : twI l = twL l := if_pos h
theorem twI_no {l : List Pt} (h : fitL l = false) : twI l = 0 := if_neg (by rw [h]; exact Bool.false_ne_true)
theorem prod_bd {a b : Int} (h1 : -8388607 ≤ a ∧ a ≤ 8388607) (h2 : -8388607 ≤ b ∧ b ≤ 8388607) : -70368727400449 ≤ a * b ∧ a * b ≤ 70368727400449 := by
  have := mul_bd (a := a) (b := b) (A := 8388607) (B := 8388607) (by omega) (by omega)
  omega
theorem prod_bd2 {a b : Int} (h1 : -16777214 ≤ a ∧ a ≤ 16777214) (h2 : -16777214 ≤ b ∧ b ≤ 16777214) : -281474909601796 ≤ a * b ∧ a * b ≤ 281474909601796 := by
  have := mul_bd (a := a) (b := b) (A := 16777214) (B := 16777214) (by omega) (by omega)
  omega

end Go.Proofs.Ytlhaepcnhkaclaa

namespace Go.Proofs.Ytlhaepcnhkaclaa
set_option linter.unusedVariables false
open Go Go.RowKit

end Go.Proofs.Ytlhaepcnhkaclaa

namespace Go.Proofs.Ytlhaepcnhkaclaa
set_option linter.unusedVariables false
open Go Go.RowKit

theorem ownsRow_extK {K : Nat} {W w u : World} {e : TypeId} {v : Value} {n : Nat} {xs : List Value} (h : w.ownsRow W.heap.size e K v n xs) (he : Ext w u) : u.ownsRow W.heap.size e K v n xs := by
  obtain ⟨h1, h2⟩ := h
  refine ⟨h1, ?_⟩
  rcases h2 with h2 | ⟨g, cap, cur, hv, hg, hh, hn, hm, hs, hx⟩
  · exact .inl h2
  · have hlt : g < w.heap.size := by
      rcases Nat.lt_or_ge g w.heap.size with h | h
      · exact h
      · rw [Array.getElem?_eq_none h] at hh; cases hh
    exact .inr ⟨g, cap, cur, hv, hg, by rw [he.block g hlt]; exact hh, hn, hm, hs, hx⟩
theorem slk_cut {K : Nat} {w : World} {a : Option Addr} {n cap : Nat} {xs : List Value} (h : SlK K w a n cap xs) : SlK K w a n n xs := ⟨h.1, Nat.le_refl _, Nat.le_trans h.2.1 h.2.2.1, h.2.2.2⟩

end Go.Proofs.Ytlhaepcnhkaclaa

namespace Go.Proofs.Ytlhaepcnhkaclaa
set_option linter.unusedVariables false
open Go Go.RowKit

/-- The way back to the first point. -/
def backL (l : List Pt) (c : Bool) : Int := if h : l = [] then 0 else if c = true then lenP (l.getLast h) (l.head h) else 0
theorem longL_yes {l : List Pt} {c : Bool} (h : fitL l = true) : longL l c = path lenP l + backL l c := if_pos h
theorem longL_no {l : List Pt} {c : Bool} (h : fitL l = false) : longL l c = 0 := if_neg (by rw [h]; exact Bool.false_ne_true)
theorem backL_bd (l : List Pt) (c : Bool) : 0 ≤ backL l c ∧ backL l c ≤ 33554431 := by
  unfold backL
  split
  · omega
  · split
    · exact lenP_bd _ _
    · omega
theorem backL_at {l : List Pt} (h : 0 < l.length) : backL l true = lenP (l[l.length - 1]'(by omega)) l[0] := by
  unfold backL
  have h0 : l ≠ [] := by intro h2; rw [h2] at h; simp at h
  rw [dif_neg h0, if_pos rfl, List.getLast_eq_getElem, List.head_eq_getElem]
theorem backL_off (l : List Pt) : backL l false = 0 := by
  unfold backL
  split
  · rfl
  · rfl
/-- The program's sum so far. -/
def lgS (l : List Pt) (c : Bool) (j : Nat) : Int := if j = 0 then 0 else path lenP (l.take j) + backL l c
theorem lgS_bd {l : List Pt} {c : Bool} {j : Nat} (hj : j ≤ 4194304) : 0 ≤ lgS l c j ∧ lgS l c j ≤ 140737517715455 := by
  unfold lgS
  split
  · omega
  · have h1 := path_len_bd (l.take j)
    have h2 := backL_bd l c
    have h3 : (l.take j).length ≤ j := List.length_take_le _ _
    omega
theorem lgS_succ {l : List Pt} {c : Bool} {k : Nat} (h : k + 1 < l.length) : lgS l c (k + 1 + 1) = lgS l c (k + 1) + lenP l[k] l[k + 1] := by
  unfold lgS
  rw [if_neg (by omega), if_neg (by omega), path_take lenP l k h]
  omega
theorem lgS_one {l : List Pt} {c : Bool} (h : 0 < l.length) : lgS l c 1 = backL l c := by
  unfold lgS
  rw [if_neg (by omega)]
  have : path lenP (l.take 1) = 0 := by
    match l, h with
    | a :: r, _ => rfl
  rw [this]; omega
theorem lgS_end (l : List Pt) (c : Bool) : lgS l c l.length = path lenP l + backL l c := by
  unfold lgS
  split
  · next h =>
    have : l = [] := List.length_eq_zero_iff.1 h
    subst this
    rfl
  · rw [List.take_of_length_le (Nat.le_refl _)]

set_option maxRecDepth 100000 in
set_option maxHeartbeats 8000000 in
theorem g_Long (a : Option Addr) (n cap : Nat) (l : List Pt) (c : Bool) (w : World) (h : SlP w a n cap l) (hn : n ≤ 4194304) :
    Calls Try.prog 27 #[.agg #[.slice a n cap, .bool c]] w fun e w' => e = .returned (.int .i64 (longL l c)) ∧ Ext w w' := by
  have H := hidP h
  have HLN := hidP h.len
  have hft := fun u (t : SlP u a n cap l) => g_fits a n cap l u t
  clear h
  cases hfl : fitL l
  · have HR := hidP (longL_no (c := c) hfl)
    rw [hfl] at hft
    have HF := hidP hft
    clear hft hfl
    go_enter Try.func27, Try.ntmps27
    go_wp2_with fail
    refine absC (fun x1 hx1 => ?_)
    have hx : Ext w x1 := by rw [hx1]; exact ((Ext.refl _).alloc _)
    have bp : Bl x1 (w.heap.size) #[.slice a n cap, .bool c] := by rw [hx1]; exact (Bl.new (by simp))
    have HE := hx
    clear hx
    clear hx1
    refine (HF.out _ (H.out.ext HE)).mono ?_
    rintro e u1 ⟨rfl, hx⟩
    replace bp := Bl.ext hx bp (Nat.succ_pos _)
    replace HE := HE.trans hx
    clear hx
    go_wp2_with fail
    go_ret
    exact ⟨congrArg (fun x => Ending.returned (Value.int .i64 x)) HR.out.symm, HE⟩
  · have HR := hidP (longL_yes (c := c) hfl)
    have HEN := hidP (lgS_end l c)
    rw [hfl] at hft
    have HF := hidP hft
    have HFL := hidP hfl
    clear hft hfl
    go_enter Try.func27, Try.ntmps27
    go_wp2_with fail
    refine absC (fun x1 hx1 => ?_)
    have hx : Ext w x1 := by rw [hx1]; exact ((Ext.refl _).alloc _)
    have bp : Bl x1 (w.heap.size) #[.slice a n cap, .bool c] := by rw [hx1]; exact (Bl.new (by simp))
    have HE := hx
    clear hx
    clear hx1
    refine (HF.out _ (H.out.ext HE)).mono ?_
    rintro e u1 ⟨rfl, hx⟩
    replace bp := Bl.ext hx bp (Nat.succ_pos _)
    replace HE := HE.trans hx
    clear hx
    go_wp2_with fail
    go_loopw [3, 13] (fun sv iv wr => ∃ (j : Nat) (s : Int), j ≤ n ∧ iv = .int .i64 (j : Int) ∧ sv = .int .i64 s ∧ Hid (lgS l c j = s) ∧ Bl wr w.heap.size #[.slice a n cap, .bool c] ∧ Ext w wr) (fun _ iv _ => n - (intOf iv).toNat)
    case atStart => exact ⟨0, 0, by omega, rfl, rfl, hidP rfl, bp, HE⟩
    case round =>
      clear HE bp
      obtain ⟨j, s, hj, rfl, rfl, HS, bp, HE⟩ := hrel
      have hsb := lgS_bd (l := l) (c := c) (j := j) (by omega)
      rw [HS.out] at hsb
      obtain ⟨s1, s2⟩ := hsb
      by_cases hlt : j < n
      · obtain ⟨g, off, rfl, hc⟩ := (H.out.ext HE).at (by omega)
        have hjl : j < l.length := by rw [HLN.out]; exact hlt
        obtain ⟨h1, h2⟩ := hc j hjl
        have lpw := bp.lt (Nat.succ_pos _)
        by_cases hj0 : j = 0
        · subst hj0
          have hs0 : s = 0 := HS.out.symm
          subst hs0
          rw [Nat.zero_mul, Nat.add_zero] at h1 h2
          cases hcc : c
          · subst hcc
            have HS1 : Hid (lgS l false 1 = 0) := hidP (by rw [lgS_one hjl, backL_off])
            clear hc
            generalize l[0].1 = px at *
            generalize l[0].2 = py at *
            clear HS
            go_upto_region 11 with fail
            refine absW (fun x1 hx1 => ?_)
            have hx : Ext wr x1 := by rw [hx1]; exact ((Ext.refl _).alloc _)
            have bx : Bl x1 (wr.heap.size) #[.int .i64 px, .int .i64 py] := by rw [hx1]; exact (Bl.new (by simp))
            replace bp := Bl.ext hx bp (Nat.succ_pos _)
            replace HE := HE.trans hx
            clear hx
            clear hx1
            go_wp2_with fail
            go_roundw
            case rel => exact ⟨1, 0, by omega, rfl, rfl, HS1, bp, HE⟩
            case measure => simp only [intOf]; omega
          · subst hcc
            have hml : l.length - 1 < l.length := by omega
            have HS1 : Hid (lgS l true 1 = lenP (l[l.length - 1]'hml) l[0]) := hidP (by rw [lgS_one hjl, backL_at hjl])
            obtain ⟨h3, h4⟩ := hc (l.length - 1) hml
            clear hc
            have hlb := lenI_bd (l[l.length - 1]'hml).1 (l[l.length - 1]'hml).2 l[0].1 l[0].2
            unfold lenP at HS1
            have hmn : l.length - 1 < n := by rw [← HLN.out]; exact hml
            have hwm : ((l.length - 1 : Nat) : Int) = (n : Int) - 1 := by have := HLN.out; omega
            generalize (l[l.length - 1]'hml).1 = qx at *
            generalize (l[l.length - 1]'hml).2 = qy at *
            generalize l.length - 1 = m at *
            generalize l[0].1 = px at *
            generalize l[0].2 = py at *
            have HWM : Hid (IntKind.i64.wrap ((n : Int) - 1) = (m : Int)) := hidP (by rw [IntWalk.i64_in _ (by omega)]; omega)
            have HLE := hidP (fun u => g_Len qx qy px py u)
            generalize lenI qx qy px py = ln at *
            have HW0 := hidP (IntWalk.i64_in (ln : Int) (by omega))
            clear HS hwm
            go_wp2_with fail
            refine absW (fun x1 hx1 => ?_)
            have hx : Ext wr x1 := by rw [hx1]; exact ((Ext.refl _).alloc _)
            have bx : Bl x1 (wr.heap.size) #[.int .i64 px, .int .i64 py] := by rw [hx1]; exact (Bl.new (by simp))
            replace bp := Bl.ext hx bp (Nat.succ_pos _)
            replace h3 := hx.cell' h3
            replace h4 := hx.cell' h4
            replace HE := HE.trans hx
            clear hx
            clear hx1
            refine wp_region_plan (R := Ext) (.q 0 (.q 1 (.q 2 (.q 3 (.q 4 (.q 5 (.q 6 (.q 7 (.q 8 (.q 9 (.l 10 (.q 11 (.q 12 .done))))))))))))) (by kernel_rfl) (by kernel_rfl) (by kernel_rfl) (by kernel_rfl) Ext.refl (fun _ _ _ => Ext.trans) ?_
            refine absE (fun x2 hx2 => ?_)
            have hx : Ext x1 x2 := by rw [hx2]; exact (Ext.refl _).drew
            replace bp := Bl.ext hx bp (Nat.succ_pos _)
            replace bx := Bl.ext hx bx (Nat.succ_pos _)
            replace h3 := hx.cell' h3
            replace h4 := hx.cell' h4
            replace HE := HE.trans hx
            clear hx
            clear hx2
            repeat (refine wpE_q (v := ?_) rfl rfl (fun u hu => ?_) ?_; rotate_left 1; (focus (have kp := Bl.ext hu bp (Nat.succ_pos _); have kx := Bl.ext hu bx (Nat.succ_pos _); have kh3 := hu.cell' h3; have kh4 := hu.cell' h4; have wqm := HWM.out; have wq0 := HW0.out; go_simp; (try rfl))); simp only [Act.put, List.setIfInBounds_toArray, List.set_cons_zero, List.set_cons_succ])
            refine wpE_l rfl rfl (fun K hK => ?_)
            go_simp
            refine (HLE.out _).mono ?_
            rintro e u5 ⟨rfl, hx⟩
            refine hK.out _ _ hx ?_
            clear hK K
            try simp only [Act.put, List.setIfInBounds_toArray, List.set_cons_zero, List.set_cons_succ]
            replace bp := Bl.ext hx bp (Nat.succ_pos _)
            replace bx := Bl.ext hx bx (Nat.succ_pos _)
            replace h3 := hx.cell' h3
            replace h4 := hx.cell' h4
            replace HE := HE.trans hx
            clear hx
            repeat (refine wpE_q (v := ?_) rfl rfl (fun u hu => ?_) ?_; rotate_left 1; (focus (have kp := Bl.ext hu bp (Nat.succ_pos _); have kx := Bl.ext hu bx (Nat.succ_pos _); have kh3 := hu.cell' h3; have kh4 := hu.cell' h4; have wqm := HWM.out; have wq0 := HW0.out; go_simp; (try rfl))); simp only [Act.put, List.setIfInBounds_toArray, List.set_cons_zero, List.set_cons_succ])
            refine wpE_done ?_
            go_wp2_with fail
            go_roundw
            case rel => exact ⟨1, _, by omega, rfl, rfl, HS1, bp, HE⟩
            case measure => simp only [intOf]; omega
        · obtain ⟨k, hk⟩ : ∃ k, j = k + 1 := ⟨j - 1, by omega⟩
          subst hk
          have hkl : k < l.length := by omega
          have HS1 : Hid (lgS l c (k + 1 + 1) = s + lenP l[k] l[k + 1]) := hidP (by rw [lgS_succ hjl, HS.out])
          obtain ⟨h3, h4⟩ := hc k hkl
          clear hc
          have hlb := lenI_bd l[k].1 l[k].2 l[k + 1].1 l[k + 1].2
          unfold lenP at HS1
          generalize l[k].1 = qx at *
          generalize l[k].2 = qy at *
          generalize l[k + 1].1 = px at *
          generalize l[k + 1].2 = py at *
          have HLE := hidP (fun u => g_Len qx qy px py u)
          generalize lenI qx qy px py = ln at *
          have hkn : k < n := by omega
          obtain ⟨j, hj9⟩ : ∃ j, j = k + 1 := ⟨_, rfl⟩
          rw [← hj9] at h1 h2
          rw [← hj9]
          have HWM : Hid (IntKind.i64.wrap ((j : Int) - 1) = (k : Int)) := hidP (by rw [IntWalk.i64_in _ (by omega)]; omega)
          have HW0 := hidP (IntWalk.i64_in (s + (ln : Int)) (by omega))
          have hj1 : 0 < j := by omega
          have hj2 : j < n := by omega
          have hjd : decide ((0 : Int) < (j : Int)) = true := decide_eq_true (by omega)
          rw [← hj9] at HS1
          have HJ9 := hidP hj9
          clear HS hj9 hj0 hlt hjl hj
          go_wp2_with fail
          refine absW (fun x1 hx1 => ?_)
          have hx : Ext wr x1 := by rw [hx1]; exact ((Ext.refl _).alloc _)
          have bx : Bl x1 (wr.heap.size) #[.int .i64 px, .int .i64 py] := by rw [hx1]; exact (Bl.new (by simp))
          replace bp := Bl.ext hx bp (Nat.succ_pos _)
          replace h3 := hx.cell' h3
          replace h4 := hx.cell' h4
          replace HE := HE.trans hx
          clear hx
          clear hx1
          refine wp_region_plan (R := Ext) (.q 0 (.q 1 (.q 2 (.q 3 (.q 4 (.q 5 (.q 6 (.q 7 (.l 8 (.q 9 (.q 10 .done))))))))))) (by kernel_rfl) (by kernel_rfl) (by kernel_rfl) (by kernel_rfl) Ext.refl (fun _ _ _ => Ext.trans) ?_
          refine absE (fun x2 hx2 => ?_)
          have hx : Ext x1 x2 := by rw [hx2]; exact (Ext.refl _).drew
          replace bp := Bl.ext hx bp (Nat.succ_pos _)
          replace bx := Bl.ext hx bx (Nat.succ_pos _)
          replace h3 := hx.cell' h3
          replace h4 := hx.cell' h4
          replace HE := HE.trans hx
          clear hx
          clear hx2
          repeat (refine wpE_q (v := ?_) rfl rfl (fun u hu => ?_) ?_; rotate_left 1; (focus (have kp := Bl.ext hu bp (Nat.succ_pos _); have kx := Bl.ext hu bx (Nat.succ_pos _); have kh3 := hu.cell' h3; have kh4 := hu.cell' h4; have wqm := HWM.out; have wq0 := HW0.out; go_simp; (try rfl))); simp only [Act.put, List.setIfInBounds_toArray, List.set_cons_zero, List.set_cons_succ])
          refine wpE_l rfl rfl (fun K hK => ?_)
          go_simp
          refine (HLE.out _).mono ?_
          rintro e u5 ⟨rfl, hx⟩
          refine hK.out _ _ hx ?_
          clear hK K
          try simp only [Act.put, List.setIfInBounds_toArray, List.set_cons_zero, List.set_cons_succ]
          replace bp := Bl.ext hx bp (Nat.succ_pos _)
          replace bx := Bl.ext hx bx (Nat.succ_pos _)
          replace h3 := hx.cell' h3
          replace h4 := hx.cell' h4
          replace HE := HE.trans hx
          clear hx
          repeat (refine wpE_q (v := ?_) rfl rfl (fun u hu => ?_) ?_; rotate_left 1; (focus (have kp := Bl.ext hu bp (Nat.succ_pos _); have kx := Bl.ext hu bx (Nat.succ_pos _); have kh3 := hu.cell' h3; have kh4 := hu.cell' h4; have wqm := HWM.out; have wq0 := HW0.out; go_simp; (try rfl))); simp only [Act.put, List.setIfInBounds_toArray, List.set_cons_zero, List.set_cons_succ])
          refine wpE_done ?_
          go_wp2_with fail
          go_roundw
          case rel => exact ⟨j + 1, _, by omega, by go_num, rfl, HS1, bp, HE⟩
          case measure => simp only [intOf]; omega
      · obtain rfl : j = n := by omega
        have HRR : Hid (longL l c = s) := hidP (by rw [HR.out, ← HEN.out, HLN.out]; exact HS.out)
        clear HS
        go_wp2_with fail
        go_ret
        exact ⟨congrArg (fun x => Ending.returned (Value.int .i64 x)) HRR.out.symm, HE⟩

end Go.Proofs.Ytlhaepcnhkaclaa

namespace Go.Proofs.Ytlhaepcnhkaclaa
set_option linter.unusedVariables false
open Go Go.RowKit

theorem path_bd' (l : List Pt) (j : Nat) (hj : j ≤ 4194304) : 0 ≤ path lenP (l.take j) ∧ path lenP (l.take j) ≤ 140737484161024 := by
  have h1 := path_len_bd (l.take j)
  have h3 : (l.take j).length ≤ j := List.length_take_le _ _
  omega
set_option maxRecDepth 100000 in
set_option maxHeartbeats 8000000 in
theorem d_Long (a : Option Addr) (n cap : Nat) (l : List Pt) (c : Bool) (w : World) (h : SlP w a n cap l) (hn : n ≤ 4194304) :
    Calls Try.prog 13 #[.agg #[.slice a n cap, .bool c]] w fun e w' => e = .returned (.int .i64 (longL l c)) ∧ Ext w w' := by
  have H := hidP h
  have HLN := hidP h.len
  have hft := fun u (t : SlP u a n cap l) => d_fits a n cap l u t
  clear h
  cases hfl : fitL l
  · have HR := hidP (longL_no (c := c) hfl)
    rw [hfl] at hft
    have HF := hidP hft
    clear hft hfl
    go_enter Try.func13, Try.ntmps13
    go_wp2_with fail
    refine absC (fun x1 hx1 => ?_)
    have hx : Ext w x1 := by rw [hx1]; exact ((Ext.refl _).alloc _)
    have bp : Bl x1 (w.heap.size) #[.slice a n cap, .bool c] := by rw [hx1]; exact (Bl.new (by simp))
    have HE := hx
    clear hx
    clear hx1
    refine (HF.out _ (H.out.ext HE)).mono ?_
    rintro e u1 ⟨rfl, hx⟩
    replace bp := Bl.ext hx bp (Nat.succ_pos _)
    replace HE := HE.trans hx
    clear hx
    go_wp2_with fail
    go_ret
    exact ⟨congrArg (fun x => Ending.returned (Value.int .i64 x)) HR.out.symm, HE⟩
  · have HR := hidP (longL_yes (c := c) hfl)
    rw [hfl] at hft
    have HF := hidP hft
    have HFL := hidP hfl
    clear hft hfl
    go_enter Try.func13, Try.ntmps13
    go_wp2_with fail
    refine absC (fun x1 hx1 => ?_)
    have hx : Ext w x1 := by rw [hx1]; exact ((Ext.refl _).alloc _)
    have bp : Bl x1 (w.heap.size) #[.slice a n cap, .bool c] := by rw [hx1]; exact (Bl.new (by simp))
    have HE := hx
    clear hx
    clear hx1
    refine (HF.out _ (H.out.ext HE)).mono ?_
    rintro e u1 ⟨rfl, hx⟩
    replace bp := Bl.ext hx bp (Nat.succ_pos _)
    replace HE := HE.trans hx
    clear hx
    go_wp2_with fail
    go_loopw [3, 4] (fun sv iv wr => ∃ (j : Nat) (s : Int), j ≤ n - 1 ∧ iv = .int .i64 (j : Int) ∧ sv = .int .i64 s ∧ Hid (path lenP (l.take (j + 1)) = s) ∧ Bl wr w.heap.size #[.slice a n cap, .bool c] ∧ Ext w wr) (fun _ iv _ => n - (intOf iv).toNat)
    case atStart => exact ⟨0, 0, by omega, rfl, rfl, hidP (by cases l <;> rfl), bp, HE⟩
    case round =>
      clear HE bp
      obtain ⟨j, s, hj, rfl, rfl, HS, bp, HE⟩ := hrel
      have hsb := path_bd' l (j + 1) (by omega)
      rw [HS.out] at hsb
      obtain ⟨s1, s2⟩ := hsb
      have lpw := bp.lt (Nat.succ_pos _)
      by_cases hlt : j + 1 < n
      · obtain ⟨g, off, rfl, hc⟩ := (H.out.ext HE).at (by omega)
        have hjl : j + 1 < l.length := by rw [HLN.out]; exact hlt
        have hkl : j < l.length := by omega
        obtain ⟨h1, h2⟩ := hc j hkl
        obtain ⟨h3, h4⟩ := hc (j + 1) hjl
        have HS1 : Hid (path lenP (l.take (j + 1 + 1)) = s + lenP l[j] l[j + 1]) := hidP (by rw [path_take lenP l j hjl, HS.out])
        clear hc
        have hlb := lenI_bd l[j].1 l[j].2 l[j + 1].1 l[j + 1].2
        unfold lenP at HS1
        generalize l[j].1 = qx at *
        generalize l[j].2 = qy at *
        generalize l[j + 1].1 = px at *
        generalize l[j + 1].2 = py at *
        have HLE := hidP (fun u => d_Len qx qy px py u)
        generalize lenI qx qy px py = ln at *
        obtain ⟨k, hk9⟩ : ∃ k, k = j + 1 := ⟨_, rfl⟩
        rw [← hk9] at h3 h4
        have HWM : Hid (IntKind.i64.wrap ((j : Int) + 1) = (k : Int)) := hidP (by rw [IntWalk.i64_in _ (by omega)]; omega)
        have HW0 := hidP (IntWalk.i64_in (s + (ln : Int)) (by omega))
        have hj1 : k < n := by omega
        have hj2 : j < n := by omega
        have HJ9 := hidP hk9
        clear HS hk9 hjl hkl hj
        go_wp2_with fail
        refine wp_region_plan (R := Ext) (.q 0 (.q 1 (.q 2 (.q 3 (.q 4 (.q 5 (.q 6 (.q 7 (.q 8 (.q 9 (.q 10 (.q 11 (.l 12 (.q 13 (.q 14 .done))))))))))))))) (by kernel_rfl) (by kernel_rfl) (by kernel_rfl) (by kernel_rfl) Ext.refl (fun _ _ _ => Ext.trans) ?_
        refine absE (fun x1 hx1 => ?_)
        have hx : Ext wr x1 := by rw [hx1]; exact (Ext.refl _).drew
        replace bp := Bl.ext hx bp (Nat.succ_pos _)
        replace h1 := hx.cell' h1
        replace h2 := hx.cell' h2
        replace h3 := hx.cell' h3
        replace h4 := hx.cell' h4
        replace HE := HE.trans hx
        clear hx
        clear hx1
        repeat (refine wpE_q (v := ?_) rfl rfl (fun u hu => ?_) ?_; rotate_left 1; (focus (have kp := Bl.ext hu bp (Nat.succ_pos _); have kh1 := hu.cell' h1; have kh2 := hu.cell' h2; have kh3 := hu.cell' h3; have kh4 := hu.cell' h4; have wqm := HWM.out; have wq0 := HW0.out; go_simp; (try rfl))); simp only [Act.put, List.setIfInBounds_toArray, List.set_cons_zero, List.set_cons_succ])
        refine wpE_l rfl rfl (fun K hK => ?_)
        go_simp
        refine (HLE.out _).mono ?_
        rintro e u5 ⟨rfl, hx⟩
        refine hK.out _ _ hx ?_
        clear hK K
        try simp only [Act.put, List.setIfInBounds_toArray, List.set_cons_zero, List.set_cons_succ]
        replace bp := Bl.ext hx bp (Nat.succ_pos _)
        replace h1 := hx.cell' h1
        replace h2 := hx.cell' h2
        replace h3 := hx.cell' h3
        replace h4 := hx.cell' h4
        replace HE := HE.trans hx
        clear hx
        repeat (refine wpE_q (v := ?_) rfl rfl (fun u hu => ?_) ?_; rotate_left 1; (focus (have kp := Bl.ext hu bp (Nat.succ_pos _); have kh1 := hu.cell' h1; have kh2 := hu.cell' h2; have kh3 := hu.cell' h3; have kh4 := hu.cell' h4; have wqm := HWM.out; have wq0 := HW0.out; go_simp; (try rfl))); simp only [Act.put, List.setIfInBounds_toArray, List.set_cons_zero, List.set_cons_succ])
        refine wpE_done ?_
        go_wp2_with fail
        go_roundw
        case rel => exact ⟨j + 1, _, by omega, by go_num, rfl, HS1, bp, HE⟩
        case measure => simp only [intOf]; omega
      · have hd : decide (j + 1 < n) = false := decide_eq_false hlt
        have hpt : path lenP l = s := by rw [← HS.out, List.take_of_length_le (by rw [HLN.out]; omega)]
        cases hcc : c
        · subst hcc
          have HRR : Hid (longL l false = s) := hidP (by rw [HR.out, backL_off, hpt, Int.add_zero])
          clear HS hpt
          go_wp2_with fail
          go_ret
          exact ⟨congrArg (fun x => Ending.returned (Value.int .i64 x)) HRR.out.symm, HE⟩
        · subst hcc
          by_cases hn0 : n = 0
          · subst hn0
            have hl0 : l = [] := List.length_eq_zero_iff.1 HLN.out
            have HRR : Hid (longL l true = s) := hidP (by rw [HR.out, hpt, hl0]; exact Int.add_zero _)
            clear HS hpt hl0
            go_wp2_with fail
            go_ret
            exact ⟨congrArg (fun x => Ending.returned (Value.int .i64 x)) HRR.out.symm, HE⟩
          · obtain ⟨g, off, rfl, hc⟩ := (H.out.ext HE).at (by omega)
            have hjl : 0 < l.length := by rw [HLN.out]; omega
            have hml : l.length - 1 < l.length := by omega
            have HRR : Hid (longL l true = s + lenP (l[l.length - 1]'hml) l[0]) := hidP (by rw [HR.out, backL_at hjl, hpt])
            obtain ⟨h3, h4⟩ := hc (l.length - 1) hml
            obtain ⟨h1, h2⟩ := hc 0 hjl
            rw [Nat.zero_mul, Nat.add_zero] at h1 h2
            clear hc
            have hlb := lenI_bd (l[l.length - 1]'hml).1 (l[l.length - 1]'hml).2 l[0].1 l[0].2
            unfold lenP at HRR
            have hmn : l.length - 1 < n := by rw [← HLN.out]; exact hml
            have hwm : ((l.length - 1 : Nat) : Int) = (n : Int) - 1 := by have := HLN.out; omega
            generalize (l[l.length - 1]'hml).1 = qx at *
            generalize (l[l.length - 1]'hml).2 = qy at *
            generalize l.length - 1 = m at *
            generalize l[0].1 = px at *
            generalize l[0].2 = py at *
            have HWM : Hid (IntKind.i64.wrap ((n : Int) - 1) = (m : Int)) := hidP (by rw [IntWalk.i64_in _ (by omega)]; omega)
            have HLE := hidP (fun u => d_Len qx qy px py u)
            generalize lenI qx qy px py = ln at *
            have HW0 := hidP (IntWalk.i64_in (s + (ln : Int)) (by omega))
            have hnp : 0 < n := by omega
            have hnd : decide ((0 : Int) < (n : Int)) = true := decide_eq_true (by omega)
            have HN0 := hidP hn0
            clear HS hwm hpt hn0 hjl hml
            go_wp2_with fail
            refine wp_region_plan (R := Ext) (.q 0 (.q 1 (.q 2 (.q 3 (.q 4 (.q 5 (.q 6 (.q 7 (.q 8 (.q 9 (.q 10 (.q 11 (.q 12 (.l 13 (.q 14 (.q 15 .done)))))))))))))))) (by kernel_rfl) (by kernel_rfl) (by kernel_rfl) (by kernel_rfl) Ext.refl (fun _ _ _ => Ext.trans) ?_
            refine absE (fun x1 hx1 => ?_)
            have hx : Ext wr x1 := by rw [hx1]; exact (Ext.refl _).drew
            replace bp := Bl.ext hx bp (Nat.succ_pos _)
            replace h1 := hx.cell' h1
            replace h2 := hx.cell' h2
            replace h3 := hx.cell' h3
            replace h4 := hx.cell' h4
            replace HE := HE.trans hx
            clear hx
            clear hx1
            repeat (refine wpE_q (v := ?_) rfl rfl (fun u hu => ?_) ?_; rotate_left 1; (focus (have kp := Bl.ext hu bp (Nat.succ_pos _); have kh1 := hu.cell' h1; have kh2 := hu.cell' h2; have kh3 := hu.cell' h3; have kh4 := hu.cell' h4; have wqm := HWM.out; have wq0 := HW0.out; go_simp; (try rfl))); simp only [Act.put, List.setIfInBounds_toArray, List.set_cons_zero, List.set_cons_succ])
            refine wpE_l rfl rfl (fun K hK => ?_)
            go_simp
            refine (HLE.out _).mono ?_
            rintro e u5 ⟨rfl, hx⟩
            refine hK.out _ _ hx ?_
            clear hK K
            try simp only [Act.put, List.setIfInBounds_toArray, List.set_cons_zero, List.set_cons_succ]
            replace bp := Bl.ext hx bp (Nat.succ_pos _)
            replace h1 := hx.cell' h1
            replace h2 := hx.cell' h2
            replace h3 := hx.cell' h3
            replace h4 := hx.cell' h4
            replace HE := HE.trans hx
            clear hx
            repeat (refine wpE_q (v := ?_) rfl rfl (fun u hu => ?_) ?_; rotate_left 1; (focus (have kp := Bl.ext hu bp (Nat.succ_pos _); have kh1 := hu.cell' h1; have kh2 := hu.cell' h2; have kh3 := hu.cell' h3; have kh4 := hu.cell' h4; have wqm := HWM.out; have wq0 := HW0.out; go_simp; (try rfl))); simp only [Act.put, List.setIfInBounds_toArray, List.set_cons_zero, List.set_cons_succ])
            refine wpE_done ?_
            go_wp2_with fail
            go_ret
            exact ⟨congrArg (fun x => Ending.returned (Value.int .i64 x)) HRR.out.symm, HE⟩

end Go.Proofs.Ytlhaepcnhkaclaa
