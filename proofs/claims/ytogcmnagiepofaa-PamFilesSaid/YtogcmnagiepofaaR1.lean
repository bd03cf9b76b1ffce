/- Rows of colours. -/
import Derived.Test.YtogcmnagiepofaaPT
namespace Go.Proofs.Ytogcmnagiepofaa
set_option linter.unusedVariables false
open Go Go.RowKit

/-- A colour: four bytes. -/
abbrev Col := Nat × Nat × Nat × Nat
def cols (l : List Col) : List Value := l.flatMap fun p => [.int .u8 (p.1 : Int), .int .u8 (p.2.1 : Int), .int .u8 (p.2.2.1 : Int), .int .u8 (p.2.2.2 : Int)]
theorem cols_append (l m : List Col) : cols (l ++ m) = cols l ++ cols m := by simp [cols]
theorem cols_len (l : List Col) : (cols l).length = l.length * 4 := by
  induction l with
  | nil => rfl
  | cons p r ih => simp only [cols, List.flatMap_cons, List.length_append, List.length_cons, List.length_nil] at *; omega
theorem cols_get (l : List Col) (i : Nat) (h : i < l.length) : (cols l)[i * 4]? = some (.int .u8 (l[i].1 : Int)) ∧ (cols l)[i * 4 + 1]? = some (.int .u8 (l[i].2.1 : Int)) ∧ (cols l)[i * 4 + 2]? = some (.int .u8 (l[i].2.2.1 : Int)) ∧ (cols l)[i * 4 + 3]? = some (.int .u8 (l[i].2.2.2 : Int)) := by
  induction l generalizing i with
  | nil => simp at h
  | cons p r ih =>
    cases i with
    | zero => exact ⟨rfl, rfl, rfl, rfl⟩
    | succ i =>
      have := ih i (by simpa using h)
      have e1 : (i + 1) * 4 = i * 4 + 1 + 1 + 1 + 1 := by omega
      rw [e1]
      simpa [cols] using this
/-- A row of colours. -/
def SlC (w : World) (a : Option Addr) (n cap : Nat) (l : List Col) : Prop := SlK 4 w a n cap (cols l)
theorem SlC.ext {w u : World} {a : Option Addr} {n cap : Nat} {l : List Col} (h : SlC w a n cap l) (he : Ext w u) : SlC u a n cap l := SlK.ext h he
theorem SlC.len {w : World} {a : Option Addr} {n cap : Nat} {l : List Col} (h : SlC w a n cap l) : l.length = n := by
  have h1 := h.1
  rw [cols_len] at h1
  omega
theorem SlC.at {w : World} {a : Option Addr} {n cap : Nat} {l : List Col} (h : SlC w a n cap l) (h0 : 0 < n) : ∃ b off, a = some ⟨b, off, none⟩ ∧ ∀ (i : Nat) (hi : i < l.length), w.cell? ⟨b, off + i * 4, none⟩ = some (.int .u8 (l[i].1 : Int)) ∧ w.cell? ⟨b, off + i * 4 + 1, none⟩ = some (.int .u8 (l[i].2.1 : Int)) ∧ w.cell? ⟨b, off + i * 4 + 2, none⟩ = some (.int .u8 (l[i].2.2.1 : Int)) ∧ w.cell? ⟨b, off + i * 4 + 3, none⟩ = some (.int .u8 (l[i].2.2.2 : Int)) := by
  obtain ⟨b, off, ha, hc⟩ := h.2.2.2 h0
  refine ⟨b, off, ha, fun i hi => ?_⟩
  obtain ⟨g0, g1, g2, g3⟩ := cols_get l i hi
  exact ⟨hc _ _ g0, hc _ _ g1, hc _ _ g2, hc _ _ g3⟩
theorem T_col : SlTK Try.prog 67 73 4 (.agg #[.int .u8 0, .int .u8 0, .int .u8 0, .int .u8 0]) 4 :=
  let ⟨i, h1, h2, h3, h4⟩ := info_parts (P := Try.prog) (e := 73) (z := .agg #[.int .u8 0, .int .u8 0, .int .u8 0, .int .u8 0]) (size := 4) (bytes := 4) (by kernel_rfl); ⟨Try.underlying67, by omega, i, h1, h2, h3, h4, rfl⟩
/-- A raster as an argument. -/
abbrev rst (x y : Int) (a : Option Addr) (n c : Nat) : Value := .agg #[.int .i64 x, .int .i64 y, .slice a n c]
/-- May a raster be so large? -/
def mayR (x y : Int) (n : Nat) : Bool := decide (1 ≤ x ∧ x ≤ 64 ∧ 1 ≤ y ∧ y ≤ 64 ∧ (n : Int) = x * y)
theorem mul_box {x y : Int} (h1 : 1 ≤ x) (h2 : x ≤ 64) (h3 : 1 ≤ y) (h4 : y ≤ 64) : 1 ≤ x * y ∧ x * y ≤ 4096 := by
  have a1 : x * 1 ≤ x * y := Int.mul_le_mul_of_nonneg_left h3 (by omega)
  have a2 : x * y ≤ x * 64 := Int.mul_le_mul_of_nonneg_left h4 (by omega)
  omega

set_option maxRecDepth 100000 in
set_option maxHeartbeats 4000000 in
theorem p_side (n : Int) (w : World) : Calls Try.prog 108 #[.int .i64 n] w fun e w' => e = .returned (.bool (decide (1 ≤ n ∧ n ≤ 64))) ∧ w = w' := by
  by_cases h1 : 1 ≤ n
  · by_cases h2 : n ≤ 64
    · rw [decide_eq_true ⟨h1, h2⟩]
      go_enter Try.func108, Try.ntmps108
      go_wp2_with fail
      go_ret
      exact ⟨rfl, rfl⟩
    · rw [decide_eq_false (fun h => h2 h.2)]
      go_enter Try.func108, Try.ntmps108
      go_wp2_with fail
      go_ret
      exact ⟨rfl, rfl⟩
  · rw [decide_eq_false (fun h => h1 h.1)]
    go_enter Try.func108, Try.ntmps108
    go_wp2_with fail
    go_ret
    exact ⟨rfl, rfl⟩

set_option maxRecDepth 100000 in
set_option maxHeartbeats 4000000 in
theorem p_May (x y : Int) (a : Option Addr) (n c : Nat) (w : World) : Calls Try.prog 63 #[rst x y a n c] w fun e w' => e = .returned (.bool (mayR x y n)) ∧ Ext w w' := by
  by_cases hx : 1 ≤ x ∧ x ≤ 64
  · have HX := hidP (decide_eq_true hx)
    by_cases hy : 1 ≤ y ∧ y ≤ 64
    · have HY := hidP (decide_eq_true hy)
      have hm := mul_box hx.1 hx.2 hy.1 hy.2
      obtain ⟨hm1, hm2⟩ := hm
      obtain ⟨hx1, hx2⟩ := hx
      obtain ⟨hy1, hy2⟩ := hy
      by_cases hn : (n : Int) = x * y
      · have HR : Hid (mayR x y n = true) := hidP (decide_eq_true ⟨hx1, hx2, hy1, hy2, hn⟩)
        have hn2 : ((n : Int) == x * y) = true := by simpa using hn
        generalize mayR x y n = rr at *
        go_enter Try.func63, Try.ntmps63
        go_wp2_with fail
        refine absC (fun x1 hx1 => ?_)
        have hx : Ext w x1 := by rw [hx1]; exact ((Ext.refl _).alloc _)
        have bp : Bl x1 (w.heap.size) #[.int .i64 x, .int .i64 y, .slice a n c] := by rw [hx1]; exact (Bl.new (by simp))
        have HE := hx
        clear hx
        clear hx1
        refine (p_side x _).mono ?_
        rw [HX.out]
        rintro e u1 ⟨rfl, rfl⟩
        go_wp2_with fail
        refine (p_side y _).mono ?_
        rw [HY.out]
        rintro e u2 ⟨rfl, rfl⟩
        go_wp2_with fail
        go_ret
        exact ⟨by rw [HR.out]; rfl, HE⟩
      · have HR : Hid (mayR x y n = false) := hidP (decide_eq_false (fun h => hn h.2.2.2.2))
        have hn2 : ((n : Int) == x * y) = false := by simpa using hn
        generalize mayR x y n = rr at *
        go_enter Try.func63, Try.ntmps63
        go_wp2_with fail
        refine absC (fun x1 hx1 => ?_)
        have hx : Ext w x1 := by rw [hx1]; exact ((Ext.refl _).alloc _)
        have bp : Bl x1 (w.heap.size) #[.int .i64 x, .int .i64 y, .slice a n c] := by rw [hx1]; exact (Bl.new (by simp))
        have HE := hx
        clear hx
        clear hx1
        refine (p_side x _).mono ?_
        rw [HX.out]
        rintro e u1 ⟨rfl, rfl⟩
        go_wp2_with fail
        refine (p_side y _).mono ?_
        rw [HY.out]
        rintro e u2 ⟨rfl, rfl⟩
        go_wp2_with fail
        go_ret
        exact ⟨by rw [HR.out]; rfl, HE⟩
    · have HY := hidP (decide_eq_false hy)
      have HR : Hid (mayR x y n = false) := hidP (decide_eq_false (fun h => hy ⟨h.2.2.1, h.2.2.2.1⟩))
      obtain ⟨hx1, hx2⟩ := hx
      generalize mayR x y n = rr at *
      go_enter Try.func63, Try.ntmps63
      go_wp2_with fail
      refine absC (fun x1 hx1 => ?_)
      have hx : Ext w x1 := by rw [hx1]; exact ((Ext.refl _).alloc _)
      have bp : Bl x1 (w.heap.size) #[.int .i64 x, .int .i64 y, .slice a n c] := by rw [hx1]; exact (Bl.new (by simp))
      have HE := hx
      clear hx
      clear hx1
      refine (p_side x _).mono ?_
      rw [HX.out]
      rintro e u1 ⟨rfl, rfl⟩
      go_wp2_with fail
      refine (p_side y _).mono ?_
      rw [HY.out]
      rintro e u2 ⟨rfl, rfl⟩
      go_wp2_with fail
      go_ret
      exact ⟨by rw [HR.out]; rfl, HE⟩
  · have HX := hidP (decide_eq_false hx)
    have HR : Hid (mayR x y n = false) := hidP (decide_eq_false (fun h => hx ⟨h.1, h.2.1⟩))
    generalize mayR x y n = rr at *
    go_enter Try.func63, Try.ntmps63
    go_wp2_with fail
    refine absC (fun x1 hx1 => ?_)
    have hx : Ext w x1 := by rw [hx1]; exact ((Ext.refl _).alloc _)
    have bp : Bl x1 (w.heap.size) #[.int .i64 x, .int .i64 y, .slice a n c] := by rw [hx1]; exact (Bl.new (by simp))
    have HE := hx
    clear hx
    clear hx1
    refine (p_side x _).mono ?_
    rw [HX.out]
    rintro e u1 ⟨rfl, rfl⟩
    go_wp2_with fail
    go_ret
    exact ⟨by rw [HR.out]; rfl, HE⟩

set_option maxRecDepth 100000 in
set_option maxHeartbeats 4000000 in
theorem d_May (x y : Int) (a : Option Addr) (n c : Nat) (w : World) : Calls Try.prog 64 #[rst x y a n c] w fun e w' => e = .returned (.bool (mayR x y n)) ∧ Ext w w' := by
  by_cases hx : 1 ≤ x ∧ x ≤ 64
  · have HX := hidP (decide_eq_true hx)
    by_cases hy : 1 ≤ y ∧ y ≤ 64
    · have HY := hidP (decide_eq_true hy)
      have hm := mul_box hx.1 hx.2 hy.1 hy.2
      obtain ⟨hm1, hm2⟩ := hm
      obtain ⟨hx1, hx2⟩ := hx
      obtain ⟨hy1, hy2⟩ := hy
      by_cases hn : (n : Int) = x * y
      · have HR : Hid (mayR x y n = true) := hidP (decide_eq_true ⟨hx1, hx2, hy1, hy2, hn⟩)
        have hn2 : ((n : Int) == x * y) = true := by simpa using hn
        generalize mayR x y n = rr at *
        go_enter Try.func64, Try.ntmps64
        go_wp2_with fail
        go_ret
        exact ⟨by rw [HR.out]; rfl, (Ext.refl _).alloc _⟩
      · have HR : Hid (mayR x y n = false) := hidP (decide_eq_false (fun h => hn h.2.2.2.2))
        have hn2 : ((n : Int) == x * y) = false := by simpa using hn
        generalize mayR x y n = rr at *
        go_enter Try.func64, Try.ntmps64
        go_wp2_with fail
        go_ret
        exact ⟨by rw [HR.out]; rfl, (Ext.refl _).alloc _⟩
    · have HY := hidP (decide_eq_false hy)
      have HR : Hid (mayR x y n = false) := hidP (decide_eq_false (fun h => hy ⟨h.2.2.1, h.2.2.2.1⟩))
      obtain ⟨hx1, hx2⟩ := hx
      generalize mayR x y n = rr at *
      rcases (by omega : y < 1 ∨ 64 < y) with hy0 | hy0 <;> clear hy
      all_goals (
        go_enter Try.func64, Try.ntmps64
        go_wp2_with fail
        go_ret
        exact ⟨by rw [HR.out]; rfl, (Ext.refl _).alloc _⟩)
  · have HX := hidP (decide_eq_false hx)
    have HR : Hid (mayR x y n = false) := hidP (decide_eq_false (fun h => hx ⟨h.1, h.2.1⟩))
    generalize mayR x y n = rr at *
    rcases (by omega : x < 1 ∨ 64 < x) with hx0 | hx0 <;> clear hx
    all_goals (
      go_enter Try.func64, Try.ntmps64
      go_wp2_with fail
      go_ret
      exact ⟨by rw [HR.out]; rfl, (Ext.refl _).alloc _⟩)

end Go.Proofs.Ytogcmnagiepofaa
