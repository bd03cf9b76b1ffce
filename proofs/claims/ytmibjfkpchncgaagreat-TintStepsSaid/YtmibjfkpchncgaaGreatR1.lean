/- Rows of colours. -/
import Derived.Test.YtmibjfkpchncgaaGreatPT
namespace Go.Proofs.YtmibjfkpchncgaaGreat
set_option linter.unusedVariables false
open Go Go.RowKit

/-- A colour: four bytes. -/
abbrev Col := Nat × Nat × Nat × Nat
def cols (l : List Col) : List Value := l.flatMap fun p => [.int .u8 (p.1 : Int), .int .u8 (p.2.1 : Int), .int .u8 (p.2.2.1 : Int), .int .u8 (p.2.2.2 : Int)]
theorem cols_append (l m : List Col) : cols (l ++ m) = cols l ++ cols m := by simp [cols]
theorem cols_len (l : List Col) : (cols l).length = l.length * 4 := by
  induction l with
  | nil => rfl
  | cons p r ih => simp only [cols, List.flatMap_cons, List.length_append, List.length_cons, List.length_nil] at *; omega
theorem cols_get (l : List Col) (i : Nat) (h : i < l.length) : (cols l)[i * 4]? = some (.int .u8 (l[i].1 : Int)) ∧ (cols l)[i * 4 + 1]? = some (.int .u8 (l[i].2.1 : Int)) ∧ (cols l)[i * 4 + 2]? = some (.int .u8 (l[i].2.2.1 : Int)) ∧ (cols l)[i * 4 + 3]? = some (.int .u8 (l[i].2.2.2 : Int)) := by
  induction l generalizing i with
  | nil => simp at h
  | cons p r ih =>
    cases i with
    | zero => exact ⟨rfl, rfl, rfl, rfl⟩
    | succ i =>
      have := ih i (by simpa using h)
      have e1 : (i + 1) * 4 = i * 4 + 1 + 1 + 1 + 1 := by omega
      rw [e1]
      simpa [cols] using this
/-- A row of colours. -/
def SlC (w : World) (a : Option Addr) (n cap : Nat) (l : List Col) : Prop := SlK 4 w a n cap (cols l)
theorem SlC.ext {w u : World} {a : Option Addr} {n cap : Nat} {l : List Col} (h : SlC w a n cap l) (he : Ext w u) : SlC u a n cap l := SlK.ext h he
theorem SlC.len {w : World} {a : Option Addr} {n cap : Nat} {l : List Col} (h : SlC w a n cap l) : l.length = n := by
  have h1 := h.1
  rw [cols_len] at h1
  omega
theorem SlC.at {w : World} {a : Option Addr} {n cap : Nat} {l : List Col} (h : SlC w a n cap l) (h0 : 0 < n) : ∃ b off, a = some ⟨b, off, none⟩ ∧ ∀ (i : Nat) (hi : i < l.length), w.cell? ⟨b, off + i * 4, none⟩ = some (.int .u8 (l[i].1 : Int)) ∧ w.cell? ⟨b, off + i * 4 + 1, none⟩ = some (.int .u8 (l[i].2.1 : Int)) ∧ w.cell? ⟨b, off + i * 4 + 2, none⟩ = some (.int .u8 (l[i].2.2.1 : Int)) ∧ w.cell? ⟨b, off + i * 4 + 3, none⟩ = some (.int .u8 (l[i].2.2.2 : Int)) := by
  obtain ⟨b, off, ha, hc⟩ := h.2.2.2 h0
  refine ⟨b, off, ha, fun i hi => ?_⟩
  obtain ⟨g0, g1, g2, g3⟩ := cols_get l i hi
  exact ⟨hc _ _ g0, hc _ _ g1, hc _ _ g2, hc _ _ g3⟩
theorem T_col : SlTK Tryz.prog 26 23 4 (.agg #[.int .u8 0, .int .u8 0, .int .u8 0, .int .u8 0]) 4 :=
  let ⟨i, h1, h2, h3, h4⟩ := info_parts (P := Tryz.prog) (e := 23) (z := .agg #[.int .u8 0, .int .u8 0, .int .u8 0, .int .u8 0]) (size := 4) (bytes := 4) (by kernel_rfl); ⟨Tryz.underlying26, by omega, i, h1, h2, h3, h4, rfl⟩
/-- A raster as an argument. -/
abbrev rst (x y : Int) (a : Option Addr) (n c : Nat) : Value := .agg #[.int .i64 x, .int .i64 y, .slice a n c]
/-- May a raster be so large? -/
def mayR (x y : Int) (n : Nat) : Bool := decide (1 ≤ x ∧ x ≤ 64 ∧ 1 ≤ y ∧ y ≤ 64 ∧ (n : Int) = x * y)
theorem mul_box {x y : Int} (h1 : 1 ≤ x) (h2 : x ≤ 64) (h3 : 1 ≤ y) (h4 : y ≤ 64) : 1 ≤ x * y ∧ x * y ≤ 4096 := by
  have a1 : x * 1 ≤ x * y := Int.mul_le_mul_of_nonneg_left h3 (by omega)
  have a2 : x * y ≤ x * 64 := Int.mul_le_mul_of_nonneg_left h4 (by omega)
  omega

end Go.Proofs.YtmibjfkpchncgaaGreat
