/- The document's bytes in figures (frisketref07), and the program's (figure). -/
import Derived.Test.YtcipcpbjkcpgdaaProg
import Derived.Test.YtcipcpbjkcpgdaaMem2
import Derived.Test.YtcipcpbjkcpgdaaD0
import Derived.Outline
import Derived.Lib.BitFns
import Derived.Laws.Rows
import Derived.Deep.DeepCutAuto
namespace Go.Proofs.Ytcipcpbjkcpgdaa
set_option linter.unusedVariables false
open Go Go.RowKit

theorem T_u8 : SlT Try.prog 105 5 (.int .u8 0) 1 :=
  let ⟨i, h1, h2, h3, h4⟩ := info_parts (P := Try.prog) (e := 5) (z := .int .u8 0) (size := 1) (bytes := 1) (by kernel_rfl); ⟨Try.underlying105, i, h1, h2, h3, h4, rfl⟩

/-- 'string(b)'. -/
theorem str_of {w : World} {a : Option Addr} {n cap : Nat} {l : List Nat} (hs : Sl w a n cap (ints .u8 l)) (hl : ∀ x ∈ l, x ≤ 255) :
    (convert 105 9 (.slice a n cap)).run Try.prog w = .ok (.string (bytesOf l)) w := by
  have hlen := hs.int_len
  by_cases h0 : 0 < n
  · obtain ⟨b, off, rfl, hc⟩ := hs.at_int h0
    have := run_convert_bytes_back (P := Try.prog) w 105 9 5 ⟨b, off, none⟩ cap (l.map UInt8.ofNat) Try.underlying105 Try.underlying5 Try.underlying9 (fun j hj => by
      have hj' : j < l.length := by simpa using hj
      have hle := hl l[j] (List.getElem_mem hj')
      have e1 : ((((l.map UInt8.ofNat)[j]'hj).toNat : Nat) : Int) = (l[j] : Nat) := by simp; omega
      rw [e1, ← hc j hj']
      unfold Addr.add
      by_cases hz : j = 0
      · subst hz; simp
      · simp [hz])
    rw [List.length_map, hlen] at this
    exact this
  · obtain rfl : n = 0 := by omega
    obtain rfl : l = [] := List.eq_nil_of_length_eq_zero hlen
    cases a with
    | none => exact run_convert_bytes_nil w 105 5 Try.underlying105 Try.underlying5 0 cap 9 Try.underlying9
    | some a =>
      exact run_convert_bytes_back (P := Try.prog) w 105 9 5 a cap [] Try.underlying105 Try.underlying5 Try.underlying9 (fun j hj => by simp at hj)

theorem or_fig (x y : Nat) (hx : x ≤ 15) (hy : y ≤ 15) : bits .or .u8 ((x : Int) * 16) (y : Int) = 16 * (x : Int) + (y : Int) := by
  have h1 := u8_or_nat (x * 16) y (by omega) (by omega)
  have h2 : x * 16 ||| y = x * 16 + y := by
    have := Nat.shiftLeft_add_eq_or_of_lt (i := 4) (b := y) (by omega) x
    rw [Nat.shiftLeft_eq] at this
    exact this.symm
  rw [h2] at h1
  have e : (((x * 16 : Nat) : Nat) : Int) = (x : Int) * 16 := by omega
  rw [e] at h1
  rw [h1]
  omega
/-- The value of a figure, and whether it is one. -/
def valueR (c : Nat) : Value := .tuple #[.int .u8 (((digv c).getD 0 : Nat) : Int), .bool (digv c).isSome]

end Go.Proofs.Ytcipcpbjkcpgdaa
