/- Words as numbers: the program's plain, down and Read. -/
import Derived.Test.YtcipcpbjkcpgdaaD1
import Derived.Laws.RangeAny
import Derived.Lib.Strings
namespace Go.Proofs.Ytcipcpbjkcpgdaa
set_option linter.unusedVariables false
open Go Go.RowKit

/-- Digits, as a number without a sign has them. -/
def PlainL (l : List Nat) : Prop := l ≠ [] ∧ (l.getD 0 0 = 48 → l.length ≤ 1) ∧ ∀ c ∈ l, 48 ≤ c ∧ c ≤ 57
instance (l : List Nat) : Decidable (PlainL l) := by unfold PlainL; infer_instance

theorem size_zero {s : ByteArray} (h : s.size = 0) : s = ⟨#[]⟩ := by
  obtain ⟨⟨l⟩⟩ := s
  have : l.length = 0 := h
  rw [List.eq_nil_of_length_eq_zero this]
theorem toList_data (s : ByteArray) : s.toList = s.data.toList := ByteArray.toList_eq s

/-- The number of digits. -/
def dval (l : List Nat) : Nat := l.foldl (fun a c => 10 * a + (c - 48)) 0
theorem dval_snoc (l : List Nat) (c : Nat) : dval (l ++ [c]) = 10 * dval l + (c - 48) := by simp [dval]
theorem dval_ge (l : List Nat) : ∀ a, a ≤ l.foldl (fun a c => 10 * a + (c - 48)) a := by
  induction l with
  | nil => intro a; exact Nat.le_refl _
  | cons c r ih => intro a; exact Nat.le_trans (by omega) (ih (10 * a + (c - 48)))
theorem dval_take (l : List Nat) (k : Nat) : dval (l.take k) ≤ dval l := by
  have h : l = l.take k ++ l.drop k := (List.take_append_drop k l).symm
  unfold dval
  conv => rhs; rw [h, List.foldl_append]
  exact dval_ge _ _
theorem dval_next {l : List Nat} {k c : Nat} (hk : k < l.length) (hc : l.getD k 0 = c) : dval (l.take (k + 1)) = 10 * dval (l.take k) + (c - 48) := by
  rw [List.take_succ_eq_append_getElem hk, dval_snoc]
  rw [List.getD_eq_getElem?_getD, List.getElem?_eq_getElem hk] at hc
  simp only [Option.getD_some] at hc
  rw [hc]

/-- What down answers. -/
def downR (v : Nat) : Value := if v ≤ 9223372036854775808 then .tuple #[.int .i64 (-(v : Int)), .bool true] else .tuple #[.int .i64 0, .bool false]

/-- What Read answers. -/
def readL (l : List Nat) (lo hi : Int) : Int × Nat :=
  let neg := l.getD 0 0 = 45
  let ds := if neg then l.drop 1 else l
  if ¬ PlainL ds ∨ (neg ∧ ds = [48]) then (0, 3)
  else
    let n : Int := if neg then -(dval ds : Int) else dval ds
    if (if neg then dval ds ≤ 9223372036854775808 else dval ds < 9223372036854775808) ∧ lo ≤ n ∧ n ≤ hi then (n, 0) else (0, 4)

theorem natsOf_drop1 (s : ByteArray) : natsOf (s.extract 1 s.size) = (natsOf s).drop 1 := by
  unfold natsOf
  rw [Lib.extract_data]
  have : (s.data.toList.drop 1).length = s.size - 1 := by simp
  rw [List.take_of_length_le (by omega), List.map_drop]
theorem eq_str {s : ByteArray} {l : List UInt8} : (s.toList == l) = decide (natsOf s = l.map UInt8.toNat) := by
  rw [toList_data]
  unfold natsOf
  by_cases h : s.data.toList = l
  · rw [h]; simp
  · have : ¬ s.data.toList.map UInt8.toNat = l.map UInt8.toNat := fun hh => h (List.map_inj_right (fun a b hab => UInt8.toNat_inj.1 hab) |>.1 hh)
    rw [decide_eq_false this]
    simpa using h

end Go.Proofs.Ytcipcpbjkcpgdaa
