/- Plain facts on bits. -/
import Derived.Test.YtcipcpbjkcpgdaaMem
import Derived.Lib.BitFns
namespace Go.Proofs.Ytcipcpbjkcpgdaa
set_option linter.unusedVariables false
open Go Go.RowKit

/-- A slice and a yes or no. -/
def RetSlB (w : World) (xs : List Value) (b : Bool) (e : Ending) (w' : World) : Prop := ∃ a n cap, e = .returned (.tuple #[.slice a n cap, .bool b]) ∧ Sl w' a n cap xs ∧ Ext w w'

theorem cmpI_lt {a b : Nat} (h : a < b) : cmpI a b = -1 := by simp [cmpI, h]
theorem cmpI_ge {a b : Nat} (h : b ≤ a) : 0 ≤ cmpI a b := by
  unfold cmpI; rw [if_neg (by omega)]; split <;> omega

theorem lo32 (v : Nat) (h : v ≤ 18446744073709551615) : bits .and .u64 (v : Int) 4294967295 = ((v % 4294967296 : Nat) : Int) := by
  have h1 := u64_and_nat v 4294967295 (by omega) (by omega)
  have h2 : v &&& 4294967295 = v % 4294967296 := by
    have := Nat.and_two_pow_sub_one_eq_mod v 32
    simpa using this
  rw [h2] at h1
  exact h1

theorem borrow_plain (x y c : Nat) (hx : x ≤ 4294967295) (hy : y ≤ 4294967295) (hc : c ≤ 1) :
    (((4294967295 ^^^ x) &&& y) ||| ((4294967295 ^^^ (x ^^^ y)) &&& ((4294967296 + x - y - c) % 4294967296))) / 2147483648 = 1 - (4294967296 + x - y - c) / 4294967296 := by
  have e : (2147483648 : Nat) = 2 ^ 31 := by decide
  rw [e, ← Nat.shiftRight_eq_div_pow, Nat.shiftRight_or_distrib, Nat.shiftRight_and_distrib, Nat.shiftRight_and_distrib, Nat.shiftRight_xor_distrib, Nat.shiftRight_xor_distrib, Nat.shiftRight_xor_distrib]
  have hM : (4294967295 : Nat) >>> 31 = 1 := by decide
  rw [hM]
  have sx : x >>> 31 = x / 2147483648 := by rw [Nat.shiftRight_eq_div_pow]
  have sy : y >>> 31 = y / 2147483648 := by rw [Nat.shiftRight_eq_div_pow]
  have sd : ((4294967296 + x - y - c) % 4294967296) >>> 31 = (4294967296 + x - y - c) % 4294967296 / 2147483648 := by rw [Nat.shiftRight_eq_div_pow]
  rw [sx, sy, sd]
  obtain ⟨a, ha⟩ : ∃ a, a = x / 2147483648 := ⟨_, rfl⟩
  obtain ⟨b, hb⟩ : ∃ b, b = y / 2147483648 := ⟨_, rfl⟩
  obtain ⟨d, hd⟩ : ∃ d, d = (4294967296 + x - y - c) % 4294967296 / 2147483648 := ⟨_, rfl⟩
  obtain ⟨r, hr⟩ : ∃ r, r = 1 - (4294967296 + x - y - c) / 4294967296 := ⟨_, rfl⟩
  rw [← ha, ← hb, ← hd, ← hr]
  have h1 : a = 0 ∨ a = 1 := by omega
  have h2 : b = 0 ∨ b = 1 := by omega
  have h3 : d = 0 ∨ d = 1 := by omega
  have h4 : r = 0 ∨ r = 1 := by omega
  rcases h1 with rfl | rfl <;> rcases h2 with rfl | rfl <;> rcases h3 with rfl | rfl <;> rcases h4 with rfl | rfl <;> first | decide | (exfalso; omega)

theorem borrow_bits (x y c : Nat) (hx : x ≤ 4294967295) (hy : y ≤ 4294967295) (hc : c ≤ 1) :
    (bits .or .u32 (bits .and .u32 (bits .xor .u32 IntKind.u32.max (x : Int)) (y : Int)) (bits .and .u32 (bits .xor .u32 IntKind.u32.max (bits .xor .u32 (x : Int) (y : Int))) (((x : Int) - (y : Int) - (c : Int)) % 4294967296))) / 2147483648 =
      ((1 - (4294967296 + x - y - c) / 4294967296 : Nat) : Int) := by
  have hmax : IntKind.u32.max = ((4294967295 : Nat) : Int) := by decide
  have hxor : ∀ a b : Nat, a < 4294967296 → b < 4294967296 → a ^^^ b < 4294967296 := fun a b ha hb => Nat.xor_lt_two_pow (n := 32) ha hb
  have hand : ∀ a b : Nat, a < 4294967296 → a &&& b < 4294967296 := fun a b ha => Nat.lt_of_le_of_lt Nat.and_le_left ha
  have hd : ((x : Int) - (y : Int) - (c : Int)) % 4294967296 = (((4294967296 + x - y - c) % 4294967296 : Nat) : Int) := by omega
  have hdl : (4294967296 + x - y - c) % 4294967296 < 4294967296 := Nat.mod_lt _ (by decide)
  rw [hmax, hd, u32_xor_nat _ _ (by decide) (by omega), u32_xor_nat x y (by omega) (by omega), u32_xor_nat _ _ (by decide) (hxor _ _ (by omega) (by omega)),
    u32_and_nat _ _ (hxor _ _ (by decide) (by omega)) (by omega), u32_and_nat _ _ (hxor _ _ (by decide) (hxor _ _ (by omega) (by omega))) hdl,
    u32_or_nat _ _ (hand _ _ (hxor _ _ (by decide) (by omega))) (hand _ _ (hxor _ _ (by decide) (hxor _ _ (by omega) (by omega))))]
  rw [← borrow_plain x y c hx hy hc]
  rfl

theorem or32 (r a : Nat) (hr : r ≤ 4294967295) (ha : a ≤ 4294967295) : bits .or .u64 ((r : Int) * 4294967296) (a : Int) = ((r * 4294967296 + a : Nat) : Int) := by
  have h1 := u64_or_nat (r * 4294967296) a (by omega) (by omega)
  have h2 : r * 4294967296 ||| a = r * 4294967296 + a := by
    have := Nat.shiftLeft_add_eq_or_of_lt (i := 32) (b := a) (by omega) r
    rw [Nat.shiftLeft_eq] at this
    exact this.symm
  rw [h2] at h1
  exact h1

/-- How many bits a number has. -/
def bitlen (n : Nat) : Nat := if n = 0 then 0 else n.log2 + 1
theorem bitlen_of {n i : Nat} (h1 : 2 ^ i ≤ n) (h2 : n < 2 ^ (i + 1)) : bitlen n = i + 1 := by
  have h0 : n ≠ 0 := by have := Nat.two_pow_pos i; omega
  unfold bitlen
  rw [if_neg h0]
  have := (Nat.log2_eq_iff h0).2 ⟨h1, h2⟩
  omega
theorem bitlen_zero : bitlen 0 = 0 := rfl
theorem lt_bitlen (n : Nat) : n < 2 ^ bitlen n := by
  unfold bitlen
  split
  · omega
  · exact Nat.lt_log2_self
theorem bitlen_le {n k : Nat} (h : n < 2 ^ k) : bitlen n ≤ k := by
  unfold bitlen
  split
  · omega
  · rename_i h0
    have := (Nat.log2_lt h0).2 h
    omega

theorem bitlen_top {k lo d : Nat} (hlo : lo < B32 ^ k) (hd : d ≠ 0) : bitlen (lo + B32 ^ k * d) = k * 32 + bitlen d := by
  have e : B32 ^ k = 2 ^ (k * 32) := by rw [Nat.mul_comm, Nat.pow_mul]; rfl
  rw [e] at hlo ⊢
  have h1 := Nat.log2_self_le hd
  have h2 : d < 2 ^ (d.log2 + 1) := Nat.lt_log2_self
  have hb : bitlen d = d.log2 + 1 := by unfold bitlen; rw [if_neg hd]
  rw [hb, ← Nat.add_assoc]
  apply bitlen_of
  · rw [Nat.pow_add]
    exact Nat.le_trans (Nat.mul_le_mul_left _ h1) (Nat.le_add_left _ _)
  · rw [Nat.add_assoc, Nat.pow_add]
    have h3 : 2 ^ (k * 32) * (d + 1) ≤ 2 ^ (k * 32) * 2 ^ (d.log2 + 1) := Nat.mul_le_mul_left _ h2
    rw [Nat.mul_add] at h3
    omega

theorem bitLen_eq : ∀ (f n : Nat), n < 2 ^ f → Lib.bitLenAux f n = bitlen n
  | 0, n, h => by
    obtain rfl : n = 0 := by simpa using h
    rfl
  | f + 1, n, h => by
    unfold Lib.bitLenAux
    split
    · rename_i h0; subst h0; rfl
    · rename_i h0
      have ih := bitLen_eq f (n / 2) (by rw [Nat.pow_succ] at h; omega)
      rw [ih]
      by_cases h1 : n / 2 = 0
      · obtain rfl : n = 1 := by omega
        rfl
      · have e1 := Nat.log2_self_le h1
        have e2 : n / 2 < 2 ^ ((n / 2).log2 + 1) := Nat.lt_log2_self
        have hb : bitlen (n / 2) = (n / 2).log2 + 1 := by unfold bitlen; rw [if_neg h1]
        rw [hb]
        have := bitlen_of (n := n) (i := (n / 2).log2 + 1) (by rw [Nat.pow_succ]; omega) (by rw [Nat.pow_succ]; omega)
        omega

end Go.Proofs.Ytcipcpbjkcpgdaa
