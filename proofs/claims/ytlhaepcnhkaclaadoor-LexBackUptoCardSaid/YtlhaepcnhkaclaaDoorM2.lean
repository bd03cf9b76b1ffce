/- Joined: A1 A2 A3 A4 A5 A6 A7 A8 A9 A10. -/
import Derived.Test.YtlhaepcnhkaclaaDoorProg
import Derived.Test.YtlhaepcnhkaclaaDoorM1
import Derived.Outline
import Derived.Deep.QuietTactic
import Derived.BigQuiet
import Derived.Deep.DeepCutAuto
import Derived.Laws.IdiomStrings
namespace Go.Proofs.YtlhaepcnhkaclaaDoor
set_option linter.unusedVariables false
open Go Go.RowKit

set_option maxHeartbeats 400000 in
theorem nat_size_any (a : Option Addr) (n cap : Nat) (l : List Nat) (w : World) (hs : Sl w a n cap (ints .u32 l)) (hl : Ws l) (hn : n ≤ 17592186044416) :
    Calls Tryd.prog 98 #[.slice a n cap] w fun e w' => e = .returned (.int .i64 ((dig B32 (val B32 l)).length : Nat)) ∧ w = w' := by
  have hlen := hs.int_len
  have hcap := hs.2.1
  go_enter Tryd.func98, Tryd.ntmps98
  go_wp2
  go_loop [3] (fun i => ∃ k : Nat, k ≤ n ∧ i = .int .i64 k ∧ val B32 (l.take k) = val B32 l) (fun i => (intOf i).toNat)
  case atStart => exact ⟨n, by omega, rfl, by rw [List.take_of_length_le (by omega)]⟩
  case round =>
    obtain ⟨k, hk, rfl, hv⟩ := hrel
    have HV := hidP hv; clear hv
    by_cases h0 : 0 < k
    · obtain ⟨b, off, rfl, hc⟩ := hs.at_int (by omega)
      have hck := hc (k - 1) (by omega)
      clear hc
      have hck' := HV.out
      have HZ : Hid (l[k - 1] = 0 → val B32 (l.take (k - 1)) = val B32 l) := fun hz => by
        rw [← HV.out, ← val_take_of_zero B32 l (k - 1) (by omega) hz, Nat.sub_add_cancel h0]
      have HD : Hid (l[k - 1] ≠ 0 → (dig B32 (val B32 l)).length = k) := fun hz => by
        rw [← take_dig B32_two l hl k (by omega) (.inr ⟨by omega, hz⟩) HV.out, List.length_take]; omega
      clear hck'
      go_wp2
      · have hz : (((l[k - 1] : Nat) : Int) == 0) = true := by assumption
        go_round
        case rel => exact ⟨k - 1, by omega, by go_num, HZ.out (by simpa using hz)⟩
        case measure => simp [intOf]; omega
      · have hz : (((l[k - 1] : Nat) : Int) == 0) = false := by assumption
        go_ret
        exact ⟨ret_int (by rw [HD.out (by simpa using hz)]), rfl⟩
    · obtain rfl : k = 0 := by omega
      go_wp2
      go_ret
      have hv := HV.out
      simp only [List.take_zero, val] at hv
      exact ⟨ret_int (by rw [← hv, dig_zero]; rfl), rfl⟩
end Go.Proofs.YtlhaepcnhkaclaaDoor

namespace Go.Proofs.YtlhaepcnhkaclaaDoor
set_option linter.unusedVariables false
open Go Go.RowKit

theorem T_u32 : SlT Tryd.prog 98 130 (.int .u32 0) 4 :=
  let ⟨i, h1, h2, h3, h4⟩ := info_parts (P := Tryd.prog) (e := 130) (z := .int .u32 0) (size := 1) (bytes := 4) (by kernel_rfl); ⟨Tryd.underlying98, i, h1, h2, h3, h4, rfl⟩

end Go.Proofs.YtlhaepcnhkaclaaDoor

namespace Go.Proofs.YtlhaepcnhkaclaaDoor
set_option linter.unusedVariables false
open Go Go.RowKit

end Go.Proofs.YtlhaepcnhkaclaaDoor

namespace Go.Proofs.YtlhaepcnhkaclaaDoor
set_option linter.unusedVariables false
open Go Go.RowKit

theorem half_len {w : World} {a a1 : Option Addr} {n cap n1 cap1 : Nat} {x : List Nat} {w1 : World} (hs : Sl w a n cap (ints .u32 x)) (hx : Ws x) (hs1 : Sl w1 a1 n1 cap1 (ints .u64 (dig B16 (val B32 x)))) : n1 ≤ 2 * n := by
  have := hs1.int_len; have := dig16_len_le x hx; have := hs.int_len; unfold B16 B32 at *; omega

end Go.Proofs.YtlhaepcnhkaclaaDoor

namespace Go.Proofs.YtlhaepcnhkaclaaDoor
set_option linter.unusedVariables false
open Go Go.RowKit

theorem cut_sl {w : World} {a : Option Addr} {n cap : Nat} {D : List Nat} (hsl : Sl w a n cap (ints .u64 D)) (hD : Hs D) : Sl w a (dig B16 (val B16 D)).length cap (ints .u64 (dig B16 (val B16 D))) := by
  have ht := take_dig_len B16_two D hD
  have hx := hsl.take (dig B16 (val B16 D)).length (by have := dig_val_len B16_two D hD; have := hsl.int_len; omega)
  rw [ints_take, ht] at hx
  exact hx

end Go.Proofs.YtlhaepcnhkaclaaDoor

namespace Go.Proofs.YtlhaepcnhkaclaaDoor
set_option linter.unusedVariables false
open Go Go.RowKit

theorem digit_at {B : Nat} (hB : 0 < B) : ∀ (j : Nat) (l : List Nat), (∀ x ∈ l, x < B) → val B l / B ^ j % B = l.getD j 0
  | 0, l, h => by
    rw [val_head B l, Nat.pow_zero, Nat.div_one, Nat.add_mul_mod_self_left, Nat.mod_eq_of_lt (getD_lt hB h 0)]
  | j + 1, l, h => by
    rw [Nat.pow_succ, Nat.mul_comm, ← Nat.div_div_eq_div_mul]
    have e : val B l / B = val B l.tail := by
      rw [val_head B l, Nat.add_mul_div_left _ _ hB, Nat.div_eq_of_lt (getD_lt hB h 0), Nat.zero_add]
    rw [e, digit_at hB j l.tail (fun x hx => h x (List.mem_of_mem_tail hx)), getD_tail]
theorem bit_at {l : List Nat} (hl : Hs l) (i : Nat) : val B16 l / 2 ^ i % 2 = l.getD (i / 16) 0 / 2 ^ (i % 16) % 2 := by
  have e : i = 16 * (i / 16) + i % 16 := by omega
  have hr : i % 16 < 16 := Nat.mod_lt _ (by decide)
  rw [← digit_at (by decide : 0 < B16) (i / 16) l hl]
  generalize val B16 l = V at *
  generalize i / 16 = j at *
  generalize i % 16 = r at *
  subst e
  have e2 : (2 : Nat) ^ (16 * j + r) = B16 ^ j * 2 ^ r := by
    rw [Nat.pow_add, Nat.pow_mul]; rfl
  rw [e2, ← Nat.div_div_eq_div_mul]
  generalize V / B16 ^ j = x
  rw [← Nat.toNat_testBit, ← Nat.toNat_testBit]
  have : x % B16 = x % 2 ^ 16 := rfl
  rw [this, Nat.testBit_mod_two_pow]
  simp [hr]

end Go.Proofs.YtlhaepcnhkaclaaDoor

namespace Go.Proofs.YtlhaepcnhkaclaaDoor
set_option linter.unusedVariables false
open Go Go.RowKit

end Go.Proofs.YtlhaepcnhkaclaaDoor

namespace Go.Proofs.YtlhaepcnhkaclaaDoor
set_option linter.unusedVariables false
open Go Go.RowKit

theorem getD_zero_of_lt {B : Nat} (hB : 0 < B) {D : List Nat} (hD : ∀ x ∈ D, x < B) {m : Nat} (h : val B D < B ^ m) (j : Nat) (hj : m ≤ j) : D.getD j 0 = 0 := by
  rw [← digit_at hB j D hD, Nat.div_eq_of_lt (Nat.lt_of_lt_of_le h (Nat.pow_le_pow_right hB hj)), Nat.zero_mod]

theorem mul_step {B P V V' d c x y v R : Nat} (hv : v = d + x * y + c) (hset : V' + P * d = V + P * (v % B)) (h : V + P * c = R) : V' + P * B * (v / B) = R + P * (x * y) := by
  have := Nat.div_add_mod v B
  have e : P * (v % B) + P * B * (v / B) = P * v := by rw [Nat.mul_assoc, ← Nat.mul_add, Nat.add_comm, this]
  have e2 : P * v = P * d + P * (x * y) + P * c := by rw [hv, Nat.mul_add, Nat.mul_add]
  omega

end Go.Proofs.YtlhaepcnhkaclaaDoor

namespace Go.Proofs.YtlhaepcnhkaclaaDoor
set_option linter.unusedVariables false
open Go Go.RowKit

/-- Behind a piece of code all ways meet again. -/
theorem wp_cutAt {P : Program} {c : Code} {Q : Exit → Act → World → Prop} {a : Act} {w : World} (Φ : Act → Act → World → Prop)
    (h1 : c.wp P (fun e a' w' => e = .normal ∧ Φ a a' w') a w) (h2 : ∀ a' w', Φ a a' w' → Q .normal a' w') : c.wp P Q a w :=
  Code.wp_mono (fun e a' w' ⟨he, h⟩ => he ▸ h2 a' w' h) h1

theorem Row.other {w : World} {B e n : Nat} {g cap : Nat} {xs : List Value} (h : w.ownsRow B e 1 (.slice (some ⟨g, 0, none⟩) n cap) n xs) {p : Addr} (hp : p.block ≠ g) (u : Value) :
    (w.setCell p u).ownsRow B e 1 (.slice (some ⟨g, 0, none⟩) n cap) n xs :=
  World.ownsRow.kept h ⟨rfl, rfl, rfl, by simp, fun k _ hk => heap_setCell_other w p k u (fun e => hk (by rw [e]))⟩ (.inr (by simp [Value.ownBlock]; omega))

theorem Row.ext {w u : World} {B e n : Nat} {v : Value} {xs : List Value} (h : w.ownsRow B e 1 v n xs) (he : Ext w u) : u.ownsRow B e 1 v n xs :=
  World.ownsRow.kept (row := none) h ⟨he.os, he.tape, he.output, he.size, fun k hk _ => he.block k hk⟩ (by cases v.ownBlock <;> simp)
theorem div_half (V i : Nat) : V / 2 ^ i = 2 * (V / 2 ^ (i + 1)) + V / 2 ^ i % 2 := by
  rw [Nat.pow_succ, ← Nat.div_div_eq_div_mul]; omega
theorem digit_room {V q j t : Nat} (ht : t < 16) (h : V = 2 ^ (16 * j + t + 1) * q) : V / B16 ^ j % B16 + 2 ^ t < B16 := by
  have e1 : (2 : Nat) ^ (16 * j + t + 1) = B16 ^ j * 2 ^ (t + 1) := by
    rw [Nat.add_assoc, Nat.pow_add, Nat.pow_mul]; rfl
  have e2 : V / B16 ^ j = 2 ^ (t + 1) * q := by
    rw [h, e1, Nat.mul_assoc, Nat.mul_div_cancel_left _ (Nat.pow_pos (by decide))]
  have e3 : B16 = 2 ^ (t + 1) * 2 ^ (15 - t) := by rw [← Nat.pow_add, show t + 1 + (15 - t) = 16 by omega]; rfl
  rw [e2]
  have e4 : (2 ^ (t + 1) * q) % B16 = 2 ^ (t + 1) * (q % 2 ^ (15 - t)) := by
    rw [e3, Nat.mul_mod_mul_left]
  rw [e4]
  have h1 : q % 2 ^ (15 - t) + 1 ≤ 2 ^ (15 - t) := Nat.mod_lt _ (Nat.two_pow_pos _)
  have h2 : 2 ^ (t + 1) * (q % 2 ^ (15 - t) + 1) ≤ B16 := by rw [e3]; exact Nat.mul_le_mul_left _ h1
  have h3 : (2 : Nat) ^ t < 2 ^ (t + 1) := Nat.pow_lt_pow_right (by decide) (by omega)
  rw [Nat.mul_add] at h2
  omega
theorem mul2_lt {q VY r : Nat} : 2 * (q * VY + r) = (2 * q) * VY + 2 * r := by rw [Nat.mul_add, Nat.mul_assoc]

/-- The quotient's and the rest's words. -/
def RetDiv (w : World) (x y : Nat) (e : Ending) (w' : World) : Prop :=
  ∃ a n cap a' n' cap', e = .returned (.tuple #[.slice a n cap, .slice a' n' cap', .bool (decide (y ≠ 0))]) ∧ Sl w' a n cap (ints .u32 (if y = 0 then [] else dig B32 (x / y))) ∧ Sl w' a' n' cap' (ints .u32 (if y = 0 then [] else dig B32 (x % y))) ∧ Ext w w'

end Go.Proofs.YtlhaepcnhkaclaaDoor

namespace Go.Proofs.YtlhaepcnhkaclaaDoor
theorem pow_words' {m N : Nat} (h : m < 32 * N) : (dig B32 (2 ^ m)).length ≤ N := dig_len_le B32_two (by
  have : B32 ^ N = 2 ^ (32 * N) := by rw [Nat.pow_mul]; rfl
  rw [this]
  exact Nat.pow_lt_pow_right (by decide) h)
theorem pow_words {m : Nat} (h : m ≤ 4096) : (dig B32 (2 ^ m)).length ≤ 129 := pow_words' (N := 129) (by omega)

set_option linter.unusedVariables false
open Go Go.RowKit

/-- A number times a power of 2; none beyond the bounds. -/
def shl32 (V : Nat) (k : Int) : List Nat := if k > 4096 ∨ k < -4096 then [] else if 0 ≤ k then dig B32 (V * 2 ^ k.toNat) else dig B32 (V / 2 ^ (-k).toNat)

/-- The decimal digits of a number, the highest first. -/
def decD (n : Nat) : List Nat := if n = 0 then [0] else (dig 10 n).reverse
theorem decD_small {n : Nat} (h : n < 10) : decD n = [n] := by
  unfold decD
  split
  · rename_i h0; rw [h0]
  · rename_i h0
    rw [dig_pos (by decide) h0, Nat.div_eq_of_lt h, dig_zero, Nat.mod_eq_of_lt h]; rfl
theorem decD_step {n : Nat} (h : 10 ≤ n) : decD n = decD (n / 10) ++ [n % 10] := by
  unfold decD
  rw [if_neg (by omega), if_neg (by omega), dig_pos (by decide) (by omega : n ≠ 0)]
  simp
def decB (l : List Nat) : ByteArray := ⟨(l.map fun d => UInt8.ofNat (48 + d)).toArray⟩
/-- A number's text. -/
def decS (n : Nat) : ByteArray := decB (decD n)
theorem decB_append (l m : List Nat) : decB (l ++ m) = decB l ++ decB m := by
  apply ByteArray.ext
  simp [decB]
theorem decB_size (l : List Nat) : (decB l).size = l.length := by simp [decB, ByteArray.size]

theorem str1 (w : World) (d : Nat) (hd : d < 10) :
    (convert 22 9 (.slice (some ⟨w.heap.size, 0, none⟩) 1 1)).run Tryd.prog (w.alloc (.cells #[.int .u8 (48 + (d : Int))] 5)) = .ok (.string (decB [d])) (w.alloc (.cells #[.int .u8 (48 + (d : Int))] 5)) := by
  have := run_convert_bytes_back (P := Tryd.prog) (w.alloc (.cells #[.int .u8 (48 + (d : Int))] 5)) 22 9 5 ⟨w.heap.size, 0, none⟩ 1 [UInt8.ofNat (48 + d)] Tryd.underlying22 Tryd.underlying5 Tryd.underlying9 (fun j hj => by
    obtain rfl : j = 0 := by simpa using hj
    have : ((UInt8.ofNat (48 + d)).toNat : Int) = 48 + (d : Int) := by simp; omega
    simp only [List.getElem_cons_zero, this]
    go_simp)
  simpa [decB] using this

def strLen : Value → Nat
  | .string b => b.size
  | _ => 0

end Go.Proofs.YtlhaepcnhkaclaaDoor
