/- Contracts of both sides' numbers, by the number that a slice stands for. -/
import Derived.Test.YtcipcpbjkcpgdaaK9
import Derived.Test.YtcipcpbjkcpgdaaA10
import Derived.Test.YtcipcpbjkcpgdaaW2
import Derived.Test.YtcipcpbjkcpgdaaF1
namespace Go.Proofs.Ytcipcpbjkcpgdaa
set_option linter.unusedVariables false
open Go Go.RowKit

/-- How many words a number has. -/
def dl (V : Nat) : Nat := (dig B32 V).length
theorem dl_mono {a b : Nat} (h : a ≤ b) : dl a ≤ dl b := dig_mono B32_two h
theorem dl_lt (a : Nat) : a < B32 ^ dl a := le_of_dig_len B32_two (Nat.le_refl _)
theorem dl_le {a N : Nat} (h : a < B32 ^ N) : dl a ≤ N := dig_len_le B32_two h
theorem dl_add {a b N : Nat} (ha : dl a ≤ N) (hb : dl b ≤ N) : dl (a + b) ≤ N + 1 := by
  refine dl_le ?_
  have h1 := Nat.lt_of_lt_of_le (dl_lt a) (Nat.pow_le_pow_right (by decide : B32 > 0) ha)
  have h2 := Nat.lt_of_lt_of_le (dl_lt b) (Nat.pow_le_pow_right (by decide : B32 > 0) hb)
  have h3 : 2 * B32 ^ N ≤ B32 ^ (N + 1) := by rw [Nat.pow_succ, Nat.mul_comm]; exact Nat.mul_le_mul_left _ (by decide)
  omega
theorem dl_mul (a b : Nat) : dl (a * b) ≤ dl a + dl b := by
  refine dl_le ?_
  rw [Nat.pow_add]
  rcases Nat.eq_zero_or_pos b with h | h
  · subst h; exact Nat.mul_pos (Nat.pow_pos (by decide)) (Nat.pow_pos (by decide))
  · exact Nat.lt_of_lt_of_le (Nat.mul_lt_mul_of_pos_right (dl_lt a) h) (Nat.mul_le_mul_left _ (Nat.le_of_lt (dl_lt b)))
theorem dl_div (a b : Nat) : dl (a / b) ≤ dl a := dl_mono (Nat.div_le_self a b)
theorem dl_mod (a b : Nat) : dl (a % b) ≤ dl a := dl_mono (Nat.mod_le a b)
theorem dl_sub (a b : Nat) : dl (a - b) ≤ dl a := dl_mono (Nat.sub_le a b)
theorem dl_small {a : Nat} (h : a ≤ 4294967295) : dl a ≤ 1 := dl_le (by unfold B32; omega)
theorem dl_u64 {a : Nat} (h : a ≤ 18446744073709551615) : dl a ≤ 2 := dl_le (by unfold B32; omega)
theorem dig_inj {a b : Nat} : dig B32 a = dig B32 b ↔ a = b := ⟨fun h => by rw [← val_dig B32_two a, h, val_dig B32_two], fun h => by rw [h]⟩
theorem dl_zero : dl 0 = 0 := by unfold dl; rw [dig_zero]; rfl
theorem dl_eq_zero {a : Nat} : dl a = 0 ↔ a = 0 := by
  constructor
  · intro h
    have := dl_lt a
    rw [h, Nat.pow_zero] at this
    omega
  · intro h; rw [h]; exact dl_zero

/-- A slice stands for a number. -/
def Nu (w : World) (a : Option Addr) (n cap V : Nat) : Prop := (∃ l, Sl w a n cap (ints .u32 l) ∧ Ws l ∧ val B32 l = V) ∧ n ≤ 1099511627776
/-- It has that number's own words. -/
def Nc (w : World) (a : Option Addr) (n cap V : Nat) : Prop := Sl w a n cap (ints .u32 (dig B32 V))
theorem Nu.ext {w u : World} {a : Option Addr} {n cap V : Nat} (h : Nu w a n cap V) (he : Ext w u) : Nu u a n cap V := let ⟨⟨l, hs, hl, hv⟩, hn⟩ := h; ⟨⟨l, hs.ext he, hl, hv⟩, hn⟩
theorem Nc.ext {w u : World} {a : Option Addr} {n cap V : Nat} (h : Nc w a n cap V) (he : Ext w u) : Nc u a n cap V := Sl.ext h he
theorem Nc.len {w : World} {a : Option Addr} {n cap V : Nat} (h : Nc w a n cap V) : n = dl V := (Sl.int_len h).symm
theorem Nc.nu {w : World} {a : Option Addr} {n cap V : Nat} (h : Nc w a n cap V) (hd : dl V ≤ 1099511627776) : Nu w a n cap V := ⟨⟨_, h, Ws.dig _, val_dig B32_two _⟩, by rw [h.len]; exact hd⟩
theorem Nu.dl {w : World} {a : Option Addr} {n cap V : Nat} (h : Nu w a n cap V) : dl V ≤ n := by
  obtain ⟨⟨l, hs, hl, rfl⟩, hn⟩ := h
  have := dig_val_len B32_two l hl
  rw [hs.int_len] at this
  exact this
theorem Nc.zero (w : World) : Nc w none 0 0 0 := by unfold Nc; rw [dig_zero]; exact Sl.nil _
theorem Nc.lit1 (w : World) (d : Nat) (h : 1 ≤ d) (h2 : d ≤ 4294967295) (e : TypeId) : Nc (w.alloc (.cells #[.int .u32 (d : Int)] e)) (some ⟨w.heap.size, 0, none⟩) 1 1 d := by
  unfold Nc
  rw [dig_one (by omega) h2]
  exact Sl.lit w e #[.int .u32 (d : Int)] 1 rfl (by omega)

/-- The call hands back that number's own words. -/
def RetN (w : World) (V : Nat) (e : Ending) (w' : World) : Prop := ∃ a n cap, e = .returned (.slice a n cap) ∧ Nc w' a n cap V ∧ Ext w w'
theorem RetN.of {w : World} {V : Nat} {e : Ending} {w' : World} (h : RetSl w (ints .u32 (dig B32 V)) e w') : RetN w V e w' := h
/-- .. and whether it may be. -/
def RetNB (w : World) (V : Nat) (b : Bool) (e : Ending) (w' : World) : Prop := ∃ a n cap, e = .returned (.tuple #[.slice a n cap, .bool b]) ∧ Nc w' a n cap V ∧ Ext w w'
/-- A quotient and a rest. -/
def RetQR (w : World) (x y : Nat) (e : Ending) (w' : World) : Prop :=
  ∃ a n cap a' n' cap', e = .returned (.tuple #[.slice a n cap, .slice a' n' cap', .bool (decide (y ≠ 0))]) ∧ Nc w' a n cap (if y = 0 then 0 else x / y) ∧ Nc w' a' n' cap' (if y = 0 then 0 else x % y) ∧ Ext w w'
theorem RetQR.of {w : World} {x y : Nat} {e : Ending} {w' : World} (h : RetDiv w x y e w') : RetQR w x y e w' := by
  obtain ⟨a, n, cap, a', n', cap', he, h1, h2, h3⟩ := h
  refine ⟨a, n, cap, a', n', cap', he, ?_, ?_, h3⟩
  · unfold Nc
    split at h1
    · next h0 => rw [if_pos h0, dig_zero]; exact h1
    · next h0 => rw [if_neg h0]; exact h1
  · unfold Nc
    split at h2
    · next h0 => rw [if_pos h0, dig_zero]; exact h2
    · next h0 => rw [if_neg h0]; exact h2

section
variable {a a' : Option Addr} {n cap n' cap' V V' : Nat} {w : World}
theorem n_Trim (h : Nu w a n cap V) : Calls Try.prog 31 #[.slice a n cap] w (RetN w V) := by
  obtain ⟨⟨l, hs, hl, rfl⟩, hn⟩ := h; exact nat_Trim_any a n cap l w hs hl hn
theorem n_Bits (h : Nu w a n cap V) : Calls Try.prog 42 #[.slice a n cap] w fun e w' => e = .returned (.int .i64 (bitlen V : Nat)) ∧ w = w' := by
  obtain ⟨⟨l, hs, hl, rfl⟩, hn⟩ := h; exact nat_Bits_any a n cap l w hs hl hn
theorem n_Uint (h : Nu w a n cap V) : Calls Try.prog 27 #[.slice a n cap] w fun e w' => e = .returned (uintR V) ∧ w = w' := by
  obtain ⟨⟨l, hs, hl, rfl⟩, hn⟩ := h; exact nat_Uint_any a n cap l w hs hl hn
theorem n_Cmp (h : Nu w a n cap V) (h' : Nu w a' n' cap' V') : Calls Try.prog 38 #[.slice a n cap, .slice a' n' cap'] w fun e w' => e = .returned (.int .i64 (cmpI V V')) ∧ Ext w w' := by
  obtain ⟨⟨l, hs, hl, rfl⟩, hn⟩ := h; obtain ⟨⟨l', hs', hl', rfl⟩, hn'⟩ := h'; exact nat_Cmp_any a a' n cap n' cap' l l' w hs hs' hl hl' hn hn'
theorem n_Add (h : Nu w a n cap V) (h' : Nu w a' n' cap' V') : Calls Try.prog 40 #[.slice a n cap, .slice a' n' cap'] w (RetN w (V + V')) := by
  obtain ⟨⟨l, hs, hl, rfl⟩, hn⟩ := h; obtain ⟨⟨l', hs', hl', rfl⟩, hn'⟩ := h'; exact nat_Add_any a a' n cap n' cap' l l' w hs hs' hl hl' hn hn'
theorem n_Sub (h : Nu w a n cap V) (h' : Nu w a' n' cap' V') : Calls Try.prog 36 #[.slice a n cap, .slice a' n' cap'] w (RetNB w (V - V') (decide (V' ≤ V))) := by
  obtain ⟨⟨l, hs, hl, rfl⟩, hn⟩ := h; obtain ⟨⟨l', hs', hl', rfl⟩, hn'⟩ := h'; exact nat_Sub_any a a' n cap n' cap' l l' w hs hs' hl hl' hn hn'
theorem n_Mul (h : Nu w a n cap V) (h' : Nu w a' n' cap' V') : Calls Try.prog 45 #[.slice a n cap, .slice a' n' cap'] w (RetN w (V * V')) := by
  obtain ⟨⟨l, hs, hl, rfl⟩, hn⟩ := h; obtain ⟨⟨l', hs', hl', rfl⟩, hn'⟩ := h'; exact nat_Mul_any a a' n cap n' cap' l l' w hs hs' hl hl' hn hn'
theorem n_Div (h : Nu w a n cap V) (h' : Nu w a' n' cap' V') : Calls Try.prog 43 #[.slice a n cap, .slice a' n' cap'] w (RetQR w V V') := by
  obtain ⟨⟨l, hs, hl, rfl⟩, hn⟩ := h; obtain ⟨⟨l', hs', hl', rfl⟩, hn'⟩ := h'
  exact (nat_Div_any a a' n cap n' cap' l l' w hs hs' hl hl' hn hn').mono fun _ _ => RetQR.of
theorem n_Shift_up (h : Nu w a n cap V) (m : Nat) (hm : m ≤ 4096) : Calls Try.prog 34 #[.slice a n cap, .int .i64 (m : Int)] w (RetN w (V * 2 ^ m)) := by
  obtain ⟨⟨l, hs, hl, rfl⟩, hn⟩ := h
  have := nat_Shift_any a n cap l (m : Int) w hs hl (by omega) (by omega)
  rw [shl32_up hm] at this
  exact this
theorem n_Shift_down (h : Nu w a n cap V) (m : Nat) (hm : m ≤ 4096) : Calls Try.prog 34 #[.slice a n cap, .int .i64 (-(m : Int))] w (RetN w (V / 2 ^ m)) := by
  obtain ⟨⟨l, hs, hl, rfl⟩, hn⟩ := h
  have := nat_Shift_any a n cap l (-(m : Int)) w hs hl (by omega) (by omega)
  rw [shl32_down hm] at this
  exact this
theorem n_Text (h : Nu w a n cap V) : Calls Try.prog 23 #[.slice a n cap] w fun e w' => e = .returned (.string (decS V)) ∧ Ext w w' := by
  obtain ⟨⟨l, hs, hl, rfl⟩, hn⟩ := h; exact nat_Text_any a n cap l w hs hl hn
theorem n_Of (v : Nat) (w : World) (hv : v ≤ 18446744073709551615) : Calls Try.prog 32 #[.int .u64 v] w (RetN w v) := nat_Of_any v w hv

theorem d_Bits (h : Nu w a n cap V) : Calls Try.prog 28 #[.slice a n cap] w fun e w' => e = .returned (.int .i64 (bitlen V : Nat)) ∧ Ext w w' := by
  obtain ⟨⟨l, hs, hl, rfl⟩, hn⟩ := h; exact r01_Bits_any a n cap l w hs hl hn
theorem d_Cmp (h : Nu w a n cap V) (h' : Nu w a' n' cap' V') : Calls Try.prog 39 #[.slice a n cap, .slice a' n' cap'] w fun e w' => e = .returned (.int .i64 (cmpI V V')) ∧ Ext w w' := by
  obtain ⟨⟨l, hs, hl, rfl⟩, hn⟩ := h; obtain ⟨⟨l', hs', hl', rfl⟩, hn'⟩ := h'; exact r01_Cmp_any a a' n cap n' cap' l l' w hs hs' hl hl' hn hn'
theorem d_Add (h : Nu w a n cap V) (h' : Nu w a' n' cap' V') : Calls Try.prog 41 #[.slice a n cap, .slice a' n' cap'] w (RetN w (V + V')) := by
  obtain ⟨⟨l, hs, hl, rfl⟩, hn⟩ := h; obtain ⟨⟨l', hs', hl', rfl⟩, hn'⟩ := h'; exact r01_Add_any a a' n cap n' cap' l l' w hs hs' hl hl' hn hn'
theorem d_Sub (h : Nu w a n cap V) (h' : Nu w a' n' cap' V') : Calls Try.prog 37 #[.slice a n cap, .slice a' n' cap'] w (RetNB w (V - V') (decide (V' ≤ V))) := by
  obtain ⟨⟨l, hs, hl, rfl⟩, hn⟩ := h; obtain ⟨⟨l', hs', hl', rfl⟩, hn'⟩ := h'; exact r01_Sub_any a a' n cap n' cap' l l' w hs hs' hl hl' hn hn'
theorem d_Mul (h : Nu w a n cap V) (h' : Nu w a' n' cap' V') : Calls Try.prog 46 #[.slice a n cap, .slice a' n' cap'] w (RetN w (V * V')) := by
  obtain ⟨⟨l, hs, hl, rfl⟩, hn⟩ := h; obtain ⟨⟨l', hs', hl', rfl⟩, hn'⟩ := h'; exact r01_Mul_any a a' n cap n' cap' l l' w hs hs' hl hl' hn hn'
theorem d_Div (h : Nu w a n cap V) (h' : Nu w a' n' cap' V') : Calls Try.prog 44 #[.slice a n cap, .slice a' n' cap'] w (RetQR w V V') := by
  obtain ⟨⟨l, hs, hl, rfl⟩, hn⟩ := h; obtain ⟨⟨l', hs', hl', rfl⟩, hn'⟩ := h'
  exact (r01_Div_any a a' n cap n' cap' l l' w hs hs' hl hl' hn hn').mono fun _ _ => RetQR.of
theorem d_Power (m : Nat) (w : World) (hm : m ≤ 35184372088832) : Calls Try.prog 124 #[.int .i64 m] w (RetN w (2 ^ m)) := r01_Power_any m w hm
theorem d_Of (v : Nat) (w : World) (hv : v ≤ 18446744073709551615) : Calls Try.prog 33 #[.int .u64 v] w (RetN w v) := r01_Of_any v hv w
theorem d_Text (h : Nu w a n cap V) (hD : (decD V).length ≤ 35184372088832) : Calls Try.prog 24 #[.slice a n cap] w fun e w' => e = .returned (.string (decS V)) ∧ Ext w w' := by
  obtain ⟨⟨l, hs, hl, rfl⟩, hn⟩ := h; exact r01_Text_any a n cap l w hs hl hn hD
/-- Digits of 16 bits. -/
theorem d_Half (h : Nu w a n cap V) : Calls Try.prog 30 #[.slice a n cap] w fun e w' => ∃ a n cap, e = .returned (.slice a n cap) ∧ Sl w' a n cap (ints .u64 (dig B16 V)) ∧ n ≤ 2199023255552 ∧ Ext w w' := by
  obtain ⟨⟨l, hs, hl, rfl⟩, hn⟩ := h
  refine (r01_half_any a n cap l w hs hl hn).mono ?_
  rintro e w' ⟨a2, n2, c2, rfl, h2, h3⟩
  refine ⟨a2, n2, c2, rfl, h2, ?_, h3⟩
  have h4 : (dig B16 (val B32 l)).length ≤ 2 * l.length := dig16_len_le l (fun d hd => hl d hd)
  have h5 := h2.int_len
  have h6 := hs.int_len
  omega
theorem d_Words (h : Sl w a n cap (ints .u64 (dig B16 V))) (hn : n ≤ 2199023255552) : Calls Try.prog 29 #[.slice a n cap] w (RetN w V) := by
  have := r01_words_any a n cap (dig B16 V) w h (Hs.dig _) (by omega)
  rw [val_dig B16_two] at this
  exact this
theorem d_Same (h : Nc w a n cap V) (h' : Nc w a' n' cap' V') (hn : dl V ≤ 1099511627776) : Calls Try.prog 25 #[.slice a n cap, .slice a' n' cap'] w fun e w' => e = .returned (.bool (decide (V = V'))) ∧ Ext w w' := by
  have := r01_Same_any a a' n cap n' cap' (dig B32 V) (dig B32 V') w h h' (by rw [h.len]; exact hn)
  have e : decide (dig B32 V = dig B32 V') = decide (V = V') := by rw [Bool.eq_iff_iff]; simp [dig_inj]
  rwa [e] at this
theorem d_Same_eq (h : Nc w a n cap V) (h' : Nc w a' n' cap' V) (hn : dl V ≤ 1099511627776) : Calls Try.prog 25 #[.slice a n cap, .slice a' n' cap'] w fun e w' => e = .returned (.bool true) ∧ Ext w w' := by
  have := d_Same h h' hn
  rwa [decide_eq_true rfl] at this
end
end Go.Proofs.Ytcipcpbjkcpgdaa
