/- Joined: R1 R2 R3 R4 R5 R6. -/
import Derived.Test.YtmibjfkpchncgaaM4
import Derived.Deep.DeepCutAuto
import Derived.Deep.CutBlock
import Derived.WalkMore
import Derived.ScopeJumps
namespace Go.Proofs.Ytmibjfkpchncgaa
set_option linter.unusedVariables false
open Go Go.RowKit

theorem Nc.uniq {w : World} {a : Option Addr} {n cap V V' : Nat} (h : Nc w a n cap V) (h' : Nc w a n cap V') : V = V' := by
  have hl : (dig B32 V).length = (dig B32 V').length := by rw [Sl.int_len h, Sl.int_len h']
  have e : dig B32 V = dig B32 V' := by
    refine List.ext_getElem hl fun i hi hi' => ?_
    have h0 : 0 < n := by have := Sl.int_len h; omega
    obtain ⟨b, off, ha, hc⟩ := Sl.at_int h h0
    obtain ⟨b', off', ha', hc'⟩ := Sl.at_int h' h0
    rw [ha] at ha'
    simp only [Option.some.injEq, Addr.mk.injEq, and_true] at ha'
    obtain ⟨rfl, rfl⟩ := ha'
    have h1 := hc i hi
    rw [hc' i hi'] at h1
    simp at h1
    omega
  exact dig_inj.1 e
theorem uR_yes {V : Nat} (h : V ≤ 18446744073709551615) : uintR V = .tuple #[.int .u64 (V : Int), .bool true] := by unfold uintR; rw [if_pos h]
theorem uR_no {V : Nat} (h : ¬ V ≤ 18446744073709551615) : uintR V = .tuple #[.int .u64 0, .bool false] := by unfold uintR; rw [if_neg h]
open Classical in
/-- The number that a slice stands for. -/
noncomputable def rdv (w : World) (v : Value) : Nat := if h : ∃ V a n c, v = .slice a n c ∧ Nc w a n c V then Classical.choose h else 0
theorem rdv_eq {w : World} {a : Option Addr} {n c V : Nat} (h : Nc w a n c V) : rdv w (.slice a n c) = V := by
  have he : ∃ V a' n' c', Value.slice a n c = .slice a' n' c' ∧ Nc w a' n' c' V := ⟨V, a, n, c, rfl, h⟩
  unfold rdv
  rw [dif_pos he]
  obtain ⟨a', n', c', e, h2⟩ := Classical.choose_spec he
  cases e
  exact h2.uniq h

/-- Two numbers. -/
def RetN2 (w : World) (V V' : Nat) (e : Ending) (w' : World) : Prop := ∃ a n cap a' n' cap', e = .returned (.tuple #[.slice a n cap, .slice a' n' cap']) ∧ Nc w' a n cap V ∧ Nc w' a' n' cap' V' ∧ Ext w w'

theorem cmpI_eq {a b : Nat} : cmpI a b = 0 ↔ a = b := by
  unfold cmpI
  split
  · constructor <;> intro h <;> omega
  · split
    · constructor <;> intro h <;> omega
    · constructor <;> intro h <;> omega

end Go.Proofs.Ytmibjfkpchncgaa

namespace Go.Proofs.Ytmibjfkpchncgaa
set_option linter.unusedVariables false
open Go Go.RowKit

/-- A number's own words, each as 64 bits. -/
def Qc (w : World) (a : Option Addr) (n cap V : Nat) : Prop := Sl w a n cap (ints .u64 (dig B32 V))
theorem Qc.ext {w u : World} {a : Option Addr} {n cap V : Nat} (h : Qc w a n cap V) (he : Ext w u) : Qc u a n cap V := Sl.ext h he
theorem Qc.len {w : World} {a : Option Addr} {n cap V : Nat} (h : Qc w a n cap V) : n = dl V := (Sl.int_len h).symm
def RetQ (w : World) (V : Nat) (e : Ending) (w' : World) : Prop := ∃ a n cap, e = .returned (.slice a n cap) ∧ Qc w' a n cap V ∧ Ext w w'

theorem half_word {x y : Nat} : x / 2 + y % 2 * 2147483648 = (x + 4294967296 * y) / 2 % 4294967296 ↔ x < 4294967296 ∨ x / 2 + y % 2 * 2147483648 = (x + 4294967296 * y) / 2 % 4294967296 := by
  constructor
  · exact .inr
  · rintro (h | h)
    · omega
    · exact h

theorem lt_by_len {a b : Nat} (h : dl a < dl b) : a < b := by
  rcases Nat.lt_or_ge a b with h1 | h1
  · exact h1
  · have := dl_mono h1; omega

end Go.Proofs.Ytmibjfkpchncgaa

namespace Go.Proofs.Ytmibjfkpchncgaa
set_option linter.unusedVariables false
open Go Go.RowKit

end Go.Proofs.Ytmibjfkpchncgaa

namespace Go.Proofs.Ytmibjfkpchncgaa
set_option linter.unusedVariables false
open Go Go.RowKit

theorem Qc.uniq {w : World} {a : Option Addr} {n cap V V' : Nat} (h : Qc w a n cap V) (h' : Qc w a n cap V') : V = V' := by
  have hl : (dig B32 V).length = (dig B32 V').length := by rw [Sl.int_len h, Sl.int_len h']
  have e : dig B32 V = dig B32 V' := by
    refine List.ext_getElem hl fun i hi hi' => ?_
    have h0 : 0 < n := by have := Sl.int_len h; omega
    obtain ⟨b, off, ha, hc⟩ := Sl.at_int h h0
    obtain ⟨b', off', ha', hc'⟩ := Sl.at_int h' h0
    rw [ha] at ha'
    simp only [Option.some.injEq, Addr.mk.injEq, and_true] at ha'
    obtain ⟨rfl, rfl⟩ := ha'
    have h1 := hc i hi
    rw [hc' i hi'] at h1
    simp at h1
    omega
  exact dig_inj.1 e
open Classical in
noncomputable def rdq (w : World) (v : Value) : Nat := if h : ∃ V a n c, v = .slice a n c ∧ Qc w a n c V then Classical.choose h else 0
theorem rdq_eq {w : World} {a : Option Addr} {n c V : Nat} (h : Qc w a n c V) : rdq w (.slice a n c) = V := by
  have he : ∃ V a' n' c', Value.slice a n c = .slice a' n' c' ∧ Qc w a' n' c' V := ⟨V, a, n, c, rfl, h⟩
  unfold rdq
  rw [dif_pos he]
  obtain ⟨a', n', c', e, h2⟩ := Classical.choose_spec he
  cases e
  exact h2.uniq h
/-- A number's lowest word. -/
theorem Qc.low {w : World} {a : Option Addr} {n cap V : Nat} (h : Qc w a n cap V) (h0 : V ≠ 0) : 0 < n ∧ ∃ b off, a = some ⟨b, off, none⟩ ∧ w.cell? ⟨b, off, none⟩ = some (.int .u64 ((V % 4294967296 : Nat) : Int)) := by
  have hn : 0 < n := by
    rw [h.len]
    rcases Nat.eq_zero_or_pos (dl V) with h1 | h1
    · exact absurd (dl_eq_zero.1 h1) h0
    · exact h1
  obtain ⟨b, off, ha, hc⟩ := Sl.at_int h hn
  refine ⟨hn, b, off, ha, ?_⟩
  have hp := dig_pos B32_two h0
  have h1 := hc 0 (by rw [hp]; simp)
  have h2 : (dig B32 V)[0]'(by rw [hp]; simp) = V % B32 := by simp [hp]
  rw [h2] at h1
  exact h1
theorem gcd_both {x y : Nat} (hx : x % 2 = 0) (hy : y % 2 = 0) : Nat.gcd x y = 2 * Nat.gcd (x / 2) (y / 2) := by
  have e1 : x = 2 * (x / 2) := by omega
  have e2 : y = 2 * (y / 2) := by omega
  calc Nat.gcd x y = Nat.gcd (2 * (x / 2)) (2 * (y / 2)) := by rw [← e1, ← e2]
    _ = 2 * Nat.gcd (x / 2) (y / 2) := Nat.gcd_mul_left 2 _ _
theorem gcd_left {x y : Nat} (hx : x % 2 = 0) (ho : Nat.gcd x y % 2 = 1) : Nat.gcd (x / 2) y = Nat.gcd x y := by
  have e1 : x = 2 * (x / 2) := by omega
  refine Nat.dvd_antisymm ?_ ?_
  · refine Nat.dvd_gcd (Nat.dvd_trans (Nat.gcd_dvd_left _ _) ?_) (Nat.gcd_dvd_right _ _)
    exact ⟨2, by omega⟩
  · refine Nat.dvd_gcd ?_ (Nat.gcd_dvd_right _ _)
    have hd := Nat.gcd_dvd_left x y
    have hc : Nat.Coprime (Nat.gcd x y) 2 := by
      have : Nat.gcd (Nat.gcd x y) 2 ∣ 2 := Nat.gcd_dvd_right _ _
      have h2 : Nat.gcd (Nat.gcd x y) 2 ∣ Nat.gcd x y := Nat.gcd_dvd_left _ _
      have h3 : Nat.gcd (Nat.gcd x y) 2 ≤ 2 := Nat.le_of_dvd (by omega) this
      have h4 : Nat.gcd (Nat.gcd x y) 2 ≠ 2 := fun h => by
        rw [h] at h2
        obtain ⟨k, hk⟩ := h2
        omega
      have h5 : Nat.gcd (Nat.gcd x y) 2 ≠ 0 := fun h => by rw [h] at this; obtain ⟨k, hk⟩ := this; omega
      show Nat.gcd (Nat.gcd x y) 2 = 1
      omega
    exact hc.dvd_of_dvd_mul_left (by rw [← e1]; exact hd)
theorem gcd_odd {x y : Nat} (h : ¬ (x % 2 = 0 ∧ y % 2 = 0)) : Nat.gcd x y % 2 = 1 := by
  rcases Nat.mod_two_eq_zero_or_one (Nat.gcd x y) with h0 | h1
  · exfalso
    refine h ⟨?_, ?_⟩
    · have := Nat.gcd_dvd_left x y
      exact Nat.mod_eq_zero_of_dvd (Nat.dvd_trans (Nat.dvd_of_mod_eq_zero h0) this)
    · have := Nat.gcd_dvd_right x y
      exact Nat.mod_eq_zero_of_dvd (Nat.dvd_trans (Nat.dvd_of_mod_eq_zero h0) this)
  · exact h1
theorem low_mod {V : Nat} : (V % 4294967296) % 2 = V % 2 := by omega

end Go.Proofs.Ytmibjfkpchncgaa

namespace Go.Proofs.Ytmibjfkpchncgaa
set_option linter.unusedVariables false
open Go Go.RowKit

/-- The greatest number whose square isn't above. -/
def isq : Nat → Nat
  | 0 => 0
  | n + 1 => if (isq n + 1) * (isq n + 1) ≤ n + 1 then isq n + 1 else isq n
theorem isq_spec (n : Nat) : isq n * isq n ≤ n ∧ n < (isq n + 1) * (isq n + 1) := by
  induction n with
  | zero => simp [isq]
  | succ n ih =>
    unfold isq
    split
    · next h =>
      refine ⟨h, ?_⟩
      have h1 : (isq n + 1) * (isq n + 1) < (isq n + 1 + 1) * (isq n + 1 + 1) := Nat.mul_lt_mul'' (by omega) (by omega)
      omega
    · next h => exact ⟨by omega, by omega⟩
theorem sq_lt {a b : Nat} (h : a * a < b * b) : a < b := by
  rcases Nat.lt_or_ge a b with h1 | h1
  · exact h1
  · have := Nat.mul_le_mul h1 h1; omega
theorem isq_uniq {n s : Nat} (h1 : s * s ≤ n) (h2 : n < (s + 1) * (s + 1)) : s = isq n := by
  obtain ⟨h3, h4⟩ := isq_spec n
  have a1 : s < isq n + 1 := sq_lt (Nat.lt_of_le_of_lt h1 h4)
  have a2 : isq n < s + 1 := sq_lt (Nat.lt_of_le_of_lt h3 h2)
  omega
/-- Newton's step stays above. -/
theorem newton_ge {A x : Nat} (hx : 0 < x) : isq A ≤ (x + A / x) / 2 := by
  obtain ⟨h1, h2⟩ := isq_spec A
  rw [Nat.le_div_iff_mul_le (by decide)]
  have hq : A < (A / x + 1) * x := by
    have := Nat.div_add_mod A x
    have := Nat.mod_lt A hx
    rw [Nat.add_mul, Nat.one_mul, Nat.mul_comm]
    omega
  generalize A / x = q at *
  generalize isq A = s at *
  have h3 : (2 * s) * (2 * s) < (x + (q + 1)) * (x + (q + 1)) := by
    have h4 : s * s < (q + 1) * x := by omega
    have h5 : 4 * ((q + 1) * x) ≤ (x + (q + 1)) * (x + (q + 1)) := by
      generalize q + 1 = r
      have e1 : (x + r) * (x + r) = x * x + x * r + (r * x + r * r) := by rw [Nat.add_mul, Nat.mul_add, Nat.mul_add]
      have e2 : 2 * (r * x) ≤ x * x + r * r := by
        rcases Nat.le_total x r with h | h
        · obtain ⟨d, rfl⟩ := Nat.exists_eq_add_of_le h
          have : (x + d) * (x + d) = x * x + x * d + (d * x + d * d) := by rw [Nat.add_mul, Nat.mul_add, Nat.mul_add]
          have h6 : (x + d) * x = x * x + d * x := Nat.add_mul _ _ _
          have h7 : x * d = d * x := Nat.mul_comm _ _
          omega
        · obtain ⟨d, rfl⟩ := Nat.exists_eq_add_of_le h
          have : (r + d) * (r + d) = r * r + r * d + (d * r + d * d) := by rw [Nat.add_mul, Nat.mul_add, Nat.mul_add]
          have h6 : r * (r + d) = r * r + r * d := Nat.mul_add _ _ _
          have h7 : r * d = d * r := Nat.mul_comm _ _
          omega
      have e3 : x * r = r * x := Nat.mul_comm _ _
      omega
    have e : (2 * s) * (2 * s) = 4 * (s * s) := by rw [Nat.mul_mul_mul_comm]
    omega
  have := sq_lt h3
  omega
theorem newton_end {A x : Nat} (hx : 0 < x) (h : x ≤ (x + A / x) / 2) : x ≤ isq A := by
  obtain ⟨h1, h2⟩ := isq_spec A
  have h3 : x ≤ A / x := by omega
  have h4 : x * x ≤ A := (Nat.le_div_iff_mul_le hx).1 h3
  have := sq_lt (Nat.lt_of_le_of_lt h4 h2)
  omega
theorem isq_pos {A : Nat} (h : A ≠ 0) : 0 < isq A := by
  obtain ⟨h1, h2⟩ := isq_spec A
  rcases Nat.eq_zero_or_pos (isq A) with h0 | h0
  · rw [h0] at h2; omega
  · exact h0
theorem isq_le_pow {A n : Nat} (h : A < 2 ^ n) : isq A ≤ 2 ^ ((n + 2) / 2) := by
  obtain ⟨h1, h2⟩ := isq_spec A
  refine Nat.le_of_lt (sq_lt (Nat.lt_of_le_of_lt h1 (Nat.lt_of_lt_of_le h ?_)))
  rw [← Nat.pow_add]
  exact Nat.pow_le_pow_right (by decide) (by omega)

section
variable {P : Program} {c rest : Code} {a : Act} {w : World} {Q : Exit → Act → World → Prop}
/-- The base's law on a label that is jumped back to: the first pass is as all others. -/
theorem wp_scope_again (l : Nat) (J : Act → World → Prop) (μ : Act → World → Nat) (hf : findLabel c l = some (.seq .skip rest))
    (pass : ∀ a w, J a w → rest.wp P (Exit.jump l (fun a' w' => J a' w' ∧ μ a' w' < μ a w) Q) a w)
    (first : (∀ a w, J a w → rest.wp P (Exit.jump l J Q) a w) → c.wp P (Exit.jump l J Q) a w) : (Code.scope c).wp P Q a w := by
  refine wp_scope_jumps l J μ hf (first fun a w h => ?_) (fun a w h => wp_seq (wp_skip (pass a w h)))
  refine Code.wp_mono ?_ (pass a w h)
  intro e a' w' hh
  cases e with
  | goto l' => exact ⟨hh.1, hh.2.1⟩
  | _ => exact hh
end

set_option maxRecDepth 100000 in
set_option maxHeartbeats 1000000 in
theorem p_power (n : Nat) (w : World) (hn : n ≤ 35184372088832) : Calls Try.prog 47 #[.int .i64 n] w (RetN w (2 ^ n)) := by
  obtain ⟨k, hk⟩ : ∃ k, k = n / 32 := ⟨_, rfl⟩
  obtain ⟨r, hr⟩ : ∃ r, r = n % 32 := ⟨_, rfl⟩
  have hn2 : n = 32 * k + r := by omega
  have hk1 : (n : Int) / 32 = (k : Int) := by omega
  have hr1 : (n : Int) % 32 = (r : Int) := by omega
  have hkb : k ≤ 1099511627776 := by omega
  have hrb : r ≤ 31 := by omega
  have HN := hidP hn2
  have HV : Hid (Canon B32 ((List.replicate (k + 1) 0).set k (2 ^ r)) ∧ val B32 ((List.replicate (k + 1) 0).set k (2 ^ r)) = 2 ^ n) := hidP (by
    have h2 : 2 ^ r < B32 := by
      have : 2 ^ r ≤ 2 ^ 31 := Nat.pow_le_pow_right (by decide) hrb
      unfold B32; omega
    refine ⟨⟨set_lt (by intro d hd; simp at hd; rw [hd]; decide) _ _ h2, fun hne => ?_⟩, ?_⟩
    · rw [List.getLast_eq_getElem]
      simp only [List.length_set, List.length_replicate, Nat.add_sub_cancel, List.getElem_set_self]
      exact Nat.ne_of_gt (Nat.two_pow_pos r)
    · have h3 := val_set B32 (List.replicate (k + 1) 0) k (2 ^ r) (by simp)
      rw [val_replicate] at h3
      simp only [List.getElem_replicate, Nat.mul_zero, Nat.add_zero, Nat.zero_add] at h3
      rw [h3, hn2, Nat.pow_add, Nat.pow_mul]; rfl)
  have hp31 : 2 ^ r ≤ 2147483648 := Nat.pow_le_pow_right (by decide) hrb
  obtain ⟨p, hp⟩ : ∃ p, p = 2 ^ r := ⟨_, rfl⟩
  rw [← hp] at hp31 HV
  have hsh : (2 : Int) ^ r % 4294967296 = (p : Int) := by
    have e : (2 : Int) ^ r = ((2 ^ r : Nat) : Int) := by rw [Int.natCast_pow]; rfl
    rw [e, ← hp]
    omega
  clear hk hr hn2 hp
  go_enter Try.func47, Try.ntmps47
  go_wp2_with (at_make; refine wpList_make (W := w) (n := k + 1) T_u32' rfl _ _ rfl rfl rfl (Ext.refl _) (by omega) (by omega) rfl ?_; intro w1 hown he hsz; rw [replicate_ints] at hown; have hcE := Row.cell hown k (by simp); have hfr := Row.free hown k)
  go_ret
  have hst := Row.store hown k p
  have h1 := Sl.of_owns' hst
  rw [← dig_val B32_two _ HV.out.1, HV.out.2] at h1
  exact ⟨_, _, _, rfl, h1, he.store (Nat.le_refl _) _⟩

theorem dl_pow (e : Nat) : dl (2 ^ e) ≤ e / 32 + 1 := by
  refine dl_le ?_
  have h : B32 ^ (e / 32 + 1) = 2 ^ (32 * (e / 32 + 1)) := by rw [Nat.pow_mul]; rfl
  rw [h]
  exact Nat.pow_lt_pow_right (by decide) (by omega)
/-- What holds at the label. -/
def SqJ (a : Option Addr) (n cap bl A : Nat) (w : World) (a' : Act) (w' : World) : Prop :=
  ∃ (X : Nat) (ax : Option Addr) (nx cx : Nat) (u5 u6 u7 u8 u9 u10 u11 u12 u13 u14 u15 u16 u17 u18 u19 u20 u21 u22 u23 u24 u25 u26 u27 u28 u29 u30 u31 u32 u33 : Value), a' = { tmps := #[.slice a n cap, undef, .slice none 0 0, .int .i64 (bl : Int), .slice ax nx cx, u5, u6, u7, u8, u9, u10, u11, u12, u13, u14, u15, u16, u17, u18, u19, u20, u21, u22, u23, u24, u25, u26, u27, u28, u29, u30, u31, u32, u33], defers := [] } ∧ Nc w' ax nx cx X ∧ isq A ≤ X ∧ dl X ≤ 549755813889 ∧ A ≠ 0 ∧ Ext w w'

set_option maxRecDepth 100000 in
set_option maxHeartbeats 4000000 in
theorem p_Sqrt {a : Option Addr} {n cap A : Nat} {w : World} (h : Nu w a n cap A) (hb : dl A ≤ 549755813888) :
    Calls Try.prog 32 #[.slice a n cap] w (RetN w (isq A)) := by
  have H := hidP h; have HB := hidP hb
  have HBL := hidP (lt_bitlen A)
  have hbl : bitlen A ≤ 17592186044416 := by
    have h1 : bitlen A ≤ 32 * dl A := bitlen_le (by rw [Nat.pow_mul]; exact dl_lt A)
    omega
  have HB0 : Hid (bitlen A = 0 ↔ A = 0) := hidP ⟨fun h => by have := HBL.out; rw [h] at this; omega, fun h => by rw [h]; rfl⟩
  obtain ⟨bl, hbld⟩ : ∃ bl, bl = bitlen A := ⟨_, rfl⟩
  rw [← hbld] at hbl HBL HB0
  have HBD := hidP hbld
  clear h hb hbld
  go_enter Try.func32, Try.ntmps32
  go_wp2
  refine wp_scope_again 0 (SqJ a n cap bl A w) (fun a' w' => rdv w' (a'.tmps.getD 4 undef)) rfl ?_ ?_
  · rintro a' w' ⟨X, ax, nx, cx, u5, u6, u7, u8, u9, u10, u11, u12, u13, u14, u15, u16, u17, u18, u19, u20, u21, u22, u23, u24, u25, u26, u27, u28, u29, u30, u31, u32, u33, rfl, hx, hge, hd, hA0, he⟩
    have hX0 : X ≠ 0 := by have := isq_pos hA0; omega
    have HRD : Hid (rdv w' (.slice ax nx cx) = X) := hidP (rdv_eq hx)
    have hdv := n_Div (H.out.ext he) (hx.nu (by omega))
    unfold RetQR at hdv
    rw [decide_eq_true hX0, if_neg hX0, if_neg hX0] at hdv
    have HDV := hidP hdv
    have hNG := newton_ge (A := A) (Nat.pos_of_ne_zero hX0)
    have hNE := fun h => newton_end (A := A) (Nat.pos_of_ne_zero hX0) h
    have hdq := dl_div A X
    have HDQ : Hid (dl (A / X) ≤ 549755813888) := hidP (by have := HB.out; omega)
    have HDS : Hid (dl (X + A / X) ≤ 549755813890) := hidP (dl_add hd (by have := HDQ.out; omega))
    have HDY : Hid ((X + A / X) / 2 < X → dl ((X + A / X) / 2) ≤ 549755813889) := hidP (fun hh => Nat.le_trans (dl_mono (Nat.le_of_lt hh)) hd)
    have HDY2 : Hid (dl ((X + A / X) / 2) ≤ 1099511627776) := hidP (by have := dl_div (X + A / X) 2; have := HDS.out; omega)
    generalize A / X = q at *
    obtain ⟨Y, hY⟩ : ∃ Y, Y = (X + q) / 2 := ⟨_, rfl⟩
    have HYE : Hid ((X + q) / 2 ^ 1 = Y) := hidP (by rw [hY])
    rw [← hY] at hNG hNE HDY HDY2
    have HNG := hidP hNG; have HNE := hidP hNE; have HX := hidP hx; have HD := hidP hd; have HA0 := hidP hA0; have HGE := hidP hge
    clear hdv hx hge hd hA0 hX0 hNG hNE hdq hY
    go_wp2_with fail
    refine HDV.out.mono ?_
    rintro e u1 ⟨aq, nq, cq, ar, nr, cr, rfl, hq, hr, he1⟩
    have HQ := hidP hq; have HX1 := hidP (HX.out.ext he1); have HE1 := hidP (he.trans he1)
    clear hq hr he1 he
    go_wp2_with fail
    refine (n_Add (HX1.out.nu (by have := HD.out; omega)) (HQ.out.nu (by have := HDQ.out; omega))).mono ?_
    rintro e u2 ⟨a2, n2, c2, rfl, hs2, he2⟩
    have HS2 := hidP hs2; have HX2 := hidP (HX1.out.ext he2); have HE2 := hidP (HE1.out.trans he2)
    clear hs2 he2
    go_wp2_with fail
    refine (n_Shift_down (HS2.out.nu (by have := HDS.out; omega)) 1 (by omega)).mono ?_
    rw [HYE.out]
    rintro e u3 ⟨a3, n3, c3, rfl, hs3, he3⟩
    have HS3 := hidP hs3; have HX3 := hidP (HX2.out.ext he3); have HE3 := hidP (HE2.out.trans he3)
    clear hs3 he3
    have hcm := n_Cmp (HS3.out.nu HDY2.out) (HX3.out.nu (by have := HD.out; omega))
    by_cases hlt : Y < X
    · have HLT := hidP hlt
      rw [cmpI_lt hlt] at hcm
      have HCM := hidP hcm
      clear hcm hlt
      go_wp2_with fail
      refine HCM.out.mono ?_
      rintro e u4 ⟨rfl, he4⟩
      have HS4 := hidP (HS3.out.ext he4); have HE4 := hidP (HE3.out.trans he4)
      clear he4
      go_wp2_with fail
      go_step3
      refine ⟨rfl, ⟨Y, a3, n3, c3, _, _, _, _, _, _, _, _, _, _, _, _, _, _, _, _, _, _, _, _, _, _, _, _, _, _, _, _, _, rfl, HS4.out, HNG.out, HDY.out HLT.out, HA0.out, HE4.out⟩, ?_⟩
      show rdv _ (.slice a3 n3 c3) < rdv w' (.slice ax nx cx)
      rw [HRD.out, rdv_eq HS4.out]
      exact HLT.out
    · have HLT := hidP hlt
      have hc0 := cmpI_ge (a := Y) (b := X) (by omega)
      generalize cmpI Y X = cc at *
      have HCM := hidP hcm
      clear hcm hlt
      go_wp2_with fail
      refine HCM.out.mono ?_
      rintro e u4 ⟨rfl, he4⟩
      have HX4 := hidP (HX3.out.ext he4); have HE4 := hidP (HE3.out.trans he4)
      clear he4
      have HEQ : Hid (X = isq A) := hidP (by have := HNE.out (by have := HLT.out; omega); have := HGE.out; omega)
      go_wp2_with fail
      simp only [Exit.jump]
      go_ret
      exact ⟨_, _, _, rfl, by rw [← HEQ.out]; exact HX4.out, HE4.out⟩
  · intro hrest
    have HREST := hidP hrest
    clear hrest
    go_wp2_with fail
    refine (n_Bits H.out).mono ?_
    rw [← HBD.out]
    rintro e u ⟨rfl, rfl⟩
    by_cases h0 : bl = 0
    · have HZ : Hid (isq A = 0) := hidP (by rw [HB0.out.1 h0]; rfl)
      subst h0
      go_wp2_with fail
      simp only [Exit.jump]
      go_ret
      exact ⟨none, 0, 0, rfl, by rw [HZ.out]; exact Nc.zero _, Ext.refl _⟩
    · have hbz : ((bl : Int) == 0) = false := by simpa using h0
      have hA0 : A ≠ 0 := fun h => h0 (HB0.out.2 h)
      have hpi : ((bl : Int) + 2) / 2 = (((bl + 2) / 2 : Nat) : Int) := by omega
      have hpb : (bl + 2) / 2 ≤ 8796093022209 := by omega
      have HP : Hid (isq A ≤ 2 ^ ((bl + 2) / 2)) := hidP (isq_le_pow HBL.out)
      have HPD : Hid (dl (2 ^ ((bl + 2) / 2)) ≤ 549755813889) := hidP (by have := dl_pow ((bl + 2) / 2); omega)
      generalize (bl + 2) / 2 = ex at *
      go_wp2_with fail
      refine (p_power ex _ (by omega)).mono ?_
      rintro e u5 ⟨a5, n5, c5, rfl, hs5, he5⟩
      have HS5 := hidP hs5; have HE5 := hidP he5
      clear hs5 he5
      go_wp2_with fail
      go_step3
      refine ‹∀ (a : Act) (w : World), Code.wp _ _ _ a w → _› _ _ ?_
      exact HREST.out _ _ ⟨2 ^ ex, a5, n5, c5, _, _, _, _, _, _, _, _, _, _, _, _, _, _, _, _, _, _, _, _, _, _, _, _, _, _, _, _, _, rfl, HS5.out, HP.out, HPD.out, hA0, HE5.out⟩

end Go.Proofs.Ytmibjfkpchncgaa

namespace Go.Proofs.Ytmibjfkpchncgaa
set_option linter.unusedVariables false
open Go Go.RowKit

theorem if_div {x y : Nat} : (if y = 0 then 0 else x / y) = x / y := by
  split
  · next h => rw [h, Nat.div_zero]
  · rfl

theorem sq_mod (s : Nat) : s * s % 16 = 0 ∨ s * s % 16 = 1 ∨ s * s % 16 = 4 ∨ s * s % 16 = 9 := by
  have h : s * s % 16 = (s % 16) * (s % 16) % 16 := by rw [Nat.mul_mod]
  have h2 := Nat.mod_lt s (by decide : 16 > 0)
  rw [h]
  clear h
  generalize s % 16 = t at *
  revert t
  decide
theorem and15 (x : Nat) (h : x ≤ 4294967295) : bits .and .u32 (x : Int) 15 = ((x % 16 : Nat) : Int) := by
  have h1 := u32_and_nat x 15 (by omega) (by omega)
  rw [Nat.and_two_pow_sub_one_eq_mod x 4] at h1
  exact h1

end Go.Proofs.Ytmibjfkpchncgaa
