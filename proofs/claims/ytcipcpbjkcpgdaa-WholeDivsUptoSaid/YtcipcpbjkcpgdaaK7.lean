/- The program's numbers (nat): the plain law of a divisor made great, and of a guess, by lists. -/
import Derived.Test.YtcipcpbjkcpgdaaK6
import Derived.Test.YtcipcpbjkcpgdaaK3
namespace Go.Proofs.Ytcipcpbjkcpgdaa
set_option linter.unusedVariables false
open Go Go.RowKit

theorem two_top {B : Nat} (hB : 0 < B) {l : List Nat} {j : Nat} (hl : l.length = j + 2) (h : ∀ x ∈ l, x < B) : val B l = (l.getD (j + 1) 0 * B + l.getD j 0) * B ^ j + val B (l.take j) ∧ val B (l.take j) < B ^ j := by
  constructor
  · have h1 := val_take_snoc B l (j + 1)
    rw [show j + 1 + 1 = j + 2 from rfl, List.take_of_length_le (by omega), val_take_snoc] at h1
    rw [h1]
    generalize l.getD (j + 1) 0 = b
    generalize l.getD j 0 = c
    have e2 : B ^ (j + 1) * b = b * B * B ^ j := by rw [Nat.pow_succ, Nat.mul_comm, Nat.mul_comm (B ^ j), ← Nat.mul_assoc]
    have e3 : B ^ j * c = c * B ^ j := Nat.mul_comm _ _
    rw [e2, e3, Nat.add_mul]
    omega
  · have := val_lt hB (l.take j) (fun x hx => h x (List.mem_of_mem_take hx))
    rwa [List.length_take, Nat.min_eq_left (by omega)] at this
theorem three_top {B : Nat} (hB : 0 < B) {l : List Nat} {j : Nat} (hl : l.length = j + 3) (h : ∀ x ∈ l, x < B) : val B l = ((l.getD (j + 2) 0 * B + l.getD (j + 1) 0) * B + l.getD j 0) * B ^ j + val B (l.take j) ∧ val B (l.take j) < B ^ j := by
  constructor
  · have h1 := val_take_snoc B l (j + 2)
    rw [show j + 2 + 1 = j + 3 from rfl, List.take_of_length_le (by omega), val_take_snoc, val_take_snoc] at h1
    rw [h1]
    generalize l.getD (j + 2) 0 = a
    generalize l.getD (j + 1) 0 = b
    generalize l.getD j 0 = c
    have e1 : B ^ (j + 2) * a = a * B * B * B ^ j := by rw [Nat.pow_succ, Nat.pow_succ, Nat.mul_comm, Nat.mul_assoc (B ^ j), Nat.mul_comm (B ^ j), ← Nat.mul_assoc, ← Nat.mul_assoc]
    have e2 : B ^ (j + 1) * b = b * B * B ^ j := by rw [Nat.pow_succ, Nat.mul_comm, Nat.mul_comm (B ^ j), ← Nat.mul_assoc]
    have e3 : B ^ j * c = c * B ^ j := Nat.mul_comm _ _
    rw [e1, e2, e3, Nat.add_mul, Nat.add_mul, Nat.add_mul]
    omega
  · have := val_lt hB (l.take j) (fun x hx => h x (List.mem_of_mem_take hx))
    rwa [List.length_take, Nat.min_eq_left (by omega)] at this

theorem guess_fin {B : Nat} (hB : 2 ≤ B) {p Z : List Nat} {j : Nat} (hp : p.length = j + 3) (hZ : Z.length = j + 2) (hpB : ∀ x ∈ p, x < B) (hZB : ∀ x ∈ Z, x < B) (htop : 1 ≤ Z.getD (j + 1) 0) (h : val B (p.drop 1) < val B Z) :
    p.getD (j + 2) 0 * B + p.getD (j + 1) 0 ≤ Z.getD (j + 1) 0 * B + Z.getD j 0 ∧
    val B p / val B Z ≤ min (((p.getD (j + 2) 0 * B + p.getD (j + 1) 0) * B + p.getD j 0) / (Z.getD (j + 1) 0 * B + Z.getD j 0)) (B - 1) ∧
    min (((p.getD (j + 2) 0 * B + p.getD (j + 1) 0) * B + p.getD j 0) / (Z.getD (j + 1) 0 * B + Z.getD j 0)) (B - 1) ≤ val B p / val B Z + 1 := by
  have hz := two_top (by omega) hZ hZB
  have hp3 := three_top (by omega) hp hpB
  have hp2 := two_top (j := j) (l := p.drop 1) (by omega) (by rw [List.length_drop]; omega) (fun x hx => hpB x (List.mem_of_mem_drop hx))
  rw [getD_drop, getD_drop, show 1 + (j + 1) = j + 2 by omega, show 1 + j = j + 1 by omega] at hp2
  have hhead := val_head B p
  rw [← List.drop_one] at hhead
  have hh0 : p.getD 0 0 < B := getD_lt (by omega) hpB 0
  have hT : B ≤ Z.getD (j + 1) 0 * B + Z.getD j 0 := by
    have : 1 * B ≤ Z.getD (j + 1) 0 * B := Nat.mul_le_mul_right _ htop
    omega
  refine ⟨?_, guess_ok (by omega) hz.1 hp3.1 hz.2 hp3.2 hT ?_⟩
  · rcases Nat.lt_or_ge (Z.getD (j + 1) 0 * B + Z.getD j 0) (p.getD (j + 2) 0 * B + p.getD (j + 1) 0) with hgt | hle
    · have h1 : (Z.getD (j + 1) 0 * B + Z.getD j 0 + 1) * B ^ j ≤ (p.getD (j + 2) 0 * B + p.getD (j + 1) 0) * B ^ j := Nat.mul_le_mul_right _ hgt
      rw [Nat.add_mul, Nat.one_mul] at h1
      omega
    · exact hle
  · rw [hhead, Nat.mul_comm (val B Z)]
    have : B * (val B (p.drop 1) + 1) ≤ B * val B Z := Nat.mul_le_mul_left _ h
    rw [Nat.mul_add] at this
    omega

theorem bitlen_low {t : Nat} (h : t ≠ 0) : 1 ≤ bitlen t ∧ 2 ^ (bitlen t - 1) ≤ t := by
  unfold bitlen
  rw [if_neg h]
  exact ⟨by omega, by simpa using Nat.log2_self_le h⟩

/-- The divisor made great. -/
theorem norm_top {V0 n up : Nat} (hn : n + 1 = (dig B32 V0).length) (hup : up = 32 - bitlen ((dig B32 V0).getD n 0)) :
    up ≤ 31 ∧ (dig B32 (V0 * 2 ^ up)).length = n + 1 ∧ 2147483648 ≤ (dig B32 (V0 * 2 ^ up)).getD n 0 ∧ B32 ^ n ≤ V0 := by
  have hC := canon_dig B32_two V0
  have hv := val_dig B32_two V0
  have h0 : V0 ≠ 0 := by intro h; subst h; rw [dig_zero] at hn; simp at hn
  have hpl := pow_le_of_dig B32_two h0
  rw [← hn, Nat.add_sub_cancel] at hpl
  generalize dig B32 V0 = Y at *
  have hne : Y ≠ [] := by intro h; subst h; simp at hn
  have htop : Y.getD n 0 = Y.getLast hne := by
    rw [List.getLast_eq_getElem, List.getD_eq_getElem?_getD, List.getElem?_eq_getElem (by omega)]
    simp [← hn]
  have ht0 := hC.2 hne
  rw [← htop] at ht0
  have htB : Y.getD n 0 < B32 := getD_lt (by decide) hC.1 n
  have hsn := val_take_snoc B32 Y n
  rw [List.take_of_length_le (by omega), hv] at hsn
  have hlow := val_lt (B := B32) (by decide) (Y.take n) (fun x hx => hC.1 x (List.mem_of_mem_take hx))
  rw [List.length_take, Nat.min_eq_left (by omega)] at hlow
  generalize val B32 (Y.take n) = lo at *
  generalize Y.getD n 0 = t at *
  have hb1 := bitlen_low ht0
  have hb2 := lt_bitlen t
  have hb3 : bitlen t ≤ 32 := bitlen_le (by unfold B32 at htB; omega)
  generalize bitlen t = b at *
  have e31 : 2 ^ (b - 1) * 2 ^ up = 2147483648 := by rw [← Nat.pow_add, show b - 1 + up = 31 by omega]
  have e32 : 2 ^ b * 2 ^ up = B32 := by rw [← Nat.pow_add, show b + up = 32 by omega]; rfl
  have hge : B32 ^ n * 2147483648 ≤ V0 * 2 ^ up := by
    have h1 : 2 ^ (b - 1) * 2 ^ up ≤ t * 2 ^ up := Nat.mul_le_mul_right _ hb1.2
    rw [e31] at h1
    have h2 : B32 ^ n * 2147483648 ≤ B32 ^ n * (t * 2 ^ up) := Nat.mul_le_mul_left _ h1
    have h3 : B32 ^ n * (t * 2 ^ up) ≤ V0 * 2 ^ up := by
      rw [← Nat.mul_assoc]
      exact Nat.mul_le_mul_right _ (by omega)
    omega
  have hlt : V0 * 2 ^ up < B32 ^ (n + 1) := by
    have h1 : V0 < B32 ^ n * (t + 1) := by rw [Nat.mul_add]; omega
    have h2 : B32 ^ n * (t + 1) ≤ B32 ^ n * 2 ^ b := Nat.mul_le_mul_left _ hb2
    have h3 : V0 * 2 ^ up < B32 ^ n * 2 ^ b * 2 ^ up := Nat.mul_lt_mul_of_pos_right (by omega) (Nat.two_pow_pos _)
    rw [Nat.mul_assoc, e32, ← Nat.pow_succ] at h3
    exact h3
  have hlen : (dig B32 (V0 * 2 ^ up)).length = n + 1 := by
    have h1 := dig_len_le B32_two hlt
    rcases Nat.lt_or_ge (dig B32 (V0 * 2 ^ up)).length (n + 1) with h2 | h2
    · have h3 := le_of_dig_len B32_two (show (dig B32 (V0 * 2 ^ up)).length ≤ n by omega)
      have : B32 ^ n * 1 ≤ B32 ^ n * 2147483648 := Nat.mul_le_mul_left _ (by decide)
      omega
    · omega
  refine ⟨by omega, hlen, ?_, hpl⟩
  have hZ : Ws (dig B32 (V0 * 2 ^ up)) := Ws.dig _
  have hvz := val_dig B32_two (V0 * 2 ^ up)
  have hd := (val_drop_div B32 (by decide) _ hZ n (by omega)).1
  rw [hvz] at hd
  generalize dig B32 (V0 * 2 ^ up) = Z at *
  have h1 : val B32 (Z.drop n) = Z.getD n 0 := by
    rw [List.drop_eq_getElem_cons (by omega), List.drop_of_length_le (by omega), List.getD_eq_getElem?_getD, List.getElem?_eq_getElem (by omega)]
    simp [val]
  rw [h1] at hd
  rw [← hd]
  exact (Nat.le_div_iff_mul_le (Nat.pow_pos (by decide))).2 (by rw [Nat.mul_comm]; exact hge)

/-- A part of a slice. -/
theorem Sl.part {w : World} {g o n cap : Nat} {l : List Nat} (h : Sl w (some ⟨g, o, none⟩) n cap (ints .u32 l)) (i k : Nat) (hik : i + k ≤ n) : Sl w (some ⟨g, o + i, none⟩) k (cap - i) (ints .u32 ((l.drop i).take k)) := by
  have hl := h.int_len
  refine ⟨by rw [ints_len, List.length_take, List.length_drop]; omega, by have := h.2.1; omega, by have := h.2.2.1; omega, fun h0 => ⟨g, o + i, rfl, fun j u hu => ?_⟩⟩
  obtain ⟨b, off, ha, hc⟩ := h.2.2.2 (by omega)
  simp only [Option.some.injEq, Addr.mk.injEq, and_true] at ha
  obtain ⟨rfl, rfl⟩ := ha
  have : (ints .u32 l)[i + j]? = some u := by
    simp only [ints, List.getElem?_map, List.getElem?_take, List.getElem?_drop] at hu ⊢
    split at hu
    · exact hu
    · simp at hu
  have h2 := hc (i + j) u this
  rwa [← Nat.add_assoc] at h2

end Go.Proofs.Ytcipcpbjkcpgdaa
