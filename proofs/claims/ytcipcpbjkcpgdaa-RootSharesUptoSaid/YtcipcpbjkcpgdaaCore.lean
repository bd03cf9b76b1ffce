/- Plain numbers as digits, and what a slice holds: no function of the program is named here. -/
import Derived.WalkKit
namespace Go.Proofs.Ytcipcpbjkcpgdaa
set_option linter.unusedVariables false
open Go Go.RowKit

/-! ### Digits -/
def val (B : Nat) : List Nat → Nat
  | [] => 0
  | x :: r => x + B * val B r

/-- The digits of a number, the lowest first, without noughts at the top. -/
def dig (B : Nat) (n : Nat) : List Nat := go n n
where
  go : Nat → Nat → List Nat
    | 0, _ => []
    | f + 1, n => if n = 0 then [] else n % B :: go f (n / B)

theorem dig.go_stable (B : Nat) (hB : 2 ≤ B) : ∀ (f g n : Nat), n ≤ f → n ≤ g → dig.go B f n = dig.go B g n := by
  intro f
  induction f with
  | zero =>
    intro g n hf _
    obtain rfl : n = 0 := by omega
    cases g <;> simp [dig.go]
  | succ f ih =>
    intro g n hf hg
    by_cases h0 : n = 0
    · subst h0; cases g <;> simp [dig.go]
    · cases g with
      | zero => omega
      | succ g =>
        have hlt : n / B < n := Nat.div_lt_self (by omega) (by omega)
        simp only [dig.go, h0, if_false]
        rw [ih g (n / B) (by omega) (by omega)]

theorem dig_zero (B : Nat) : dig B 0 = [] := by simp [dig, dig.go]
theorem dig_pos {B n : Nat} (hB : 2 ≤ B) (h : n ≠ 0) : dig B n = n % B :: dig B (n / B) := by
  unfold dig
  cases n with
  | zero => exact absurd rfl h
  | succ n =>
    have hlt : (n + 1) / B < n + 1 := Nat.div_lt_self (by omega) (by omega)
    rw [dig.go, if_neg h, dig.go_stable B hB n ((n + 1) / B) _ (by omega) (Nat.le_refl _)]

theorem val_dig {B : Nat} (hB : 2 ≤ B) (n : Nat) : val B (dig B n) = n := by
  induction n using Nat.strongRecOn with
  | ind n ih =>
    by_cases h : n = 0
    · subst h; simp [dig_zero, val]
    · have hlt : n / B < n := Nat.div_lt_self (by omega) (by omega)
      rw [dig_pos hB h, val, ih _ hlt]
      have := Nat.div_add_mod n B
      omega

theorem dig_lt {B : Nat} (hB : 2 ≤ B) (n : Nat) : ∀ x ∈ dig B n, x < B := by
  induction n using Nat.strongRecOn with
  | ind n ih =>
    by_cases h : n = 0
    · subst h; simp [dig_zero]
    · have hlt : n / B < n := Nat.div_lt_self (by omega) (by omega)
      rw [dig_pos hB h]
      intro x hx
      rcases List.mem_cons.1 hx with rfl | hx
      · exact Nat.mod_lt _ (by omega)
      · exact ih _ hlt x hx

theorem dig_ne_nil {B n : Nat} (hB : 2 ≤ B) (h : n ≠ 0) : dig B n ≠ [] := by rw [dig_pos hB h]; simp

/-- All digits are such, and the last one is no nought. -/
def Canon (B : Nat) (l : List Nat) : Prop := (∀ x ∈ l, x < B) ∧ ∀ h : l ≠ [], l.getLast h ≠ 0

theorem canon_dig {B : Nat} (hB : 2 ≤ B) (n : Nat) : Canon B (dig B n) := by
  refine ⟨dig_lt hB n, ?_⟩
  induction n using Nat.strongRecOn with
  | ind n ih =>
    by_cases h : n = 0
    · subst h; simp [dig_zero]
    · have hlt : n / B < n := Nat.div_lt_self (by omega) (by omega)
      intro hne
      by_cases hd : n / B = 0
      · have e : dig B n = [n] := by
          rw [dig_pos hB h, hd, dig_zero]
          have := Nat.div_add_mod n B
          rw [hd] at this
          simp at this ⊢
          omega
        have : (dig B n).getLast hne = n := by simp [e]
        omega
      · have hn := dig_ne_nil hB hd
        have e := dig_pos hB h
        have : (dig B n).getLast hne = (dig B (n / B)).getLast hn := by
          have : ∀ (l : List Nat) (hl : l ≠ []), l = n % B :: dig B (n / B) → l.getLast hl = (dig B (n / B)).getLast hn := by
            intro l hl he
            subst he
            exact List.getLast_cons hn
          exact this _ hne e
        rw [this]
        exact ih _ hlt hn

theorem val_pos {B : Nat} (hB : 2 ≤ B) : ∀ (l : List Nat), (∀ h : l ≠ [], l.getLast h ≠ 0) → l ≠ [] → val B l ≠ 0
  | [], _, h => absurd rfl h
  | [x], h, _ => by
    have := h (by simp)
    simp only [List.getLast_singleton] at this
    simp only [val]
    omega
  | x :: y :: r, h, _ => by
    have ih := val_pos hB (y :: r) (fun hne => by have := h (by simp); rwa [List.getLast_cons hne] at this) (by simp)
    rw [val]
    have : B * val B (y :: r) ≠ 0 := Nat.mul_ne_zero (by omega) ih
    omega

theorem dig_val {B : Nat} (hB : 2 ≤ B) : ∀ (l : List Nat), Canon B l → dig B (val B l) = l
  | [], _ => by simp [val, dig_zero]
  | x :: r, ⟨h1, h2⟩ => by
    have hx : x < B := h1 x (by simp)
    have hne : val B (x :: r) ≠ 0 := val_pos hB (x :: r) h2 (by simp)
    have hr : Canon B r := ⟨fun y hy => h1 y (by simp [hy]), fun hn => by have := h2 (by simp); rwa [List.getLast_cons hn] at this⟩
    have e1 : (x + B * val B r) % B = x := by rw [Nat.add_mul_mod_self_left, Nat.mod_eq_of_lt hx]
    have e2 : (x + B * val B r) / B = val B r := by rw [Nat.add_mul_div_left _ _ (by omega), Nat.div_eq_of_lt hx, Nat.zero_add]
    rw [dig_pos hB hne, val, e1, e2, dig_val hB r hr]

theorem canon_unique {B : Nat} (hB : 2 ≤ B) {l m : List Nat} (hl : Canon B l) (hm : Canon B m) (h : val B l = val B m) : l = m := by
  rw [← dig_val hB l hl, h, dig_val hB m hm]

theorem val_append (B : Nat) : ∀ (l m : List Nat), val B (l ++ m) = val B l + B ^ l.length * val B m
  | [], m => by simp [val]
  | x :: l, m => by
    simp only [List.cons_append, val, val_append B l m, List.length_cons, Nat.pow_succ, Nat.mul_add]
    rw [Nat.mul_comm (B ^ l.length) B, Nat.mul_assoc]
    omega

theorem val_snoc (B : Nat) (l : List Nat) (x : Nat) : val B (l ++ [x]) = val B l + B ^ l.length * x := by
  rw [val_append]; simp [val]

theorem val_lt {B : Nat} (hB : 0 < B) : ∀ (l : List Nat), (∀ x ∈ l, x < B) → val B l < B ^ l.length
  | [], _ => by simp [val]
  | x :: r, h => by
    have ih := val_lt hB r (fun y hy => h y (by simp [hy]))
    have hx : x < B := h x (by simp)
    have : B * (val B r + 1) ≤ B * B ^ r.length := Nat.mul_le_mul_left _ ih
    rw [Nat.mul_add] at this
    simp only [val, List.length_cons, Nat.pow_succ]
    rw [Nat.mul_comm (B ^ r.length) B]
    omega

theorem dig_len_le {B n k : Nat} (hB : 2 ≤ B) (h : n < B ^ k) : (dig B n).length ≤ k := by
  induction k generalizing n with
  | zero => obtain rfl : n = 0 := by simp at h; omega
            simp [dig_zero]
  | succ k ih =>
    by_cases h0 : n = 0
    · subst h0; simp [dig_zero]
    · rw [dig_pos hB h0]
      have : n / B < B ^ k := by
        rw [Nat.div_lt_iff_lt_mul (by omega)]
        rwa [Nat.pow_succ] at h
      have := ih this
      simp; omega

theorem le_of_dig_len {B n k : Nat} (hB : 2 ≤ B) (h : (dig B n).length ≤ k) : n < B ^ k := by
  have h1 := val_lt (B := B) (by omega) (dig B n) (dig_lt hB n)
  rw [val_dig hB] at h1
  exact Nat.lt_of_lt_of_le h1 (Nat.pow_le_pow_right (by omega) h)

theorem pow_le_of_dig {B n : Nat} (hB : 2 ≤ B) (h : n ≠ 0) : B ^ ((dig B n).length - 1) ≤ n := by
  rcases Nat.lt_or_ge n (B ^ ((dig B n).length - 1)) with h1 | h1
  · have := dig_len_le hB h1
    have : (dig B n).length ≠ 0 := by simpa using dig_ne_nil hB h
    omega
  · exact h1

theorem dig_val_len {B : Nat} (hB : 2 ≤ B) (l : List Nat) (h : ∀ x ∈ l, x < B) : (dig B (val B l)).length ≤ l.length :=
  dig_len_le hB (val_lt (by omega) l h)

/-- What is cut off is noughts. -/
theorem val_take_of_zero (B : Nat) (l : List Nat) (n : Nat) (h : n < l.length) (h0 : l[n] = 0) : val B (l.take (n + 1)) = val B (l.take n) := by
  rw [List.take_succ_eq_append_getElem h, val_snoc, h0]; simp

theorem take_canon {B : Nat} (l : List Nat) (hl : ∀ x ∈ l, x < B) (n : Nat) (hn : n ≤ l.length) (h : n = 0 ∨ ∃ h : n - 1 < l.length, l[n - 1] ≠ 0) : Canon B (l.take n) := by
  refine ⟨fun x hx => hl x (List.mem_of_mem_take hx), fun hne => ?_⟩
  rcases h with h | ⟨h1, h2⟩
  · subst h; simp at hne
  · have hpos : 0 < n := by
      rcases Nat.eq_zero_or_pos n with h | h
      · subst h; simp at hne
      · exact h
    rw [List.getLast_eq_getElem]
    simp only [List.length_take, Nat.min_eq_left hn, List.getElem_take]
    exact h2

theorem take_dig {B : Nat} (hB : 2 ≤ B) (l : List Nat) (hl : ∀ x ∈ l, x < B) (n : Nat) (hn : n ≤ l.length) (h : n = 0 ∨ ∃ h : n - 1 < l.length, l[n - 1] ≠ 0)
    (hv : val B (l.take n) = val B l) : l.take n = dig B (val B l) := by
  rw [← hv, dig_val hB _ (take_canon l hl n hn h)]

/-- The first digits of a list without noughts at the top are its number's digits. -/
theorem take_dig_len {B : Nat} (hB : 2 ≤ B) (l : List Nat) (hl : ∀ x ∈ l, x < B) : l.take (dig B (val B l)).length = dig B (val B l) := by
  have key : ∀ k, k ≤ l.length → val B (l.take k) = val B l → l.take (dig B (val B l)).length = dig B (val B l) := by
    intro k
    induction k with
    | zero =>
      intro _ h
      simp only [List.take_zero, val] at h
      rw [← h, dig_zero]; rfl
    | succ k ih =>
      intro hk h
      by_cases h0 : l[k] = 0
      · exact ih (by omega) (by rw [← h, val_take_of_zero B l k (by omega) h0])
      · have := take_dig hB l hl (k + 1) hk (.inr ⟨by omega, by simpa using h0⟩) h
        have hlen : (dig B (val B l)).length = k + 1 := by rw [← this, List.length_take]; omega
        rw [hlen, this]
  exact key l.length (Nat.le_refl _) (by rw [List.take_length])

/-- How two numbers stand. -/
def cmpI (a b : Nat) : Int := if a < b then -1 else if b < a then 1 else 0

theorem val_head (B : Nat) (x : List Nat) : val B x = x.getD 0 0 + B * val B x.tail := by cases x <;> simp [val]
theorem getD_tail (x : List Nat) (i : Nat) : x.tail.getD i 0 = x.getD (i + 1) 0 := by cases x <;> simp
theorem val_eq_of (B : Nat) : ∀ (k : Nat) (x y : List Nat), x.length ≤ k → y.length ≤ k → (∀ j, x.getD j 0 = y.getD j 0) → val B x = val B y
  | 0, x, y, hx, hy, _ => by
    obtain rfl : x = [] := by simpa using hx
    obtain rfl : y = [] := by simpa using hy
    rfl
  | k + 1, x, y, hx, hy, h => by
    rw [val_head B x, val_head B y, h 0, val_eq_of B k x.tail y.tail (by simp; omega) (by simp; omega) (fun j => by rw [getD_tail, getD_tail]; exact h (j + 1))]
theorem val_lt_of {B : Nat} (hpos : 0 < B) : ∀ (i : Nat) (x y : List Nat), (∀ d ∈ x, d < B) → x.getD i 0 < y.getD i 0 → (∀ j, i < j → x.getD j 0 = y.getD j 0) → val B x < val B y
  | 0, x, y, _, h, he => by
    rw [val_head B x, val_head B y, val_eq_of B (x.length + y.length) x.tail y.tail (by simp; omega) (by simp; omega) (fun j => by rw [getD_tail, getD_tail]; exact he (j + 1) (by omega))]
    omega
  | i + 1, x, y, hx, h, he => by
    have ih := val_lt_of hpos i x.tail y.tail (fun d hd => hx d (List.mem_of_mem_tail hd)) (by rw [getD_tail, getD_tail]; exact h) (fun j hj => by rw [getD_tail, getD_tail]; exact he (j + 1) (by omega))
    have h0 : x.getD 0 0 < B ∨ x = [] := by
      cases x with
      | nil => exact .inr rfl
      | cons a r => exact .inl (by simpa using hx a (by simp))
    have hB : B * (val B x.tail + 1) ≤ B * val B y.tail := Nat.mul_le_mul_left _ ih
    rw [Nat.mul_add] at hB
    rw [val_head B x, val_head B y]
    rcases h0 with h0 | rfl
    · omega
    · simp [val] at ih ⊢
      have : B * 1 ≤ B * val B y.tail := Nat.mul_le_mul_left _ ih
      omega
theorem getD_lt {B : Nat} (hB : 0 < B) {l : List Nat} (h : ∀ x ∈ l, x < B) (i : Nat) : l.getD i 0 < B := by
  rw [List.getD_eq_getElem?_getD]
  cases hi : l[i]? with
  | none => simpa using hB
  | some x => simpa using h x (List.mem_of_getElem? hi)

/-! ### Digits of 16 bits and words of 32 -/
/-- Each word as two digits. -/
def split16 : List Nat → List Nat
  | [] => []
  | x :: r => x % 65536 :: x / 65536 :: split16 r
theorem split16_append (l m : List Nat) : split16 (l ++ m) = split16 l ++ split16 m := by
  induction l with
  | nil => rfl
  | cons x l ih => simp [split16, ih]
theorem split16_len (l : List Nat) : (split16 l).length = 2 * l.length := by
  induction l with
  | nil => rfl
  | cons x l ih => simp [split16, ih]; omega
theorem split16_snoc (l : List Nat) (x : Nat) : split16 (l ++ [x]) = split16 l ++ [x % 65536, x / 65536] := by
  rw [split16_append]; rfl
theorem val_split16 (l : List Nat) : val 65536 (split16 l) = val 4294967296 l := by
  induction l with
  | nil => rfl
  | cons x l ih => simp only [split16, val, ih]; omega
theorem split16_lt (l : List Nat) (h : ∀ x ∈ l, x < 4294967296) : ∀ x ∈ split16 l, x < 65536 := by
  induction l with
  | nil => simp [split16]
  | cons x l ih =>
    have := h x (by simp)
    intro y hy
    simp only [split16, List.mem_cons] at hy
    rcases hy with rfl | rfl | hy
    · omega
    · omega
    · exact ih (fun z hz => h z (by simp [hz])) y hy

/-- Digits, two by two. -/
def pairs : List Nat → List Nat
  | [] => []
  | [x] => [x]
  | x :: y :: r => (x + y * 65536) :: pairs r
theorem pairs_len : ∀ (l : List Nat), (pairs l).length = (l.length + 1) / 2
  | [] => rfl
  | [x] => by simp [pairs]
  | x :: y :: r => by simp [pairs, pairs_len r]; omega
theorem val_pairs : ∀ (l : List Nat), val 4294967296 (pairs l) = val 65536 l
  | [] => rfl
  | [x] => by simp [pairs, val]
  | x :: y :: r => by simp only [pairs, val, val_pairs r]; omega
theorem pairs_lt : ∀ (l : List Nat), (∀ x ∈ l, x < 65536) → ∀ x ∈ pairs l, x < 4294967296
  | [], _ => by simp [pairs]
  | [x], h => by have := h x (by simp); simp [pairs]; omega
  | x :: y :: r, h => by
    have h1 := h x (by simp)
    have h2 := h y (by simp)
    intro z hz
    simp only [pairs, List.mem_cons] at hz
    rcases hz with rfl | hz
    · omega
    · exact pairs_lt r (fun z hz => h z (by simp [hz])) z hz
theorem pairs_ne : ∀ (l : List Nat), l ≠ [] → pairs l ≠ []
  | [], h => absurd rfl h
  | [x], _ => by simp [pairs]
  | x :: y :: r, _ => by simp [pairs]
theorem pairs_last : ∀ (l : List Nat), (∀ h : l ≠ [], l.getLast h ≠ 0) → ∀ h : pairs l ≠ [], (pairs l).getLast h ≠ 0
  | [], _ => by simp [pairs]
  | [x], h => by simpa [pairs] using h
  | [x, y], h => by
    intro _
    have := h (by simp)
    simp only [List.getLast_cons_cons, List.getLast_singleton] at this
    simp only [pairs, List.getLast_singleton]
    omega
  | x :: y :: z :: r, h => by
    intro hne
    have hz : pairs (z :: r) ≠ [] := pairs_ne _ (by simp)
    have := pairs_last (z :: r) (fun hn => by have := h (by simp); rwa [List.getLast_cons (by simp), List.getLast_cons hn] at this) hz
    simp only [pairs]
    rw [List.getLast_cons hz]
    exact this
theorem pairs_dig (n : Nat) : pairs (dig 65536 n) = dig 4294967296 n := by
  have hc := canon_dig (B := 65536) (by omega) n
  rw [← dig_val (B := 4294967296) (by omega) (pairs (dig 65536 n)) ⟨pairs_lt _ hc.1, pairs_last _ hc.2⟩, val_pairs, val_dig (by omega)]
theorem pairs_get : ∀ (l : List Nat) (j : Nat) (h : j < (pairs l).length) (h0 : 2 * j < l.length),
    (pairs l)[j] = l[2 * j] + (if h1 : 2 * j + 1 < l.length then l[2 * j + 1] * 65536 else 0)
  | [], j, h, _ => by simp [pairs] at h
  | [x], j, h, _ => by
    have : j = 0 := by simp [pairs] at h; exact h
    subst this
    simp [pairs]
  | x :: y :: r, 0, h, _ => by simp [pairs]
  | x :: y :: r, j + 1, h, h0 => by
    have h' : j < (pairs r).length := by simpa [pairs] using h
    have h0' : 2 * j < r.length := by simp at h0; omega
    have ih := pairs_get r j h' h0'
    have e1 : (x :: y :: r)[2 * (j + 1)] = r[2 * j] := by simp [Nat.mul_add]
    simp only [pairs, List.getElem_cons_succ, ih, e1]
    by_cases h1 : 2 * j + 1 < r.length
    · rw [dif_pos h1, dif_pos (by simp; omega)]
      simp [Nat.mul_add]
    · rw [dif_neg h1, dif_neg (by simp; omega)]

theorem dig32_get (V j : Nat) (hj : j < (dig 4294967296 V).length) (h0 : 2 * j < (dig 65536 V).length) :
    (dig 4294967296 V)[j] = (dig 65536 V)[2 * j] + (if h1 : 2 * j + 1 < (dig 65536 V).length then (dig 65536 V)[2 * j + 1] * 65536 else 0) := by
  have := pairs_get (dig 65536 V) j (by rw [pairs_dig]; exact hj) h0
  simp only [pairs_dig] at this
  exact this
theorem dig32_len (V : Nat) : (dig 4294967296 V).length = ((dig 65536 V).length + 1) / 2 := by rw [← pairs_dig, pairs_len]

theorem dig16_len_le (l : List Nat) (h : ∀ x ∈ l, x < 4294967296) : (dig 65536 (val 4294967296 l)).length ≤ 2 * l.length := by
  rw [← val_split16, ← split16_len]
  exact dig_val_len (by omega) _ (split16_lt l h)

/-! ### Sums and differences, digit by digit -/
theorem val_take_snoc (B : Nat) (x : List Nat) (i : Nat) : val B (x.take (i + 1)) = val B (x.take i) + B ^ i * x.getD i 0 := by
  by_cases h : i < x.length
  · rw [List.take_succ_eq_append_getElem h, val_snoc, List.length_take, Nat.min_eq_left (by omega), List.getD_eq_getElem?_getD]
    simp [h]
  · rw [List.take_of_length_le (by omega), List.take_of_length_le (by omega), List.getD_eq_getElem?_getD, List.getElem?_eq_none (by omega)]
    simp

/-- One digit more of a sum. -/
theorem add_step {B P d c x y X Y : Nat} (h : d + P * c = X + Y) :
    (d + P * ((x + y + c) % B)) + (P * B) * ((x + y + c) / B) = (X + P * x) + (Y + P * y) := by
  have := Nat.div_add_mod (x + y + c) B
  have e : P * ((x + y + c) % B) + P * B * ((x + y + c) / B) = P * (x + y + c) := by
    rw [Nat.mul_assoc, ← Nat.mul_add, Nat.add_comm, this]
  have e2 : P * (x + y + c) = P * x + P * y + P * c := by rw [Nat.mul_add, Nat.mul_add]
  omega

/-- One digit more of a difference: c is what was borrowed. -/
theorem sub_step {B P d c x y X Y : Nat} (hB : 0 < B) (hc : c ≤ 1) (hy : y < B) (h : d + Y = X + P * c) :
    (d + P * ((B + x - y - c) % B)) + (Y + P * y) = (X + P * x) + (P * B) * (1 - (B + x - y - c) / B) ∨ B + x < y + c ∨ 2 * B ≤ B + x - y - c := by
  by_cases h1 : B + x < y + c
  · exact .inr (.inl h1)
  by_cases h2 : 2 * B ≤ B + x - y - c
  · exact .inr (.inr h2)
  refine .inl ?_
  obtain ⟨v, hv⟩ : ∃ v, v = B + x - y - c := ⟨_, rfl⟩
  rw [← hv] at h2 ⊢
  have hv' : v + y + c = B + x := by omega
  have hd := Nat.div_add_mod v B
  have hq : v / B ≤ 1 := by
    have : v / B < 2 := (Nat.div_lt_iff_lt_mul hB).2 (by omega)
    exact Nat.le_of_lt_succ this
  have e1 : P * v + P * y + P * c = P * B + P * x := by rw [← Nat.mul_add, ← Nat.mul_add, ← Nat.mul_add, hv']
  generalize v / B = q at *
  generalize v % B = r at *
  match q, hq with
  | 0, _ =>
    simp only [Nat.mul_zero, Nat.zero_add] at hd
    subst hd
    simp only [Nat.sub_zero, Nat.mul_one]
    omega
  | 1, _ =>
    have e2 : P * v = P * B + P * r := by rw [← Nat.mul_add]; rw [Nat.mul_one] at hd; rw [hd]
    simp only [Nat.sub_self, Nat.mul_zero]
    omega

theorem add_end {B : Nat} (hB : 2 ≤ B) {X Y : List Nat} (hX : ∀ x ∈ X, x < B) (hY : ∀ x ∈ Y, x < B) {k d c : Nat} (hk : X.length < k) (hk' : Y.length < k) (h : d + B ^ k * c = val B X + val B Y) : c = 0 := by
  obtain ⟨j, rfl⟩ : ∃ j, k = j + 1 := ⟨k - 1, by omega⟩
  have h1 := val_lt (by omega) X hX
  have h2 := val_lt (by omega) Y hY
  have h3 : B ^ X.length ≤ B ^ j := Nat.pow_le_pow_right (by omega) (by omega)
  have h4 : B ^ Y.length ≤ B ^ j := Nat.pow_le_pow_right (by omega) (by omega)
  have h5 : 2 * B ^ j ≤ B ^ (j + 1) := by rw [Nat.pow_succ, Nat.mul_comm]; exact Nat.mul_le_mul_left _ hB
  rcases Nat.eq_zero_or_pos c with h0 | h0
  · exact h0
  · have : B ^ (j + 1) * 1 ≤ B ^ (j + 1) * c := Nat.mul_le_mul_left _ h0
    omega

theorem dig_mono {B : Nat} (hB : 2 ≤ B) {m n : Nat} (h : m ≤ n) : (dig B m).length ≤ (dig B n).length := by
  apply dig_len_le hB
  have h1 := val_lt (B := B) (by omega) (dig B n) (dig_lt hB n)
  rw [val_dig hB] at h1
  omega

end Go.Proofs.Ytcipcpbjkcpgdaa
