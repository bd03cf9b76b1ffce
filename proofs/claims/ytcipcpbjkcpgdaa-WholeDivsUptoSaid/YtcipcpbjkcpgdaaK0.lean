/- The plain law of long division: a quotient word guessed out of the highest words, taken, and given back once. -/
import Derived.Test.YtcipcpbjkcpgdaaCore
namespace Go.Proofs.Ytcipcpbjkcpgdaa
set_option linter.unusedVariables false

/-- The guess's end: what was guessed is the least of both. -/
theorem guess_end {B q top next left c v : Nat} (hv : q * top + left = v) (hq : q ≤ B - 1) (hc : q * next ≤ left * B + c) (hlow : min ((v * B + c) / (top * B + next)) (B - 1) ≤ q) (hT : 0 < top * B + next) :
    q = min ((v * B + c) / (top * B + next)) (B - 1) := by
  refine Nat.le_antisymm (Nat.le_min.2 ⟨?_, hq⟩) hlow
  rw [Nat.le_div_iff_mul_le hT, ← hv, Nat.mul_add, Nat.add_mul]
  have : q * (top * B) = q * top * B := (Nat.mul_assoc _ _ _).symm
  omega
theorem guess_break {B q top next left c v : Nat} (hB : 1 ≤ B) (hv : q * top + left = v) (hl : B ≤ left) (hn : next ≤ B - 1) (hvt : v ≤ top * B + next) (hlow : min ((v * B + c) / (top * B + next)) (B - 1) ≤ q) (hT : 0 < top * B + next) :
    q = min ((v * B + c) / (top * B + next)) (B - 1) := by
  have hq : q ≤ B - 1 := by
    rcases Nat.lt_or_ge (B - 1) q with h | h
    · have h1 : B * top ≤ q * top := Nat.mul_le_mul_right _ (by omega)
      rw [Nat.mul_comm B top] at h1
      omega
    · exact h
  refine guess_end hv hq ?_ hlow hT
  have h1 : q * next ≤ (B - 1) * B := Nat.mul_le_mul hq (by omega)
  have h2 : (B - 1) * B ≤ left * B := Nat.mul_le_mul_right _ (by omega)
  omega
theorem guess_more {B q top next left c v : Nat} (hv : q * top + left = v) (h : B - 1 < q ∨ left * B + c < q * next) (hlow : min ((v * B + c) / (top * B + next)) (B - 1) ≤ q) (hT : 0 < top * B + next) :
    1 ≤ q ∧ min ((v * B + c) / (top * B + next)) (B - 1) ≤ q - 1 ∧ (q - 1) * top + (left + top) = v := by
  have h1 : 1 ≤ q := by
    rcases h with h | h
    · omega
    · rcases Nat.eq_zero_or_pos q with h0 | h0
      · rw [h0, Nat.zero_mul] at h; omega
      · exact h0
  refine ⟨h1, ?_, ?_⟩
  · rcases h with h | h
    · exact Nat.le_trans (Nat.min_le_right _ _) (by omega)
    · refine Nat.le_trans (Nat.min_le_left _ _) ?_
      have : (v * B + c) / (top * B + next) < q := by
        rw [Nat.div_lt_iff_lt_mul hT, ← hv, Nat.mul_add, Nat.add_mul]
        have : q * (top * B) = q * top * B := (Nat.mul_assoc _ _ _).symm
        omega
      omega
  · obtain ⟨p, rfl⟩ : ∃ p, q = p + 1 := ⟨q - 1, by omega⟩
    rw [Nat.add_mul] at hv
    simp only [Nat.add_sub_cancel]
    omega
/-- What the guess is worth: at most one too great. -/
theorem guess_ok {B P V S T2 T3 lv lp : Nat} (hB : 1 ≤ B) (hV : V = T2 * S + lv) (hP : P = T3 * S + lp) (hlv : lv < S) (hlp : lp < S) (hT : B ≤ T2) (hPV : P < V * B) :
    P / V ≤ min (T3 / T2) (B - 1) ∧ min (T3 / T2) (B - 1) ≤ P / V + 1 := by
  have hS : 0 < S := by omega
  have hT2 : 0 < T2 := by omega
  have hVp : 0 < V := by rw [hV]; have := Nat.mul_pos hT2 hS; omega
  constructor
  · refine Nat.le_min.2 ⟨?_, ?_⟩
    · rw [Nat.le_div_iff_mul_le hT2]
      have h1 : P / V * V ≤ P := Nat.div_mul_le_self P V
      have h2 : P / V * (T2 * S) ≤ P / V * V := Nat.mul_le_mul_left _ (by omega)
      have h3 : P / V * T2 * S < (T3 + 1) * S := by
        rw [Nat.mul_assoc, Nat.add_mul, Nat.one_mul]
        exact Nat.lt_of_le_of_lt (Nat.le_trans h2 h1) (by omega)
      exact Nat.le_of_lt_succ (Nat.lt_of_mul_lt_mul_right h3)
    · have : P / V < B := by rw [Nat.div_lt_iff_lt_mul hVp, Nat.mul_comm]; exact hPV
      exact Nat.le_sub_one_of_lt this
  · rcases Nat.eq_zero_or_pos (min (T3 / T2) (B - 1)) with h0 | h0
    · rw [h0]; exact Nat.zero_le _
    · have hq1 : min (T3 / T2) (B - 1) ≤ B - 1 := Nat.min_le_right _ _
      have hq2 : min (T3 / T2) (B - 1) * T2 ≤ T3 := (Nat.le_div_iff_mul_le hT2).1 (Nat.min_le_left _ _)
      generalize min (T3 / T2) (B - 1) = q at *
      obtain ⟨p, rfl⟩ : ∃ p, q = p + 1 := ⟨q - 1, by omega⟩
      refine Nat.add_le_add_right ?_ 1
      rw [Nat.le_div_iff_mul_le hVp]
      have h1 : (p + 1) * lv ≤ (B - 1) * S := Nat.mul_le_mul hq1 (by omega)
      have h2 : (B - 1) * S ≤ T2 * S := Nat.mul_le_mul_right _ (by omega)
      have h3 : (p + 1) * T2 * S ≤ T3 * S := Nat.mul_le_mul_right _ hq2
      have h4 : (p + 1) * V = (p + 1) * T2 * S + (p + 1) * lv := by rw [hV, Nat.mul_add, Nat.mul_assoc]
      have h5 : (p + 1) * V = p * V + V := by rw [Nat.add_mul, Nat.one_mul]
      omega

/-! ### A part of a list, written in place -/
theorem part_set {x : List Nat} {j v : Nat} (h : j < x.length) : (x.set j v).take j = x.take j ∧ (x.set j v).getD j 0 = v ∧ (x.set j v).drop (j + 1) = x.drop (j + 1) ∧ (x.set j v).length = x.length := by
  refine ⟨?_, ?_, ?_, by simp⟩
  · rw [List.take_set, List.set_eq_of_length_le (by simp; omega)]
  · rw [List.getD_eq_getElem?_getD, List.getElem?_set_self h]; rfl
  · rw [List.drop_set, if_pos (by omega)]
theorem part_set_at (D : List Nat) (i j v : Nat) : (D.set (i + j) v).drop i = (D.drop i).set j v ∧ (D.set (i + j) v).take i = D.take i := by
  refine ⟨?_, ?_⟩
  · rw [List.drop_set, if_neg (by omega), show i + j - i = j by omega]
  · rw [List.take_set, List.set_eq_of_length_le (by simp; omega)]
theorem getD_drop (D : List Nat) (i j : Nat) : (D.drop i).getD j 0 = D.getD (i + j) 0 := by
  simp [List.getD_eq_getElem?_getD, List.getElem?_drop]
theorem getD_take (D : List Nat) (i j : Nat) (h : j < i) : (D.take i).getD j 0 = D.getD j 0 := by
  simp [List.getD_eq_getElem?_getD, h]

theorem val_take_snoc' (B : Nat) (x : List Nat) (i : Nat) : val B (x.take (i + 1)) = val B (x.take i) + B ^ i * x.getD i 0 := val_take_snoc B x i
theorem part_write {B : Nat} {E D : List Nat} {i j d : Nat} (h : i + j < E.length) (hd : E.drop (i + j) = D.drop (i + j)) (ht : E.take i = D.take i) :
    (E.set (i + j) d).take i = D.take i ∧ (E.set (i + j) d).drop (i + j + 1) = D.drop (i + j + 1) ∧ val B (((E.set (i + j) d).drop i).take (j + 1)) = val B ((E.drop i).take j) + B ^ j * d ∧
      val B ((D.drop i).take (j + 1)) = val B ((D.drop i).take j) + B ^ j * E[i + j] := by
  have h1 := part_set_at E i j d
  have hjl : j < (E.drop i).length := by rw [List.length_drop]; omega
  have h2 := part_set (x := E.drop i) (j := j) (v := d) hjl
  refine ⟨by rw [h1.2, ht], ?_, ?_, ?_⟩
  · rw [List.drop_set, if_pos (by omega)]
    have := congrArg (List.drop 1) hd
    rwa [List.drop_drop, List.drop_drop] at this
  · rw [h1.1, val_take_snoc, h2.1, h2.2.1]
  · rw [val_take_snoc]
    have e : (D.drop i).getD j 0 = E[i + j] := by
      have e1 : (D.drop (i + j)).getD 0 0 = (E.drop (i + j)).getD 0 0 := by rw [hd]
      rw [getD_drop, getD_drop] at e1
      rw [getD_drop]
      simp only [Nat.add_zero] at e1
      rw [e1, List.getD_eq_getElem?_getD, List.getElem?_eq_getElem h]; rfl
    rw [e]
/-- What is left behind the guess: taken once too often or not. -/
theorem take_fin0 {P P1 V q M br : Nat} (h : P1 + q * V = P + M * br) (hbr : br = 0) (hq : P / V ≤ q) (hq2 : q ≤ P / V + 1) (hV : 0 < V) : q = P / V ∧ P1 = P % V := by
  subst hbr
  rw [Nat.mul_zero, Nat.add_zero] at h
  have h1 : q ≤ P / V := (Nat.le_div_iff_mul_le hV).2 (by omega)
  have h2 : q = P / V := Nat.le_antisymm h1 hq
  refine ⟨h2, ?_⟩
  have h3 := Nat.div_add_mod P V
  rw [← h2, Nat.mul_comm] at h3
  omega
theorem take_fin1 {P P1 P2 V q M c : Nat} (h : P1 + q * V = P + M * 1) (hP1 : P1 < M) (hc : c ≤ 1) (h2 : P2 + M * c = P1 + V) (hP2 : P2 < M) (hq : P / V ≤ q) (hq2 : q ≤ P / V + 1) (hV : 0 < V) : 1 ≤ q ∧ q - 1 = P / V ∧ P2 = P % V := by
  have hgt : P < q * V := by omega
  have h3 : P / V < q := (Nat.div_lt_iff_lt_mul hV).2 hgt
  have h4 : q = P / V + 1 := Nat.le_antisymm hq2 h3
  have h5 := Nat.div_add_mod P V
  have h6 := Nat.mod_lt P hV
  have h7 : q * V = V * (P / V) + V := by rw [h4, Nat.add_mul, Nat.one_mul, Nat.mul_comm]
  refine ⟨by rw [h4]; exact Nat.succ_pos _, by rw [h4]; rfl, ?_⟩
  generalize P / V = t at *
  generalize P % V = r at *
  generalize V * t = s at *
  generalize q * V = qv at *
  rcases Nat.le_one_iff_eq_zero_or_eq_one.1 hc with rfl | rfl
  · omega
  · omega

/-- One word taken. -/
theorem take_step {B P q w cy r br X E Y d : Nat} (hB : 1 ≤ B) (hr : r < B) (hbr : br ≤ 1) (h : E + q * Y = X + P * (cy + br)) (hd : d = (B + r - (w * q + cy) % B - br) % B) :
    E + P * d + q * (Y + P * w) = X + P * r + P * B * ((w * q + cy) / B + (1 - (B + r - (w * q + cy) % B - br) / B)) ∧ d < B := by
  have hlo : (w * q + cy) % B < B := Nat.mod_lt _ (by omega)
  have hdm := Nat.div_add_mod (w * q + cy) B
  generalize (w * q + cy) % B = lo at *
  generalize (w * q + cy) / B = hi at *
  have hd2 : d + lo + br = r + B * (1 - (B + r - lo - br) / B) ∧ d < B := by
    rcases Nat.lt_or_ge (B + r - lo - br) B with hlt | hge
    · rw [Nat.mod_eq_of_lt hlt] at hd
      rw [Nat.div_eq_of_lt hlt]
      omega
    · have h2 : (B + r - lo - br) / B = 1 := by
        rw [Nat.div_eq_iff (by omega)]; omega
      have h3 : (B + r - lo - br) % B = B + r - lo - br - B := by
        have := Nat.div_add_mod (B + r - lo - br) B
        rw [h2] at this; omega
      rw [h2]
      omega
  generalize 1 - (B + r - lo - br) / B = br' at *
  refine ⟨?_, hd2.2⟩
  have e1 : q * (Y + P * w) = q * Y + P * (w * q) := by rw [Nat.mul_add, Nat.mul_left_comm, Nat.mul_comm q w]
  have e2 : P * B * (hi + br') = P * (B * hi) + P * (B * br') := by rw [Nat.mul_assoc, Nat.mul_add, Nat.mul_add]
  have e3 : P * (d + lo + br) = P * (r + B * br') := by rw [hd2.1]
  have e4 : P * (B * hi + lo) = P * (w * q + cy) := by rw [hdm]
  rw [e1, e2]
  simp only [Nat.mul_add] at *
  omega
/-- One word given back. -/
theorem give_step {B P w cy r X E Y : Nat} (h : E + P * cy = X + Y) : E + P * ((r + w + cy) % B) + P * B * ((r + w + cy) / B) = X + P * r + (Y + P * w) := by
  have hdm := Nat.div_add_mod (r + w + cy) B
  have e : P * ((r + w + cy) % B) + P * B * ((r + w + cy) / B) = P * (r + w + cy) := by rw [Nat.mul_assoc, ← Nat.mul_add, Nat.add_comm, hdm]
  simp only [Nat.mul_add] at *
  omega

/-- One quotient word, as the words lie. -/
theorem div_step {B V A : Nat} {D D' O : List Nat} {i n q : Nat} (hB : 2 ≤ B) (hn : V < B ^ n) (hD : ∀ x ∈ D, x < B) (hi : i < O.length) (hlen : D'.length = D.length) (hlow : D'.take i = D.take i) (hup : D'.drop (i + n + 1) = D.drop (i + n + 1))
    (hA : A = val B D + V * (B ^ (i + 1) * val B (O.drop (i + 1)))) (hr : val B (D.drop (i + 1)) < V) (hin : i + n < D.length)
    (hq : q = val B ((D.drop i).take (n + 1)) / V) (hp : val B ((D'.drop i).take (n + 1)) = val B ((D.drop i).take (n + 1)) % V) :
    A = val B D' + V * (B ^ i * val B ((O.set i q).drop i)) ∧ val B (D'.drop i) < V := by
  have hz : val B (D.drop (i + n + 1)) = 0 := by
    have h0 : val B (D.drop (i + 1)) = val B ((D.drop (i + 1)).take n) + B ^ n * val B (D.drop (i + n + 1)) := by
      have h1 := val_append B ((D.drop (i + 1)).take n) ((D.drop (i + 1)).drop n)
      rw [List.take_append_drop, List.drop_drop, List.length_take, List.length_drop, Nat.min_eq_left (by omega)] at h1
      rw [h1, show i + 1 + n = i + n + 1 by omega]
    rcases Nat.eq_zero_or_pos (val B (D.drop (i + n + 1))) with h | h
    · exact h
    · have : B ^ n * 1 ≤ B ^ n * val B (D.drop (i + n + 1)) := Nat.mul_le_mul_left _ h
      omega
  have hpart : ∀ X : List Nat, X.length = D.length → X.drop (i + n + 1) = D.drop (i + n + 1) → val B (X.drop i) = val B ((X.drop i).take (n + 1)) := by
    intro X hl hX
    have h1 := val_append B ((X.drop i).take (n + 1)) ((X.drop i).drop (n + 1))
    rw [List.take_append_drop, List.drop_drop, show i + (n + 1) = i + n + 1 by omega, hX, hz, Nat.mul_zero, Nat.add_zero] at h1
    exact h1
  have hfull : ∀ X : List Nat, X.length = D.length → val B X = val B (X.take i) + B ^ i * val B (X.drop i) := by
    intro X hl
    have h1 := val_append B (X.take i) (X.drop i)
    rw [List.take_append_drop, List.length_take, Nat.min_eq_left (by omega)] at h1
    exact h1
  have hV : 0 < V := by omega
  have e1 := hpart D rfl rfl
  have e2 := hpart D' hlen hup
  have hO : (O.set i q).drop i = q :: O.drop (i + 1) := by
    rw [List.drop_eq_getElem_cons (by simpa using hi)]
    simp [List.drop_set]
  refine ⟨?_, by rw [e2, hp]; exact Nat.mod_lt _ hV⟩
  rw [hA, hfull D rfl, hfull D' hlen, hlow, e1, e2, hp, hO, val]
  have h3 := Nat.div_add_mod (val B ((D.drop i).take (n + 1))) V
  rw [← hq] at h3
  generalize val B ((D.drop i).take (n + 1)) = P at *
  have e3 : B ^ i * (V * q + P % V) = B ^ i * P := by rw [h3]
  rw [Nat.mul_add] at e3
  have e4 : V * (B ^ i * (q + B * val B (O.drop (i + 1)))) = B ^ i * (V * q) + V * (B ^ (i + 1) * val B (O.drop (i + 1))) := by
    rw [Nat.mul_add, Nat.mul_add, Nat.pow_succ, Nat.mul_left_comm V, Nat.mul_assoc (B ^ i)]
  rw [e4]
  omega
/-- The end. -/
theorem div_end {A a b up V Q R : Nat} (hA : A = a * 2 ^ up) (hV : V = b * 2 ^ up) (h : A = R + V * Q) (hr : R < V) : Q = a / b ∧ R / 2 ^ up = a % b := by
  have hp : 0 < 2 ^ up := Nat.two_pow_pos up
  have hV0 : 0 < V := by omega
  have hq : Q = A / V := by
    rw [h, Nat.add_comm, Nat.mul_add_div hV0, Nat.div_eq_of_lt hr, Nat.add_zero]
  have hR : R = A % V := by rw [h, Nat.add_comm, Nat.mul_add_mod, Nat.mod_eq_of_lt hr]
  refine ⟨?_, ?_⟩
  · rw [hq, hA, hV, Nat.mul_div_mul_right _ _ hp]
  · rw [hR, hA, hV, Nat.mul_mod_mul_right, Nat.mul_div_cancel _ hp]
/-- Before the first word. -/
theorem div_start {B a b up m n : Nat} (hB : 2 ≤ B) (ha : a < B ^ m) (hb : B ^ (n - 1) ≤ b) (h1 : 1 ≤ n) (hmn : n ≤ m) : a * 2 ^ up < B ^ (m - n + 1) * (b * 2 ^ up) := by
  have hp : 0 < 2 ^ up := Nat.two_pow_pos up
  rw [← Nat.mul_assoc]
  refine Nat.mul_lt_mul_of_pos_right ?_ hp
  refine Nat.lt_of_lt_of_le ha ?_
  have : B ^ m = B ^ (m - n + 1) * B ^ (n - 1) := by rw [← Nat.pow_add]; congr 1; omega
  rw [this]
  exact Nat.mul_le_mul_left _ hb

end Go.Proofs.Ytcipcpbjkcpgdaa
