/- Fractions and their texts: the plain law; strings.Cut at a stroke. -/
import Derived.Test.YtcipcpbjkcpgdaaQR
import Derived.Test.YtcipcpbjkcpgdaaQ12
import Derived.Test.YtcipcpbjkcpgdaaShelf
import Derived.Lib.IndexLaws
namespace Go.Proofs.Ytcipcpbjkcpgdaa
set_option linter.unusedVariables false
open Go Go.RowKit

theorem dTx_plain_back (l : List Nat) : PlainL l → dTx (dval l) = l := by
  generalize hn : l.length = n
  induction n using Nat.strongRecOn generalizing l with
  | _ n ih =>
    intro h
    have hne := h.1
    have e := (List.dropLast_concat_getLast hne).symm
    generalize l.dropLast = r at e
    generalize l.getLast hne = c at e
    subst e
    have hc := h.2.2 c (by simp)
    rw [dval_snoc]
    cases r with
    | nil =>
      have : dval [] = 0 := rfl
      rw [this, dTx_small (by omega)]
      simp only [List.nil_append, List.cons.injEq, and_true]
      omega
    | cons x t =>
      have hx : x ≠ 48 := fun hx => by
        have := h.2.1 (by simpa using hx)
        simp at this
      have hp : PlainL (x :: t) := ⟨by simp, fun hh => absurd (by simpa using hh) hx, fun c hc => h.2.2 c (by
        rw [List.mem_append]; exact .inl hc)⟩
      have h1 := ih (x :: t).length (by rw [← hn]; simp) (x :: t) rfl hp
      have h2 : dval (x :: t) ≠ 0 := fun h0 => by
        rw [h0, dTx_small (by decide)] at h1
        simp only [List.cons.injEq] at h1
        omega
      generalize dval (x :: t) = m at *
      rw [dTx_step (by omega), show (10 * m + (c - 48)) / 10 = m by omega, show (10 * m + (c - 48)) % 10 = c - 48 by omega, h1]
      rw [show 48 + (c - 48) = c by omega]
def texL (z : Int) : List Nat := if z < 0 then 45 :: dTx z.natAbs else dTx z.natAbs
theorem natsOf_app (a b : ByteArray) : natsOf (a ++ b) = natsOf a ++ natsOf b := by simp [natsOf]
theorem natsOf_inj {a b : ByteArray} (h : natsOf a = natsOf b) : a = b := by rw [← bytesOf_natsOf a, ← bytesOf_natsOf b, h]
theorem natsOf_textZ (z : Int) : natsOf (textZ z) = texL z := by
  unfold textZ texL
  split
  · rw [natsOf_app, natsOf_decS]; rfl
  · rw [natsOf_decS]
theorem natsOf_textF (z : Int) (D : Nat) : natsOf (textF z D) = if D = 1 then texL z else texL z ++ 47 :: dTx D := by
  unfold textF
  split
  · rw [natsOf_textZ]
  · rw [natsOf_app, natsOf_app, natsOf_textZ, natsOf_decS, List.append_assoc]; rfl
theorem texL_ne (z : Int) : ∀ c ∈ texL z, c ≠ 47 := by
  intro c hc
  unfold texL at hc
  split at hc
  · rcases List.mem_cons.1 hc with rfl | h
    · decide
    · have := dTx_at _ c h; omega
  · have := dTx_at _ c hc; omega
theorem wh_text {l : List Nat} (h : (whParse l).1 = 0) : texL (whParse l).2 = l := by
  unfold whParse at h ⊢
  split at h
  · exact absurd h (by simp)
  rename_i h1
  rw [if_neg h1]
  split at h
  · exact absurd h (by simp)
  rename_i h2
  rw [if_neg h2]
  split at h
  · exact absurd h (by simp)
  rename_i h3
  rw [if_neg h3]
  have hp := Decidable.not_not.1 h2
  have hb := dTx_plain_back _ hp
  show texL (wz (isNeg l) (dval (behind l))) = l
  cases hn : isNeg l with
  | true =>
    have hd : dval (behind l) ≠ 0 := fun h0 => h3 ⟨hn, h0⟩
    have e : wz true (dval (behind l)) = -(dval (behind l) : Int) := rfl
    have e2 : behind l = l.drop 1 := by unfold behind; rw [hn]; rfl
    have h45 : l.getD 0 0 = 45 := by unfold isNeg at hn; exact of_decide_eq_true hn
    rw [e]
    unfold texL
    rw [if_pos (by omega), Int.natAbs_neg, Int.natAbs_natCast, hb, e2]
    cases l with
    | nil => simp at h45
    | cons x t => simp at h45 ⊢; omega
  | false =>
    have e : wz false (dval (behind l)) = (dval (behind l) : Int) := rfl
    have e2 : behind l = l := by unfold behind; rw [hn]; rfl
    rw [e]
    unfold texL
    rw [if_neg (by omega), Int.natAbs_natCast, hb, e2]
theorem text_wh {z : Int} (h : (texL z).length ≤ 2000) : whParse (texL z) = (0, z) := by
  have hat := dTx_at z.natAbs
  have hne := dTx_ne z.natAbs
  have hdv := dTx_dval z.natAbs
  have hpl := dTx_plain z.natAbs
  unfold texL at h ⊢
  split
  · rename_i hz
    rw [if_pos hz] at h
    have e1 : isNeg (45 :: dTx z.natAbs) = true := rfl
    have e2 : behind (45 :: dTx z.natAbs) = dTx z.natAbs := rfl
    simp only [List.length_cons] at h
    unfold whParse
    rw [e2, if_neg (by omega), if_neg (fun hh => hh hpl), hdv, if_neg (by rintro ⟨_, h0⟩; omega), e1]
    show (0, -(z.natAbs : Int)) = (0, z)
    rw [show -(z.natAbs : Int) = z by omega]
  · rename_i hz
    rw [if_neg hz] at h
    have e1 : isNeg (dTx z.natAbs) = false := by
      unfold isNeg
      refine decide_eq_false fun h45 => ?_
      cases hd : dTx z.natAbs with
      | nil => exact hne hd
      | cons x t =>
        rw [hd] at h45 hat
        have := hat x (by simp)
        simp at h45
        omega
    have e2 : behind (dTx z.natAbs) = dTx z.natAbs := by unfold behind; rw [e1]; rfl
    unfold whParse
    rw [e2, if_neg (by omega), if_neg (fun hh => hh hpl), hdv, e1, if_neg (by rintro ⟨h0, _⟩; cases h0)]
    show (0, (z.natAbs : Int)) = (0, z)
    rw [show (z.natAbs : Int) = z by omega]
/-- Where the first stroke stands, or the end. -/
def slx : List Nat → Nat
  | [] => 0
  | x :: t => if x = 47 then 0 else slx t + 1
theorem slx_le : ∀ l : List Nat, slx l ≤ l.length
  | [] => Nat.le_refl _
  | x :: t => by
    unfold slx
    split
    · omega
    · have := slx_le t; simp only [List.length_cons]; omega
theorem slx_app {a : List Nat} (b : List Nat) (h : ∀ c ∈ a, c ≠ 47) : slx (a ++ 47 :: b) = a.length := by
  induction a with
  | nil => rfl
  | cons x t ih =>
    show (if x = 47 then 0 else slx (t ++ 47 :: b) + 1) = _
    rw [if_neg (h x (by simp)), ih (fun c hc => h c (by simp [hc]))]; rfl
theorem slx_none {a : List Nat} (h : ∀ c ∈ a, c ≠ 47) : slx a = a.length := by
  induction a with
  | nil => rfl
  | cons x t ih =>
    show (if x = 47 then 0 else slx t + 1) = _
    rw [if_neg (h x (by simp)), ih (fun c hc => h c (by simp [hc]))]; rfl
theorem slx_split : ∀ {l : List Nat}, slx l < l.length → l = l.take (slx l) ++ 47 :: l.drop (slx l + 1)
  | [], h => absurd h (by simp)
  | x :: t, h => by
    unfold slx at h ⊢
    split
    · rename_i hx; subst hx; rfl
    · rename_i hx
      rw [if_neg hx] at h
      have := slx_split (l := t) (by simp only [List.length_cons] at h; omega)
      simp only [List.take_succ_cons, List.drop_succ_cons, List.cons_append]
      exact congrArg (x :: ·) this
theorem slx_lt {l : List Nat} {k : Nat} (h : k < slx l) : l.getD k 0 ≠ 47 := by
  induction l generalizing k with
  | nil => simp [slx] at h
  | cons x t ih =>
    unfold slx at h
    split at h
    · omega
    · rename_i hx
      cases k with
      | zero => simpa using hx
      | succ k => simpa using ih (k := k) (by omega)
theorem slx_at {l : List Nat} (h : slx l < l.length) : l.getD (slx l) 0 = 47 := by
  induction l with
  | nil => simp at h
  | cons x t ih =>
    unfold slx at h ⊢
    split
    · rename_i hx; simpa using hx
    · rename_i hx
      rw [if_neg hx] at h
      simpa using ih (by simp only [List.length_cons] at h; omega)
/-- What the two Parse answer: a numerator, a denominator, what is wrong. -/
def fpP (l : List Nat) : Int × Nat × Int :=
  if (whParse (l.take (slx l))).1 ≠ 0 then (0, 0, 3)
  else if slx l = l.length then ((whParse (l.take (slx l))).2, 1, 0)
  else if ¬ ((l.drop (slx l + 1)).length ≤ 2000 ∧ PlainL (l.drop (slx l + 1))) then (0, 0, 3)
  else if dval (l.drop (slx l + 1)) = 0 ∨ dval (l.drop (slx l + 1)) = 1 ∨ fg (whParse (l.take (slx l))).2 (dval (l.drop (slx l + 1))) ≠ 1 then (0, 0, 3)
  else ((whParse (l.take (slx l))).2, dval (l.drop (slx l + 1)), 0)
theorem fp_text {q : Rat} (h : (natsOf (textF q.num q.den)).length ≤ 2000) : fpP (natsOf (textF q.num q.den)) = (q.num, q.den, 0) := by
  rw [natsOf_textF] at h ⊢
  by_cases h1 : q.den = 1
  · rw [if_pos h1] at h ⊢
    have e := slx_none (texL_ne q.num)
    unfold fpP
    rw [e, List.take_length, text_wh h, if_neg (by simp), if_pos rfl, h1]
  · rw [if_neg h1] at h ⊢
    have e := slx_app (dTx q.den) (texL_ne q.num)
    simp only [List.length_append, List.length_cons] at h
    have e2 : (texL q.num ++ 47 :: dTx q.den).take (texL q.num).length = texL q.num := List.take_left' rfl
    have e3 : (texL q.num ++ 47 :: dTx q.den).drop ((texL q.num).length + 1) = dTx q.den := by
      rw [← List.drop_drop, List.drop_left' rfl]; rfl
    unfold fpP
    rw [e, e2, e3, text_wh (by omega), if_neg (by simp), if_neg (by simp), if_neg (fun hh => hh ⟨by omega, dTx_plain _⟩), dTx_dval, if_neg]
    rintro (h0 | h0 | h0)
    · exact q.den_nz h0
    · exact h1 h0
    · exact h0 (by unfold fg; exact q.reduced)
theorem fp_iff {l : List Nat} {z : Int} {d : Nat} (hs : slx l < l.length) (hp : (whParse (l.take (slx l))).1 = 0) (hz : (whParse (l.take (slx l))).2 = z) (hb : PlainL (l.drop (slx l + 1))) (hd : dval (l.drop (slx l + 1)) = d) (h0 : d ≠ 0) :
    natsOf (textF (mkRat z d).num (mkRat z d).den) = l ↔ (d ≠ 1 ∧ fg z d = 1) := by
  have e := slx_split hs
  have t1 := wh_text hp
  have t2 := dTx_plain_back _ hb
  rw [hz] at t1
  rw [hd] at t2
  rw [← (rz_num h0).1, ← (rz_num h0).2, natsOf_textF]
  constructor
  · intro h
    by_cases h1 : rd z d = 1
    · rw [if_pos h1] at h
      have := slx_none (texL_ne (rz z d))
      rw [h] at this
      omega
    · rw [if_neg h1] at h
      have h2 := slx_app (dTx (rd z d)) (texL_ne (rz z d))
      rw [h] at h2
      have e3 : (texL (rz z d) ++ 47 :: dTx (rd z d)).drop ((texL (rz z d)).length + 1) = dTx (rd z d) := by
        rw [← List.drop_drop, List.drop_left' rfl]; rfl
      rw [h, ← h2, ← t2] at e3
      have e4 := congrArg dval e3
      rw [dTx_dval, dTx_dval] at e4
      refine ⟨by omega, ?_⟩
      unfold rd at e4
      have hg := fg_pos (z := z) h0
      generalize fg z d = g at *
      rcases Nat.lt_or_ge 1 g with h5 | h5
      · exact absurd e4.symm (Nat.ne_of_lt (Nat.div_lt_self (by omega) h5))
      · omega
  · rintro ⟨h1, h2⟩
    have e5 : rz z d = z := by unfold rz; rw [h2]; simp
    have e6 : rd z d = d := by unfold rd; rw [h2]; simp
    rw [e5, e6, if_neg h1, t1, t2]
    exact e.symm

end Go.Proofs.Ytcipcpbjkcpgdaa
