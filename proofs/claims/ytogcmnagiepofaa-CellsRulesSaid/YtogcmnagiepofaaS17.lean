/- Sets of cells: the rules of sets: plain. -/
import Derived.Test.YtogcmnagiepofaaS16
namespace Go.Proofs.Ytogcmnagiepofaa
set_option linter.unusedVariables false
open Go

def RunLt (r s : Run3) : Prop := r.1 < s.1 ∨ (r.1 = s.1 ∧ r.2.2 < s.2.1)
theorem rowR_pw (l : List Bool) (q X y x : Nat) : (rowR l q X y x).Pairwise RunLt := by
  fun_induction rowR l q X y x with
  | case1 x h ih =>
    have hfr := rowR_from l q X y (runEnd l q X x + 1)
    rw [List.pairwise_append]
    refine ⟨?_, ih, ?_⟩
    · split
      · exact List.pairwise_singleton _ _
      · exact List.Pairwise.nil
    · intro r hr s hs
      split at hr
      · rw [List.mem_singleton] at hr
        subst hr
        have := hfr s hs
        exact .inr ⟨this.1.symm, by show runEnd l q X x < s.2.1; omega⟩
      · cases hr
  | case2 x h => exact List.Pairwise.nil
theorem rowsR_pw (l : List Bool) (X Y y : Nat) : (rowsR l X Y y).Pairwise RunLt := by
  fun_induction rowsR l X Y y with
  | case1 y h ih =>
    rw [List.pairwise_append]
    refine ⟨rowR_pw _ _ _ _ _, ih, fun r hr s hs => .inl ?_⟩
    have h1 := (rowR_from l _ X y 0 r hr).1
    have h2 := rowsR_from l X Y (y + 1) s hs
    omega
  | case2 y h => exact List.Pairwise.nil
theorem rowsR_runs (l : List Bool) (X Y : Nat) : RunsOk X Y (rowsR l X Y 0) := by
  intro i h
  obtain ⟨h1, h2, h3⟩ := rowsR_ok l X Y 0 _ (List.getElem_mem h)
  refine ⟨h1, h2, h3, fun h0 => ?_⟩
  exact (List.pairwise_iff_getElem.1 (rowsR_pw l X Y 0)) (i - 1) i (by omega) h (by omega)
theorem fills_get (X i : Nat) : ∀ (L : List Run3) (D : List Bool), i < D.length → ((fills X D L).getD i false = true ↔ D.getD i false = true ∨ ∃ r ∈ L, r.1 * X + r.2.1 ≤ i ∧ i < r.1 * X + r.2.1 + (r.2.2 - r.2.1))
  | [], D, _ => by simp [fills]
  | r :: L, D, hi => by
    have ih := fills_get X i L (fillR D (r.1 * X + r.2.1) (r.2.2 - r.2.1)) (by rw [fillR_len]; exact hi)
    show (fills X (fillR D (r.1 * X + r.2.1) (r.2.2 - r.2.1)) L).getD i false = true ↔ _
    rw [ih, fillR_get D _ i hi]
    constructor
    · rintro ((h | h) | ⟨r', hr, h⟩)
      · exact .inl h
      · exact .inr ⟨r, by simp, h⟩
      · exact .inr ⟨r', by simp [hr], h⟩
    · rintro (h | ⟨r', hr, h⟩)
      · exact .inl (.inl h)
      · rcases List.mem_cons.1 hr with rfl | hr
        · exact .inl (.inr h)
        · exact .inr ⟨r', hr, h⟩
/-- A set is that of its runs. -/
theorem fills_runs {X Y : Nat} {l : List Bool} (hX : 0 < X) (hl : l.length = Y * X) : fills X (List.replicate (Y * X) false) (rowsR l X Y 0) = l := by
  refine cells_ext hX (by rw [fills_len, List.length_replicate]) hl fun y x hy hx => ?_
  rw [fills_get X _ _ _ (by rw [List.length_replicate]; exact cell_in hy hx), getD_rep, rowsR_iff l X Y 0 y x (Nat.zero_le _) hy hx]
  constructor
  · rintro (h | ⟨r, hr, h1, h2⟩)
    · cases h
    · obtain ⟨o1, o2, o3⟩ := rowsR_ok l X Y 0 r hr
      rw [Nat.add_assoc] at h2
      obtain ⟨g1, g2, g3⟩ := row_of (a := r.2.1) (b := r.2.1 + (r.2.2 - r.2.1)) (by omega) hx h1 h2
      exact ⟨r, hr, g1, g2, by omega⟩
  · rintro ⟨r, hr, rfl, h1, h2⟩
    exact .inr ⟨r, hr, by omega, by omega⟩
/-- Growing adds up. -/
theorem growR_add {k m X Y : Nat} {l : List Bool} (hX1 : 1 ≤ X) (hX2 : X ≤ 64) (hY1 : 1 ≤ Y) (hY2 : Y ≤ 64) : growR m X Y (growR k X Y l) = growR (k + m) X Y l := by
  refine cells_ext (by omega) (growR_len _ _ _ _) (growR_len _ _ _ _) fun y x hy hx => ?_
  rw [growR_iff hX1 hX2 hY1 hY2 hy hx, growR_iff hX1 hX2 hY1 hY2 hy hx]
  constructor
  · rintro ⟨t, z, ht, hz, h, h1, h2, h3, h4⟩
    obtain ⟨t', z', ht', hz', h', h1', h2', h3', h4'⟩ := (growR_iff hX1 hX2 hY1 hY2 ht hz).1 h
    exact ⟨t', z', ht', hz', h', by omega, by omega, by omega, by omega⟩
  · rintro ⟨t', z', ht', hz', h', h1, h2, h3, h4⟩
    have hmid : ∀ p q N : Nat, p < N → q < N → p ≤ q + (k + m) → q ≤ p + (k + m) → ∃ r, r < N ∧ p ≤ r + k ∧ r ≤ p + k ∧ r ≤ q + m ∧ q ≤ r + m := fun p q N hp hq g1 g2 => by
      rcases Nat.lt_or_ge p q with g | g
      · exact ⟨min (p + k) q, by omega, by omega, by omega, by omega, by omega⟩
      · exact ⟨max (p - k) q, by omega, by omega, by omega, by omega, by omega⟩
    obtain ⟨t, ht, a1, a2, a3, a4⟩ := hmid t' y Y ht' hy h3 h4
    obtain ⟨z, hz, b1, b2, b3, b4⟩ := hmid z' x X hz' hx h1 h2
    exact ⟨t, z, ht, hz, (growR_iff hX1 hX2 hY1 hY2 ht hz).2 ⟨t', z', ht', hz', h', b1, b2, a1, a2⟩, b3, b4, a3, a4⟩
theorem zip_dm : ∀ (l m : List Bool), (List.zipWith (fun p q => p && q) (l.map (! ·)) (m.map (! ·))).map (! ·) = List.zipWith (fun p q => p || q) l m
  | [], m => by simp
  | p :: l, [] => by simp
  | p :: l, q :: m => by
    have := zip_dm l m
    simp only [List.map_cons, List.zipWith_cons_cons, this]
    cases p <;> cases q <;> rfl
/-- What is in one at least is what isn't in what isn't in both. -/
theorem either_dm {x y : Int} {n : Nat} {l : List Bool} {x' y' : Int} {n' : Nat} {l' : List Bool} (hl : l.length = n) (hl' : l'.length = n') (h : (twoB (fun p q => p || q) x y n l x' y' n' l').2 = 0) :
    ∃ m, flipB x y n l = ((x, y, l.map (! ·)), 0) ∧ flipB x' y' n' l' = ((x, y, l'.map (! ·)), 0) ∧ twoB (fun p q => p && q) x y n (l.map (! ·)) x y n' (l'.map (! ·)) = ((x, y, m), 0) ∧ m.length = n ∧ flipB x y n m = ((x, y, List.zipWith (fun p q => p || q) l l'), 0) ∧ twoB (fun p q => p || q) x y n l x' y' n' l' = ((x, y, List.zipWith (fun p q => p || q) l l'), 0) := by
  unfold twoB at h
  split at h
  · next hc =>
    obtain ⟨h1, h2, rfl, rfl⟩ := hc
    have hnn : n = n' := by
      have e1 := (of_decide_eq_true h1).2.2.2.2
      have e2 := (of_decide_eq_true h2).2.2.2.2
      omega
    subst hnn
    refine ⟨List.zipWith (fun p q => p && q) (l.map (! ·)) (l'.map (! ·)), if_pos h1, if_pos h2, if_pos ⟨h1, h2, rfl, rfl⟩, by simp; omega, ?_, if_pos ⟨h1, h2, rfl, rfl⟩⟩
    unfold flipB
    rw [if_pos h1, zip_dm]
  · simp at h

end Go.Proofs.Ytogcmnagiepofaa
