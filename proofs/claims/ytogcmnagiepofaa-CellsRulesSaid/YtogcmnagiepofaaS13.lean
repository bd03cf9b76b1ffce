/- Sets of cells: both ways of growing are one: plain. -/
import Derived.Test.YtogcmnagiepofaaS12
namespace Go.Proofs.Ytogcmnagiepofaa
set_option linter.unusedVariables false
open Go

theorem getD_set_b (D : List Bool) (i j : Nat) (v : Bool) (hi : i < D.length) : (D.set j v).getD i false = if j = i then v else D.getD i false := by
  rw [List.getD_eq_getElem?_getD, List.getD_eq_getElem?_getD, List.getElem?_set]
  by_cases h : j = i
  · rw [if_pos h, if_pos h, if_pos (by omega)]; rfl
  · rw [if_neg h, if_neg h]
theorem fillR_get (D : List Bool) (p i : Nat) (hi : i < D.length) : ∀ k, ((fillR D p k).getD i false = true ↔ D.getD i false = true ∨ (p ≤ i ∧ i < p + k))
  | 0 => by
    show D.getD i false = true ↔ _
    constructor
    · exact fun h => .inl h
    · rintro (h | h)
      · exact h
      · omega
  | k + 1 => by
    have ih := fillR_get D p i hi k
    rw [fillR, getD_set_b _ _ _ _ (by rw [fillR_len]; exact hi)]
    by_cases h : p + k = i
    · rw [if_pos h]
      exact ⟨fun _ => .inr (by omega), fun _ => rfl⟩
    · rw [if_neg h, ih]
      constructor
      · rintro (h1 | h1)
        · exact .inl h1
        · exact .inr (by omega)
      · rintro (h1 | h1)
        · exact .inl h1
        · exact .inr (by omega)
theorem fillW_get (k X i : Nat) : ∀ (L : List Run3) (D : List Bool), i < D.length → ((fillW k X D L).getD i false = true ↔ D.getD i false = true ∨ ∃ r ∈ L, r.1 * X + (r.2.1 - k) ≤ i ∧ i < r.1 * X + (r.2.1 - k) + (min (r.2.2 + k) X - (r.2.1 - k)))
  | [], D, _ => by simp [fillW]
  | r :: L, D, hi => by
    have ih := fillW_get k X i L (fillR D (r.1 * X + (r.2.1 - k)) (min (r.2.2 + k) X - (r.2.1 - k))) (by rw [fillR_len]; exact hi)
    show (fillW k X (fillR D (r.1 * X + (r.2.1 - k)) (min (r.2.2 + k) X - (r.2.1 - k))) L).getD i false = true ↔ _
    rw [ih, fillR_get D _ i hi]
    constructor
    · rintro ((h | h) | ⟨r', hr, h⟩)
      · exact .inl h
      · exact .inr ⟨r, by simp, h⟩
      · exact .inr ⟨r', by simp [hr], h⟩
    · rintro (h | ⟨r', hr, h⟩)
      · exact .inl (.inl h)
      · rcases List.mem_cons.1 hr with rfl | hr
        · exact .inl (.inr h)
        · exact .inr ⟨r', hr, h⟩
theorem runEnd_in (l : List Bool) (q X x : Nat) : ∀ z, x ≤ z → z < runEnd l q X x → l.getD (q + z) false = true := by
  fun_induction runEnd l q X x with
  | case1 x h ih =>
    intro z h1 h2
    by_cases e : z = x
    · rw [e]; exact h.2
    · exact ih z (by omega) h2
  | case2 x h => intro z h1 h2; omega
theorem runEnd_out (l : List Bool) (q X x : Nat) : runEnd l q X x < X → ¬ l.getD (q + runEnd l q X x) false = true := by
  fun_induction runEnd l q X x with
  | case1 x h ih => exact ih
  | case2 x h => exact fun h1 h2 => h ⟨h1, h2⟩
theorem rowR_from (l : List Bool) (q X y x : Nat) : ∀ r ∈ rowR l q X y x, r.1 = y ∧ x ≤ r.2.1 := by
  fun_induction rowR l q X y x with
  | case1 x h ih =>
    intro r hr
    have hge := runEnd_ge l q X x
    rcases List.mem_append.1 hr with h1 | h1
    · split at h1
      · rw [List.mem_singleton] at h1
        subst h1
        exact ⟨rfl, Nat.le_refl _⟩
      · cases h1
    · have := ih r h1
      exact ⟨this.1, by omega⟩
  | case2 x h => intro r hr; cases hr
theorem rowR_iff (l : List Bool) (q X y x : Nat) : ∀ z, x ≤ z → z < X → (l.getD (q + z) false = true ↔ ∃ r ∈ rowR l q X y x, r.2.1 ≤ z ∧ z < r.2.2) := by
  fun_induction rowR l q X y x with
  | case1 x h ih =>
    intro z hz1 hz2
    have hge := runEnd_ge l q X x
    have hin := runEnd_in l q X x z hz1
    have hout := runEnd_out l q X x
    have hfr := rowR_from l q X y (runEnd l q X x + 1)
    generalize runEnd l q X x = e at *
    rcases (by omega : z < e ∨ z = e ∨ e + 1 ≤ z) with h1 | h1 | h1
    · refine ⟨fun _ => ⟨(y, x, e), List.mem_append.2 (.inl (by rw [if_pos (by omega)]; simp)), hz1, h1⟩, fun _ => hin h1⟩
    · subst h1
      refine ⟨fun h2 => absurd h2 (hout hz2), ?_⟩
      rintro ⟨r, hr, h3, h4⟩
      rcases List.mem_append.1 hr with h5 | h5
      · split at h5
        · rw [List.mem_singleton] at h5
          subst h5
          simp only at h4
          omega
        · cases h5
      · have := (hfr r h5).2
        omega
    · rw [ih z h1 hz2]
      constructor
      · rintro ⟨r, hr, h3⟩
        exact ⟨r, List.mem_append.2 (.inr hr), h3⟩
      · rintro ⟨r, hr, h3, h4⟩
        rcases List.mem_append.1 hr with h5 | h5
        · split at h5
          · rw [List.mem_singleton] at h5
            subst h5
            simp only at h4
            omega
          · cases h5
        · exact ⟨r, h5, h3, h4⟩
  | case2 x h => intro z h1 h2; omega
theorem rowsR_from (l : List Bool) (X Y y : Nat) : ∀ r ∈ rowsR l X Y y, y ≤ r.1 := by
  fun_induction rowsR l X Y y with
  | case1 y h ih =>
    intro r hr
    rcases List.mem_append.1 hr with h1 | h1
    · exact Nat.le_of_eq (rowR_from l _ X y 0 r h1).1.symm
    · have := ih r h1; omega
  | case2 y h => intro r hr; cases hr
theorem rowsR_iff (l : List Bool) (X Y y : Nat) : ∀ t z, y ≤ t → t < Y → z < X → (l.getD (t * X + z) false = true ↔ ∃ r ∈ rowsR l X Y y, r.1 = t ∧ r.2.1 ≤ z ∧ z < r.2.2) := by
  fun_induction rowsR l X Y y with
  | case1 y h ih =>
    intro t z h1 h2 h3
    by_cases e : t = y
    · subst e
      rw [rowR_iff l (t * X) X t 0 z (Nat.zero_le _) h3]
      constructor
      · rintro ⟨r, hr, h4⟩
        exact ⟨r, List.mem_append.2 (.inl hr), (rowR_from l _ X t 0 r hr).1, h4⟩
      · rintro ⟨r, hr, h4, h5⟩
        rcases List.mem_append.1 hr with h6 | h6
        · exact ⟨r, h6, h5⟩
        · have := rowsR_from l X Y (t + 1) r h6
          omega
    · rw [ih t z (by omega) h2 h3]
      constructor
      · rintro ⟨r, hr, h4⟩
        exact ⟨r, List.mem_append.2 (.inr hr), h4⟩
      · rintro ⟨r, hr, h4, h5⟩
        rcases List.mem_append.1 hr with h6 | h6
        · have := (rowR_from l _ X y 0 r h6).1
          omega
        · exact ⟨r, h6, h4, h5⟩
  | case2 y h => intro t z h1 h2; omega
theorem row_of {X y y' a b x : Nat} (hab : b ≤ X) (hx : x < X) (h1 : y' * X + a ≤ y * X + x) (h2 : y * X + x < y' * X + b) : y' = y ∧ a ≤ x ∧ x < b := by
  rcases Nat.lt_trichotomy y' y with h | h | h
  · have e : (y' + 1) * X ≤ y * X := Nat.mul_le_mul_right _ (by omega)
    rw [Nat.add_mul, Nat.one_mul] at e
    omega
  · subst h; omega
  · have e : (y + 1) * X ≤ y' * X := Nat.mul_le_mul_right _ (by omega)
    rw [Nat.add_mul, Nat.one_mul] at e
    omega
theorem cell_in {X Y y x : Nat} (hy : y < Y) (hx : x < X) : y * X + x < Y * X := by
  have e : (y + 1) * X ≤ Y * X := Nat.mul_le_mul_right _ (by omega)
  rw [Nat.add_mul, Nat.one_mul] at e
  omega
theorem getD_rep (n i : Nat) : (List.replicate n false).getD i false = false := by
  rw [List.getD_eq_getElem?_getD]
  cases h : (List.replicate n false)[i]? with
  | none => rfl
  | some b =>
    have := List.mem_of_getElem? h
    simpa using (List.eq_of_mem_replicate this)
/-- A row with what is at most k columns away. -/
theorem wide_iff {k X Y : Nat} {l : List Bool} {y x : Nat} (hy : y < Y) (hx : x < X) :
    ((fillW k X (List.replicate (Y * X) false) (rowsR l X Y 0)).getD (y * X + x) false = true ↔ ∃ z, z < X ∧ l.getD (y * X + z) false = true ∧ z ≤ x + k ∧ x ≤ z + k) := by
  rw [fillW_get k X _ _ _ (by rw [List.length_replicate]; exact cell_in hy hx), getD_rep]
  constructor
  · rintro (h | ⟨r, hr, h1, h2⟩)
    · cases h
    · obtain ⟨o1, o2, o3⟩ := rowsR_ok l X Y 0 r hr
      rw [Nat.add_assoc] at h2
      obtain ⟨rfl, h3, h4⟩ := row_of (a := r.2.1 - k) (b := r.2.1 - k + (min (r.2.2 + k) X - (r.2.1 - k))) (by omega) hx h1 h2
      have hz : ∀ z, r.2.1 ≤ z → z < r.2.2 → l.getD (r.1 * X + z) false = true := fun z g1 g2 => (rowsR_iff l X Y 0 r.1 z (Nat.zero_le _) o1 (by omega)).2 ⟨r, hr, rfl, g1, g2⟩
      rcases (by omega : x < r.2.1 ∨ (r.2.1 ≤ x ∧ x < r.2.2) ∨ r.2.2 ≤ x) with g | g | g
      · exact ⟨r.2.1, by omega, hz _ (Nat.le_refl _) o2, by omega, by omega⟩
      · exact ⟨x, hx, hz x g.1 g.2, by omega, by omega⟩
      · exact ⟨r.2.2 - 1, by omega, hz _ (by omega) (by omega), by omega, by omega⟩
  · rintro ⟨z, hz, h1, h2, h3⟩
    obtain ⟨r, hr, rfl, g1, g2⟩ := (rowsR_iff l X Y 0 y z (Nat.zero_le _) hy hz).1 h1
    exact .inr ⟨r, hr, by omega, by omega⟩
theorem tab_getD {N : Nat} {f : Nat → Bool} {i : Nat} (h : i < N) : (tab N f).getD i false = f i := by
  have hl : i < (tab N f).length := by rw [tab_len]; exact h
  rw [List.getD_eq_getElem?_getD, List.getElem?_eq_getElem hl]
  exact tab_get N f i hl
theorem turnT_get {X Y : Nat} {l : List Bool} {x y : Nat} (hx : x < X) (hy : y < Y) : (turnT X Y l).getD (x * Y + y) false = l.getD (y * X + x) false := by
  have h := cell_in hx hy
  have h1 : (x * Y + y) % Y = y := by rw [Nat.mul_comm, Nat.mul_add_mod]; exact Nat.mod_eq_of_lt hy
  have h2 : (x * Y + y) / Y = x := by rw [Nat.mul_comm, Nat.mul_add_div (by omega), Nat.div_eq_of_lt hy, Nat.add_zero]
  unfold turnT
  rw [tab_getD h, h1, h2]
/-- Two sets are one if they are so cell by cell. -/
theorem cells_ext {X Y : Nat} {l m : List Bool} (hX : 0 < X) (hl : l.length = Y * X) (hm : m.length = Y * X) (h : ∀ y x, y < Y → x < X → (l.getD (y * X + x) false = true ↔ m.getD (y * X + x) false = true)) : l = m := by
  apply List.ext_getElem
  · rw [hl, hm]
  · intro i h1 h2
    have hdm := Nat.div_add_mod i X
    have hmod := Nat.mod_lt i hX
    have hy : i / X < Y := by rw [Nat.div_lt_iff_lt_mul hX]; omega
    have := h (i / X) (i % X) hy hmod
    rw [Nat.mul_comm (i / X) X, hdm, List.getD_eq_getElem?_getD, List.getD_eq_getElem?_getD, List.getElem?_eq_getElem h1, List.getElem?_eq_getElem h2] at this
    exact Bool.eq_iff_iff.2 this
theorem growC_iff {k X Y : Nat} {l : List Bool} {y x : Nat} (hy : y < Y) (hx : x < X) :
    ((growC k X Y l).getD (y * X + x) false = true ↔ ∃ t z, t < Y ∧ z < X ∧ l.getD (t * X + z) false = true ∧ z ≤ x + k ∧ x ≤ z + k ∧ t ≤ y + k ∧ y ≤ t + k) := by
  unfold growC
  rw [turnT_get hy hx, wide_iff hx hy]
  constructor
  · rintro ⟨t, ht, h1, h2, h3⟩
    rw [turnT_get hx ht, wide_iff ht hx] at h1
    obtain ⟨z, hz, h4, h5, h6⟩ := h1
    exact ⟨t, z, ht, hz, h4, h5, h6, h2, h3⟩
  · rintro ⟨t, z, ht, hz, h4, h5, h6, h2, h3⟩
    refine ⟨t, ht, ?_, h2, h3⟩
    rw [turnT_get hx ht, wide_iff ht hx]
    exact ⟨z, hz, h4, h5, h6⟩
theorem hasB_iff {X Y : Nat} {l : List Bool} {p q : Int} (hX1 : 1 ≤ X) (hX2 : X ≤ 64) (hY1 : 1 ≤ Y) (hY2 : Y ≤ 64) : (hasB X Y (Y * X) l p q = true ↔ ∃ t z : Nat, q = (t : Int) ∧ p = (z : Int) ∧ t < Y ∧ z < X ∧ l.getD (t * X + z) false = true) := by
  have hm : mayR (X : Int) (Y : Int) (Y * X) = true := decide_eq_true ⟨by omega, by omega, by omega, by omega, by simp [Int.mul_comm]⟩
  unfold hasB
  constructor
  · intro h
    split at h
    · next hc =>
      obtain ⟨_, h1, h2, h3, h4⟩ := hc
      refine ⟨q.toNat, p.toNat, by omega, by omega, by omega, by omega, ?_⟩
      have e : (q * (X : Int) + p).toNat = q.toNat * X + p.toNat := by
        obtain ⟨a, rfl⟩ : ∃ a : Nat, q = (a : Int) := ⟨q.toNat, by omega⟩
        obtain ⟨b, rfl⟩ : ∃ b : Nat, p = (b : Int) := ⟨p.toNat, by omega⟩
        have e2 : (a : Int) * (X : Int) + (b : Int) = ((a * X + b : Nat) : Int) := by simp
        rw [e2]
        simp only [Int.toNat_natCast]
      rw [e] at h
      exact h
    · cases h
  · rintro ⟨t, z, rfl, rfl, ht, hz, h⟩
    rw [if_pos ⟨hm, by omega, by omega, by omega, by omega⟩, show (t : Int) * (X : Int) + (z : Int) = ((t * X + z : Nat) : Int) by simp, Int.toNat_natCast]
    exact h
theorem nearB_iff {X Y : Nat} {l : List Bool} {x y k : Nat} (hX1 : 1 ≤ X) (hX2 : X ≤ 64) (hY1 : 1 ≤ Y) (hY2 : Y ≤ 64) :
    (nearB X Y (Y * X) l x y k = true ↔ ∃ t z, t < Y ∧ z < X ∧ l.getD (t * X + z) false = true ∧ z ≤ x + k ∧ x ≤ z + k ∧ t ≤ y + k ∧ y ≤ t + k) := by
  constructor
  · intro h
    unfold nearB at h
    rw [List.any_eq_true] at h
    obtain ⟨d, hd, h⟩ := h
    rw [List.any_eq_true] at h
    obtain ⟨e, he, h⟩ := h
    rw [List.mem_range] at hd he
    obtain ⟨t, z, h1, h2, h3, h4, h5⟩ := (hasB_iff hX1 hX2 hY1 hY2).1 h
    exact ⟨t, z, h3, h4, h5, by omega, by omega, by omega, by omega⟩
  · rintro ⟨t, z, ht, hz, h, h1, h2, h3, h4⟩
    exact nearB_true (d := t + k - y) (e := z + k - x) (by omega) (by omega) ((hasB_iff hX1 hX2 hY1 hY2).2 ⟨t, z, by omega, by omega, ht, hz, h⟩)
theorem growR_iff {k X Y : Nat} {l : List Bool} {y x : Nat} (hX1 : 1 ≤ X) (hX2 : X ≤ 64) (hY1 : 1 ≤ Y) (hY2 : Y ≤ 64) (hy : y < Y) (hx : x < X) :
    ((growR k X Y l).getD (y * X + x) false = true ↔ ∃ t z, t < Y ∧ z < X ∧ l.getD (t * X + z) false = true ∧ z ≤ x + k ∧ x ≤ z + k ∧ t ≤ y + k ∧ y ≤ t + k) := by
  have h1 : (y * X + x) % X = x := by rw [Nat.mul_comm, Nat.mul_add_mod]; exact Nat.mod_eq_of_lt hx
  have h2 : (y * X + x) / X = y := by rw [Nat.mul_comm, Nat.mul_add_div (by omega), Nat.div_eq_of_lt hx, Nat.add_zero]
  unfold growR
  rw [tab_getD (cell_in hy hx), h1, h2]
  exact nearB_iff hX1 hX2 hY1 hY2
theorem growC_len (k X Y : Nat) (l : List Bool) : (growC k X Y l).length = Y * X := by unfold growC turnT; rw [tab_len]
theorem growR_len (k X Y : Nat) (l : List Bool) : (growR k X Y l).length = Y * X := by unfold growR; rw [tab_len]
/-- Both ways are one. -/
theorem grow_eq {k X Y : Nat} {l : List Bool} (hX1 : 1 ≤ X) (hX2 : X ≤ 64) (hY1 : 1 ≤ Y) (hY2 : Y ≤ 64) : growC k X Y l = growR k X Y l :=
  cells_ext (by omega) (growC_len _ _ _ _) (growR_len _ _ _ _) fun y x hy hx => by rw [growC_iff hy hx, growR_iff hX1 hX2 hY1 hY2 hy hx]
theorem growB_eq (x y : Int) (n : Nat) (l : List Bool) (k : Int) : growB x y n l k = growD x y n l k := by
  unfold growB growD
  by_cases h : mayR x y n = true ∧ 0 ≤ k ∧ k ≤ 8
  · rw [if_pos h, if_pos h]
    obtain ⟨m1, m2, m3, m4, m5⟩ := of_decide_eq_true h.1
    rw [grow_eq (by omega) (by omega) (by omega) (by omega)]
  · rw [if_neg h, if_neg h]

end Go.Proofs.Ytogcmnagiepofaa
