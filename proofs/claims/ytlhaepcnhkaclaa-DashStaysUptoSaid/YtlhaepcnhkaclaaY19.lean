/- Dashes stay on their line, in plain Lean. -/
import Derived.Test.YtlhaepcnhkaclaaY9
import Derived.Test.YtlhaepcnhkaclaaG18
namespace Go.Proofs.Ytlhaepcnhkaclaa
set_option linter.unusedVariables false
open Go Go.RowKit

def loB (l : List Pt) : Pt := ((bxS l l.length).1, (bxS l l.length).2.1)
def hiB (l : List Pt) : Pt := ((bxS l l.length).2.2.1, (bxS l l.length).2.2.2)
theorem bx_in {l : List Pt} : ∀ (n : Nat), n ≤ l.length → ∀ (i : Nat) (hi : i < l.length), i < n → inBox ((bxS l n).1, (bxS l n).2.1) ((bxS l n).2.2.1, (bxS l n).2.2.2) l[i]
  | 0, _, i, _, h => absurd h (by omega)
  | k + 1, hk, i, hi, h => by
    by_cases hk0 : k = 0
    · subst hk0
      obtain rfl : i = 0 := by omega
      rw [bxS_one (by omega)]
      unfold inBox
      simp
    · rw [bxS_succ (by omega) hk0]
      unfold inBox
      simp only []
      by_cases hik : i = k
      · subst hik
        omega
      · have ih := bx_in k (by omega) i hi (by omega)
        unfold inBox at ih
        simp only [] at ih
        omega
theorem bx_mem {l : List Pt} {p : Pt} (h : p ∈ l) : inBox (loB l) (hiB l) p := by
  obtain ⟨i, hi, rfl⟩ := List.mem_iff_getElem.1 h
  exact bx_in l.length (Nat.le_refl _) i hi hi
theorem find_box {lo hi : Pt} : ∀ (l : List Pt) (k n : Int), (∀ p ∈ l, inBox lo hi p ∧ fitP p.1 p.2 = true) → waysF l k ≠ [] → n ≤ k + path lenP l → inBox lo hi (findD (0, 0) (waysF l k) n)
  | [], _, _, _, h, _ => absurd rfl h
  | [_], _, _, _, h, _ => absurd rfl h
  | p :: q :: r, k, n, hb, h, hn => by
    have hp := hb p List.mem_cons_self
    have hq := hb q (List.mem_cons_of_mem _ List.mem_cons_self)
    have hr : ∀ x ∈ q :: r, inBox lo hi x ∧ fitP x.1 x.2 = true := fun x hx => hb x (List.mem_cons_of_mem _ hx)
    unfold waysF at h ⊢
    have hlb := lenP_bd p q
    simp only [path] at hn
    by_cases h1 : 0 < lenP p q
    · rw [if_pos h1]
      unfold findD
      by_cases h2 : n ≤ k + lenP p q
      · rw [if_pos h2]
        exact ah_box hp.1 hq.1 hp.2 hq.2 (by simp only []; omega)
      · rw [if_neg h2]
        by_cases h3 : waysF (q :: r) (k + lenP p q) = []
        · have := ways_nil _ _ h3
          omega
        · exact find_box (q :: r) _ n hr h3 (by omega)
    · rw [if_neg h1] at h ⊢
      exact find_box (q :: r) k n hr h (by omega)
theorem mid_mem {s t : Int} : ∀ {ws : List Way} {p : Pt}, p ∈ midW s t ws → ∃ x ∈ ws, p = x.1.1
  | [], p, h => absurd h (by simp [midW])
  | x :: r, p, h => by
    unfold midW at h
    rcases List.mem_append.1 h with h | h
    · split at h
      · simp at h; exact ⟨x, List.mem_cons_self, h⟩
      · simp at h
    · obtain ⟨y, hy, e⟩ := mid_mem h
      exact ⟨y, List.mem_cons_of_mem _ hy, e⟩
theorem piece_box {lo hi : Pt} {R : List Pt} (hR : ∀ p ∈ R, inBox lo hi p ∧ fitP p.1 p.2 = true) {s t : Int} (hs : s ≤ path lenP R) (ht : t ≤ path lenP R) (hl : 1 < (pieceF (waysF R 0) s t).length) : ∀ p ∈ pieceF (waysF R 0) s t, inBox lo hi p := by
  intro p hp
  by_cases hw : waysF R 0 = []
  · rw [hw] at hl
    simp [pieceF, midW, findD, ddL, ddA] at hl
  · have := ddL_mem hp
    rcases List.mem_cons.1 this with rfl | h
    · exact find_box R 0 s hR hw (by omega)
    · rcases List.mem_append.1 h with h | h
      · obtain ⟨x, hx, rfl⟩ := mid_mem h
        exact (hR _ (ways_bd R 0 x hx).2.2.2.2.1).1
      · simp only [List.mem_singleton] at h
        subst h
        exact find_box R 0 t hR hw (by omega)
theorem cut_box {lo hi : Pt} {R : List Pt} (hR : ∀ p ∈ R, inBox lo hi p ∧ fitP p.1 p.2 = true) {en : Int} (he : en = path lenP R) : ∀ (L : List Span) (n : Nat) (out : List (List Pt)), (∀ x ∈ out, ∀ p ∈ x, inBox lo hi p) → ∀ x ∈ (cutF (waysF R 0) en L n out).1, ∀ p ∈ x, inBox lo hi p
  | [], _, _, h => h
  | y :: r, n, out, h => by
    have h0 := (path_len_bd R).1
    unfold cutF
    by_cases h1 : en ≤ y.1.1
    · rw [if_pos h1]; exact h
    · rw [if_neg h1]
      by_cases h2 : 1000 < n + 1
      · rw [if_pos h2]
        exact fun x hx => absurd hx (by simp)
      · rw [if_neg h2]
        split
        · refine cut_box hR he r (n + 1) _ ?_
          split
          · next hl =>
            intro x hx
            rcases List.mem_append.1 hx with hx | hx
            · exact h x hx
            · simp only [List.mem_singleton] at hx
              subst hx
              exact piece_box hR (by omega) (by omega) hl
          · exact h
        · exact cut_box hR he r (n + 1) out h
theorem rnd_mem {l : List Pt} {c : Bool} {p : Pt} (h : p ∈ rndL l c) : p ∈ l := by
  unfold rndL at h
  split at h
  · rcases List.mem_append.1 h with h | h
    · exact h
    · exact List.mem_of_mem_take h
  · exact h
/-- What is drawn lies within the line's box. -/
theorem cutA_box {l : List Pt} {c : Bool} {pat : List Int} {ph : Int} (h : (cutA l c pat ph).2 = 0) : ∀ x ∈ (cutA l c pat ph).1, ∀ p ∈ x.1, inBox (loB l) (hiB l) p := by
  unfold cutA at h ⊢
  by_cases h1 : mayD pat ph = false
  · rw [if_pos h1] at h; cases h
  · rw [if_neg h1] at h ⊢
    by_cases h2 : fitL l = false
    · rw [if_pos h2] at h; cases h
    · rw [if_neg h2] at h ⊢
      have hf : fitL l = true := by simpa using h2
      by_cases h3 : pat = []
      · rw [if_pos h3]
        intro x hx p hp
        simp only [List.mem_singleton] at hx
        subst hx
        exact bx_mem hp
      · rw [if_neg h3]
        intro x hx p hp
        obtain ⟨y, hy, rfl⟩ := List.mem_map.1 hx
        refine cut_box (R := rndL l c) (fun q hq => ⟨bx_mem (rnd_mem hq), ?_⟩) (path_rnd_long hf).symm _ _ _ (fun x hx => absurd hx (by simp)) y hy p hp
        exact List.all_eq_true.1 hf q (rnd_mem hq)
theorem cut_err (ws : List Way) (en : Int) : ∀ (L : List Span) (n : Nat) (out : List (List Pt)), (cutF ws en L n out).2 = 0 ∨ (cutF ws en L n out).1 = []
  | [], _, _ => .inl rfl
  | y :: r, n, out => by
    unfold cutF
    split
    · exact .inl rfl
    · split
      · exact .inr rfl
      · split
        · exact cut_err ws en r _ _
        · exact cut_err ws en r _ _
theorem cutA_err {l : List Pt} {c : Bool} {pat : List Int} {ph : Int} (h : (cutA l c pat ph).2 ≠ 0) : (cutA l c pat ph).1 = [] := by
  unfold cutA at h ⊢
  by_cases h1 : mayD pat ph = false
  · rw [if_pos h1]
  · rw [if_neg h1] at h ⊢
    by_cases h2 : fitL l = false
    · rw [if_pos h2]
    · rw [if_neg h2] at h ⊢
      by_cases h3 : pat = []
      · rw [if_pos h3] at h; exact absurd rfl h
      · rw [if_neg h3] at h ⊢
        rcases cut_err (waysF (rndL l c) 0) (longL l c) (spansF pat 2000 0 (-(ph.tmod (totD pat)))) 0 [] with h4 | h4
        · exact absurd h4 h
        · rw [h4]; rfl
/-- A pattern of one length that is as long as the line. -/
theorem cutA_one {l : List Pt} {c : Bool} (hf : fitL l = true) (h1 : 1 ≤ longL l c) (h2 : longL l c ≤ 8388607) : (cutA l c [longL l c] 0).2 = 0 ∧ (cutA l c [longL l c] 0).1.length ≤ 1 := by
  unfold cutA
  have hm : mayD [longL l c] 0 = true := mayD_iff.2 ⟨⟨by simp, by omega, by omega⟩, fun x hx => by simp at hx; subst hx; exact ⟨h1, h2⟩⟩
  rw [if_neg (by rw [hm]; simp), if_neg (by rw [hf]; simp), if_neg (by simp)]
  have et : -((0 : Int).tmod (totD [longL l c])) = 0 := by simp
  rw [et]
  generalize waysF (rndL l c) 0 = ws
  generalize longL l c = n at *
  have e2 : spansF [n] 2000 0 0 = ((0, n), true) :: ((n, n + n), false) :: spansF [n] 1998 2 (n + n) := by
    rw [show (2000 : Nat) = 1998 + 1 + 1 from rfl]
    unfold spansF
    have p0 : patAt [n] 0 = n := rfl
    rw [p0, if_pos (by omega)]
    unfold spansF
    have p1 : patAt [n] (0 + 1) = n := by unfold patAt; simp
    rw [p1, if_pos (by omega)]
    simp only [Int.zero_add]
    rfl
  rw [e2]
  have key : ∀ (out : List (List Pt)), cutF ws n (((n, n + n), false) :: spansF [n] 1998 2 (n + n)) 1 out = (out, 0) := fun out => by
    unfold cutF
    simp only []
    rw [if_pos (Int.le_refl _)]
  have key2 : cutF ws n (((0, n), true) :: ((n, n + n), false) :: spansF [n] 1998 2 (n + n)) 0 [] = (if 1 < (pieceF ws (max 0 0) (min n n)).length then [] ++ [pieceF ws (max 0 0) (min n n)] else [], 0) := by
    conv => lhs; unfold cutF
    simp only []
    rw [if_neg (by omega), if_neg (by omega), if_pos trivial]
    exact key _
  rw [key2]
  refine ⟨rfl, ?_⟩
  simp only [List.length_map]
  split <;> simp
end Go.Proofs.Ytlhaepcnhkaclaa
