/- Lines in pieces, in plain Lean. -/
import Derived.Test.YtlhaepcnhkaclaaMG
namespace Go.Proofs.Ytlhaepcnhkaclaa
set_option linter.unusedVariables false

theorem isq_zero {n : Nat} (h : isq n = 0) : n = 0 := by
  rcases Nat.eq_zero_or_pos n with h1 | h1
  · exact h1
  · have := isq_pos (A := n) (by omega); omega
theorem mul_self_nn (t : Int) : 0 ≤ t * t := by
  rcases Int.le_total 0 t with h | h
  · exact Int.mul_nonneg h h
  · exact Int.mul_nonneg_of_nonpos_of_nonpos h h

/-- A line's points, the first one again at the end of a closed one. -/
def rndL (l : List Pt) (c : Bool) : List Pt := if c = true ∧ l ≠ [] then l ++ l.take 1 else l
theorem rndL_nil (c : Bool) : rndL [] c = [] := by unfold rndL; simp
theorem path_rnd (l : List Pt) (c : Bool) : path lenP (rndL l c) = path lenP l + backL l c := by
  unfold rndL backL
  by_cases h : l = []
  · subst h; simp [path]
  · cases c
    · simp [h]
    · rw [if_pos ⟨rfl, h⟩, dif_neg h, if_pos rfl]
      cases l with
      | nil => exact absurd rfl h
      | cons a r => exact path_snoc lenP (a :: r) h a
theorem path_rnd_long {l : List Pt} {c : Bool} (h : fitL l = true) : path lenP (rndL l c) = longL l c := by rw [path_rnd, longL_yes h]

def ahP (p q : Pt) (n : Int) : Pt := (ahX p.1 p.2 q.1 q.2 n, ahY p.1 p.2 q.1 q.2 n)
/-- The point at a distance, as the document says. -/
def atR (z : Pt) : List Pt → Int → Pt
  | p :: q :: r, n => if 0 < lenP p q ∧ n ≤ lenP p q then ahP p q n else atR z (q :: r) (n - lenP p q)
  | _, _ => z
/-- A way: from where to where, where it begins, how long it is. -/
abbrev Way := (Pt × Pt) × Int × Int
def waysF : List Pt → Int → List Way
  | p :: q :: r, at_ => if 0 < lenP p q then ((p, q), at_, lenP p q) :: waysF (q :: r) (at_ + lenP p q) else waysF (q :: r) at_
  | _, _ => []
theorem ways_snoc : ∀ (l : List Pt) (h : l ≠ []) (x : Pt) (s : Int), waysF (l ++ [x]) s = waysF l s ++ (if 0 < lenP (l.getLast h) x then [((l.getLast h, x), s + path lenP l, lenP (l.getLast h) x)] else [])
  | [a], _, x, s => by
    show (if 0 < lenP a x then ((a, x), s, lenP a x) :: [] else []) = [] ++ (if 0 < lenP a x then [((a, x), s + path lenP [a], lenP a x)] else [])
    simp [path]
  | a :: b :: r, _, x, s => by
    have ih := ways_snoc (b :: r) (by simp)
    simp only [List.cons_append] at ih ⊢
    rw [List.getLast_cons (by simp : b :: r ≠ [])]
    unfold waysF
    have hb := lenP_bd a b
    by_cases h : 0 < lenP a b
    · rw [if_pos h, if_pos h, ih x]
      simp only [path, List.cons_append, Int.add_assoc]
    · rw [if_neg h, if_neg h, ih x]
      have e0 : lenP a b = 0 := by omega
      simp only [path, e0, Int.zero_add]
theorem rnd_len (l : List Pt) (c : Bool) : (rndL l c).length = if c = true ∧ l ≠ [] then l.length + 1 else l.length := by
  unfold rndL
  split
  · next h =>
    cases l with
    | nil => exact absurd rfl h.2
    | cons a r => simp
  · rfl
theorem rnd_at {l : List Pt} {c : Bool} {k : Nat} (h : k < (rndL l c).length) (h0 : l ≠ []) : (rndL l c)[k] = l[k % l.length]'(Nat.mod_lt _ (List.length_pos_iff.2 h0)) := by
  have hp := List.length_pos_iff.2 h0
  have hl := rnd_len l c
  unfold rndL at h ⊢
  by_cases hc : c = true ∧ l ≠ []
  · simp only [if_pos hc] at h ⊢
    rw [List.length_append, List.length_take] at h
    by_cases hk : k < l.length
    · rw [List.getElem_append_left hk]
      congr 1
      exact (Nat.mod_eq_of_lt hk).symm
    · have hk2 : k = l.length := by omega
      subst hk2
      rw [List.getElem_append_right (Nat.le_refl _)]
      simp [List.getElem_take]
  · simp only [if_neg hc] at h ⊢
    congr 1
    exact (Nat.mod_eq_of_lt h).symm
theorem ways_step {R : List Pt} {k : Nat} (h : k + 1 < R.length) : waysF (R.take (k + 1 + 1)) 0 = waysF (R.take (k + 1)) 0 ++ (if 0 < lenP R[k] R[k + 1] then [((R[k], R[k + 1]), path lenP (R.take (k + 1)), lenP R[k] R[k + 1])] else []) := by
  have hne : R.take (k + 1) ≠ [] := by intro h0; have := congrArg List.length h0; rw [List.length_take, List.length_nil] at this; omega
  have hl : (R.take (k + 1)).getLast hne = R[k] := by
    rw [List.getLast_eq_getElem]
    simp only [List.length_take, List.getElem_take]
    congr 1; omega
  rw [List.take_succ_eq_append_getElem h, ways_snoc _ hne, hl, Int.zero_add]
theorem path_step {R : List Pt} {k : Nat} (h : k + 1 < R.length) : path lenP (R.take (k + 1 + 1)) = path lenP (R.take (k + 1)) + lenP R[k] R[k + 1] := path_take lenP R k h
def findD (z : Pt) : List Way → Int → Pt
  | [], _ => z
  | w :: r, n => if n ≤ w.2.1 + w.2.2 then ahP w.1.1 w.1.2 (n - w.2.1) else findD z r n
theorem find_at (z : Pt) : ∀ (l : List Pt) (s n : Int), findD z (waysF l s) n = atR z l (n - s)
  | [], _, _ => rfl
  | [_], _, _ => rfl
  | p :: q :: r, s, n => by
    unfold waysF atR
    have ih := find_at z (q :: r)
    have hb := lenP_bd p q
    by_cases h : 0 < lenP p q
    · rw [if_pos h]
      unfold findD
      by_cases h2 : n ≤ s + lenP p q
      · rw [if_pos h2, if_pos ⟨h, by omega⟩]
      · rw [if_neg h2, if_neg (fun h3 => h2 (by omega)), ih]
        congr 1; omega
    · rw [if_neg h, if_neg (fun h3 => h h3.1), ih]
      congr 1; omega
theorem ways_nil : ∀ (l : List Pt) (s : Int), waysF l s = [] → path lenP l = 0
  | [], _, _ => rfl
  | [_], _, _ => rfl
  | p :: q :: r, s, h => by
    unfold waysF at h
    have hb := lenP_bd p q
    by_cases h1 : 0 < lenP p q
    · rw [if_pos h1] at h; cases h
    · rw [if_neg h1] at h
      have := ways_nil (q :: r) s h
      simp only [path]
      omega
theorem find_any (z z' : Pt) : ∀ (l : List Pt) (s n : Int), waysF l s ≠ [] → n ≤ s + path lenP l → findD z (waysF l s) n = findD z' (waysF l s) n
  | [], _, _, h, _ => absurd rfl h
  | [_], _, _, h, _ => absurd rfl h
  | p :: q :: r, s, n, h, hn => by
    unfold waysF at h ⊢
    have hb := lenP_bd p q
    simp only [path] at hn
    by_cases h1 : 0 < lenP p q
    · rw [if_pos h1]
      unfold findD
      by_cases h2 : n ≤ s + lenP p q
      · rw [if_pos h2, if_pos h2]
      · rw [if_neg h2, if_neg h2]
        by_cases h3 : waysF (q :: r) (s + lenP p q) = []
        · have := ways_nil _ _ h3
          omega
        · exact find_any z z' (q :: r) _ n h3 (by omega)
    · rw [if_neg h1] at h ⊢
      exact find_any z z' (q :: r) s n h (by omega)

/-- Of neighbours that are the same the first one stays. -/
def ddA : Pt → List Pt → List Pt
  | _, [] => []
  | x, y :: r => if y = x then ddA x r else y :: ddA y r
def ddL : List Pt → List Pt
  | [] => []
  | x :: r => x :: ddA x r
theorem ddA_snoc : ∀ (l : List Pt) (x p : Pt), ddA x (l ++ [p]) = if p = l.getLastD x then ddA x l else ddA x l ++ [p]
  | [], x, p => rfl
  | y :: r, x, p => by
    rw [List.getLastD_cons, List.cons_append]
    unfold ddA
    by_cases h : y = x
    · subst h
      rw [if_pos rfl, if_pos rfl]
      exact ddA_snoc r y p
    · rw [if_neg h, if_neg h, ddA_snoc r y p]
      split <;> rfl
theorem ddL_snoc {l : List Pt} (h : l ≠ []) (z p : Pt) : ddL (l ++ [p]) = if p = l.getLastD z then ddL l else ddL l ++ [p] := by
  cases l with
  | nil => exact absurd rfl h
  | cons x r =>
    rw [List.getLastD_cons, List.cons_append]
    show x :: ddA x (r ++ [p]) = if p = r.getLastD x then x :: ddA x r else (x :: ddA x r) ++ [p]
    rw [ddA_snoc r x p]
    split <;> rfl
theorem ddA_last : ∀ (l : List Pt) (x : Pt), (ddA x l).getLastD x = l.getLastD x
  | [], _ => rfl
  | y :: r, x => by
    unfold ddA
    rw [List.getLastD_cons]
    by_cases h : y = x
    · subst h
      rw [if_pos rfl]
      exact ddA_last r y
    · rw [if_neg h, List.getLastD_cons]
      exact ddA_last r y
theorem ddL_ne {l : List Pt} (h : l ≠ []) : ddL l ≠ [] := by
  cases l with
  | nil => exact absurd rfl h
  | cons x r => simp [ddL]
theorem ddL_last (l : List Pt) (z : Pt) : (ddL l).getLastD z = l.getLastD z := by
  cases l with
  | nil => rfl
  | cons x r =>
    unfold ddL
    rw [List.getLastD_cons, List.getLastD_cons]
    exact ddA_last r x
theorem ddA_mem : ∀ (l : List Pt) (x y : Pt), y ∈ ddA x l → y ∈ l
  | [], _, _, h => by simp [ddA] at h
  | z :: r, x, y, h => by
    unfold ddA at h
    split at h
    · exact List.mem_cons_of_mem _ (ddA_mem r x y h)
    · rcases List.mem_cons.1 h with rfl | h
      · exact List.mem_cons_self
      · exact List.mem_cons_of_mem _ (ddA_mem r z y h)
theorem ddL_mem {l : List Pt} {y : Pt} (h : y ∈ ddL l) : y ∈ l := by
  cases l with
  | nil => simp [ddL] at h
  | cons x r =>
    rcases List.mem_cons.1 h with rfl | h
    · exact List.mem_cons_self
    · exact List.mem_cons_of_mem _ (ddA_mem r x y h)
theorem ddL_len (l : List Pt) : (ddL l).length ≤ l.length := by
  have hA : ∀ (r : List Pt) (x : Pt), (ddA x r).length ≤ r.length := by
    intro r
    induction r with
    | nil => intro x; simp [ddA]
    | cons y r ih =>
      intro x
      unfold ddA
      split
      · have := ih x; simp only [List.length_cons]; omega
      · have := ih y; simp only [List.length_cons]; omega
  cases l with
  | nil => simp [ddL]
  | cons x r => have := hA r x; simp only [ddL, List.length_cons]; omega

/-- The points between, as the document says, and as the program does. -/
def midR (s t : Int) : List Pt → Int → List Pt
  | p :: q :: r, k => (if s < k ∧ k < t then [p] else []) ++ midR s t (q :: r) (k + lenP p q)
  | _, _ => []
def midW (s t : Int) : List Way → List Pt
  | [] => []
  | w :: r => (if s < w.2.1 ∧ w.2.1 < t then [w.1.1] else []) ++ midW s t r

theorem len_zero {p q : Pt} (hp : fitP p.1 p.2 = true) (hq : fitP q.1 q.2 = true) (h : ¬ 0 < lenP p q) : p = q := by
  have hb := lenP_bd p q
  have h0 : lenI p.1 p.2 q.1 q.2 = 0 := by unfold lenP at h; omega
  rw [lenI_yes hp hq] at h0
  have h1 := isq_zero h0
  have h2 : 0 ≤ (q.1 - p.1) * (q.1 - p.1) := mul_self_nn _
  have h3 : 0 ≤ (q.2 - p.2) * (q.2 - p.2) := mul_self_nn _
  have h4 : (q.1 - p.1) * (q.1 - p.1) = 0 := by omega
  have h5 : (q.2 - p.2) * (q.2 - p.2) = 0 := by omega
  have h6 := Int.mul_eq_zero.1 h4
  have h7 := Int.mul_eq_zero.1 h5
  exact Prod.ext (by omega) (by omega)

theorem mid_dd (s t : Int) (b : Pt) : ∀ (l : List Pt) (k : Int) (x : Pt), fitL l = true → t ≤ k + path lenP l → ddA x (midR s t l k ++ [b]) = ddA x (midW s t (waysF l k) ++ [b])
  | [], _, _, _, _ => rfl
  | [_], _, _, _, _ => rfl
  | p :: q :: r, k, x, hf, ht => by
    unfold midR waysF
    have hf1 : fitP p.1 p.2 = true := fitL_at hf 0 (by simp)
    have hf2 : fitP q.1 q.2 = true := fitL_at hf 1 (by simp)
    have hfr : fitL (q :: r) = true := by unfold fitL at hf ⊢; rw [List.all_cons] at hf; exact (Bool.and_eq_true_iff.1 hf).2
    simp only [path] at ht
    by_cases h : 0 < lenP p q
    · rw [if_pos h]
      simp only [midW]
      have ih := fun x => mid_dd s t b (q :: r) (k + lenP p q) x hfr (by omega)
      by_cases h2 : s < k ∧ k < t
      · rw [if_pos h2]
        simp only [List.cons_append, List.nil_append, ddA]
        rw [ih x, ih p]
      · rw [if_neg h2]
        exact ih x
    · rw [if_neg h]
      have hpq := len_zero hf1 hf2 h
      have hb := lenP_bd p q
      have e0 : lenP p q = 0 := by omega
      rw [e0, Int.add_zero]
      have ih := mid_dd s t b (q :: r) k x hfr (by omega)
      by_cases h2 : s < k ∧ k < t
      · rw [if_pos h2]
        cases r with
        | nil => simp only [path] at ht; omega
        | cons q' r' =>
          rw [← ih]
          subst hpq
          unfold midR
          rw [if_pos h2]
          simp only [List.cons_append, List.nil_append, ddA, if_true]
          by_cases h7 : p = x
          · rw [if_pos h7, if_pos h7]
          · rw [if_neg h7, if_neg h7]
      · rw [if_neg h2]
        exact ih

/-- A piece: as the program makes it, and as the document says. -/
def pieceF (ws : List Way) (s t : Int) : List Pt := ddL (findD (0, 0) ws s :: (midW s t ws ++ [findD (0, 0) ws t]))
/-- The point at a distance of a line; none. -/
def atF (l : List Pt) (c : Bool) (n : Int) : Pt × Bool := if l = [] ∨ fitL l = false ∨ n < 0 ∨ longL l c < n then ((0, 0), false) else (atR (l.headD (0, 0)) (rndL l c) n, true)
def pieceR (l : List Pt) (c : Bool) (s t : Int) : List Pt := ddL ((atF l c s).1 :: (midR s t (rndL l c) 0 ++ [(atF l c t).1]))
theorem fit_rnd {l : List Pt} {c : Bool} (h : fitL l = true) : fitL (rndL l c) = true := by
  unfold rndL
  split
  · unfold fitL at *
    rw [List.all_append, h, Bool.true_and, List.all_eq_true]
    exact fun x hx => List.all_eq_true.1 h x (List.mem_of_mem_take hx)
  · exact h
theorem piece_same {l : List Pt} {c : Bool} (hf : fitL l = true) {s t : Int} (hs : 0 ≤ s) (hs2 : s ≤ longL l c) (ht : 0 ≤ t) (ht2 : t ≤ longL l c) (out : List (List Pt)) :
    (if 1 < (pieceF (waysF (rndL l c) 0) s t).length then out ++ [pieceF (waysF (rndL l c) 0) s t] else out) = (if 1 < (pieceR l c s t).length then out ++ [pieceR l c s t] else out) := by
  have hp := path_rnd_long (c := c) hf
  by_cases hw : waysF (rndL l c) 0 = []
  · have h0 := ways_nil _ _ hw
    have e1 : s = 0 := by omega
    have e2 : t = 0 := by omega
    subst e1; subst e2
    have h1 : pieceF (waysF (rndL l c) 0) 0 0 = [(0, 0)] := by rw [hw]; rfl
    have hm : ∀ (m : List Pt) (k : Int), midR 0 0 m k = [] := by
      intro m
      induction m with
      | nil => intro k; rfl
      | cons p r ih =>
        intro k
        cases r with
        | nil => rfl
        | cons q r =>
          unfold midR
          rw [if_neg (by omega), ih]
          rfl
    have h2 : (pieceR l c 0 0).length = 1 := by
      unfold pieceR
      rw [hm]
      simp [ddL, ddA]
    rw [h1, h2]
    rfl
  · have e : pieceF (waysF (rndL l c) 0) s t = pieceR l c s t := by
      have hl : l ≠ [] := by
        intro h
        subst h
        rw [rndL_nil] at hw
        exact hw rfl
      have hat : ∀ n, 0 ≤ n → n ≤ longL l c → (atF l c n).1 = findD (0, 0) (waysF (rndL l c) 0) n := fun n h1 h2 => by
        unfold atF
        rw [if_neg (fun h => by rcases h with h | h | h | h; exact hl h; rw [hf] at h; cases h; omega; omega)]
        show atR _ _ _ = _
        have := find_at (l.headD (0, 0)) (rndL l c) 0 n
        rw [Int.sub_zero] at this
        rw [← this]
        exact find_any _ _ _ _ _ hw (by omega)
      unfold pieceF pieceR
      rw [hat s hs hs2, hat t ht ht2]
      simp only [ddL]
      rw [mid_dd s t _ _ 0 _ (fit_rnd hf) (by omega)]
    rw [e]

/-- The lengths of a pattern, one after the other: from where to where, and whether it is drawn. -/
abbrev Span := (Int × Int) × Bool
def patAt (pat : List Int) (k : Nat) : Int := pat.getD (k % pat.length) 0
def spansF (pat : List Int) : Nat → Nat → Int → List Span
  | 0, _, _ => []
  | f + 1, k, s => if 0 < s + patAt pat k then ((s, s + patAt pat k), decide (k % 2 = 0)) :: spansF pat f (k + 1) (s + patAt pat k) else spansF pat f (k + 1) (s + patAt pat k)
/-- The pieces that are drawn; an error's number. -/
def cutF (ws : List Way) (e : Int) : List Span → Nat → List (List Pt) → List (List Pt) × Nat
  | [], _, out => (out, 0)
  | x :: r, n, out => if e ≤ x.1.1 then (out, 0) else if 1000 < n + 1 then ([], 7) else if x.2 = true then cutF ws e r (n + 1) (if 1 < (pieceF ws (max x.1.1 0) (min x.1.2 e)).length then out ++ [pieceF ws (max x.1.1 0) (min x.1.2 e)] else out) else cutF ws e r (n + 1) out
def cutR (l : List Pt) (c : Bool) (pat : List Int) : Nat → Nat → Int → Nat → List (List Pt) → List (List Pt) × Nat
  | 0, _, _, _, out => (out, 0)
  | f + 1, k, s, n, out => if s < longL l c then
      if 0 < s + patAt pat k then
        if 1000 < n + 1 then ([], 7)
        else cutR l c pat f (k + 1) (s + patAt pat k) (n + 1) (if k % 2 = 0 ∧ 1 < (pieceR l c (max s 0) (min (s + patAt pat k) (longL l c))).length then out ++ [pieceR l c (max s 0) (min (s + patAt pat k) (longL l c))] else out)
      else cutR l c pat f (k + 1) (s + patAt pat k) n out
    else (out, 0)
theorem long_nn (l : List Pt) (c : Bool) : 0 ≤ longL l c := by
  cases h : fitL l
  · rw [longL_no h]; omega
  · rw [longL_yes h]
    have := path_len_bd l
    have := backL_bd l c
    omega
theorem cut_same {l : List Pt} {c : Bool} {pat : List Int} (hf : fitL l = true) (hp : ∀ k, 1 ≤ patAt pat k) : ∀ (f k : Nat) (s : Int) (n : Nat) (out : List (List Pt)), cutR l c pat f k s n out = cutF (waysF (rndL l c) 0) (longL l c) (spansF pat f k s) n out
  | 0, _, _, _, _ => rfl
  | f + 1, k, s, n, out => by
    have hk := hp k
    have hn := long_nn l c
    have ih := cut_same (c := c) hf hp f (k + 1) (s + patAt pat k)
    unfold cutR spansF
    by_cases h1 : s < longL l c
    · rw [if_pos h1]
      by_cases h2 : 0 < s + patAt pat k
      · rw [if_pos h2, if_pos h2]
        unfold cutF
        simp only []
        rw [if_neg (show ¬ longL l c ≤ s by omega)]
        by_cases h3 : 1000 < n + 1
        · rw [if_pos h3, if_pos h3]
        · rw [if_neg h3, if_neg h3]
          have hps := piece_same (c := c) hf (s := max s 0) (t := min (s + patAt pat k) (longL l c)) (by omega) (by omega) (by omega) (by omega) out
          by_cases h4 : k % 2 = 0
          · rw [if_pos (decide_eq_true h4), hps, ih]
            simp only [h4, true_and]
          · rw [if_neg (show ¬ decide (k % 2 = 0) = true by simp [h4]), ih]
            simp only [h4, false_and, if_false]
      · rw [if_neg h2, if_neg h2, ih]
    · rw [if_neg h1]
      rw [if_pos (show 0 < s + patAt pat k by omega)]
      unfold cutF
      simp only []
      rw [if_pos (show longL l c ≤ s by omega)]

/-- A point that lies within two corners. -/
def inBox (lo hi p : Pt) : Prop := lo.1 ≤ p.1 ∧ p.1 ≤ hi.1 ∧ lo.2 ≤ p.2 ∧ p.2 ≤ hi.2
theorem near_mul {d n k : Int} (hk : 1 ≤ k) (hk2 : k ≤ 4294967296) (hn : 0 ≤ n) (hn2 : n ≤ k) (hd : -16777214 ≤ d) (hd2 : d ≤ 16777214) (hk3 : k ≤ 33554431) : (0 ≤ d → 0 ≤ nearI (d * n) k ∧ nearI (d * n) k ≤ d) ∧ (d ≤ 0 → d ≤ nearI (d * n) k ∧ nearI (d * n) k ≤ 0) := by
  have hA : -1125899906842624 ≤ d * n ∧ d * n ≤ 1125899906842624 := by
    have := mul_bd (a := d) (b := n) (A := 16777214) (B := 33554431) (by omega) (by omega)
    omega
  unfold nearI
  rw [if_pos ⟨hA.1, hA.2, hk, hk2⟩]
  constructor
  · intro h
    have h1 : 0 ≤ d * n := Int.mul_nonneg h hn
    have h2 : d * n ≤ d * k := Int.mul_le_mul_of_nonneg_left hn2 h
    constructor
    · exact Int.ediv_nonneg (by omega) (by omega)
    · have : (2 * (d * n) + k) / (2 * k) < d + 1 := by
        apply Int.ediv_lt_of_lt_mul (by omega)
        have e : (d + 1) * (2 * k) = 2 * (d * k) + 2 * k := by grind
        omega
      omega
  · intro h
    have h1 : d * n ≤ 0 := Int.mul_nonpos_of_nonpos_of_nonneg h hn
    have h2 : d * k ≤ d * n := Int.mul_le_mul_of_nonpos_left h hn2
    constructor
    · apply Int.le_ediv_of_mul_le (by omega)
      have e : d * (2 * k) = 2 * (d * k) := by grind
      omega
    · have : (2 * (d * n) + k) / (2 * k) < 0 + 1 := by
        apply Int.ediv_lt_of_lt_mul (by omega)
        omega
      omega
theorem ah_box {lo hi p q : Pt} {n : Int} (hp : inBox lo hi p) (hq : inBox lo hi q) (hfp : fitP p.1 p.2 = true) (hfq : fitP q.1 q.2 = true) (hn : n ≤ lenP p q) : inBox lo hi (ahP p q n) := by
  have hb := lenP_bd p q
  unfold lenP at hn hb
  have f1 := fitP_iff.1 hfp
  have f2 := fitP_iff.1 hfq
  unfold inBox ahP ahX ahY at *
  by_cases h : lenI p.1 p.2 q.1 q.2 = 0 ∨ n < 0 ∨ 33554432 < n
  · simp only [if_pos h]; exact hp
  · simp only [if_neg h]
    have g1 := near_mul (d := q.1 - p.1) (n := n) (k := (lenI p.1 p.2 q.1 q.2 : Nat)) (by omega) (by omega) (by omega) (by omega) (by omega) (by omega) (by omega)
    have g2 := near_mul (d := q.2 - p.2) (n := n) (k := (lenI p.1 p.2 q.1 q.2 : Nat)) (by omega) (by omega) (by omega) (by omega) (by omega) (by omega) (by omega)
    generalize nearI ((q.1 - p.1) * n) (lenI p.1 p.2 q.1 q.2 : Nat) = u at *
    generalize nearI ((q.2 - p.2) * n) (lenI p.1 p.2 q.1 q.2 : Nat) = v at *
    omega
end Go.Proofs.Ytlhaepcnhkaclaa
