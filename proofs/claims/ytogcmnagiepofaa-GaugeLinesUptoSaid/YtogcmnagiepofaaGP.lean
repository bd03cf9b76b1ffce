/- Areas and lengths of rows of points, in plain Lean. -/
import Derived.Test.YtogcmnagiepofaaG9
namespace Go.Proofs.Ytogcmnagiepofaa
set_option linter.unusedVariables false
open Go Go.RowKit

abbrev Pt := Int × Int
/-- Twice the area of a triangle at the middle. -/
def cr (p q : Pt) : Int := p.1 * q.2 - q.1 * p.2
theorem cr_anti (p q : Pt) : cr p q = -cr q p := by unfold cr; omega
theorem cr_self (p : Pt) : cr p p = 0 := by unfold cr; omega
def tri (o p q : Pt) : Int := (p.1 - o.1) * (q.2 - o.2) - (p.2 - o.2) * (q.1 - o.1)
theorem tri_cr (o p q : Pt) : tri o p q = cr p q + cr o p + cr q o := by unfold tri cr; grind
/-- Along a row. -/
def path (f : Pt → Pt → Int) : List Pt → Int
  | [] => 0
  | [_] => 0
  | a :: b :: r => f a b + path f (b :: r)
theorem path_snoc (f : Pt → Pt → Int) : ∀ (l : List Pt) (h : l ≠ []) (x : Pt), path f (l ++ [x]) = path f l + f (l.getLast h) x
  | [a], _, x => by simp [path]
  | a :: b :: r, _, x => by
    have := path_snoc f (b :: r) (by simp) x
    simp only [List.cons_append] at this ⊢
    simp only [path, this]
    rw [List.getLast_cons (by simp : b :: r ≠ [])]
    omega
theorem path_take (f : Pt → Pt → Int) (l : List Pt) (k : Nat) (h : k + 1 < l.length) : path f (l.take (k + 2)) = path f (l.take (k + 1)) + f l[k] l[k + 1] := by
  rw [List.take_succ_eq_append_getElem (by omega), path_snoc f (l.take (k + 1)) (by intro h0; have := congrArg List.length h0; rw [List.length_take, List.length_nil] at this; omega)]
  congr 2
  rw [List.getLast_eq_getElem]
  simp
  congr 1
  omega
theorem path_rev (l : List Pt) : path cr l.reverse = -path cr l := by
  induction l with
  | nil => rfl
  | cons a r ih =>
    cases r with
    | nil => rfl
    | cons b s =>
      rw [List.reverse_cons, path_snoc cr _ (by simp), ih]
      have e : (b :: s).reverse.getLast (by simp) = b := by simp
      rw [e]
      simp only [path]
      rw [cr_anti b a]
      omega
/-- Twice the area around points. -/
def twL (l : List Pt) : Int := if h : l = [] then 0 else path cr l + cr (l.getLast h) (l.head h)
theorem twL_rev (l : List Pt) : twL l.reverse = -twL l := by
  unfold twL
  by_cases h : l = []
  · subst h; rfl
  · have h' : l.reverse ≠ [] := by simpa using h
    rw [dif_neg h, dif_neg h', path_rev, List.getLast_reverse, List.head_reverse, cr_anti (l.head h)]
    omega
theorem fitL_rev (l : List Pt) : fitL l.reverse = fitL l := by unfold fitL; rw [List.all_reverse]
/-- What the program and the document say of an area. -/
def twI (l : List Pt) : Int := if fitL l = true then twL l else 0
theorem twI_rev (l : List Pt) : twI l.reverse = -twI l := by
  unfold twI
  rw [fitL_rev]
  split
  · exact twL_rev l
  · rfl
/-- Turned round, where the area is below 0. -/
def roundL (l : List Pt) : List Pt := if twI l < 0 then l.reverse else l
theorem round_pos (l : List Pt) : 0 ≤ twI (roundL l) := by
  unfold roundL
  split
  · rw [twI_rev]; omega
  · omega
theorem cr_bd {p q : Pt} (hp : fitP p.1 p.2 = true) (hq : fitP q.1 q.2 = true) : -140737454800898 ≤ cr p q ∧ cr p q ≤ 140737454800898 := by
  rw [fitP_iff] at hp hq
  have h1 := mul_bd (a := p.1) (b := q.2) (A := 8388607) (B := 8388607) (by omega) (by omega)
  have h2 := mul_bd (a := q.1) (b := p.2) (A := 8388607) (B := 8388607) (by omega) (by omega)
  unfold cr
  omega
theorem tri_bd {o p q : Pt} (ho : fitP o.1 o.2 = true) (hp : fitP p.1 p.2 = true) (hq : fitP q.1 q.2 = true) : -562949819203592 ≤ tri o p q ∧ tri o p q ≤ 562949819203592 := by
  rw [fitP_iff] at ho hp hq
  have h1 := mul_bd (a := p.1 - o.1) (b := q.2 - o.2) (A := 16777214) (B := 16777214) (by omega) (by omega)
  have h2 := mul_bd (a := p.2 - o.2) (b := q.1 - o.1) (A := 16777214) (B := 16777214) (by omega) (by omega)
  unfold tri
  omega
/-- The program's sum so far. -/
def twS (l : List Pt) : Nat → Int
  | 0 => 0
  | k + 1 => twS l k + cr (l.getD k (0, 0)) (l.getD ((k + 1) % l.length) (0, 0))
theorem getD_fit {l : List Pt} (h : fitL l = true) (j : Nat) : fitP (l.getD j (0, 0)).1 (l.getD j (0, 0)).2 = true := by
  by_cases hj : j < l.length
  · rw [List.getD_eq_getElem?_getD, List.getElem?_eq_getElem hj]
    exact fitL_at h j hj
  · rw [List.getD_eq_getElem?_getD, List.getElem?_eq_none (by omega)]
    decide
theorem twS_bd {l : List Pt} (h : fitL l = true) (k : Nat) : -(140737454800898 * (k : Int)) ≤ twS l k ∧ twS l k ≤ 140737454800898 * (k : Int) := by
  induction k with
  | zero => simp [twS]
  | succ k ih =>
    have := cr_bd (getD_fit h k) (getD_fit h ((k + 1) % l.length))
    simp only [twS]
    omega
theorem twS_path (l : List Pt) (k : Nat) (h : k < l.length) : twS l k = path cr (l.take (k + 1)) := by
  induction k with
  | zero =>
    cases l with
    | nil => simp at h
    | cons a r => simp [twS, path]
  | succ k ih =>
    rw [path_take cr l k (by omega), ← ih (by omega)]
    simp only [twS]
    rw [Nat.mod_eq_of_lt h, List.getD_eq_getElem?_getD, List.getD_eq_getElem?_getD, List.getElem?_eq_getElem (by omega), List.getElem?_eq_getElem h]
    rfl
theorem twS_end (l : List Pt) : twS l l.length = twL l := by
  unfold twL
  by_cases h : l = []
  · subst h; rfl
  · rw [dif_neg h]
    have hl : 0 < l.length := List.length_pos_iff.2 h
    obtain ⟨m, hm⟩ : ∃ m, l.length = m + 1 := ⟨l.length - 1, by omega⟩
    rw [hm]
    simp only [twS]
    rw [twS_path l m (by omega), hm, Nat.mod_self, List.take_of_length_le (by omega)]
    congr 2
    · rw [List.getLast_eq_getElem, List.getD_eq_getElem?_getD, List.getElem?_eq_getElem (by omega)]
      simp [hm]
    · rw [List.head_eq_getElem, List.getD_eq_getElem?_getD, List.getElem?_eq_getElem (by omega)]
      rfl
/-- The document's sum so far. -/
def trS (l : List Pt) : Nat → Int
  | 0 => 0
  | k + 1 => trS l k + tri (l.getD 0 (0, 0)) (l.getD (k + 1) (0, 0)) (l.getD (k + 2) (0, 0))
theorem trS_bd {l : List Pt} (h : fitL l = true) (k : Nat) : -(562949819203592 * (k : Int)) ≤ trS l k ∧ trS l k ≤ 562949819203592 * (k : Int) := by
  induction k with
  | zero => simp [trS]
  | succ k ih =>
    have := tri_bd (getD_fit h 0) (getD_fit h (k + 1)) (getD_fit h (k + 2))
    simp only [trS]
    omega
theorem trS_path (l : List Pt) (k : Nat) (h : k + 1 < l.length) : trS l k = path cr (l.take (k + 2)) + cr (l.getD (k + 1) (0, 0)) (l.getD 0 (0, 0)) := by
  induction k with
  | zero =>
    match l, h with
    | a :: b :: r, _ => simp [trS, path]; rw [cr_anti a b]; omega
  | succ k ih =>
    rw [path_take cr l (k + 1) (by omega)]
    simp only [trS]
    have ih' : trS l k = path cr (l.take (k + 1 + 1)) + cr (l.getD (k + 1) (0, 0)) (l.getD 0 (0, 0)) := ih (by omega)
    rw [ih', tri_cr]
    have e1 : l[k + 1] = l.getD (k + 1) (0, 0) := by rw [List.getD_eq_getElem?_getD, List.getElem?_eq_getElem (by omega)]; rfl
    have e2 : l[k + 1 + 1] = l.getD (k + 2) (0, 0) := by rw [List.getD_eq_getElem?_getD, List.getElem?_eq_getElem (by omega)]; rfl
    rw [e1, e2, cr_anti (l.getD 0 (0, 0)) (l.getD (k + 1) (0, 0))]
    show _ = _ + cr (l.getD (k + 2) (0, 0)) _
    omega
theorem trS_end (l : List Pt) : trS l (l.length - 2) = twL l := by
  match l with
  | [] => rfl
  | [a] => simp [trS, twL, path, cr_self]
  | a :: b :: r =>
    have h := trS_path (a :: b :: r) r.length (by simp)
    have e : (a :: b :: r).length - 2 = r.length := by simp
    rw [e, h, List.take_of_length_le (by simp)]
    unfold twL
    rw [dif_neg (by simp)]
    congr 2
    rw [List.getLast_eq_getElem, List.getD_eq_getElem?_getD, List.getElem?_eq_getElem (by simp)]
    simp

/-- How long a line is, as the program reckons: first the way back. -/
def lenP (p q : Pt) : Int := (lenI p.1 p.2 q.1 q.2 : Nat)
def longL (l : List Pt) (c : Bool) : Int := if fitL l = true then path lenP l + (if h : l = [] then 0 else if c = true then lenP (l.getLast h) (l.head h) else 0) else 0
theorem lenP_bd (p q : Pt) : 0 ≤ lenP p q ∧ lenP p q ≤ 33554431 := by
  unfold lenP
  have := lenI_bd p.1 p.2 q.1 q.2
  omega
theorem path_len_bd (l : List Pt) : 0 ≤ path lenP l ∧ path lenP l ≤ 33554431 * (l.length : Int) := by
  induction l with
  | nil => simp [path]
  | cons a r ih =>
    cases r with
    | nil => simp [path]
    | cons b s =>
      have := lenP_bd a b
      simp only [path, List.length_cons] at *
      omega
end Go.Proofs.Ytogcmnagiepofaa
