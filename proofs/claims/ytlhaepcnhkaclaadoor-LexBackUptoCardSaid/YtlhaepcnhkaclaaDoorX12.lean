/- Lines there and back, in plain Lean. -/
import Derived.Test.YtlhaepcnhkaclaaDoorX10
namespace Go.Proofs.YtlhaepcnhkaclaaDoor
set_option linter.unusedVariables false
set_option linter.unusedSimpArgs false
open Go Go.RowKit

/-- How long words are as a line. -/
def longL (ps : List (List Nat)) : Nat := (ps.length - 1) + (ps.map List.length).sum
/-- What is wrong with a line that is to be written. -/
def rightL (k : Nat) (ps : List (List Nat)) : Nat := if 1000 < k then 7 else if 4096 < longL ps then 14 else if ps = [] then 3 else if ps.all wordL = true then 0 else 3
/-- Words with a blank between each two. -/
def joinW : List (List Nat) → List Nat
  | [] => []
  | p :: r => p ++ r.flatMap (fun q => 32 :: q)
/-- Lines' text, from a line's number on. -/
def joinF : List (List (List Nat)) → Nat → List Nat → List Nat × Nat × Nat
  | [], _, out => (out, 0, 0)
  | ps :: r, i, out => if rightL (i + 1) ps = 0 then joinF r (i + 1) (out ++ (joinW ps ++ [10])) else ([], i + 1, rightL (i + 1) ps)
theorem word_no {p : List Nat} (h : wordL p = true) : p ≠ [] ∧ (∀ x ∈ p, 33 ≤ x ∧ x ≤ 126) := by
  unfold wordL at h
  rw [Bool.and_eq_true] at h
  refine ⟨by intro e; rw [e] at h; simp at h, fun x hx => ?_⟩
  have := List.all_eq_true.1 h.2 x hx
  unfold okB at this
  exact of_decide_eq_true this
theorem join_split (v : Nat) : ∀ l : List Nat, (match splitL v l with
    | [] => []
    | p :: r => p ++ r.flatMap (fun q => v :: q)) = l
  | [] => rfl
  | x :: t => by
    have ih := join_split v t
    unfold splitL
    by_cases h : x = v
    · subst h
      rw [if_pos rfl]
      cases hs : splitL x t with
      | nil => exact absurd hs (splitL_pos x t)
      | cons p r => rw [hs] at ih; simp only at ih; simp [← ih]
    · rw [if_neg h]
      cases hs : splitL v t with
      | nil => exact absurd hs (splitL_pos v t)
      | cons p r => rw [hs] at ih; simp only at ih; simp [← ih]
theorem joinW_split (l : List Nat) : joinW (splitL 32 l) = l := by
  have := join_split 32 l
  unfold joinW
  exact this
theorem split_join : ∀ (r : List (List Nat)) (p : List Nat), (∀ q ∈ p :: r, ¬ 32 ∈ q) → splitL 32 (p ++ r.flatMap (fun q => 32 :: q)) = p :: r
  | [], p, h => by simp only [List.flatMap_nil, List.append_nil]; exact splitL_no (h p List.mem_cons_self)
  | q :: r, p, h => by
    rw [List.flatMap_cons, List.cons_append, splitL_at _ (h p List.mem_cons_self), split_join r q (fun z hz => h z (List.mem_cons_of_mem _ hz))]
theorem splitW_join {ps : List (List Nat)} (h0 : ps ≠ []) (h : ps.all wordL = true) : splitL 32 (joinW ps) = ps := by
  cases ps with
  | nil => exact absurd rfl h0
  | cons p r =>
    refine split_join r p (fun q hq h32 => ?_)
    have := (word_no (List.all_eq_true.1 h q hq)).2 32 h32
    omega
theorem joinW_no10 {ps : List (List Nat)} (h : ps.all wordL = true) : ¬ 10 ∈ joinW ps := by
  have hw : ∀ q ∈ ps, ¬ 10 ∈ q := fun q hq h10 => by
    have := (word_no (List.all_eq_true.1 h q hq)).2 10 h10
    omega
  cases ps with
  | nil => simp [joinW]
  | cons p r =>
    unfold joinW
    rw [List.mem_append, not_or]
    refine ⟨hw p List.mem_cons_self, ?_⟩
    rw [List.mem_flatMap]
    rintro ⟨q, hq, h10⟩
    rcases List.mem_cons.1 h10 with h | h
    · omega
    · exact hw q (List.mem_cons_of_mem _ hq) h
theorem joinW_len : ∀ ps : List (List Nat), (joinW ps).length = longL ps
  | [] => rfl
  | p :: r => by
    unfold joinW longL
    have h : ∀ r : List (List Nat), (r.flatMap (fun q => 32 :: q)).length = r.length + (r.map List.length).sum := fun r => by
      induction r with
      | nil => rfl
      | cons q t ih => rw [List.flatMap_cons, List.length_append, ih]; simp; omega
    rw [List.length_append, h]
    simp
    omega
/-- A line that is read is one that may be written. -/
theorem one_right {k : Nat} {p : List Nat} {e : Bool} {ws : List (List Nat)} (h : oneL k p e = (0, ws)) : e = true ∧ ws = splitL 32 p ∧ rightL k ws = 0 ∧ joinW ws = p := by
  unfold oneL at h
  by_cases h1 : 1000 < k
  · rw [if_pos h1] at h; cases h
  rw [if_neg h1] at h
  cases e with
  | false => rw [if_pos rfl] at h; cases h
  | true =>
    rw [if_neg (by decide : ¬ (true = false))] at h
    by_cases h2 : 4096 < p.length
    · rw [if_pos h2] at h; cases h
    rw [if_neg h2] at h
    unfold wordsL at h
    by_cases h3 : (splitL 32 p).all wordL = true
    · rw [if_pos h3] at h
      simp only [Prod.mk.injEq, true_and] at h
      subst h
      refine ⟨rfl, rfl, ?_, joinW_split p⟩
      unfold rightL
      rw [if_neg h1, if_neg (by rw [← joinW_len, joinW_split]; exact h2), if_neg (splitL_pos 32 p), if_pos h3]
    · rw [if_neg h3] at h; cases h
/-- A line that is written is read as it was. -/
theorem right_one {k : Nat} {ps : List (List Nat)} (h : rightL k ps = 0) : oneL k (joinW ps) true = (0, ps) ∧ ps.all wordL = true ∧ ps ≠ [] := by
  unfold rightL at h
  by_cases h1 : 1000 < k
  · rw [if_pos h1] at h; cases h
  rw [if_neg h1] at h
  by_cases h2 : 4096 < longL ps
  · rw [if_pos h2] at h; cases h
  rw [if_neg h2] at h
  by_cases h3 : ps = []
  · rw [if_pos h3] at h; cases h
  rw [if_neg h3] at h
  by_cases h4 : ps.all wordL = true
  · refine ⟨?_, h4, h3⟩
    rw [oneL_ws h1 (by rw [joinW_len]; exact h2)]
    unfold wordsL
    rw [splitW_join h3 h4, if_pos h4]
  · rw [if_neg h4] at h; cases h

/-- A text all of whose lines have an end. -/
theorem text_of : ∀ (ps : List (List Nat)), ps ≠ [] → ps.getLastD [] = [] → (match ps with
    | [] => []
    | p :: r => p ++ r.flatMap (fun q => 10 :: q)) = (ps.dropLast).flatMap (fun p => p ++ [10])
  | [], h, _ => absurd rfl h
  | [p], _, h => by simp at h; subst h; simp
  | p :: q :: r, _, h => by
    have ih := text_of (q :: r) (by simp) (by simpa using h)
    simp only [List.flatMap_cons, List.dropLast_cons_cons]
    simp only [] at ih
    rw [← ih]
    simp
theorem linesP_text {l : List Nat} (h : ∀ x ∈ linesP l, x.2 = true) : l = (linesP l).flatMap (fun x => x.1 ++ [10]) := by
  have h0 : (splitL 10 l).getLastD [] = [] := by
    apply Classical.byContradiction
    intro hne
    have := h ((splitL 10 l).getLastD [], false) (by unfold linesP; rw [if_neg hne]; simp)
    cases this
  have e : linesP l = (splitL 10 l).dropLast.map (fun p => (p, true)) := by unfold linesP; rw [if_pos h0, List.append_nil]
  have h1 := text_of (splitL 10 l) (splitL_pos 10 l) h0
  have h2 := join_split 10 l
  rw [e, List.flatMap_map]
  rw [h2] at h1
  exact h1
theorem lines_join : ∀ (L : List (List Nat × Bool)) (acc r : List (List (List Nat))), linesF L acc = (r, 0, 0) → ∃ wss, r = acc ++ wss ∧ (∀ x ∈ L, x.2 = true) ∧ ∀ out, joinF wss acc.length out = (out ++ L.flatMap (fun x => x.1 ++ [10]), 0, 0)
  | [], acc, r, h => by
    simp only [linesF, Prod.mk.injEq, and_true] at h
    exact ⟨[], by simp [h], by simp, fun out => by simp [joinF]⟩
  | x :: t, acc, r, h => by
    unfold linesF at h
    by_cases h1 : (oneL (acc.length + 1) x.1 x.2).1 = 0
    · rw [if_pos h1] at h
      obtain ⟨ws, hws⟩ : ∃ ws, oneL (acc.length + 1) x.1 x.2 = (0, ws) := ⟨_, Prod.ext h1 rfl⟩
      rw [hws] at h
      obtain ⟨e1, e2, e3, e4⟩ := one_right hws
      obtain ⟨wss, g1, g2, g3⟩ := lines_join t _ r h
      refine ⟨ws :: wss, by rw [g1]; simp, ?_, fun out => ?_⟩
      · intro y hy
        rcases List.mem_cons.1 hy with rfl | hy
        · exact e1
        · exact g2 y hy
      · unfold joinF
        rw [if_pos e3, e4]
        have := g3 (out ++ (x.1 ++ [10]))
        rw [show (acc ++ [ws]).length = acc.length + 1 by simp] at this
        rw [this]
        simp
    · rw [if_neg h1] at h
      simp only [Prod.mk.injEq] at h
      omega
/-- What was read is joined as it was. -/
theorem back_1 {l : List Nat} {r : List (List (List Nat))} (h : linesF (linesP l) [] = (r, 0, 0)) : joinF r 0 [] = (l, 0, 0) := by
  obtain ⟨wss, h1, h2, h3⟩ := lines_join _ _ _ h
  rw [List.nil_append] at h1
  subst h1
  have := h3 []
  rw [List.length_nil, List.nil_append, ← linesP_text h2] at this
  exact this
theorem join_lines : ∀ (ll : List (List (List Nat))) (i : Nat) (out c : List Nat), joinF ll i out = (c, 0, 0) → c = out ++ ll.flatMap (fun ps => joinW ps ++ [10]) ∧ ∀ acc : List (List (List Nat)), acc.length = i → linesF (ll.map fun ps => (joinW ps, true)) acc = (acc ++ ll, 0, 0)
  | [], i, out, c, h => by
    simp only [joinF, Prod.mk.injEq, and_true] at h
    exact ⟨by simp [h], fun acc _ => by simp [linesF]⟩
  | ps :: r, i, out, c, h => by
    unfold joinF at h
    by_cases h1 : rightL (i + 1) ps = 0
    · rw [if_pos h1] at h
      obtain ⟨g1, g2⟩ := join_lines r _ _ _ h
      refine ⟨by rw [g1]; simp, fun acc ha => ?_⟩
      obtain ⟨e1, e2, e3⟩ := right_one h1
      rw [List.map_cons]
      unfold linesF
      rw [ha, e1, if_pos rfl, g2 _ (by simp [ha])]
      simp
    · rw [if_neg h1] at h
      simp only [Prod.mk.injEq] at h
      omega
theorem linesP_join : ∀ (ll : List (List (List Nat))), (∀ ps ∈ ll, ¬ 10 ∈ joinW ps) → linesP (ll.flatMap fun ps => joinW ps ++ [10]) = ll.map fun ps => (joinW ps, true)
  | [], _ => rfl
  | ps :: r, h => by
    rw [List.flatMap_cons, List.append_assoc, List.singleton_append, linesP_at (h ps List.mem_cons_self), linesP_join r (fun q hq => h q (List.mem_cons_of_mem _ hq))]
    rfl
theorem join_ok : ∀ (ll : List (List (List Nat))) (i : Nat) (out c : List Nat), joinF ll i out = (c, 0, 0) → ∀ ps ∈ ll, ps.all wordL = true
  | [], _, _, _, _, _, hp => absurd hp (by simp)
  | ps :: r, i, out, c, h, q, hq => by
    unfold joinF at h
    by_cases h1 : rightL (i + 1) ps = 0
    · rw [if_pos h1] at h
      rcases List.mem_cons.1 hq with rfl | hq
      · exact (right_one h1).2.1
      · exact join_ok r _ _ _ h q hq
    · rw [if_neg h1] at h
      simp only [Prod.mk.injEq] at h
      omega
/-- What is joined is read as it was. -/
theorem back_2 {ll : List (List (List Nat))} {c : List Nat} (h : joinF ll 0 [] = (c, 0, 0)) : linesF (linesP c) [] = (ll, 0, 0) := by
  obtain ⟨h1, h2⟩ := join_lines ll 0 [] c h
  rw [List.nil_append] at h1
  rw [h1, linesP_join ll (fun ps hp => joinW_no10 (join_ok ll 0 [] c h ps hp)), h2 [] rfl]
  simp

end Go.Proofs.YtlhaepcnhkaclaaDoor
