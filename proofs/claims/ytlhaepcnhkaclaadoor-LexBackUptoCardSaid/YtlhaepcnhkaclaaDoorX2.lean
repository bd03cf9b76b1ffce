/- A line's words: how bytes.Split cuts at one byte. -/
import Derived.Test.YtlhaepcnhkaclaaDoorX1
import Derived.Test.YtlhaepcnhkaclaaDoorShelf
import Derived.Lib.IndexLaws
import Derived.Lib.SplitLaws
namespace Go.Proofs.YtlhaepcnhkaclaaDoor
set_option linter.unusedVariables false
set_option linter.unusedSimpArgs false
open Go Go.RowKit

/-- The pieces between the instances of a byte. -/
def splitL (v : Nat) : List Nat → List (List Nat)
  | [] => [[]]
  | x :: t => if x = v then [] :: splitL v t else match splitL v t with
    | [] => [[x]]
    | p :: r => (x :: p) :: r
theorem splitL_pos (v : Nat) : ∀ l, splitL v l ≠ []
  | [] => by simp [splitL]
  | x :: t => by
    unfold splitL
    split
    · simp
    · split <;> simp
theorem splitL_no {v : Nat} : ∀ {p : List Nat}, ¬ v ∈ p → splitL v p = [p]
  | [], _ => rfl
  | x :: t, h => by
    simp only [List.mem_cons, not_or] at h
    unfold splitL
    rw [if_neg (fun e => h.1 e.symm), splitL_no h.2]
theorem splitL_at {v : Nat} (r : List Nat) : ∀ {p : List Nat}, ¬ v ∈ p → splitL v (p ++ v :: r) = p :: splitL v r
  | [], _ => by simp [splitL]
  | x :: t, h => by
    simp only [List.mem_cons, not_or] at h
    rw [List.cons_append, show splitL v (x :: (t ++ v :: r)) = if x = v then [] :: splitL v (t ++ v :: r) else match splitL v (t ++ v :: r) with
      | [] => [[x]]
      | p :: r => (x :: p) :: r from rfl, if_neg (fun e => h.1 e.symm), splitL_at r h.2]
theorem splitL_le {v : Nat} : ∀ {l : List Nat}, (∀ x ∈ l, x ≤ 255) → ∀ p ∈ splitL v l, ∀ x ∈ p, x ≤ 255
  | [], _, p, hp => by simp [splitL] at hp; subst hp; simp
  | x :: t, h, p, hp => by
    have ih := splitL_le (v := v) (l := t) (fun y hy => h y (List.mem_cons_of_mem _ hy))
    have hx := h x List.mem_cons_self
    unfold splitL at hp
    split at hp
    · rcases List.mem_cons.1 hp with rfl | hp
      · simp
      · exact ih p hp
    · split at hp
      · simp at hp; subst hp; simpa using hx
      · next q r hq =>
        rw [hq] at ih
        rcases List.mem_cons.1 hp with rfl | hp
        · intro y hy
          rcases List.mem_cons.1 hy with rfl | hy
          · exact hx
          · exact ih q List.mem_cons_self y hy
        · exact ih p (List.mem_cons_of_mem _ hp)
theorem splitL_len (v : Nat) : ∀ l : List Nat, (splitL v l).length = l.count v + 1
  | [] => rfl
  | x :: t => by
    have ih := splitL_len v t
    unfold splitL
    split
    · next h => subst h; simp [ih]
    · next h =>
      rw [List.count_cons, if_neg (by simpa using h)]
      split
      · next hq => exact absurd hq (splitL_pos v t)
      · next q r hq => rw [hq] at ih; simpa using ih
theorem index_bytes {l : List Nat} {v : Nat} (hl : ∀ x ∈ l, x ≤ 255) (hv : v ≤ 255) : (¬ v ∈ l ∧ Lib.indexByte (l.map UInt8.ofNat) (UInt8.ofNat v) = -1) ∨ (∃ p r, l = p ++ v :: r ∧ ¬ v ∈ p ∧ Lib.indexByte (l.map UInt8.ofNat) (UInt8.ofNat v) = (p.length : Int)) := by
  induction l with
  | nil => exact .inl ⟨by simp, rfl⟩
  | cons x t ih =>
    have ih := ih (fun y hy => hl y (List.mem_cons_of_mem _ hy))
    have hx := hl x List.mem_cons_self
    simp only [List.map_cons]
    unfold Lib.indexByte
    by_cases e : x = v
    · subst e
      exact .inr ⟨[], t, rfl, by simp, by simp⟩
    · have hne : (UInt8.ofNat x == UInt8.ofNat v) = false := by
        rw [beq_eq_false_iff_ne]
        intro h
        have := congrArg UInt8.toNat h
        rw [UInt8.toNat_ofNat', UInt8.toNat_ofNat'] at this
        omega
      rw [hne]
      rcases ih with ⟨h1, h2⟩ | ⟨p, r, rfl, h1, h2⟩
      · left
        rw [h2]
        exact ⟨by simp only [List.mem_cons, not_or]; exact ⟨fun h => e h.symm, h1⟩, rfl⟩
      · right
        refine ⟨x :: p, r, rfl, by simp only [List.mem_cons, not_or]; exact ⟨fun h => e h.symm, h1⟩, ?_⟩
        rw [h2]
        have : ((p.length : Int) == -1) = false := by rw [beq_eq_false_iff_ne]; omega
        rw [this]
        simp
theorem count_bytes {l : List Nat} {v : Nat} (hl : ∀ x ∈ l, x ≤ 255) (hv : v ≤ 255) : (l.map UInt8.ofNat).count (UInt8.ofNat v) = l.count v := by
  induction l with
  | nil => rfl
  | cons x t ih =>
    have ih := ih (fun y hy => hl y (List.mem_cons_of_mem _ hy))
    have hx := hl x List.mem_cons_self
    rw [List.map_cons, List.count_cons, List.count_cons, ih]
    by_cases e : x = v
    · subst e; simp
    · have hne : (UInt8.ofNat x == UInt8.ofNat v) = false := by
        rw [beq_eq_false_iff_ne]
        intro h
        have := congrArg UInt8.toNat h
        rw [UInt8.toNat_ofNat', UInt8.toNat_ofNat'] at this
        omega
      have hne2 : (x == v) = false := by rw [beq_eq_false_iff_ne]; exact e
      rw [hne, hne2]
theorem splitK_L {v : Nat} (hv : v ≤ 255) : ∀ (k : Nat) (l : List Nat), (∀ x ∈ l, x ≤ 255) → l.count v = k → Lib.splitK [UInt8.ofNat v] 0 k (l.map UInt8.ofNat) = (splitL v l).map (·.map UInt8.ofNat)
  | 0, l, hl, hc => by
    have : ¬ v ∈ l := by rw [← List.count_eq_zero]; exact hc
    rw [splitL_no this]
    rfl
  | k + 1, l, hl, hc => by
    unfold Lib.splitK
    rw [Lib.index_one]
    rcases index_bytes hl hv with ⟨h1, h2⟩ | ⟨p, r, rfl, h1, h2⟩
    · rw [List.count_eq_zero.2 h1] at hc; omega
    · rw [h2, splitL_at r h1]
      have e1 : ((p.length : Int) == -1) = false := by rw [beq_eq_false_iff_ne]; omega
      rw [e1]
      have e2 : ((p.length : Int)).toNat = p.length := by omega
      simp only [e2, Nat.add_zero, List.length_singleton, Bool.false_eq_true, if_false, List.map_cons, List.map_append]
      rw [List.count_append, List.count_cons, if_pos (by simp), List.count_eq_zero.2 h1] at hc
      have ih := splitK_L hv k r (fun x hx => hl x (by simp [hx])) (by omega)
      rw [← ih]
      congr 1
      · have : p.length = (p.map UInt8.ofNat).length := by simp
        rw [this, List.take_left]
      · have e3 : p.map UInt8.ofNat ++ UInt8.ofNat v :: r.map UInt8.ofNat = (p.map UInt8.ofNat ++ [UInt8.ofNat v]) ++ r.map UInt8.ofNat := by simp
        have : p.length + 1 = (p.map UInt8.ofNat ++ [UInt8.ofNat v]).length := by simp
        rw [e3, this, List.drop_left]

/-- The bytes of a slice, as the library's contracts want them. -/
def zsN (l : List Nat) : List Int := l.map fun x : Nat => (x : Int)
theorem zsN_len (l : List Nat) : (zsN l).length = l.length := by simp [zsN]
theorem zsN_get (l : List Nat) (i : Nat) (h : i < l.length) : (zsN l).getD i 0 = ((l[i] : Nat) : Int) := by
  unfold zsN
  rw [List.getD_eq_getElem?_getD, List.getElem?_map, List.getElem?_eq_getElem h]
  rfl
theorem zsN_bytes (l : List Nat) : Lib.bytesOf (zsN l) = l.map UInt8.ofNat := by
  simp [Lib.bytesOf, zsN, List.map_map, Function.comp_def]
theorem zsN_in {l : List Nat} (hl : ∀ x ∈ l, x ≤ 255) : ∀ x ∈ zsN l, 0 ≤ x ∧ x < 256 := by
  intro x hx
  simp only [zsN, List.mem_map] at hx
  obtain ⟨y, hy, rfl⟩ := hx
  have := hl y hy
  omega

end Go.Proofs.YtlhaepcnhkaclaaDoor
