/- Bytes in figures, in plain Lean: no function of the program is named here. -/
import Derived.Test.YtcipcpbjkcpgdaaMem
namespace Go.Proofs.Ytcipcpbjkcpgdaa
set_option linter.unusedVariables false
open Go Go.RowKit

/-- A half byte's figure. -/
def fig (n : Nat) : Nat := if n < 10 then 48 + n else 87 + n
def hexL : List Nat → List Nat
  | [] => []
  | c :: r => fig (c / 16) :: fig (c % 16) :: hexL r
/-- A figure's value. -/
def digv (c : Nat) : Option Nat := if 48 ≤ c ∧ c ≤ 57 then some (c - 48) else if 97 ≤ c ∧ c ≤ 102 then some (c - 87) else none
/-- The byte of two figures. -/
def pairv (a b : Nat) : Option Nat :=
  match digv a, digv b with
  | some x, some y => some (16 * x + y)
  | _, _ => none
def unhexL : List Nat → Option (List Nat)
  | [] => some []
  | [_] => none
  | a :: b :: r =>
    match pairv a b with
    | some v => (unhexL r).map (v :: ·)
    | none => none

theorem digv_le {c x : Nat} (h : digv c = some x) : x ≤ 15 := by
  unfold digv at h
  split at h
  · cases h; omega
  · split at h
    · cases h; omega
    · cases h
theorem digv_fig {x : Nat} (h : x ≤ 15) : digv (fig x) = some x := by
  unfold fig digv
  split
  · rw [if_pos (by omega)]; congr 1; omega
  · rw [if_neg (by omega), if_pos (by omega)]; congr 1; omega
theorem fig_of_digv {c x : Nat} (h : digv c = some x) : fig x = c := by
  unfold digv at h
  unfold fig
  split at h
  · cases h; rw [if_pos (by omega)]; omega
  · split at h
    · cases h; rw [if_neg (by omega)]; omega
    · cases h
theorem fig_le {x : Nat} (h : x ≤ 15) : fig x ≤ 102 := by unfold fig; split <;> omega
theorem pairv_le {a b v : Nat} (h : pairv a b = some v) : v ≤ 255 := by
  unfold pairv at h
  split at h
  · next x y hx hy =>
    have := digv_le hx
    have := digv_le hy
    cases h; omega
  · cases h
theorem pairv_iff {a b n : Nat} (hn : n ≤ 255) : (fig (n / 16) = a ∧ fig (n % 16) = b) ↔ pairv a b = some n := by
  constructor
  · rintro ⟨rfl, rfl⟩
    unfold pairv
    rw [digv_fig (by omega), digv_fig (by omega)]
    simp only [Option.some.injEq]
    omega
  · intro h
    unfold pairv at h
    split at h
    · next x y hx hy =>
      have h1 := digv_le hx
      have h2 := digv_le hy
      have h3 := fig_of_digv hx
      have h4 := fig_of_digv hy
      cases h
      have e1 : (16 * x + y) / 16 = x := by omega
      have e2 : (16 * x + y) % 16 = y := by omega
      rw [e1, e2]
      exact ⟨h3, h4⟩
    · cases h
theorem hexL_len : ∀ l : List Nat, (hexL l).length = 2 * l.length
  | [] => rfl
  | c :: r => by simp [hexL, hexL_len r]; omega
theorem unhexL_hexL : ∀ l : List Nat, (∀ x ∈ l, x ≤ 255) → unhexL (hexL l) = some l
  | [], _ => rfl
  | c :: r, h => by
    have hc := h c (by simp)
    have : pairv (fig (c / 16)) (fig (c % 16)) = some c := (pairv_iff hc).1 ⟨rfl, rfl⟩
    simp [hexL, unhexL, this, unhexL_hexL r (fun x hx => h x (by simp [hx]))]
theorem unhexL_odd : ∀ l : List Nat, l.length % 2 = 1 → unhexL l = none
  | [], h => by simp at h
  | [_], _ => rfl
  | a :: b :: r, h => by
    have := unhexL_odd r (by simp at h; omega)
    simp only [unhexL, this]
    split <;> rfl
theorem unhexL_len : ∀ (l m : List Nat), unhexL l = some m → l.length = 2 * m.length
  | [], m, h => by simp [unhexL] at h; subst h; rfl
  | [_], m, h => by simp [unhexL] at h
  | a :: b :: r, m, h => by
    simp only [unhexL] at h
    split at h
    · obtain ⟨m', hm, rfl⟩ := Option.map_eq_some_iff.1 h
      have := unhexL_len r m' hm
      simp; omega
    · cases h
theorem unhexL_le : ∀ (l m : List Nat), unhexL l = some m → ∀ x ∈ m, x ≤ 255
  | [], m, h => by simp [unhexL] at h; subst h; simp
  | [_], m, h => by simp [unhexL] at h
  | a :: b :: r, m, h => by
    simp only [unhexL] at h
    split at h
    · next v hv =>
      obtain ⟨m', hm, rfl⟩ := Option.map_eq_some_iff.1 h
      intro x hx
      rcases List.mem_cons.1 hx with rfl | hx
      · exact pairv_le hv
      · exact unhexL_le r m' hm x hx
    · cases h
/-- One step more of it. -/
theorem unhexL_step {l D : List Nat} {k a b : Nat} {r : Option (List Nat)} (hr : (unhexL (l.drop (2 * k))).map (D ++ ·) = r) (hk : 2 * k + 1 < l.length) (ha : l.getD (2 * k) 0 = a) (hb : l.getD (2 * k + 1) 0 = b) :
    match pairv a b with
    | some v => (unhexL (l.drop (2 * (k + 1)))).map ((D ++ [v]) ++ ·) = r
    | none => r = none := by
  have e1 : l.drop (2 * k) = a :: b :: l.drop (2 * (k + 1)) := by
    rw [List.drop_eq_getElem_cons (by omega), List.drop_eq_getElem_cons (by omega)]
    rw [List.getD_eq_getElem?_getD, List.getElem?_eq_getElem (by omega)] at ha hb
    simp only [Option.getD_some] at ha hb
    rw [ha, hb]
    rfl
  rw [e1] at hr
  simp only [unhexL] at hr
  split
  · next v hv =>
    rw [hv] at hr
    simp only [Option.map_map] at hr
    rw [← hr]
    congr 1
    funext x
    simp
  · next hv =>
    rw [hv] at hr
    simpa using hr.symm
theorem unhexL_end {l D : List Nat} {k : Nat} {r : Option (List Nat)} (hr : (unhexL (l.drop (2 * k))).map (D ++ ·) = r) (hk : l.length ≤ 2 * k) : r = some D := by
  rw [List.drop_eq_nil_of_le hk] at hr
  simpa [unhexL] using hr.symm
theorem hexL_step {l D m : List Nat} {k c : Nat} (hr : D ++ hexL (l.drop k) = m) (hk : k < l.length) (hc : l.getD k 0 = c) : (D ++ [fig (c / 16), fig (c % 16)]) ++ hexL (l.drop (k + 1)) = m := by
  have e1 : l.drop k = c :: l.drop (k + 1) := by
    rw [List.drop_eq_getElem_cons (by omega)]
    rw [List.getD_eq_getElem?_getD, List.getElem?_eq_getElem (by omega)] at hc
    simp only [Option.getD_some] at hc
    rw [hc]
  rw [e1] at hr
  rw [← hr]
  simp [hexL]
theorem hexL_end {l D m : List Nat} {k : Nat} (hr : D ++ hexL (l.drop k) = m) (hk : l.length ≤ k) : m = D := by
  rw [List.drop_eq_nil_of_le hk] at hr
  simpa [hexL] using hr.symm
theorem hexL_le : ∀ (l : List Nat), (∀ x ∈ l, x ≤ 255) → ∀ y ∈ hexL l, y ≤ 102
  | [], _, y, hy => by simp [hexL] at hy
  | c :: r, h, y, hy => by
    have hc := h c (by simp)
    simp only [hexL, List.mem_cons] at hy
    rcases hy with rfl | rfl | hy
    · exact fig_le (by omega)
    · exact fig_le (by omega)
    · exact hexL_le r (fun x hx => h x (by simp [hx])) y hy

/-- Numbers below 256 as bytes, and back. -/
def bytesOf (l : List Nat) : ByteArray := ⟨(l.map UInt8.ofNat).toArray⟩
def natsOf (s : ByteArray) : List Nat := s.data.toList.map UInt8.toNat
theorem natsOf_len (s : ByteArray) : (natsOf s).length = s.size := by simp [natsOf]
theorem natsOf_le (s : ByteArray) : ∀ x ∈ natsOf s, x ≤ 255 := by
  intro x hx
  simp only [natsOf, List.mem_map] at hx
  obtain ⟨b, _, rfl⟩ := hx
  have := b.toNat_lt
  omega
theorem natsOf_bytesOf (l : List Nat) (h : ∀ x ∈ l, x ≤ 255) : natsOf (bytesOf l) = l := by
  simp only [natsOf, bytesOf, List.map_map]
  conv => rhs; rw [← List.map_id l]
  refine List.map_congr_left fun x hx => ?_
  have := h x hx
  simp
  omega
theorem bytesOf_natsOf (s : ByteArray) : bytesOf (natsOf s) = s := by
  simp [natsOf, bytesOf, List.map_map, Function.comp_def]
theorem bytesOf_size (l : List Nat) : (bytesOf l).size = l.length := by
  show (l.map UInt8.ofNat).toArray.size = _
  simp
theorem natsOf_at (s : ByteArray) (i : Nat) (h : i < s.size) : (natsOf s).getD i 0 = (s[i]'h).toNat := by
  rw [List.getD_eq_getElem?_getD]
  simp only [natsOf, List.getElem?_map]
  rw [List.getElem?_eq_getElem (by simpa using h)]
  simp
  rfl

end Go.Proofs.Ytcipcpbjkcpgdaa
