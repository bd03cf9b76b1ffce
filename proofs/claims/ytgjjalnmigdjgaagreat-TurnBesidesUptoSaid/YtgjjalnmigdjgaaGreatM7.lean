/- Joined: Lift. -/
import Derived.Test.YtgjjalnmigdjgaaGreatRows
import Derived.Test.YtgjjalnmigdjgaaGreatM1
import Derived.WalkKit
import Derived.ProofKit
import Derived.OpenShut
import Derived.ChangeOld
import Derived.ChangeSlices
import Derived.Below
import Derived.Lib.SmallJoins
namespace Go.Proofs.YtgjjalnmigdjgaaGreat
open Go Go.RowKit Go.ChangeShapes Go.WideShapes Go.ChangeAt
set_option linter.unusedVariables false
theorem spot_none {w : World} {a : Addr} {v : Value} (h : w.cell? a = some v) : a = ⟨a.block, a.off, none⟩ := by
  obtain ⟨b, off, sp⟩ := a
  cases sp with
  | none => rfl
  | some x =>
    simp only [World.cell?] at h
    split at h <;> simp at h
theorem bulk_one {H : Type} (d : DataW H) : 1 ≤ Rows.uptoBulk d := by
  cases d with
  | lit l => cases l <;> simp [Rows.uptoBulk]
  | nil => simp [Rows.uptoBulk]
  | ptr d => simp [Rows.uptoBulk]
  | slice elems spare => simp [Rows.uptoBulk]
  | agg parts => simp [Rows.uptoBulk]
  | iface t d => simp [Rows.uptoBulk]
  | map entries => simp [Rows.uptoBulk]
  | held h => simp [Rows.uptoBulk]
theorem bulk_len {H : Type} (l : List (DataW H)) : l.length ≤ Rows.uptoBulkAll l := by
  induction l with
  | nil => simp [Rows.uptoBulkAll]
  | cons x r ih => have := bulk_one x; simp only [Rows.uptoBulkAll, List.length_cons]; omega
/-- A slice of numbers that aren't below 0. -/
theorem nums_arg {H : Type} {enc : TypeId × Value → H} {P : Program} {W : World} {r : Reach} {b0 : Nat} {spare : Nat → Bool} {held : Bool} {base : Nat} {t e : TypeId} {k : IntKind} {v : Value} {d : DataW H} {p : List MemPlace}
    (ht : P.underlying t = some (.slice e)) (he : P.underlying e = some (.int k)) (hc : P.cellsOf e = 1) (hk : ∀ z, (Lit.int k z).wf = true → 0 ≤ z)
    (hv : Value.okWide P W r b0 t v) (h : DataW.Trod enc P W base spare held t v d p) :
    ∃ (a : Option Addr) (n cap : Nat) (l : List Nat), v = .slice a n cap ∧ Sl W a n cap (ints k l) ∧ (∀ x ∈ l, (Lit.int k (x : Int)).wf = true) ∧ n ≤ Rows.uptoBulk d := by
 obtain ⟨a0, len, cap, rfl⟩ := okWide_slice ht hv
 obtain ⟨fuel, hf⟩ := h
 rcases open_ints ht he hc hf with ⟨hcs, hx⟩ | ⟨a, len', cap', zs, hcs, _, hl, hm, hz, hx, hcell, hwz⟩
 · simp [Value.cells] at hcs
   obtain ⟨rfl, rfl, rfl⟩ := hcs
   exact ⟨none, 0, 0, [], rfl, Sl.nil _, by simp, Nat.zero_le _⟩
 simp [Value.cells] at hcs
 obtain ⟨rfl, rfl, rfl⟩ := hcs
 have hlen : len ≤ zs.length := by rw [hz]; split <;> omega
 have hg : ∀ i, i < len → (((zs.take len).map Int.toNat).getD i 0 : Int) = zs.getD i 0 := by
  intro i hi
  have h0 := hk _ (hwz zs[i] (List.getElem_mem _))
  rw [List.getD_eq_getElem?_getD, List.getD_eq_getElem?_getD, List.getElem?_map, List.getElem?_take, if_pos hi, List.getElem?_eq_getElem (by omega)]
  simp
  omega
 have hll : ((zs.take len).map Int.toNat).length = len := by simp; omega
 refine ⟨some a, len, cap, (zs.take len).map Int.toNat, rfl, ⟨by rw [ints_len]; exact hll, hl, hm, fun h0 => ?_⟩, ?_, ?_⟩
 · have h1 := hcell 0 (by omega)
   have h2 : a.add 0 = a := by simp [Addr.add]
   rw [h2] at h1
   refine ⟨a.block, a.off, by rw [← spot_none h1], fun i u hu => ?_⟩
   have hi : i < len := by
    have := (List.getElem?_eq_some_iff.1 hu).1
    rw [ints_len, hll] at this
    exact this
   rw [ints_get k _ i (by rw [hll]; exact hi)] at hu
   have h3 := hcell i (by omega)
   have e1 : a.add i = ⟨a.block, a.off + i, none⟩ := by
    rw [spot_none h1]
    unfold Addr.add
    by_cases hz : i = 0
    · subst hz; simp
    simp [hz]
   rw [e1] at h3
   rw [h3, ← hu, ← hg i hi, List.getD_eq_getElem?_getD, List.getElem?_eq_getElem (by rw [hll]; exact hi)]
   rfl
 · intro x hx
   simp only [List.mem_map] at hx
   obtain ⟨z, hz', rfl⟩ := hx
   have hw := hwz z (List.mem_of_mem_take hz')
   have := hk z hw
   rw [Int.toNat_of_nonneg this]
   exact hw
 simp only [Prod.mk.injEq] at hx
 rw [hx.1]
 simp only [Rows.uptoBulk]
 have := bulk_len (H := H) (lits k (zs.take len))
 have h4 : (lits (H := H) k (zs.take len)).length = len := by simp [lits]; omega
 omega
/-- A slice of numbers in a cell. -/
theorem nums_cell {H : Type} {enc : TypeId × Value → H} {P : Program} {W : World} {spare : Nat → Bool} {held : Bool} {base : Nat} {t e : TypeId} {k : IntKind} {v : Value} {y : DataW H × List MemPlace} {fuel : Nat}
    (ht : P.underlying t = some (.slice e)) (he : P.underlying e = some (.int k)) (hc : P.cellsOf e = 1) (hk : ∀ z, (Lit.int k z).wf = true → 0 ≤ z)
    (hf : DataW.trod enc P W base spare held fuel t [v] = some y) :
    ∃ (a : Option Addr) (n cap : Nat) (l : List Nat), v = .slice a n cap ∧ Sl W a n cap (ints k l) ∧ (∀ x ∈ l, (Lit.int k (x : Int)).wf = true) ∧ n ≤ Rows.uptoBulk y.1 := by
 rcases open_ints ht he hc hf with ⟨hcs, hx⟩ | ⟨a, len, cap, zs, hcs, _, hl, hm, hz, hx, hcell, hwz⟩
 · simp at hcs
   subst hcs
   exact ⟨none, 0, 0, [], rfl, Sl.nil _, by simp, Nat.zero_le _⟩
 simp at hcs
 subst hcs
 have hlen : len ≤ zs.length := by rw [hz]; split <;> omega
 have hg : ∀ i, i < len → (((zs.take len).map Int.toNat).getD i 0 : Int) = zs.getD i 0 := by
  intro i hi
  have h0 := hk _ (hwz zs[i] (List.getElem_mem _))
  rw [List.getD_eq_getElem?_getD, List.getD_eq_getElem?_getD, List.getElem?_map, List.getElem?_take, if_pos hi, List.getElem?_eq_getElem (by omega)]
  simp
  omega
 have hll : ((zs.take len).map Int.toNat).length = len := by simp; omega
 refine ⟨some a, len, cap, (zs.take len).map Int.toNat, rfl, ⟨by rw [ints_len]; exact hll, hl, hm, fun h0 => ?_⟩, ?_, ?_⟩
 · have h1 := hcell 0 (by omega)
   have h2 : a.add 0 = a := by simp [Addr.add]
   rw [h2] at h1
   refine ⟨a.block, a.off, by rw [← spot_none h1], fun i u hu => ?_⟩
   have hi : i < len := by
    have := (List.getElem?_eq_some_iff.1 hu).1
    rw [ints_len, hll] at this
    exact this
   rw [ints_get k _ i (by rw [hll]; exact hi)] at hu
   have h3 := hcell i (by omega)
   have e1 : a.add i = ⟨a.block, a.off + i, none⟩ := by
    rw [spot_none h1]
    unfold Addr.add
    by_cases hz : i = 0
    · subst hz; simp
    simp [hz]
   rw [e1] at h3
   rw [h3, ← hu, ← hg i hi, List.getD_eq_getElem?_getD, List.getElem?_eq_getElem (by rw [hll]; exact hi)]
   rfl
 · intro x hx
   simp only [List.mem_map] at hx
   obtain ⟨z, hz', rfl⟩ := hx
   have hw := hwz z (List.mem_of_mem_take hz')
   have := hk z hw
   rw [Int.toNat_of_nonneg this]
   exact hw
 rw [hx]
 simp only [Rows.uptoBulk]
 have := bulk_len (H := H) (lits k (zs.take len))
 have h4 : (lits (H := H) k (zs.take len)).length = len := by simp [lits]; omega
 omega
theorem wf_u32 {z : Int} (h : (Lit.int .u32 z).wf = true) : 0 ≤ z := by
  simp [Lit.wf] at h
  exact h.1
theorem wf_u32' {x : Nat} (h : (Lit.int .u32 (x : Int)).wf = true) : x < B32 := by
  simp [Lit.wf] at h
  have h2 : (x : Int) ≤ (4294967295 : Int) := h.2
  unfold B32
  omega
end Go.Proofs.YtgjjalnmigdjgaaGreat
