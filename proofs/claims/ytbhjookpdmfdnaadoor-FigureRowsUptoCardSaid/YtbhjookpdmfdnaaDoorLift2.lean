/- What a law's arguments are, out of the row's reading: slices of ints, of strings. -/
import Derived.Test.YtbhjookpdmfdnaaDoorLift
import Derived.Test.YtbhjookpdmfdnaaDoorE12
import Derived.SliceStrings
namespace Go.Proofs.YtbhjookpdmfdnaaDoor
open Go Go.RowKit Go.ChangeShapes Go.WideShapes Go.ChangeAt
set_option linter.unusedVariables false

theorem sl_of_cells {W : World} {a : Addr} {len cap : Nat} {xs : List Value} (hl : len ≤ cap) (hm : cap ≤ maxLen) (hx : xs.length = len) (hc : ∀ i u, xs[i]? = some u → W.cell? (a.add i) = some u) : Sl W (some a) len cap xs := by
  refine ⟨hx, hl, hm, fun h0 => ?_⟩
  have h1 := hc 0 (xs[0]'(by omega)) (List.getElem?_eq_getElem (by omega))
  have h2 : a.add 0 = a := by simp [Addr.add]
  rw [h2] at h1
  refine ⟨a.block, a.off, by rw [← spot_none h1], fun i u hu => ?_⟩
  have h3 := hc i u hu
  have e1 : a.add i = ⟨a.block, a.off + i, none⟩ := by
    rw [spot_none h1]
    unfold Addr.add
    by_cases hz : i = 0
    · subst hz; simp
    · simp [hz]
  rw [e1] at h3
  exact h3

theorem intsZ_arg {H : Type} {enc : TypeId × Value → H} {P : Program} {W : World} {r : Reach} {b0 : Nat} {spare : Nat → Bool} {held : Bool} {base : Nat} {t e : TypeId} {v : Value} {d : DataW H} {p : List MemPlace}
    (ht : P.underlying t = some (.slice e)) (he : P.underlying e = some (.int .i64)) (hc : P.cellsOf e = 1)
    (hv : Value.okWide P W r b0 t v) (h : DataW.Trod enc P W base spare held t v d p) :
    ∃ (a : Option Addr) (n cap : Nat) (l : List Int), v = .slice a n cap ∧ Sl W a n cap (intsZ l) ∧ (∀ x ∈ l, (Lit.int .i64 x).wf = true) ∧ n ≤ Rows.uptoBulk d := by
  obtain ⟨a0, len, cap, rfl⟩ := okWide_slice ht hv
  obtain ⟨fuel, hf⟩ := h
  rcases open_ints ht he hc hf with ⟨hcs, hx⟩ | ⟨a, len', cap', zs, hcs, _, hl, hm, hz, hx, hcell, hwz⟩
  · simp [Value.cells] at hcs
    obtain ⟨rfl, rfl, rfl⟩ := hcs
    exact ⟨none, 0, 0, [], rfl, Sl.nil _, by simp, Nat.zero_le _⟩
  · simp [Value.cells] at hcs
    obtain ⟨rfl, rfl, rfl⟩ := hcs
    have hlen : len ≤ zs.length := by rw [hz]; split <;> omega
    refine ⟨some a, len, cap, zs.take len, rfl, sl_of_cells hl hm (by rw [intsZ_len, List.length_take]; omega) (fun i u hu => ?_), fun x hx => hwz x (List.mem_of_mem_take hx), ?_⟩
    · simp only [intsZ, List.getElem?_map, Option.map_eq_some_iff] at hu
      obtain ⟨z, hzi, rfl⟩ := hu
      rw [List.getElem?_take] at hzi
      split at hzi
      · obtain ⟨hi, rfl⟩ := List.getElem?_eq_some_iff.1 hzi
        rw [hcell i hi, List.getD_eq_getElem?_getD, List.getElem?_eq_getElem hi]
        rfl
      · cases hzi
    · simp only [Prod.mk.injEq] at hx
      rw [hx.1]
      simp only [Rows.uptoBulk]
      have := bulk_len (H := H) (lits .i64 (zs.take len))
      have h4 : (lits (H := H) .i64 (zs.take len)).length = len := by simp [lits]; omega
      omega

theorem strs_arg {H : Type} {enc : TypeId × Value → H} {P : Program} {W : World} {r : Reach} {b0 : Nat} {spare : Nat → Bool} {held : Bool} {base : Nat} {t e : TypeId} {v : Value} {d : DataW H} {p : List MemPlace}
    (ht : P.underlying t = some (.slice e)) (he : P.underlying e = some .string) (hc : P.cellsOf e = 1)
    (hv : Value.okWide P W r b0 t v) (h : DataW.Trod enc P W base spare held t v d p) :
    ∃ (a : Option Addr) (n cap : Nat) (l : List ByteArray), v = .slice a n cap ∧ Sl W a n cap (strs l) ∧ (∀ x ∈ l, x.size ≤ maxLen) ∧ n ≤ Rows.uptoBulk d := by
  obtain ⟨a0, len, cap, rfl⟩ := okWide_slice ht hv
  obtain ⟨fuel, hf⟩ := h
  rcases ChangeShapes.open_strings ht he hc hf with ⟨hcs, hx⟩ | ⟨a, len', cap', ss, hcs, _, hl, hm, hz, hx, hcell, hwz⟩
  · simp [Value.cells] at hcs
    obtain ⟨rfl, rfl, rfl⟩ := hcs
    exact ⟨none, 0, 0, [], rfl, Sl.nil _, by simp, Nat.zero_le _⟩
  · simp [Value.cells] at hcs
    obtain ⟨rfl, rfl, rfl⟩ := hcs
    have hlen : len ≤ ss.length := by rw [hz]; split <;> omega
    refine ⟨some a, len, cap, ss.take len, rfl, sl_of_cells hl hm (by rw [strs_len, List.length_take]; omega) (fun i u hu => ?_), fun x hx => hwz x (List.mem_of_mem_take hx), ?_⟩
    · simp only [strs, List.getElem?_map, Option.map_eq_some_iff] at hu
      obtain ⟨z, hzi, rfl⟩ := hu
      rw [List.getElem?_take] at hzi
      split at hzi
      · obtain ⟨hi, rfl⟩ := List.getElem?_eq_some_iff.1 hzi
        rw [hcell i hi, List.getD_eq_getElem?_getD, List.getElem?_eq_getElem hi]
        rfl
      · cases hzi
    · simp only [Prod.mk.injEq] at hx
      rw [hx.1]
      simp only [Rows.uptoBulk]
      have := bulk_len (H := H) (ChangeShapes.strs (ss.take len))
      have h4 : (ChangeShapes.strs (H := H) (ss.take len)).length = len := by simp [ChangeShapes.strs]; omega
      omega

end Go.Proofs.YtbhjookpdmfdnaaDoor
