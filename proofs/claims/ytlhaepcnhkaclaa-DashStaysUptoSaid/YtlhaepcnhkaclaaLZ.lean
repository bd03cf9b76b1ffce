/- Arguments that are rows of ints. -/
import Derived.Test.YtlhaepcnhkaclaaLY
import Derived.Test.YtlhaepcnhkaclaaY2
namespace Go.Proofs.Ytlhaepcnhkaclaa
open Go Go.RowKit Go.ChangeShapes Go.WideShapes Go.ChangeAt
set_option linter.unusedVariables false

theorem sl_of_cellsZ {W : World} {a : Addr} {len cap : Nat} {xs : List Value} (hl : len ≤ cap) (hm : cap ≤ maxLen) (hx : xs.length = len) (hc : ∀ i u, xs[i]? = some u → W.cell? (a.add i) = some u) : Sl W (some a) len cap xs := by
  refine ⟨hx, hl, hm, fun h0 => ?_⟩
  have h1 := hc 0 (xs[0]'(by omega)) (List.getElem?_eq_getElem (by omega))
  have h2 : a.add 0 = a := by simp [Addr.add]
  rw [h2] at h1
  refine ⟨a.block, a.off, by rw [← spot_none h1], fun i u hu => ?_⟩
  have h3 := hc i u hu
  have e1 : a.add i = ⟨a.block, a.off + i, none⟩ := by
    rw [spot_none h1]
    unfold Addr.add
    by_cases hz : i = 0
    · subst hz; simp
    · simp [hz]
  rw [e1] at h3
  exact h3

theorem ints_arg {H : Type} {enc : TypeId × Value → H} {P : Program} {W : World} {r : Reach} {b0 : Nat} {spare : Nat → Bool} {held : Bool} {base : Nat} {t e : TypeId} {v : Value} {d : DataW H} {p : List MemPlace}
    (ht : P.underlying t = some (.slice e)) (he : P.underlying e = some (.int .i64)) (hc : P.cellsOf e = 1)
    (hv : Value.okWide P W r b0 t v) (h : DataW.Trod enc P W base spare held t v d p) :
    ∃ (a : Option Addr) (n cap : Nat) (l : List Int), v = .slice a n cap ∧ Sl W a n cap (izs l) ∧ (∀ x ∈ l, True) ∧ n ≤ Rows.uptoBulk d := by
  obtain ⟨a0, len, cap, rfl⟩ := okWide_slice ht hv
  obtain ⟨fuel, hf⟩ := h
  rcases open_ints ht he hc hf with ⟨hcs, hx⟩ | ⟨a, len', cap', zs, hcs, _, hl, hm, hz, hx, hcell, hwz⟩
  · simp [Value.cells] at hcs
    obtain ⟨rfl, rfl, rfl⟩ := hcs
    exact ⟨none, 0, 0, [], rfl, Sl.nil _, by simp, Nat.zero_le _⟩
  · simp [Value.cells] at hcs
    obtain ⟨rfl, rfl, rfl⟩ := hcs
    have hlen : len ≤ zs.length := by rw [hz]; split <;> omega
    refine ⟨some a, len, cap, zs.take len, rfl, sl_of_cellsZ hl hm (by rw [izs_len, List.length_take]; omega) (fun i u hu => ?_), fun _ _ => trivial, ?_⟩
    · simp only [izs, List.getElem?_map, Option.map_eq_some_iff] at hu
      obtain ⟨z, hzi, rfl⟩ := hu
      rw [List.getElem?_take] at hzi
      split at hzi
      · obtain ⟨hi, rfl⟩ := List.getElem?_eq_some_iff.1 hzi
        rw [hcell i hi, List.getD_eq_getElem?_getD, List.getElem?_eq_getElem hi]
        rfl
      · cases hzi
    · simp only [Prod.mk.injEq] at hx
      rw [hx.1]
      simp only [Rows.uptoBulk]
      have := bulk_len (H := H) (lits .i64 (zs.take len))
      have h4 : (lits (H := H) .i64 (zs.take len)).length = len := by simp [lits]; omega
      omega

end Go.Proofs.Ytlhaepcnhkaclaa
