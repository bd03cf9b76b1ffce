/- What the argument is, out of the row's reading: rows of rows of strings. -/
import Derived.Test.YtlhaepcnhkaclaaDoorX16
import Derived.Test.YtlhaepcnhkaclaaDoorM7
import Derived.Deep.Strs
namespace Go.Proofs.YtlhaepcnhkaclaaDoor
open Go Go.RowKit Go.ChangeShapes Go.WideShapes Go.ChangeAt
set_option linter.unusedVariables false

theorem sl_of_cells {W : World} {a : Addr} {len cap : Nat} {xs : List Value} (hl : len ≤ cap) (hm : cap ≤ maxLen) (hx : xs.length = len) (hc : ∀ i u, xs[i]? = some u → W.cell? (a.add i) = some u) : Sl W (some a) len cap xs := by
  refine ⟨hx, hl, hm, fun h0 => ?_⟩
  have h1 := hc 0 (xs[0]'(by omega)) (List.getElem?_eq_getElem (by omega))
  have h2 : a.add 0 = a := by simp [Addr.add]
  rw [h2] at h1
  refine ⟨a.block, a.off, by rw [← spot_none h1], fun i u hu => ?_⟩
  have h3 := hc i u hu
  have e1 : a.add i = ⟨a.block, a.off + i, none⟩ := by
    rw [spot_none h1]
    unfold Addr.add
    by_cases hz : i = 0
    · subst hz; simp
    · simp [hz]
  rw [e1] at h3
  exact h3
theorem bulk_strs {H : Type} (f : Nat → ByteArray) : ∀ r : List Nat, Rows.uptoBulkAll (r.map fun i => DataW.lit (H := H) (.string (f i).data.toList)) = r.length + sumL (r.map fun i => natsOf (f i))
  | [] => rfl
  | i :: r => by
    have ih := bulk_strs (H := H) f r
    simp only [List.map_cons, Rows.uptoBulkAll, ih, str_bulk, sumL, List.sum_cons, List.length_cons]
    have := natsOf_len (f i)
    omega
theorem strN_trod {H : Type} {enc : TypeId × Value → H} {W : World} {base fuel : Nat} {spare : Nat → Bool} {held : Bool} {cs : List Value} {x : DataW H × List MemPlace} (h : DataW.trod enc Tryd.prog W base spare held fuel 53 cs = some x) :
    ∃ a n cap ps, cs = [.slice a n cap] ∧ Sl W a n cap (strN ps) ∧ (∀ p ∈ ps, ∀ y ∈ p, y ≤ 255) ∧ ps.length + sumL ps ≤ Rows.uptoBulk x.1 := by
  rcases Deep.open_strs Tryd.underlying53 Tryd.underlying9 (by kernel_rfl) h with ⟨rfl, rfl⟩ | ⟨a, len, cap, m, Sx, rfl, _, hl, hm, hmm, rfl, hx⟩
  · exact ⟨none, 0, 0, [], rfl, Sl.nil _, by simp, by simp [sumL]⟩
  · have hlm : len ≤ m := by rw [hmm]; split <;> omega
    refine ⟨some a, len, cap, (List.range len).map fun i => natsOf (Sx i), rfl, ?_, ?_, ?_⟩
    · have e : strN ((List.range len).map fun i => natsOf (Sx i)) = (List.range len).map fun i => .string (Sx i) := by
        simp only [strN, strs, List.map_map]
        exact List.map_congr_left fun i _ => by simp only [Function.comp_def, bytesOf_natsOf]
      rw [e]
      refine sl_of_cells hl hm (by simp) (fun i u hu => ?_)
      rw [List.getElem?_map, Option.map_eq_some_iff] at hu
      obtain ⟨z, hz, rfl⟩ := hu
      obtain ⟨hi, rfl⟩ := List.getElem?_eq_some_iff.1 hz
      rw [List.length_range] at hi
      rw [List.getElem_range]
      exact (hx i (by omega)).1
    · intro p hp y hy
      obtain ⟨i, _, rfl⟩ := List.mem_map.1 hp
      exact natsOf_le _ y hy
    · have := bulk_strs (H := H) Sx (List.range len)
      simp only [Rows.uptoBulk, this, List.length_map, List.length_range]
      omega

theorem bulk_mem {H : Type} {d : DataW H} : ∀ {l : List (DataW H)}, d ∈ l → Rows.uptoBulk d ≤ Rows.uptoBulkAll l
  | x :: r, h => by
    simp only [Rows.uptoBulkAll]
    rcases List.mem_cons.1 h with rfl | h
    · omega
    · have := bulk_mem h; omega
set_option maxRecDepth 100000 in
theorem strss_arg {H : Type} {enc : TypeId × Value → H} {W : World} {r : Reach} {b0 : Nat} {spare : Nat → Bool} {held : Bool} {base : Nat} {v : Value} {d : DataW H} {p : List MemPlace}
    (hv : Value.okWide Tryd.prog W r b0 23 v) (h : DataW.Trod enc Tryd.prog W base spare held 23 v d p) :
    ∃ (a : Option Addr) (n cap : Nat) (ll : List (List (List Nat))), v = .slice a n cap ∧ SlSS W a n cap ll ∧ (∀ ps ∈ ll, ∀ p ∈ ps, ∀ y ∈ p, y ≤ 255) ∧ (∀ ps ∈ ll, ps.length + sumL ps ≤ Rows.uptoBulk d) ∧ n ≤ Rows.uptoBulk d := by
  obtain ⟨a0, len, cap, rfl⟩ := okWide_slice Tryd.underlying23 hv
  obtain ⟨fuel, hf⟩ := h
  rcases Deep.open_slice1 Tryd.underlying23 (by kernel_rfl) hf with ⟨hcs, hx⟩ | ⟨a, len', cap', m, n, V, D, Pl, hcs, _, hl, hm, hmm, hx, hel⟩
  · simp [Value.cells] at hcs
    obtain ⟨rfl, rfl, rfl⟩ := hcs
    exact ⟨none, 0, 0, [], rfl, ⟨[], Sl.nil _, rfl, fun i hi => absurd hi (by simp)⟩, by simp, by simp, Nat.zero_le _⟩
  · simp [Value.cells] at hcs
    obtain ⟨rfl, rfl, rfl⟩ := hcs
    have hlm : len ≤ m := by rw [hmm]; split <;> omega
    have each : ∀ i, i < len → ∃ ps : List (List Nat), (∃ a n cap, V i = .slice a n cap ∧ Sl W a n cap (strN ps)) ∧ (∀ p ∈ ps, ∀ y ∈ p, y ≤ 255) ∧ ps.length + sumL ps ≤ Rows.uptoBulk (D i) := fun i hi => by
      obtain ⟨a, n, cap, ps, e, h1, h2, h3⟩ := strN_trod (hel i (by omega)).2
      exact ⟨ps, ⟨a, n, cap, by simpa using e, h1⟩, h2, h3⟩
    obtain ⟨F, hF⟩ := Deep.choose_lt each
    have hb : ∀ i, i < len → Rows.uptoBulk (D i) ≤ Rows.uptoBulk d := fun i hi => by
      simp only [Prod.mk.injEq] at hx
      rw [hx.1]
      simp only [Rows.uptoBulk]
      have := bulk_mem (d := D i) (l := (List.range len).map D) (List.mem_map.2 ⟨i, List.mem_range.2 hi, rfl⟩)
      omega
    have hn : len ≤ Rows.uptoBulk d := by
      simp only [Prod.mk.injEq] at hx
      rw [hx.1]
      simp only [Rows.uptoBulk]
      have := bulk_len ((List.range len).map D)
      simp only [List.length_map, List.length_range] at this
      omega
    refine ⟨some a, len, cap, (List.range len).map F, rfl, ⟨(List.range len).map V, sl_of_cells hl hm (by simp) (fun i u hu => ?_), by simp, fun i hi => ?_⟩, ?_, ?_, hn⟩
    · rw [List.getElem?_map, Option.map_eq_some_iff] at hu
      obtain ⟨z, hz, rfl⟩ := hu
      obtain ⟨hi, rfl⟩ := List.getElem?_eq_some_iff.1 hz
      rw [List.length_range] at hi
      rw [List.getElem_range]
      exact (hel i (by omega)).1
    · simp only [List.length_map, List.length_range] at hi
      obtain ⟨a, n, cap, e, h1⟩ := (hF i hi).1
      refine ⟨a, n, cap, by rw [List.getElem?_map, List.getElem?_range hi, Option.map_some, e], by simpa using h1⟩
    · intro ps hp
      obtain ⟨i, hi, rfl⟩ := List.mem_map.1 hp
      exact (hF i (List.mem_range.1 hi)).2.1
    · intro ps hp
      obtain ⟨i, hi, rfl⟩ := List.mem_map.1 hp
      exact Nat.le_trans (hF i (List.mem_range.1 hi)).2.2 (hb i (List.mem_range.1 hi))

end Go.Proofs.YtlhaepcnhkaclaaDoor
