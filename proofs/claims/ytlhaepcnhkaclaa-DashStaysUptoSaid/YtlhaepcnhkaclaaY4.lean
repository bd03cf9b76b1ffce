/- Appending all of a slice, perhaps of none. -/
import Derived.Test.YtlhaepcnhkaclaaY3
import Derived.ArgAppend
namespace Go.Proofs.Ytlhaepcnhkaclaa
set_option linter.unusedVariables false
set_option linter.unusedSimpArgs false
open Go Go.RowKit

theorem run_app0 {P : Program} {t ty e : TypeId} {i : TypeInfo} (ht : P.underlying t = some (.slice e)) (hi : P.info? e = some i) (ad : Option Addr) (c : Nat) (w : World) :
    (Builtin.append_ #[t, t] ty #[.slice none 0 0, .slice ad 0 c]).run P w = .ok (.slice none 0 0) w := by
  cases ad with
  | none => simp [Builtin.append_, run_underlying ht, sizeOf, typeInfo, hi, Builtin.lenOf, Builtin.firstCells]
  | some a => simp [Builtin.append_, run_underlying ht, sizeOf, typeInfo, hi, Builtin.lenOf, Builtin.firstCells, loadCells, loadCellsFrom]
/-- All elements of a slice behind a row of the call's own, however many they are; in a region. -/
theorem wp_appAll {P : Program} {o : Oper} {a : Act} {K' : Act → World → Prop} {Q : Exit → Act → World → Prop} {w : World} {t e : TypeId} {K B : Nat} {z : Value} {bytes : Nat} (hT : SlTK P t e K z bytes)
    (s x : Operand) (ho : o.op = .call { callee := .builtin .append, args := #[s, x], argTypes := #[t, t] })
    (hB : B ≤ w.heap.size) {ad : Option Addr} {m c : Nat} {news : List Value} (hs : a.eval s = .slice none 0 0) (hx : a.eval x = .slice ad m c)
    (hsl : SlK K w ad m c news) (h1 : ∀ u ∈ news, u.oneCell' = true) (hb : m ≤ 17592186044416) (hb' : m * bytes ≤ 140737488355328)
    (h : ∀ v' w', w'.ownsRow B e K v' m news → Below B w w' → K' (a.put o.dst v') w') : o.wp P a w K' Q := by
  rcases Nat.eq_zero_or_pos m with h0 | h0
  · subst h0
    obtain ⟨ht, hK, i, hi, hz, hsz, hby, hzs⟩ := hT
    have hn : news = [] := List.length_eq_zero_iff.1 (by rw [hsl.1, Nat.zero_mul])
    subst hn
    have hr := run_app0 (P := P) (t := t) (ty := o.type) ht hi ad c w
    unfold Oper.wp execOp
    simp only [ho, resolve, invoke, builtin, Sem.run_bind, Sem.run_pure, Result.andThen_ok, List.map_toArray, List.map_cons, List.map_nil, hs, hx, hr]
    exact h _ _ (World.ownsRow_nil w B e K) (Below.refl _ _)
  · obtain ⟨b, off, rfl, hc⟩ := hsl.2.2.2 h0
    refine wp_appB hT s x ho (v := .slice none 0 0) (n := 0) (xs := []) (World.ownsRow_nil w B e K) hB (m := m) news hs hx hsl.1 (fun j u hj => ?_) h1 (by omega) (by rw [Nat.zero_add]; exact hb') (fun v' w' g1 g2 => ?_)
    · rw [show (⟨b, off, none⟩ : Addr).add j = ⟨b, off + j, none⟩ by unfold Addr.add; by_cases hz : j = 0 <;> simp [hz]]
      exact hc j u hj
    · rw [Nat.zero_add, List.nil_append] at g1
      exact h v' w' g1 g2
theorem pts_one1 (l : List Pt) : ∀ u ∈ pts l, u.oneCell' = true := by
  intro u hu
  simp only [pts, List.mem_flatMap, List.mem_cons, List.not_mem_nil, or_false] at hu
  obtain ⟨p, _, rfl | rfl⟩ := hu <;> rfl
/-- .. in a row of operations. -/
theorem wpList_appAll {P : Program} {ops : Array Oper} {rest : List Oper} {o : Oper} {a : Act} {Q : Exit → Act → World → Prop} {w : World} {t e : TypeId} {K B : Nat} {z : Value} {bytes : Nat} (hT : SlTK P t e K z bytes)
    (hgd : o.guard = none) (s x : Operand) (ho : o.op = .call { callee := .builtin .append, args := #[s, x], argTypes := #[t, t] })
    (hB : B ≤ w.heap.size) {ad : Option Addr} {m c : Nat} {news : List Value} (hs : a.eval s = .slice none 0 0) (hx : a.eval x = .slice ad m c)
    (hsl : SlK K w ad m c news) (h1 : ∀ u ∈ news, u.oneCell' = true) (hb : m ≤ 17592186044416) (hb' : m * bytes ≤ 140737488355328)
    (h : ∀ v' w', w'.ownsRow B e K v' m news → Below B w w' → wpList P ops Q rest (a.put o.dst v') w') :
    wpList P ops Q (o :: rest) a w :=
  wpList_plain hgd fun K' hK' => wp_appAll hT s x ho hB hs hx hsl h1 hb hb' (fun v' w' g1 g2 => hK' _ _ (h v' w' g1 g2))

end Go.Proofs.Ytlhaepcnhkaclaa
