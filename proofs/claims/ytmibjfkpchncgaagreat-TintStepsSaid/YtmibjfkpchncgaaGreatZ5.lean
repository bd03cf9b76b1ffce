/- Great structs: a store of all their cells. -/
import Derived.Test.YtmibjfkpchncgaaGreatZ4
import Derived.Deep.Upon
namespace Go.Proofs.YtmibjfkpchncgaaGreat
set_option linter.unusedVariables false
set_option linter.unusedSimpArgs false
open Go Go.RowKit

theorem Ext.setCells {W : World} {g : Nat} (hg : W.heap.size ≤ g) : ∀ (vs : List Value) (o : Nat) (u : World), Ext W u → Ext W (u.setCells g o vs)
  | [], _, _, h => h
  | v :: r, o, u, h => Ext.setCells hg r (o + 1) _ (h.store (by show W.heap.size ≤ g; exact hg) v)
theorem But.setCells {w : World} {g : Nat} : ∀ (vs : List Value) (o : Nat) (u : World), But w u g → But w (u.setCells g o vs) g
  | [], _, _, h => h
  | v :: r, o, u, h => But.setCells r (o + 1) _ h.store
theorem Fz.setCells {g' g : Nat} : ∀ (vs : List Value) (o : Nat) (u : World), Fz u g → Fz (u.setCells g' o vs) g
  | [], _, _, h => h
  | v :: r, o, u, h => Fz.setCells r (o + 1) _ h.set
theorem Bl.setCells {w : World} {g : Nat} {cs ds : Array Value} (h : Bl w g cs) (hs : ds.size = cs.size) : Bl (w.setCells g 0 ds.toList) g ds := fun j => by
  by_cases hj : j < ds.toList.length
  · have h1 := World.cell?_setCells_in g ds.toList 0 w (fun i hi => by
      rw [Nat.zero_add, h i, Array.getElem?_eq_getElem (by rw [Array.length_toList] at hi; omega)]
      rfl) j hj
    rw [Nat.zero_add] at h1
    rw [h1, Array.getElem?_eq_getElem (by rw [Array.length_toList] at hj; exact hj)]
    simp
  · rw [World.cell?_setCells_out g ds.toList 0 w ⟨g, j, none⟩ (fun _ _ => .inr (by rw [Nat.zero_add]; exact Nat.le_of_not_lt hj)), h j]
    rw [Array.length_toList] at hj
    rw [Array.getElem?_eq_none (by omega), Array.getElem?_eq_none (by omega)]
theorem wpList_storeB {ops : Array Oper} {rest : List Oper} {o : Oper} {a : Act} {Q : Exit → Act → World → Prop} {w : World} {p x : Operand} {g : Nat} {cs ds : Array Value} (h : Bl w g cs) (hf : Fz w g) (hgd : o.guard = none) (ho : o.op = .store 30 p x) (hp : a.eval p = .pointer (some ⟨g, 0, none⟩)) (hx : a.eval x = .agg ds) (hs : cs.size = 22) (hd : ds.size = 22)
    (h1 : ∀ v ∈ ds.toList, v.oneCell' = true) (hdst : o.dst = none)
    (hK : ∀ w', Bl w' g ds → Fz w' g → But w w' g → (∀ W, Ext W w → W.heap.size ≤ g → Ext W w') → wpList Tryz.prog ops Q rest a w') : wpList Tryz.prog ops Q (o :: rest) a w :=
  wpList_plain hgd fun _ hk => by
    have hst := run_storeCells_cells (P := Tryz.prog) g 0 ds.toList 0 w (fun j hj => by
      rw [Array.length_toList] at hj
      try simp only [Nat.zero_add]
      rw [h j, Array.getElem?_eq_getElem (by omega)]
      rfl) (fun j hj => by simpa using hf j) h1
    try simp only [Nat.zero_add] at hst
    have hr : (storeVar 30 ⟨g, 0, none⟩ (.agg ds)).run Tryz.prog w = .ok () (w.setCells g 0 ds.toList) := by
      have hsz : (sizeOf 30).run Tryz.prog w = .ok 22 w := by
        have hi : (Tryz.prog.info? 30).map (·.size) = some 22 := by kernel_rfl
        cases hq : Tryz.prog.info? 30 with
        | none => rw [hq] at hi; cases hi
        | some i =>
          rw [hq] at hi
          have hs : i.size = 22 := by simpa using hi
          simp [sizeOf, typeInfo, hq, hs]
      simp [storeVar, Sem.run_bind, hsz, Value.cells, hd, hst]
    unfold Oper.wp execOp
    simp only [ho, hp, hx, Instr.storeAt, Instr.sureAddr, asAddr, Sem.run_bind, Sem.run_pure, Result.andThen_ok, hr]
    have := hk a _ (hK _ (h.setCells (by rw [hd, hs])) (Fz.setCells _ _ _ hf) (But.setCells _ _ _ (But.refl _ _)) (fun W hW hg => Ext.setCells hg _ _ _ hW))
    have e : a.put o.dst undef = a := by rw [hdst]; rfl
    unfold Oper.upon
    simp only [e]
    exact this

end Go.Proofs.YtmibjfkpchncgaaGreat
