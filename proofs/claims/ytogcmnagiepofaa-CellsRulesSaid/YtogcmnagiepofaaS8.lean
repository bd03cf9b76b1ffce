/- Sets of cells: the runs of a set: the iterator. -/
import Derived.Test.YtogcmnagiepofaaS5
import Derived.RangeFuncNested
import Derived.RangeFuncBound
import Derived.RangeFuncCalls
import Derived.RangeFuncLeaves
import Derived.RangeFuncBox
import Derived.RangeFuncFrom
import Derived.Shelf.Abstract
import Derived.WalkKit
import Derived.OwnWalkIn
import Derived.TacticsInMore
import Derived.LoopNIn
import Derived.LoopIn
namespace Go.Proofs.Ytogcmnagiepofaa
set_option linter.unusedVariables false
set_option linter.unusedSimpArgs false
open Go Go.RowKit Go.Shelf
attribute [local go_sem] Oper.semAt_some

/-- Where a run that begins at a place of a row ends. -/
def runEnd (l : List Bool) (q X x : Nat) : Nat := if x < X ∧ l.getD (q + x) false = true then runEnd l q X (x + 1) else x
termination_by X - x
theorem runEnd_ge (l : List Bool) (q X x : Nat) : x ≤ runEnd l q X x := by
  fun_induction runEnd l q X x with
  | case1 x h ih => omega
  | case2 x h => omega
theorem runEnd_le (l : List Bool) (q X x : Nat) (h : x ≤ X) : runEnd l q X x ≤ X := by
  fun_induction runEnd l q X x with
  | case1 x h1 ih => exact ih (by omega)
  | case2 x h1 => exact h
theorem runEnd_more {l : List Bool} {q X x : Nat} (h : x < X) (hb : l.getD (q + x) false = true) : runEnd l q X (x + 1) = runEnd l q X x := by
  conv => rhs; rw [runEnd, if_pos ⟨h, hb⟩]
theorem runEnd_stop {l : List Bool} {q X x : Nat} (hb : ¬ (x < X ∧ l.getD (q + x) false = true)) : runEnd l q X x = x := by rw [runEnd, if_neg hb]
/-- The runs of a row, from a place on. -/
def rowR (l : List Bool) (q X y x : Nat) : List Run3 :=
  if x < X then (if x < runEnd l q X x then [(y, x, runEnd l q X x)] else []) ++ rowR l q X y (runEnd l q X x + 1) else []
termination_by X - x
decreasing_by have := runEnd_ge l q X x; omega
theorem rowR_step {l : List Bool} {q X y x : Nat} (h : x < X) : rowR l q X y x = (if x < runEnd l q X x then [(y, x, runEnd l q X x)] else []) ++ rowR l q X y (runEnd l q X x + 1) := by
  conv => lhs; rw [rowR, if_pos h]
theorem rowR_end {l : List Bool} {q X y x : Nat} (h : X ≤ x) : rowR l q X y x = [] := by rw [rowR, if_neg (by omega)]
/-- The runs of the rows from one on. -/
def rowsR (l : List Bool) (X Y y : Nat) : List Run3 := if y < Y then rowR l (y * X) X y 0 ++ rowsR l X Y (y + 1) else []
termination_by Y - y
theorem rowsR_step {l : List Bool} {X Y y : Nat} (h : y < Y) : rowsR l X Y y = rowR l (y * X) X y 0 ++ rowsR l X Y (y + 1) := by
  conv => lhs; rw [rowsR, if_pos h]
theorem rowsR_end {l : List Bool} {X Y y : Nat} (h : Y ≤ y) : rowsR l X Y y = [] := by rw [rowsR, if_neg (by omega)]

/-- A run that lies in the page. -/
abbrev RunIn (X Y : Nat) := { r : Run3 // r.1 < Y ∧ r.2.1 < r.2.2 ∧ r.2.2 ≤ X }
theorem rowR_ok (l : List Bool) (q X y x : Nat) (Y : Nat) (hy : y < Y) : ∀ r ∈ rowR l q X y x, r.1 < Y ∧ r.2.1 < r.2.2 ∧ r.2.2 ≤ X := by
  fun_induction rowR l q X y x with
  | case1 x h ih =>
    intro r hr
    rcases List.mem_append.1 hr with h1 | h1
    · split at h1
      · next h2 =>
        rw [List.mem_singleton] at h1
        subst h1
        exact ⟨hy, h2, runEnd_le l q X x (by omega)⟩
      · cases h1
    · exact ih r h1
  | case2 x h => intro r hr; cases hr
theorem rowsR_ok (l : List Bool) (X Y y : Nat) : ∀ r ∈ rowsR l X Y y, r.1 < Y ∧ r.2.1 < r.2.2 ∧ r.2.2 ≤ X := by
  fun_induction rowsR l X Y y with
  | case1 y h ih =>
    intro r hr
    rcases List.mem_append.1 hr with h1 | h1
    · exact rowR_ok l _ X y 0 Y h r h1
    · exact ih r h1
  | case2 y h => intro r hr; cases hr

/-- Some blocks of cells are as they were. -/
def Keep (q : Nat → Prop) (W W' : World) : Prop := W.heap.size ≤ W'.heap.size ∧ ∀ k o, q k → W.heap[k]? = some o → o.isCells = true → W'.heap[k]? = some o
theorem Keep.refl (q : Nat → Prop) (W : World) : Keep q W W := ⟨Nat.le_refl _, fun _ _ _ h _ => h⟩
theorem Keep.trans {q : Nat → Prop} {A B C : World} (h : Keep q A B) (k : Keep q B C) : Keep q A C := ⟨Nat.le_trans h.1 k.1, fun i o hq ho hc => k.2 i o hq (h.2 i o hq ho hc) hc⟩
theorem Keep.book {q : Nat → Prop} (W : World) (l : Nat) (o o' : Obj) (h : W.heap[l]? = some o) (hc : o.isCells = false) : Keep q W (W.putObj l o') :=
  ⟨by simp, fun k p hq hp hpc => by
    by_cases e : k = l
    · subst e
      rw [h] at hp
      cases hp
      rw [hc] at hpc; cases hpc
    · rw [World.putObj_heap_other e]; exact hp⟩
theorem Keep.cell {q : Nat → Prop} {W W' : World} (h : Keep q W W') {b j : Nat} {v : Value} (hv : W.cell? ⟨b, j, none⟩ = some v) (hq : q b) : W'.cell? ⟨b, j, none⟩ = some v := by
  obtain ⟨o, ho, hc⟩ := cells_of_cell hv
  exact (World.cell?_of_block (w := W) (a := ⟨b, j, none⟩) ((h.2 _ o hq ho hc).trans ho.symm)).trans hv
theorem Keep.ext {q : Nat → Prop} {W W' : World} (h : Ext W W') : Keep q W W' := ⟨h.size, fun k o _ hk _ => (h.block k (Array.getElem?_eq_some_iff.1 hk).1).trans hk⟩
theorem Keep.store {q : Nat → Prop} {W W' : World} {g j : Nat} {v : Value} (h : Keep q W W') (hg : ¬ q g) : Keep q W (W'.setCell ⟨g, j, none⟩ v) :=
  ⟨Nat.le_trans h.1 (But.store (But.refl W' g)).1, fun k o hq hk hc => by
    have h1 := h.2 k o hq hk hc
    have h2 := (But.store (j := j) (v := v) (But.refl W' g)).2 k (Array.getElem?_eq_some_iff.1 h1).1 (fun e => hg (e ▸ hq))
    exact h2.trans h1⟩

set_option maxRecDepth 100000 in
set_option maxHeartbeats 4000000 in
/-- The runs of a set: for every loop body that keeps the set's blocks. -/
theorem c_runs1 (F : Fence) (n : Nat) (h7 : F.fn 134) (hro : F.round = none) (hn : 1 ≤ n) (l Bc b off N c X Y : Nat) (zs : List Bool) (kq : Nat → Prop) (hqc : kq Bc) (hqb : kq b) (hX1 : 1 ≤ X) (hX2 : X ≤ 64) (hY2 : Y ≤ 64) (hN : N = Y * X) (hNc : N ≤ c) (hzs : zs.length = N) (J Jx : List Run3 → World → Prop)
    (hY : ∀ pre x suf W, J pre W → pre ++ x :: suf = rowsR zs X Y 0 → YieldAt F (n - 1) Try.prog l #[.agg #[.int .i64 (x.1 : Int), .int .i64 (x.2.1 : Int), .int .i64 (x.2.2 : Int)]] W fun e W' =>
      (e = .returned (.bool true) ∧ J (pre ++ [x]) W' ∧ Keep kq W W') ∨ (e = .returned (.bool false) ∧ Jx (pre ++ [x]) W'))
    (W : World) (hBs : Bl W Bc #[.int .i64 (X : Int), .int .i64 (Y : Int), .slice (some ⟨b, off, none⟩) N c]) (hc : ∀ j (hj : j < zs.length), W.cell? ⟨b, off + j, none⟩ = some (.bool zs[j])) (h0 : J [] W) :
    CallsIn F n Try.prog 134 #[.func (.yield l) #[] #[], .pointer (some ⟨Bc, 0, none⟩)] W fun e W' => (∃ v, e = .returned v) ∧
      ((∃ ys, ys = rowsR zs X Y 0 ∧ J ys W') ∨ (∃ pre, pre <+: rowsR zs X Y 0 ∧ Jx pre W')) := by
  have HYS := hidP hY
  clear hY
  obtain ⟨L, hL⟩ : ∃ L, L = rowsR zs X Y 0 := ⟨_, rfl⟩
  rw [← hL] at HYS ⊢
  have H0 : Hid ([] ++ rowsR zs X Y 0 = L) := hidP hL.symm
  have HST : Hid (∀ y, y < Y → rowsR zs X Y y = rowR zs (y * X) X y 0 ++ rowsR zs X Y (y + 1)) := hidP (fun y h => rowsR_step h)
  have HE0 : Hid (rowsR zs X Y Y = []) := hidP (rowsR_end (Nat.le_refl _))
  clear hL
  have HNN := hidP hN
  have hN4 : N ≤ 4096 := by rw [hN]; exact Nat.mul_le_mul hY2 hX2
  have HC := hidP hc
  have HBS := hidP hBs
  have HZ := hidP hzs
  clear hc hBs hN hzs
  refine callsIn_of_wp Try.func134 rfl h7 ?_ hro
  simp only [Try.ntmps134, List.size_toArray, List.length_cons, List.length_nil, Nat.reduceAdd, Nat.reduceSub, Array.replicate_succ, Array.replicate_zero, List.push_toArray, List.append_toArray, List.nil_append, List.cons_append]
  have bc0 := HBS.out 0; have bc1 := HBS.out 1; have bc2 := HBS.out 2
  simp at bc0 bc1 bc2
  gi_wp2
  gi_loopw [9] (fun i wr => ∃ (y : Nat) (pre : List Run3), y ≤ Y ∧ i = .int .i64 (y : Int) ∧ J pre wr ∧ Hid (pre ++ rowsR zs X Y y = L) ∧ wr.cell? ⟨Bc, 0, none⟩ = some (.int .i64 (X : Int)) ∧ wr.cell? ⟨Bc, 1, none⟩ = some (.int .i64 (Y : Int)) ∧ wr.cell? ⟨Bc, 2, none⟩ = some (.slice (some ⟨b, off, none⟩) N c) ∧ Keep kq W wr)
    (fun i _ => Y - (intOf i).toNat)
  case atStart => exact ⟨0, [], Nat.zero_le _, rfl, h0, H0, bc0, bc1, bc2, Keep.refl _ _⟩
  case round =>
    clear bc0 bc1 bc2 h0 H0
    obtain ⟨y, pre, hy, rfl, hJs, HP, bc0, bc1, bc2, hk⟩ := hrel
    by_cases hlt : y < Y
    · have hlt0 := hlt
      have hp2 := HP.out
      rw [HST.out y hlt] at hp2
      obtain ⟨q, hq⟩ : ∃ q, q = y * X := ⟨_, rfl⟩
      rw [← hq] at hp2
      have hqN : q + X ≤ N := by
        have e : (y + 1) * X ≤ Y * X := Nat.mul_le_mul_right _ (by omega)
        rw [Nat.add_mul, Nat.one_mul, ← hq] at e
        rw [HNN.out]; omega
      have HQ : Hid ((y : Int) * (X : Int) = (q : Int)) := hidP (by rw [hq]; simp)
      have HQ1 : Hid (((y : Int) + 1) * (X : Int) = (q : Int) + (X : Int)) := hidP (by rw [hq, Int.add_mul, Int.one_mul]; simp)
      clear hq HP
      have HP : Hid (pre ++ (rowR zs q X y 0 ++ rowsR zs X Y (y + 1)) = L) := hidP hp2
      clear hp2
      generalize hrest : rowsR zs X Y (y + 1) = rest at *
      have HREST := hidP hrest
      clear hrest
      have hy64 : y ≤ 64 := by omega
      have hqs := HQ.out; have hqs1 := HQ1.out
      gi_wp2
      rw [Nat.add_sub_cancel_left]
      gi_loopw [5] (fun xv wr => ∃ (x : Nat) (pre : List Run3), x ≤ X + 1 ∧ xv = .int .i64 (x : Int) ∧ J pre wr ∧ Hid (pre ++ (rowR zs q X y x ++ rest) = L) ∧ wr.cell? ⟨Bc, 0, none⟩ = some (.int .i64 (X : Int)) ∧ wr.cell? ⟨Bc, 1, none⟩ = some (.int .i64 (Y : Int)) ∧ wr.cell? ⟨Bc, 2, none⟩ = some (.slice (some ⟨b, off, none⟩) N c) ∧ Keep kq W wr) (fun xv _ => X + 1 - (intOf xv).toNat)
      case atStart => exact ⟨0, pre, by omega, rfl, hJs, HP, bc0, bc1, bc2, hk⟩
      case round =>
        clear bc0 bc1 bc2 hJs HP hk pre
        obtain ⟨x, pre, hx, rfl, hJs, HP, bc0, bc1, bc2, hk⟩ := hrel
        by_cases hlx : x < X
        · have hlx0 := hlx
          have hp2 := HP.out
          rw [rowR_step hlx] at hp2
          obtain ⟨e, he⟩ : ∃ e, e = runEnd zs q X x := ⟨_, rfl⟩
          rw [← he] at hp2
          have HP2 := hidP hp2
          have HEE := hidP he.symm
          clear HP hp2 he
          obtain ⟨wo, rfl⟩ : ∃ wo, wo = wr := ⟨_, rfl⟩
          gi_wp2
          gi_loopw [5] (fun xv wi => ∃ x' : Nat, x ≤ x' ∧ x' ≤ X ∧ xv = .int .i64 (x' : Int) ∧ Hid (runEnd zs q X x' = e) ∧ wi = wo) (fun xv _ => X - (intOf xv).toNat)
          case atStart => exact ⟨x, by omega, by omega, rfl, HEE, rfl⟩
          case round =>
            obtain ⟨x', h1, h2, rfl, HE2, rfl⟩ := hrel
            by_cases hlz : x' < X
            · have hqx : q + x' < zs.length := by rw [HZ.out]; omega
              have hcx := hk.cell (HC.out _ hqx) hqb
              have hgd : zs.getD (q + x') false = zs[q + x'] := by rw [List.getD_eq_getElem?_getD, List.getElem?_eq_getElem hqx]; rfl
              have hmore := runEnd_more (l := zs) (q := q) (X := X) (x := x') hlz
              have hstop := runEnd_stop (l := zs) (q := q) (X := X) (x := x')
              rw [hgd] at hmore hstop
              rw [← Nat.add_assoc] at hcx
              generalize zs[q + x'] = t at *
              have hlz0 := hlz
              cases t
              · have hee : x' = e := by rw [← HE2.out]; exact (hstop (fun h => by cases h.2)).symm
                clear hmore hstop HE2 hgd
                subst hee
                have hp3 := HP2.out
                by_cases hxe : x < x'
                · rw [if_pos hxe] at hp3
                  obtain ⟨fn, tmps, assign, body, hy, hR⟩ := HYS.out pre (y, x, x') (rowR zs q X y (x' + 1) ++ rest) _ hJs hp3
                  have HP3 := hidP hp3
                  clear hp3 HP2
                  have hxe0 := hxe
                  gi_wp2
                  refine hR.mono ?_
                  rintro e' W3 (⟨rfl, hJ3, hk3⟩ | ⟨rfl, hJx3⟩)
                  · replace bc0 := hk3.cell bc0 hqc
                    replace bc1 := hk3.cell bc1 hqc
                    replace bc2 := hk3.cell bc2 hqc
                    gi_wp2
                    go_roundw
                    case rel => exact ⟨x' + 1, pre ++ [(y, x, x')], by omega, by go_num, hJ3, hidP (by rw [List.append_assoc]; exact HP3.out), bc0, bc1, bc2, hk.trans hk3⟩
                    case measure => simp only [intOf]; omega
                  · gi_wp2
                    refine bodyPost_ret (results_none rfl _ _ _) rfl ?_
                    exact ⟨⟨_, rfl⟩, .inr ⟨pre ++ [(y, x, x')], ⟨rowR zs q X y (x' + 1) ++ rest, by rw [List.append_assoc]; exact HP3.out⟩, hJx3⟩⟩
                · rw [if_neg hxe] at hp3
                  have HP3 := hidP hp3
                  clear hp3 HP2
                  gi_wp2
                  refine ⟨fun _ h => (by cases h), ?_⟩
                  gi_wp2
                  go_roundw
                  case rel => exact ⟨x' + 1, pre, by omega, by go_num, hJs, HP3, bc0, bc1, bc2, hk⟩
                  case measure => simp only [intOf]; omega
              · have HE3 := hidP ((hmore rfl).trans HE2.out)
                clear hmore hstop HE2 hgd
                gi_wp2
                go_roundw
                case rel => exact ⟨x' + 1, by omega, by omega, by go_num, HE3, by first | rfl | trivial⟩
                case measure => simp only [intOf]; omega
            · have hee : x' = e := by rw [← HE2.out]; exact (runEnd_stop (fun h => hlz h.1)).symm
              subst hee
              have hp3 := HP2.out
              by_cases hxe : x < x'
              · rw [if_pos hxe] at hp3
                obtain ⟨fn, tmps, assign, body, hy, hR⟩ := HYS.out pre (y, x, x') (rowR zs q X y (x' + 1) ++ rest) _ hJs hp3
                have HP3 := hidP hp3
                clear hp3 HP2
                have hxe0 := hxe
                gi_wp2
                refine hR.mono ?_
                rintro e' W3 (⟨rfl, hJ3, hk3⟩ | ⟨rfl, hJx3⟩)
                · replace bc0 := hk3.cell bc0 hqc
                  replace bc1 := hk3.cell bc1 hqc
                  replace bc2 := hk3.cell bc2 hqc
                  gi_wp2
                  go_roundw
                  case rel => exact ⟨x' + 1, pre ++ [(y, x, x')], by omega, by go_num, hJ3, hidP (by rw [List.append_assoc]; exact HP3.out), bc0, bc1, bc2, hk.trans hk3⟩
                  case measure => simp only [intOf]; omega
                · gi_wp2
                  refine bodyPost_ret (results_none rfl _ _ _) rfl ?_
                  exact ⟨⟨_, rfl⟩, .inr ⟨pre ++ [(y, x, x')], ⟨rowR zs q X y (x' + 1) ++ rest, by rw [List.append_assoc]; exact HP3.out⟩, hJx3⟩⟩
              · omega
        · gi_wp2
          rw [rowR_end (by omega)] at HP
          go_roundw
          case rel => exact ⟨y + 1, pre, by omega, by go_num, hJs, by rw [HREST.out]; exact HP, bc0, bc1, bc2, hk⟩
          case measure => simp only [intOf]; omega
    · obtain rfl : y = Y := by omega
      gi_wp2
      go_end0
      refine ⟨⟨_, rfl⟩, .inl ⟨_, rfl, ?_⟩⟩
      have := HP.out
      rw [HE0.out, List.append_nil] at this
      rw [← this]
      exact hJs

set_option maxRecDepth 100000 in
set_option maxHeartbeats 4000000 in
theorem c_runs (F : Fence) (n : Nat) (h5 : F.fn 107) (hro : F.round = none) (x y : Int) (a : Option Addr) (N c : Nat) (w : World) :
    CallsIn F n Try.prog 107 #[rst x y a N c] w fun e w' => e = .returned (.func (.func 134) #[] #[.pointer (some ⟨w.heap.size, 0, none⟩)]) ∧ w' = w.alloc (.cells #[.int .i64 x, .int .i64 y, .slice a N c] 44) := by
  have hmf : ∀ (fn : Fn) (first cap : Array Value) (w : World), (Instr.makeFunc fn first cap).run Try.prog w = .ok (.func fn first cap) w := fun _ _ _ _ => rfl
  refine callsIn_of_wp Try.func107 rfl h5 ?_ hro
  simp only [Try.ntmps107, List.size_toArray, List.length_cons, List.length_nil, Nat.reduceAdd, Nat.reduceSub, Array.replicate_succ, Array.replicate_zero, List.push_toArray, List.append_toArray, List.nil_append, List.cons_append]
  gi_wp2
  go_ret
  exact ⟨rfl, rfl⟩
/-- The iterator, as a loop wants it. -/
theorem c_runs_stops (F : Fence) (n : Nat) (h7 : F.fn 134) (hro : F.round = none) (hn : 1 ≤ n) (Bc b off N c X Y : Nat) (zs : List Bool) (kq : Nat → Prop) (hqc : kq Bc) (hqb : kq b) (hX1 : 1 ≤ X) (hX2 : X ≤ 64) (hY2 : Y ≤ 64) (hN : N = Y * X) (hNc : N ≤ c) (hzs : zs.length = N) (w : World)
    (hBs : Bl w Bc #[.int .i64 (X : Int), .int .i64 (Y : Int), .slice (some ⟨b, off, none⟩) N c]) (hc : ∀ j (hj : j < zs.length), w.cell? ⟨b, off + j, none⟩ = some (.bool zs[j])) :
    SeqStopsK F n Try.prog 134 #[.pointer (some ⟨Bc, 0, none⟩)] (fun x : RunIn X Y => #[.agg #[.int .i64 (x.1.1 : Int), .int .i64 (x.1.2.1 : Int), .int .i64 (x.1.2.2 : Int)]]) (Keep kq) (fun ys => ys.map Subtype.val = rowsR zs X Y 0) (fun _ => True) (rowsR zs X Y 0).length w := fun l J Jx W hW _ _ hY h0 => by
  refine (c_runs1 F n h7 hro hn l Bc b off N c X Y zs kq hqc hqb hX1 hX2 hY2 hN hNc hzs (fun pre W => ∃ p : List (RunIn X Y), p.map Subtype.val = pre ∧ J p W) (fun pre W => ∃ p : List (RunIn X Y), p.map Subtype.val = pre ∧ Jx p W) ?_ W (Bl.ext hW hBs (Nat.succ_pos _)) (fun j hj => Ext.cell' hW (hc j hj)) ⟨[], rfl, h0⟩).mono ?_
  · rintro pre x suf W1 ⟨p, rfl, hJ⟩ he
    have hin : x ∈ rowsR zs X Y 0 := by rw [← he]; simp
    have hlen : p.length < (rowsR zs X Y 0).length := by rw [← he]; simp
    obtain ⟨fn, tmps, assign, body, hy, hR⟩ := hY p ⟨x, rowsR_ok zs X Y 0 x hin⟩ W1 hJ hlen
    refine ⟨fn, tmps, assign, body, hy, hR.mono ?_⟩
    rintro e W' (⟨rfl, h1, h2⟩ | ⟨rfl, h1⟩)
    · exact .inl ⟨rfl, ⟨p ++ [⟨x, rowsR_ok zs X Y 0 x hin⟩], by simp, h1⟩, h2⟩
    · exact .inr ⟨rfl, ⟨p ++ [⟨x, rowsR_ok zs X Y 0 x hin⟩], by simp, h1⟩⟩
  · rintro e W' ⟨he, ⟨ys, rfl, p, hp, hJ⟩ | ⟨pre, _, p, hp, hJ⟩⟩
    · exact ⟨he, .inl ⟨p, hp, hJ⟩⟩
    · exact ⟨he, .inr ⟨p, trivial, hJ⟩⟩

end Go.Proofs.Ytogcmnagiepofaa
