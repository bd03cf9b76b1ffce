/- A text's lines, one by one: the program's iterator. -/
import Derived.Test.YtlhaepcnhkaclaaDoorX4
import Derived.RangeFuncNested
import Derived.RangeFuncBound
import Derived.RangeFuncCalls
import Derived.RangeFuncLeaves
import Derived.RangeFuncBox
import Derived.RangeFuncFrom
import Derived.Shelf.Abstract
import Derived.WalkKit
import Derived.OwnWalkIn
import Derived.TacticsInMore
import Derived.LoopNIn
import Derived.LoopIn
namespace Go.Proofs.YtlhaepcnhkaclaaDoor
set_option linter.unusedVariables false
set_option linter.unusedSimpArgs false
open Go Go.RowKit Go.Shelf
attribute [local go_sem] Oper.semAt_some

/-- A text's lines: each without its end, and whether it has one. -/
def linesP (l : List Nat) : List (List Nat × Bool) := (splitL 10 l).dropLast.map (fun p => (p, true)) ++ (if (splitL 10 l).getLastD [] = [] then [] else [((splitL 10 l).getLastD [], false)])
theorem linesP_nil : linesP [] = [] := rfl
theorem linesP_no {l : List Nat} (h : ¬ 10 ∈ l) (h0 : l ≠ []) : linesP l = [(l, false)] := by
  unfold linesP
  rw [splitL_no h]
  simp [h0]
theorem linesP_at {p r : List Nat} (h : ¬ 10 ∈ p) : linesP (p ++ 10 :: r) = (p, true) :: linesP r := by
  unfold linesP
  rw [splitL_at r h]
  cases hs : splitL 10 r with
  | nil => exact absurd hs (splitL_pos 10 r)
  | cons q t => simp
/-- What the iterator hands out: a slice, what it holds, and whether its line has an end. -/
abbrev LineAt := (Option Addr × Nat × Nat) × (List Nat × Bool)
def linesA (g : Nat) : Nat → Nat → List (List Nat × Bool) → List LineAt
  | _, _, [] => []
  | o, c, (p, e) :: r => ((some ⟨g, o, none⟩, p.length, if e = true then p.length else c), (p, e)) :: linesA g (o + (p.length + 1)) (c - (p.length + 1)) r
theorem linesA_snd (g : Nat) : ∀ (o c : Nat) (L : List (List Nat × Bool)), (linesA g o c L).map (·.2) = L
  | _, _, [] => rfl
  | o, c, (p, e) :: r => by simp [linesA, linesA_snd g _ _ r]
def encL (x : LineAt) : Array Value := #[.slice x.1.1 x.1.2.1 x.1.2.2, .bool x.2.2]
/-- All blocks but one are as they were; that one holds a slice of bytes. -/
def StepB (Bc : Nat) (A B : World) : Prop := A.grownBy B (some Bc) ∧ ∃ cs fz, B.heap[Bc]? = some (.cells cs 22 fz)
/-- Two blocks of cells are as they were. -/
def KeepB (Bc g : Nat) (W W' : World) : Prop := W.heap.size ≤ W'.heap.size ∧ ∀ k o, (k = Bc ∨ k = g) → W.heap[k]? = some o → o.isCells = true → W'.heap[k]? = some o
theorem KeepB.refl (Bc g : Nat) (W : World) : KeepB Bc g W W := ⟨Nat.le_refl _, fun _ _ _ h _ => h⟩
theorem KeepB.trans {Bc g : Nat} {A B C : World} (h : KeepB Bc g A B) (k : KeepB Bc g B C) : KeepB Bc g A C := ⟨Nat.le_trans h.1 k.1, fun i o hq ho hc => k.2 i o hq (h.2 i o hq ho hc) hc⟩
theorem KeepB.book {Bc g : Nat} (W : World) (l : Nat) (o o' : Obj) (h : W.heap[l]? = some o) (hc : o.isCells = false) : KeepB Bc g W (W.putObj l o') :=
  ⟨by simp, fun k p hq hp hpc => by
    by_cases e : k = l
    · subst e
      rw [h] at hp
      cases hp
      rw [hc] at hpc; cases hpc
    · rw [World.putObj_heap_other e]; exact hp⟩
theorem KeepB.cell {Bc g : Nat} {W W' : World} (h : KeepB Bc g W W') {b j : Nat} {v : Value} (hv : W.cell? ⟨b, j, none⟩ = some v) (hq : b = Bc ∨ b = g) : W'.cell? ⟨b, j, none⟩ = some v := by
  obtain ⟨o, ho, hc⟩ := cells_of_cell hv
  exact (World.cell?_of_block (w := W) (a := ⟨b, j, none⟩) ((h.2 _ o hq ho hc).trans ho.symm)).trans hv
theorem KeepB.sl {Bc g o n c : Nat} {W W' : World} {xs : List Value} (h : KeepB Bc g W W') (hs : Sl W (some ⟨g, o, none⟩) n c xs) : Sl W' (some ⟨g, o, none⟩) n c xs :=
  ⟨hs.1, hs.2.1, hs.2.2.1, fun h0 => by
    obtain ⟨b, off, e, hc⟩ := hs.2.2.2 h0
    cases e
    exact ⟨g, o, rfl, fun i u hu => h.cell (hc i u hu) (.inr rfl)⟩⟩
/-- A block of one cell, not frozen. -/
def Box1 (W : World) (b : Nat) (t : TypeId) (v : Value) : Prop := W.heap[b]? = some (.cells #[v] t (0, 0))
theorem Box1.cell {W : World} {b : Nat} {t : TypeId} {v : Value} (h : Box1 W b t v) : W.cell? ⟨b, 0, none⟩ = some v := by
  unfold Box1 at h
  simp [World.cell?, h]
theorem Box1.free {W : World} {b : Nat} {t : TypeId} {v : Value} (h : Box1 W b t v) : W.frozen? ⟨b, 0, none⟩ = false := by
  unfold Box1 at h
  simp [World.frozen?, h]
theorem Box1.lt {W : World} {b : Nat} {t : TypeId} {v : Value} (h : Box1 W b t v) : b < W.heap.size := (Array.getElem?_eq_some_iff.1 h).1
theorem Box1.set {W : World} {b : Nat} {t : TypeId} {v : Value} (h : Box1 W b t v) (u : Value) : Box1 (W.setCell ⟨b, 0, none⟩ u) b t u := by
  have hlt := h.lt
  unfold Box1 at *
  show (W.heap.modify b _)[b]? = _
  rw [Array.getElem?_eq_getElem (by rw [Array.size_modify]; exact hlt), Array.getElem_modify_self]
  rw [Array.getElem?_eq_getElem hlt, Option.some.injEq] at h
  rw [h]
  rfl
theorem Box1.keep {Bc g : Nat} {W W' : World} {t : TypeId} {v : Value} (h : Box1 W Bc t v) (hk : KeepB Bc g W W') : Box1 W' Bc t v := hk.2 Bc _ (.inl rfl) h rfl
theorem Box1.new {W : World} {t : TypeId} {v : Value} : Box1 (W.alloc (.cells #[v] t)) W.heap.size t v := World.alloc_heap_new W _
theorem Box1.ext {W W' : World} {b : Nat} {t : TypeId} {v : Value} (h : Box1 W b t v) (he : Ext W W') : Box1 W' b t v := (he.block b h.lt).trans h
theorem Box1.but {W W' : World} {b k : Nat} {t : TypeId} {v : Value} (h : Box1 W b t v) (he : But W W' k) (hne : b ≠ k) : Box1 W' b t v := (he.2 b h.lt hne).trans h
/-- What is left of a text in the box. -/
noncomputable def boxN (W : World) (b : Nat) : Nat := match W.cell? ⟨b, 0, none⟩ with
  | some (.slice _ n _) => n
  | _ => 0
theorem boxN_of {W : World} {b n c : Nat} {a : Option Addr} (h : W.cell? ⟨b, 0, none⟩ = some (.slice a n c)) : boxN W b = n := by unfold boxN; rw [h]

set_option maxRecDepth 100000 in
set_option maxHeartbeats 4000000 in
theorem x_lines (ba : Option Addr) (bn bc : Nat) (w : World) (F : Fence) (n : Nat) (h5 : F.fn 15) (hro : F.round = none) :
    CallsIn F n Tryd.prog 15 #[.slice ba bn bc] w fun e w' => e = .returned (.func (.func 27) #[] #[.pointer (some ⟨w.heap.size, 0, none⟩)]) ∧ w' = w.alloc (.cells #[.slice ba bn bc] 22) := by
  have hmf : ∀ (fn : Fn) (first cap : Array Value) (w : World), (Instr.makeFunc fn first cap).run Tryd.prog w = .ok (.func fn first cap) w := fun _ _ _ _ => rfl
  refine callsIn_of_wp Tryd.func15 rfl h5 ?_ hro
  simp only [Tryd.ntmps15, List.size_toArray, List.length_cons, List.length_nil, Nat.reduceAdd, Nat.reduceSub, Array.replicate_succ, Array.replicate_zero, List.push_toArray, List.append_toArray, List.nil_append, List.cons_append]
  gi_wp2
  go_ret
  exact ⟨rfl, rfl⟩

theorem Sl.dropB {w : World} {g o n c k : Nat} {l : List Nat} (h : Sl w (some ⟨g, o, none⟩) n c (ints .u8 l)) (hk : k ≤ n) : Sl w (some ⟨g, o + k, none⟩) (n - k) (c - k) (ints .u8 (l.drop k)) := by
  have hlen := h.int_len
  have h2 := h.2.1
  have h3 := h.2.2.1
  refine ⟨by rw [ints_len, List.length_drop]; omega, by omega, Nat.le_trans (Nat.sub_le _ _) h3, fun h0 => ⟨g, o + k, rfl, fun i u hu => ?_⟩⟩
  obtain ⟨b, off, e, hc⟩ := h.2.2.2 (by omega)
  cases e
  rw [Nat.add_assoc]
  refine hc (k + i) u ?_
  rw [← hu]
  simp [ints, List.getElem?_drop]
theorem Sl.takeB {w : World} {g o n c k m : Nat} {l : List Nat} (h : Sl w (some ⟨g, o, none⟩) n c (ints .u8 l)) (hk : k ≤ n) (hm : k ≤ m) (hm2 : m ≤ c) : Sl w (some ⟨g, o, none⟩) k m (ints .u8 (l.take k)) := by
  have hlen := h.int_len
  refine ⟨by rw [ints_len, List.length_take]; omega, hm, Nat.le_trans hm2 h.2.2.1, fun h0 => ⟨g, o, rfl, fun i u hu => ?_⟩⟩
  obtain ⟨b, off, e, hc⟩ := h.2.2.2 (by omega)
  cases e
  have hi : i < k := by
    have := (List.getElem?_eq_some_iff.1 hu).1
    rw [ints_len, List.length_take] at this
    omega
  refine hc i u ?_
  rw [← hu]
  simp [ints, List.getElem?_take, hi]
theorem Sl.but1 {w u : World} {g o n c k : Nat} {xs : List Value} (h : Sl w (some ⟨g, o, none⟩) n c xs) (hb : But w u k) (hne : g ≠ k) : Sl u (some ⟨g, o, none⟩) n c xs :=
  ⟨h.1, h.2.1, h.2.2.1, fun h0 => by
    obtain ⟨b, off, e, hc⟩ := h.2.2.2 h0
    cases e
    exact ⟨g, o, rfl, fun i u hu => hb.cell (hc i u hu) hne⟩⟩
set_option maxRecDepth 100000 in
set_option maxHeartbeats 8000000 in
theorem x_lines1 (m Bc g o n0 c : Nat) (a : Option Addr) (l : List Nat) (w : World) (hm : 1 ≤ m) (hB : Box1 w Bc 22 (.slice a n0 c)) (ha : 0 < n0 → a = some ⟨g, o, none⟩) (h : Sl w a n0 c (ints .u8 l)) (hl : ∀ x ∈ l, x ≤ 255) (hg : g ≠ Bc) (hn : n0 ≤ 9223372036854775807) :
    SeqL Fence.wide m Tryd.prog 27 #[.pointer (some ⟨Bc, 0, none⟩)] encL (KeepB Bc g) (StepB Bc) (linesA g o c (linesP l)) w := by
  intro lp J Jx W hW hJ hJx hY h0
  generalize hL : linesA g o c (linesP l) = L at *
  have HYS := hidP hY
  have HJ := hidP hJ
  have H0 : Hid ([] ++ linesA g o c (linesP l) = L) := hidP hL
  obtain rfl : n0 = l.length := h.int_len.symm
  have hB0 := hB.ext hW
  have hS0 := h.ext hW
  have HLE0 := hidP hl
  have hn0 := hn
  clear hY hJ hJx hL h hl hB hn
  refine callsIn_of_wp Tryd.func27 rfl trivial ?_ rfl
  simp only [Tryd.ntmps27, List.size_toArray, List.length_cons, List.length_nil, Nat.reduceAdd, Nat.reduceSub, Array.replicate_succ, Array.replicate_zero, List.push_toArray, List.append_toArray, List.nil_append, List.cons_append]
  gi_wp2
  gi_loopw [3] (fun (_ : Value) wr => ∃ (o c : Nat) (ad : Option Addr) (rest : List Nat) (pre : List LineAt), Box1 wr Bc 22 (.slice ad rest.length c) ∧ (0 < rest.length → ad = some ⟨g, o, none⟩) ∧ Sl wr ad rest.length c (ints .u8 rest) ∧ Hid (pre ++ linesA g o c (linesP rest) = L) ∧ Hid (∀ x ∈ rest, x ≤ 255) ∧ J pre wr ∧ rest.length ≤ 9223372036854775807) (fun (_ : Value) wr => boxN wr Bc)
  case atStart => exact ⟨o, c, a, l, [], hB0, ha, hS0, H0, HLE0, h0, hn0⟩
  case round =>
    clear hB0 hS0 H0 HLE0 h0 ha hn0
    obtain ⟨o, c, ad, rest, pre, hbx, had, hs, HP, HLE, hJs, hrn⟩ := hrel
    by_cases hz : rest = []
    · subst hz
      have bc := hbx.cell
      gi_wp2
      go_end0
      have hp := HP.out
      rw [linesP_nil] at hp
      simp only [linesA, List.append_nil] at hp
      subst hp
      exact ⟨⟨_, rfl⟩, .inl hJs⟩
    · have hpos : 0 < rest.length := List.length_pos_iff.2 hz
      have e := had hpos
      subst e
      have hmu := boxN_of hbx.cell
      have HMU := hidP hmu
      have bc := hbx.cell
      have hcap := hs.2.1
      have hcm := hs.2.2.1
      unfold maxLen at hcm
      have hcells := sl_bytes hs
      have hib := Tryd.bytes_IndexByte_at ⟨g, o, none⟩ rest.length c (zsN rest) 10 wr (zsN_len _) (fun i hi => by rw [add_plain]; exact hcells i hi)
      rw [zsN_bytes] at hib
      have hix := index_bytes (v := 10) HLE.out (by omega)
      have e10 : (10 : Int).toNat.toUInt8 = UInt8.ofNat 10 := rfl
      rw [e10] at hib
      clear hcells e10 hmu had
      rcases hix with ⟨h1, h2⟩ | ⟨p, r, hpr, h1, h2⟩
      · rw [h2] at hib
        have hp := HP.out
        rw [linesP_no h1 hz] at hp
        have HIB := hidP hib
        clear hib h2 h1
        have hpos' : (0 : Int) < (rest.length : Int) := by omega
        gi_wp2
        refine ⟨trivial, ?_⟩
        refine (callsIn_wide.2 HIB.out).mono ?_
        rintro e u1 ⟨rfl, rfl⟩
        obtain ⟨fn, tmps, assign, body, hy, hR⟩ := HYS.out pre ((some ⟨g, o, none⟩, rest.length, c), (rest, false)) [] _ (by simpa [linesA] using hp) hJs
        have hy' : (Instr.yield lp #[.slice (some ⟨g, o, none⟩) rest.length c, .bool false]).run Tryd.prog _ = _ := hy
        have HPP : Hid (pre ++ [((some ⟨g, o, none⟩, rest.length, c), (rest, false))] = L) := hidP (by simpa [linesA] using hp)
        clear hp hy
        gi_wp2
        refine hR.mono ?_
        rintro e' W3 (⟨rfl, hJ3, hk3⟩ | ⟨rfl, hJx3⟩)
        · gi_wp2
          refine bodyPost_ret (results_none rfl _ _ _) rfl ?_
          rw [HPP.out] at hJ3
          exact ⟨⟨_, rfl⟩, .inl hJ3⟩
        · gi_wp2
          refine bodyPost_ret (results_none rfl _ _ _) rfl ?_
          exact ⟨⟨_, rfl⟩, .inr ⟨_, hJx3⟩⟩
      · rw [h2] at hib
        have hp := HP.out
        rw [hpr, linesP_at h1] at hp
        simp only [linesA, if_true] at hp
        have hll : rest.length = p.length + (r.length + 1) := by rw [hpr]; simp
        have HLR : Hid (∀ x ∈ r, x ≤ 255) := hidP (fun x hx => HLE.out x (by rw [hpr]; simp [hx]))
        have HDR : Hid (rest.drop (p.length + 1) = r) := hidP (by
          rw [hpr, show p ++ 10 :: r = (p ++ [10]) ++ r by simp, show p.length + 1 = (p ++ [10]).length by simp, List.drop_left])
        have HIB := hidP hib
        have HPR := hidP hpr
        have HLL := hidP hll
        have hk1 : p.length + 1 ≤ rest.length := by omega
        clear hib h2 h1 hpr hz hll
        have hpos' : (0 : Int) < (rest.length : Int) := by omega
        generalize hpl : p.length = k at *
        have HPL := hidP hpl
        clear hpl
        gi_wp2
        refine ⟨trivial, ?_⟩
        refine (callsIn_wide.2 HIB.out).mono ?_
        rintro e u1 ⟨rfl, rfl⟩
        obtain ⟨fn, tmps, assign, body, hy, hR⟩ := HYS.out pre ((some ⟨g, o, none⟩, k, k), (p, true)) (linesA g (o + (k + 1)) (c - (k + 1)) (linesP r)) _ hp hJs
        have hy' : (Instr.yield lp #[.slice (some ⟨g, o, none⟩) k k, .bool true]).run Tryd.prog _ = _ := hy
        have HPP : Hid ((pre ++ [((some ⟨g, o, none⟩, k, k), (p, true))]) ++ linesA g (o + (k + 1)) (c - (k + 1)) (linesP r) = L) := hidP (by rw [List.append_assoc]; exact hp)
        have hk0 : ¬ ((k : Int) < 0) := by omega
        have hkc : k ≤ c := by omega
        clear hp hy
        gi_wp2
        refine hR.mono ?_
        rintro e' W3 (⟨rfl, hJ3, hk3⟩ | ⟨rfl, hJx3⟩)
        · have hbx3 := hbx.keep hk3
          have hs3 := (hk3.sl hs).dropB (k := k + 1) (by omega)
          rw [HDR.out] at hs3
          have bc3 := hbx3.cell
          have fz3 := hbx3.free
          have hkl : k + 1 ≤ rest.length := by omega
          clear bc hbx hs hk3
          have HH3 := hidP hs3
          have HRL : Hid (rest.length - (k + 1) = r.length) := hidP (by have := HLL.out; omega)
          have HRI : Hid ((rest.length : Int) - ((k : Int) + 1) = (r.length : Int)) := hidP (by have := HLL.out; omega)
          clear hs3
          by_cases hcc : c = k + 1
          · have hcc2 : rest.length = k + 1 := by omega
            have hr0 : r.length = 0 := by have := HLL.out; omega
            have hr1 : r = [] := List.length_eq_zero_iff.1 hr0
            subst hr1
            have HP4 : Hid ((pre ++ [((some ⟨g, o, none⟩, k, k), (p, true))]) ++ linesA g o 0 (linesP []) = L) := hidP (by rw [← HPP.out]; rfl)
            have hstep : ∀ v, StepB Bc W3 (W3.setCell ⟨Bc, 0, none⟩ v) := fun v => ⟨grownBy_setCell' W3 Bc v, _, _, hbx3.set v⟩
            gi_wp2
            refine ⟨⟨o, 0, _, [], _, hbx3.set _, fun h => absurd h (by simp), ⟨rfl, Nat.le_refl _, Nat.zero_le _, fun h => absurd h (by simp)⟩, HP4, hidP (by simp), HJ.out _ _ _ hJ3 (hstep _), by simp⟩, ?_⟩
            rw [boxN_of (hbx3.set _).cell, HMU.out]
            exact hpos
          · have hstep : ∀ v, StepB Bc W3 (W3.setCell ⟨Bc, 0, none⟩ v) := fun v => ⟨grownBy_setCell' W3 Bc v, _, _, hbx3.set v⟩
            gi_wp2
            rw [HRL.out]
            have hs4 := HH3.out
            rw [HRL.out] at hs4
            refine ⟨⟨o + (k + 1), c - (k + 1), _, r, _, hbx3.set _, fun _ => rfl, hs4.but1 (But.store (But.refl _ _)) hg, HPP, HLR, HJ.out _ _ _ hJ3 (hstep _), by have := HLL.out; omega⟩, ?_⟩
            rw [boxN_of (hbx3.set _).cell, HMU.out]
            have := HLL.out
            omega
        · gi_wp2
          refine bodyPost_ret (results_none rfl _ _ _) rfl ?_
          exact ⟨⟨_, rfl⟩, .inr ⟨_, hJx3⟩⟩

end Go.Proofs.YtlhaepcnhkaclaaDoor
