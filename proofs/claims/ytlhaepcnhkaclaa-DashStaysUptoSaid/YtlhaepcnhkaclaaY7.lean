/- Dashes: the lengths of a pattern, one by one. -/
import Derived.Test.YtlhaepcnhkaclaaY6
import Derived.Test.YtlhaepcnhkaclaaRG
namespace Go.Proofs.Ytlhaepcnhkaclaa
set_option linter.unusedVariables false
set_option linter.unusedSimpArgs false
open Go Go.RowKit Go.Shelf
attribute [local go_sem] Oper.semAt_some

theorem gb_trans {a b c : World} {row : Option Nat} (h : a.grownBy b row) (k : b.grownBy c row) : a.grownBy c row :=
  ⟨k.os.trans h.os, k.tape.trans h.tape, k.output.trans h.output, Nat.le_trans h.size k.size, fun i hi hn => (k.block i (Nat.lt_of_lt_of_le hi h.size) hn).trans (h.block i hi hn)⟩
theorem gb_ext {a b : World} (h : Ext a b) (row : Option Nat) : a.grownBy b row := ⟨h.os, h.tape, h.output, h.size, fun i hi _ => h.block i hi⟩
/-- All blocks but one are as they were; that one holds an int. -/
def StepZ (B : Nat) (A C : World) : Prop := A.grownBy C (some B) ∧ (∃ v, Box1 A B 3 v) ∧ ∃ v, Box1 C B 3 v
theorem StepZ.trans {B : Nat} {A C D : World} (h : StepZ B A C) (k : StepZ B C D) : StepZ B A D := ⟨gb_trans h.1 k.1, h.2.1, k.2.2⟩
theorem StepZ.ext {B : Nat} {A C D : World} (h : StepZ B A C) (k : Ext C D) : StepZ B A D := ⟨gb_trans h.1 (gb_ext k _), h.2.1, let ⟨v, hv⟩ := h.2.2; ⟨v, hv.ext k⟩⟩
theorem StepZ.of {B : Nat} {A C : World} {v : Value} (h : Box1 A B 3 v) (k : Ext A C) : StepZ B A C := ⟨gb_ext k _, ⟨v, h⟩, v, h.ext k⟩
/-- Some blocks of cells are as they were. -/
def KeepS (S : List Nat) (W W' : World) : Prop := W.heap.size ≤ W'.heap.size ∧ ∀ k o, k ∈ S → W.heap[k]? = some o → o.isCells = true → W'.heap[k]? = some o
theorem KeepS.refl (S : List Nat) (W : World) : KeepS S W W := ⟨Nat.le_refl _, fun _ _ _ h _ => h⟩
theorem KeepS.trans {S : List Nat} {A B C : World} (h : KeepS S A B) (k : KeepS S B C) : KeepS S A C := ⟨Nat.le_trans h.1 k.1, fun i o hq ho hc => k.2 i o hq (h.2 i o hq ho hc) hc⟩
theorem KeepS.book {S : List Nat} (W : World) (l : Nat) (o o' : Obj) (h : W.heap[l]? = some o) (hc : o.isCells = false) : KeepS S W (W.putObj l o') :=
  ⟨by simp, fun k p hq hp hpc => by
    by_cases e : k = l
    · subst e
      rw [h] at hp
      cases hp
      rw [hc] at hpc; cases hpc
    · rw [World.putObj_heap_other e]; exact hp⟩
theorem KeepS.box {S : List Nat} {W W' : World} (h : KeepS S W W') {b : Nat} {t : TypeId} {v : Value} (hb : Box1 W b t v) (hS : b ∈ S) : Box1 W' b t v := h.2 b _ hS hb rfl
theorem KeepS.cell {S : List Nat} {W W' : World} (h : KeepS S W W') {b j : Nat} {v : Value} (hv : W.cell? ⟨b, j, none⟩ = some v) (hq : b ∈ S) : W'.cell? ⟨b, j, none⟩ = some v := by
  obtain ⟨o, ho, hc⟩ := cells_of_cell hv
  exact (World.cell?_of_block (w := W) (a := ⟨b, j, none⟩) ((h.2 _ o hq ho hc).trans ho.symm)).trans hv
theorem KeepS.sl {S : List Nat} {g o n c : Nat} {W W' : World} {xs : List Value} (h : KeepS S W W') (hs : Sl W (some ⟨g, o, none⟩) n c xs) (hg : g ∈ S) : Sl W' (some ⟨g, o, none⟩) n c xs :=
  ⟨hs.1, hs.2.1, hs.2.2.1, fun h0 => by
    obtain ⟨b, off, e, hc⟩ := hs.2.2.2 h0
    cases e
    exact ⟨g, o, rfl, fun i u hu => h.cell (hc i u hu) hg⟩⟩
theorem sl_grown {g o n c : Nat} {row : Option Nat} {W W' : World} {xs : List Value} (hs : Sl W (some ⟨g, o, none⟩) n c xs) (h : W.grownBy W' row) (hne : some g ≠ row) : Sl W' (some ⟨g, o, none⟩) n c xs :=
  ⟨hs.1, hs.2.1, hs.2.2.1, fun h0 => by
    obtain ⟨b, off, e, hc⟩ := hs.2.2.2 h0
    cases e
    exact ⟨g, o, rfl, fun i u hu => by
      have hv := hc i u hu
      exact (World.cell?_of_block (w := W) (a := ⟨g, o + i, none⟩) (h.block g (World.block_lt_of_cell? _ _ hv) hne)).trans hv⟩⟩
noncomputable def boxI (W : World) (b : Nat) : Nat := match W.cell? ⟨b, 0, none⟩ with
  | some (.int _ z) => z.toNat
  | _ => 0
theorem boxI_of {W : World} {b : Nat} {z : Int} {k : IntKind} (h : W.cell? ⟨b, 0, none⟩ = some (.int k z)) : boxI W b = z.toNat := by unfold boxI; rw [h]

/-- What a call writes: one box alone. -/
def RetNext (w : World) (B k : Nat) (x : Int) (e : Ending) (w' : World) : Prop := e = .returned (.int .i64 x) ∧ Box1 w' B 3 (.int .i64 ((k + 1 : Nat) : Int)) ∧ w.grownBy w' (some B)
theorem pat_at {pat : List Int} {k : Nat} (h : 0 < pat.length) : patAt pat k = pat[k % pat.length]'(Nat.mod_lt _ h) := by
  unfold patAt
  rw [List.getD_eq_getElem?_getD, List.getElem?_eq_getElem (Nat.mod_lt _ h)]
  rfl
theorem pat_bd {pat : List Int} {k : Nat} (h : 0 < pat.length) (hp : ∀ x ∈ pat, 1 ≤ x ∧ x ≤ 8388607) : 1 ≤ patAt pat k ∧ patAt pat k ≤ 8388607 := by
  rw [pat_at h]
  exact hp _ (List.getElem_mem _)
set_option maxRecDepth 100000 in
set_option maxHeartbeats 4000000 in
theorem dd_next (B2 B5 g off n c k : Nat) (pat : List Int) (w : World) (h2 : Box1 w B2 25 (.slice (some ⟨g, off, none⟩) n c)) (h5 : Box1 w B5 3 (.int .i64 (k : Int))) (hs : Sl w (some ⟨g, off, none⟩) n c (izs pat)) (hn : 0 < n) (hk : k ≤ 4611686018427387904) :
    Calls Try.prog 55 #[.pointer (some ⟨B2, 0, none⟩), .pointer (some ⟨B5, 0, none⟩)] w (RetNext w B5 k (patAt pat k)) := by
  have HL := hidP hs.z_len
  have hcap : n ≤ maxLen := Nat.le_trans hs.2.1 hs.2.2.1
  unfold maxLen at hcap
  obtain ⟨b, o, e, hc⟩ := hs.z_at hn
  cases e
  have hm : k % n < n := Nat.mod_lt _ hn
  have h1 := hc (k % n) (by rw [HL.out]; exact hm)
  have hp : patAt pat k = pat[k % n]'(by rw [HL.out]; exact hm) := by
    rw [pat_at (by rw [HL.out]; exact hn)]
    congr 1
    rw [HL.out]
  rw [← hp] at h1
  have htm : ((k : Int)).tmod (n : Int) = ((k % n : Nat) : Int) := by
    rw [Int.tmod_eq_emod_of_nonneg (by omega)]; simp
  have HTM := hidP htm
  have H5 := hidP h5
  have c2 := h2.cell
  have c5 := h5.cell
  have f5 := h5.free
  have l5 := h5.lt
  clear hc hp htm hs h2 h5
  generalize patAt pat k = x at *
  generalize k % n = m at *
  have hnz : ¬ n = 0 := by omega
  go_enter Try.func55, Try.ntmps55
  go_wp2_with fail
  refine wp_region_plan (R := Ext) (.q 0 (.q 1 (.q 2 (.q 3 (.q 4 (.q 5 (.q 6 (.q 7 .done)))))))) (by kernel_rfl) (by kernel_rfl) (by kernel_rfl) (by kernel_rfl) Ext.refl (fun _ _ _ => Ext.trans) ?_
  refine absE (fun x2 hx2 => ?_)
  have hx : Ext w x2 := by rw [hx2]; exact (Ext.refl _).drew
  replace c2 := hx.cell' c2
  replace c5 := hx.cell' c5
  replace h1 := hx.cell' h1
  have g5 := H5.out.ext hx
  replace f5 := g5.free
  clear hx2
  repeat (refine wpE_q (v := ?_) rfl rfl (fun u hu => ?_) ?_; rotate_left 1; (focus (have k2 := hu.cell' c2; have k5 := hu.cell' c5; have k1 := hu.cell' h1; have tq := HTM.out; go_simp; (try rfl))); simp only [Act.put, List.setIfInBounds_toArray, List.set_cons_zero, List.set_cons_succ])
  refine wpE_done ?_
  go_wp2_with fail
  go_ret
  exact ⟨rfl, g5.set _, gb_trans (gb_ext hx _) (grownBy_setCell' _ _ _)⟩

/-- What the iterator hands out. -/
def encS (x : Span) : Array Value := #[.agg #[.int .i64 x.1.1, .int .i64 x.1.2], .bool x.2]
set_option maxRecDepth 100000 in
set_option maxHeartbeats 8000000 in
theorem dd_iter (m B2 B3 B5 B6 g off n c : Nat) (pat : List Int) (ph : Int) (w : World) (hm : 1 ≤ m) (h2 : Box1 w B2 25 (.slice (some ⟨g, off, none⟩) n c)) (h3 : Box1 w B3 3 (.int .i64 ph)) (h5 : Box1 w B5 3 (.int .i64 0))
    (h6 : Box1 w B6 109 (.func (.func 55) #[] #[.pointer (some ⟨B2, 0, none⟩), .pointer (some ⟨B5, 0, none⟩)])) (hs : Sl w (some ⟨g, off, none⟩) n c (izs pat)) (hn : 0 < n) (hn8 : n ≤ 8) (hp : ∀ x ∈ pat, 1 ≤ x ∧ x ≤ 8388607)
    (n25 : B2 ≠ B5) (n56 : B6 ≠ B5) (ng5 : g ≠ B5) (hp0 : 0 ≤ ph) (hp1 : ph ≤ 8388607) :
    SeqN Fence.wide m Try.prog 56 #[.pointer (some ⟨B3, 0, none⟩), .pointer (some ⟨B2, 0, none⟩), .pointer (some ⟨B6, 0, none⟩), .pointer (some ⟨B5, 0, none⟩)] encS (KeepS [B2, B5, B6, g]) (StepZ B5) (spansF pat 2000 0 (-(ph.tmod (totD pat)))) w := by
  intro lp J Jx W hW hJ hJx hY hNo h0
  have hpl : pat.length = n := hs.z_len
  have HBD : Hid (∀ k, 1 ≤ patAt pat k ∧ patAt pat k ≤ 8388607) := hidP (fun k => pat_bd (by omega) hp)
  have hsb := sumZ_bd hp
  have htot : 1 ≤ totD pat ∧ totD pat ≤ 134217712 := by
    unfold totD
    split <;> omega
  have HT := hidP (fun u (q : Sl u (some ⟨g, off, none⟩) n c (izs pat)) => dd_Total (some ⟨g, off, none⟩) n c pat u q hn8 hp)
  have htm : 0 ≤ ph.tmod (totD pat) ∧ ph.tmod (totD pat) ≤ 8388607 := by
    rw [Int.tmod_eq_emod_of_nonneg hp0]
    have h1 := Int.emod_nonneg ph (show totD pat ≠ 0 by omega)
    have h2 := Int.emod_lt_of_pos ph (show 0 < totD pat by omega)
    rcases Int.lt_or_le ph (totD pat) with h3 | h3
    · rw [Int.emod_eq_of_lt hp0 h3]; omega
    · omega
  generalize hL : spansF pat 2000 0 (-(ph.tmod (totD pat))) = L at *
  have H0 : Hid ([] ++ spansF pat (2000 - 0) 0 (-(ph.tmod (totD pat))) = L) := hidP hL
  generalize htd : ph.tmod (totD pat) = s0 at *
  have HTD := hidP htd
  have htz : ¬ totD pat = 0 := by omega
  obtain ⟨ht1, ht2⟩ := htot
  generalize totD pat = tot at *
  obtain ⟨hs0, hs1⟩ := htm
  have HWS := hidP (IntWalk.i64_in (-s0) (by omega))
  have HYS := hidP hY; have HJ := hidP hJ; have HNO := hidP hNo
  have HN := hidP (fun (k : Nat) (hk : k ≤ 2000) u (q2 : Box1 u B2 25 (.slice (some ⟨g, off, none⟩) n c)) (q5 : Box1 u B5 3 (.int .i64 (k : Int))) (qs : Sl u (some ⟨g, off, none⟩) n c (izs pat)) => dd_next B2 B5 g off n c k pat u q2 q5 qs hn (by omega))
  have b2 := h2.ext hW; have b3 := h3.ext hW; have b5 := h5.ext hW; have b6 := h6.ext hW
  have hsl := hs.ext hW
  have cf := cf_enters Try.func55 (by kernel_rfl) (by kernel_rfl)
  clear hY hJ hJx hNo hL htd h2 h3 h5 h6 hs hsb hp hpl
  have c2 := b2.cell; have c3 := b3.cell
  refine callsIn_of_wp Try.func56 rfl trivial ?_ rfl
  simp only [Try.ntmps56, List.size_toArray, List.length_cons, List.length_nil, Nat.reduceAdd, Nat.reduceSub, Array.replicate_succ, Array.replicate_zero, List.push_toArray, List.append_toArray, List.nil_append, List.cons_append]
  gi_wp2
  refine wpIn_wide.2 ?_
  refine wp_region_plan (R := Ext) (.q 0 (.q 1 (.l 2 (.q 3 (.q 4 (.q 5 .done)))))) (by kernel_rfl) (by kernel_rfl) (by kernel_rfl) (by kernel_rfl) Ext.refl (fun _ _ _ => Ext.trans) ?_
  refine absE (fun x1 hx1 => ?_)
  have hx : Ext W x1 := by rw [hx1]; exact (Ext.refl _).drew
  replace c2 := hx.cell' c2
  replace c3 := hx.cell' c3
  have hJ0 := HJ.out _ _ _ h0 (StepZ.of b5 hx)
  replace b2 := b2.ext hx; replace b5 := b5.ext hx; replace b6 := b6.ext hx
  replace hsl := hsl.ext hx
  clear hx hx1 h0
  repeat (refine wpE_q (v := ?_) rfl rfl (fun u hu => ?_) ?_; rotate_left 1; (focus (have k2 := hu.cell' c2; have k3 := hu.cell' c3; go_simp; (try rfl))); simp only [Act.put, List.setIfInBounds_toArray, List.set_cons_zero, List.set_cons_succ])
  refine wpE_l rfl rfl (fun K hK => ?_)
  go_simp
  refine (HT.out _ hsl).mono ?_
  rintro e u1 ⟨rfl, rfl⟩
  refine hK.out _ _ (Ext.refl _) ?_
  clear hK K
  try simp only [Act.put, List.setIfInBounds_toArray, List.set_cons_zero, List.set_cons_succ]
  repeat (refine wpE_q (v := ?_) rfl rfl (fun u hu => ?_) ?_; rotate_left 1; (focus (have k2 := hu.cell' c2; have k3 := hu.cell' c3; have td := HTD.out; have wq := HWS.out; go_simp; (try rfl))); simp only [Act.put, List.setIfInBounds_toArray, List.set_cons_zero, List.set_cons_succ])
  refine wpE_done ?_
  gi_wp2
  gi_loopw [6] (fun atv wr => ∃ (k : Nat) (s : Int) (pre : List Span), atv = .int .i64 s ∧ Box1 wr B2 25 (.slice (some ⟨g, off, none⟩) n c) ∧ Box1 wr B5 3 (.int .i64 (k : Int)) ∧ Box1 wr B6 109 (.func (.func 55) #[] #[.pointer (some ⟨B2, 0, none⟩), .pointer (some ⟨B5, 0, none⟩)]) ∧ Sl wr (some ⟨g, off, none⟩) n c (izs pat) ∧ Hid (pre ++ spansF pat (2000 - k) k s = L) ∧ J pre wr ∧ k ≤ 2000 ∧ -8388607 ≤ s ∧ s ≤ 8388607 * (k : Int)) (fun (_ : Value) wr => 2000 - boxI wr B5)
  case atStart => exact ⟨0, -s0, [], rfl, b2, b5, b6, hsl, H0, hJ0, by omega, by omega, by omega⟩
  case round =>
    clear b2 b5 b6 hsl H0 hJ0 c2 c3 b3
    obtain ⟨k, s, pre, rfl, b2, b5, b6, hsl, HP, hJs, hk, s1, s2⟩ := hrel
    by_cases hk2 : k = 2000
    · exfalso
      have hp := HP.out
      rw [hk2, show 2000 - 2000 = 0 from rfl] at hp
      simp only [spansF, List.append_nil] at hp
      rw [hp] at hJs
      exact HNO.out _ hJs
    · obtain ⟨x1', x2'⟩ := HBD.out k
      have hp := HP.out
      rw [show 2000 - k = (2000 - (k + 1)) + 1 by omega] at hp
      unfold spansF at hp
      have hnx := HN.out k hk
      have hmu := boxI_of b5.cell
      rw [Int.toNat_natCast] at hmu
      have HMU := hidP hmu
      generalize patAt pat k = x at *
      have HNX := hidP hnx
      clear hnx hmu HP
      have c6 := b6.cell
      gi_wp2
      refine ⟨trivial, ?_⟩
      refine (callsIn_wide.2 (HNX.out _ b2 b5 hsl)).mono ?_
      rintro e u2 ⟨rfl, b5', hg⟩
      replace b2 := b2.grown hg (some_ne n25)
      replace b6 := b6.grown hg (some_ne n56)
      replace hsl := sl_grown hsl hg (some_ne ng5)
      have hstep : StepZ B5 _ u2 := ⟨hg, ⟨_, b5⟩, _, b5'⟩
      replace hJs := HJ.out _ _ _ hJs hstep
      clear b5 c6 hg hstep
      have hal : Ext u2 (u2.alloc (.cells #[.int .i64 s, .int .i64 (s + x)] 70)) := (Ext.refl _).alloc _
      have hJ1 := HJ.out _ _ _ hJs (StepZ.of b5' hal)
      have a2 := b2.ext hal; have a5 := b5'.ext hal; have a6 := b6.ext hal
      have asl := hsl.ext hal
      have HMU2 : Hid (∀ V, Box1 V B5 3 (.int .i64 ((k + 1 : Nat) : Int)) → 2000 - boxI V B5 < 2000 - boxI wr B5) := hidP (fun V hV => by
        have h1 := boxI_of hV.cell
        rw [Int.toNat_natCast] at h1
        rw [h1, HMU.out]
        omega)
      by_cases hsx : 0 < s + x
      · rw [if_pos hsx] at hp
        obtain ⟨fn, tmps, assign, body, hy, hR⟩ := HYS.out pre ((s, s + x), decide (k % 2 = 0)) (spansF pat (2000 - (k + 1)) (k + 1) (s + x)) _ hp hJ1
        have hy' : (Instr.yield lp #[.agg #[.int .i64 s, .int .i64 (s + x)], .bool (decide (k % 2 = 0))]).run Try.prog (u2.alloc (.cells #[.int .i64 s, .int .i64 (s + x)] 70)) = _ := hy
        have HPP : Hid ((pre ++ [((s, s + x), decide (k % 2 = 0))]) ++ spansF pat (2000 - (k + 1)) (k + 1) (s + x) = L) := hidP (by rw [List.append_assoc]; exact hp)
        have c5 := a5.cell
        have e5 : (((k + 1 : Nat) : Int)) = (k : Int) + 1 := by omega
        rw [e5] at c5
        have A2 := hidP a2; have A5 := hidP a5; have A6 := hidP a6; have ASL := hidP asl; have HR := hidP hR
        clear hp hy hJs hJ1 a2 a5 a6 asl b2 b6 hsl b5' e5 hR
        have hsx2 : 0 < s + x := hsx
        rcases (by omega : k % 2 = 0 ∨ k % 2 = 1) with hk3 | hk3
        · have htk : ((k : Int) + 1).tmod 2 = 1 := by
            rw [Int.tmod_eq_emod_of_nonneg (by omega)]; omega
          rw [decide_eq_true hk3] at hy' HPP HR
          gi_wp2
          refine HR.out.mono ?_
          rintro e' W3 (⟨rfl, hJ3, hk4⟩ | ⟨rfl, hJx3⟩)
          · gi_wp2
            have z5 := hk4.box A5.out (by simp)
            exact ⟨⟨k + 1, s + x, _, by go_num, hk4.box A2.out (by simp), z5, hk4.box A6.out (by simp), hk4.sl ASL.out (by simp), HPP, hJ3, by omega, by omega, by omega⟩, HMU2.out _ z5⟩
          · gi_wp2
            refine bodyPost_ret (results_none rfl _ _ _) rfl ?_
            exact ⟨⟨_, rfl⟩, _, hJx3⟩
        · have htk : ((k : Int) + 1).tmod 2 = 0 := by
            rw [Int.tmod_eq_emod_of_nonneg (by omega)]; omega
          rw [decide_eq_false (by omega : ¬ k % 2 = 0)] at hy' HPP HR
          gi_wp2
          refine HR.out.mono ?_
          rintro e' W3 (⟨rfl, hJ3, hk4⟩ | ⟨rfl, hJx3⟩)
          · gi_wp2
            have z5 := hk4.box A5.out (by simp)
            exact ⟨⟨k + 1, s + x, _, by go_num, hk4.box A2.out (by simp), z5, hk4.box A6.out (by simp), hk4.sl ASL.out (by simp), HPP, hJ3, by omega, by omega, by omega⟩, HMU2.out _ z5⟩
          · gi_wp2
            refine bodyPost_ret (results_none rfl _ _ _) rfl ?_
            exact ⟨⟨_, rfl⟩, _, hJx3⟩
      · rw [if_neg hsx] at hp
        have HP2 := hidP hp
        have A2 := hidP a2; have A5 := hidP a5; have A6 := hidP a6; have ASL := hidP asl
        clear hp hJs a2 a5 a6 asl b2 b6 hsl b5'
        gi_wp2
        refine ⟨fun _ h => (by cases h), ?_⟩
        gi_wp2
        exact ⟨⟨k + 1, s + x, pre, by go_num, A2.out, A5.out, A6.out, ASL.out, HP2, hJ1, by omega, by omega, by omega⟩, HMU2.out _ A5.out⟩

end Go.Proofs.Ytlhaepcnhkaclaa
