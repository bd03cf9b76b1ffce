/- Sets of cells: what is near in its row. -/
import Derived.Test.YtogcmnagiepofaaS8
namespace Go.Proofs.Ytogcmnagiepofaa
set_option linter.unusedVariables false
set_option linter.unusedSimpArgs false
open Go Go.RowKit Go.Shelf
attribute [local go_sem] Oper.semAt_some

theorem absCI {F : Fence} {n : Nat} {P : Program} {f : FuncId} {args : Array Value} {w : World} {R : Ending → World → Prop} (h : ∀ u, u = w → CallsIn F n P f args u R) : CallsIn F n P f args w R := h w rfl
theorem absWI {F : Fence} {n : Nat} {P : Program} {c : Code} {Q : Exit → Act → World → Prop} {a : Act} {w : World} (h : ∀ u, u = w → c.wpIn F n P Q a u) : c.wpIn F n P Q a w := h w rfl
/-- A block of the call's own reads so, from its start on. -/
def HoldC (W : World) (g : Nat) (vs : List Value) : Prop := ∀ j v, vs[j]? = some v → W.cell? ⟨g, j, none⟩ = some v ∧ W.frozen? ⟨g, j, none⟩ = false
theorem HoldC.of {W : World} {g : Nat} {cs : Array Value} (h : Bl W g cs) (hf : Fz W g) : HoldC W g cs.toList := fun j v hv => ⟨by rw [h j, ← hv]; simp, hf j⟩
theorem HoldC.kept {W W' : World} {row : Option Nat} {g : Nat} {vs : List Value} (h : HoldC W g vs) (hg : W.grownBy W' row) (hrow : ∀ r, row = some r → ∃ o : Obj, W.heap[r]? = some o ∧ o.isCells = false) : HoldC W' g vs :=
  fun j v hv => ⟨cell_kept (h j v hv).1 hg hrow, (frozen_kept (h j v hv).1 hg hrow).trans (h j v hv).2⟩
theorem HoldC.lt {W : World} {g : Nat} {v : Value} {vs : List Value} (h : HoldC W g (v :: vs)) : g < W.heap.size := cell_lt (h 0 v rfl).1
theorem HoldC.ext {W W' : World} {g : Nat} {vs : List Value} (h : HoldC W g vs) (he : Ext W W') : HoldC W' g vs := fun j v hv => by
  have h1 := (h j v hv).1
  exact ⟨he.cell' h1, (World.frozen?_of_block (w := W) (a := ⟨g, j, none⟩) (he.block g (cell_lt h1))).trans (h j v hv).2⟩
theorem HoldC.but {W W' : World} {g k : Nat} {vs : List Value} (h : HoldC W g vs) (hb : But W W' k) (hne : g ≠ k) : HoldC W' g vs := fun j v hv => by
  have h1 := (h j v hv).1
  exact ⟨hb.cell h1 hne, (World.frozen?_of_block (w := W) (a := ⟨g, j, none⟩) (hb.2 g (cell_lt h1) hne)).trans (h j v hv).2⟩
theorem HoldC.set {W : World} {g : Nat} {vs : List Value} (h : HoldC W g vs) (i : Nat) (v : Value) : HoldC (W.setCell ⟨g, i, none⟩ v) g (vs.set i v) := fun j u hu => by
  have hj : j < vs.length := by
    have := (List.getElem?_eq_some_iff.1 hu).1
    simpa using this
  have h0 := h j vs[j] (List.getElem?_eq_getElem hj)
  refine ⟨?_, by rw [World.frozen?_setCell]; exact h0.2⟩
  by_cases e : i = j
  · subst e
    rw [List.getElem?_set_self hj] at hu
    cases hu
    exact World.cell?_setCell_same' _ _ _ (by rw [h0.1]; rfl)
  · rw [List.getElem?_set_ne e] at hu
    rw [World.cell?_setCell_other _ _ _ _ (by intro h; cases h; exact e rfl)]
    exact (h j u hu).1
theorem HoldC.row {W : World} {g : Nat} {vs : List Value} {n c : Nat} (h : HoldC W g vs) (hn : vs.length = n) (hc : n ≤ c) (hm : c ≤ maxLen) : SlK 1 W (some ⟨g, 0, none⟩) n c vs :=
  ⟨by omega, hc, hm, fun _ => ⟨g, 0, rfl, fun i u hu => by rw [Nat.zero_add]; exact (h i u hu).1⟩⟩
theorem HoldC.of_row {W : World} {B e g n c : Nat} {xs : List Value} (h : W.ownsRow B e 1 (.slice (some ⟨g, 0, none⟩) n c) n xs) : HoldC W g xs := fun j v hv => by
  have hj := (List.getElem?_eq_some_iff.1 hv).1
  have hl := h.1
  exact ⟨(World.ownsRow.cellAt (w := W) h j (by omega)).trans hv, World.ownsRow.frozenAt (w := W) h j⟩

theorem results_cells {P : Program} {fn : Func} {tmps : Array Value} {w : World} {p : Tmp} {ty : TypeId} {d : TypeDesc} {g : Nat} {cs : Array Value} (h : fn.results = #[.cell p ty])
    (hp : tmps.getD p undef = .pointer (some ⟨g, 0, none⟩)) (hu : P.underlying ty = some d) (hd : (match d with | .struct _ | .array _ _ => true | _ => false) = true) (hi : (P.info? ty).map (·.size) = some cs.size)
    (hg : ∀ j v, cs.toList[j]? = some v → w.cell? ⟨g, j, none⟩ = some v) : (results fn tmps).run P w = .ok (.agg cs) w := by
  have hp' : tmps[p]?.getD undef = .pointer (some ⟨g, 0, none⟩) := by simpa using hp
  simp [results, h, hp', asAddr, run_loadVar_cells w g ty cs d hg hu hd hi]
/-- Runs, each with k places more on both sides. -/
def fillW (k X : Nat) (D : List Bool) (l : List Run3) : List Bool := l.foldl (fun D r => fillR D (r.1 * X + (r.2.1 - k)) (min (r.2.2 + k) X - (r.2.1 - k))) D
theorem fillW_len (k X : Nat) : ∀ (l : List Run3) (D : List Bool), (fillW k X D l).length = D.length
  | [], _ => rfl
  | r :: l, D => by
    show (fillW k X (fillR D (r.1 * X + (r.2.1 - k)) (min (r.2.2 + k) X - (r.2.1 - k))) l).length = _
    rw [fillW_len k X l, fillR_len]
theorem fillW_snoc (k X : Nat) (D : List Bool) (l : List Run3) (r : Run3) : fillW k X D (l ++ [r]) = fillR (fillW k X D l) (r.1 * X + (r.2.1 - k)) (min (r.2.2 + k) X - (r.2.1 - k)) := by
  unfold fillW
  rw [List.foldl_append]
  rfl
theorem bools_set (D : List Bool) (i : Nat) (v : Bool) : (bools D).set i (.bool v) = bools (D.set i v) := by simp [bools, List.map_set]

set_option maxRecDepth 100000 in
set_option maxHeartbeats 8000000 in
theorem c_wide (X Y k : Nat) (a : Option Addr) (n c : Nat) (l : List Bool) (w : World) (h : SlB w a n c l) (hX1 : 1 ≤ X) (hX2 : X ≤ 64) (hY1 : 1 ≤ Y) (hY2 : Y ≤ 64) (hn : n = Y * X) (hk : k ≤ 8) :
    Calls Try.prog 105 #[rst X Y a n c, .int .i64 (k : Int)] w (RetB w ((X : Int), (Y : Int), fillW k X (List.replicate (Y * X) false) (rowsR l X Y 0))) := by
  rw [← hn]
  obtain ⟨hm1, hm2⟩ := mul_box (x := (X : Int)) (y := (Y : Int)) (by omega) (by omega) (by omega) (by omega)
  have hNi : (X : Int) * (Y : Int) = (n : Int) := by rw [hn]; simp [Int.mul_comm]
  rw [hNi] at hm1 hm2
  have hn0 : 0 < n := by omega
  obtain ⟨b, off, rfl, hcell⟩ := h.at hn0
  have hb0 : b < w.heap.size := cell_lt (hcell 0 (by rw [h.len]; exact hn0))
  have HN := hidP (fun u => c_New X Y u)
  have hNB : newB (X : Int) (Y : Int) = ((X : Int), (Y : Int), List.replicate n false) := by
    unfold newB
    rw [if_pos (by omega), hNi, Int.toNat_natCast]
  rw [hNB] at HN
  have HST := hidP (fun (u : World) (Bc : Nat) (kq : Nat → Prop) (h1 : kq Bc) (h2 : kq b) (hB : Bl u Bc #[.int .i64 (X : Int), .int .i64 (Y : Int), .slice (some ⟨b, off, none⟩) n c]) (hE : Ext w u) =>
    c_runs_stops Fence.wide (8 - 1) trivial rfl (by omega) Bc b off n c X Y l kq h1 h2 hX1 hX2 hY2 hn h.2.1 h.len u hB (fun j hj => hE.cell' (hcell j hj)))
  have HNN := hidP hn
  have hn4 : n ≤ 4096 := by omega
  clear hcell hNB hNi hn h
  generalize hD0 : List.replicate n false = D0 at *
  have HD0 : Hid (D0.length = n) := hidP (by rw [← hD0, List.length_replicate])
  have HFL := hidP (fun pre => (fillW_len k X pre D0).trans HD0.out)
  clear hD0
  generalize rowsR l X Y 0 = L at *
  refine (callsIn_wide (n := 8)).1 ?_
  refine callsIn_of_wp_marks Try.func105 rfl trivial ?_ rfl
  simp only [Try.ntmps105, List.size_toArray, List.length_cons, List.length_nil, Nat.reduceAdd, Nat.reduceSub, Array.replicate_succ, Array.replicate_zero, List.push_toArray, List.append_toArray, List.nil_append, List.cons_append]
  gi_wp2
  refine ⟨trivial, ?_⟩
  refine absCI (fun x1 hx1 => ?_)
  have hx : Ext w x1 := by rw [hx1]; exact (((Ext.refl _).alloc _).alloc _).alloc _
  have bp : HoldC x1 w.heap.size [.int .i64 (X : Int), .int .i64 (Y : Int), .slice (some ⟨b, off, none⟩) n c] := by
    rw [hx1]
    exact ((HoldC.of (Bl.new rfl) (Fz.new rfl)).ext ((Ext.refl _).alloc _)).ext ((Ext.refl _).alloc _)
  have bk : HoldC x1 (w.heap.size + 1) [.int .i64 (k : Int)] := by
    rw [hx1]
    exact (HoldC.of (Bl.new (by simp)) (Fz.new (by simp))).ext ((Ext.refl _).alloc _)
  have bs : HoldC x1 (w.heap.size + 1 + 1) [.int .i64 0, .int .i64 0, .slice none 0 0] := by
    rw [hx1]
    exact HoldC.of (Bl.new (by simp)) (Fz.new (by simp))
  have HE := hx
  clear hx hx1
  refine (callsIn_wide.2 (HN.out _)).mono ?_
  rintro e u3 ⟨a3, n3, c3, rfl, hs3, hown, hx⟩
  obtain rfl : n3 = n := by have := hs3.len; rw [HD0.out] at this; omega
  have ls2 := bs.lt
  obtain ⟨g3, rfl, hg3⟩ := RowB.open hown hn0
  have hg3u := (hown.lt g3 rfl).2
  have hrow := HoldC.of_row hown
  have hcap := hs3.2
  clear hs3 hown
  replace bp := bp.ext hx; replace bk := bk.ext hx; replace bs := bs.ext hx
  replace HE := HE.trans hx
  clear hx
  have bp0 := fun o => ((bp.ext ((Ext.refl _).alloc o)) 0 _ rfl).1; have bp1 := fun o => ((bp.ext ((Ext.refl _).alloc o)) 1 _ rfl).1; have bp2 := fun o => ((bp.ext ((Ext.refl _).alloc o)) 2 _ rfl).1
  gi_wp2
  refine ⟨trivial, ?_⟩
  refine absCI (fun x2 hx2 => ?_)
  have hx : Ext u3 x2 := by rw [hx2]; exact (Ext.refl _).alloc _
  have bt : HoldC x2 u3.heap.size [.int .i64 (X : Int), .int .i64 (Y : Int), .slice (some ⟨g3, 0, none⟩) n3 c3] := by
    rw [hx2]
    exact HoldC.of (Bl.new rfl) (Fz.new rfl)
  clear hx2 bp0 bp1 bp2
  replace bp := bp.ext hx; replace bk := bk.ext hx; replace bs := bs.ext hx; replace hrow := hrow.ext hx
  replace HE := HE.trans hx
  have lt2 := bt.lt
  clear hx
  generalize u3.heap.size = ga at *
  refine (c_runs Fence.wide 7 trivial rfl X Y (some ⟨b, off, none⟩) n3 c x2).mono ?_
  rintro e u4 ⟨rfl, hu4⟩
  have hx : Ext x2 u4 := by rw [hu4]; exact (Ext.refl _).alloc _
  have br : Bl u4 x2.heap.size #[.int .i64 (X : Int), .int .i64 (Y : Int), .slice (some ⟨b, off, none⟩) n3 c] := by rw [hu4]; exact Bl.new rfl
  have fr : Fz u4 x2.heap.size := by rw [hu4]; exact Fz.new rfl
  have hsz : x2.heap.size < u4.heap.size := br.lt (Nat.succ_pos _)
  clear hu4
  replace bp := bp.ext hx; replace bk := bk.ext hx; replace bs := bs.ext hx; replace hrow := hrow.ext hx; replace bt := bt.ext hx
  replace HE := HE.trans hx
  clear hx
  generalize x2.heap.size = Bc at *
  gi_wp2
  have brr : HoldC u4 Bc [.int .i64 (X : Int), .int .i64 (Y : Int), .slice (some ⟨b, off, none⟩) n3 c] := HoldC.of br fr
  have HI0 : Hid (fillW k X D0 (([] : List (RunIn X Y)).map Subtype.val) = D0) := hidP rfl
  refine wpIn_rangeFunc_ownH rfl (by omega) (gf := 134) (lb := #[.pointer (some ⟨Bc, 0, none⟩)]) rfl trivial (enters_of Try.func134 (by kernel_rfl) rfl)
    (HST.out u4 Bc (fun b' => b' ≠ g3) (by show Bc ≠ g3; omega) (by show b ≠ g3; omega) br HE) Keep.trans (fun W l o o' _ h hc _ => Keep.book W l o o' h hc) (Below.refl _ _) (fun _ => rfl)
    (fun pre W => (HoldC W g3 (bools (fillW k X D0 (pre.map Subtype.val))) ∧ HoldC W ga [.int .i64 (X : Int), .int .i64 (Y : Int), .slice (some ⟨g3, 0, none⟩) n3 c3] ∧ HoldC W w.heap.size [.int .i64 (X : Int), .int .i64 (Y : Int), .slice (some ⟨b, off, none⟩) n3 c] ∧ HoldC W (w.heap.size + 1) [.int .i64 (k : Int)] ∧ HoldC W (w.heap.size + 1 + 1) [.int .i64 0, .int .i64 0, .slice none 0 0] ∧ HoldC W Bc [.int .i64 (X : Int), .int .i64 (Y : Int), .slice (some ⟨b, off, none⟩) n3 c]) ∧ Below w.heap.size w W)
    (fun _ _ _ => False)
    (OwnFrom.and (Own.from (fun s A B row hs hg hr => ⟨hs.1.kept hg hr, hs.2.1.kept hg hr, hs.2.2.1.kept hg hr, hs.2.2.2.1.kept hg hr, hs.2.2.2.2.1.kept hg hr, hs.2.2.2.2.2.kept hg hr⟩) _) (ownFrom_below (Nat.le_refl _) HE.size))
    (fun _ _ _ _ _ hs _ _ => hs)
    ⟨⟨by rw [HI0.out]; exact hrow, bt, bp, bk, bs, brr⟩, HE⟩
    (fun x a' W => ∃ Br, Bc < Br ∧ HoldC W Br [.int .i64 (x.1.1 : Int), .int .i64 (x.1.2.1 : Int), .int .i64 (x.1.2.2 : Int)] ∧ a' = { tmps := #[rst X Y (some ⟨b, off, none⟩) n3 c, .int .i64 (k : Int), .pointer (some ⟨w.heap.size, 0, none⟩), .pointer (some ⟨w.heap.size + 1, 0, none⟩), .pointer (some ⟨w.heap.size + 1 + 1, 0, none⟩), .pointer (some ⟨ga, 0, none⟩), .pointer (some ⟨Br, 0, none⟩), undef, .pointer (some ⟨w.heap.size, 0, none⟩), .int .i64 (X : Int), .pointer (some ⟨w.heap.size, 1, none⟩), .int .i64 (Y : Int), rst X Y (some ⟨g3, 0, none⟩) n3 c3, .agg #[.int .i64 (X : Int), .int .i64 (Y : Int), .slice (some ⟨b, off, none⟩) n3 c], .func (.func 134) #[] #[.pointer (some ⟨Bc, 0, none⟩)], .agg #[.int .i64 (x.1.1 : Int), .int .i64 (x.1.2.1 : Int), .int .i64 (x.1.2.2 : Int)], undef, undef, undef, undef, undef, undef, undef, undef, undef, undef, undef, undef, undef, undef, undef, undef, undef, undef, undef, undef, undef, undef, undef, undef, undef, undef, undef], defers := [] })
    (fun x a' s A B row hs hg hr => by
      obtain ⟨Br, h1, h2, rfl⟩ := hs
      exact ⟨Br, h1, h2.kept hg (fun r e => (hr r e).2), rfl⟩)
    ?assign ?body ?done ?stop
  case assign =>
    rintro l pre x W K ⟨⟨i1, i2, i3, i4, i5, i6⟩, iB⟩ hK
    have hBr : Bc < W.heap.size := i6.lt
    gi_wp2
    exact hK _ _ ((KeepsOthers.alloc _ _).from _) (Keep.ext ((Ext.refl _).alloc _)) ⟨⟨i1.ext ((Ext.refl _).alloc _), i2.ext ((Ext.refl _).alloc _), i3.ext ((Ext.refl _).alloc _), i4.ext ((Ext.refl _).alloc _), i5.ext ((Ext.refl _).alloc _), i6.ext ((Ext.refl _).alloc _)⟩, Ext.alloc iB _⟩ ⟨W.heap.size, hBr, HoldC.of (Bl.new rfl) (Fz.new rfl), rfl⟩
  case body =>
    rintro l pre ⟨⟨r0, r1, r2⟩, o1, o2, o3⟩ a' W hl hrec ⟨⟨i1, i2, i3, i4, i5, i6⟩, iB⟩ ⟨Br, hBr, bX, rfl⟩ hlen
    simp only [] at o1 o2 o3
    obtain ⟨lo, hlo⟩ : ∃ lo, lo = r1 - k := ⟨_, rfl⟩
    obtain ⟨hi, hhi⟩ : ∃ hi, hi = min (r2 + k) X := ⟨_, rfl⟩
    obtain ⟨q, hq⟩ : ∃ q, q = r0 * X := ⟨_, rfl⟩
    have HMX : Hid (max ((r1 : Int) - (k : Int)) 0 = (lo : Int)) := hidP (by omega)
    have HMN : Hid (min ((r2 : Int) + (k : Int)) (X : Int) = (hi : Int)) := hidP (by omega)
    have hqn : q + X ≤ n3 := by
      have e : (r0 + 1) * X ≤ Y * X := Nat.mul_le_mul_right _ (by omega)
      rw [Nat.add_mul, Nat.one_mul, ← hq] at e
      rw [HNN.out]; omega
    have HQ : Hid ((r0 : Int) * (X : Int) = (q : Int)) := hidP (by rw [hq]; simp)
    have hlh : lo ≤ hi := by omega
    have hhX : hi ≤ X := by omega
    have HSN : Hid (fillW k X D0 ((pre ++ [(⟨(r0, r1, r2), o1, o2, o3⟩ : RunIn X Y)]).map Subtype.val) = fillR (fillW k X D0 (pre.map Subtype.val)) (q + lo) (hi - lo)) := hidP (by
      rw [List.map_append, List.map_cons, List.map_nil, fillW_snoc, hq, hlo, hhi])
    have hFL := HFL.out (pre.map Subtype.val)
    generalize fillW k X D0 (pre.map Subtype.val) = D at *
    have hr2 : r2 ≤ 64 := by omega
    have hr1 : r1 ≤ 64 := by omega
    clear hlo hhi hq
    have e1 : fillR D (q + lo) (lo - lo) = D := by rw [Nat.sub_self]; rfl
    have iR : HoldC W g3 (bools (fillR D (q + lo) (lo - lo))) := by rw [e1]; exact i1
    have hb1 := (bX 1 _ rfl).1; have hk0 := (i4 0 _ rfl).1
    have mx := HMX.out
    clear e1 i1
    gi_wp2
    clear hb1 hk0 mx
    gi_loopw [7] (fun xv wi => ∃ m : Nat, lo ≤ m ∧ m ≤ hi ∧ xv = .int .i64 (m : Int) ∧ HoldC wi g3 (bools (fillR D (q + lo) (m - lo))) ∧ HoldC wi ga [.int .i64 (X : Int), .int .i64 (Y : Int), .slice (some ⟨g3, 0, none⟩) n3 c3] ∧ HoldC wi w.heap.size [.int .i64 (X : Int), .int .i64 (Y : Int), .slice (some ⟨b, off, none⟩) n3 c] ∧ HoldC wi (w.heap.size + 1) [.int .i64 (k : Int)] ∧ HoldC wi (w.heap.size + 1 + 1) [.int .i64 0, .int .i64 0, .slice none 0 0] ∧ HoldC wi Bc [.int .i64 (X : Int), .int .i64 (Y : Int), .slice (some ⟨b, off, none⟩) n3 c] ∧ HoldC wi Br [.int .i64 (r0 : Int), .int .i64 (r1 : Int), .int .i64 (r2 : Int)] ∧ KeepsOthers W wi ∧ Keep (fun b' => b' ≠ g3) W wi ∧ Below w.heap.size w wi) (fun xv _ => hi - (intOf xv).toNat)
    case atStart => exact ⟨lo, by omega, by omega, rfl, iR, i2, i3, i4, i5, i6, bX, KeepsOthers.refl _, Keep.refl _ _, iB⟩
    case round =>
      clear iR i2 i3 i4 i5 i6 bX iB
      obtain ⟨m, h1, h2, rfl, iR, i2, i3, i4, i5, i6, bX, kO, kK, iB⟩ := hrel
      have hb2 := (bX 2 _ rfl).1; have hk0 := (i4 0 _ rfl).1; have hp0 := (i3 0 _ rfl).1
      have hb0' := (bX 0 _ rfl).1; have ht2 := (i2 2 _ rfl).1
      have mn := HMN.out
      have hqq := HQ.out
      by_cases hlt : m < hi
      · have hlt0 := hlt
        have hfl : q + m < (fillR D (q + lo) (m - lo)).length := by rw [fillR_len, hFL]; omega
        obtain ⟨hc1, hc2⟩ := iR (q + m) _ (bools_get _ _ hfl)
        have hset := iR.set (q + m) (.bool true)
        rw [bools_set, show (fillR D (q + lo) (m - lo)).set (q + m) true = fillR D (q + lo) (m + 1 - lo) by
          rw [show m + 1 - lo = (m - lo) + 1 by omega, fillR, show q + lo + (m - lo) = q + m by omega]] at hset
        have hbut : But wr (wr.setCell ⟨g3, q + m, none⟩ (.bool true)) g3 := (But.refl _ _).store
        have HSET := hidP hset
        generalize (fillR D (q + lo) (m - lo))[q + m] = old at *
        have hqm : q + m < n3 := by omega
        clear hset hfl iR
        gi_wp2
        go_roundw
        case rel => exact ⟨m + 1, by omega, by omega, by go_num, HSET.out, i2.but hbut (by omega), i3.but hbut (by omega), i4.but hbut (by omega), i5.but hbut (by omega), i6.but hbut (by omega), bX.but hbut (by omega), kO.trans (KeepsOthers.setCell _ _ _), kK.store (by simp), Below.setCell iB (by show w.heap.size ≤ g3; omega) _⟩
        case measure => simp only [intOf]; omega
      · obtain rfl : m = hi := by omega
        gi_wp2
        exact ⟨kO.from _, kK, ⟨by rw [HSN.out]; exact iR, i2, i3, i4, i5, i6⟩, iB⟩
  case done =>
    rintro D ys W hD hS ⟨⟨i1, i2, i3, i4, i5, i6⟩, iB⟩ hK
    rw [hS] at i1
    have ht0 := (i2 0 _ rfl).1; have ht1 := (i2 1 _ rfl).1; have ht2 := (i2 2 _ rfl).1
    obtain ⟨hs0, fs0⟩ := i5 0 _ rfl; obtain ⟨hs1, fs1⟩ := i5 1 _ rfl; obtain ⟨hs2, fs2⟩ := i5 2 _ rfl
    gi_wp2
    clear hs0 hs1 hs2 fs0 fs1 fs2 ht0 ht1 ht2
    have e5 := ((i5.set 0 (.int .i64 (X : Int))).set 1 (.int .i64 (Y : Int))).set 2 (.slice (some ⟨g3, 0, none⟩) n3 c3)
    have hbut : But W (((W.setCell ⟨w.heap.size + 1 + 1, 0, none⟩ (.int .i64 (X : Int))).setCell ⟨w.heap.size + 1 + 1, 1, none⟩ (.int .i64 (Y : Int))).setCell ⟨w.heap.size + 1 + 1, 2, none⟩ (.slice (some ⟨g3, 0, none⟩) n3 c3)) (w.heap.size + 1 + 1) := (But.refl _ _).store.store.store
    have e1 := i1.but hbut (by omega)
    have eB := Below.setCell (Below.setCell (Below.setCell iB (p := ⟨w.heap.size + 1 + 1, 0, none⟩) (by show w.heap.size ≤ w.heap.size + 1 + 1; omega) (.int .i64 (X : Int))) (p := ⟨w.heap.size + 1 + 1, 1, none⟩) (by show w.heap.size ≤ w.heap.size + 1 + 1; omega) (.int .i64 (Y : Int))) (p := ⟨w.heap.size + 1 + 1, 2, none⟩) (by show w.heap.size ≤ w.heap.size + 1 + 1; omega) (.slice (some ⟨g3, 0, none⟩) n3 c3)
    have hK' := (((KeepsOthers.setCell W ⟨w.heap.size + 1 + 1, 0, none⟩ (.int .i64 (X : Int))).trans (KeepsOthers.setCell _ ⟨w.heap.size + 1 + 1, 1, none⟩ (.int .i64 (Y : Int)))).trans (KeepsOthers.setCell _ ⟨w.heap.size + 1 + 1, 2, none⟩ (.slice (some ⟨g3, 0, none⟩) n3 c3))).same D _ hK rfl
    generalize ((W.setCell ⟨w.heap.size + 1 + 1, 0, none⟩ (.int .i64 (X : Int))).setCell ⟨w.heap.size + 1 + 1, 1, none⟩ (.int .i64 (Y : Int))).setCell ⟨w.heap.size + 1 + 1, 2, none⟩ (.slice (some ⟨g3, 0, none⟩) n3 c3) = u at *
    refine ⟨by simp, .inl ⟨_, _, rfl, run_takeDeferred hK', ?_⟩⟩
    have hgr := grownBy_putObj' u D (.deferred none)
    have f5 := e5.kept hgr (fun r e => by cases e; exact ⟨_, hK', rfl⟩)
    have f1 := e1.kept hgr (fun r e => by cases e; exact ⟨_, hK', rfl⟩)
    have hDw : w.heap.size ≤ D := Nat.le_trans HE.size hD
    exact ⟨_, results_cells rfl rfl Try.underlying44 rfl (by kernel_rfl) (fun j v hv => (f5 j v hv).1), _, _, _, rfl, f1.row (by rw [bools_len, fillW_len, HD0.out]) hcap.1 hcap.2.1, Below.trans eB (belowK_b (w := w) (Nat.le_refl _) u D _ _ hDw hK' rfl rfl)⟩
  case stop =>
    rintro D c pre W _ _ h _
    exact h.elim

end Go.Proofs.Ytogcmnagiepofaa
