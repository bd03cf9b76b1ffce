/- Sets of cells: the runs of a set. -/
import Derived.Test.YtogcmnagiepofaaS13
namespace Go.Proofs.Ytogcmnagiepofaa
set_option linter.unusedVariables false
set_option linter.unusedSimpArgs false
open Go Go.RowKit Go.Shelf
attribute [local go_sem] Oper.semAt_some

theorem rowR_len (l : List Bool) (q X y x : Nat) : (rowR l q X y x).length ≤ X - x := by
  fun_induction rowR l q X y x with
  | case1 x h ih =>
    have hge := runEnd_ge l q X x
    rw [List.length_append]
    have h1 : (if x < runEnd l q X x then [(y, x, runEnd l q X x)] else []).length ≤ 1 := by split <;> simp
    omega
  | case2 x h => simp
theorem rowsR_len (l : List Bool) (X Y y : Nat) : (rowsR l X Y y).length ≤ (Y - y) * X := by
  fun_induction rowsR l X Y y with
  | case1 y h ih =>
    have h1 := rowR_len l (y * X) X y 0
    have e : (Y - y) * X = (Y - (y + 1)) * X + X := by
      rw [show Y - y = Y - (y + 1) + 1 by omega, Nat.add_mul, Nat.one_mul]
    rw [List.length_append, e]
    omega
  | case2 y h => simp
theorem T_run : SlTK Try.prog 64 124 3 (.agg #[.int .i64 0, .int .i64 0, .int .i64 0]) 24 :=
  let ⟨i, h1, h2, h3, h4⟩ := info_parts (P := Try.prog) (e := 124) (z := .agg #[.int .i64 0, .int .i64 0, .int .i64 0]) (size := 3) (bytes := 24) (by kernel_rfl); ⟨Try.underlying64, by omega, i, h1, h2, h3, h4, rfl⟩
theorem wpListIn_appB {F : Fence} {n' : Nat} {P : Program} {ops : Array Oper} {rest : List Oper} {o : Oper} {a : Act} {Q : Exit → Act → World → Prop} {w : World} {t e e' : TypeId} {K B : Nat} {z : Value} {bytes : Nat} (hT : SlTK P t e K z bytes)
    (hgd : o.guard = none) (s x : Operand) (ho : o.op = .call { callee := .builtin .append, args := #[s, x], argTypes := #[t, t] })
    {v : Value} {n : Nat} {xs : List Value} (hown : w.ownsRow B e K v n xs) (hB : B ≤ w.heap.size) (cs : Array Value) (hcs : cs.size = K) (h1 : ∀ u ∈ cs.toList, u.oneCell' = true) {c : Nat} (hs : a.eval s = v)
    (hx : a.eval x = .slice (some ⟨w.heap.size, 0, none⟩) 1 c) (hb : n + 1 ≤ 17592186044416) (hb' : (n + 1) * bytes ≤ 140737488355328)
    (h : ∀ v' w', w'.ownsRow B e K v' (n + 1) (xs ++ cs.toList) → Below B w w' → KeepsOthers w w' → wpListIn F n' P ops Q rest (a.put o.dst v') w') :
    wpListIn F n' P ops Q (o :: rest) a (w.alloc (.cells cs e')) := by
  obtain ⟨ht, hK, i, hi, hz, hsz, hby, hzs⟩ := hT
  have hB' : B ≤ (w.alloc (.cells cs e')).heap.size := Nat.le_trans hB (by simp)
  refine wpListIn_append_own (w.alloc (.cells cs e')) hgd s x t ho B e i z K bytes ht hi hz hsz hby hzs hK v n xs hs (hown.alloc _) ⟨w.heap.size, 0, none⟩ 1 c cs.toList hx (by simp [hcs]) ?_ h1 (by unfold maxLen; omega) hb' hB' ?_
  · intro j u hj
    have hb := Bl.new (e := e') (cs := cs) (rfl : w.heap.size = w.heap.size) j
    have e1 : (⟨w.heap.size, 0, none⟩ : Addr).add j = ⟨w.heap.size, j, none⟩ := by unfold Addr.add; split <;> simp_all
    rw [e1, hb, ← hj]
    simp
  · intro v' w' g1 g2 _
    refine h v' w' g1 (Below.grown ((Below.refl B w).alloc hB _) g2 hB' (fun k hk => (hown.lt k hk).1)) ((KeepsOthers.alloc w _).trans (KeepsOthers.of_grownBy g2 fun j o' ej hj => ?_))
    rcases (hown.alloc (.cells cs e')).2 with ⟨rfl, _⟩ | ⟨g, cap, cur, rfl, _, hgb, _⟩
    · simp [Value.ownBlock] at ej
    · obtain rfl : g = j := by simpa [Value.ownBlock] using ej
      rw [hgb] at hj; cases hj; rfl
theorem Keep.below {q : Nat → Prop} {n0 : Nat} {W W' : World} (h : Below n0 W W') (hq : ∀ k, q k → k < n0) : Keep q W W' := ⟨h.size, fun k o hk ho _ => (h.block k (hq k hk)).trans ho⟩
theorem HoldC.low {n0 : Nat} {W W' : World} {g : Nat} {vs : List Value} (h : HoldC W g vs) (hl : Below n0 W W') (hg : g < n0) : HoldC W' g vs := fun j u hu =>
  ⟨(Below.cell (p := ⟨g, j, none⟩) hl hg).trans (h j u hu).1, (Below.frozen (p := ⟨g, j, none⟩) hl hg).trans (h j u hu).2⟩
theorem ends_run (r : Run3) : ∀ u ∈ (#[Value.int .i64 (r.1 : Int), .int .i64 (r.2.1 : Int), .int .i64 (r.2.2 : Int)] : Array Value).toList, u.oneCell' = true := by
  intro u hu
  simp at hu
  rcases hu with rfl | rfl | rfl <;> rfl
/-- A row of its own is kept by the loop's own book-keeping. -/
theorem rowOwn_kept {W W' : World} {row : Option Nat} {B e K n : Nat} {v : Value} {xs : List Value} (h : W.ownsRow B e K v n xs) (hg : W.grownBy W' row) (hrow : ∀ r, row = some r → ∃ o : Obj, W.heap[r]? = some o ∧ o.isCells = false) : W'.ownsRow B e K v n xs := by
  refine h.kept hg ?_
  rcases h.2 with ⟨rfl, _⟩ | ⟨g, cap, cur, rfl, _, hgb, _⟩
  · exact .inl rfl
  · refine .inr fun e' => ?_
    obtain ⟨o, ho, hc⟩ := hrow g (by simpa [Value.ownBlock] using e'.symm)
    rw [hgb] at ho; cases ho; cases hc

set_option maxRecDepth 100000 in
set_option maxHeartbeats 8000000 in
theorem c_Runs (X Y : Nat) (a : Option Addr) (n c : Nat) (l : List Bool) (w : World) (h : SlB w a n c l) (hX1 : 1 ≤ X) (hX2 : X ≤ 64) (hY1 : 1 ≤ Y) (hY2 : Y ≤ 64) (hn : n = Y * X) :
    Calls Try.prog 58 #[rst X Y a n c] w fun e w' => ∃ a2 n2 c2, e = .returned (.slice a2 n2 c2) ∧ SlR w' a2 n2 c2 (rowsR l X Y 0) ∧ Ext w w' := by
  obtain ⟨hm1, hm2⟩ := mul_box (x := (X : Int)) (y := (Y : Int)) (by omega) (by omega) (by omega) (by omega)
  have hNi : (X : Int) * (Y : Int) = (n : Int) := by rw [hn]; simp [Int.mul_comm]
  rw [hNi] at hm1 hm2
  have hn0 : 0 < n := by omega
  obtain ⟨b, off, rfl, hcell⟩ := h.at hn0
  have hb0 : b < w.heap.size := cell_lt (hcell 0 (by rw [h.len]; exact hn0))
  have HM := hidP (fun u => c_May X Y (some ⟨b, off, none⟩) n c u)
  rw [show mayR (X : Int) (Y : Int) n = true from decide_eq_true ⟨by omega, by omega, by omega, by omega, hNi.symm⟩] at HM
  have HST := hidP (fun (u : World) (Bc : Nat) (kq : Nat → Prop) (h1 : kq Bc) (h2 : kq b) (hB : Bl u Bc #[.int .i64 (X : Int), .int .i64 (Y : Int), .slice (some ⟨b, off, none⟩) n c]) (hE : Ext w u) =>
    c_runs_stops Fence.wide (8 - 1) trivial rfl (by omega) Bc b off n c X Y l kq h1 h2 hX1 hX2 hY2 hn h.2.1 h.len u hB (fun j hj => hE.cell' (hcell j hj)))
  have hLl : (rowsR l X Y 0).length ≤ 4096 := by
    have := rowsR_len l X Y 0
    rw [Nat.sub_zero, ← hn] at this
    omega
  clear hcell hNi hn h
  generalize rowsR l X Y 0 = L at *
  refine (callsIn_wide (n := 8)).1 ?_
  refine callsIn_of_wp_marks Try.func58 rfl trivial ?_ rfl
  simp only [Try.ntmps58, List.size_toArray, List.length_cons, List.length_nil, Nat.reduceAdd, Nat.reduceSub, Array.replicate_succ, Array.replicate_zero, List.push_toArray, List.append_toArray, List.nil_append, List.cons_append]
  gi_wp2
  refine ⟨trivial, ?_⟩
  refine absCI (fun x1 hx1 => ?_)
  have hx : Ext w x1 := by rw [hx1]; exact ((Ext.refl _).alloc _).alloc _
  have bp : HoldC x1 w.heap.size [.int .i64 (X : Int), .int .i64 (Y : Int), .slice (some ⟨b, off, none⟩) n c] := by
    rw [hx1]
    exact (HoldC.of (Bl.new rfl) (Fz.new rfl)).ext ((Ext.refl _).alloc _)
  have bo : HoldC x1 (w.heap.size + 1) [.slice none 0 0] := by
    rw [hx1]
    exact HoldC.of (Bl.new (by simp)) (Fz.new (by simp))
  have HE := hx
  clear hx hx1
  refine (callsIn_wide.2 (HM.out _)).mono ?_
  rintro e u3 ⟨rfl, hx⟩
  replace bp := bp.ext hx; replace bo := bo.ext hx
  replace HE := HE.trans hx
  clear hx
  have bp0 := (bp 0 _ rfl).1; have bp1 := (bp 1 _ rfl).1; have bp2 := (bp 2 _ rfl).1
  gi_wp2
  refine ⟨trivial, ?_⟩
  have lo3 := bo.lt
  refine (c_runs Fence.wide 7 trivial rfl X Y (some ⟨b, off, none⟩) n c u3).mono ?_
  rintro e u4 ⟨rfl, hu4⟩
  have hx : Ext u3 u4 := by rw [hu4]; exact (Ext.refl _).alloc _
  have br : Bl u4 u3.heap.size #[.int .i64 (X : Int), .int .i64 (Y : Int), .slice (some ⟨b, off, none⟩) n c] := by rw [hu4]; exact Bl.new rfl
  have fr : Fz u4 u3.heap.size := by rw [hu4]; exact Fz.new rfl
  have hsz : u3.heap.size < u4.heap.size := br.lt (Nat.succ_pos _)
  clear hu4 bp0 bp1 bp2
  replace bp := bp.ext hx; replace bo := bo.ext hx
  replace HE := HE.trans hx
  clear hx
  generalize u3.heap.size = Bc at *
  gi_wp2
  have brr : HoldC u4 Bc [.int .i64 (X : Int), .int .i64 (Y : Int), .slice (some ⟨b, off, none⟩) n c] := HoldC.of br fr
  refine wpIn_rangeFunc_ownH rfl (by omega) (gf := 134) (lb := #[.pointer (some ⟨Bc, 0, none⟩)]) rfl trivial (enters_of Try.func134 (by kernel_rfl) rfl)
    (HST.out u4 Bc (fun b' => b' < u4.heap.size ∧ b' ≠ w.heap.size + 1) ⟨hsz, by omega⟩ ⟨by omega, by omega⟩ br HE) Keep.trans (fun W l o o' _ h hc _ => Keep.book W l o o' h hc) (Below.refl _ _) (fun _ => rfl)
    (fun pre W => ((∃ v, HoldC W (w.heap.size + 1) [v] ∧ W.ownsRow u4.heap.size 124 3 v pre.length (runsV (pre.map Subtype.val))) ∧ HoldC W w.heap.size [.int .i64 (X : Int), .int .i64 (Y : Int), .slice (some ⟨b, off, none⟩) n c] ∧ HoldC W Bc [.int .i64 (X : Int), .int .i64 (Y : Int), .slice (some ⟨b, off, none⟩) n c] ∧ u4.heap.size ≤ W.heap.size) ∧ Below w.heap.size w W)
    (fun _ _ _ => False)
    (OwnFrom.and (Own.from (fun s A B row hs hg hr => ⟨(by obtain ⟨v, h1, h2⟩ := hs.1; exact ⟨v, h1.kept hg hr, rowOwn_kept h2 hg hr⟩), hs.2.1.kept hg hr, hs.2.2.1.kept hg hr, Nat.le_trans hs.2.2.2 hg.size⟩) _) (ownFrom_below (Nat.le_refl _) HE.size))
    (fun _ _ _ _ _ hs _ _ => hs)
    ⟨⟨⟨_, bo, World.ownsRow_nil _ _ _ _⟩, bp, brr, Nat.le_refl _⟩, HE⟩
    (fun x a' W => ∃ Br, u4.heap.size ≤ Br ∧ HoldC W Br [.int .i64 (x.1.1 : Int), .int .i64 (x.1.2.1 : Int), .int .i64 (x.1.2.2 : Int)] ∧ a' = { tmps := #[rst X Y (some ⟨b, off, none⟩) n c, .pointer (some ⟨w.heap.size, 0, none⟩), .slice none 0 0, .pointer (some ⟨w.heap.size + 1, 0, none⟩), .pointer (some ⟨Br, 0, none⟩), .agg #[.int .i64 (X : Int), .int .i64 (Y : Int), .slice (some ⟨b, off, none⟩) n c], .bool true, .bool false, undef, .agg #[.int .i64 (X : Int), .int .i64 (Y : Int), .slice (some ⟨b, off, none⟩) n c], .func (.func 134) #[] #[.pointer (some ⟨Bc, 0, none⟩)], .agg #[.int .i64 (x.1.1 : Int), .int .i64 (x.1.2.1 : Int), .int .i64 (x.1.2.2 : Int)], undef, undef, undef, undef, undef], defers := [] })
    (fun x a' s A B row hs hg hr => by
      obtain ⟨Br, h1, h2, rfl⟩ := hs
      exact ⟨Br, h1, h2.kept hg (fun r e => (hr r e).2), rfl⟩)
    ?assign ?body ?done ?stop
  case assign =>
    rintro l pre x W K ⟨⟨⟨v, i1, i2⟩, i3, i4, i5⟩, iB⟩ hK
    gi_wp2
    exact hK _ _ ((KeepsOthers.alloc _ _).from _) (Keep.ext ((Ext.refl _).alloc _)) ⟨⟨⟨v, i1.ext ((Ext.refl _).alloc _), i2.alloc _⟩, i3.ext ((Ext.refl _).alloc _), i4.ext ((Ext.refl _).alloc _), Nat.le_trans i5 ((Ext.refl W).alloc _).size⟩, Ext.alloc iB _⟩ ⟨W.heap.size, i5, HoldC.of (Bl.new rfl) (Fz.new rfl), rfl⟩
  case body =>
    rintro l pre ⟨⟨r0, r1, r2⟩, o1, o2, o3⟩ a' W hl hrec ⟨⟨⟨v, i1, i2⟩, i3, i4, i5⟩, iB⟩ ⟨Br, hBr, bX, rfl⟩ hlen
    simp only [] at o1 o2 o3 hlen
    have hb0 := (bX 0 _ rfl).1; have hb1 := (bX 1 _ rfl).1; have hb2 := (bX 2 _ rfl).1
    obtain ⟨hv0, hv1⟩ := i1 0 _ rfl
    have hpl : pre.length < 4096 := by omega
    gi_wp2_with (gi_at_builtin; refine wpListIn_appB T_run rfl _ _ rfl i2 i5 #[.int .i64 (r0 : Int), .int .i64 (r1 : Int), .int .i64 (r2 : Int)] rfl (ends_run (r0, r1, r2)) rfl rfl (by omega) (by omega) ?_; intro v2 w2 hown2 hlow hko; obtain ⟨a2, c2, rfl, hs2⟩ := SlK.of_owns hown2; have j1 : HoldC w2 (w.heap.size + 1) [v] := fun j u hu => ⟨(Below.cell (p := ⟨w.heap.size + 1, j, none⟩) hlow (by show w.heap.size + 1 < u4.heap.size; omega)).trans (i1 j u hu).1, (Below.frozen (p := ⟨w.heap.size + 1, j, none⟩) hlow (by show w.heap.size + 1 < u4.heap.size; omega)).trans (i1 j u hu).2⟩; obtain ⟨jv0, jv1⟩ := j1 0 _ rfl)
    have hbut : But w2 (w2.setCell ⟨w.heap.size + 1, 0, none⟩ (.slice a2 (pre.length + 1) c2)) (w.heap.size + 1) := (But.refl _ _).store
    refine ⟨(hko.trans (KeepsOthers.setCell _ _ _)).from _, (Keep.below hlow (fun k hk => hk.1)).store (by simp), ⟨⟨_, j1.set 0 _, ?_⟩, (i3.low hlow (by omega)).but hbut (by omega), (i4.low hlow (by omega)).but hbut (by omega), Nat.le_trans i5 (Nat.le_trans hlow.size hbut.1)⟩, Below.setCell (Below.trans iB (hlow.mono HE.size)) (by show w.heap.size ≤ w.heap.size + 1; omega) _⟩
    rw [List.length_append, List.map_append, runsV_append]
    exact hbut.rowB hown2 (by omega)
  case done =>
    rintro D ys W hD hS ⟨⟨⟨v, i1, i2⟩, i3, i4, i5⟩, iB⟩ hK
    obtain ⟨a2, c2, rfl, hs2⟩ := SlK.of_owns i2
    obtain ⟨hv0, hv1⟩ := i1 0 _ rfl
    gi_wp2
    refine ⟨by simp, .inl ⟨_, _, rfl, run_takeDeferred hK, ?_⟩⟩
    have i2' := ownsRow_putObj i2 (.deferred none) hK rfl
    rw [hS] at i2'
    exact ⟨_, results_tmp rfl _ _ _, _, _, _, rfl, SlK.of_owns' i2', Below.trans iB (belowK_b (w := w) (Nat.le_refl _) W D _ _ (Nat.le_trans HE.size hD) hK rfl rfl)⟩
  case stop =>
    rintro D c pre W _ _ h _
    exact h.elim

end Go.Proofs.Ytogcmnagiepofaa
