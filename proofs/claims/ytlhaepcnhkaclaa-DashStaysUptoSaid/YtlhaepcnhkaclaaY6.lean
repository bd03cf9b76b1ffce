/- Dashes: pieces of a line. -/
import Derived.Test.YtlhaepcnhkaclaaY5
import Derived.Test.YtlhaepcnhkaclaaBX
namespace Go.Proofs.Ytlhaepcnhkaclaa
set_option linter.unusedVariables false
set_option linter.unusedSimpArgs false
open Go Go.RowKit Go.Shelf

/-- One element more: what the walk is told of the world. -/
theorem wpList_appG {P : Program} {ops : Array Oper} {rest : List Oper} {o : Oper} {a : Act} {Q : Exit → Act → World → Prop} {w : World} {t e e' : TypeId} {K B : Nat} {z : Value} {bytes : Nat} (hT : SlTK P t e K z bytes)
    (hgd : o.guard = none) (s x : Operand) (ho : o.op = .call { callee := .builtin .append, args := #[s, x], argTypes := #[t, t] })
    {v : Value} {n : Nat} {xs : List Value} (hown : w.ownsRow B e K v n xs) (hB : B ≤ w.heap.size) (cs : Array Value) (hcs : cs.size = K) (h1 : ∀ u ∈ cs.toList, u.oneCell' = true) {c : Nat} (hs : a.eval s = v)
    (hx : a.eval x = .slice (some ⟨w.heap.size, 0, none⟩) 1 c) (hb : n + 1 ≤ 17592186044416) (hb' : (n + 1) * bytes ≤ 140737488355328)
    (h : ∀ v' w', w'.ownsRow B e K v' (n + 1) (xs ++ cs.toList) → (w.alloc (.cells cs e')).grownBy w' v.ownBlock → wpList P ops Q rest (a.put o.dst v') w') :
    wpList P ops Q (o :: rest) a (w.alloc (.cells cs e')) := by
  obtain ⟨ht, hK, i, hi, hz, hsz, hby, hzs⟩ := hT
  have hB' : B ≤ (w.alloc (.cells cs e')).heap.size := Nat.le_trans hB (by simp)
  refine wpList_plain hgd fun _ hk => wp_append_own (w.alloc (.cells cs e')) s x t ho B e i z K bytes ht hi hz hsz hby hzs hK v n xs hs (hown.alloc _) ⟨w.heap.size, 0, none⟩ 1 c cs.toList hx (by simp [hcs]) ?_ h1 (by unfold maxLen; omega) hb' hB' ?_
  · intro j u hj
    have hb := Bl.new (e := e') (cs := cs) (rfl : w.heap.size = w.heap.size) j
    have e1 : (⟨w.heap.size, 0, none⟩ : Addr).add j = ⟨w.heap.size, j, none⟩ := by unfold Addr.add; split <;> simp_all
    rw [e1, hb, ← hj]
    simp
  · intro v' w' g1 g2 _
    exact hk _ _ (h v' w' g1 g2)
theorem row_last {w : World} {B K0 n : Nat} {v : Value} {out : List Pt} (h : w.ownsRow B 36 2 v n (pts out)) (h0 : out ≠ []) : ∃ g c, v = .slice (some ⟨g, 0, none⟩) n c ∧ n ≤ c ∧ c ≤ maxLen ∧ 0 < n ∧ out.length = n ∧ w.cell? ⟨g, 0 + (n - 1) * 2, none⟩ = some (.int .i64 (out.getLastD (0, 0)).1) ∧ w.cell? ⟨g, 0 + (n - 1) * 2 + 1, none⟩ = some (.int .i64 (out.getLastD (0, 0)).2) := by
  have hl := h.1
  rw [pts_len] at hl
  have hln : out.length = n := by omega
  obtain rfl : n = out.length := hln.symm
  have hp := List.length_pos_iff.2 h0
  have hk := SlK.of_owns h
  rcases h.2 with ⟨rfl, h2⟩ | ⟨g, cap, cur, rfl, hg, hh, hn, hm, hs, hx⟩
  · omega
  · refine ⟨g, cap, rfl, hn, hm, by omega, hln, ?_⟩
    obtain ⟨a, c, e, hsl⟩ := hk
    simp only [Value.slice.injEq] at e
    obtain ⟨rfl, -, rfl⟩ := e
    obtain ⟨b, off, e, hc⟩ := SlP.at hsl (by omega)
    simp only [Option.some.injEq, Addr.mk.injEq] at e
    obtain ⟨rfl, rfl, -⟩ := e
    have := hc (out.length - 1) (by omega)
    have e : out.getLastD (0, 0) = out[out.length - 1]'(by omega) := by
      rw [List.getLastD_eq_getLast?, List.getLast?_eq_getElem?, List.getElem?_eq_getElem (by omega)]
      rfl
    rw [e]
    exact this

def addP (out : List Pt) (p : Pt) : List Pt := if p = out.getLastD (0, 0) then out else out ++ [p]
set_option maxRecDepth 100000 in
set_option maxHeartbeats 4000000 in
theorem dd_add (B B0 n : Nat) (v : Value) (out : List Pt) (px py : Int) (w : World) (hb : Box1 w B 22 v) (ho : w.ownsRow B0 36 2 v n (pts out)) (h0 : out ≠ []) (hB : B0 ≤ B) (hn : n ≤ 8589934592) :
    Calls Try.prog 57 #[.agg #[.int .i64 px, .int .i64 py], .pointer (some ⟨B, 0, none⟩)] w fun e w' => (∃ u, e = .returned u) ∧ ∃ v', Box1 w' B 22 v' ∧ w'.ownsRow B0 36 2 v' (addP out (px, py)).length (pts (addP out (px, py))) ∧ Below B0 w w' := by
  obtain ⟨g, c, rfl, hnc, hcm, hnp, hln, q1, q2⟩ := row_last (K0 := 0) ho h0
  have hlt := hb.lt
  have hBw : B0 ≤ w.heap.size := by omega
  have HO := hidP ho
  have HB := hidP hb
  have hd : addP out (px, py) = if (px, py) = out.getLastD (0, 0) then out else out ++ [(px, py)] := rfl
  have HLN := hidP hln
  unfold maxLen at hcm
  have bc := hb.cell
  clear ho hb h0 hln
  generalize hl : out.getLastD (0, 0) = l at *
  obtain ⟨lx, ly⟩ := l
  simp only [] at q1 q2
  obtain ⟨m, hm⟩ : ∃ m, m = n - 1 := ⟨_, rfl⟩
  rw [← hm] at q1 q2
  have hmn : m < n := by omega
  have HW0 : Hid (IntKind.i64.wrap ((n : Int) - 1) = (m : Int)) := hidP (by rw [IntWalk.i64_in _ (by omega)]; omega)
  clear hm hl
  rw [Nat.zero_add] at q1 q2
  have r0 : n ≤ 8589934592 := hn
  by_cases hpl : (px, py) = (lx, ly)
  · rw [if_pos hpl] at hd
    simp only [Prod.mk.injEq] at hpl
    obtain ⟨rfl, rfl⟩ := hpl
    have HD := hidP hd
    clear hd
    go_enter Try.func57, Try.ntmps57
    go_wp2_with fail
    refine absW (fun x1 hx1 => ?_)
    have hx : Ext w x1 := by rw [hx1]; exact ((Ext.refl _).alloc _)
    have bx : Bl x1 (w.heap.size) #[.int .i64 px, .int .i64 py] := by rw [hx1]; exact (Bl.new (by simp))
    replace q1 := hx.cell' q1
    replace q2 := hx.cell' q2
    replace bc := hx.cell' bc
    have HE := hx
    clear hx
    clear hx1
    refine wp_region_plan (R := Ext) (.q 0 (.q 1 (.q 2 (.q 3 (.q 4 (.q 5 (.q 6 (.q 7 .done)))))))) (by kernel_rfl) (by kernel_rfl) (by kernel_rfl) (by kernel_rfl) Ext.refl (fun _ _ _ => Ext.trans) ?_
    refine absE (fun x2 hx2 => ?_)
    have hx : Ext x1 x2 := by rw [hx2]; exact (Ext.refl _).drew
    replace bx := Bl.ext hx bx (Nat.succ_pos _)
    replace q1 := hx.cell' q1
    replace q2 := hx.cell' q2
    replace bc := hx.cell' bc
    replace HE := HE.trans hx
    clear hx
    clear hx2
    repeat (refine wpE_q (v := ?_) rfl rfl (fun u hu => ?_) ?_; rotate_left 1; (focus (have kx := Bl.ext hu bx (Nat.succ_pos _); have kq1 := hu.cell' q1; have kq2 := hu.cell' q2; have kbc := hu.cell' bc; have wq0 := HW0.out; go_simp; (try rfl))); simp only [Act.put, List.setIfInBounds_toArray, List.set_cons_zero, List.set_cons_succ])
    refine wpE_done ?_
    go_wp2_with fail
    go_end0
    rw [HD.out]
    exact ⟨⟨_, rfl⟩, _, HB.out.ext HE, by rw [HLN.out]; exact own_ext HO.out HE, Below.mono HE hBw⟩
  · rw [if_neg hpl] at hd
    have HD := hidP hd
    clear hd
    have hpl2 : px = lx → py ≠ ly := fun h1 h2 => hpl (by rw [h1, h2])
    clear hpl
    by_cases hx1 : px = lx
    · have hx2 := hpl2 hx1
      subst hx1
      have hx3 : ¬ ly = py := fun h => hx2 h.symm
      clear hpl2
      go_enter Try.func57, Try.ntmps57
      go_wp2_with fail
      refine absW (fun x1 hx1 => ?_)
      have hx : Ext w x1 := by rw [hx1]; exact ((Ext.refl _).alloc _)
      have bx : Bl x1 (w.heap.size) #[.int .i64 px, .int .i64 py] := by rw [hx1]; exact (Bl.new (by simp))
      replace q1 := hx.cell' q1
      replace q2 := hx.cell' q2
      replace bc := hx.cell' bc
      have HE := hx
      clear hx
      clear hx1
      refine wp_region_plan (R := Ext) (.q 0 (.q 1 (.q 2 (.q 3 (.q 4 (.q 5 (.q 6 (.q 7 .done)))))))) (by kernel_rfl) (by kernel_rfl) (by kernel_rfl) (by kernel_rfl) Ext.refl (fun _ _ _ => Ext.trans) ?_
      refine absE (fun x2 hx2 => ?_)
      have hx : Ext x1 x2 := by rw [hx2]; exact (Ext.refl _).drew
      replace bx := Bl.ext hx bx (Nat.succ_pos _)
      replace q1 := hx.cell' q1
      replace q2 := hx.cell' q2
      replace bc := hx.cell' bc
      replace HE := HE.trans hx
      clear hx
      clear hx2
      repeat (refine wpE_q (v := ?_) rfl rfl (fun u hu => ?_) ?_; rotate_left 1; (focus (have kx := Bl.ext hu bx (Nat.succ_pos _); have kq1 := hu.cell' q1; have kq2 := hu.cell' q2; have kbc := hu.cell' bc; have wq0 := HW0.out; go_simp; (try rfl))); simp only [Act.put, List.setIfInBounds_toArray, List.set_cons_zero, List.set_cons_succ])
      refine wpE_done ?_
      have hob := HB.out.ext HE
      have hoo := own_ext HO.out HE
      have hBx : B0 ≤ x2.heap.size := Nat.le_trans hBw HE.size
      have hall : Ext x2 (x2.alloc (.cells #[.int .i64 px, .int .i64 py] 36)) := (Ext.refl _).alloc _
      have k0 := hob.ext hall
      have hoo0 := own_ext hoo hall
      go_wp2_with (at_builtin; refine wpList_appG T_pt rfl _ _ rfl hoo hBx #[.int .i64 px, .int .i64 py] rfl (ends_pt _ _) rfl rfl (by omega) (by omega) ?_; intro v2 w2 hown2 hgr; have k1 := k0.grown hgr (owns_box hoo0 k0 (by decide)); have c3 := k1.cell; have f3 := k1.free; obtain ⟨a2, c2, rfl, -⟩ := SlK.of_owns hown2)
      go_end0
      rw [HD.out]
      have hset := grownBy_setCell' w2 B (.slice a2 (n + 1) c2)
      have hb2 : Below B0 w w2 := Below.grown (Below.trans (Below.mono HE hBw) (Below.mono hall hBx)) hgr (Nat.le_trans hBw (Nat.le_trans HE.size hall.size)) (fun k hk => (hoo0.lt k hk).1)
      refine ⟨⟨_, rfl⟩, _, k1.set _, ?_, Below.grown hb2 hset (Nat.le_trans hBw hb2.size) (fun k hk => by cases hk; exact hB)⟩
      have hl2 : (out ++ [(px, py)]).length = n + 1 := by rw [List.length_append, HLN.out]; rfl
      rw [hl2, pts_append, pts_one]
      exact hown2.kept hset (owns_tag hown2 k1 (by decide))
    · have hx3 : ¬ lx = px := fun h => hx1 h.symm
      clear hpl2
      go_enter Try.func57, Try.ntmps57
      go_wp2_with fail
      refine absW (fun x1 hx1 => ?_)
      have hx : Ext w x1 := by rw [hx1]; exact ((Ext.refl _).alloc _)
      have bx : Bl x1 (w.heap.size) #[.int .i64 px, .int .i64 py] := by rw [hx1]; exact (Bl.new (by simp))
      replace q1 := hx.cell' q1
      replace q2 := hx.cell' q2
      replace bc := hx.cell' bc
      have HE := hx
      clear hx
      clear hx1
      refine wp_region_plan (R := Ext) (.q 0 (.q 1 (.q 2 (.q 3 (.q 4 (.q 5 (.q 6 (.q 7 .done)))))))) (by kernel_rfl) (by kernel_rfl) (by kernel_rfl) (by kernel_rfl) Ext.refl (fun _ _ _ => Ext.trans) ?_
      refine absE (fun x2 hx2 => ?_)
      have hx : Ext x1 x2 := by rw [hx2]; exact (Ext.refl _).drew
      replace bx := Bl.ext hx bx (Nat.succ_pos _)
      replace q1 := hx.cell' q1
      replace q2 := hx.cell' q2
      replace bc := hx.cell' bc
      replace HE := HE.trans hx
      clear hx
      clear hx2
      repeat (refine wpE_q (v := ?_) rfl rfl (fun u hu => ?_) ?_; rotate_left 1; (focus (have kx := Bl.ext hu bx (Nat.succ_pos _); have kq1 := hu.cell' q1; have kq2 := hu.cell' q2; have kbc := hu.cell' bc; have wq0 := HW0.out; go_simp; (try rfl))); simp only [Act.put, List.setIfInBounds_toArray, List.set_cons_zero, List.set_cons_succ])
      refine wpE_done ?_
      have hob := HB.out.ext HE
      have hoo := own_ext HO.out HE
      have hBx : B0 ≤ x2.heap.size := Nat.le_trans hBw HE.size
      have hall : Ext x2 (x2.alloc (.cells #[.int .i64 px, .int .i64 py] 36)) := (Ext.refl _).alloc _
      have k0 := hob.ext hall
      have hoo0 := own_ext hoo hall
      go_wp2_with (at_builtin; refine wpList_appG T_pt rfl _ _ rfl hoo hBx #[.int .i64 px, .int .i64 py] rfl (ends_pt _ _) rfl rfl (by omega) (by omega) ?_; intro v2 w2 hown2 hgr; have k1 := k0.grown hgr (owns_box hoo0 k0 (by decide)); have c3 := k1.cell; have f3 := k1.free; obtain ⟨a2, c2, rfl, -⟩ := SlK.of_owns hown2)
      go_end0
      rw [HD.out]
      have hset := grownBy_setCell' w2 B (.slice a2 (n + 1) c2)
      have hb2 : Below B0 w w2 := Below.grown (Below.trans (Below.mono HE hBw) (Below.mono hall hBx)) hgr (Nat.le_trans hBw (Nat.le_trans HE.size hall.size)) (fun k hk => (hoo0.lt k hk).1)
      refine ⟨⟨_, rfl⟩, _, k1.set _, ?_, Below.grown hb2 hset (Nat.le_trans hBw hb2.size) (fun k hk => by cases hk; exact hB)⟩
      have hl2 : (out ++ [(px, py)]).length = n + 1 := by rw [List.length_append, HLN.out]; rfl
      rw [hl2, pts_append, pts_one]
      exact hown2.kept hset (owns_tag hown2 k1 (by decide))

theorem addP_dd {L : List Pt} (h : L ≠ []) (p : Pt) : addP (ddL L) p = ddL (L ++ [p]) := by
  unfold addP
  rw [ddL_last, ddL_snoc h (0, 0) p]
theorem mid_step {s t : Int} {ws : List Way} {j : Nat} (h : j < ws.length) : midW s t (ws.take (j + 1)) = midW s t (ws.take j) ++ (if s < ws[j].2.1 ∧ ws[j].2.1 < t then [ws[j].1.1] else []) := by
  have hm : ∀ (a b : List Way), midW s t (a ++ b) = midW s t a ++ midW s t b := by
    intro a b
    induction a with
    | nil => rfl
    | cons x r ih => simp only [List.cons_append, midW, ih, List.append_assoc]
  rw [List.take_succ_eq_append_getElem h, hm]
  simp [midW]
theorem mid_len (s t : Int) (ws : List Way) : (midW s t ws).length ≤ ws.length := by
  induction ws with
  | nil => simp [midW]
  | cons x r ih =>
    simp only [midW, List.length_append, List.length_cons]
    split <;> simp <;> omega
/-- The call hands back an open line. -/
def RetPc (w : World) (L : List Pt) (e : Ending) (w' : World) : Prop := ∃ a cap, e = .returned (.agg #[.slice a L.length cap, .bool false]) ∧ w'.ownsRow w.heap.size 36 2 (.slice a L.length cap) L.length (pts L) ∧ Ext w w'
set_option maxRecDepth 100000 in
set_option maxHeartbeats 4000000 in
theorem dd_piece (a : Option Addr) (n cap : Nat) (ws : List Way) (s t : Int) (w : World) (h : SlW w a n cap ws) (hb : okW ws) (hn : n ≤ 4194304) (s1 : -4611686018427387904 ≤ s) (s2 : s ≤ 4611686018427387904) (t1 : -4611686018427387904 ≤ t) (t2 : t ≤ 4611686018427387904) :
    Calls Try.prog 29 #[.slice a n cap, .agg #[.int .i64 s, .int .i64 t]] w (RetPc w (pieceF ws s t)) := by
  have H := hidP h
  have HLN := hidP h.len
  have HOK := hidP hb
  have HF1 := hidP (fun u (q : SlW u a n cap ws) => dd_find a n cap ws s u q hb s1 s2)
  have HF2 := hidP (fun u (q : SlW u a n cap ws) => dd_find a n cap ws t u q hb t1 t2)
  have HR : Hid (pieceF ws s t = ddL (findD (0, 0) ws s :: (midW s t ws ++ [findD (0, 0) ws t]))) := hidP rfl
  have cf := cf_enters Try.func57 (by kernel_rfl) (by kernel_rfl)
  have hmf : ∀ (fn : Fn) (first cap : Array Value) (w : World), (Instr.makeFunc fn first cap).run Try.prog w = .ok (.func fn first cap) w := fun _ _ _ _ => rfl
  have HST := hidP (fun (j : Nat) (hj : j < ws.length) => mid_step (s := s) (t := t) hj)
  have HML : Hid (∀ j, (midW s t (ws.take j)).length ≤ j) := hidP (fun j => Nat.le_trans (mid_len s t _) (List.length_take_le _ _))
  clear h hb
  generalize pieceF ws s t = R at *
  generalize findD (0, 0) ws s = p0 at *
  generalize findD (0, 0) ws t = p9 at *
  obtain ⟨px, py⟩ := p0
  obtain ⟨zx, zy⟩ := p9
  go_enter Try.func29, Try.ntmps29
  go_wp2_with fail
  refine absC (fun x1 hx1 => ?_)
  have hx : Ext w x1 := by rw [hx1]; exact (((Ext.refl _).alloc _).alloc _)
  have bp : Bl x1 (w.heap.size) #[.int .i64 s, .int .i64 t] := by rw [hx1]; exact ((Bl.new (by simp)).alloc (by simp))
  have bs : Bl x1 (w.heap.size + 1) #[.slice none 0 0, .bool false] := by rw [hx1]; exact (Bl.new (by simp))
  have fs : Fz x1 (w.heap.size + 1) := by rw [hx1]; exact (Fz.new (by simp))
  have HE := hx
  clear hx
  clear hx1
  refine (HF1.out _ (H.out.ext HE)).mono ?_
  rintro e u1 ⟨rfl, hx⟩
  replace bp := Bl.ext hx bp (Nat.succ_pos _)
  replace fs := Fz.ext hx fs bs (Nat.succ_pos _)
  replace bs := Bl.ext hx bs (Nat.succ_pos _)
  replace HE := HE.trans hx
  clear hx
  go_upto_region 2 with fail
  refine absW (fun x2 hx2 => ?_)
  have hx : Ext u1 x2 := by rw [hx2]; exact ((Ext.refl _).alloc _).alloc _
  have lsu := bs.lt (Nat.succ_pos _)
  have ko : x2.ownsRow (w.heap.size + 2) 36 2 (.slice (some ⟨u1.heap.size, 0, none⟩) 1 1) 1 (pts [(px, py)]) := by
    rw [hx2]
    have k1 := own_one u1 (w.heap.size + 2) 36 2 #[.int .i64 px, .int .i64 py] rfl (by omega)
    exact k1.alloc _
  have kb : Box1 x2 (u1.heap.size + 1) 22 (.slice (some ⟨u1.heap.size, 0, none⟩) 1 1) := by
    rw [hx2]
    have k1 := Box1.new (W := u1.alloc (.cells #[.int .i64 px, .int .i64 py] 36)) (t := 22) (v := .slice (some ⟨u1.heap.size, 0, none⟩) 1 1)
    rw [World.size_alloc] at k1
    exact k1
  replace bp := Bl.ext hx bp (Nat.succ_pos _)
  replace fs := Fz.ext hx fs bs (Nat.succ_pos _)
  replace bs := Bl.ext hx bs (Nat.succ_pos _)
  replace HE := HE.trans hx
  clear hx hx2
  have hB0 : w.heap.size + 2 ≤ u1.heap.size + 1 := by omega
  clear lsu
  generalize u1.heap.size + 1 = B at *
  go_wp2_with fail
  go_loopw [17] (fun iv wr => ∃ (j : Nat) (v : Value) (out : List Pt), j ≤ n ∧ iv = .int .i64 (j : Int) ∧ Box1 wr B 22 v ∧ wr.ownsRow (w.heap.size + 2) 36 2 v out.length (pts out) ∧ Hid (ddL ((px, py) :: midW s t (ws.take j)) = out) ∧ Bl wr w.heap.size #[.int .i64 s, .int .i64 t] ∧ Bl wr (w.heap.size + 1) #[.slice none 0 0, .bool false] ∧ Fz wr (w.heap.size + 1) ∧ Ext w wr) (fun iv _ => n - (intOf iv).toNat)
  case atStart => exact ⟨0, _, [(px, py)], by omega, rfl, kb, ko, hidP rfl, bp, bs, fs, HE⟩
  case round =>
    clear HE bp bs fs kb ko
    obtain ⟨j, v, out, hj, rfl, kb, ko, HJ, bp, bs, fs, HE⟩ := hrel
    have hol : out.length ≤ j + 1 := by
      have h1 := ddL_len ((px, py) :: midW s t (ws.take j))
      have h2 := HML.out j
      rw [HJ.out] at h1
      simp only [List.length_cons] at h1
      omega
    have hne : out ≠ [] := by rw [← HJ.out]; exact ddL_ne (by simp)
    have HNE := hidP hne
    clear hne
    by_cases hlt : j < n
    · obtain ⟨g, off, rfl, hc⟩ := (H.out.ext HE).at (by omega)
      have hjl : j < ws.length := by rw [HLN.out]; exact hlt
      obtain ⟨c0, c1, c2, c3, c4, c5⟩ := hc j hjl
      have hst := HST.out j hjl
      have hbb := HOK.out ws[j] (List.getElem_mem hjl)
      clear hc
      generalize ws[j] = x at *
      obtain ⟨⟨⟨ax, ay⟩, ⟨bx, by_⟩⟩, k, kk⟩ := x
      simp only [] at c0 c1 c2 c3 c4 c5 hbb hst
      obtain ⟨b1, b2, b3, b4⟩ := hbb
      by_cases hm : s < k ∧ k < t
      · rw [if_pos hm] at hst
        obtain ⟨hm1, hm2⟩ := hm
        have HA := hidP (fun u v (q1 : Box1 u B 22 v) (q2 : u.ownsRow (w.heap.size + 2) 36 2 v out.length (pts out)) => dd_add B (w.heap.size + 2) out.length v out ax ay u q1 q2 HNE.out hB0 (by omega))
        have HS : Hid (ddL ((px, py) :: midW s t (ws.take (j + 1))) = addP out (ax, ay)) := hidP (by rw [hst, ← HJ.out, addP_dd (by simp)]; rfl)
        clear hst
        go_upto_region 6 with fail
        refine absW (fun x5 hx5 => ?_)
        have hx : Ext wr x5 := by rw [hx5]; exact (Ext.refl _).alloc _
        have bw : Bl x5 wr.heap.size #[.int .i64 ax, .int .i64 ay, .int .i64 bx, .int .i64 by_, .int .i64 k, .int .i64 kk] := by rw [hx5]; exact Bl.new (by simp)
        replace bp := Bl.ext hx bp (Nat.succ_pos _)
        replace fs := Fz.ext hx fs bs (Nat.succ_pos _)
        replace bs := Bl.ext hx bs (Nat.succ_pos _)
        replace kb := kb.ext hx
        replace ko := own_ext ko hx
        replace HE := HE.trans hx
        clear hx hx5
        go_wp2_with fail
        refine (HA.out _ _ kb ko).mono ?_
        rintro e u6 ⟨⟨ue, rfl⟩, v6, kb6, ko6, hlow⟩
        replace bp := Bl.lowB hlow bp (by omega)
        replace fs := Fz.lowB hlow fs (by omega)
        replace bs := Bl.lowB hlow bs (by omega)
        replace HE : Ext w u6 := Below.trans HE (Below.mono hlow (by omega))
        clear kb ko hlow
        go_wp2_with fail
        go_roundw
        case rel => exact ⟨j + 1, v6, _, by omega, by go_num, kb6, ko6, HS, bp, bs, fs, HE⟩
        case measure => simp only [intOf]; omega
      · rw [if_neg hm, List.append_nil] at hst
        have HS : Hid (ddL ((px, py) :: midW s t (ws.take (j + 1))) = out) := hidP (by rw [hst, HJ.out])
        clear hst
        by_cases hm1 : s < k
        · have hm2 : t ≤ k := by omega
          clear hm
          go_upto_region 6 with fail
          refine absW (fun x5 hx5 => ?_)
          have hx : Ext wr x5 := by rw [hx5]; exact (Ext.refl _).alloc _
          have bw : Bl x5 wr.heap.size #[.int .i64 ax, .int .i64 ay, .int .i64 bx, .int .i64 by_, .int .i64 k, .int .i64 kk] := by rw [hx5]; exact Bl.new (by simp)
          replace bp := Bl.ext hx bp (Nat.succ_pos _)
          replace fs := Fz.ext hx fs bs (Nat.succ_pos _)
          replace bs := Bl.ext hx bs (Nat.succ_pos _)
          replace kb := kb.ext hx
          replace ko := own_ext ko hx
          replace HE := HE.trans hx
          clear hx hx5
          go_wp2_with fail
          go_roundw
          case rel => exact ⟨j + 1, v, out, by omega, by go_num, kb, ko, HS, bp, bs, fs, HE⟩
          case measure => simp only [intOf]; omega
        · clear hm
          go_upto_region 6 with fail
          refine absW (fun x5 hx5 => ?_)
          have hx : Ext wr x5 := by rw [hx5]; exact (Ext.refl _).alloc _
          have bw : Bl x5 wr.heap.size #[.int .i64 ax, .int .i64 ay, .int .i64 bx, .int .i64 by_, .int .i64 k, .int .i64 kk] := by rw [hx5]; exact Bl.new (by simp)
          replace bp := Bl.ext hx bp (Nat.succ_pos _)
          replace fs := Fz.ext hx fs bs (Nat.succ_pos _)
          replace bs := Bl.ext hx bs (Nat.succ_pos _)
          replace kb := kb.ext hx
          replace ko := own_ext ko hx
          replace HE := HE.trans hx
          clear hx hx5
          go_wp2_with fail
          go_roundw
          case rel => exact ⟨j + 1, v, out, by omega, by go_num, kb, ko, HS, bp, bs, fs, HE⟩
          case measure => simp only [intOf]; omega
    · obtain rfl : j = n := by omega
      have HS : Hid (R = addP out (zx, zy)) := hidP (by
        have e := HJ.out
        rw [List.take_of_length_le (by rw [HLN.out]; omega)] at e
        rw [HR.out, ← e, addP_dd (by simp)]
        rfl)
      have HA := hidP (fun u v (q1 : Box1 u B 22 v) (q2 : u.ownsRow (w.heap.size + 2) 36 2 v out.length (pts out)) => dd_add B (w.heap.size + 2) out.length v out zx zy u q1 q2 HNE.out hB0 (by omega))
      clear HJ
      go_wp2_with fail
      refine (HF2.out _ (H.out.ext HE)).mono ?_
      rintro e u6 ⟨rfl, hx⟩
      replace bp := Bl.ext hx bp (Nat.succ_pos _)
      replace fs := Fz.ext hx fs bs (Nat.succ_pos _)
      replace bs := Bl.ext hx bs (Nat.succ_pos _)
      replace kb := kb.ext hx
      replace ko := own_ext ko hx
      replace HE := HE.trans hx
      clear hx
      go_wp2_with fail
      refine (HA.out _ _ kb ko).mono ?_
      rintro e u7 ⟨⟨ue, rfl⟩, v7, kb7, ko7, hlow⟩
      replace bp := Bl.lowB hlow bp (by omega)
      replace fs := Fz.lowB hlow fs (by omega)
      replace bs := Bl.lowB hlow bs (by omega)
      replace HE : Ext w u7 := Below.trans HE (Below.mono hlow (by omega))
      clear kb ko hlow
      obtain ⟨a7, c7, rfl, -⟩ := SlK.of_owns ko7
      have bc := kb7.cell
      rw [← HS.out] at ko7 bc
      have KO := hidP ko7
      clear ko7 kb7 HS HR
      generalize hrn : R.length = rn at *
      have HRN := hidP hrn
      clear hrn
      go_wp2_with fail
      refine absB (fun ue hue => ?_)
      have hbs : Bl ue (w.heap.size + 1) #[.slice a7 rn c7, .bool false] := by rw [hue]; exact (bs.set (by simp)).set (by simp)
      have heu : Ext w ue := by rw [hue]; exact (HE.store (by show w.heap.size ≤ w.heap.size + 1; omega) _).store (by show w.heap.size ≤ w.heap.size + 1; omega) _
      have kou : ue.ownsRow (w.heap.size + 2) 36 2 (.slice a7 rn c7) rn (pts R) := by
        have hlt := KO.out.lt
        rw [hue]
        exact own_but (k := w.heap.size + 1) KO.out ((But.refl _ _).store.store) (fun r e => by have := (hlt r e).1; omega)
      clear hue
      refine bodyPost_cells rfl rfl Try.underlying24 rfl (by kernel_rfl) (bl_two hbs) rfl ?_
      have hrn := HRN.out
      subst hrn
      exact ⟨a7, c7, rfl, own_base kou (show w.heap.size ≤ w.heap.size + 2 by omega), heu⟩

end Go.Proofs.Ytlhaepcnhkaclaa
