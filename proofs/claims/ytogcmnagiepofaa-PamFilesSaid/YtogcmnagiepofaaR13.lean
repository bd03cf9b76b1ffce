/- Rasters without colour. -/
import Derived.Test.YtogcmnagiepofaaR10
import Derived.OwnWalk
namespace Go.Proofs.Ytogcmnagiepofaa
set_option linter.unusedVariables false
open Go Go.RowKit

abbrev zeroC : Col := (0, 0, 0, 0)
theorem made_cols (n : Nat) : (madeCells (Value.cells (.agg #[.int .u8 0, .int .u8 0, .int .u8 0, .int .u8 0])) (n * 4)).toList = cols (List.replicate n zeroC) := by
  have h1 : (madeCells (Value.cells (.agg #[.int .u8 0, .int .u8 0, .int .u8 0, .int .u8 0])) (n * 4)).toList = List.replicate (n * 4) (.int .u8 0) := by
    rw [List.eq_replicate_iff]
    refine ⟨by simp [madeCells], fun b hb => ?_⟩
    unfold madeCells at hb
    simp only [Array.toList_map, List.mem_map] at hb
    obtain ⟨i, _, rfl⟩ := hb
    show (#[Value.int .u8 0, .int .u8 0, .int .u8 0, .int .u8 0] : Array Value)[i % 4]! = _
    have : i % 4 < 4 := Nat.mod_lt _ (by omega)
    generalize i % 4 = j at *
    match j, this with
    | 0, _ => rfl
    | 1, _ => rfl
    | 2, _ => rfl
    | 3, _ => rfl
  have h2 : cols (List.replicate n zeroC) = List.replicate (n * 4) (.int .u8 0) := by
    rw [List.eq_replicate_iff]
    refine ⟨by rw [cols_len, List.length_replicate], fun b hb => ?_⟩
    unfold cols at hb
    rw [List.mem_flatMap] at hb
    obtain ⟨p, hp, hb⟩ := hb
    obtain rfl := List.eq_of_mem_replicate hp
    simp at hb
    exact hb
  rw [h1, h2]
theorem wpList_makeC {ops : Array Oper} {rest : List Oper} {o : Oper} {a : Act} {Q : Exit → Act → World → Prop} {W w : World}
    (hgd : o.guard = none) (x y : Operand) (ho : o.op = .makeSlice 67 x y) {kl kc : IntKind} {n : Nat} (hx : a.eval x = .int kl (n : Int)) (hy : a.eval y = .int kc (n : Int)) (he : Ext W w) (hn : n ≤ 4096)
    (h : ∀ w', SlC w' (some ⟨w.heap.size, 0, none⟩) n n (List.replicate n zeroC) → Ext W w' → wpList Try.prog ops Q rest (a.put o.dst (.slice (some ⟨w.heap.size, 0, none⟩) n n)) w') :
    wpList Try.prog ops Q (o :: rest) a w := by
  obtain ⟨ht, hK, i, hi, hz, hsz, hby, hzs⟩ := T_col
  refine wpList_make_full w hgd x y _ ho W.heap.size _ i _ 4 ht hi hz hsz kl kc _ _ n hx hy rfl rfl (by rw [hby]; omega) (by unfold maxLen; omega) he.size (fun w' h1 h2 => h w' ?_ (Below.grown he h2 he.size (fun k hk => by cases hk)))
  have := SlK.of_owns' h1
  rw [made_cols] at this
  exact this
/-- The call hands back a raster. -/
def RetR (w : World) (r : Int × Int × List Col) (e : Ending) (w' : World) : Prop := ∃ a n c, e = .returned (rst r.1 r.2.1 a n c) ∧ SlC w' a n c r.2.2 ∧ Ext w w'
def blankR (x y : Int) : Int × Int × List Col := if 1 ≤ x ∧ x ≤ 64 ∧ 1 ≤ y ∧ y ≤ 64 then (x, y, List.replicate (x * y).toNat zeroC) else (0, 0, [])
/-- A block that holds no byte is none of a row of colours. -/
theorem SlC.but {w u : World} {g : Nat} {cs : Array Value} {a : Option Addr} {n cap : Nat} {l : List Col} (h : SlC w a n cap l) (hb : Bl w g cs) (hcs : ∀ (j : Nat) (x : Int), cs[j]? ≠ some (Value.int .u8 x)) (hu : But w u g) : SlC u a n cap l := by
  refine ⟨h.1, h.2.1, h.2.2.1, fun h0 => ?_⟩
  obtain ⟨b, off, ha, hc⟩ := h.2.2.2 h0
  refine ⟨b, off, ha, fun i v hv => ?_⟩
  have h1 := hc i v hv
  refine hu.cell h1 (fun hbg => ?_)
  have hbg' : b = g := hbg
  subst hbg'
  have h2 := hb (off + i)
  rw [h1] at h2
  have hv8 : ∃ x : Int, v = .int .u8 x := by
    have hm := List.mem_of_getElem? hv
    unfold cols at hm
    rw [List.mem_flatMap] at hm
    obtain ⟨p, _, hp⟩ := hm
    simp at hp
    rcases hp with rfl | rfl | rfl | rfl <;> exact ⟨_, rfl⟩
  obtain ⟨x, rfl⟩ := hv8
  exact hcs _ x h2.symm
theorem not_u8s {x y : Int} {a : Option Addr} {n c : Nat} : ∀ (j : Nat) (z : Int), (#[Value.int .i64 x, .int .i64 y, .slice a n c] : Array Value)[j]? ≠ some (.int .u8 z) := by
  intro j z
  match j with
  | 0 => simp
  | 1 => simp
  | 2 => simp
  | j + 3 => simp

set_option maxRecDepth 100000 in
set_option maxHeartbeats 4000000 in
theorem p_Blank (x y : Int) (w : World) : Calls Try.prog 66 #[.int .i64 x, .int .i64 y] w (RetR w (blankR x y)) := by
  by_cases hx : 1 ≤ x ∧ x ≤ 64
  · have HX := hidP (decide_eq_true hx)
    by_cases hy : 1 ≤ y ∧ y ≤ 64
    · have HY := hidP (decide_eq_true hy)
      obtain ⟨hx1, hx2⟩ := hx
      obtain ⟨hy1, hy2⟩ := hy
      obtain ⟨hm1, hm2⟩ := mul_box hx1 hx2 hy1 hy2
      have hR : blankR x y = (x, y, List.replicate (x * y).toNat zeroC) := if_pos ⟨hx1, hx2, hy1, hy2⟩
      obtain ⟨N, hN⟩ : ∃ N : Nat, x * y = (N : Int) := ⟨(x * y).toNat, by omega⟩
      rw [hN, Int.toNat_natCast] at hR
      have HR := hidP hR
      have hN4 : N ≤ 4096 := by omega
      clear hR
      generalize blankR x y = rr at *
      go_enter Try.func66, Try.ntmps66
      go_wp2_with fail
      refine absC (fun x1 hx1 => ?_)
      have hx : Ext w x1 := by rw [hx1]; exact ((Ext.refl _).alloc _)
      have bs : Bl x1 (w.heap.size) #[.int .i64 0, .int .i64 0, .slice none 0 0] := by rw [hx1]; exact (Bl.new (by simp))
      have fs : Fz x1 (w.heap.size) := by rw [hx1]; exact (Fz.new (by simp))
      have HE := hx
      clear hx
      clear hx1
      refine (p_side x _).mono ?_
      rw [HX.out]
      rintro e u1 ⟨rfl, rfl⟩
      go_wp2_with fail
      refine (p_side y _).mono ?_
      rw [HY.out]
      rintro e u2 ⟨rfl, rfl⟩
      go_wp2_with (first | (at_make; refine wpList_makeC (W := x1) (n := N) rfl _ _ rfl rfl rfl (Ext.refl _) (by omega) ?_; intro w0 hs0 hx; have bs0 := Bl.ext hx bs (Nat.succ_pos _); have fs0 := Fz.ext hx fs bs (Nat.succ_pos _)))
      clear bs fs
      have bs := bs0; have fs := fs0
      clear bs0 fs0
      replace HE := HE.trans hx
      clear hx
      go_wp2_with fail
      refine absB (fun ue hue => ?_)
      have hbs : Bl ue (w.heap.size) #[.int .i64 x, .int .i64 y, .slice (some ⟨x1.heap.size, 0, none⟩) N N] := by rw [hue]; exact (((bs.set (by simp)).set (by simp)).set (by simp))
      have hnc : ∀ {aa : Option Addr} {nn cc : Nat} {ll : List Col}, SlC w0 aa nn cc ll → SlC ue aa nn cc ll := fun h => by
        rw [hue]
        exact h.but bs (not_u8s) ((But.refl _ _).store.store.store)
      have heu : Ext w ue := by rw [hue]; exact ((HE.store (by show w.heap.size ≤ w.heap.size; omega) _).store (by show w.heap.size ≤ w.heap.size; omega) _).store (by show w.heap.size ≤ w.heap.size; omega) _
      clear hue
      refine bodyPost_cells rfl rfl Try.underlying69 rfl (by kernel_rfl) (blk_three hbs) rfl ?_
      rw [HR.out]
      exact ⟨_, _, _, rfl, hnc hs0, heu⟩
    · have HY := hidP (decide_eq_false hy)
      have HR : Hid (blankR x y = (0, 0, [])) := hidP (if_neg (fun h => hy ⟨h.2.2.1, h.2.2.2⟩))
      generalize blankR x y = rr at *
      clear hx hy
      go_enter Try.func66, Try.ntmps66
      go_wp2_with fail
      refine absC (fun x1 hx1 => ?_)
      have hx : Ext w x1 := by rw [hx1]; exact ((Ext.refl _).alloc _)
      have bs : Bl x1 (w.heap.size) #[.int .i64 0, .int .i64 0, .slice none 0 0] := by rw [hx1]; exact (Bl.new (by simp))
      have fs : Fz x1 (w.heap.size) := by rw [hx1]; exact (Fz.new (by simp))
      have HE := hx
      clear hx
      clear hx1
      refine (p_side x _).mono ?_
      rw [HX.out]
      rintro e u1 ⟨rfl, rfl⟩
      go_wp2_with fail
      refine (p_side y _).mono ?_
      rw [HY.out]
      rintro e u2 ⟨rfl, rfl⟩
      go_wp2_with fail
      refine absB (fun ue hue => ?_)
      have hbs : Bl ue (w.heap.size) #[.int .i64 0, .int .i64 0, .slice none 0 0] := by rw [hue]; exact (((bs.set (by simp)).set (by simp)).set (by simp))
      have hnc : ∀ {aa : Option Addr} {nn cc : Nat} {ll : List Col}, SlC x1 aa nn cc ll → SlC ue aa nn cc ll := fun h => by
        rw [hue]
        exact h.but bs (not_u8s) ((But.refl _ _).store.store.store)
      have heu : Ext w ue := by rw [hue]; exact ((HE.store (by show w.heap.size ≤ w.heap.size; omega) _).store (by show w.heap.size ≤ w.heap.size; omega) _).store (by show w.heap.size ≤ w.heap.size; omega) _
      clear hue
      refine bodyPost_cells rfl rfl Try.underlying69 rfl (by kernel_rfl) (blk_three hbs) rfl ?_
      rw [HR.out]
      exact ⟨none, 0, 0, rfl, SlK.nil 4 _, heu⟩
  · have HX := hidP (decide_eq_false hx)
    have HR : Hid (blankR x y = (0, 0, [])) := hidP (if_neg (fun h => hx ⟨h.1, h.2.1⟩))
    generalize blankR x y = rr at *
    clear hx
    go_enter Try.func66, Try.ntmps66
    go_wp2_with fail
    refine absC (fun x1 hx1 => ?_)
    have hx : Ext w x1 := by rw [hx1]; exact ((Ext.refl _).alloc _)
    have bs : Bl x1 (w.heap.size) #[.int .i64 0, .int .i64 0, .slice none 0 0] := by rw [hx1]; exact (Bl.new (by simp))
    have fs : Fz x1 (w.heap.size) := by rw [hx1]; exact (Fz.new (by simp))
    have HE := hx
    clear hx
    clear hx1
    refine (p_side x _).mono ?_
    rw [HX.out]
    rintro e u1 ⟨rfl, rfl⟩
    go_wp2_with fail
    refine absB (fun ue hue => ?_)
    have hbs : Bl ue (w.heap.size) #[.int .i64 0, .int .i64 0, .slice none 0 0] := by rw [hue]; exact (((bs.set (by simp)).set (by simp)).set (by simp))
    have hnc : ∀ {aa : Option Addr} {nn cc : Nat} {ll : List Col}, SlC x1 aa nn cc ll → SlC ue aa nn cc ll := fun h => by
      rw [hue]
      exact h.but bs (not_u8s) ((But.refl _ _).store.store.store)
    have heu : Ext w ue := by rw [hue]; exact ((HE.store (by show w.heap.size ≤ w.heap.size; omega) _).store (by show w.heap.size ≤ w.heap.size; omega) _).store (by show w.heap.size ≤ w.heap.size; omega) _
    clear hue
    refine bodyPost_cells rfl rfl Try.underlying69 rfl (by kernel_rfl) (blk_three hbs) rfl ?_
    rw [HR.out]
    exact ⟨none, 0, 0, rfl, SlK.nil 4 _, heu⟩

theorem ends_col (q : Col) : ∀ u ∈ (#[Value.int .u8 (q.1 : Int), .int .u8 (q.2.1 : Int), .int .u8 (q.2.2.1 : Int), .int .u8 (q.2.2.2 : Int)] : Array Value).toList, u.oneCell' = true := by
  intro u hu
  simp at hu
  rcases hu with rfl | rfl | rfl | rfl <;> rfl
set_option maxRecDepth 100000 in
set_option maxHeartbeats 4000000 in
theorem d_Blank (x y : Int) (w : World) : Calls Try.prog 67 #[.int .i64 x, .int .i64 y] w (RetR w (blankR x y)) := by
  by_cases hok : 1 ≤ x ∧ x ≤ 64 ∧ 1 ≤ y ∧ y ≤ 64
  · obtain ⟨hx1, hx2, hy1, hy2⟩ := hok
    obtain ⟨hm1, hm2⟩ := mul_box hx1 hx2 hy1 hy2
    have hR : blankR x y = (x, y, List.replicate (x * y).toNat zeroC) := if_pos ⟨hx1, hx2, hy1, hy2⟩
    obtain ⟨N, hN⟩ : ∃ N : Nat, x * y = (N : Int) := ⟨(x * y).toNat, by omega⟩
    rw [hN, Int.toNat_natCast] at hR
    have HR := hidP hR
    have hN4 : N ≤ 4096 := by omega
    clear hR
    generalize blankR x y = rr at *
    go_enter Try.func67, Try.ntmps67
    go_upto_region 4 with fail
    refine absW (fun x1 hx1 => ?_)
    have hx : Ext w x1 := by rw [hx1]; exact (((Ext.refl _).alloc _).alloc _)
    have bs : Bl x1 (w.heap.size) #[.int .i64 0, .int .i64 0, .slice none 0 0] := by rw [hx1]; exact ((Bl.new (by simp)).alloc (by simp))
    have fs : Fz x1 (w.heap.size) := by rw [hx1]; exact ((Fz.new (by simp)).alloc (Bl.new (by simp)) (by simp))
    have bt : Bl x1 (w.heap.size + 1) #[.int .i64 x, .int .i64 y, .slice none 0 0] := by rw [hx1]; exact (Bl.new (by simp))
    have ft : Fz x1 (w.heap.size + 1) := by rw [hx1]; exact (Fz.new (by simp))
    have HE := hx
    clear hx
    clear hx1
    have hB : w.heap.size + 2 ≤ x1.heap.size := by have := bt.lt (Nat.succ_pos _); omega
    have hz0 : x1.ownsRow (w.heap.size + 2) 73 4 (.slice none 0 0) 0 (cols (List.replicate 0 zeroC)) := World.ownsRow_nil _ _ _ _
    go_wp2_with fail
    go_loopw [6] (fun iv wr => ∃ (j : Nat) (v : Value), j ≤ N ∧ iv = .int .i64 (j : Int) ∧ wr.ownsRow (w.heap.size + 2) 73 4 v j (cols (List.replicate j zeroC)) ∧ Bl wr (w.heap.size + 1) #[.int .i64 x, .int .i64 y, v] ∧ Fz wr (w.heap.size + 1) ∧ Bl wr w.heap.size #[.int .i64 0, .int .i64 0, .slice none 0 0] ∧ Fz wr w.heap.size ∧ w.heap.size + 2 ≤ wr.heap.size ∧ Ext w wr) (fun iv _ => N - (intOf iv).toNat)
    case atStart => exact ⟨0, _, by omega, rfl, hz0, bt, ft, bs, fs, hB, HE⟩
    case round =>
      clear hz0 bt ft bs fs hB HE
      obtain ⟨j, v, hj, rfl, hown, bt, ft, bs, fs, hB, HE⟩ := hrel
      by_cases hlt : j < N
      · have hlt0 := hlt
        go_wp2_with (first | (at_builtin; refine wpList_appB T_col rfl _ _ rfl hown hB #[.int .u8 0, .int .u8 0, .int .u8 0, .int .u8 0] rfl (ends_col zeroC) rfl rfl (by omega) (by omega) ?_; intro v2 w2 hown2 hlow; obtain ⟨a2, c2, rfl, hs2⟩ := SlK.of_owns hown2; have bt2 := Bl.lowB hlow bt (by omega); have ft2 := Fz.lowB hlow ft (by omega)))
        have bs2 := Bl.lowB hlow bs (by omega)
        have fs2 := Fz.lowB hlow fs (by omega)
        have hb2 : But w2 (w2.setCell ⟨w.heap.size + 1, 2, none⟩ (.slice a2 (j + 1) c2)) (w.heap.size + 1) := (But.refl _ _).store
        go_roundw
        case rel =>
          refine ⟨j + 1, _, by omega, by go_num, ?_, bt2.set (by simp), ft2.set, hb2.bl bs2 (Nat.succ_pos _) (by omega), hb2.fz fs2 bs2 (Nat.succ_pos _) (by omega), Nat.le_trans (Nat.le_trans hB hlow.size) hb2.1, (Below.trans HE (hlow.mono (by omega))).setCell (by show w.heap.size ≤ w.heap.size + 1; omega) _⟩
          have e : cols (List.replicate (j + 1) zeroC) = cols (List.replicate j zeroC) ++ [.int .u8 0, .int .u8 0, .int .u8 0, .int .u8 0] := by
            rw [List.replicate_succ', cols_append]; rfl
          rw [e]
          exact hb2.rowB hown2 (by omega)
        case measure => simp only [intOf]; omega
      · obtain rfl : j = N := by omega
        obtain ⟨a2, c2, rfl, hs2⟩ := SlK.of_owns hown
        go_wp2_with fail
        refine absB (fun ue hue => ?_)
        have hbs : Bl ue (w.heap.size) #[.int .i64 x, .int .i64 y, .slice a2 j c2] := by rw [hue]; exact (((bs.set (by simp)).set (by simp)).set (by simp))
        have hnc : ∀ {aa : Option Addr} {nn cc : Nat} {ll : List Col}, SlC wr aa nn cc ll → SlC ue aa nn cc ll := fun h => by
          rw [hue]
          exact h.but bs (not_u8s) ((But.refl _ _).store.store.store)
        have heu : Ext w ue := by rw [hue]; exact ((HE.store (by show w.heap.size ≤ w.heap.size; omega) _).store (by show w.heap.size ≤ w.heap.size; omega) _).store (by show w.heap.size ≤ w.heap.size; omega) _
        clear hue
        refine bodyPost_cells rfl rfl Try.underlying69 rfl (by kernel_rfl) (blk_three hbs) rfl ?_
        rw [HR.out]
        exact ⟨_, _, _, rfl, hnc hs2, heu⟩
  · have HR : Hid (blankR x y = (0, 0, [])) := hidP (if_neg hok)
    generalize blankR x y = rr at *
    rcases (by omega : x < 1 ∨ (1 ≤ x ∧ 64 < x) ∨ (1 ≤ x ∧ x ≤ 64 ∧ y < 1) ∨ (1 ≤ x ∧ x ≤ 64 ∧ 1 ≤ y ∧ 64 < y)) with h1 | ⟨h0, h1⟩ | ⟨h0, h1, h2⟩ | ⟨h0, h1, h2, h3⟩ <;> clear hok
    all_goals (
      go_enter Try.func67, Try.ntmps67
      go_upto_region 2 with fail
      refine absW (fun x1 hx1 => ?_)
      have hx : Ext w x1 := by rw [hx1]; exact ((Ext.refl _).alloc _)
      have bs : Bl x1 (w.heap.size) #[.int .i64 0, .int .i64 0, .slice none 0 0] := by rw [hx1]; exact (Bl.new (by simp))
      have fs : Fz x1 (w.heap.size) := by rw [hx1]; exact (Fz.new (by simp))
      have HE := hx
      clear hx
      clear hx1
      go_wp2_with fail
      refine absB (fun ue hue => ?_)
      have hbs : Bl ue (w.heap.size) #[.int .i64 0, .int .i64 0, .slice none 0 0] := by rw [hue]; exact (((bs.set (by simp)).set (by simp)).set (by simp))
      have hnc : ∀ {aa : Option Addr} {nn cc : Nat} {ll : List Col}, SlC x1 aa nn cc ll → SlC ue aa nn cc ll := fun h => by
        rw [hue]
        exact h.but bs (not_u8s) ((But.refl _ _).store.store.store)
      have heu : Ext w ue := by rw [hue]; exact ((HE.store (by show w.heap.size ≤ w.heap.size; omega) _).store (by show w.heap.size ≤ w.heap.size; omega) _).store (by show w.heap.size ≤ w.heap.size; omega) _
      clear hue
      refine bodyPost_cells rfl rfl Try.underlying69 rfl (by kernel_rfl) (blk_three hbs) rfl ?_
      rw [HR.out]
      exact ⟨none, 0, 0, rfl, SlK.nil 4 _, heu⟩)

end Go.Proofs.Ytogcmnagiepofaa
