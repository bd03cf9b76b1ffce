/- Sets of cells: rows of truths, their page, one cell. -/
import Derived.Test.YtogcmnagiepofaaRB
namespace Go.Proofs.Ytogcmnagiepofaa
set_option linter.unusedVariables false
set_option linter.unusedSimpArgs false
open Go Go.RowKit

def bools (l : List Bool) : List Value := l.map Value.bool
theorem bools_append (l m : List Bool) : bools (l ++ m) = bools l ++ bools m := by simp [bools]
theorem bools_len (l : List Bool) : (bools l).length = l.length := by simp [bools]
theorem bools_get (l : List Bool) (i : Nat) (h : i < l.length) : (bools l)[i]? = some (.bool l[i]) := by simp [bools, h]
/-- A row of truths. -/
def SlB (w : World) (a : Option Addr) (n cap : Nat) (l : List Bool) : Prop := SlK 1 w a n cap (bools l)
theorem SlB.ext {w u : World} {a : Option Addr} {n cap : Nat} {l : List Bool} (h : SlB w a n cap l) (he : Ext w u) : SlB u a n cap l := SlK.ext h he
theorem SlB.len {w : World} {a : Option Addr} {n cap : Nat} {l : List Bool} (h : SlB w a n cap l) : l.length = n := by
  have h1 := h.1
  rw [bools_len] at h1
  omega
theorem SlB.at {w : World} {a : Option Addr} {n cap : Nat} {l : List Bool} (h : SlB w a n cap l) (h0 : 0 < n) : ∃ b off, a = some ⟨b, off, none⟩ ∧ ∀ (i : Nat) (hi : i < l.length), w.cell? ⟨b, off + i, none⟩ = some (.bool l[i]) := by
  obtain ⟨b, off, ha, hc⟩ := h.2.2.2 h0
  exact ⟨b, off, ha, fun i hi => hc _ _ (bools_get l i hi)⟩
theorem T_bool : SlTK Try.prog 42 4 1 (.bool false) 1 :=
  let ⟨i, h1, h2, h3, h4⟩ := info_parts (P := Try.prog) (e := 4) (z := .bool false) (size := 1) (bytes := 1) (by kernel_rfl); ⟨Try.underlying42, by omega, i, h1, h2, h3, h4, rfl⟩
theorem made_bools (n : Nat) : (madeCells (Value.cells (.bool false)) (n * 1)).toList = bools (List.replicate n false) := by
  rw [Nat.mul_one]
  show (madeCells #[Value.bool false] n).toList = _
  rw [toList_madeCells_one]
  simp [bools]
theorem wpList_makeB {ops : Array Oper} {rest : List Oper} {o : Oper} {a : Act} {Q : Exit → Act → World → Prop} {W w : World}
    (hgd : o.guard = none) (x y : Operand) (ho : o.op = .makeSlice 42 x y) {kl kc : IntKind} {n : Nat} (hx : a.eval x = .int kl (n : Int)) (hy : a.eval y = .int kc (n : Int)) (he : Ext W w) (hn : n ≤ 4096)
    (h : ∀ w', SlB w' (some ⟨w.heap.size, 0, none⟩) n n (List.replicate n false) → w'.ownsRow w.heap.size 4 1 (.slice (some ⟨w.heap.size, 0, none⟩) n n) n (bools (List.replicate n false)) → Ext W w' → wpList Try.prog ops Q rest (a.put o.dst (.slice (some ⟨w.heap.size, 0, none⟩) n n)) w') :
    wpList Try.prog ops Q (o :: rest) a w := by
  obtain ⟨ht, hK, i, hi, hz, hsz, hby, hzs⟩ := T_bool
  refine wpList_make_full w hgd x y _ ho w.heap.size _ i _ 1 ht hi hz hsz kl kc _ _ n hx hy rfl rfl (by rw [hby]; omega) (by unfold maxLen; omega) (Nat.le_refl _) (fun w' h1 h2 => ?_)
  rw [made_bools] at h1
  exact h w' (SlK.of_owns' h1) h1 (he.trans (Below.grown (Ext.refl w) h2 (Nat.le_refl _) (fun k hk => by cases hk)))
/-- The call hands back a set. -/
def RetB (w : World) (r : Int × Int × List Bool) (e : Ending) (w' : World) : Prop := ∃ a n c, e = .returned (rst r.1 r.2.1 a n c) ∧ SlB w' a n c r.2.2 ∧ Ext w w'
/-- A set of the call's own, which may be written. -/
def RetBo (w : World) (r : Int × Int × List Bool) (e : Ending) (w' : World) : Prop := ∃ a n c, e = .returned (rst r.1 r.2.1 a n c) ∧ SlB w' a n c r.2.2 ∧ w'.ownsRow w.heap.size 4 1 (.slice a n c) n (bools r.2.2) ∧ Ext w w'
theorem RetBo.ret {w w' : World} {r : Int × Int × List Bool} {e : Ending} (h : RetBo w r e w') : RetB w r e w' := by
  obtain ⟨a, n, c, h1, h2, h3, h4⟩ := h
  exact ⟨a, n, c, h1, h2, h4⟩
def newB (x y : Int) : Int × Int × List Bool := if 1 ≤ x ∧ x ≤ 64 ∧ 1 ≤ y ∧ y ≤ 64 then (x, y, List.replicate (x * y).toNat false) else (0, 0, [])
/-- A block that holds no truth is none of a row of truths. -/
theorem SlB.but {w u : World} {g : Nat} {cs : Array Value} {a : Option Addr} {n cap : Nat} {l : List Bool} (h : SlB w a n cap l) (hb : Bl w g cs) (hcs : ∀ (j : Nat) (x : Bool), cs[j]? ≠ some (Value.bool x)) (hu : But w u g) : SlB u a n cap l := by
  refine ⟨h.1, h.2.1, h.2.2.1, fun h0 => ?_⟩
  obtain ⟨b, off, ha, hc⟩ := h.2.2.2 h0
  refine ⟨b, off, ha, fun i v hv => ?_⟩
  have h1 := hc i v hv
  refine hu.cell h1 (fun hbg => ?_)
  have hbg' : b = g := hbg
  subst hbg'
  have h2 := hb (off + i)
  rw [h1] at h2
  have hm := List.mem_of_getElem? hv
  unfold bools at hm
  rw [List.mem_map] at hm
  obtain ⟨x, _, rfl⟩ := hm
  exact hcs _ x h2.symm
theorem not_bools {x y : Int} {a : Option Addr} {n c : Nat} : ∀ (j : Nat) (z : Bool), (#[Value.int .i64 x, .int .i64 y, .slice a n c] : Array Value)[j]? ≠ some (.bool z) := by
  intro j z
  match j with
  | 0 => simp
  | 1 => simp
  | 2 => simp
  | j + 3 => simp

set_option maxRecDepth 100000 in
set_option maxHeartbeats 4000000 in
theorem c_page (x y : Int) (w : World) : Calls Try.prog 100 #[.int .i64 x, .int .i64 y] w fun e w' => e = .returned (.bool (decide (1 ≤ x ∧ x ≤ 64 ∧ 1 ≤ y ∧ y ≤ 64))) ∧ w = w' := by
  by_cases hok : 1 ≤ x ∧ x ≤ 64 ∧ 1 ≤ y ∧ y ≤ 64
  · rw [decide_eq_true hok]
    obtain ⟨h1, h2, h3, h4⟩ := hok
    go_enter Try.func100, Try.ntmps100
    go_wp2_with fail
    go_ret
    exact ⟨rfl, rfl⟩
  · rw [decide_eq_false hok]
    rcases (by omega : x < 1 ∨ (1 ≤ x ∧ 64 < x) ∨ (1 ≤ x ∧ x ≤ 64 ∧ y < 1) ∨ (1 ≤ x ∧ x ≤ 64 ∧ 1 ≤ y ∧ 64 < y)) with h1 | ⟨h0, h1⟩ | ⟨h0, h1, h2⟩ | ⟨h0, h1, h2, h3⟩ <;> clear hok
    all_goals (
      go_enter Try.func100, Try.ntmps100
      go_wp2_with fail
      go_ret
      exact ⟨(by first | rfl | (refine congrArg (fun b => Ending.returned (Value.bool b)) (?_ : _ = false); exact decide_eq_false (by omega))), rfl⟩)

set_option maxRecDepth 100000 in
set_option maxHeartbeats 4000000 in
theorem c_May (x y : Int) (a : Option Addr) (n c : Nat) (w : World) : Calls Try.prog 43 #[rst x y a n c] w fun e w' => e = .returned (.bool (mayR x y n)) ∧ Ext w w' := by
  by_cases hok : 1 ≤ x ∧ x ≤ 64 ∧ 1 ≤ y ∧ y ≤ 64
  · have HP := hidP (fun w => c_page x y w)
    rw [decide_eq_true hok] at HP
    obtain ⟨hx1, hx2, hy1, hy2⟩ := hok
    obtain ⟨hm1, hm2⟩ := mul_box hx1 hx2 hy1 hy2
    by_cases hn : (n : Int) = x * y
    · have HR : Hid (mayR x y n = true) := hidP (decide_eq_true ⟨hx1, hx2, hy1, hy2, hn⟩)
      have hn2 : ((n : Int) == x * y) = true := by simpa using hn
      generalize mayR x y n = rr at *
      go_enter Try.func43, Try.ntmps43
      go_wp2_with fail
      refine absC (fun x1 hx1 => ?_)
      have hx : Ext w x1 := by rw [hx1]; exact ((Ext.refl _).alloc _)
      have bp : Bl x1 (w.heap.size) #[.int .i64 x, .int .i64 y, .slice a n c] := by rw [hx1]; exact (Bl.new (by simp))
      have HE := hx
      clear hx
      clear hx1
      refine (HP.out _).mono ?_
      rintro e u1 ⟨rfl, rfl⟩
      go_wp2_with fail
      go_ret
      exact ⟨by rw [HR.out]; rfl, HE⟩
    · have HR : Hid (mayR x y n = false) := hidP (decide_eq_false (fun h => hn h.2.2.2.2))
      have hn2 : ((n : Int) == x * y) = false := by simpa using hn
      generalize mayR x y n = rr at *
      go_enter Try.func43, Try.ntmps43
      go_wp2_with fail
      refine absC (fun x1 hx1 => ?_)
      have hx : Ext w x1 := by rw [hx1]; exact ((Ext.refl _).alloc _)
      have bp : Bl x1 (w.heap.size) #[.int .i64 x, .int .i64 y, .slice a n c] := by rw [hx1]; exact (Bl.new (by simp))
      have HE := hx
      clear hx
      clear hx1
      refine (HP.out _).mono ?_
      rintro e u1 ⟨rfl, rfl⟩
      go_wp2_with fail
      go_ret
      exact ⟨by rw [HR.out]; rfl, HE⟩
  · have HR : Hid (mayR x y n = false) := hidP (decide_eq_false (fun h => hok ⟨h.1, h.2.1, h.2.2.1, h.2.2.2.1⟩))
    generalize mayR x y n = rr at *
    have HP := hidP (fun w => c_page x y w)
    rw [decide_eq_false hok] at HP
    clear hok
    go_enter Try.func43, Try.ntmps43
    go_wp2_with fail
    refine absC (fun x1 hx1 => ?_)
    have hx : Ext w x1 := by rw [hx1]; exact ((Ext.refl _).alloc _)
    have bp : Bl x1 (w.heap.size) #[.int .i64 x, .int .i64 y, .slice a n c] := by rw [hx1]; exact (Bl.new (by simp))
    have HE := hx
    clear hx
    clear hx1
    refine (HP.out _).mono ?_
    rintro e u1 ⟨rfl, rfl⟩
    go_wp2_with fail
    go_ret
    exact ⟨by rw [HR.out]; rfl, HE⟩

set_option maxRecDepth 100000 in
set_option maxHeartbeats 4000000 in
theorem e_May (x y : Int) (a : Option Addr) (n c : Nat) (w : World) : Calls Try.prog 44 #[rst x y a n c] w fun e w' => e = .returned (.bool (mayR x y n)) ∧ Ext w w' := by
  by_cases hok : 1 ≤ x ∧ x ≤ 64 ∧ 1 ≤ y ∧ y ≤ 64
  · skip
    obtain ⟨hx1, hx2, hy1, hy2⟩ := hok
    obtain ⟨hm1, hm2⟩ := mul_box hx1 hx2 hy1 hy2
    by_cases hn : (n : Int) = x * y
    · have HR : Hid (mayR x y n = true) := hidP (decide_eq_true ⟨hx1, hx2, hy1, hy2, hn⟩)
      have hn2 : ((n : Int) == x * y) = true := by simpa using hn
      generalize mayR x y n = rr at *
      go_enter Try.func44, Try.ntmps44
      go_wp2_with fail
      go_ret
      exact ⟨by rw [HR.out]; rfl, (Ext.refl _).alloc _⟩
    · have HR : Hid (mayR x y n = false) := hidP (decide_eq_false (fun h => hn h.2.2.2.2))
      have hn2 : ((n : Int) == x * y) = false := by simpa using hn
      generalize mayR x y n = rr at *
      go_enter Try.func44, Try.ntmps44
      go_wp2_with fail
      go_ret
      exact ⟨by rw [HR.out]; rfl, (Ext.refl _).alloc _⟩
  · have HR : Hid (mayR x y n = false) := hidP (decide_eq_false (fun h => hok ⟨h.1, h.2.1, h.2.2.1, h.2.2.2.1⟩))
    generalize mayR x y n = rr at *
    rcases (by omega : x < 1 ∨ (1 ≤ x ∧ 64 < x) ∨ (1 ≤ x ∧ x ≤ 64 ∧ y < 1) ∨ (1 ≤ x ∧ x ≤ 64 ∧ 1 ≤ y ∧ 64 < y)) with h1 | ⟨h0, h1⟩ | ⟨h0, h1, h2⟩ | ⟨h0, h1, h2, h3⟩ <;> clear hok
    all_goals (
      go_enter Try.func44, Try.ntmps44
      go_wp2_with fail
      go_ret
      exact ⟨by rw [HR.out]; rfl, (Ext.refl _).alloc _⟩)

theorem ownsRow_mono {w : World} {B B' e K m : Nat} {v : Value} {xs : List Value} (hr : w.ownsRow B e K v m xs) (h : B' ≤ B) : w.ownsRow B' e K v m xs := by
  obtain ⟨h1, h2⟩ := hr
  refine ⟨h1, ?_⟩
  rcases h2 with h2 | ⟨g2, cap2, cur, hv, hg, hh, hn, hm, hs, hx⟩
  · exact .inl h2
  · exact .inr ⟨g2, cap2, cur, hv, Nat.le_trans h hg, hh, hn, hm, hs, hx⟩

set_option maxRecDepth 100000 in
set_option maxHeartbeats 4000000 in
theorem c_New (x y : Int) (w : World) : Calls Try.prog 55 #[.int .i64 x, .int .i64 y] w (RetBo w (newB x y)) := by
  by_cases hok : 1 ≤ x ∧ x ≤ 64 ∧ 1 ≤ y ∧ y ≤ 64
  · have HP := hidP (fun w => c_page x y w)
    rw [decide_eq_true hok] at HP
    have hR : newB x y = (x, y, List.replicate (x * y).toNat false) := if_pos hok
    obtain ⟨hx1, hx2, hy1, hy2⟩ := hok
    obtain ⟨hm1, hm2⟩ := mul_box hx1 hx2 hy1 hy2
    obtain ⟨N, hN⟩ : ∃ N : Nat, x * y = (N : Int) := ⟨(x * y).toNat, by omega⟩
    rw [hN, Int.toNat_natCast] at hR
    have HR := hidP hR
    have hN4 : N ≤ 4096 := by omega
    clear hR
    generalize newB x y = rr at *
    go_enter Try.func55, Try.ntmps55
    go_wp2_with fail
    refine absC (fun x1 hx1 => ?_)
    have hx : Ext w x1 := by rw [hx1]; exact ((Ext.refl _).alloc _)
    have bs : Bl x1 (w.heap.size) #[.int .i64 0, .int .i64 0, .slice none 0 0] := by rw [hx1]; exact (Bl.new (by simp))
    have fs : Fz x1 (w.heap.size) := by rw [hx1]; exact (Fz.new (by simp))
    have HE := hx
    clear hx
    clear hx1
    refine (HP.out _).mono ?_
    rintro e u1 ⟨rfl, rfl⟩
    go_wp2_with (first | (at_make; refine wpList_makeB (W := x1) (n := N) rfl _ _ rfl rfl rfl (Ext.refl _) (by omega) ?_; intro w0 hs0 ho0 hx; have bs0 := Bl.ext hx bs (Nat.succ_pos _); have fs0 := Fz.ext hx fs bs (Nat.succ_pos _)))
    have lsx := bs.lt (Nat.succ_pos _)
    clear bs fs
    have bs := bs0; have fs := fs0
    clear bs0 fs0
    replace HE := HE.trans hx
    clear hx
    go_wp2_with fail
    refine absB (fun ue hue => ?_)
    have hbs : Bl ue (w.heap.size) #[.int .i64 x, .int .i64 y, .slice (some ⟨x1.heap.size, 0, none⟩) N N] := by rw [hue]; exact (((bs.set (by simp)).set (by simp)).set (by simp))
    have hbt : But w0 ue (w.heap.size) := by rw [hue]; exact ((But.refl _ _).store.store.store)
    have heu : Ext w ue := by rw [hue]; exact ((HE.store (by show w.heap.size ≤ w.heap.size; omega) _).store (by show w.heap.size ≤ w.heap.size; omega) _).store (by show w.heap.size ≤ w.heap.size; omega) _
    clear hue
    refine bodyPost_cells rfl rfl Try.underlying44 rfl (by kernel_rfl) (blk_three hbs) rfl ?_
    rw [HR.out]
    exact ⟨_, _, _, rfl, hs0.but bs not_bools hbt, ownsRow_mono (hbt.rowB ho0 (by omega)) (by omega), heu⟩
  · have HR : Hid (newB x y = (0, 0, [])) := hidP (if_neg hok)
    generalize newB x y = rr at *
    have HP := hidP (fun w => c_page x y w)
    rw [decide_eq_false hok] at HP
    clear hok
    go_enter Try.func55, Try.ntmps55
    go_wp2_with fail
    refine absC (fun x1 hx1 => ?_)
    have hx : Ext w x1 := by rw [hx1]; exact ((Ext.refl _).alloc _)
    have bs : Bl x1 (w.heap.size) #[.int .i64 0, .int .i64 0, .slice none 0 0] := by rw [hx1]; exact (Bl.new (by simp))
    have fs : Fz x1 (w.heap.size) := by rw [hx1]; exact (Fz.new (by simp))
    have HE := hx
    clear hx
    clear hx1
    refine (HP.out _).mono ?_
    rintro e u1 ⟨rfl, rfl⟩
    go_wp2_with fail
    refine absB (fun ue hue => ?_)
    have hbs : Bl ue (w.heap.size) #[.int .i64 0, .int .i64 0, .slice none 0 0] := by rw [hue]; exact (((bs.set (by simp)).set (by simp)).set (by simp))
    have hbt : But x1 ue (w.heap.size) := by rw [hue]; exact ((But.refl _ _).store.store.store)
    have heu : Ext w ue := by rw [hue]; exact ((HE.store (by show w.heap.size ≤ w.heap.size; omega) _).store (by show w.heap.size ≤ w.heap.size; omega) _).store (by show w.heap.size ≤ w.heap.size; omega) _
    clear hue
    refine bodyPost_cells rfl rfl Try.underlying44 rfl (by kernel_rfl) (blk_three hbs) rfl ?_
    rw [HR.out]
    exact ⟨none, 0, 0, rfl, SlK.nil 1 _, World.ownsRow_nil _ _ _ _, heu⟩

set_option maxRecDepth 100000 in
set_option maxHeartbeats 4000000 in
theorem e_New (x y : Int) (w : World) : Calls Try.prog 56 #[.int .i64 x, .int .i64 y] w (RetBo w (newB x y)) := by
  by_cases hok : 1 ≤ x ∧ x ≤ 64 ∧ 1 ≤ y ∧ y ≤ 64
  · skip
    have hR : newB x y = (x, y, List.replicate (x * y).toNat false) := if_pos hok
    obtain ⟨hx1, hx2, hy1, hy2⟩ := hok
    obtain ⟨hm1, hm2⟩ := mul_box hx1 hx2 hy1 hy2
    obtain ⟨N, hN⟩ : ∃ N : Nat, x * y = (N : Int) := ⟨(x * y).toNat, by omega⟩
    rw [hN, Int.toNat_natCast] at hR
    have HR := hidP hR
    have hN4 : N ≤ 4096 := by omega
    clear hR
    generalize newB x y = rr at *
    go_enter Try.func56, Try.ntmps56
    go_upto_region 3 with fail
    refine absW (fun x1 hx1 => ?_)
    have hx : Ext w x1 := by rw [hx1]; exact ((Ext.refl _).alloc _)
    have bs : Bl x1 (w.heap.size) #[.int .i64 0, .int .i64 0, .slice none 0 0] := by rw [hx1]; exact (Bl.new (by simp))
    have fs : Fz x1 (w.heap.size) := by rw [hx1]; exact (Fz.new (by simp))
    have HE := hx
    clear hx
    clear hx1
    go_wp2_with (first | (at_make; refine wpList_makeB (W := x1) (n := N) rfl _ _ rfl rfl rfl (Ext.refl _) (by omega) ?_; intro w0 hs0 ho0 hx; have bs0 := Bl.ext hx bs (Nat.succ_pos _); have fs0 := Fz.ext hx fs bs (Nat.succ_pos _)))
    have lsx := bs.lt (Nat.succ_pos _)
    clear bs fs
    have bs := bs0; have fs := fs0
    clear bs0 fs0
    replace HE := HE.trans hx
    clear hx
    go_wp2_with fail
    refine absB (fun ue hue => ?_)
    have hbs : Bl ue (w.heap.size) #[.int .i64 x, .int .i64 y, .slice (some ⟨x1.heap.size, 0, none⟩) N N] := by rw [hue]; exact (((bs.set (by simp)).set (by simp)).set (by simp))
    have hbt : But w0 ue (w.heap.size) := by rw [hue]; exact ((But.refl _ _).store.store.store)
    have heu : Ext w ue := by rw [hue]; exact ((HE.store (by show w.heap.size ≤ w.heap.size; omega) _).store (by show w.heap.size ≤ w.heap.size; omega) _).store (by show w.heap.size ≤ w.heap.size; omega) _
    clear hue
    refine bodyPost_cells rfl rfl Try.underlying44 rfl (by kernel_rfl) (blk_three hbs) rfl ?_
    rw [HR.out]
    exact ⟨_, _, _, rfl, hs0.but bs not_bools hbt, ownsRow_mono (hbt.rowB ho0 (by omega)) (by omega), heu⟩
  · have HR : Hid (newB x y = (0, 0, [])) := hidP (if_neg hok)
    generalize newB x y = rr at *
    rcases (by omega : x < 1 ∨ (1 ≤ x ∧ 64 < x) ∨ (1 ≤ x ∧ x ≤ 64 ∧ y < 1) ∨ (1 ≤ x ∧ x ≤ 64 ∧ 1 ≤ y ∧ 64 < y)) with h1 | ⟨h0, h1⟩ | ⟨h0, h1, h2⟩ | ⟨h0, h1, h2, h3⟩ <;> clear hok
    all_goals (
      go_enter Try.func56, Try.ntmps56
      go_upto_region 2 with fail
      refine absW (fun x1 hx1 => ?_)
      have hx : Ext w x1 := by rw [hx1]; exact ((Ext.refl _).alloc _)
      have bs : Bl x1 (w.heap.size) #[.int .i64 0, .int .i64 0, .slice none 0 0] := by rw [hx1]; exact (Bl.new (by simp))
      have fs : Fz x1 (w.heap.size) := by rw [hx1]; exact (Fz.new (by simp))
      have HE := hx
      clear hx
      clear hx1
      go_wp2_with fail
      refine absB (fun ue hue => ?_)
      have hbs : Bl ue (w.heap.size) #[.int .i64 0, .int .i64 0, .slice none 0 0] := by rw [hue]; exact (((bs.set (by simp)).set (by simp)).set (by simp))
      have hbt : But x1 ue (w.heap.size) := by rw [hue]; exact ((But.refl _ _).store.store.store)
      have heu : Ext w ue := by rw [hue]; exact ((HE.store (by show w.heap.size ≤ w.heap.size; omega) _).store (by show w.heap.size ≤ w.heap.size; omega) _).store (by show w.heap.size ≤ w.heap.size; omega) _
      clear hue
      refine bodyPost_cells rfl rfl Try.underlying44 rfl (by kernel_rfl) (blk_three hbs) rfl ?_
      rw [HR.out]
      exact ⟨none, 0, 0, rfl, SlK.nil 1 _, World.ownsRow_nil _ _ _ _, heu⟩)

end Go.Proofs.Ytogcmnagiepofaa
