/- The program's whole numbers: sums of rows. -/
import Derived.Test.YtcipcpbjkcpgdaaM5
import Derived.Test.YtcipcpbjkcpgdaaM6
import Derived.Deep.DeepCutAuto
namespace Go.Proofs.Ytcipcpbjkcpgdaa
set_option linter.unusedVariables false
open Go Go.RowKit

theorem w_AddW {neg neg' : Bool} {a a' : Option Addr} {n cap n' cap' : Nat} {z z' : Int} {w : World} (h : WhIn w neg a n cap z) (h' : WhIn w neg' a' n' cap' z') :
    Calls Try.prog 68 #[.agg #[.bool neg, .slice a n cap], .agg #[.bool neg', .slice a' n' cap']] w (RetW w (z + z')) := w_Add_any neg neg' a a' n cap n' cap' z z' w h h'
theorem w_Make_w {w : World} {neg : Bool} {a : Option Addr} {n cap : Nat} {z : Int} (h : WhIn w neg a n cap z) : Calls Try.prog 64 #[.bool neg, .slice a n cap] w (RetW w z) := by
  obtain ⟨⟨l, hs, hl, hz⟩, hn⟩ := h
  have := w_Make_any neg a n cap l w hs hl (by omega)
  rwa [hz] at this
/-- One more is added into the block g. -/
def RetTake (w : World) (g : Nat) (z : Int) (e : Ending) (w' : World) : Prop :=
  ∃ a n c, e = .returned (.tuple #[]) ∧ Bl w' g #[.bool (decide (z < 0)), .slice a n c] ∧ Fz w' g ∧ Nc w' a n c z.natAbs ∧ But w w' g ∧ ∀ n0, n0 ≤ g → Below n0 w w'

set_option maxRecDepth 100000 in
set_option maxHeartbeats 4000000 in
theorem w_take (g : Nat) (b b' : Bool) (a a' : Option Addr) (n c n' c' : Nat) (z z' : Int) (w : World) (hb : Bl w g #[.bool b, .slice a n c]) (hf : Fz w g) (hz : WhIn w b a n c z) (hz' : WhIn w b' a' n' c' z') :
    Calls Try.prog 146 #[.pointer (some ⟨g, 0, none⟩), .agg #[.bool b', .slice a' n' c']] w (RetTake w g (z + z')) := by
  have HZ := hidP hz; have HZ' := hidP hz'
  have hA := fun u b1 a1 n1 c1 b2 a2 n2 c2 (t1 : WhIn u b1 a1 n1 c1 z) (t2 : WhIn u b2 a2 n2 c2 z') => w_AddW t1 t2
  have HA := hidP hA
  generalize z + z' = y at *
  have bp := hb; have fp := hf
  have lgw := hb.lt (Nat.succ_pos _)
  clear hz hz' hA hb hf
  go_enter Try.func146, Try.ntmps146
  go_wp2_with fail
  refine wp_region_plan (R := Ext) (.q 0 (.q 1 (.q 2 (.q 3 (.q 4 (.q 5 (.l 6 (.q 7 (.q 8 (.b 9 .done)))))))))) (by kernel_rfl) (by kernel_rfl) (by kernel_rfl) (by kernel_rfl) Ext.refl (fun _ _ _ => Ext.trans) ?_
  refine absE (fun x1 hx1 => ?_)
  have hx : Ext w x1 := by rw [hx1]; exact ((Ext.refl _).alloc _).drew
  have bq : Bl x1 (w.heap.size) #[.bool b', .slice a' n' c'] := by rw [hx1]; exact (Bl.new (by simp)).drew
  replace fp := Fz.ext hx fp bp (Nat.succ_pos _)
  replace bp := Bl.ext hx bp (Nat.succ_pos _)
  have HE := hx
  clear hx
  clear hx1
  repeat (refine wpE_q (v := ?_) rfl rfl (fun u hu => ?_) ?_; rotate_left 1; (focus (have kp := Bl.ext hu bp (Nat.succ_pos _); have kq := Bl.ext hu bq (Nat.succ_pos _); go_simp; (try rfl))); simp only [Act.put, List.setIfInBounds_toArray, List.set_cons_zero, List.set_cons_succ])
  refine wpE_l rfl rfl (fun K hK => ?_)
  go_simp
  refine (HA.out _ _ _ _ _ _ _ _ _ (HZ.out.ext HE) (HZ'.out.ext HE)).mono ?_
  rintro e u1 ⟨a1, n1, c1, rfl, hs1, hx⟩
  refine hK.out _ _ hx ?_
  clear hK K
  try simp only [Act.put, List.setIfInBounds_toArray, List.set_cons_zero, List.set_cons_succ]
  replace fp := Fz.ext hx fp bp (Nat.succ_pos _)
  replace bp := Bl.ext hx bp (Nat.succ_pos _)
  replace bq := Bl.ext hx bq (Nat.succ_pos _)
  replace HE := HE.trans hx
  clear hx
  replace hs1 : Nc u1 a1 n1 c1 (y).natAbs := hs1
  repeat (refine wpE_q (v := ?_) rfl rfl (fun u hu => ?_) ?_; rotate_left 1; (focus (have kp := Bl.ext hu bp (Nat.succ_pos _); have kq := Bl.ext hu bq (Nat.succ_pos _); go_simp; (try rfl))); simp only [Act.put, List.setIfInBounds_toArray, List.set_cons_zero, List.set_cons_succ])
  refine wpE_b rfl rfl (fun K hK => ?_)
  go_simp
  refine hK.out _ _ ?_
  clear hK K
  try simp only [Act.put, List.setIfInBounds_toArray, List.set_cons_zero, List.set_cons_succ]
  refine wpE_done ?_
  go_wp2_with fail
  go_end0
  refine ⟨a1, n1, c1, rfl, ?_, fp.set.set, ?_, ((But.of_ext g HE).trans ((But.refl _ _).store.store)), fun n0 h0 => ((Below.mono HE (by omega)).setCell h0 _).setCell h0 _⟩
  · exact ((bp.set (by simp)).set (by simp))
  · exact hs1.but bp (not_ints2 nb_bool nb_slice) ((But.refl _ _).store.store)

def sumZ (l : List Int) : Int := l.foldl (· + ·) 0
theorem sumZ_snoc (l : List Int) (j : Nat) (h : j < l.length) : sumZ (l.take (j + 1)) = sumZ (l.take j) + l[j] := by
  unfold sumZ
  rw [List.take_succ_eq_append_getElem h, List.foldl_append]
  rfl
theorem sumZ_len {l : List Int} {N : Nat} (h : ∀ z ∈ l, dl z.natAbs ≤ N) (j : Nat) : dl (sumZ (l.take j)).natAbs ≤ N + j := by
  induction j with
  | zero =>
    have e : sumZ (l.take 0) = 0 := by simp [sumZ]
    rw [e, Int.natAbs_zero, dl_zero]
    omega
  | succ j ih =>
    by_cases hj : j < l.length
    · rw [sumZ_snoc l j hj]
      have := dz_add ih (Nat.le_trans (h l[j] (List.getElem_mem hj)) (Nat.le_add_right N j))
      omega
    · rw [List.take_of_length_le (by omega)]
      rw [List.take_of_length_le (by omega)] at ih
      omega
/-- A row of whole numbers. -/
def WhS (w : World) (a : Option Addr) (n cap : Nat) (l : List Int) (N : Nat) : Prop :=
  l.length = n ∧ n ≤ 1048576 ∧ (∀ z ∈ l, dl z.natAbs ≤ N) ∧ (0 < n → ∃ g off, a = some ⟨g, off, none⟩ ∧ ∀ (i : Nat) (h : i < l.length), ∃ (b : Bool) (a : Option Addr) (n c : Nat),
    w.cell? ⟨g, off + i * 2, none⟩ = some (.bool b) ∧ w.cell? ⟨g, off + i * 2 + 1, none⟩ = some (.slice a n c) ∧ WhIn w b a n c l[i])
theorem WhS.ext {w u : World} {a : Option Addr} {n cap N : Nat} {l : List Int} (h : WhS w a n cap l N) (he : Ext w u) : WhS u a n cap l N := by
  refine ⟨h.1, h.2.1, h.2.2.1, fun h0 => ?_⟩
  obtain ⟨g, off, ha, hi⟩ := h.2.2.2 h0
  refine ⟨g, off, ha, fun i hl => ?_⟩
  obtain ⟨b, a, n, c, h1, h2, h4⟩ := hi i hl
  exact ⟨b, a, n, c, he.cell' h1, he.cell' h2, h4.ext he⟩
theorem w_enters {P : Program} {F : FuncId} {fn : Func} (hf : P.funcs[F]? = some fn) (hn : (fn.name == "runtime.NumGoroutine") = false) (hb : fn.body.isNone = false) (args : Array Value) (u : World) :
    (callFunc F args).run P u = .ok (.enter F args) u := by
  have hn' : ¬ fn.name = "runtime.NumGoroutine" := by simpa using hn
  have hb' : ¬ fn.body = none := fun h => by rw [h] at hb; cases hb
  simp [callFunc, Sem.run_bind, hf, hn', hb']

set_option maxRecDepth 100000 in
set_option maxHeartbeats 4000000 in
theorem w_Sum (a : Option Addr) (n cap : Nat) (l : List Int) (N : Nat) (w : World) (h : WhS w a n cap l N) (hN : N ≤ 274877906944) :
    Calls Try.prog 84 #[.slice a n cap] w (RetW w (sumZ l)) := by
  have H := hidP h
  have hn := h.2.1
  have hll := hidP h.1
  have HL : Hid (∀ j, j ≤ n → dl (sumZ (l.take j)).natAbs ≤ 549755813888) := hidP (fun j hj => by
    have := sumZ_len h.2.2.1 j
    omega)
  have H0 : Hid (sumZ (l.take 0) = 0) := hidP (by simp [sumZ])
  have hmf : ∀ (fn : Fn) (first cap : Array Value) (w : World), (Instr.makeFunc fn first cap).run Try.prog w = .ok (.func fn first cap) w := fun _ _ _ _ => rfl
  have hcf := w_enters Try.func146 (by kernel_rfl) (by kernel_rfl)
  clear h hN
  go_enter Try.func84, Try.ntmps84
  go_wp2_with fail
  refine absW (fun x1 hx1 => ?_)
  have hx : Ext w x1 := by rw [hx1]; exact (((Ext.refl _).alloc _).alloc _)
  have bs : Bl x1 (w.heap.size) #[.bool false, .slice none 0 0] := by rw [hx1]; exact ((Bl.new (by simp)).alloc (by simp))
  have fs : Fz x1 (w.heap.size) := by rw [hx1]; exact ((Fz.new (by simp)).alloc (Bl.new (by simp)) (by simp))
  have bx : Bl x1 (w.heap.size + 1) #[.bool false, .slice none 0 0] := by rw [hx1]; exact (Bl.new (by simp))
  have fx : Fz x1 (w.heap.size + 1) := by rw [hx1]; exact (Fz.new (by simp))
  have HE := hx
  clear hx
  clear hx1
  go_loopw [10] (fun iv wr => ∃ (j : Nat) (r : Int) (a1 : Option Addr) (n1 c1 : Nat), j ≤ n ∧ iv = .int .i64 (j : Int) ∧ Hid (sumZ (l.take j) = r) ∧ Bl wr (w.heap.size + 1) #[.bool (decide (r < 0)), .slice a1 n1 c1] ∧ Fz wr (w.heap.size + 1) ∧ Nc wr a1 n1 c1 r.natAbs ∧ Bl wr w.heap.size #[.bool false, .slice none 0 0] ∧ Fz wr w.heap.size ∧ Ext w wr) (fun iv _ => n - (intOf iv).toNat)
  case atStart => exact ⟨0, 0, none, 0, 0, by omega, rfl, H0, bx, fx, Nc.zero _, bs, fs, HE⟩
  case round =>
    clear bx fx bs fs HE
    obtain ⟨j, r, a1, n1, c1, hj, rfl, HR, bx, fx, hs1, bs, fs, HE⟩ := hrel
    have lsx := bs.lt (Nat.succ_pos _)
    have lxx := bx.lt (Nat.succ_pos _)
    by_cases hlt : j < n
    · have hel := (H.out.ext HE).2.2.2 (by omega)
      obtain ⟨g, off, rfl, hc⟩ := hel
      obtain ⟨b2, a2, n2, c2, h1, h2, h4⟩ := hc j (by rw [hll.out]; exact hlt)
      clear hc
      have HQL : Hid (dl r.natAbs ≤ 549755813888) := hidP (by rw [← HR.out]; exact HL.out j (by omega))
      have hsn := sumZ_snoc l j (by rw [hll.out]; exact hlt)
      rw [HR.out] at hsn
      have HA := hidP (fun u b1 (hb1 : b1 = decide (r < 0)) (bl : Bl u (w.heap.size + 1) #[.bool b1, .slice a1 n1 c1]) (bf : Fz u (w.heap.size + 1)) (t1 : Nc u a1 n1 c1 r.natAbs) (t3 : WhIn u b2 a2 n2 c2 (l[j]'(by rw [hll.out]; exact hlt))) => w_take (w.heap.size + 1) b1 b2 a1 a2 n1 c1 n2 c2 r _ u bl bf (by rw [hb1]; exact t1.wh HQL.out) t3)
      generalize r + l[j]'(by rw [hll.out]; exact hlt) = r2 at *
      generalize l[j]'(by rw [hll.out]; exact hlt) = qj at *
      have HSN := hidP hsn
      have HH4 := hidP h4
      clear hsn h4
      generalize hrb : decide (r < 0) = rb at *
      have HRB := hidP hrb.symm
      clear hrb
      have HH5 := HH4.out
      go_wp2_with fail
      refine absC (fun x1 hx1 => ?_)
      have hx : Ext wr x1 := by rw [hx1]; exact ((Ext.refl _).alloc _)
      have bv : Bl x1 (wr.heap.size) #[.bool b2, .slice a2 n2 c2] := by rw [hx1]; exact (Bl.new (by simp))
      replace fs := Fz.ext hx fs bs (Nat.succ_pos _)
      replace bs := Bl.ext hx bs (Nat.succ_pos _)
      replace fx := Fz.ext hx fx bx (Nat.succ_pos _)
      replace bx := Bl.ext hx bx (Nat.succ_pos _)
      replace hs1 := hs1.ext hx
      replace HH5 := HH5.ext hx
      replace HE := HE.trans hx
      clear hx
      clear hx1
      refine (HA.out _ _ rfl bx fx hs1 HH5).mono ?_
      rintro e u3 ⟨a3, n3, c3, rfl, bx3, fx3, hs3, hbut, hlow⟩
      have HE3 : Ext w u3 := Below.trans HE (hlow w.heap.size (by omega))
      have bs3 := hbut.bl bs (Nat.succ_pos _) (by omega)
      have fs3 := hbut.fz fs bs (Nat.succ_pos _) (by omega)
      clear bs fs bx fx bv hs1 hbut hlow HE
      go_wp2_with fail
      go_roundw
      case rel => exact ⟨j + 1, r2, _, _, _, by omega, by go_num, HSN, bx3, fx3, hs3, bs3, fs3, HE3⟩
      case measure => simp only [intOf]; omega
    · obtain rfl : j = n := by omega
      have hr : sumZ l = r := by rw [← HR.out, List.take_of_length_le (by rw [hll.out]; omega)]
      have HRR := hidP hr
      have HQL : Hid (dl r.natAbs ≤ 549755813888) := hidP (by rw [← HR.out]; exact HL.out j (by omega))
      have HM := hidP (fun u b1 (hb1 : b1 = decide (r < 0)) (t1 : Nc u a1 n1 c1 r.natAbs) => w_Make_w (by rw [hb1]; exact t1.wh HQL.out : WhIn u b1 a1 n1 c1 r))
      generalize hrb : decide (r < 0) = rb at *
      have HRB := hidP hrb.symm
      clear hrb
      clear hr
      go_wp2_with fail
      refine (HM.out _ _ rfl hs1).mono ?_
      rintro e u2 ⟨a2, n2, c2, rfl, hs2, hx⟩
      replace fs := Fz.ext hx fs bs (Nat.succ_pos _)
      replace bs := Bl.ext hx bs (Nat.succ_pos _)
      replace fx := Fz.ext hx fx bx (Nat.succ_pos _)
      replace bx := Bl.ext hx bx (Nat.succ_pos _)
      replace hs1 := hs1.ext hx
      replace HE := HE.trans hx
      clear hx
      replace hs2 : Nc u2 a2 n2 c2 (r).natAbs := hs2
      have HS1 := hidP hs2
      clear hs1 hs2
      go_wp2_with fail
      refine absB (fun ue hue => ?_)
      have hbs : Bl ue (w.heap.size) #[.bool (decide (r < 0)), .slice a2 n2 c2] := by rw [hue]; exact ((bs.set (by simp)).set (by simp))
      have hnc : ∀ {aa : Option Addr} {nn cc VV : Nat}, Nc u2 aa nn cc VV → Nc ue aa nn cc VV := fun h => by
        rw [hue]
        exact h.but bs (not_ints2 nb_bool nb_slice) ((But.refl _ _).store.store)
      have heu : Ext w ue := by rw [hue]; exact ((HE.store (by show w.heap.size ≤ w.heap.size; omega) _).store (by show w.heap.size ≤ w.heap.size; omega) _)
      clear hue
      refine bodyPost_cells rfl rfl Try.underlying51 rfl (by kernel_rfl) (bl_two hbs) rfl ?_
      rw [HRR.out]
      exact ⟨a2, n2, c2, rfl, hnc HS1.out, heu⟩

end Go.Proofs.Ytcipcpbjkcpgdaa
