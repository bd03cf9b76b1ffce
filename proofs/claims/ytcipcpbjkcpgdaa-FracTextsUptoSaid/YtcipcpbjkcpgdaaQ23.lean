/- The program's fractions on rationals: sums of rows. -/
import Derived.Test.YtcipcpbjkcpgdaaQ22
namespace Go.Proofs.Ytcipcpbjkcpgdaa
set_option linter.unusedVariables false
open Go Go.RowKit

def sumQ (l : List Rat) : Rat := l.foldl (· + ·) 0
theorem sumQ_snoc (l : List Rat) (j : Nat) (h : j < l.length) : sumQ (l.take (j + 1)) = sumQ (l.take j) + l[j] := by
  unfold sumQ
  rw [List.take_succ_eq_append_getElem h, List.foldl_append]
  rfl
theorem sumQ_len {l : List Rat} {N : Nat} (h : ∀ q ∈ l, ql q ≤ N) (j : Nat) : ql (sumQ (l.take j)) ≤ j * (N + 1) + 1 := by
  induction j with
  | zero =>
    have e : sumQ (l.take 0) = 0 := by simp [sumQ]
    rw [e]
    have : ql 0 ≤ 1 := by
      unfold ql
      rw [Rat.zero_num, Rat.zero_den, dl_one]
      simp [dl_zero]
    omega
  | succ j ih =>
    by_cases hj : j < l.length
    · rw [sumQ_snoc l j hj]
      have := ql_add ih (h l[j] (List.getElem_mem hj))
      rw [Nat.add_mul]
      omega
    · rw [List.take_of_length_le (by omega)]
      rw [List.take_of_length_le (by omega)] at ih
      rw [Nat.add_mul]; omega
/-- A row of fractions. -/
def FqS (w : World) (a : Option Addr) (n cap : Nat) (l : List Rat) (N : Nat) : Prop :=
  l.length = n ∧ n ≤ 1048576 ∧ (0 < n → ∃ g off, a = some ⟨g, off, none⟩ ∧ ∀ (i : Nat) (h : i < l.length), ∃ (b : Bool) (a d : Option Addr) (n c m k : Nat),
    w.cell? ⟨g, off + i * 3, none⟩ = some (.bool b) ∧ w.cell? ⟨g, off + i * 3 + 1, none⟩ = some (.slice a n c) ∧ w.cell? ⟨g, off + i * 3 + 2, none⟩ = some (.slice d m k) ∧ Fq w b a n c d m k l[i] N)
theorem FqS.ext {w u : World} {a : Option Addr} {n cap N : Nat} {l : List Rat} (h : FqS w a n cap l N) (he : Ext w u) : FqS u a n cap l N := by
  refine ⟨h.1, h.2.1, fun h0 => ?_⟩
  obtain ⟨g, off, ha, hi⟩ := h.2.2 h0
  refine ⟨g, off, ha, fun i hl => ?_⟩
  obtain ⟨b, a, d, n, c, m, k, h1, h2, h3, h4⟩ := hi i hl
  exact ⟨b, a, d, n, c, m, k, he.cell' h1, he.cell' h2, he.cell' h3, h4.ext he⟩

set_option maxRecDepth 100000 in
set_option maxHeartbeats 4000000 in
theorem fq_Sum (a : Option Addr) (n cap : Nat) (l : List Rat) (N : Nat) (w : World) (h : FqS w a n cap l N) (hN : N ≤ 137438953472) (hN1 : 1 ≤ N) (hb : n * (N + 1) + 2 ≤ 137438953472) :
    Calls Try.prog 106 #[.slice a n cap] w (RetF w (sumQ l).num (sumQ l).den) := by
  have H := hidP h
  have hn := h.2.1
  have hll := hidP h.1
  have HL : Hid (∀ j, j ≤ n → ql (sumQ (l.take j)) ≤ 137438953472) := hidP (fun j hj => by
    have hq : ∀ q ∈ l, ql q ≤ N := fun q hq => by
      obtain ⟨i, hi, rfl⟩ := List.getElem_of_mem hq
      obtain ⟨g, off, ha, hc⟩ := h.2.2 (by rw [← h.1]; omega)
      obtain ⟨b, a, d, n, c, m, k, h1, h2, h3, h4⟩ := hc i hi
      exact h4.ql hN1
    have h1 := sumQ_len hq j
    have h2 : j * (N + 1) ≤ n * (N + 1) := Nat.mul_le_mul_right _ hj
    omega)
  have HB := hidP hb; have HN := hidP hN
  have H0 : Hid (sumQ (l.take 0) = ((0 : Int) : Rat)) := hidP (by simp [sumQ])
  clear h hb hN hN1
  go_enter Try.func106, Try.ntmps106
  go_wp2_with fail
  refine absC (fun x1 hx1 => ?_)
  have hx : Ext w x1 := by rw [hx1]; exact ((Ext.refl _).alloc _)
  have bs : Bl x1 (w.heap.size) #[.bool false, .slice none 0 0, .slice none 0 0] := by rw [hx1]; exact (Bl.new (by simp))
  have fs : Fz x1 (w.heap.size) := by rw [hx1]; exact (Fz.new (by simp))
  have HE := hx
  clear hx
  clear hx1
  have HI := hidP (fq_Int 0 x1 (by omega) (by omega))
  have hi := HI.out
  rw [← H0.out] at hi
  clear HI
  have HI := hidP hi
  clear hi
  generalize hr0 : sumQ (l.take 0) = r0 at *
  have HR0 := hidP hr0
  clear hr0
  refine (HI.out).mono ?_
  rintro e u1 ⟨a1, n1, c1, d1, m1, k1, rfl, hs1, ht1, hx⟩
  replace fs := Fz.ext hx fs bs (Nat.succ_pos _)
  replace bs := Bl.ext hx bs (Nat.succ_pos _)
  replace HE := HE.trans hx
  clear hx
  replace hs1 : Nc u1 a1 n1 c1 (r0.num).natAbs := hs1
  replace ht1 : Nc u1 d1 m1 k1 (r0.den) := ht1
  clear HI
  have lsx := bs.lt (Nat.succ_pos _)
  have l0x := HE.size
  go_wp2_with fail
  refine absW (fun x2 hx2 => ?_)
  have hx : Ext u1 x2 := by rw [hx2]; exact ((Ext.refl _).alloc _)
  have bx : Bl x2 (u1.heap.size) #[.bool (decide (r0.num < 0)), .slice a1 n1 c1, .slice d1 m1 k1] := by rw [hx2]; exact (Bl.new (by simp))
  have fx : Fz x2 (u1.heap.size) := by rw [hx2]; exact (Fz.new (by simp))
  replace fs := Fz.ext hx fs bs (Nat.succ_pos _)
  replace bs := Bl.ext hx bs (Nat.succ_pos _)
  replace hs1 := hs1.ext hx
  replace ht1 := ht1.ext hx
  replace HE := HE.trans hx
  clear hx
  clear hx2
  go_loopw [9] (fun iv wr => ∃ (j : Nat) (r : Rat) (a1 d1 : Option Addr) (n1 c1 m1 k1 : Nat), j ≤ n ∧ iv = .int .i64 (j : Int) ∧ Hid (sumQ (l.take j) = r) ∧ Bl wr u1.heap.size #[.bool (decide (r.num < 0)), .slice a1 n1 c1, .slice d1 m1 k1] ∧ Fz wr u1.heap.size ∧ Nc wr a1 n1 c1 r.num.natAbs ∧ Nc wr d1 m1 k1 r.den ∧ Bl wr w.heap.size #[.bool false, .slice none 0 0, .slice none 0 0] ∧ Fz wr w.heap.size ∧ Ext w wr) (fun iv _ => n - (intOf iv).toNat)
  case atStart => exact ⟨0, r0, a1, d1, n1, c1, m1, k1, by omega, rfl, HR0, bx, fx, hs1, ht1, bs, fs, HE⟩
  case round =>
    clear bx fx bs fs hs1 ht1 HE HR0
    obtain ⟨j, r, a1, d1, n1, c1, m1, k1, hj, rfl, HR, bx, fx, hs1, ht1, bs, fs, HE⟩ := hrel
    have lsx := bs.lt (Nat.succ_pos _)
    have lxx := bx.lt (Nat.succ_pos _)
    by_cases hlt : j < n
    · have hel := (H.out.ext HE).2.2 (by omega)
      obtain ⟨g, off, rfl, hc⟩ := hel
      obtain ⟨b2, a2, d2, n2, c2, m2, k2, h1, h2, h3, h4⟩ := hc j (by rw [hll.out]; exact hlt)
      clear hc
      have HQL : Hid (ql r ≤ 137438953472) := hidP (by rw [← HR.out]; exact HL.out j (by omega))
      have hsn := sumQ_snoc l j (by rw [hll.out]; exact hlt)
      rw [HR.out] at hsn
      have HA := hidP (fun u b1 (hb1 : b1 = decide (r.num < 0)) (t1 : Nc u a1 n1 c1 r.num.natAbs) (t2 : Nc u d1 m1 k1 r.den) (t3 : Fq u b2 a2 n2 c2 d2 m2 k2 (l[j]'(by rw [hll.out]; exact hlt)) N) => hb1 ▸ fq_Add (fq_of t1 t2 HQL.out (by omega)) t3 (by omega) HN.out)
      generalize r + l[j]'(by rw [hll.out]; exact hlt) = r2 at *
      generalize l[j]'(by rw [hll.out]; exact hlt) = qj at *
      have HSN := hidP hsn
      have HH4 := hidP h4
      clear hsn h4
      generalize hrb : decide (r.num < 0) = rb at *
      have HRB := hidP hrb.symm
      clear hrb
      have HH5 := HH4.out
      go_wp2_with fail
      refine absC (fun x1 hx1 => ?_)
      have hx : Ext wr x1 := by rw [hx1]; exact ((Ext.refl _).alloc _)
      have bv : Bl x1 (wr.heap.size) #[.bool b2, .slice a2 n2 c2, .slice d2 m2 k2] := by rw [hx1]; exact (Bl.new (by simp))
      replace fs := Fz.ext hx fs bs (Nat.succ_pos _)
      replace bs := Bl.ext hx bs (Nat.succ_pos _)
      replace fx := Fz.ext hx fx bx (Nat.succ_pos _)
      replace bx := Bl.ext hx bx (Nat.succ_pos _)
      replace hs1 := hs1.ext hx
      replace ht1 := ht1.ext hx
      replace HH5 := HH5.ext hx
      replace HE := HE.trans hx
      clear hx
      clear hx1
      refine (HA.out _ _ rfl hs1 ht1 HH5).mono ?_
      rintro e u2 ⟨a2, n2, c2, d2, m2, k2, rfl, hs2, ht2, hx⟩
      replace fs := Fz.ext hx fs bs (Nat.succ_pos _)
      replace bs := Bl.ext hx bs (Nat.succ_pos _)
      replace fx := Fz.ext hx fx bx (Nat.succ_pos _)
      replace bx := Bl.ext hx bx (Nat.succ_pos _)
      replace bv := Bl.ext hx bv (Nat.succ_pos _)
      replace hs1 := hs1.ext hx
      replace ht1 := ht1.ext hx
      replace HH5 := HH5.ext hx
      replace HE := HE.trans hx
      clear hx
      replace hs2 : Nc u2 a2 n2 c2 (r2.num).natAbs := hs2
      replace ht2 : Nc u2 d2 m2 k2 (r2.den) := ht2
      have l0x := HE.size
      go_upto_region 6 with fail
      refine absW (fun x2 hx2 => ?_)
      have hbut : But u2 x2 (u1.heap.size) := by rw [hx2]; exact (But.refl _ _).store.store.store
      have hbn : Bl x2 (u1.heap.size) #[.bool (decide (r2.num < 0)), .slice a2 n2 c2, .slice d2 m2 k2] := by rw [hx2]; exact (Bl.set (Bl.set (Bl.set bx (by simp)) (by simp)) (by simp))
      replace hs1 := hs1.but bx (not_ints3 nb_bool nb_slice nb_slice) hbut
      replace ht1 := ht1.but bx (not_ints3 nb_bool nb_slice nb_slice) hbut
      replace HH5 := HH5.but bx (not_ints3 nb_bool nb_slice nb_slice) hbut
      replace hs2 := hs2.but bx (not_ints3 nb_bool nb_slice nb_slice) hbut
      replace ht2 := ht2.but bx (not_ints3 nb_bool nb_slice nb_slice) hbut
      replace fs := But.fz hbut fs bs (Nat.succ_pos _) (by omega)
      replace bs := But.bl hbut bs (Nat.succ_pos _) (by omega)
      replace bv := But.bl hbut bv (Nat.succ_pos _) (by omega)
      replace fx : Fz x2 (u1.heap.size) := by rw [hx2]; exact (Fz.set (Fz.set (Fz.set fx)))
      replace HE : Ext w x2 := by rw [hx2]; exact (((HE.store (by show w.heap.size ≤ u1.heap.size; omega) _).store (by show w.heap.size ≤ u1.heap.size; omega) _).store (by show w.heap.size ≤ u1.heap.size; omega) _)
      clear bx hbut hx2
      have bx := hbn
      clear hbn
      go_wp2_with fail
      go_roundw
      case rel => exact ⟨j + 1, r2, _, _, _, _, _, _, by omega, by go_num, HSN, bx, fx, hs2, ht2, bs, fs, HE⟩
      case measure => simp only [intOf]; omega
    · obtain rfl : j = n := by omega
      have hr : sumQ l = r := by rw [← HR.out, List.take_of_length_le (by rw [hll.out]; omega)]
      have HRR := hidP hr
      clear hr
      have HS1 := hidP hs1; have HT1 := hidP ht1
      clear hs1 ht1
      go_wp2_with fail
      refine absB (fun ue hue => ?_)
      have hbs : Bl ue (w.heap.size) #[.bool (decide (r.num < 0)), .slice a1 n1 c1, .slice d1 m1 k1] := by rw [hue]; exact (((bs.set (by simp)).set (by simp)).set (by simp))
      have hnc : ∀ {aa : Option Addr} {nn cc VV : Nat}, Nc wr aa nn cc VV → Nc ue aa nn cc VV := fun h => by
        rw [hue]
        exact h.but bs (not_ints3 nb_bool nb_slice nb_slice) ((But.refl _ _).store.store.store)
      have heu : Ext w ue := by rw [hue]; exact ((HE.store (by show w.heap.size ≤ w.heap.size; omega) _).store (by show w.heap.size ≤ w.heap.size; omega) _).store (by show w.heap.size ≤ w.heap.size; omega) _
      clear hue
      refine bodyPost_cells rfl rfl Try.underlying79 rfl (by kernel_rfl) (bl_three hbs) rfl ?_
      exact RetF.of (congrArg Rat.num HRR.out) (congrArg Rat.den HRR.out) rfl (hnc HS1.out) (hnc HT1.out) heu

end Go.Proofs.Ytcipcpbjkcpgdaa
