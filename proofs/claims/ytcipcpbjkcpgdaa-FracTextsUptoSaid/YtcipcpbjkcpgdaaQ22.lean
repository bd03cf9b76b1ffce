/- The program's fractions on rationals: the rest. -/
import Derived.Test.YtcipcpbjkcpgdaaQ21
import Derived.Test.YtcipcpbjkcpgdaaQ5
namespace Go.Proofs.Ytcipcpbjkcpgdaa
set_option linter.unusedVariables false
open Go Go.RowKit

section
variable {b b' : Bool} {a d a' d' : Option Addr} {n c m k n' c' m' k' N N' : Nat} {q q' : Rat} {w : World}
theorem fq_Reduce (h : Fq w b a n c d m k q N) (hN : N ≤ 274877906944) : Calls Try.prog 93 #[.agg #[.bool b, .slice a n c, .slice d m k]] w (RetF w q.num q.den) := by
  obtain ⟨z, D, h1, h2, h3, h4, h5, rfl⟩ := h
  rw [← (pr_num z D).1, ← (pr_num z D).2]
  exact f_Reduce b a d n c m k z D w h1 h2 (by omega) (by omega)
theorem fq_Int (z : Int) (w : World) (h1 : -9223372036854775808 ≤ z) (h2 : z ≤ 9223372036854775807) : Calls Try.prog 91 #[.int .i64 z] w (RetF w (z : Rat).num (z : Rat).den) := f_Int z w h1 h2
theorem fq_Div (h : Fq w b a n c d m k q N) (h' : Fq w b' a' n' c' d' m' k' q' N') (hN : N ≤ 137438953472) (hN' : N' ≤ 137438953472) (h0 : q' ≠ 0) :
    Calls Try.prog 85 #[.agg #[.bool b, .slice a n c, .slice d m k], .agg #[.bool b', .slice a' n' c', .slice d' m' k']] w (RetFE w (q / q').num (q / q').den 0) := by
  obtain ⟨z, D, h1, h2, h3, h4, h5, rfl⟩ := h
  obtain ⟨z', D', h1', h2', h3', h4', h5', rfl⟩ := h'
  have e := mk_quot (z := z) (D := D) h0
  have := f_Div b b' a d a' d' n c m k n' c' m' k' z z' D D' w h1 h2 h1' h2' (by omega) (by omega) (by omega) (by omega)
  rwa [e.1, e.2.1, e.2.2] at this
theorem fq_Div0 (h : Fq w b a n c d m k q N) (h' : Fq w b' a' n' c' d' m' k' q' N') (hN : N ≤ 137438953472) (hN' : N' ≤ 137438953472) (h0 : q' = 0) :
    Calls Try.prog 85 #[.agg #[.bool b, .slice a n c, .slice d m k], .agg #[.bool b', .slice a' n' c', .slice d' m' k']] w (RetFE w 0 0 5) := by
  obtain ⟨z, D, h1, h2, h3, h4, h5, rfl⟩ := h
  obtain ⟨z', D', h1', h2', h3', h4', h5', rfl⟩ := h'
  have e := mk_quot0 (z := z) (D := D) h0
  have := f_Div b b' a d a' d' n c m k n' c' m' k' z z' D D' w h1 h2 h1' h2' (by omega) (by omega) (by omega) (by omega)
  rwa [e.1, e.2.1, e.2.2] at this
theorem fq_Floor (h : Fq w b a n c d m k q N) (hN : N ≤ 137438953472) : Calls Try.prog 113 #[.agg #[.bool b, .slice a n c, .slice d m k]] w (RetW w q.floor) := by
  obtain ⟨z, D, h1, h2, h3, h4, h5, rfl⟩ := h
  rw [← mk_pr z D, floor_mk (pd_ne D)]
  exact f_Floor b a d n c m k z D w h1 h2 (by omega) (by omega)
theorem fq_Round (h : Fq w b a n c d m k q N) (hN : N ≤ 137438953472) : Calls Try.prog 114 #[.agg #[.bool b, .slice a n c, .slice d m k]] w (RetW w (q + mkRat 1 2).floor) := by
  obtain ⟨z, D, h1, h2, h3, h4, h5, rfl⟩ := h
  have hm := az_mk (z := pz z D) (z' := 1) (pd_ne D) (by omega : (2 : Nat) ≠ 0)
  rw [← mk_pr z D, ← hm.1, floor_mk hm.2]
  exact f_Round b a d n c m k z D w h1 h2 (by omega) (by omega)

set_option maxRecDepth 100000 in
set_option maxHeartbeats 4000000 in
theorem fq_Sign (h : Fq w b a n c d m k q N) (hN : N ≤ 137438953472) :
    Calls Try.prog 107 #[.agg #[.bool b, .slice a n c, .slice d m k]] w (fun e w' => e = .returned (.int .i64 (sgn q.num)) ∧ Ext w w') := by
  obtain ⟨z, D, hz, hd, hm, hb1, hb2, rfl⟩ := h
  have HP : Hid (∀ u, WhIn u b a n c z → Nu u d m k D → Calls Try.prog 147 #[.agg #[.bool b, .slice a n c, .slice d m k]] u (RetF u (pz z D) (pd D))) := hidP (fun u t1 t2 => f_parts b a d n c m k z D u t1 t2)
  have B1 : Hid (dl (pz z D).natAbs ≤ 137438953472) := hidP (by have := pz_len z D; omega)
  have B2 : Hid (dl (pd D) ≤ 137438953473) := hidP (by have := pd_len D; omega)
  have E0 := hidP (pd_ne D)
  have hr := sgn_mk (z := pz z D) (pd_ne D)
  rw [mk_pr] at hr
  have HR := hidP hr
  clear hr
  generalize sgn (mkRat z D).num = rr at *
  have HZ := hidP hz; have HD := hidP hd
  clear hz hd hb1 hb2 hm hN
  generalize pz z D = Z at *
  generalize pd D = E at *
  go_enter Try.func107, Try.ntmps107
  go_wp2_with fail
  refine absC (fun x1 hx1 => ?_)
  have hx : Ext w x1 := by rw [hx1]; exact ((Ext.refl _).alloc _)
  have bp : Bl x1 (w.heap.size) #[.bool b, .slice a n c, .slice d m k] := by rw [hx1]; exact (Bl.new (by simp))
  have HE := hx
  clear hx
  clear hx1
  refine (HP.out _ (HZ.out.ext HE) (HD.out.ext HE)).mono ?_
  rintro e u1 ⟨a1, n1, c1, d1, m1, k1, rfl, hs1, ht1, hx⟩
  replace bp := Bl.ext hx bp (Nat.succ_pos _)
  replace HE := HE.trans hx
  clear hx
  replace hs1 : Nc u1 a1 n1 c1 (Z).natAbs := hs1
  replace ht1 : Nc u1 d1 m1 k1 (E) := ht1
  generalize hzb : decide (Z < 0) = zb at *
  have HZB := hidP hzb
  clear hzb
  have hfl : ∀ u : World, (Instr.field 132 (.agg #[.bool zb, .slice a1 n1 c1, .slice d1 m1 k1]) 0).run Try.prog u = .ok (.agg #[.bool zb, .slice a1 n1 c1]) u := fun u => by kernel_rfl
  go_wp2_with fail
  refine (w_Sign_any zb a1 n1 c1 Z _ (by rw [← HZB.out]; exact hs1.wh (by have := B1.out; omega))).mono ?_
  rw [← HR.out]
  rintro e u2 ⟨rfl, hx⟩
  replace bp := Bl.ext hx bp (Nat.succ_pos _)
  replace hs1 := hs1.ext hx
  replace ht1 := ht1.ext hx
  replace HE := HE.trans hx
  clear hx
  go_wp2_with fail
  go_ret
  exact ⟨rfl, HE⟩

/-- The int that a rational is. -/
def wholeR (q : Rat) : Value := if q.den = 1 then intR q.num else .tuple #[.int .i64 0, .bool false]
theorem whole_mk {z : Int} {D : Nat} (h : D ≠ 0) : ((mkRat z D).den = 1 ↔ z % (D : Int) = 0) ∧ (z % (D : Int) = 0 → (mkRat z D).num = z / (D : Int)) := by
  have hn := rz_num (z := z) h
  rw [← hn.1, ← hn.2]
  unfold rz rd
  have hg := fg_pos (z := z) h
  have key : D / fg z D = 1 ↔ (D : Int) ∣ z := by
    constructor
    · intro h1
      have h2 : fg z D ∣ D := Nat.gcd_dvd_right _ _
      have h3 : D = fg z D := by
        have := Nat.div_mul_cancel h2
        rw [h1] at this
        omega
      have h4 : fg z D ∣ z.natAbs := Nat.gcd_dvd_left _ _
      rw [← h3] at h4
      exact Int.ofNat_dvd_left.2 h4
    · intro h1
      have h2 : D ∣ z.natAbs := Int.ofNat_dvd_left.1 h1
      have h3 : fg z D = D := Nat.gcd_eq_right h2
      rw [h3, Nat.div_self (by omega)]
  refine ⟨by rw [key]; exact Int.dvd_iff_emod_eq_zero .., fun h1 => ?_⟩
  have h2 : D ∣ z.natAbs := Int.ofNat_dvd_left.1 (Int.dvd_of_emod_eq_zero h1)
  have h3 : fg z D = D := Nat.gcd_eq_right h2
  rw [h3]

set_option maxRecDepth 100000 in
set_option maxHeartbeats 4000000 in
theorem fq_Whole (h : Fq w b a n c d m k q N) (hN : N ≤ 137438953472) :
    Calls Try.prog 109 #[.agg #[.bool b, .slice a n c, .slice d m k]] w (fun e w' => e = .returned (wholeR q) ∧ Ext w w') := by
  obtain ⟨z, D, hz, hd, hm, hb1, hb2, rfl⟩ := h
  have HP : Hid (∀ u, WhIn u b a n c z → Nu u d m k D → Calls Try.prog 147 #[.agg #[.bool b, .slice a n c, .slice d m k]] u (RetF u (pz z D) (pd D))) := hidP (fun u t1 t2 => f_parts b a d n c m k z D u t1 t2)
  have B1 : Hid (dl (pz z D).natAbs ≤ 137438953472) := hidP (by have := pz_len z D; omega)
  have B2 : Hid (dl (pd D) ≤ 137438953473) := hidP (by have := pd_len D; omega)
  have E0 := hidP (pd_ne D)
  have hwm := whole_mk (z := pz z D) (pd_ne D)
  rw [mk_pr] at hwm
  have HZ := hidP hz; have HD := hidP hd
  clear hz hd hb1 hb2 hm hN
  generalize pz z D = Z at *
  generalize pd D = E at *
  have hE0 : ((E : Nat) : Int) ≠ 0 := by have := E0.out; omega
  have hv := fun u b1 a1 n1 c1 d1 m1 k1 (t1 : WhIn u b1 a1 n1 c1 Z) (t2 : WhIn u false d1 m1 k1 (E : Int)) => w_Div_any b1 false a1 d1 n1 c1 m1 k1 Z (E : Int) u t1 t2
  unfold RetWD at hv
  have hzm : zmod Z (E : Int) = Z % (E : Int) := if_neg hE0
  rw [hzm] at hv
  have hqd : dl (Z / (E : Int)).natAbs ≤ 549755813888 := by
    have := B1.out
    exact Nat.le_trans (dl_mono (Int.natAbs_ediv_le_natAbs _ _)) (by omega)
  have hrd : dl (Z % (E : Int)).natAbs ≤ 549755813888 := by
    have h1 := Int.emod_nonneg Z hE0
    have h2 := Int.emod_lt_of_pos Z (by have := E0.out; omega : (0 : Int) < (E : Int))
    have := B2.out
    exact Nat.le_trans (dl_mono (by omega : (Z % (E : Int)).natAbs ≤ E)) (by omega)
  generalize hqq : Z / (E : Int) = qq at *
  generalize hrr : Z % (E : Int) = rr at *
  generalize hqb : decide (qq < 0) = qb at *
  generalize hrb : decide (rr < 0) = rb at *
  generalize decide ((E : Int) ≠ 0) = ok at *
  have HV := hidP hv; have HQB := hidP hqb; have HRB := hidP hrb; have HQD := hidP hqd; have HRD := hidP hrd
  by_cases hr0 : rr = 0
  · have HR : Hid (wholeR (mkRat z D) = intR qq) := hidP (by unfold wholeR; rw [if_pos (hwm.1.2 hr0), hwm.2 hr0])
    have HS : Hid (sgn rr = 0) := hidP (by rw [hr0]; rfl)
    generalize wholeR (mkRat z D) = wr at *
    clear hv hqb hrb hqd hrd hqq hrr hr0 hwm hE0 hzm
    go_enter Try.func109, Try.ntmps109
    go_wp2_with fail
    refine absC (fun x1 hx1 => ?_)
    have hx : Ext w x1 := by rw [hx1]; exact ((Ext.refl _).alloc _)
    have bp : Bl x1 (w.heap.size) #[.bool b, .slice a n c, .slice d m k] := by rw [hx1]; exact (Bl.new (by simp))
    have HE := hx
    clear hx
    clear hx1
    refine (HP.out _ (HZ.out.ext HE) (HD.out.ext HE)).mono ?_
    rintro e u1 ⟨a1, n1, c1, d1, m1, k1, rfl, hs1, ht1, hx⟩
    replace bp := Bl.ext hx bp (Nat.succ_pos _)
    replace HE := HE.trans hx
    clear hx
    replace hs1 : Nc u1 a1 n1 c1 (Z).natAbs := hs1
    replace ht1 : Nc u1 d1 m1 k1 (E) := ht1
    go_upto_region 2 with fail
    have lpr := bp.lt (Nat.succ_pos _)
    generalize hzb : decide (Z < 0) = zb at *
    have HZB := hidP hzb
    clear hzb
    refine absW (fun x2 hx2 => ?_)
    have hx : Ext u1 x2 := by rw [hx2]; exact ((Ext.refl _).alloc _)
    have br : Bl x2 (u1.heap.size) #[.bool zb, .slice a1 n1 c1, .slice d1 m1 k1] := by rw [hx2]; exact (Bl.new (by simp))
    replace bp := Bl.ext hx bp (Nat.succ_pos _)
    replace hs1 := hs1.ext hx
    replace ht1 := ht1.ext hx
    replace HE := HE.trans hx
    clear hx
    clear hx2
    go_wp2_with fail
    refine (HV.out _ zb a1 n1 c1 d1 m1 k1 (by rw [← HZB.out]; exact hs1.wh (by have := B1.out; omega)) (ht1.wf (by have := B2.out; omega))).mono ?_
    rintro e u2 ⟨a2q, n2q, c2q, a2r, n2r, c2r, rfl, hs2q, hs2r, hx⟩
    replace bp := Bl.ext hx bp (Nat.succ_pos _)
    replace br := Bl.ext hx br (Nat.succ_pos _)
    replace hs1 := hs1.ext hx
    replace ht1 := ht1.ext hx
    replace HE := HE.trans hx
    clear hx
    go_upto_region 3 with fail
    have lpx := bp.lt (Nat.succ_pos _)
    have lrx := br.lt (Nat.succ_pos _)
    refine absW (fun x3 hx3 => ?_)
    have hx : Ext u2 x3 := by rw [hx3]; exact (((Ext.refl _).alloc _).alloc _)
    have bx : Bl x3 (u2.heap.size) #[.bool qb, .slice a2q n2q c2q] := by rw [hx3]; exact ((Bl.new (by simp)).alloc (by simp))
    have bv : Bl x3 (u2.heap.size + 1) #[.bool rb, .slice a2r n2r c2r] := by rw [hx3]; exact (Bl.new (by simp))
    replace bp := Bl.ext hx bp (Nat.succ_pos _)
    replace br := Bl.ext hx br (Nat.succ_pos _)
    replace hs1 := hs1.ext hx
    replace ht1 := ht1.ext hx
    replace hs2q := hs2q.ext hx
    replace hs2r := hs2r.ext hx
    replace HE := HE.trans hx
    clear hx
    clear hx3
    go_wp2_with fail
    refine (w_Sign_any rb a2r n2r c2r rr _ (by rw [← HRB.out]; exact hs2r.wh HRD.out)).mono ?_
    rw [HS.out]
    rintro e u3 ⟨rfl, hx⟩
    replace bp := Bl.ext hx bp (Nat.succ_pos _)
    replace br := Bl.ext hx br (Nat.succ_pos _)
    replace bx := Bl.ext hx bx (Nat.succ_pos _)
    replace bv := Bl.ext hx bv (Nat.succ_pos _)
    replace hs1 := hs1.ext hx
    replace ht1 := ht1.ext hx
    replace hs2q := hs2q.ext hx
    replace hs2r := hs2r.ext hx
    replace HE := HE.trans hx
    clear hx
    go_wp2_with fail
    refine (w_Int_any qb a2q n2q c2q qq _ (by rw [← HQB.out]; exact hs2q.wh HQD.out)).mono ?_
    rw [← HR.out]
    rintro e u4 ⟨rfl, hx⟩
    replace bp := Bl.ext hx bp (Nat.succ_pos _)
    replace br := Bl.ext hx br (Nat.succ_pos _)
    replace bx := Bl.ext hx bx (Nat.succ_pos _)
    replace bv := Bl.ext hx bv (Nat.succ_pos _)
    replace hs1 := hs1.ext hx
    replace ht1 := ht1.ext hx
    replace hs2q := hs2q.ext hx
    replace hs2r := hs2r.ext hx
    replace HE := HE.trans hx
    clear hx
    have hwr : ∃ v1 v2, wr = .tuple #[v1, v2] := by rw [HR.out]; unfold intR; split <;> exact ⟨_, _, rfl⟩
    obtain ⟨v1, v2, rfl⟩ := hwr
    go_wp2_with fail
    go_ret2
    exact ⟨rfl, HE⟩
  · have HR : Hid (wholeR (mkRat z D) = .tuple #[.int .i64 0, .bool false]) := hidP (by unfold wholeR; rw [if_neg (fun h => hr0 (hwm.1.1 h))])
    have hsg : ¬ sgn rr = 0 := by rcases sgn_cases rr with h | h | h <;> omega
    have hsz : (sgn rr == 0) = false := by simpa using hsg
    have hsb : (sgn rr != 0) = true := by simpa using hsg
    have HSG := hidP (fun u b1 a1 n1 c1 (t : WhIn u b1 a1 n1 c1 rr) => w_Sign_any b1 a1 n1 c1 rr u t)
    generalize sgn rr = sr at *
    have HSS := hidP hsg
    clear hv hqb hrb hqd hrd hqq hrr hr0 hwm hE0 hzm hsg
    go_enter Try.func109, Try.ntmps109
    go_wp2_with fail
    refine absC (fun x1 hx1 => ?_)
    have hx : Ext w x1 := by rw [hx1]; exact ((Ext.refl _).alloc _)
    have bp : Bl x1 (w.heap.size) #[.bool b, .slice a n c, .slice d m k] := by rw [hx1]; exact (Bl.new (by simp))
    have HE := hx
    clear hx
    clear hx1
    refine (HP.out _ (HZ.out.ext HE) (HD.out.ext HE)).mono ?_
    rintro e u1 ⟨a1, n1, c1, d1, m1, k1, rfl, hs1, ht1, hx⟩
    replace bp := Bl.ext hx bp (Nat.succ_pos _)
    replace HE := HE.trans hx
    clear hx
    replace hs1 : Nc u1 a1 n1 c1 (Z).natAbs := hs1
    replace ht1 : Nc u1 d1 m1 k1 (E) := ht1
    go_upto_region 2 with fail
    have lpr := bp.lt (Nat.succ_pos _)
    generalize hzb : decide (Z < 0) = zb at *
    have HZB := hidP hzb
    clear hzb
    refine absW (fun x2 hx2 => ?_)
    have hx : Ext u1 x2 := by rw [hx2]; exact ((Ext.refl _).alloc _)
    have br : Bl x2 (u1.heap.size) #[.bool zb, .slice a1 n1 c1, .slice d1 m1 k1] := by rw [hx2]; exact (Bl.new (by simp))
    replace bp := Bl.ext hx bp (Nat.succ_pos _)
    replace hs1 := hs1.ext hx
    replace ht1 := ht1.ext hx
    replace HE := HE.trans hx
    clear hx
    clear hx2
    go_wp2_with fail
    refine (HV.out _ zb a1 n1 c1 d1 m1 k1 (by rw [← HZB.out]; exact hs1.wh (by have := B1.out; omega)) (ht1.wf (by have := B2.out; omega))).mono ?_
    rintro e u2 ⟨a2q, n2q, c2q, a2r, n2r, c2r, rfl, hs2q, hs2r, hx⟩
    replace bp := Bl.ext hx bp (Nat.succ_pos _)
    replace br := Bl.ext hx br (Nat.succ_pos _)
    replace hs1 := hs1.ext hx
    replace ht1 := ht1.ext hx
    replace HE := HE.trans hx
    clear hx
    go_upto_region 3 with fail
    have lpx := bp.lt (Nat.succ_pos _)
    have lrx := br.lt (Nat.succ_pos _)
    refine absW (fun x3 hx3 => ?_)
    have hx : Ext u2 x3 := by rw [hx3]; exact (((Ext.refl _).alloc _).alloc _)
    have bx : Bl x3 (u2.heap.size) #[.bool qb, .slice a2q n2q c2q] := by rw [hx3]; exact ((Bl.new (by simp)).alloc (by simp))
    have bv : Bl x3 (u2.heap.size + 1) #[.bool rb, .slice a2r n2r c2r] := by rw [hx3]; exact (Bl.new (by simp))
    replace bp := Bl.ext hx bp (Nat.succ_pos _)
    replace br := Bl.ext hx br (Nat.succ_pos _)
    replace hs1 := hs1.ext hx
    replace ht1 := ht1.ext hx
    replace hs2q := hs2q.ext hx
    replace hs2r := hs2r.ext hx
    replace HE := HE.trans hx
    clear hx
    clear hx3
    go_wp2_with fail
    refine (HSG.out _ rb a2r n2r c2r (by rw [← HRB.out]; exact hs2r.wh HRD.out)).mono ?_
    rintro e u3 ⟨rfl, hx⟩
    replace bp := Bl.ext hx bp (Nat.succ_pos _)
    replace br := Bl.ext hx br (Nat.succ_pos _)
    replace bx := Bl.ext hx bx (Nat.succ_pos _)
    replace bv := Bl.ext hx bv (Nat.succ_pos _)
    replace hs1 := hs1.ext hx
    replace ht1 := ht1.ext hx
    replace hs2q := hs2q.ext hx
    replace hs2r := hs2r.ext hx
    replace HE := HE.trans hx
    clear hx
    go_wp2_with fail
    go_ret2
    exact ⟨HR.out ▸ rfl, HE⟩

theorem cmp_sign {z z' : Int} {D D' : Nat} (h : D ≠ 0) (h' : D' ≠ 0) (hs : sgn z ≠ sgn z') : cmpQ (mkRat z D) (mkRat z' D') = if sgn z < sgn z' then -1 else 1 := by
  rw [← cmpQ_mk h h']
  have hd : (0 : Int) < (D : Int) := by omega
  have hd' : (0 : Int) < (D' : Int) := by omega
  generalize (D : Int) = E at *
  generalize (D' : Int) = E' at *
  have n1 : z < 0 → z * E' < 0 := fun h => Int.mul_neg_of_neg_of_pos h hd'
  have p1 : 0 < z → 0 < z * E' := fun h => Int.mul_pos h hd'
  have n2 : z' < 0 → z' * E < 0 := fun h => Int.mul_neg_of_neg_of_pos h hd
  have p2 : 0 < z' → 0 < z' * E := fun h => Int.mul_pos h hd
  have z1 : z = 0 → z * E' = 0 := fun h => by rw [h, Int.zero_mul]
  have z2 : z' = 0 → z' * E = 0 := fun h => by rw [h, Int.zero_mul]
  generalize z * E' = X at *
  generalize z' * E = Y at *
  unfold sgn at *
  rcases Int.lt_trichotomy z 0 with a1 | a1 | a1 <;> rcases Int.lt_trichotomy z' 0 with a2 | a2 | a2 <;> simp_all <;> (try omega) <;> (repeat' split) <;> omega

set_option maxRecDepth 100000 in
set_option maxHeartbeats 4000000 in
theorem fq_Cmp (h : Fq w b a n c d m k q N) (h' : Fq w b' a' n' c' d' m' k' q' N') (hN : N ≤ 137438953472) (hN' : N' ≤ 137438953472) :
    Calls Try.prog 108 #[.agg #[.bool b, .slice a n c, .slice d m k], .agg #[.bool b', .slice a' n' c', .slice d' m' k']] w fun e w' => e = .returned (.int .i64 (cmpQ q q')) ∧ Ext w w' := by
  obtain ⟨z, D, hz, hd, hm, hb1, hb2, rfl⟩ := h
  obtain ⟨z', D', hz', hd', hm', hb3, hb4, rfl⟩ := h'
  have HP1 : Hid (∀ u, WhIn u b a n c z → Nu u d m k D → Calls Try.prog 147 #[.agg #[.bool b, .slice a n c, .slice d m k]] u (RetF u (pz z D) (pd D))) := hidP (fun u t1 t2 => f_parts b a d n c m k z D u t1 t2)
  have HP2 : Hid (∀ u, WhIn u b' a' n' c' z' → Nu u d' m' k' D' → Calls Try.prog 147 #[.agg #[.bool b', .slice a' n' c', .slice d' m' k']] u (RetF u (pz z' D') (pd D'))) := hidP (fun u t1 t2 => f_parts b' a' d' n' c' m' k' z' D' u t1 t2)
  have B1 : Hid (dl (pz z D).natAbs ≤ 137438953473) := hidP (by have := pz_len z D; omega)
  have B2 : Hid (dl (pd D) ≤ 137438953473) := hidP (by have := pd_len D; omega)
  have B3 : Hid (dl (pz z' D').natAbs ≤ 137438953473) := hidP (by have := pz_len z' D'; omega)
  have B4 : Hid (dl (pd D') ≤ 137438953473) := hidP (by have := pd_len D'; omega)
  have hcs := cmp_sign (z := pz z D) (z' := pz z' D') (pd_ne D) (pd_ne D')
  have hcm := cmpQ_mk (z := pz z D) (z' := pz z' D') (pd_ne D) (pd_ne D')
  rw [mk_pr, mk_pr] at hcs hcm
  have HZ := hidP hz; have HD := hidP hd; have HZ' := hidP hz'; have HD' := hidP hd'
  clear hz hd hz' hd' hb1 hb2 hb3 hb4 hm hm' hN hN'
  generalize pz z D = Z at *
  generalize pd D = E at *
  generalize pz z' D' = Y at *
  generalize pd D' = F at *
  generalize cmpQ (mkRat z D) (mkRat z' D') = rr at *
  have HS1 := hidP (fun u b1 a1 n1 c1 (t : WhIn u b1 a1 n1 c1 Z) => w_Sign_any b1 a1 n1 c1 Z u t)
  have HS2 := hidP (fun u b1 a1 n1 c1 (t : WhIn u b1 a1 n1 c1 Y) => w_Sign_any b1 a1 n1 c1 Y u t)
  have Q1 : Hid (dl (Z * (F : Int)).natAbs ≤ 274877906946) := hidP (by have := dz_mul Z (F : Int); have := B1.out; have := B4.out; rw [Int.natAbs_natCast] at *; omega)
  have Q2 : Hid (dl (Y * (E : Int)).natAbs ≤ 274877906946) := hidP (by have := dz_mul Y (E : Int); have := B3.out; have := B2.out; rw [Int.natAbs_natCast] at *; omega)
  have HR := hidP hcm
  have HCS := hidP hcs
  generalize sgn Z = sz at *
  generalize sgn Y = sy at *
  clear hcs hcm
  go_enter Try.func108, Try.ntmps108
  go_upto_region 1 with fail
  refine absW (fun x1 hx1 => ?_)
  have hx : Ext w x1 := by rw [hx1]; exact (((Ext.refl _).alloc _).alloc _)
  have bp : Bl x1 (w.heap.size) #[.bool b, .slice a n c, .slice d m k] := by rw [hx1]; exact ((Bl.new (by simp)).alloc (by simp))
  have bq : Bl x1 (w.heap.size + 1) #[.bool b', .slice a' n' c', .slice d' m' k'] := by rw [hx1]; exact (Bl.new (by simp))
  have HE := hx
  clear hx
  clear hx1
  go_cut [5, 6] (fun vr vs wx => ∃ (gr gv : Nat) (ar dr : Option Addr) (nr cr mr kr : Nat) (av dv : Option Addr) (nv cv mv kv : Nat), vr = .pointer (some ⟨gr, 0, none⟩) ∧ vs = .pointer (some ⟨gv, 0, none⟩) ∧ Bl wx gr #[.bool (decide (Z < 0)), .slice ar nr cr, .slice dr mr kr] ∧ Bl wx gv #[.bool (decide (Y < 0)), .slice av nv cv, .slice dv mv kv] ∧ Nc wx ar nr cr Z.natAbs ∧ Nc wx dr mr kr E ∧ Nc wx av nv cv Y.natAbs ∧ Nc wx dv mv kv F ∧ Ext w wx)
  case first =>
    have lop := bp.lt (Nat.succ_pos _)
    have loq := bq.lt (Nat.succ_pos _)
    have hlo : x1.heap.size ≤ x1.heap.size := Nat.le_refl _
    refine wp_region_plan (R := Below x1.heap.size) (.q 0 (.q 2 (.br 1 (.br 3 (.br 4 (.l 5 (.l 6 (.b 7 .done))) (.l 5 (.l 4 (.l 6 (.b 7 .done))))) (.br 4 (.br 3 (.l 5 (.l 6 (.b 7 .done))) (.l 5 (.l 3 (.l 6 (.b 7 .done))))) (.l 5 (.br 3 (.l 4 (.l 6 (.b 7 .done))) (.l 4 (.l 3 (.l 6 (.b 7 .done)))))))) (.br 4 (.br 1 (.br 3 (.l 5 (.l 6 (.b 7 .done))) (.l 5 (.l 3 (.l 6 (.b 7 .done))))) (.l 5 (.l 1 (.l 3 (.l 6 (.b 7 .done)))))) (.l 5 (.br 1 (.br 3 (.l 4 (.l 6 (.b 7 .done))) (.l 4 (.l 3 (.l 6 (.b 7 .done))))) (.l 4 (.l 1 (.l 3 (.l 6 (.b 7 .done))))))))))) (by kernel_rfl) (by kernel_rfl) (by kernel_rfl) (by kernel_rfl) (Below.refl _) (fun _ _ _ => Below.trans) ?_
    refine absE (fun x2 hx2 => ?_)
    have hx : Ext x1 x2 := by rw [hx2]; exact (Ext.refl _).drew
    replace hlo := Nat.le_trans hlo hx.size
    replace bp := Bl.ext hx bp (Nat.succ_pos _)
    replace bq := Bl.ext hx bq (Nat.succ_pos _)
    replace HE := HE.trans hx
    clear hx
    clear hx2
    repeat (refine wpE_q (v := ?_) rfl rfl (fun u hu => ?_) ?_; rotate_left 1; (focus (have kp := Bl.low hu bp lop; have kq := Bl.low hu bq loq; go_simp; (try rfl))); simp only [Act.put, List.setIfInBounds_toArray, List.set_cons_zero, List.set_cons_succ])
    refine wpE_br rfl rfl (fun K hK => ?_) ?_
    · go_simp
      refine (HP1.out _ (HZ.out.ext HE) (HD.out.ext HE)).mono ?_
      rintro e u1 ⟨a1, n1, c1, d1, m1, k1, rfl, hs1, ht1, hx⟩
      refine hK.out _ _ (Below.mono hx hlo) ?_
      clear hK K
      try simp only [Act.put, List.setIfInBounds_toArray, List.set_cons_zero, List.set_cons_succ]
      replace hlo := Nat.le_trans hlo hx.size
      replace bp := Bl.ext hx bp (Nat.succ_pos _)
      replace bq := Bl.ext hx bq (Nat.succ_pos _)
      replace HE := HE.trans hx
      clear hx
      replace hs1 : Nc u1 a1 n1 c1 (Z).natAbs := hs1
      replace ht1 : Nc u1 d1 m1 k1 (E) := ht1
      refine wpE_br rfl rfl (fun K hK => ?_) ?_
      · go_simp
        refine (HP2.out _ (HZ'.out.ext HE) (HD'.out.ext HE)).mono ?_
        rintro e u2 ⟨a2, n2, c2, d2, m2, k2, rfl, hs2, ht2, hx⟩
        refine hK.out _ _ (Below.mono hx hlo) ?_
        clear hK K
        try simp only [Act.put, List.setIfInBounds_toArray, List.set_cons_zero, List.set_cons_succ]
        replace hlo := Nat.le_trans hlo hx.size
        replace bp := Bl.ext hx bp (Nat.succ_pos _)
        replace bq := Bl.ext hx bq (Nat.succ_pos _)
        replace hs1 := hs1.ext hx
        replace ht1 := ht1.ext hx
        replace HE := HE.trans hx
        clear hx
        replace hs2 : Nc u2 a2 n2 c2 (Y).natAbs := hs2
        replace ht2 : Nc u2 d2 m2 k2 (F) := ht2
        refine wpE_br rfl rfl (fun K hK => ?_) ?_
        · go_simp
          refine hK.out _ _ ((Below.refl _ _).alloc hlo _) ?_
          clear hK K
          try simp only [Act.put, List.setIfInBounds_toArray, List.set_cons_zero, List.set_cons_succ]
          have ger := hlo
          have lpr := bp.lt (Nat.succ_pos _)
          have lqr := bq.lt (Nat.succ_pos _)
          have l0r := HE.size
          refine absE (fun x3 hx3 => ?_)
          have hx : Ext u2 x3 := by rw [hx3]; exact ((Ext.refl _).alloc _)
          have br : Bl x3 (u2.heap.size) #[.bool false, .slice none 0 0, .slice none 0 0] := by rw [hx3]; exact (Bl.new (by simp))
          have fr : Fz x3 (u2.heap.size) := by rw [hx3]; exact (Fz.new (by simp))
          replace hlo := Nat.le_trans hlo hx.size
          replace bp := Bl.ext hx bp (Nat.succ_pos _)
          replace bq := Bl.ext hx bq (Nat.succ_pos _)
          replace hs1 := hs1.ext hx
          replace ht1 := ht1.ext hx
          replace hs2 := hs2.ext hx
          replace ht2 := ht2.ext hx
          replace HE := HE.trans hx
          clear hx
          clear hx3
          refine wpE_l rfl rfl (fun K hK => ?_)
          go_simp
          refine hK.out _ _ ((Below.refl _ _).alloc hlo _) ?_
          clear hK K
          try simp only [Act.put, List.setIfInBounds_toArray, List.set_cons_zero, List.set_cons_succ]
          have gev := hlo
          have lpv := bp.lt (Nat.succ_pos _)
          have lqv := bq.lt (Nat.succ_pos _)
          have lrv := br.lt (Nat.succ_pos _)
          have l0v := HE.size
          refine absE (fun x4 hx4 => ?_)
          have hx : Ext x3 x4 := by rw [hx4]; exact ((Ext.refl _).alloc _)
          have bv : Bl x4 (x3.heap.size) #[.bool false, .slice none 0 0, .slice none 0 0] := by rw [hx4]; exact (Bl.new (by simp))
          have fv : Fz x4 (x3.heap.size) := by rw [hx4]; exact (Fz.new (by simp))
          replace hlo := Nat.le_trans hlo hx.size
          replace bp := Bl.ext hx bp (Nat.succ_pos _)
          replace bq := Bl.ext hx bq (Nat.succ_pos _)
          replace fr := Fz.ext hx fr br (Nat.succ_pos _)
          replace br := Bl.ext hx br (Nat.succ_pos _)
          replace hs1 := hs1.ext hx
          replace ht1 := ht1.ext hx
          replace hs2 := hs2.ext hx
          replace ht2 := ht2.ext hx
          replace HE := HE.trans hx
          clear hx
          clear hx4
          refine wpE_l rfl rfl (fun K hK => ?_)
          go_simp
          refine hK.out _ _ ((((Below.refl _ _).setCell (by show x1.heap.size ≤ u2.heap.size; omega) _).setCell (by show x1.heap.size ≤ u2.heap.size; omega) _).setCell (by show x1.heap.size ≤ u2.heap.size; omega) _) ?_
          clear hK K
          try simp only [Act.put, List.setIfInBounds_toArray, List.set_cons_zero, List.set_cons_succ]
          refine absE (fun x5 hx5 => ?_)
          have hbut : But x4 x5 (u2.heap.size) := by rw [hx5]; exact (But.refl _ _).store.store.store
          have hbn : Bl x5 (u2.heap.size) #[.bool (decide (Z < 0)), .slice a1 n1 c1, .slice d1 m1 k1] := by rw [hx5]; exact (Bl.set (Bl.set (Bl.set br (by simp)) (by simp)) (by simp))
          replace hs1 := hs1.but br (not_ints3 nb_bool nb_slice nb_slice) hbut
          replace ht1 := ht1.but br (not_ints3 nb_bool nb_slice nb_slice) hbut
          replace hs2 := hs2.but br (not_ints3 nb_bool nb_slice nb_slice) hbut
          replace ht2 := ht2.but br (not_ints3 nb_bool nb_slice nb_slice) hbut
          replace bp := But.bl hbut bp (Nat.succ_pos _) (by omega)
          replace bq := But.bl hbut bq (Nat.succ_pos _) (by omega)
          replace fv := But.fz hbut fv bv (Nat.succ_pos _) (by omega)
          replace bv := But.bl hbut bv (Nat.succ_pos _) (by omega)
          replace fr : Fz x5 (u2.heap.size) := by rw [hx5]; exact (Fz.set (Fz.set (Fz.set fr)))
          replace HE : Ext w x5 := by rw [hx5]; exact (((HE.store (by show w.heap.size ≤ u2.heap.size; omega) _).store (by show w.heap.size ≤ u2.heap.size; omega) _).store (by show w.heap.size ≤ u2.heap.size; omega) _)
          replace hlo : x1.heap.size ≤ x5.heap.size := Nat.le_trans hlo hbut.1
          clear br hbut hx5
          have br := hbn
          clear hbn
          refine wpE_b rfl rfl (fun K hK => ?_)
          go_simp
          refine hK.out _ _ ?_
          clear hK K
          try simp only [Act.put, List.setIfInBounds_toArray, List.set_cons_zero, List.set_cons_succ]
          refine absE (fun x6 hx6 => ?_)
          have hbut : But x5 x6 (x3.heap.size) := by rw [hx6]; exact (But.refl _ _).store.store.store
          have hbn : Bl x6 (x3.heap.size) #[.bool (decide (Y < 0)), .slice a2 n2 c2, .slice d2 m2 k2] := by rw [hx6]; exact (Bl.set (Bl.set (Bl.set bv (by simp)) (by simp)) (by simp))
          replace hs1 := hs1.but bv (not_ints3 nb_bool nb_slice nb_slice) hbut
          replace ht1 := ht1.but bv (not_ints3 nb_bool nb_slice nb_slice) hbut
          replace hs2 := hs2.but bv (not_ints3 nb_bool nb_slice nb_slice) hbut
          replace ht2 := ht2.but bv (not_ints3 nb_bool nb_slice nb_slice) hbut
          replace bp := But.bl hbut bp (Nat.succ_pos _) (by omega)
          replace bq := But.bl hbut bq (Nat.succ_pos _) (by omega)
          replace fr := But.fz hbut fr br (Nat.succ_pos _) (by omega)
          replace br := But.bl hbut br (Nat.succ_pos _) (by omega)
          replace fv : Fz x6 (x3.heap.size) := by rw [hx6]; exact (Fz.set (Fz.set (Fz.set fv)))
          replace HE : Ext w x6 := by rw [hx6]; exact (((HE.store (by show w.heap.size ≤ x3.heap.size; omega) _).store (by show w.heap.size ≤ x3.heap.size; omega) _).store (by show w.heap.size ≤ x3.heap.size; omega) _)
          replace hlo : x1.heap.size ≤ x6.heap.size := Nat.le_trans hlo hbut.1
          clear bv hbut hx6
          have bv := hbn
          clear hbn
          refine wpE_done ?_
          clear hlo
          go_wp2_with fail
          go_meet
          exact ⟨u2.heap.size, x3.heap.size, a1, d1, n1, c1, m1, k1, a2, d2, n2, c2, m2, k2, rfl, rfl, br, bv, hs1, ht1, hs2, ht2, HE⟩
        · refine wpE_l rfl rfl (fun K hK => ?_)
          go_simp
          refine hK.out _ _ ((Below.refl _ _).alloc hlo _) ?_
          clear hK K
          try simp only [Act.put, List.setIfInBounds_toArray, List.set_cons_zero, List.set_cons_succ]
          have gev := hlo
          have lpv := bp.lt (Nat.succ_pos _)
          have lqv := bq.lt (Nat.succ_pos _)
          have l0v := HE.size
          refine absE (fun x3 hx3 => ?_)
          have hx : Ext u2 x3 := by rw [hx3]; exact ((Ext.refl _).alloc _)
          have bv : Bl x3 (u2.heap.size) #[.bool false, .slice none 0 0, .slice none 0 0] := by rw [hx3]; exact (Bl.new (by simp))
          have fv : Fz x3 (u2.heap.size) := by rw [hx3]; exact (Fz.new (by simp))
          replace hlo := Nat.le_trans hlo hx.size
          replace bp := Bl.ext hx bp (Nat.succ_pos _)
          replace bq := Bl.ext hx bq (Nat.succ_pos _)
          replace hs1 := hs1.ext hx
          replace ht1 := ht1.ext hx
          replace hs2 := hs2.ext hx
          replace ht2 := ht2.ext hx
          replace HE := HE.trans hx
          clear hx
          clear hx3
          refine wpE_l rfl rfl (fun K hK => ?_)
          go_simp
          refine hK.out _ _ ((Below.refl _ _).alloc hlo _) ?_
          clear hK K
          try simp only [Act.put, List.setIfInBounds_toArray, List.set_cons_zero, List.set_cons_succ]
          have ger := hlo
          have lpr := bp.lt (Nat.succ_pos _)
          have lqr := bq.lt (Nat.succ_pos _)
          have lvr := bv.lt (Nat.succ_pos _)
          have l0r := HE.size
          refine absE (fun x4 hx4 => ?_)
          have hx : Ext x3 x4 := by rw [hx4]; exact ((Ext.refl _).alloc _)
          have br : Bl x4 (x3.heap.size) #[.bool false, .slice none 0 0, .slice none 0 0] := by rw [hx4]; exact (Bl.new (by simp))
          have fr : Fz x4 (x3.heap.size) := by rw [hx4]; exact (Fz.new (by simp))
          replace hlo := Nat.le_trans hlo hx.size
          replace bp := Bl.ext hx bp (Nat.succ_pos _)
          replace bq := Bl.ext hx bq (Nat.succ_pos _)
          replace fv := Fz.ext hx fv bv (Nat.succ_pos _)
          replace bv := Bl.ext hx bv (Nat.succ_pos _)
          replace hs1 := hs1.ext hx
          replace ht1 := ht1.ext hx
          replace hs2 := hs2.ext hx
          replace ht2 := ht2.ext hx
          replace HE := HE.trans hx
          clear hx
          clear hx4
          refine wpE_l rfl rfl (fun K hK => ?_)
          go_simp
          refine hK.out _ _ ((((Below.refl _ _).setCell (by show x1.heap.size ≤ x3.heap.size; omega) _).setCell (by show x1.heap.size ≤ x3.heap.size; omega) _).setCell (by show x1.heap.size ≤ x3.heap.size; omega) _) ?_
          clear hK K
          try simp only [Act.put, List.setIfInBounds_toArray, List.set_cons_zero, List.set_cons_succ]
          refine absE (fun x5 hx5 => ?_)
          have hbut : But x4 x5 (x3.heap.size) := by rw [hx5]; exact (But.refl _ _).store.store.store
          have hbn : Bl x5 (x3.heap.size) #[.bool (decide (Z < 0)), .slice a1 n1 c1, .slice d1 m1 k1] := by rw [hx5]; exact (Bl.set (Bl.set (Bl.set br (by simp)) (by simp)) (by simp))
          replace hs1 := hs1.but br (not_ints3 nb_bool nb_slice nb_slice) hbut
          replace ht1 := ht1.but br (not_ints3 nb_bool nb_slice nb_slice) hbut
          replace hs2 := hs2.but br (not_ints3 nb_bool nb_slice nb_slice) hbut
          replace ht2 := ht2.but br (not_ints3 nb_bool nb_slice nb_slice) hbut
          replace bp := But.bl hbut bp (Nat.succ_pos _) (by omega)
          replace bq := But.bl hbut bq (Nat.succ_pos _) (by omega)
          replace fv := But.fz hbut fv bv (Nat.succ_pos _) (by omega)
          replace bv := But.bl hbut bv (Nat.succ_pos _) (by omega)
          replace fr : Fz x5 (x3.heap.size) := by rw [hx5]; exact (Fz.set (Fz.set (Fz.set fr)))
          replace HE : Ext w x5 := by rw [hx5]; exact (((HE.store (by show w.heap.size ≤ x3.heap.size; omega) _).store (by show w.heap.size ≤ x3.heap.size; omega) _).store (by show w.heap.size ≤ x3.heap.size; omega) _)
          replace hlo : x1.heap.size ≤ x5.heap.size := Nat.le_trans hlo hbut.1
          clear br hbut hx5
          have br := hbn
          clear hbn
          refine wpE_b rfl rfl (fun K hK => ?_)
          go_simp
          refine hK.out _ _ ?_
          clear hK K
          try simp only [Act.put, List.setIfInBounds_toArray, List.set_cons_zero, List.set_cons_succ]
          refine absE (fun x6 hx6 => ?_)
          have hbut : But x5 x6 (u2.heap.size) := by rw [hx6]; exact (But.refl _ _).store.store.store
          have hbn : Bl x6 (u2.heap.size) #[.bool (decide (Y < 0)), .slice a2 n2 c2, .slice d2 m2 k2] := by rw [hx6]; exact (Bl.set (Bl.set (Bl.set bv (by simp)) (by simp)) (by simp))
          replace hs1 := hs1.but bv (not_ints3 nb_bool nb_slice nb_slice) hbut
          replace ht1 := ht1.but bv (not_ints3 nb_bool nb_slice nb_slice) hbut
          replace hs2 := hs2.but bv (not_ints3 nb_bool nb_slice nb_slice) hbut
          replace ht2 := ht2.but bv (not_ints3 nb_bool nb_slice nb_slice) hbut
          replace bp := But.bl hbut bp (Nat.succ_pos _) (by omega)
          replace bq := But.bl hbut bq (Nat.succ_pos _) (by omega)
          replace fr := But.fz hbut fr br (Nat.succ_pos _) (by omega)
          replace br := But.bl hbut br (Nat.succ_pos _) (by omega)
          replace fv : Fz x6 (u2.heap.size) := by rw [hx6]; exact (Fz.set (Fz.set (Fz.set fv)))
          replace HE : Ext w x6 := by rw [hx6]; exact (((HE.store (by show w.heap.size ≤ u2.heap.size; omega) _).store (by show w.heap.size ≤ u2.heap.size; omega) _).store (by show w.heap.size ≤ u2.heap.size; omega) _)
          replace hlo : x1.heap.size ≤ x6.heap.size := Nat.le_trans hlo hbut.1
          clear bv hbut hx6
          have bv := hbn
          clear hbn
          refine wpE_done ?_
          clear hlo
          go_wp2_with fail
          go_meet
          exact ⟨x3.heap.size, u2.heap.size, a1, d1, n1, c1, m1, k1, a2, d2, n2, c2, m2, k2, rfl, rfl, br, bv, hs1, ht1, hs2, ht2, HE⟩
      refine wpE_br rfl rfl (fun K hK => ?_) ?_
      · go_simp
        refine hK.out _ _ ((Below.refl _ _).alloc hlo _) ?_
        clear hK K
        try simp only [Act.put, List.setIfInBounds_toArray, List.set_cons_zero, List.set_cons_succ]
        have ger := hlo
        have lpr := bp.lt (Nat.succ_pos _)
        have lqr := bq.lt (Nat.succ_pos _)
        have l0r := HE.size
        refine absE (fun x3 hx3 => ?_)
        have hx : Ext u1 x3 := by rw [hx3]; exact ((Ext.refl _).alloc _)
        have br : Bl x3 (u1.heap.size) #[.bool false, .slice none 0 0, .slice none 0 0] := by rw [hx3]; exact (Bl.new (by simp))
        have fr : Fz x3 (u1.heap.size) := by rw [hx3]; exact (Fz.new (by simp))
        replace hlo := Nat.le_trans hlo hx.size
        replace bp := Bl.ext hx bp (Nat.succ_pos _)
        replace bq := Bl.ext hx bq (Nat.succ_pos _)
        replace hs1 := hs1.ext hx
        replace ht1 := ht1.ext hx
        replace HE := HE.trans hx
        clear hx
        clear hx3
        refine wpE_br rfl rfl (fun K hK => ?_) ?_
        · go_simp
          refine (HP2.out _ (HZ'.out.ext HE) (HD'.out.ext HE)).mono ?_
          rintro e u2 ⟨a2, n2, c2, d2, m2, k2, rfl, hs2, ht2, hx⟩
          refine hK.out _ _ (Below.mono hx hlo) ?_
          clear hK K
          try simp only [Act.put, List.setIfInBounds_toArray, List.set_cons_zero, List.set_cons_succ]
          replace hlo := Nat.le_trans hlo hx.size
          replace bp := Bl.ext hx bp (Nat.succ_pos _)
          replace bq := Bl.ext hx bq (Nat.succ_pos _)
          replace fr := Fz.ext hx fr br (Nat.succ_pos _)
          replace br := Bl.ext hx br (Nat.succ_pos _)
          replace hs1 := hs1.ext hx
          replace ht1 := ht1.ext hx
          replace HE := HE.trans hx
          clear hx
          replace hs2 : Nc u2 a2 n2 c2 (Y).natAbs := hs2
          replace ht2 : Nc u2 d2 m2 k2 (F) := ht2
          refine wpE_l rfl rfl (fun K hK => ?_)
          go_simp
          refine hK.out _ _ ((Below.refl _ _).alloc hlo _) ?_
          clear hK K
          try simp only [Act.put, List.setIfInBounds_toArray, List.set_cons_zero, List.set_cons_succ]
          have gev := hlo
          have lpv := bp.lt (Nat.succ_pos _)
          have lqv := bq.lt (Nat.succ_pos _)
          have lrv := br.lt (Nat.succ_pos _)
          have l0v := HE.size
          refine absE (fun x4 hx4 => ?_)
          have hx : Ext u2 x4 := by rw [hx4]; exact ((Ext.refl _).alloc _)
          have bv : Bl x4 (u2.heap.size) #[.bool false, .slice none 0 0, .slice none 0 0] := by rw [hx4]; exact (Bl.new (by simp))
          have fv : Fz x4 (u2.heap.size) := by rw [hx4]; exact (Fz.new (by simp))
          replace hlo := Nat.le_trans hlo hx.size
          replace bp := Bl.ext hx bp (Nat.succ_pos _)
          replace bq := Bl.ext hx bq (Nat.succ_pos _)
          replace fr := Fz.ext hx fr br (Nat.succ_pos _)
          replace br := Bl.ext hx br (Nat.succ_pos _)
          replace hs1 := hs1.ext hx
          replace ht1 := ht1.ext hx
          replace hs2 := hs2.ext hx
          replace ht2 := ht2.ext hx
          replace HE := HE.trans hx
          clear hx
          clear hx4
          refine wpE_l rfl rfl (fun K hK => ?_)
          go_simp
          refine hK.out _ _ ((((Below.refl _ _).setCell (by show x1.heap.size ≤ u1.heap.size; omega) _).setCell (by show x1.heap.size ≤ u1.heap.size; omega) _).setCell (by show x1.heap.size ≤ u1.heap.size; omega) _) ?_
          clear hK K
          try simp only [Act.put, List.setIfInBounds_toArray, List.set_cons_zero, List.set_cons_succ]
          refine absE (fun x5 hx5 => ?_)
          have hbut : But x4 x5 (u1.heap.size) := by rw [hx5]; exact (But.refl _ _).store.store.store
          have hbn : Bl x5 (u1.heap.size) #[.bool (decide (Z < 0)), .slice a1 n1 c1, .slice d1 m1 k1] := by rw [hx5]; exact (Bl.set (Bl.set (Bl.set br (by simp)) (by simp)) (by simp))
          replace hs1 := hs1.but br (not_ints3 nb_bool nb_slice nb_slice) hbut
          replace ht1 := ht1.but br (not_ints3 nb_bool nb_slice nb_slice) hbut
          replace hs2 := hs2.but br (not_ints3 nb_bool nb_slice nb_slice) hbut
          replace ht2 := ht2.but br (not_ints3 nb_bool nb_slice nb_slice) hbut
          replace bp := But.bl hbut bp (Nat.succ_pos _) (by omega)
          replace bq := But.bl hbut bq (Nat.succ_pos _) (by omega)
          replace fv := But.fz hbut fv bv (Nat.succ_pos _) (by omega)
          replace bv := But.bl hbut bv (Nat.succ_pos _) (by omega)
          replace fr : Fz x5 (u1.heap.size) := by rw [hx5]; exact (Fz.set (Fz.set (Fz.set fr)))
          replace HE : Ext w x5 := by rw [hx5]; exact (((HE.store (by show w.heap.size ≤ u1.heap.size; omega) _).store (by show w.heap.size ≤ u1.heap.size; omega) _).store (by show w.heap.size ≤ u1.heap.size; omega) _)
          replace hlo : x1.heap.size ≤ x5.heap.size := Nat.le_trans hlo hbut.1
          clear br hbut hx5
          have br := hbn
          clear hbn
          refine wpE_b rfl rfl (fun K hK => ?_)
          go_simp
          refine hK.out _ _ ?_
          clear hK K
          try simp only [Act.put, List.setIfInBounds_toArray, List.set_cons_zero, List.set_cons_succ]
          refine absE (fun x6 hx6 => ?_)
          have hbut : But x5 x6 (u2.heap.size) := by rw [hx6]; exact (But.refl _ _).store.store.store
          have hbn : Bl x6 (u2.heap.size) #[.bool (decide (Y < 0)), .slice a2 n2 c2, .slice d2 m2 k2] := by rw [hx6]; exact (Bl.set (Bl.set (Bl.set bv (by simp)) (by simp)) (by simp))
          replace hs1 := hs1.but bv (not_ints3 nb_bool nb_slice nb_slice) hbut
          replace ht1 := ht1.but bv (not_ints3 nb_bool nb_slice nb_slice) hbut
          replace hs2 := hs2.but bv (not_ints3 nb_bool nb_slice nb_slice) hbut
          replace ht2 := ht2.but bv (not_ints3 nb_bool nb_slice nb_slice) hbut
          replace bp := But.bl hbut bp (Nat.succ_pos _) (by omega)
          replace bq := But.bl hbut bq (Nat.succ_pos _) (by omega)
          replace fr := But.fz hbut fr br (Nat.succ_pos _) (by omega)
          replace br := But.bl hbut br (Nat.succ_pos _) (by omega)
          replace fv : Fz x6 (u2.heap.size) := by rw [hx6]; exact (Fz.set (Fz.set (Fz.set fv)))
          replace HE : Ext w x6 := by rw [hx6]; exact (((HE.store (by show w.heap.size ≤ u2.heap.size; omega) _).store (by show w.heap.size ≤ u2.heap.size; omega) _).store (by show w.heap.size ≤ u2.heap.size; omega) _)
          replace hlo : x1.heap.size ≤ x6.heap.size := Nat.le_trans hlo hbut.1
          clear bv hbut hx6
          have bv := hbn
          clear hbn
          refine wpE_done ?_
          clear hlo
          go_wp2_with fail
          go_meet
          exact ⟨u1.heap.size, u2.heap.size, a1, d1, n1, c1, m1, k1, a2, d2, n2, c2, m2, k2, rfl, rfl, br, bv, hs1, ht1, hs2, ht2, HE⟩
        · refine wpE_l rfl rfl (fun K hK => ?_)
          go_simp
          refine hK.out _ _ ((Below.refl _ _).alloc hlo _) ?_
          clear hK K
          try simp only [Act.put, List.setIfInBounds_toArray, List.set_cons_zero, List.set_cons_succ]
          have gev := hlo
          have lpv := bp.lt (Nat.succ_pos _)
          have lqv := bq.lt (Nat.succ_pos _)
          have lrv := br.lt (Nat.succ_pos _)
          have l0v := HE.size
          refine absE (fun x4 hx4 => ?_)
          have hx : Ext x3 x4 := by rw [hx4]; exact ((Ext.refl _).alloc _)
          have bv : Bl x4 (x3.heap.size) #[.bool false, .slice none 0 0, .slice none 0 0] := by rw [hx4]; exact (Bl.new (by simp))
          have fv : Fz x4 (x3.heap.size) := by rw [hx4]; exact (Fz.new (by simp))
          replace hlo := Nat.le_trans hlo hx.size
          replace bp := Bl.ext hx bp (Nat.succ_pos _)
          replace bq := Bl.ext hx bq (Nat.succ_pos _)
          replace fr := Fz.ext hx fr br (Nat.succ_pos _)
          replace br := Bl.ext hx br (Nat.succ_pos _)
          replace hs1 := hs1.ext hx
          replace ht1 := ht1.ext hx
          replace HE := HE.trans hx
          clear hx
          clear hx4
          refine wpE_l rfl rfl (fun K hK => ?_)
          go_simp
          refine (HP2.out _ (HZ'.out.ext HE) (HD'.out.ext HE)).mono ?_
          rintro e u2 ⟨a2, n2, c2, d2, m2, k2, rfl, hs2, ht2, hx⟩
          refine hK.out _ _ (Below.mono hx hlo) ?_
          clear hK K
          try simp only [Act.put, List.setIfInBounds_toArray, List.set_cons_zero, List.set_cons_succ]
          replace hlo := Nat.le_trans hlo hx.size
          replace bp := Bl.ext hx bp (Nat.succ_pos _)
          replace bq := Bl.ext hx bq (Nat.succ_pos _)
          replace fr := Fz.ext hx fr br (Nat.succ_pos _)
          replace br := Bl.ext hx br (Nat.succ_pos _)
          replace fv := Fz.ext hx fv bv (Nat.succ_pos _)
          replace bv := Bl.ext hx bv (Nat.succ_pos _)
          replace hs1 := hs1.ext hx
          replace ht1 := ht1.ext hx
          replace HE := HE.trans hx
          clear hx
          replace hs2 : Nc u2 a2 n2 c2 (Y).natAbs := hs2
          replace ht2 : Nc u2 d2 m2 k2 (F) := ht2
          refine wpE_l rfl rfl (fun K hK => ?_)
          go_simp
          refine hK.out _ _ ((((Below.refl _ _).setCell (by show x1.heap.size ≤ u1.heap.size; omega) _).setCell (by show x1.heap.size ≤ u1.heap.size; omega) _).setCell (by show x1.heap.size ≤ u1.heap.size; omega) _) ?_
          clear hK K
          try simp only [Act.put, List.setIfInBounds_toArray, List.set_cons_zero, List.set_cons_succ]
          refine absE (fun x5 hx5 => ?_)
          have hbut : But u2 x5 (u1.heap.size) := by rw [hx5]; exact (But.refl _ _).store.store.store
          have hbn : Bl x5 (u1.heap.size) #[.bool (decide (Z < 0)), .slice a1 n1 c1, .slice d1 m1 k1] := by rw [hx5]; exact (Bl.set (Bl.set (Bl.set br (by simp)) (by simp)) (by simp))
          replace hs1 := hs1.but br (not_ints3 nb_bool nb_slice nb_slice) hbut
          replace ht1 := ht1.but br (not_ints3 nb_bool nb_slice nb_slice) hbut
          replace hs2 := hs2.but br (not_ints3 nb_bool nb_slice nb_slice) hbut
          replace ht2 := ht2.but br (not_ints3 nb_bool nb_slice nb_slice) hbut
          replace bp := But.bl hbut bp (Nat.succ_pos _) (by omega)
          replace bq := But.bl hbut bq (Nat.succ_pos _) (by omega)
          replace fv := But.fz hbut fv bv (Nat.succ_pos _) (by omega)
          replace bv := But.bl hbut bv (Nat.succ_pos _) (by omega)
          replace fr : Fz x5 (u1.heap.size) := by rw [hx5]; exact (Fz.set (Fz.set (Fz.set fr)))
          replace HE : Ext w x5 := by rw [hx5]; exact (((HE.store (by show w.heap.size ≤ u1.heap.size; omega) _).store (by show w.heap.size ≤ u1.heap.size; omega) _).store (by show w.heap.size ≤ u1.heap.size; omega) _)
          replace hlo : x1.heap.size ≤ x5.heap.size := Nat.le_trans hlo hbut.1
          clear br hbut hx5
          have br := hbn
          clear hbn
          refine wpE_b rfl rfl (fun K hK => ?_)
          go_simp
          refine hK.out _ _ ?_
          clear hK K
          try simp only [Act.put, List.setIfInBounds_toArray, List.set_cons_zero, List.set_cons_succ]
          refine absE (fun x6 hx6 => ?_)
          have hbut : But x5 x6 (x3.heap.size) := by rw [hx6]; exact (But.refl _ _).store.store.store
          have hbn : Bl x6 (x3.heap.size) #[.bool (decide (Y < 0)), .slice a2 n2 c2, .slice d2 m2 k2] := by rw [hx6]; exact (Bl.set (Bl.set (Bl.set bv (by simp)) (by simp)) (by simp))
          replace hs1 := hs1.but bv (not_ints3 nb_bool nb_slice nb_slice) hbut
          replace ht1 := ht1.but bv (not_ints3 nb_bool nb_slice nb_slice) hbut
          replace hs2 := hs2.but bv (not_ints3 nb_bool nb_slice nb_slice) hbut
          replace ht2 := ht2.but bv (not_ints3 nb_bool nb_slice nb_slice) hbut
          replace bp := But.bl hbut bp (Nat.succ_pos _) (by omega)
          replace bq := But.bl hbut bq (Nat.succ_pos _) (by omega)
          replace fr := But.fz hbut fr br (Nat.succ_pos _) (by omega)
          replace br := But.bl hbut br (Nat.succ_pos _) (by omega)
          replace fv : Fz x6 (x3.heap.size) := by rw [hx6]; exact (Fz.set (Fz.set (Fz.set fv)))
          replace HE : Ext w x6 := by rw [hx6]; exact (((HE.store (by show w.heap.size ≤ x3.heap.size; omega) _).store (by show w.heap.size ≤ x3.heap.size; omega) _).store (by show w.heap.size ≤ x3.heap.size; omega) _)
          replace hlo : x1.heap.size ≤ x6.heap.size := Nat.le_trans hlo hbut.1
          clear bv hbut hx6
          have bv := hbn
          clear hbn
          refine wpE_done ?_
          clear hlo
          go_wp2_with fail
          go_meet
          exact ⟨u1.heap.size, x3.heap.size, a1, d1, n1, c1, m1, k1, a2, d2, n2, c2, m2, k2, rfl, rfl, br, bv, hs1, ht1, hs2, ht2, HE⟩
      · refine wpE_l rfl rfl (fun K hK => ?_)
        go_simp
        refine hK.out _ _ ((Below.refl _ _).alloc hlo _) ?_
        clear hK K
        try simp only [Act.put, List.setIfInBounds_toArray, List.set_cons_zero, List.set_cons_succ]
        have gev := hlo
        have lpv := bp.lt (Nat.succ_pos _)
        have lqv := bq.lt (Nat.succ_pos _)
        have l0v := HE.size
        refine absE (fun x3 hx3 => ?_)
        have hx : Ext u1 x3 := by rw [hx3]; exact ((Ext.refl _).alloc _)
        have bv : Bl x3 (u1.heap.size) #[.bool false, .slice none 0 0, .slice none 0 0] := by rw [hx3]; exact (Bl.new (by simp))
        have fv : Fz x3 (u1.heap.size) := by rw [hx3]; exact (Fz.new (by simp))
        replace hlo := Nat.le_trans hlo hx.size
        replace bp := Bl.ext hx bp (Nat.succ_pos _)
        replace bq := Bl.ext hx bq (Nat.succ_pos _)
        replace hs1 := hs1.ext hx
        replace ht1 := ht1.ext hx
        replace HE := HE.trans hx
        clear hx
        clear hx3
        refine wpE_br rfl rfl (fun K hK => ?_) ?_
        · go_simp
          refine (HP2.out _ (HZ'.out.ext HE) (HD'.out.ext HE)).mono ?_
          rintro e u2 ⟨a2, n2, c2, d2, m2, k2, rfl, hs2, ht2, hx⟩
          refine hK.out _ _ (Below.mono hx hlo) ?_
          clear hK K
          try simp only [Act.put, List.setIfInBounds_toArray, List.set_cons_zero, List.set_cons_succ]
          replace hlo := Nat.le_trans hlo hx.size
          replace bp := Bl.ext hx bp (Nat.succ_pos _)
          replace bq := Bl.ext hx bq (Nat.succ_pos _)
          replace fv := Fz.ext hx fv bv (Nat.succ_pos _)
          replace bv := Bl.ext hx bv (Nat.succ_pos _)
          replace hs1 := hs1.ext hx
          replace ht1 := ht1.ext hx
          replace HE := HE.trans hx
          clear hx
          replace hs2 : Nc u2 a2 n2 c2 (Y).natAbs := hs2
          replace ht2 : Nc u2 d2 m2 k2 (F) := ht2
          refine wpE_l rfl rfl (fun K hK => ?_)
          go_simp
          refine hK.out _ _ ((Below.refl _ _).alloc hlo _) ?_
          clear hK K
          try simp only [Act.put, List.setIfInBounds_toArray, List.set_cons_zero, List.set_cons_succ]
          have ger := hlo
          have lpr := bp.lt (Nat.succ_pos _)
          have lqr := bq.lt (Nat.succ_pos _)
          have lvr := bv.lt (Nat.succ_pos _)
          have l0r := HE.size
          refine absE (fun x4 hx4 => ?_)
          have hx : Ext u2 x4 := by rw [hx4]; exact ((Ext.refl _).alloc _)
          have br : Bl x4 (u2.heap.size) #[.bool false, .slice none 0 0, .slice none 0 0] := by rw [hx4]; exact (Bl.new (by simp))
          have fr : Fz x4 (u2.heap.size) := by rw [hx4]; exact (Fz.new (by simp))
          replace hlo := Nat.le_trans hlo hx.size
          replace bp := Bl.ext hx bp (Nat.succ_pos _)
          replace bq := Bl.ext hx bq (Nat.succ_pos _)
          replace fv := Fz.ext hx fv bv (Nat.succ_pos _)
          replace bv := Bl.ext hx bv (Nat.succ_pos _)
          replace hs1 := hs1.ext hx
          replace ht1 := ht1.ext hx
          replace hs2 := hs2.ext hx
          replace ht2 := ht2.ext hx
          replace HE := HE.trans hx
          clear hx
          clear hx4
          refine wpE_l rfl rfl (fun K hK => ?_)
          go_simp
          refine hK.out _ _ ((((Below.refl _ _).setCell (by show x1.heap.size ≤ u2.heap.size; omega) _).setCell (by show x1.heap.size ≤ u2.heap.size; omega) _).setCell (by show x1.heap.size ≤ u2.heap.size; omega) _) ?_
          clear hK K
          try simp only [Act.put, List.setIfInBounds_toArray, List.set_cons_zero, List.set_cons_succ]
          refine absE (fun x5 hx5 => ?_)
          have hbut : But x4 x5 (u2.heap.size) := by rw [hx5]; exact (But.refl _ _).store.store.store
          have hbn : Bl x5 (u2.heap.size) #[.bool (decide (Z < 0)), .slice a1 n1 c1, .slice d1 m1 k1] := by rw [hx5]; exact (Bl.set (Bl.set (Bl.set br (by simp)) (by simp)) (by simp))
          replace hs1 := hs1.but br (not_ints3 nb_bool nb_slice nb_slice) hbut
          replace ht1 := ht1.but br (not_ints3 nb_bool nb_slice nb_slice) hbut
          replace hs2 := hs2.but br (not_ints3 nb_bool nb_slice nb_slice) hbut
          replace ht2 := ht2.but br (not_ints3 nb_bool nb_slice nb_slice) hbut
          replace bp := But.bl hbut bp (Nat.succ_pos _) (by omega)
          replace bq := But.bl hbut bq (Nat.succ_pos _) (by omega)
          replace fv := But.fz hbut fv bv (Nat.succ_pos _) (by omega)
          replace bv := But.bl hbut bv (Nat.succ_pos _) (by omega)
          replace fr : Fz x5 (u2.heap.size) := by rw [hx5]; exact (Fz.set (Fz.set (Fz.set fr)))
          replace HE : Ext w x5 := by rw [hx5]; exact (((HE.store (by show w.heap.size ≤ u2.heap.size; omega) _).store (by show w.heap.size ≤ u2.heap.size; omega) _).store (by show w.heap.size ≤ u2.heap.size; omega) _)
          replace hlo : x1.heap.size ≤ x5.heap.size := Nat.le_trans hlo hbut.1
          clear br hbut hx5
          have br := hbn
          clear hbn
          refine wpE_b rfl rfl (fun K hK => ?_)
          go_simp
          refine hK.out _ _ ?_
          clear hK K
          try simp only [Act.put, List.setIfInBounds_toArray, List.set_cons_zero, List.set_cons_succ]
          refine absE (fun x6 hx6 => ?_)
          have hbut : But x5 x6 (u1.heap.size) := by rw [hx6]; exact (But.refl _ _).store.store.store
          have hbn : Bl x6 (u1.heap.size) #[.bool (decide (Y < 0)), .slice a2 n2 c2, .slice d2 m2 k2] := by rw [hx6]; exact (Bl.set (Bl.set (Bl.set bv (by simp)) (by simp)) (by simp))
          replace hs1 := hs1.but bv (not_ints3 nb_bool nb_slice nb_slice) hbut
          replace ht1 := ht1.but bv (not_ints3 nb_bool nb_slice nb_slice) hbut
          replace hs2 := hs2.but bv (not_ints3 nb_bool nb_slice nb_slice) hbut
          replace ht2 := ht2.but bv (not_ints3 nb_bool nb_slice nb_slice) hbut
          replace bp := But.bl hbut bp (Nat.succ_pos _) (by omega)
          replace bq := But.bl hbut bq (Nat.succ_pos _) (by omega)
          replace fr := But.fz hbut fr br (Nat.succ_pos _) (by omega)
          replace br := But.bl hbut br (Nat.succ_pos _) (by omega)
          replace fv : Fz x6 (u1.heap.size) := by rw [hx6]; exact (Fz.set (Fz.set (Fz.set fv)))
          replace HE : Ext w x6 := by rw [hx6]; exact (((HE.store (by show w.heap.size ≤ u1.heap.size; omega) _).store (by show w.heap.size ≤ u1.heap.size; omega) _).store (by show w.heap.size ≤ u1.heap.size; omega) _)
          replace hlo : x1.heap.size ≤ x6.heap.size := Nat.le_trans hlo hbut.1
          clear bv hbut hx6
          have bv := hbn
          clear hbn
          refine wpE_done ?_
          clear hlo
          go_wp2_with fail
          go_meet
          exact ⟨u2.heap.size, u1.heap.size, a1, d1, n1, c1, m1, k1, a2, d2, n2, c2, m2, k2, rfl, rfl, br, bv, hs1, ht1, hs2, ht2, HE⟩
        · refine wpE_l rfl rfl (fun K hK => ?_)
          go_simp
          refine hK.out _ _ ((Below.refl _ _).alloc hlo _) ?_
          clear hK K
          try simp only [Act.put, List.setIfInBounds_toArray, List.set_cons_zero, List.set_cons_succ]
          have ger := hlo
          have lpr := bp.lt (Nat.succ_pos _)
          have lqr := bq.lt (Nat.succ_pos _)
          have lvr := bv.lt (Nat.succ_pos _)
          have l0r := HE.size
          refine absE (fun x4 hx4 => ?_)
          have hx : Ext x3 x4 := by rw [hx4]; exact ((Ext.refl _).alloc _)
          have br : Bl x4 (x3.heap.size) #[.bool false, .slice none 0 0, .slice none 0 0] := by rw [hx4]; exact (Bl.new (by simp))
          have fr : Fz x4 (x3.heap.size) := by rw [hx4]; exact (Fz.new (by simp))
          replace hlo := Nat.le_trans hlo hx.size
          replace bp := Bl.ext hx bp (Nat.succ_pos _)
          replace bq := Bl.ext hx bq (Nat.succ_pos _)
          replace fv := Fz.ext hx fv bv (Nat.succ_pos _)
          replace bv := Bl.ext hx bv (Nat.succ_pos _)
          replace hs1 := hs1.ext hx
          replace ht1 := ht1.ext hx
          replace HE := HE.trans hx
          clear hx
          clear hx4
          refine wpE_l rfl rfl (fun K hK => ?_)
          go_simp
          refine (HP2.out _ (HZ'.out.ext HE) (HD'.out.ext HE)).mono ?_
          rintro e u2 ⟨a2, n2, c2, d2, m2, k2, rfl, hs2, ht2, hx⟩
          refine hK.out _ _ (Below.mono hx hlo) ?_
          clear hK K
          try simp only [Act.put, List.setIfInBounds_toArray, List.set_cons_zero, List.set_cons_succ]
          replace hlo := Nat.le_trans hlo hx.size
          replace bp := Bl.ext hx bp (Nat.succ_pos _)
          replace bq := Bl.ext hx bq (Nat.succ_pos _)
          replace fv := Fz.ext hx fv bv (Nat.succ_pos _)
          replace bv := Bl.ext hx bv (Nat.succ_pos _)
          replace fr := Fz.ext hx fr br (Nat.succ_pos _)
          replace br := Bl.ext hx br (Nat.succ_pos _)
          replace hs1 := hs1.ext hx
          replace ht1 := ht1.ext hx
          replace HE := HE.trans hx
          clear hx
          replace hs2 : Nc u2 a2 n2 c2 (Y).natAbs := hs2
          replace ht2 : Nc u2 d2 m2 k2 (F) := ht2
          refine wpE_l rfl rfl (fun K hK => ?_)
          go_simp
          refine hK.out _ _ ((((Below.refl _ _).setCell (by show x1.heap.size ≤ x3.heap.size; omega) _).setCell (by show x1.heap.size ≤ x3.heap.size; omega) _).setCell (by show x1.heap.size ≤ x3.heap.size; omega) _) ?_
          clear hK K
          try simp only [Act.put, List.setIfInBounds_toArray, List.set_cons_zero, List.set_cons_succ]
          refine absE (fun x5 hx5 => ?_)
          have hbut : But u2 x5 (x3.heap.size) := by rw [hx5]; exact (But.refl _ _).store.store.store
          have hbn : Bl x5 (x3.heap.size) #[.bool (decide (Z < 0)), .slice a1 n1 c1, .slice d1 m1 k1] := by rw [hx5]; exact (Bl.set (Bl.set (Bl.set br (by simp)) (by simp)) (by simp))
          replace hs1 := hs1.but br (not_ints3 nb_bool nb_slice nb_slice) hbut
          replace ht1 := ht1.but br (not_ints3 nb_bool nb_slice nb_slice) hbut
          replace hs2 := hs2.but br (not_ints3 nb_bool nb_slice nb_slice) hbut
          replace ht2 := ht2.but br (not_ints3 nb_bool nb_slice nb_slice) hbut
          replace bp := But.bl hbut bp (Nat.succ_pos _) (by omega)
          replace bq := But.bl hbut bq (Nat.succ_pos _) (by omega)
          replace fv := But.fz hbut fv bv (Nat.succ_pos _) (by omega)
          replace bv := But.bl hbut bv (Nat.succ_pos _) (by omega)
          replace fr : Fz x5 (x3.heap.size) := by rw [hx5]; exact (Fz.set (Fz.set (Fz.set fr)))
          replace HE : Ext w x5 := by rw [hx5]; exact (((HE.store (by show w.heap.size ≤ x3.heap.size; omega) _).store (by show w.heap.size ≤ x3.heap.size; omega) _).store (by show w.heap.size ≤ x3.heap.size; omega) _)
          replace hlo : x1.heap.size ≤ x5.heap.size := Nat.le_trans hlo hbut.1
          clear br hbut hx5
          have br := hbn
          clear hbn
          refine wpE_b rfl rfl (fun K hK => ?_)
          go_simp
          refine hK.out _ _ ?_
          clear hK K
          try simp only [Act.put, List.setIfInBounds_toArray, List.set_cons_zero, List.set_cons_succ]
          refine absE (fun x6 hx6 => ?_)
          have hbut : But x5 x6 (u1.heap.size) := by rw [hx6]; exact (But.refl _ _).store.store.store
          have hbn : Bl x6 (u1.heap.size) #[.bool (decide (Y < 0)), .slice a2 n2 c2, .slice d2 m2 k2] := by rw [hx6]; exact (Bl.set (Bl.set (Bl.set bv (by simp)) (by simp)) (by simp))
          replace hs1 := hs1.but bv (not_ints3 nb_bool nb_slice nb_slice) hbut
          replace ht1 := ht1.but bv (not_ints3 nb_bool nb_slice nb_slice) hbut
          replace hs2 := hs2.but bv (not_ints3 nb_bool nb_slice nb_slice) hbut
          replace ht2 := ht2.but bv (not_ints3 nb_bool nb_slice nb_slice) hbut
          replace bp := But.bl hbut bp (Nat.succ_pos _) (by omega)
          replace bq := But.bl hbut bq (Nat.succ_pos _) (by omega)
          replace fr := But.fz hbut fr br (Nat.succ_pos _) (by omega)
          replace br := But.bl hbut br (Nat.succ_pos _) (by omega)
          replace fv : Fz x6 (u1.heap.size) := by rw [hx6]; exact (Fz.set (Fz.set (Fz.set fv)))
          replace HE : Ext w x6 := by rw [hx6]; exact (((HE.store (by show w.heap.size ≤ u1.heap.size; omega) _).store (by show w.heap.size ≤ u1.heap.size; omega) _).store (by show w.heap.size ≤ u1.heap.size; omega) _)
          replace hlo : x1.heap.size ≤ x6.heap.size := Nat.le_trans hlo hbut.1
          clear bv hbut hx6
          have bv := hbn
          clear hbn
          refine wpE_done ?_
          clear hlo
          go_wp2_with fail
          go_meet
          exact ⟨x3.heap.size, u1.heap.size, a1, d1, n1, c1, m1, k1, a2, d2, n2, c2, m2, k2, rfl, rfl, br, bv, hs1, ht1, hs2, ht2, HE⟩
    refine wpE_br rfl rfl (fun K hK => ?_) ?_
    · go_simp
      refine hK.out _ _ ((Below.refl _ _).alloc hlo _) ?_
      clear hK K
      try simp only [Act.put, List.setIfInBounds_toArray, List.set_cons_zero, List.set_cons_succ]
      have ger := hlo
      have lpr := bp.lt (Nat.succ_pos _)
      have lqr := bq.lt (Nat.succ_pos _)
      have l0r := HE.size
      refine absE (fun x3 hx3 => ?_)
      have hx : Ext x2 x3 := by rw [hx3]; exact ((Ext.refl _).alloc _)
      have br : Bl x3 (x2.heap.size) #[.bool false, .slice none 0 0, .slice none 0 0] := by rw [hx3]; exact (Bl.new (by simp))
      have fr : Fz x3 (x2.heap.size) := by rw [hx3]; exact (Fz.new (by simp))
      replace hlo := Nat.le_trans hlo hx.size
      replace bp := Bl.ext hx bp (Nat.succ_pos _)
      replace bq := Bl.ext hx bq (Nat.succ_pos _)
      replace HE := HE.trans hx
      clear hx
      clear hx3
      refine wpE_br rfl rfl (fun K hK => ?_) ?_
      · go_simp
        refine (HP1.out _ (HZ.out.ext HE) (HD.out.ext HE)).mono ?_
        rintro e u1 ⟨a1, n1, c1, d1, m1, k1, rfl, hs1, ht1, hx⟩
        refine hK.out _ _ (Below.mono hx hlo) ?_
        clear hK K
        try simp only [Act.put, List.setIfInBounds_toArray, List.set_cons_zero, List.set_cons_succ]
        replace hlo := Nat.le_trans hlo hx.size
        replace bp := Bl.ext hx bp (Nat.succ_pos _)
        replace bq := Bl.ext hx bq (Nat.succ_pos _)
        replace fr := Fz.ext hx fr br (Nat.succ_pos _)
        replace br := Bl.ext hx br (Nat.succ_pos _)
        replace HE := HE.trans hx
        clear hx
        replace hs1 : Nc u1 a1 n1 c1 (Z).natAbs := hs1
        replace ht1 : Nc u1 d1 m1 k1 (E) := ht1
        refine wpE_br rfl rfl (fun K hK => ?_) ?_
        · go_simp
          refine (HP2.out _ (HZ'.out.ext HE) (HD'.out.ext HE)).mono ?_
          rintro e u2 ⟨a2, n2, c2, d2, m2, k2, rfl, hs2, ht2, hx⟩
          refine hK.out _ _ (Below.mono hx hlo) ?_
          clear hK K
          try simp only [Act.put, List.setIfInBounds_toArray, List.set_cons_zero, List.set_cons_succ]
          replace hlo := Nat.le_trans hlo hx.size
          replace bp := Bl.ext hx bp (Nat.succ_pos _)
          replace bq := Bl.ext hx bq (Nat.succ_pos _)
          replace fr := Fz.ext hx fr br (Nat.succ_pos _)
          replace br := Bl.ext hx br (Nat.succ_pos _)
          replace hs1 := hs1.ext hx
          replace ht1 := ht1.ext hx
          replace HE := HE.trans hx
          clear hx
          replace hs2 : Nc u2 a2 n2 c2 (Y).natAbs := hs2
          replace ht2 : Nc u2 d2 m2 k2 (F) := ht2
          refine wpE_l rfl rfl (fun K hK => ?_)
          go_simp
          refine hK.out _ _ ((Below.refl _ _).alloc hlo _) ?_
          clear hK K
          try simp only [Act.put, List.setIfInBounds_toArray, List.set_cons_zero, List.set_cons_succ]
          have gev := hlo
          have lpv := bp.lt (Nat.succ_pos _)
          have lqv := bq.lt (Nat.succ_pos _)
          have lrv := br.lt (Nat.succ_pos _)
          have l0v := HE.size
          refine absE (fun x4 hx4 => ?_)
          have hx : Ext u2 x4 := by rw [hx4]; exact ((Ext.refl _).alloc _)
          have bv : Bl x4 (u2.heap.size) #[.bool false, .slice none 0 0, .slice none 0 0] := by rw [hx4]; exact (Bl.new (by simp))
          have fv : Fz x4 (u2.heap.size) := by rw [hx4]; exact (Fz.new (by simp))
          replace hlo := Nat.le_trans hlo hx.size
          replace bp := Bl.ext hx bp (Nat.succ_pos _)
          replace bq := Bl.ext hx bq (Nat.succ_pos _)
          replace fr := Fz.ext hx fr br (Nat.succ_pos _)
          replace br := Bl.ext hx br (Nat.succ_pos _)
          replace hs1 := hs1.ext hx
          replace ht1 := ht1.ext hx
          replace hs2 := hs2.ext hx
          replace ht2 := ht2.ext hx
          replace HE := HE.trans hx
          clear hx
          clear hx4
          refine wpE_l rfl rfl (fun K hK => ?_)
          go_simp
          refine hK.out _ _ ((((Below.refl _ _).setCell (by show x1.heap.size ≤ x2.heap.size; omega) _).setCell (by show x1.heap.size ≤ x2.heap.size; omega) _).setCell (by show x1.heap.size ≤ x2.heap.size; omega) _) ?_
          clear hK K
          try simp only [Act.put, List.setIfInBounds_toArray, List.set_cons_zero, List.set_cons_succ]
          refine absE (fun x5 hx5 => ?_)
          have hbut : But x4 x5 (x2.heap.size) := by rw [hx5]; exact (But.refl _ _).store.store.store
          have hbn : Bl x5 (x2.heap.size) #[.bool (decide (Z < 0)), .slice a1 n1 c1, .slice d1 m1 k1] := by rw [hx5]; exact (Bl.set (Bl.set (Bl.set br (by simp)) (by simp)) (by simp))
          replace hs1 := hs1.but br (not_ints3 nb_bool nb_slice nb_slice) hbut
          replace ht1 := ht1.but br (not_ints3 nb_bool nb_slice nb_slice) hbut
          replace hs2 := hs2.but br (not_ints3 nb_bool nb_slice nb_slice) hbut
          replace ht2 := ht2.but br (not_ints3 nb_bool nb_slice nb_slice) hbut
          replace bp := But.bl hbut bp (Nat.succ_pos _) (by omega)
          replace bq := But.bl hbut bq (Nat.succ_pos _) (by omega)
          replace fv := But.fz hbut fv bv (Nat.succ_pos _) (by omega)
          replace bv := But.bl hbut bv (Nat.succ_pos _) (by omega)
          replace fr : Fz x5 (x2.heap.size) := by rw [hx5]; exact (Fz.set (Fz.set (Fz.set fr)))
          replace HE : Ext w x5 := by rw [hx5]; exact (((HE.store (by show w.heap.size ≤ x2.heap.size; omega) _).store (by show w.heap.size ≤ x2.heap.size; omega) _).store (by show w.heap.size ≤ x2.heap.size; omega) _)
          replace hlo : x1.heap.size ≤ x5.heap.size := Nat.le_trans hlo hbut.1
          clear br hbut hx5
          have br := hbn
          clear hbn
          refine wpE_b rfl rfl (fun K hK => ?_)
          go_simp
          refine hK.out _ _ ?_
          clear hK K
          try simp only [Act.put, List.setIfInBounds_toArray, List.set_cons_zero, List.set_cons_succ]
          refine absE (fun x6 hx6 => ?_)
          have hbut : But x5 x6 (u2.heap.size) := by rw [hx6]; exact (But.refl _ _).store.store.store
          have hbn : Bl x6 (u2.heap.size) #[.bool (decide (Y < 0)), .slice a2 n2 c2, .slice d2 m2 k2] := by rw [hx6]; exact (Bl.set (Bl.set (Bl.set bv (by simp)) (by simp)) (by simp))
          replace hs1 := hs1.but bv (not_ints3 nb_bool nb_slice nb_slice) hbut
          replace ht1 := ht1.but bv (not_ints3 nb_bool nb_slice nb_slice) hbut
          replace hs2 := hs2.but bv (not_ints3 nb_bool nb_slice nb_slice) hbut
          replace ht2 := ht2.but bv (not_ints3 nb_bool nb_slice nb_slice) hbut
          replace bp := But.bl hbut bp (Nat.succ_pos _) (by omega)
          replace bq := But.bl hbut bq (Nat.succ_pos _) (by omega)
          replace fr := But.fz hbut fr br (Nat.succ_pos _) (by omega)
          replace br := But.bl hbut br (Nat.succ_pos _) (by omega)
          replace fv : Fz x6 (u2.heap.size) := by rw [hx6]; exact (Fz.set (Fz.set (Fz.set fv)))
          replace HE : Ext w x6 := by rw [hx6]; exact (((HE.store (by show w.heap.size ≤ u2.heap.size; omega) _).store (by show w.heap.size ≤ u2.heap.size; omega) _).store (by show w.heap.size ≤ u2.heap.size; omega) _)
          replace hlo : x1.heap.size ≤ x6.heap.size := Nat.le_trans hlo hbut.1
          clear bv hbut hx6
          have bv := hbn
          clear hbn
          refine wpE_done ?_
          clear hlo
          go_wp2_with fail
          go_meet
          exact ⟨x2.heap.size, u2.heap.size, a1, d1, n1, c1, m1, k1, a2, d2, n2, c2, m2, k2, rfl, rfl, br, bv, hs1, ht1, hs2, ht2, HE⟩
        · refine wpE_l rfl rfl (fun K hK => ?_)
          go_simp
          refine hK.out _ _ ((Below.refl _ _).alloc hlo _) ?_
          clear hK K
          try simp only [Act.put, List.setIfInBounds_toArray, List.set_cons_zero, List.set_cons_succ]
          have gev := hlo
          have lpv := bp.lt (Nat.succ_pos _)
          have lqv := bq.lt (Nat.succ_pos _)
          have lrv := br.lt (Nat.succ_pos _)
          have l0v := HE.size
          refine absE (fun x4 hx4 => ?_)
          have hx : Ext u1 x4 := by rw [hx4]; exact ((Ext.refl _).alloc _)
          have bv : Bl x4 (u1.heap.size) #[.bool false, .slice none 0 0, .slice none 0 0] := by rw [hx4]; exact (Bl.new (by simp))
          have fv : Fz x4 (u1.heap.size) := by rw [hx4]; exact (Fz.new (by simp))
          replace hlo := Nat.le_trans hlo hx.size
          replace bp := Bl.ext hx bp (Nat.succ_pos _)
          replace bq := Bl.ext hx bq (Nat.succ_pos _)
          replace fr := Fz.ext hx fr br (Nat.succ_pos _)
          replace br := Bl.ext hx br (Nat.succ_pos _)
          replace hs1 := hs1.ext hx
          replace ht1 := ht1.ext hx
          replace HE := HE.trans hx
          clear hx
          clear hx4
          refine wpE_l rfl rfl (fun K hK => ?_)
          go_simp
          refine (HP2.out _ (HZ'.out.ext HE) (HD'.out.ext HE)).mono ?_
          rintro e u2 ⟨a2, n2, c2, d2, m2, k2, rfl, hs2, ht2, hx⟩
          refine hK.out _ _ (Below.mono hx hlo) ?_
          clear hK K
          try simp only [Act.put, List.setIfInBounds_toArray, List.set_cons_zero, List.set_cons_succ]
          replace hlo := Nat.le_trans hlo hx.size
          replace bp := Bl.ext hx bp (Nat.succ_pos _)
          replace bq := Bl.ext hx bq (Nat.succ_pos _)
          replace fr := Fz.ext hx fr br (Nat.succ_pos _)
          replace br := Bl.ext hx br (Nat.succ_pos _)
          replace fv := Fz.ext hx fv bv (Nat.succ_pos _)
          replace bv := Bl.ext hx bv (Nat.succ_pos _)
          replace hs1 := hs1.ext hx
          replace ht1 := ht1.ext hx
          replace HE := HE.trans hx
          clear hx
          replace hs2 : Nc u2 a2 n2 c2 (Y).natAbs := hs2
          replace ht2 : Nc u2 d2 m2 k2 (F) := ht2
          refine wpE_l rfl rfl (fun K hK => ?_)
          go_simp
          refine hK.out _ _ ((((Below.refl _ _).setCell (by show x1.heap.size ≤ x2.heap.size; omega) _).setCell (by show x1.heap.size ≤ x2.heap.size; omega) _).setCell (by show x1.heap.size ≤ x2.heap.size; omega) _) ?_
          clear hK K
          try simp only [Act.put, List.setIfInBounds_toArray, List.set_cons_zero, List.set_cons_succ]
          refine absE (fun x5 hx5 => ?_)
          have hbut : But u2 x5 (x2.heap.size) := by rw [hx5]; exact (But.refl _ _).store.store.store
          have hbn : Bl x5 (x2.heap.size) #[.bool (decide (Z < 0)), .slice a1 n1 c1, .slice d1 m1 k1] := by rw [hx5]; exact (Bl.set (Bl.set (Bl.set br (by simp)) (by simp)) (by simp))
          replace hs1 := hs1.but br (not_ints3 nb_bool nb_slice nb_slice) hbut
          replace ht1 := ht1.but br (not_ints3 nb_bool nb_slice nb_slice) hbut
          replace hs2 := hs2.but br (not_ints3 nb_bool nb_slice nb_slice) hbut
          replace ht2 := ht2.but br (not_ints3 nb_bool nb_slice nb_slice) hbut
          replace bp := But.bl hbut bp (Nat.succ_pos _) (by omega)
          replace bq := But.bl hbut bq (Nat.succ_pos _) (by omega)
          replace fv := But.fz hbut fv bv (Nat.succ_pos _) (by omega)
          replace bv := But.bl hbut bv (Nat.succ_pos _) (by omega)
          replace fr : Fz x5 (x2.heap.size) := by rw [hx5]; exact (Fz.set (Fz.set (Fz.set fr)))
          replace HE : Ext w x5 := by rw [hx5]; exact (((HE.store (by show w.heap.size ≤ x2.heap.size; omega) _).store (by show w.heap.size ≤ x2.heap.size; omega) _).store (by show w.heap.size ≤ x2.heap.size; omega) _)
          replace hlo : x1.heap.size ≤ x5.heap.size := Nat.le_trans hlo hbut.1
          clear br hbut hx5
          have br := hbn
          clear hbn
          refine wpE_b rfl rfl (fun K hK => ?_)
          go_simp
          refine hK.out _ _ ?_
          clear hK K
          try simp only [Act.put, List.setIfInBounds_toArray, List.set_cons_zero, List.set_cons_succ]
          refine absE (fun x6 hx6 => ?_)
          have hbut : But x5 x6 (u1.heap.size) := by rw [hx6]; exact (But.refl _ _).store.store.store
          have hbn : Bl x6 (u1.heap.size) #[.bool (decide (Y < 0)), .slice a2 n2 c2, .slice d2 m2 k2] := by rw [hx6]; exact (Bl.set (Bl.set (Bl.set bv (by simp)) (by simp)) (by simp))
          replace hs1 := hs1.but bv (not_ints3 nb_bool nb_slice nb_slice) hbut
          replace ht1 := ht1.but bv (not_ints3 nb_bool nb_slice nb_slice) hbut
          replace hs2 := hs2.but bv (not_ints3 nb_bool nb_slice nb_slice) hbut
          replace ht2 := ht2.but bv (not_ints3 nb_bool nb_slice nb_slice) hbut
          replace bp := But.bl hbut bp (Nat.succ_pos _) (by omega)
          replace bq := But.bl hbut bq (Nat.succ_pos _) (by omega)
          replace fr := But.fz hbut fr br (Nat.succ_pos _) (by omega)
          replace br := But.bl hbut br (Nat.succ_pos _) (by omega)
          replace fv : Fz x6 (u1.heap.size) := by rw [hx6]; exact (Fz.set (Fz.set (Fz.set fv)))
          replace HE : Ext w x6 := by rw [hx6]; exact (((HE.store (by show w.heap.size ≤ u1.heap.size; omega) _).store (by show w.heap.size ≤ u1.heap.size; omega) _).store (by show w.heap.size ≤ u1.heap.size; omega) _)
          replace hlo : x1.heap.size ≤ x6.heap.size := Nat.le_trans hlo hbut.1
          clear bv hbut hx6
          have bv := hbn
          clear hbn
          refine wpE_done ?_
          clear hlo
          go_wp2_with fail
          go_meet
          exact ⟨x2.heap.size, u1.heap.size, a1, d1, n1, c1, m1, k1, a2, d2, n2, c2, m2, k2, rfl, rfl, br, bv, hs1, ht1, hs2, ht2, HE⟩
      · refine wpE_l rfl rfl (fun K hK => ?_)
        go_simp
        refine hK.out _ _ ((Below.refl _ _).alloc hlo _) ?_
        clear hK K
        try simp only [Act.put, List.setIfInBounds_toArray, List.set_cons_zero, List.set_cons_succ]
        have gev := hlo
        have lpv := bp.lt (Nat.succ_pos _)
        have lqv := bq.lt (Nat.succ_pos _)
        have lrv := br.lt (Nat.succ_pos _)
        have l0v := HE.size
        refine absE (fun x4 hx4 => ?_)
        have hx : Ext x3 x4 := by rw [hx4]; exact ((Ext.refl _).alloc _)
        have bv : Bl x4 (x3.heap.size) #[.bool false, .slice none 0 0, .slice none 0 0] := by rw [hx4]; exact (Bl.new (by simp))
        have fv : Fz x4 (x3.heap.size) := by rw [hx4]; exact (Fz.new (by simp))
        replace hlo := Nat.le_trans hlo hx.size
        replace bp := Bl.ext hx bp (Nat.succ_pos _)
        replace bq := Bl.ext hx bq (Nat.succ_pos _)
        replace fr := Fz.ext hx fr br (Nat.succ_pos _)
        replace br := Bl.ext hx br (Nat.succ_pos _)
        replace HE := HE.trans hx
        clear hx
        clear hx4
        refine wpE_l rfl rfl (fun K hK => ?_)
        go_simp
        refine (HP1.out _ (HZ.out.ext HE) (HD.out.ext HE)).mono ?_
        rintro e u1 ⟨a1, n1, c1, d1, m1, k1, rfl, hs1, ht1, hx⟩
        refine hK.out _ _ (Below.mono hx hlo) ?_
        clear hK K
        try simp only [Act.put, List.setIfInBounds_toArray, List.set_cons_zero, List.set_cons_succ]
        replace hlo := Nat.le_trans hlo hx.size
        replace bp := Bl.ext hx bp (Nat.succ_pos _)
        replace bq := Bl.ext hx bq (Nat.succ_pos _)
        replace fr := Fz.ext hx fr br (Nat.succ_pos _)
        replace br := Bl.ext hx br (Nat.succ_pos _)
        replace fv := Fz.ext hx fv bv (Nat.succ_pos _)
        replace bv := Bl.ext hx bv (Nat.succ_pos _)
        replace HE := HE.trans hx
        clear hx
        replace hs1 : Nc u1 a1 n1 c1 (Z).natAbs := hs1
        replace ht1 : Nc u1 d1 m1 k1 (E) := ht1
        refine wpE_l rfl rfl (fun K hK => ?_)
        go_simp
        refine (HP2.out _ (HZ'.out.ext HE) (HD'.out.ext HE)).mono ?_
        rintro e u2 ⟨a2, n2, c2, d2, m2, k2, rfl, hs2, ht2, hx⟩
        refine hK.out _ _ (Below.mono hx hlo) ?_
        clear hK K
        try simp only [Act.put, List.setIfInBounds_toArray, List.set_cons_zero, List.set_cons_succ]
        replace hlo := Nat.le_trans hlo hx.size
        replace bp := Bl.ext hx bp (Nat.succ_pos _)
        replace bq := Bl.ext hx bq (Nat.succ_pos _)
        replace fr := Fz.ext hx fr br (Nat.succ_pos _)
        replace br := Bl.ext hx br (Nat.succ_pos _)
        replace fv := Fz.ext hx fv bv (Nat.succ_pos _)
        replace bv := Bl.ext hx bv (Nat.succ_pos _)
        replace hs1 := hs1.ext hx
        replace ht1 := ht1.ext hx
        replace HE := HE.trans hx
        clear hx
        replace hs2 : Nc u2 a2 n2 c2 (Y).natAbs := hs2
        replace ht2 : Nc u2 d2 m2 k2 (F) := ht2
        refine wpE_l rfl rfl (fun K hK => ?_)
        go_simp
        refine hK.out _ _ ((((Below.refl _ _).setCell (by show x1.heap.size ≤ x2.heap.size; omega) _).setCell (by show x1.heap.size ≤ x2.heap.size; omega) _).setCell (by show x1.heap.size ≤ x2.heap.size; omega) _) ?_
        clear hK K
        try simp only [Act.put, List.setIfInBounds_toArray, List.set_cons_zero, List.set_cons_succ]
        refine absE (fun x5 hx5 => ?_)
        have hbut : But u2 x5 (x2.heap.size) := by rw [hx5]; exact (But.refl _ _).store.store.store
        have hbn : Bl x5 (x2.heap.size) #[.bool (decide (Z < 0)), .slice a1 n1 c1, .slice d1 m1 k1] := by rw [hx5]; exact (Bl.set (Bl.set (Bl.set br (by simp)) (by simp)) (by simp))
        replace hs1 := hs1.but br (not_ints3 nb_bool nb_slice nb_slice) hbut
        replace ht1 := ht1.but br (not_ints3 nb_bool nb_slice nb_slice) hbut
        replace hs2 := hs2.but br (not_ints3 nb_bool nb_slice nb_slice) hbut
        replace ht2 := ht2.but br (not_ints3 nb_bool nb_slice nb_slice) hbut
        replace bp := But.bl hbut bp (Nat.succ_pos _) (by omega)
        replace bq := But.bl hbut bq (Nat.succ_pos _) (by omega)
        replace fv := But.fz hbut fv bv (Nat.succ_pos _) (by omega)
        replace bv := But.bl hbut bv (Nat.succ_pos _) (by omega)
        replace fr : Fz x5 (x2.heap.size) := by rw [hx5]; exact (Fz.set (Fz.set (Fz.set fr)))
        replace HE : Ext w x5 := by rw [hx5]; exact (((HE.store (by show w.heap.size ≤ x2.heap.size; omega) _).store (by show w.heap.size ≤ x2.heap.size; omega) _).store (by show w.heap.size ≤ x2.heap.size; omega) _)
        replace hlo : x1.heap.size ≤ x5.heap.size := Nat.le_trans hlo hbut.1
        clear br hbut hx5
        have br := hbn
        clear hbn
        refine wpE_b rfl rfl (fun K hK => ?_)
        go_simp
        refine hK.out _ _ ?_
        clear hK K
        try simp only [Act.put, List.setIfInBounds_toArray, List.set_cons_zero, List.set_cons_succ]
        refine absE (fun x6 hx6 => ?_)
        have hbut : But x5 x6 (x3.heap.size) := by rw [hx6]; exact (But.refl _ _).store.store.store
        have hbn : Bl x6 (x3.heap.size) #[.bool (decide (Y < 0)), .slice a2 n2 c2, .slice d2 m2 k2] := by rw [hx6]; exact (Bl.set (Bl.set (Bl.set bv (by simp)) (by simp)) (by simp))
        replace hs1 := hs1.but bv (not_ints3 nb_bool nb_slice nb_slice) hbut
        replace ht1 := ht1.but bv (not_ints3 nb_bool nb_slice nb_slice) hbut
        replace hs2 := hs2.but bv (not_ints3 nb_bool nb_slice nb_slice) hbut
        replace ht2 := ht2.but bv (not_ints3 nb_bool nb_slice nb_slice) hbut
        replace bp := But.bl hbut bp (Nat.succ_pos _) (by omega)
        replace bq := But.bl hbut bq (Nat.succ_pos _) (by omega)
        replace fr := But.fz hbut fr br (Nat.succ_pos _) (by omega)
        replace br := But.bl hbut br (Nat.succ_pos _) (by omega)
        replace fv : Fz x6 (x3.heap.size) := by rw [hx6]; exact (Fz.set (Fz.set (Fz.set fv)))
        replace HE : Ext w x6 := by rw [hx6]; exact (((HE.store (by show w.heap.size ≤ x3.heap.size; omega) _).store (by show w.heap.size ≤ x3.heap.size; omega) _).store (by show w.heap.size ≤ x3.heap.size; omega) _)
        replace hlo : x1.heap.size ≤ x6.heap.size := Nat.le_trans hlo hbut.1
        clear bv hbut hx6
        have bv := hbn
        clear hbn
        refine wpE_done ?_
        clear hlo
        go_wp2_with fail
        go_meet
        exact ⟨x2.heap.size, x3.heap.size, a1, d1, n1, c1, m1, k1, a2, d2, n2, c2, m2, k2, rfl, rfl, br, bv, hs1, ht1, hs2, ht2, HE⟩
    · refine wpE_l rfl rfl (fun K hK => ?_)
      go_simp
      refine hK.out _ _ ((Below.refl _ _).alloc hlo _) ?_
      clear hK K
      try simp only [Act.put, List.setIfInBounds_toArray, List.set_cons_zero, List.set_cons_succ]
      have gev := hlo
      have lpv := bp.lt (Nat.succ_pos _)
      have lqv := bq.lt (Nat.succ_pos _)
      have l0v := HE.size
      refine absE (fun x3 hx3 => ?_)
      have hx : Ext x2 x3 := by rw [hx3]; exact ((Ext.refl _).alloc _)
      have bv : Bl x3 (x2.heap.size) #[.bool false, .slice none 0 0, .slice none 0 0] := by rw [hx3]; exact (Bl.new (by simp))
      have fv : Fz x3 (x2.heap.size) := by rw [hx3]; exact (Fz.new (by simp))
      replace hlo := Nat.le_trans hlo hx.size
      replace bp := Bl.ext hx bp (Nat.succ_pos _)
      replace bq := Bl.ext hx bq (Nat.succ_pos _)
      replace HE := HE.trans hx
      clear hx
      clear hx3
      refine wpE_br rfl rfl (fun K hK => ?_) ?_
      · go_simp
        refine (HP1.out _ (HZ.out.ext HE) (HD.out.ext HE)).mono ?_
        rintro e u1 ⟨a1, n1, c1, d1, m1, k1, rfl, hs1, ht1, hx⟩
        refine hK.out _ _ (Below.mono hx hlo) ?_
        clear hK K
        try simp only [Act.put, List.setIfInBounds_toArray, List.set_cons_zero, List.set_cons_succ]
        replace hlo := Nat.le_trans hlo hx.size
        replace bp := Bl.ext hx bp (Nat.succ_pos _)
        replace bq := Bl.ext hx bq (Nat.succ_pos _)
        replace fv := Fz.ext hx fv bv (Nat.succ_pos _)
        replace bv := Bl.ext hx bv (Nat.succ_pos _)
        replace HE := HE.trans hx
        clear hx
        replace hs1 : Nc u1 a1 n1 c1 (Z).natAbs := hs1
        replace ht1 : Nc u1 d1 m1 k1 (E) := ht1
        refine wpE_br rfl rfl (fun K hK => ?_) ?_
        · go_simp
          refine (HP2.out _ (HZ'.out.ext HE) (HD'.out.ext HE)).mono ?_
          rintro e u2 ⟨a2, n2, c2, d2, m2, k2, rfl, hs2, ht2, hx⟩
          refine hK.out _ _ (Below.mono hx hlo) ?_
          clear hK K
          try simp only [Act.put, List.setIfInBounds_toArray, List.set_cons_zero, List.set_cons_succ]
          replace hlo := Nat.le_trans hlo hx.size
          replace bp := Bl.ext hx bp (Nat.succ_pos _)
          replace bq := Bl.ext hx bq (Nat.succ_pos _)
          replace fv := Fz.ext hx fv bv (Nat.succ_pos _)
          replace bv := Bl.ext hx bv (Nat.succ_pos _)
          replace hs1 := hs1.ext hx
          replace ht1 := ht1.ext hx
          replace HE := HE.trans hx
          clear hx
          replace hs2 : Nc u2 a2 n2 c2 (Y).natAbs := hs2
          replace ht2 : Nc u2 d2 m2 k2 (F) := ht2
          refine wpE_l rfl rfl (fun K hK => ?_)
          go_simp
          refine hK.out _ _ ((Below.refl _ _).alloc hlo _) ?_
          clear hK K
          try simp only [Act.put, List.setIfInBounds_toArray, List.set_cons_zero, List.set_cons_succ]
          have ger := hlo
          have lpr := bp.lt (Nat.succ_pos _)
          have lqr := bq.lt (Nat.succ_pos _)
          have lvr := bv.lt (Nat.succ_pos _)
          have l0r := HE.size
          refine absE (fun x4 hx4 => ?_)
          have hx : Ext u2 x4 := by rw [hx4]; exact ((Ext.refl _).alloc _)
          have br : Bl x4 (u2.heap.size) #[.bool false, .slice none 0 0, .slice none 0 0] := by rw [hx4]; exact (Bl.new (by simp))
          have fr : Fz x4 (u2.heap.size) := by rw [hx4]; exact (Fz.new (by simp))
          replace hlo := Nat.le_trans hlo hx.size
          replace bp := Bl.ext hx bp (Nat.succ_pos _)
          replace bq := Bl.ext hx bq (Nat.succ_pos _)
          replace fv := Fz.ext hx fv bv (Nat.succ_pos _)
          replace bv := Bl.ext hx bv (Nat.succ_pos _)
          replace hs1 := hs1.ext hx
          replace ht1 := ht1.ext hx
          replace hs2 := hs2.ext hx
          replace ht2 := ht2.ext hx
          replace HE := HE.trans hx
          clear hx
          clear hx4
          refine wpE_l rfl rfl (fun K hK => ?_)
          go_simp
          refine hK.out _ _ ((((Below.refl _ _).setCell (by show x1.heap.size ≤ u2.heap.size; omega) _).setCell (by show x1.heap.size ≤ u2.heap.size; omega) _).setCell (by show x1.heap.size ≤ u2.heap.size; omega) _) ?_
          clear hK K
          try simp only [Act.put, List.setIfInBounds_toArray, List.set_cons_zero, List.set_cons_succ]
          refine absE (fun x5 hx5 => ?_)
          have hbut : But x4 x5 (u2.heap.size) := by rw [hx5]; exact (But.refl _ _).store.store.store
          have hbn : Bl x5 (u2.heap.size) #[.bool (decide (Z < 0)), .slice a1 n1 c1, .slice d1 m1 k1] := by rw [hx5]; exact (Bl.set (Bl.set (Bl.set br (by simp)) (by simp)) (by simp))
          replace hs1 := hs1.but br (not_ints3 nb_bool nb_slice nb_slice) hbut
          replace ht1 := ht1.but br (not_ints3 nb_bool nb_slice nb_slice) hbut
          replace hs2 := hs2.but br (not_ints3 nb_bool nb_slice nb_slice) hbut
          replace ht2 := ht2.but br (not_ints3 nb_bool nb_slice nb_slice) hbut
          replace bp := But.bl hbut bp (Nat.succ_pos _) (by omega)
          replace bq := But.bl hbut bq (Nat.succ_pos _) (by omega)
          replace fv := But.fz hbut fv bv (Nat.succ_pos _) (by omega)
          replace bv := But.bl hbut bv (Nat.succ_pos _) (by omega)
          replace fr : Fz x5 (u2.heap.size) := by rw [hx5]; exact (Fz.set (Fz.set (Fz.set fr)))
          replace HE : Ext w x5 := by rw [hx5]; exact (((HE.store (by show w.heap.size ≤ u2.heap.size; omega) _).store (by show w.heap.size ≤ u2.heap.size; omega) _).store (by show w.heap.size ≤ u2.heap.size; omega) _)
          replace hlo : x1.heap.size ≤ x5.heap.size := Nat.le_trans hlo hbut.1
          clear br hbut hx5
          have br := hbn
          clear hbn
          refine wpE_b rfl rfl (fun K hK => ?_)
          go_simp
          refine hK.out _ _ ?_
          clear hK K
          try simp only [Act.put, List.setIfInBounds_toArray, List.set_cons_zero, List.set_cons_succ]
          refine absE (fun x6 hx6 => ?_)
          have hbut : But x5 x6 (x2.heap.size) := by rw [hx6]; exact (But.refl _ _).store.store.store
          have hbn : Bl x6 (x2.heap.size) #[.bool (decide (Y < 0)), .slice a2 n2 c2, .slice d2 m2 k2] := by rw [hx6]; exact (Bl.set (Bl.set (Bl.set bv (by simp)) (by simp)) (by simp))
          replace hs1 := hs1.but bv (not_ints3 nb_bool nb_slice nb_slice) hbut
          replace ht1 := ht1.but bv (not_ints3 nb_bool nb_slice nb_slice) hbut
          replace hs2 := hs2.but bv (not_ints3 nb_bool nb_slice nb_slice) hbut
          replace ht2 := ht2.but bv (not_ints3 nb_bool nb_slice nb_slice) hbut
          replace bp := But.bl hbut bp (Nat.succ_pos _) (by omega)
          replace bq := But.bl hbut bq (Nat.succ_pos _) (by omega)
          replace fr := But.fz hbut fr br (Nat.succ_pos _) (by omega)
          replace br := But.bl hbut br (Nat.succ_pos _) (by omega)
          replace fv : Fz x6 (x2.heap.size) := by rw [hx6]; exact (Fz.set (Fz.set (Fz.set fv)))
          replace HE : Ext w x6 := by rw [hx6]; exact (((HE.store (by show w.heap.size ≤ x2.heap.size; omega) _).store (by show w.heap.size ≤ x2.heap.size; omega) _).store (by show w.heap.size ≤ x2.heap.size; omega) _)
          replace hlo : x1.heap.size ≤ x6.heap.size := Nat.le_trans hlo hbut.1
          clear bv hbut hx6
          have bv := hbn
          clear hbn
          refine wpE_done ?_
          clear hlo
          go_wp2_with fail
          go_meet
          exact ⟨u2.heap.size, x2.heap.size, a1, d1, n1, c1, m1, k1, a2, d2, n2, c2, m2, k2, rfl, rfl, br, bv, hs1, ht1, hs2, ht2, HE⟩
        · refine wpE_l rfl rfl (fun K hK => ?_)
          go_simp
          refine hK.out _ _ ((Below.refl _ _).alloc hlo _) ?_
          clear hK K
          try simp only [Act.put, List.setIfInBounds_toArray, List.set_cons_zero, List.set_cons_succ]
          have ger := hlo
          have lpr := bp.lt (Nat.succ_pos _)
          have lqr := bq.lt (Nat.succ_pos _)
          have lvr := bv.lt (Nat.succ_pos _)
          have l0r := HE.size
          refine absE (fun x4 hx4 => ?_)
          have hx : Ext u1 x4 := by rw [hx4]; exact ((Ext.refl _).alloc _)
          have br : Bl x4 (u1.heap.size) #[.bool false, .slice none 0 0, .slice none 0 0] := by rw [hx4]; exact (Bl.new (by simp))
          have fr : Fz x4 (u1.heap.size) := by rw [hx4]; exact (Fz.new (by simp))
          replace hlo := Nat.le_trans hlo hx.size
          replace bp := Bl.ext hx bp (Nat.succ_pos _)
          replace bq := Bl.ext hx bq (Nat.succ_pos _)
          replace fv := Fz.ext hx fv bv (Nat.succ_pos _)
          replace bv := Bl.ext hx bv (Nat.succ_pos _)
          replace hs1 := hs1.ext hx
          replace ht1 := ht1.ext hx
          replace HE := HE.trans hx
          clear hx
          clear hx4
          refine wpE_l rfl rfl (fun K hK => ?_)
          go_simp
          refine (HP2.out _ (HZ'.out.ext HE) (HD'.out.ext HE)).mono ?_
          rintro e u2 ⟨a2, n2, c2, d2, m2, k2, rfl, hs2, ht2, hx⟩
          refine hK.out _ _ (Below.mono hx hlo) ?_
          clear hK K
          try simp only [Act.put, List.setIfInBounds_toArray, List.set_cons_zero, List.set_cons_succ]
          replace hlo := Nat.le_trans hlo hx.size
          replace bp := Bl.ext hx bp (Nat.succ_pos _)
          replace bq := Bl.ext hx bq (Nat.succ_pos _)
          replace fv := Fz.ext hx fv bv (Nat.succ_pos _)
          replace bv := Bl.ext hx bv (Nat.succ_pos _)
          replace fr := Fz.ext hx fr br (Nat.succ_pos _)
          replace br := Bl.ext hx br (Nat.succ_pos _)
          replace hs1 := hs1.ext hx
          replace ht1 := ht1.ext hx
          replace HE := HE.trans hx
          clear hx
          replace hs2 : Nc u2 a2 n2 c2 (Y).natAbs := hs2
          replace ht2 : Nc u2 d2 m2 k2 (F) := ht2
          refine wpE_l rfl rfl (fun K hK => ?_)
          go_simp
          refine hK.out _ _ ((((Below.refl _ _).setCell (by show x1.heap.size ≤ u1.heap.size; omega) _).setCell (by show x1.heap.size ≤ u1.heap.size; omega) _).setCell (by show x1.heap.size ≤ u1.heap.size; omega) _) ?_
          clear hK K
          try simp only [Act.put, List.setIfInBounds_toArray, List.set_cons_zero, List.set_cons_succ]
          refine absE (fun x5 hx5 => ?_)
          have hbut : But u2 x5 (u1.heap.size) := by rw [hx5]; exact (But.refl _ _).store.store.store
          have hbn : Bl x5 (u1.heap.size) #[.bool (decide (Z < 0)), .slice a1 n1 c1, .slice d1 m1 k1] := by rw [hx5]; exact (Bl.set (Bl.set (Bl.set br (by simp)) (by simp)) (by simp))
          replace hs1 := hs1.but br (not_ints3 nb_bool nb_slice nb_slice) hbut
          replace ht1 := ht1.but br (not_ints3 nb_bool nb_slice nb_slice) hbut
          replace hs2 := hs2.but br (not_ints3 nb_bool nb_slice nb_slice) hbut
          replace ht2 := ht2.but br (not_ints3 nb_bool nb_slice nb_slice) hbut
          replace bp := But.bl hbut bp (Nat.succ_pos _) (by omega)
          replace bq := But.bl hbut bq (Nat.succ_pos _) (by omega)
          replace fv := But.fz hbut fv bv (Nat.succ_pos _) (by omega)
          replace bv := But.bl hbut bv (Nat.succ_pos _) (by omega)
          replace fr : Fz x5 (u1.heap.size) := by rw [hx5]; exact (Fz.set (Fz.set (Fz.set fr)))
          replace HE : Ext w x5 := by rw [hx5]; exact (((HE.store (by show w.heap.size ≤ u1.heap.size; omega) _).store (by show w.heap.size ≤ u1.heap.size; omega) _).store (by show w.heap.size ≤ u1.heap.size; omega) _)
          replace hlo : x1.heap.size ≤ x5.heap.size := Nat.le_trans hlo hbut.1
          clear br hbut hx5
          have br := hbn
          clear hbn
          refine wpE_b rfl rfl (fun K hK => ?_)
          go_simp
          refine hK.out _ _ ?_
          clear hK K
          try simp only [Act.put, List.setIfInBounds_toArray, List.set_cons_zero, List.set_cons_succ]
          refine absE (fun x6 hx6 => ?_)
          have hbut : But x5 x6 (x2.heap.size) := by rw [hx6]; exact (But.refl _ _).store.store.store
          have hbn : Bl x6 (x2.heap.size) #[.bool (decide (Y < 0)), .slice a2 n2 c2, .slice d2 m2 k2] := by rw [hx6]; exact (Bl.set (Bl.set (Bl.set bv (by simp)) (by simp)) (by simp))
          replace hs1 := hs1.but bv (not_ints3 nb_bool nb_slice nb_slice) hbut
          replace ht1 := ht1.but bv (not_ints3 nb_bool nb_slice nb_slice) hbut
          replace hs2 := hs2.but bv (not_ints3 nb_bool nb_slice nb_slice) hbut
          replace ht2 := ht2.but bv (not_ints3 nb_bool nb_slice nb_slice) hbut
          replace bp := But.bl hbut bp (Nat.succ_pos _) (by omega)
          replace bq := But.bl hbut bq (Nat.succ_pos _) (by omega)
          replace fr := But.fz hbut fr br (Nat.succ_pos _) (by omega)
          replace br := But.bl hbut br (Nat.succ_pos _) (by omega)
          replace fv : Fz x6 (x2.heap.size) := by rw [hx6]; exact (Fz.set (Fz.set (Fz.set fv)))
          replace HE : Ext w x6 := by rw [hx6]; exact (((HE.store (by show w.heap.size ≤ x2.heap.size; omega) _).store (by show w.heap.size ≤ x2.heap.size; omega) _).store (by show w.heap.size ≤ x2.heap.size; omega) _)
          replace hlo : x1.heap.size ≤ x6.heap.size := Nat.le_trans hlo hbut.1
          clear bv hbut hx6
          have bv := hbn
          clear hbn
          refine wpE_done ?_
          clear hlo
          go_wp2_with fail
          go_meet
          exact ⟨u1.heap.size, x2.heap.size, a1, d1, n1, c1, m1, k1, a2, d2, n2, c2, m2, k2, rfl, rfl, br, bv, hs1, ht1, hs2, ht2, HE⟩
      · refine wpE_l rfl rfl (fun K hK => ?_)
        go_simp
        refine hK.out _ _ ((Below.refl _ _).alloc hlo _) ?_
        clear hK K
        try simp only [Act.put, List.setIfInBounds_toArray, List.set_cons_zero, List.set_cons_succ]
        have ger := hlo
        have lpr := bp.lt (Nat.succ_pos _)
        have lqr := bq.lt (Nat.succ_pos _)
        have lvr := bv.lt (Nat.succ_pos _)
        have l0r := HE.size
        refine absE (fun x4 hx4 => ?_)
        have hx : Ext x3 x4 := by rw [hx4]; exact ((Ext.refl _).alloc _)
        have br : Bl x4 (x3.heap.size) #[.bool false, .slice none 0 0, .slice none 0 0] := by rw [hx4]; exact (Bl.new (by simp))
        have fr : Fz x4 (x3.heap.size) := by rw [hx4]; exact (Fz.new (by simp))
        replace hlo := Nat.le_trans hlo hx.size
        replace bp := Bl.ext hx bp (Nat.succ_pos _)
        replace bq := Bl.ext hx bq (Nat.succ_pos _)
        replace fv := Fz.ext hx fv bv (Nat.succ_pos _)
        replace bv := Bl.ext hx bv (Nat.succ_pos _)
        replace HE := HE.trans hx
        clear hx
        clear hx4
        refine wpE_l rfl rfl (fun K hK => ?_)
        go_simp
        refine (HP1.out _ (HZ.out.ext HE) (HD.out.ext HE)).mono ?_
        rintro e u1 ⟨a1, n1, c1, d1, m1, k1, rfl, hs1, ht1, hx⟩
        refine hK.out _ _ (Below.mono hx hlo) ?_
        clear hK K
        try simp only [Act.put, List.setIfInBounds_toArray, List.set_cons_zero, List.set_cons_succ]
        replace hlo := Nat.le_trans hlo hx.size
        replace bp := Bl.ext hx bp (Nat.succ_pos _)
        replace bq := Bl.ext hx bq (Nat.succ_pos _)
        replace fv := Fz.ext hx fv bv (Nat.succ_pos _)
        replace bv := Bl.ext hx bv (Nat.succ_pos _)
        replace fr := Fz.ext hx fr br (Nat.succ_pos _)
        replace br := Bl.ext hx br (Nat.succ_pos _)
        replace HE := HE.trans hx
        clear hx
        replace hs1 : Nc u1 a1 n1 c1 (Z).natAbs := hs1
        replace ht1 : Nc u1 d1 m1 k1 (E) := ht1
        refine wpE_l rfl rfl (fun K hK => ?_)
        go_simp
        refine (HP2.out _ (HZ'.out.ext HE) (HD'.out.ext HE)).mono ?_
        rintro e u2 ⟨a2, n2, c2, d2, m2, k2, rfl, hs2, ht2, hx⟩
        refine hK.out _ _ (Below.mono hx hlo) ?_
        clear hK K
        try simp only [Act.put, List.setIfInBounds_toArray, List.set_cons_zero, List.set_cons_succ]
        replace hlo := Nat.le_trans hlo hx.size
        replace bp := Bl.ext hx bp (Nat.succ_pos _)
        replace bq := Bl.ext hx bq (Nat.succ_pos _)
        replace fv := Fz.ext hx fv bv (Nat.succ_pos _)
        replace bv := Bl.ext hx bv (Nat.succ_pos _)
        replace fr := Fz.ext hx fr br (Nat.succ_pos _)
        replace br := Bl.ext hx br (Nat.succ_pos _)
        replace hs1 := hs1.ext hx
        replace ht1 := ht1.ext hx
        replace HE := HE.trans hx
        clear hx
        replace hs2 : Nc u2 a2 n2 c2 (Y).natAbs := hs2
        replace ht2 : Nc u2 d2 m2 k2 (F) := ht2
        refine wpE_l rfl rfl (fun K hK => ?_)
        go_simp
        refine hK.out _ _ ((((Below.refl _ _).setCell (by show x1.heap.size ≤ x3.heap.size; omega) _).setCell (by show x1.heap.size ≤ x3.heap.size; omega) _).setCell (by show x1.heap.size ≤ x3.heap.size; omega) _) ?_
        clear hK K
        try simp only [Act.put, List.setIfInBounds_toArray, List.set_cons_zero, List.set_cons_succ]
        refine absE (fun x5 hx5 => ?_)
        have hbut : But u2 x5 (x3.heap.size) := by rw [hx5]; exact (But.refl _ _).store.store.store
        have hbn : Bl x5 (x3.heap.size) #[.bool (decide (Z < 0)), .slice a1 n1 c1, .slice d1 m1 k1] := by rw [hx5]; exact (Bl.set (Bl.set (Bl.set br (by simp)) (by simp)) (by simp))
        replace hs1 := hs1.but br (not_ints3 nb_bool nb_slice nb_slice) hbut
        replace ht1 := ht1.but br (not_ints3 nb_bool nb_slice nb_slice) hbut
        replace hs2 := hs2.but br (not_ints3 nb_bool nb_slice nb_slice) hbut
        replace ht2 := ht2.but br (not_ints3 nb_bool nb_slice nb_slice) hbut
        replace bp := But.bl hbut bp (Nat.succ_pos _) (by omega)
        replace bq := But.bl hbut bq (Nat.succ_pos _) (by omega)
        replace fv := But.fz hbut fv bv (Nat.succ_pos _) (by omega)
        replace bv := But.bl hbut bv (Nat.succ_pos _) (by omega)
        replace fr : Fz x5 (x3.heap.size) := by rw [hx5]; exact (Fz.set (Fz.set (Fz.set fr)))
        replace HE : Ext w x5 := by rw [hx5]; exact (((HE.store (by show w.heap.size ≤ x3.heap.size; omega) _).store (by show w.heap.size ≤ x3.heap.size; omega) _).store (by show w.heap.size ≤ x3.heap.size; omega) _)
        replace hlo : x1.heap.size ≤ x5.heap.size := Nat.le_trans hlo hbut.1
        clear br hbut hx5
        have br := hbn
        clear hbn
        refine wpE_b rfl rfl (fun K hK => ?_)
        go_simp
        refine hK.out _ _ ?_
        clear hK K
        try simp only [Act.put, List.setIfInBounds_toArray, List.set_cons_zero, List.set_cons_succ]
        refine absE (fun x6 hx6 => ?_)
        have hbut : But x5 x6 (x2.heap.size) := by rw [hx6]; exact (But.refl _ _).store.store.store
        have hbn : Bl x6 (x2.heap.size) #[.bool (decide (Y < 0)), .slice a2 n2 c2, .slice d2 m2 k2] := by rw [hx6]; exact (Bl.set (Bl.set (Bl.set bv (by simp)) (by simp)) (by simp))
        replace hs1 := hs1.but bv (not_ints3 nb_bool nb_slice nb_slice) hbut
        replace ht1 := ht1.but bv (not_ints3 nb_bool nb_slice nb_slice) hbut
        replace hs2 := hs2.but bv (not_ints3 nb_bool nb_slice nb_slice) hbut
        replace ht2 := ht2.but bv (not_ints3 nb_bool nb_slice nb_slice) hbut
        replace bp := But.bl hbut bp (Nat.succ_pos _) (by omega)
        replace bq := But.bl hbut bq (Nat.succ_pos _) (by omega)
        replace fr := But.fz hbut fr br (Nat.succ_pos _) (by omega)
        replace br := But.bl hbut br (Nat.succ_pos _) (by omega)
        replace fv : Fz x6 (x2.heap.size) := by rw [hx6]; exact (Fz.set (Fz.set (Fz.set fv)))
        replace HE : Ext w x6 := by rw [hx6]; exact (((HE.store (by show w.heap.size ≤ x2.heap.size; omega) _).store (by show w.heap.size ≤ x2.heap.size; omega) _).store (by show w.heap.size ≤ x2.heap.size; omega) _)
        replace hlo : x1.heap.size ≤ x6.heap.size := Nat.le_trans hlo hbut.1
        clear bv hbut hx6
        have bv := hbn
        clear hbn
        refine wpE_done ?_
        clear hlo
        go_wp2_with fail
        go_meet
        exact ⟨x3.heap.size, x2.heap.size, a1, d1, n1, c1, m1, k1, a2, d2, n2, c2, m2, k2, rfl, rfl, br, bv, hs1, ht1, hs2, ht2, HE⟩
  case rest =>
    obtain ⟨gr, gv, ar, dr, nr, cr, mr, kr, av, dv, nv, cv, mv, kv, rfl, rfl, br, bv, hsr, htr, hsv, htv, HE⟩ := hcut
    by_cases hss : sz = sy
    · subst hss
      go_wp2_with fail
      refine wp_region_plan (R := Ext) (.q 0 (.q 1 (.q 3 (.q 4 (.l 2 (.l 5 (.q 6 (.q 7 .done)))))))) (by kernel_rfl) (by kernel_rfl) (by kernel_rfl) (by kernel_rfl) Ext.refl (fun _ _ _ => Ext.trans) ?_
      refine absE (fun x1 hx1 => ?_)
      have hx : Ext wc x1 := by rw [hx1]; exact (Ext.refl _).drew
      replace br := Bl.ext hx br (Nat.succ_pos _)
      replace bv := Bl.ext hx bv (Nat.succ_pos _)
      replace hsr := hsr.ext hx
      replace htr := htr.ext hx
      replace hsv := hsv.ext hx
      replace htv := htv.ext hx
      replace HE := HE.trans hx
      clear hx
      clear hx1
      repeat (refine wpE_q (v := ?_) rfl rfl (fun u hu => ?_) ?_; rotate_left 1; (focus (have kr := Bl.ext hu br (Nat.succ_pos _); have kv := Bl.ext hu bv (Nat.succ_pos _); go_simp; (try rfl))); simp only [Act.put, List.setIfInBounds_toArray, List.set_cons_zero, List.set_cons_succ])
      refine wpE_l rfl rfl (fun K hK => ?_)
      go_simp
      refine (HS1.out _ _ _ _ _ (hsr.wh (by have := B1.out; omega))).mono ?_
      rintro e u3 ⟨rfl, hx⟩
      refine hK.out _ _ hx ?_
      clear hK K
      try simp only [Act.put, List.setIfInBounds_toArray, List.set_cons_zero, List.set_cons_succ]
      replace br := Bl.ext hx br (Nat.succ_pos _)
      replace bv := Bl.ext hx bv (Nat.succ_pos _)
      replace hsr := hsr.ext hx
      replace htr := htr.ext hx
      replace hsv := hsv.ext hx
      replace htv := htv.ext hx
      replace HE := HE.trans hx
      clear hx
      refine wpE_l rfl rfl (fun K hK => ?_)
      go_simp
      refine (HS2.out _ _ _ _ _ (hsv.wh (by have := B3.out; omega))).mono ?_
      rintro e u4 ⟨rfl, hx⟩
      refine hK.out _ _ hx ?_
      clear hK K
      try simp only [Act.put, List.setIfInBounds_toArray, List.set_cons_zero, List.set_cons_succ]
      replace br := Bl.ext hx br (Nat.succ_pos _)
      replace bv := Bl.ext hx bv (Nat.succ_pos _)
      replace hsr := hsr.ext hx
      replace htr := htr.ext hx
      replace hsv := hsv.ext hx
      replace htv := htv.ext hx
      replace HE := HE.trans hx
      clear hx
      repeat (refine wpE_q (v := ?_) rfl rfl (fun u hu => ?_) ?_; rotate_left 1; (focus (have kr := Bl.ext hu br (Nat.succ_pos _); have kv := Bl.ext hu bv (Nat.succ_pos _); go_simp; (try rfl))); simp only [Act.put, List.setIfInBounds_toArray, List.set_cons_zero, List.set_cons_succ])
      refine wpE_done ?_
      go_wp2_with fail
      refine wp_region_plan (R := Ext) (.q 0 (.q 1 (.q 2 (.q 3 (.q 4 (.q 6 (.q 7 (.q 8 (.q 9 (.q 10 (.l 5 (.l 11 (.l 12 (.q 13 .done)))))))))))))) (by kernel_rfl) (by kernel_rfl) (by kernel_rfl) (by kernel_rfl) Ext.refl (fun _ _ _ => Ext.trans) ?_
      refine absE (fun x2 hx2 => ?_)
      have hx : Ext u4 x2 := by rw [hx2]; exact (Ext.refl _).drew
      replace br := Bl.ext hx br (Nat.succ_pos _)
      replace bv := Bl.ext hx bv (Nat.succ_pos _)
      replace hsr := hsr.ext hx
      replace htr := htr.ext hx
      replace hsv := hsv.ext hx
      replace htv := htv.ext hx
      replace HE := HE.trans hx
      clear hx
      clear hx2
      repeat (refine wpE_q (v := ?_) rfl rfl (fun u hu => ?_) ?_; rotate_left 1; (focus (have kr := Bl.ext hu br (Nat.succ_pos _); have kv := Bl.ext hu bv (Nat.succ_pos _); go_simp; (try rfl))); simp only [Act.put, List.setIfInBounds_toArray, List.set_cons_zero, List.set_cons_succ])
      refine wpE_l rfl rfl (fun K hK => ?_)
      go_simp
      refine (w_Mul (hsr.wh (by have := B1.out; omega)) (htv.wf (by have := B4.out; omega))).mono ?_
      rintro e u5 ⟨a5, n5, c5, rfl, hs5, hx⟩
      refine hK.out _ _ hx ?_
      clear hK K
      try simp only [Act.put, List.setIfInBounds_toArray, List.set_cons_zero, List.set_cons_succ]
      replace br := Bl.ext hx br (Nat.succ_pos _)
      replace bv := Bl.ext hx bv (Nat.succ_pos _)
      replace hsr := hsr.ext hx
      replace htr := htr.ext hx
      replace hsv := hsv.ext hx
      replace htv := htv.ext hx
      replace HE := HE.trans hx
      clear hx
      replace hs5 : Nc u5 a5 n5 c5 (Z * (F : Int)).natAbs := hs5
      refine wpE_l rfl rfl (fun K hK => ?_)
      go_simp
      refine (w_Mul (hsv.wh (by have := B3.out; omega)) (htr.wf (by have := B2.out; omega))).mono ?_
      rintro e u6 ⟨a6, n6, c6, rfl, hs6, hx⟩
      refine hK.out _ _ hx ?_
      clear hK K
      try simp only [Act.put, List.setIfInBounds_toArray, List.set_cons_zero, List.set_cons_succ]
      replace br := Bl.ext hx br (Nat.succ_pos _)
      replace bv := Bl.ext hx bv (Nat.succ_pos _)
      replace hsr := hsr.ext hx
      replace htr := htr.ext hx
      replace hsv := hsv.ext hx
      replace htv := htv.ext hx
      replace hs5 := hs5.ext hx
      replace HE := HE.trans hx
      clear hx
      replace hs6 : Nc u6 a6 n6 c6 (Y * (E : Int)).natAbs := hs6
      refine wpE_l rfl rfl (fun K hK => ?_)
      go_simp
      refine (w_Cmp_any _ _ a5 a6 n5 c5 n6 c6 (Z * (F : Int)) (Y * (E : Int)) _ (hs5.wh (by have := Q1.out; omega)) (hs6.wh (by have := Q2.out; omega))).mono ?_
      rw [HR.out]
      rintro e u7 ⟨rfl, hx⟩
      refine hK.out _ _ hx ?_
      clear hK K
      try simp only [Act.put, List.setIfInBounds_toArray, List.set_cons_zero, List.set_cons_succ]
      replace br := Bl.ext hx br (Nat.succ_pos _)
      replace bv := Bl.ext hx bv (Nat.succ_pos _)
      replace hsr := hsr.ext hx
      replace htr := htr.ext hx
      replace hsv := hsv.ext hx
      replace htv := htv.ext hx
      replace hs5 := hs5.ext hx
      replace hs6 := hs6.ext hx
      replace HE := HE.trans hx
      clear hx
      repeat (refine wpE_q (v := ?_) rfl rfl (fun u hu => ?_) ?_; rotate_left 1; (focus (have kr := Bl.ext hu br (Nat.succ_pos _); have kv := Bl.ext hu bv (Nat.succ_pos _); go_simp; (try rfl))); simp only [Act.put, List.setIfInBounds_toArray, List.set_cons_zero, List.set_cons_succ])
      refine wpE_done ?_
      go_wp2_with fail
      go_ret
      exact ⟨rfl, HE⟩
    · by_cases hlt : sz < sy
      · have HR2 : Hid (rr = -1) := hidP (by have := HCS.out hss; rw [if_pos hlt] at this; exact this)
        have hd : decide (sz < sy) = true := decide_eq_true hlt
        have hne : (sz != sy) = true := by simpa using hss
        have hne2 : (sz == sy) = false := by simpa using hss
        clear hss hlt
        go_wp2_with fail
        refine wp_region_plan (R := Ext) (.q 0 (.q 1 (.q 3 (.q 4 (.l 2 (.l 5 (.q 6 (.q 7 .done)))))))) (by kernel_rfl) (by kernel_rfl) (by kernel_rfl) (by kernel_rfl) Ext.refl (fun _ _ _ => Ext.trans) ?_
        refine absE (fun x1 hx1 => ?_)
        have hx : Ext wc x1 := by rw [hx1]; exact (Ext.refl _).drew
        replace br := Bl.ext hx br (Nat.succ_pos _)
        replace bv := Bl.ext hx bv (Nat.succ_pos _)
        replace hsr := hsr.ext hx
        replace htr := htr.ext hx
        replace hsv := hsv.ext hx
        replace htv := htv.ext hx
        replace HE := HE.trans hx
        clear hx
        clear hx1
        repeat (refine wpE_q (v := ?_) rfl rfl (fun u hu => ?_) ?_; rotate_left 1; (focus (have kr := Bl.ext hu br (Nat.succ_pos _); have kv := Bl.ext hu bv (Nat.succ_pos _); go_simp; (try rfl))); simp only [Act.put, List.setIfInBounds_toArray, List.set_cons_zero, List.set_cons_succ])
        refine wpE_l rfl rfl (fun K hK => ?_)
        go_simp
        refine (HS1.out _ _ _ _ _ (hsr.wh (by have := B1.out; omega))).mono ?_
        rintro e u3 ⟨rfl, hx⟩
        refine hK.out _ _ hx ?_
        clear hK K
        try simp only [Act.put, List.setIfInBounds_toArray, List.set_cons_zero, List.set_cons_succ]
        replace br := Bl.ext hx br (Nat.succ_pos _)
        replace bv := Bl.ext hx bv (Nat.succ_pos _)
        replace hsr := hsr.ext hx
        replace htr := htr.ext hx
        replace hsv := hsv.ext hx
        replace htv := htv.ext hx
        replace HE := HE.trans hx
        clear hx
        refine wpE_l rfl rfl (fun K hK => ?_)
        go_simp
        refine (HS2.out _ _ _ _ _ (hsv.wh (by have := B3.out; omega))).mono ?_
        rintro e u4 ⟨rfl, hx⟩
        refine hK.out _ _ hx ?_
        clear hK K
        try simp only [Act.put, List.setIfInBounds_toArray, List.set_cons_zero, List.set_cons_succ]
        replace br := Bl.ext hx br (Nat.succ_pos _)
        replace bv := Bl.ext hx bv (Nat.succ_pos _)
        replace hsr := hsr.ext hx
        replace htr := htr.ext hx
        replace hsv := hsv.ext hx
        replace htv := htv.ext hx
        replace HE := HE.trans hx
        clear hx
        repeat (refine wpE_q (v := ?_) rfl rfl (fun u hu => ?_) ?_; rotate_left 1; (focus (have kr := Bl.ext hu br (Nat.succ_pos _); have kv := Bl.ext hu bv (Nat.succ_pos _); go_simp; (try rfl))); simp only [Act.put, List.setIfInBounds_toArray, List.set_cons_zero, List.set_cons_succ])
        refine wpE_done ?_
        go_wp2_with fail
        go_ret
        exact ⟨congrArg (fun x => Ending.returned (Value.int .i64 x)) HR2.out.symm, HE⟩
      · have HR2 : Hid (rr = 1) := hidP (by have := HCS.out hss; rw [if_neg hlt] at this; exact this)
        have hd : decide (sz < sy) = false := decide_eq_false hlt
        have hne : (sz != sy) = true := by simpa using hss
        have hne2 : (sz == sy) = false := by simpa using hss
        clear hss hlt
        go_wp2_with fail
        refine wp_region_plan (R := Ext) (.q 0 (.q 1 (.q 3 (.q 4 (.l 2 (.l 5 (.q 6 (.q 7 .done)))))))) (by kernel_rfl) (by kernel_rfl) (by kernel_rfl) (by kernel_rfl) Ext.refl (fun _ _ _ => Ext.trans) ?_
        refine absE (fun x1 hx1 => ?_)
        have hx : Ext wc x1 := by rw [hx1]; exact (Ext.refl _).drew
        replace br := Bl.ext hx br (Nat.succ_pos _)
        replace bv := Bl.ext hx bv (Nat.succ_pos _)
        replace hsr := hsr.ext hx
        replace htr := htr.ext hx
        replace hsv := hsv.ext hx
        replace htv := htv.ext hx
        replace HE := HE.trans hx
        clear hx
        clear hx1
        repeat (refine wpE_q (v := ?_) rfl rfl (fun u hu => ?_) ?_; rotate_left 1; (focus (have kr := Bl.ext hu br (Nat.succ_pos _); have kv := Bl.ext hu bv (Nat.succ_pos _); go_simp; (try rfl))); simp only [Act.put, List.setIfInBounds_toArray, List.set_cons_zero, List.set_cons_succ])
        refine wpE_l rfl rfl (fun K hK => ?_)
        go_simp
        refine (HS1.out _ _ _ _ _ (hsr.wh (by have := B1.out; omega))).mono ?_
        rintro e u3 ⟨rfl, hx⟩
        refine hK.out _ _ hx ?_
        clear hK K
        try simp only [Act.put, List.setIfInBounds_toArray, List.set_cons_zero, List.set_cons_succ]
        replace br := Bl.ext hx br (Nat.succ_pos _)
        replace bv := Bl.ext hx bv (Nat.succ_pos _)
        replace hsr := hsr.ext hx
        replace htr := htr.ext hx
        replace hsv := hsv.ext hx
        replace htv := htv.ext hx
        replace HE := HE.trans hx
        clear hx
        refine wpE_l rfl rfl (fun K hK => ?_)
        go_simp
        refine (HS2.out _ _ _ _ _ (hsv.wh (by have := B3.out; omega))).mono ?_
        rintro e u4 ⟨rfl, hx⟩
        refine hK.out _ _ hx ?_
        clear hK K
        try simp only [Act.put, List.setIfInBounds_toArray, List.set_cons_zero, List.set_cons_succ]
        replace br := Bl.ext hx br (Nat.succ_pos _)
        replace bv := Bl.ext hx bv (Nat.succ_pos _)
        replace hsr := hsr.ext hx
        replace htr := htr.ext hx
        replace hsv := hsv.ext hx
        replace htv := htv.ext hx
        replace HE := HE.trans hx
        clear hx
        repeat (refine wpE_q (v := ?_) rfl rfl (fun u hu => ?_) ?_; rotate_left 1; (focus (have kr := Bl.ext hu br (Nat.succ_pos _); have kv := Bl.ext hu bv (Nat.succ_pos _); go_simp; (try rfl))); simp only [Act.put, List.setIfInBounds_toArray, List.set_cons_zero, List.set_cons_succ])
        refine wpE_done ?_
        go_wp2_with fail
        go_ret
        exact ⟨congrArg (fun x => Ending.returned (Value.int .i64 x)) HR2.out.symm, HE⟩
end
end Go.Proofs.Ytcipcpbjkcpgdaa
