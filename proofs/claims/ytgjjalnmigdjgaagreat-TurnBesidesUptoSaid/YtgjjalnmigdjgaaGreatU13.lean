/- TurnTurns: it lives. -/
import Derived.Test.YtgjjalnmigdjgaaGreatU11
import Derived.Test.YtgjjalnmigdjgaaGreatU9
namespace Go.Proofs.YtgjjalnmigdjgaaGreat
set_option linter.unusedVariables false
set_option linter.unusedSimpArgs false
open Go Go.RowKit
theorem ring4 : ringA (([(0, 0), (4, 0), (4, 4), (0, 4)] : List (Int × Int)).headD (0, 0)) [(0, 0), (4, 0), (4, 4), (0, 4)] = [((0, 0), (4, 0)), ((4, 0), (4, 4)), ((4, 4), (0, 4)), ((0, 4), (0, 0))] := by decide +kernel
theorem live1 : turnsF ((2 : Int) : Rat) ((2 : Int) : Rat) [((0, 0), (4, 0)), ((4, 0), (4, 4)), ((4, 4), (0, 4)), ((0, 4), (0, 0))] 0 = (1, true) := by decide +kernel
theorem live2 : turnsF ((5 : Int) : Rat) ((2 : Int) : Rat) [((0, 0), (4, 0)), ((4, 0), (4, 4)), ((4, 4), (0, 4)), ((0, 4), (0, 0))] 0 = (0, true) := by decide +kernel
theorem live3 : inF 1 1 = true := by decide +kernel
theorem slp_bl {w : World} {g n : Nat} {l : List (Int × Int)} (h : Bl w g (pts l).toArray) (hn : l.length = n) (hm : n ≤ maxLen) : SlP w (some ⟨g, 0, none⟩) n n l :=
  ⟨by rw [pts_len, hn], Nat.le_refl _, hm, fun _ => ⟨g, 0, rfl, fun i u hu => by rw [Nat.zero_add, h i]; simpa using hu⟩⟩
set_option maxRecDepth 100000 in
set_option maxHeartbeats 8000000 in
theorem r19_lives (w : World) : Calls Tryz.prog 13 #[] w fun e w' => e = .returned (.bool true) ∧ Ext w w' := by
 have HR := hidP (fun u a (t : SlP u a 4 4 [(0, 0), (4, 0), (4, 4), (0, 4)]) => r19_Ring a 4 4 _ u t (by omega))
 rw [ring4] at HR
 have L1 := live1; have L2 := live2; have L3 := live3
 have A1 := hidP (fun u => rp_At 2 2 u (by omega) (by omega) (by omega) (by omega))
 have A2 := hidP (fun u => rp_At 5 2 u (by omega) (by omega) (by omega) (by omega))
 have q2 := ql_int (n := 2) (by omega) (by omega)
 have q5 := ql_int (n := 5) (by omega) (by omega)
 have I1 := hidP (fun u => tu_In 1 1 u (by omega) (by omega))
 rw [live3] at I1
 generalize ((2 : Int) : Rat) = r2 at *
 generalize ((5 : Int) : Rat) = r5 at *
 have Q2 := hidP q2; have Q5 := hidP q5
 have T1 := hidP (fun u {a d a' d' : Option Addr} {n c m k n' c' m' k' : Nat} sa sn sc (t : SlG u sa sn sc [((0, 0), (4, 0)), ((4, 0), (4, 4)), ((4, 4), (0, 4)), ((0, 4), (0, 0))]) (t1 : Fq u (decide (r2.num < 0)) a n c d m k r2 2) (t2 : Fq u (decide (r2.num < 0)) a' n' c' d' m' k' r2 2) => tu_Turns sa sn sc _ u t t1 t2 (by omega) (by omega) (by have := t.len; simp at this; omega))
 have T2 := hidP (fun u {a d a' d' : Option Addr} {n c m k n' c' m' k' : Nat} sa sn sc (t : SlG u sa sn sc [((0, 0), (4, 0)), ((4, 0), (4, 4)), ((4, 4), (0, 4)), ((0, 4), (0, 0))]) (t1 : Fq u (decide (r5.num < 0)) a n c d m k r5 2) (t2 : Fq u (decide (r2.num < 0)) a' n' c' d' m' k' r2 2) => tu_Turns sa sn sc _ u t t1 t2 (by omega) (by omega) (by have := t.len; simp at this; omega))
 rw [L1] at T1
 rw [L2] at T2
 simp only [] at T1 T2
 clear L1 L2 L3 q2 q5
 go_enter Tryz.func13, Tryz.ntmps13
 go_wp2_with fail
 refine absC (fun x1 hx1 => ?_)
 have hx : Ext w x1 := by rw [hx1]; exact ((Ext.refl _).alloc _)
 have bv : Bl x1 (w.heap.size) #[.int .i64 0, .int .i64 0, .int .i64 4, .int .i64 0, .int .i64 4, .int .i64 4, .int .i64 0, .int .i64 4] := by rw [hx1]; exact (Bl.new (by simp))
 have HE := hx
 clear hx
 clear hx1
 refine (HR.out _ _ (slp_bl (l := [(0, 0), (4, 0), (4, 4), (0, 4)]) bv rfl (by unfold maxLen; omega))).mono ?_
 rintro e u1 ⟨sa, sn, sc, rfl, hsg, hx⟩
 replace bv := q1b hx bv
 replace HE := HE.trans hx
 clear hx
 go_wp2_with fail
 refine (A1.out _).mono ?_
 rintro e u2 ⟨a1, n1, c1, d1, m1, k1, a2, n2, c2, d2, m2, k2, rfl, hs1, ht1, hs2, ht2, hx⟩
 replace bv := q1b hx bv
 replace hsg := hsg.ext hx
 replace HE := HE.trans hx
 clear hx
 go_wp2_with fail
 refine (T1.out _ _ _ _ hsg (fq_of hs1 ht1 Q2.out (by omega)) (fq_of hs2 ht2 Q2.out (by omega))).mono ?_
 rintro e u3 ⟨rfl, hx⟩
 replace bv := q1b hx bv
 replace hsg := hsg.ext hx
 replace hs1 := hs1.ext hx
 replace ht1 := ht1.ext hx
 replace hs2 := hs2.ext hx
 replace ht2 := ht2.ext hx
 replace HE := HE.trans hx
 clear hx
 go_wp2_with fail
 refine (A2.out _).mono ?_
 rintro e u4 ⟨a3, n3, c3, d3, m3, k3, a4, n4, c4, d4, m4, k4, rfl, hs3, ht3, hs4, ht4, hx⟩
 replace bv := q1b hx bv
 replace hsg := hsg.ext hx
 replace hs1 := hs1.ext hx
 replace ht1 := ht1.ext hx
 replace hs2 := hs2.ext hx
 replace ht2 := ht2.ext hx
 replace HE := HE.trans hx
 clear hx
 go_wp2_with fail
 refine (T2.out _ _ _ _ hsg (fq_of hs3 ht3 Q5.out (by omega)) (fq_of hs4 ht4 Q2.out (by omega))).mono ?_
 rintro e u5 ⟨rfl, hx⟩
 replace bv := q1b hx bv
 replace hsg := hsg.ext hx
 replace hs1 := hs1.ext hx
 replace ht1 := ht1.ext hx
 replace hs2 := hs2.ext hx
 replace ht2 := ht2.ext hx
 replace hs3 := hs3.ext hx
 replace ht3 := ht3.ext hx
 replace hs4 := hs4.ext hx
 replace ht4 := ht4.ext hx
 replace HE := HE.trans hx
 clear hx
 go_wp2_with fail
 refine (I1.out _).mono ?_
 rintro e u6 ⟨rfl, hx⟩
 replace bv := q1b hx bv
 replace hsg := hsg.ext hx
 replace hs1 := hs1.ext hx
 replace ht1 := ht1.ext hx
 replace hs2 := hs2.ext hx
 replace ht2 := ht2.ext hx
 replace hs3 := hs3.ext hx
 replace ht3 := ht3.ext hx
 replace hs4 := hs4.ext hx
 replace ht4 := ht4.ext hx
 replace HE := HE.trans hx
 clear hx
 go_wp2_with fail
 go_ret
 exact ⟨rfl, HE⟩
end Go.Proofs.YtgjjalnmigdjgaaGreat
