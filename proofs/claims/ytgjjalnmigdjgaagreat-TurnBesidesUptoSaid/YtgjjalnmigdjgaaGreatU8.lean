/- Turns, in the document: the sum. -/
import Derived.Test.YtgjjalnmigdjgaaGreatU5
import Derived.Test.YtgjjalnmigdjgaaGreatU6
import Derived.Test.YtgjjalnmigdjgaaGreatU7
namespace Go.Proofs.YtgjjalnmigdjgaaGreat
set_option linter.unusedVariables false
set_option linter.unusedSimpArgs false
open Go Go.RowKit
theorem s_fits {g : Sg} (h : mayS g = true) : (-8388607 ≤ g.1.1 ∧ g.1.1 ≤ 8388607 ∧ -8388607 ≤ g.1.2 ∧ g.1.2 ≤ 8388607) ∧ (-8388607 ≤ g.2.1 ∧ g.2.1 ≤ 8388607 ∧ -8388607 ≤ g.2.2 ∧ g.2.2 ≤ 8388607) := by
  unfold mayS at h
  have h' := Bool.and_eq_true_iff.1 h
  have g1 := fitP_iff.1 h'.1; have g2 := fitP_iff.1 h'.2
  exact ⟨⟨g1.1.1, g1.1.2, g1.2.1, g1.2.2⟩, ⟨g2.1.1, g2.1.2, g2.2.1, g2.2.2⟩⟩
/-- How a way goes past a height. -/
def pkR (r : Rat) (st : Bool) (g : Sg) : Int := if st = true then pastF (cmpQ (g.1.2 : Rat) r + 1) (cmpQ (g.2.2 : Rat) r + 1) else pastF (cmpQ (g.1.2 : Rat) r) (cmpQ (g.2.2 : Rat) r)
def riR (q r : Rat) (g : Sg) : Bool := decide (q < rightX (g.1.1 : Rat) (g.1.2 : Rat) (g.2.1 : Rat) (g.2.2 : Rat) r)
theorem pastF_bd (a b : Int) : pastF a b = -1 ∨ pastF a b = 0 ∨ pastF a b = 1 := by
  unfold pastF
  split
  · exact Or.inr (Or.inr rfl)
  · split
    · exact Or.inl rfl
    · exact Or.inr (Or.inl rfl)
theorem pastF_self (a : Int) : pastF a a = 0 := by
  unfold pastF
  rw [if_neg (by omega), if_neg (by omega)]
theorem pkR_bd (r : Rat) (st : Bool) (g : Sg) : pkR r st g = -1 ∨ pkR r st g = 0 ∨ pkR r st g = 1 := by
  unfold pkR
  split <;> exact pastF_bd _ _
theorem pkR_ne {r : Rat} {st : Bool} {g : Sg} (h : pkR r st g ≠ 0) : (g.2.2 : Rat) - (g.1.2 : Rat) ≠ 0 := by
  intro h0
  have e : (g.2.2 : Rat) = (g.1.2 : Rat) := by grind
  apply h
  unfold pkR
  rw [e]
  split <;> exact pastF_self _
theorem s_May (g : Sg) (w : World) : Calls Tryz.prog 41 #[.agg #[.int .i64 g.1.1, .int .i64 g.1.2, .int .i64 g.2.1, .int .i64 g.2.2]] w fun e w' => e = .returned (.bool (mayS g)) ∧ Ext w w' := r17_May _ _ _ _ w
theorem s_A (g : Sg) (hg : mayS g = true) (w : World) : Calls Tryz.prog 20 #[.agg #[.int .i64 g.1.1, .int .i64 g.1.2]] w (RetS w (g.1.1 : Rat) (g.1.2 : Rat)) := by
  have h := s_fits hg
  exact rp_At _ _ w (by omega) (by omega) (by omega) (by omega)
theorem s_B (g : Sg) (hg : mayS g = true) (w : World) : Calls Tryz.prog 20 #[.agg #[.int .i64 g.2.1, .int .i64 g.2.2]] w (RetS w (g.2.1 : Rat) (g.2.2 : Rat)) := by
  have h := s_fits hg
  exact rp_At _ _ w (by omega) (by omega) (by omega) (by omega)
theorem s_On {b b' : Bool} {a d a' d' : Option Addr} {n c m k n' c' m' k' : Nat} {q r : Rat} {N : Nat} (g : Sg) (w : World) {b1 : Bool} {a1 d1 : Option Addr} {n1 c1 m1 k1 : Nat} (t1 : Fq w b1 a1 n1 c1 d1 m1 k1 (g.1.1 : Rat) N) {b2 : Bool} {a2 d2 : Option Addr} {n2 c2 m2 k2 : Nat} (t2 : Fq w b2 a2 n2 c2 d2 m2 k2 (g.1.2 : Rat) N) {b3 : Bool} {a3 d3 : Option Addr} {n3 c3 m3 k3 : Nat} (t3 : Fq w b3 a3 n3 c3 d3 m3 k3 (g.2.1 : Rat) N) {b4 : Bool} {a4 d4 : Option Addr} {n4 c4 m4 k4 : Nat} (t4 : Fq w b4 a4 n4 c4 d4 m4 k4 (g.2.2 : Rat) N) (hx : Fq w b a n c d m k q N) (hy : Fq w b' a' n' c' d' m' k' r N) (hN : N ≤ 8589934592) (hN1 : 1 ≤ N) :
    Calls Tryz.prog 21 #[.agg #[.bool b1, .slice a1 n1 c1, .slice d1 m1 k1, .bool b2, .slice a2 n2 c2, .slice d2 m2 k2], .agg #[.bool b3, .slice a3 n3 c3, .slice d3 m3 k3, .bool b4, .slice a4 n4 c4, .slice d4 m4 k4], .agg #[.bool b, .slice a n c, .slice d m k, .bool b', .slice a' n' c', .slice d' m' k']] w fun e w' => e = .returned (.bool (onS q r g)) ∧ Ext w w' := by
  have h := rp_On w t1 t2 t3 t4 hx hy hN hN1
  rw [onD_int] at h
  exact h
theorem s_past {b' : Bool} {a' d' : Option Addr} {n' c' m' k' : Nat} {r : Rat} {N : Nat} (g : Sg) (hg : mayS g = true) (st : Bool) (w : World) (hy : Fq w b' a' n' c' d' m' k' r N) (hN : N ≤ 8589934592) :
    Calls Tryz.prog 50 #[.agg #[.int .i64 g.1.1, .int .i64 g.1.2, .int .i64 g.2.1, .int .i64 g.2.2], .agg #[.bool b', .slice a' n' c', .slice d' m' k'], .bool st] w fun e w' => e = .returned (.int .i64 (pkR r st g)) ∧ Ext w w' := by
  have h := s_fits hg
  exact r19_past _ _ _ _ st w hy (by omega) (by omega) (by omega) (by omega) (by omega)
theorem s_right {b b' : Bool} {a d a' d' : Option Addr} {n c m k n' c' m' k' : Nat} {q r : Rat} {N : Nat} (g : Sg) (hg : mayS g = true) (st : Bool) (hp : pkR r st g ≠ 0) (w : World) (hx : Fq w b a n c d m k q N) (hy : Fq w b' a' n' c' d' m' k' r N) (hN : N ≤ 8589934592) (hN1 : 1 ≤ N) :
    Calls Tryz.prog 81 #[.agg #[.int .i64 g.1.1, .int .i64 g.1.2, .int .i64 g.2.1, .int .i64 g.2.2], .agg #[.bool b, .slice a n c, .slice d m k, .bool b', .slice a' n' c', .slice d' m' k']] w fun e w' => e = .returned (.bool (riR q r g)) ∧ Ext w w' := by
  have h := s_fits hg
  exact r19_right _ _ _ _ w hx hy hN hN1 (by omega) (by omega) (by omega) (by omega) (by omega) (by omega) (by omega) (by omega) (pkR_ne hp)
/-- The sum, as the document tells it. -/
def sumR (q r : Rat) (st : Bool) : List Sg → Int → Int
  | [], s => s
  | g :: t, s => if mayS g = false then sumR q r st t s else if onS q r g = true then sumR q r st t s else if pkR r st g ≠ 0 ∧ riR q r g = true then sumR q r st t (s + pkR r st g) else sumR q r st t s
theorem sumR_drop {q r : Rat} {st : Bool} {l : List Sg} {j : Nat} {s : Int} (h : j < l.length) : sumR q r st (l.drop j) s = if mayS l[j] = false then sumR q r st (l.drop (j + 1)) s else if onS q r l[j] = true then sumR q r st (l.drop (j + 1)) s else if pkR r st l[j] ≠ 0 ∧ riR q r l[j] = true then sumR q r st (l.drop (j + 1)) (s + pkR r st l[j]) else sumR q r st (l.drop (j + 1)) s := by
  rw [List.drop_eq_getElem_cons h]
  rfl
set_option maxRecDepth 100000 in
set_option maxHeartbeats 8000000 in
theorem r19_sum {b b' : Bool} {a d a' d' : Option Addr} {n c m k n' c' m' k' : Nat} {q r : Rat} {N : Nat} (st : Bool) (sa : Option Addr) (sn sc : Nat) (l : List Sg) (w : World) (h : SlG w sa sn sc l) (hx : Fq w b a n c d m k q N) (hy : Fq w b' a' n' c' d' m' k' r N) (hN : N ≤ 8589934592) (hN1 : 2 ≤ N) (hsn : sn ≤ 4194304) :
    Calls Tryz.prog 42 #[.slice sa sn sc, .agg #[.bool b, .slice a n c, .slice d m k, .bool b', .slice a' n' c', .slice d' m' k'], .bool st] w fun e w' => e = .returned (.int .i64 (sumR q r st l 0)) ∧ Ext w w' := by
 have H := hidP h; have HX := hidP hx; have HY := hidP hy
 have HLN := hidP h.len
 have hcap : sn ≤ maxLen := Nat.le_trans h.2.1 h.2.2.1
 unfold maxLen at hcap
 have HST := hidP (fun (j : Nat) (s : Int) (hj : j < l.length) => sumR_drop (q := q) (r := r) (st := st) (s := s) hj)
 have HMY := hidP s_May
 have HA := hidP s_A
 have HB := hidP s_B
 have HF := hidP (fun (g : Sg) (hg : mayS g = true) => s_fits hg)
 have HON := hidP (fun (g : Sg) (u : World) {b1 : Bool} {a1 d1 : Option Addr} {n1 c1 m1 k1 : Nat} {b2 : Bool} {a2 d2 : Option Addr} {n2 c2 m2 k2 : Nat} {b3 : Bool} {a3 d3 : Option Addr} {n3 c3 m3 k3 : Nat} {b4 : Bool} {a4 d4 : Option Addr} {n4 c4 m4 k4 : Nat} (t1 : Fq u b1 a1 n1 c1 d1 m1 k1 (g.1.1 : Rat) N) (t2 : Fq u b2 a2 n2 c2 d2 m2 k2 (g.1.2 : Rat) N) (t3 : Fq u b3 a3 n3 c3 d3 m3 k3 (g.2.1 : Rat) N) (t4 : Fq u b4 a4 n4 c4 d4 m4 k4 (g.2.2 : Rat) N) (t5 : Fq u b a n c d m k q N) (t6 : Fq u b' a' n' c' d' m' k' r N) => s_On g u t1 t2 t3 t4 t5 t6 hN (by omega))
 have HPA := hidP (fun (g : Sg) (hg : mayS g = true) (u : World) (t6 : Fq u b' a' n' c' d' m' k' r N) => s_past g hg st u t6 hN)
 have HRI := hidP (fun (g : Sg) (hg : mayS g = true) (hp : pkR r st g ≠ 0) (u : World) (t5 : Fq u b a n c d m k q N) (t6 : Fq u b' a' n' c' d' m' k' r N) => s_right g hg st hp u t5 t6 hN (by omega))
 have hN2 : ∀ {v : World} {f : Option Addr} {i1 i2 : Nat} {f' : Option Addr} {i3 i4 : Nat} {z : Rat}, Nc v f i1 i2 z.num.natAbs → Nc v f' i3 i4 z.den → ql z ≤ 2 → Fq v (decide (z.num < 0)) f i1 i2 f' i3 i4 z N := fun t1 t2 t3 => fq_of t1 t2 (Nat.le_trans t3 hN1) (by omega)
 have HJ0 : Hid (sumR q r st (l.drop 0) 0 = sumR q r st l 0) := hidP rfl
 have hql : ∀ z : Int, -8388607 ≤ z → z ≤ 8388607 → ql (z : Rat) ≤ 2 := fun z z1 z2 => ql_int (n := z) (by omega) (by omega)
 have HQL := hidP hql
 clear h hx hy hql
 generalize sumR q r st l 0 = R at *
 go_enter Tryz.func42, Tryz.ntmps42
 go_upto_region 1 with fail
 refine absW (fun x1 hx1 => ?_)
 have hx : Ext w x1 := by rw [hx1]; exact ((Ext.refl _).alloc _)
 have bp : Bl x1 (w.heap.size) #[.bool b, .slice a n c, .slice d m k, .bool b', .slice a' n' c', .slice d' m' k'] := by rw [hx1]; exact (Bl.new (by simp))
 have HE := hx
 clear hx
 clear hx1
 go_wp2_with fail
 go_loopw [7, 8] (fun nv iv wr => ∃ (j : Nat) (s : Int), j ≤ sn ∧ iv = .int .i64 (j : Int) ∧ nv = .int .i64 s ∧ -(j : Int) ≤ s ∧ s ≤ (j : Int) ∧ Bl wr w.heap.size #[.bool b, .slice a n c, .slice d m k, .bool b', .slice a' n' c', .slice d' m' k'] ∧ Hid (sumR q r st (l.drop j) s = R) ∧ Ext w wr) (fun _ iv _ => sn - (intOf iv).toNat)
 case atStart => exact ⟨0, 0, by omega, rfl, rfl, by omega, by omega, bp, HJ0, HE⟩
 clear HE bp HJ0
 obtain ⟨j, s, hj, rfl, rfl, s1, s2, bp, HJ, HE⟩ := hrel
 by_cases hlt : j < sn
 · obtain ⟨g, off, rfl, hc⟩ := (H.out.ext HE).at (by omega)
   have hjl : j < l.length := by rw [HLN.out]; exact hlt
   obtain ⟨z0, z1, z2, z3⟩ := hc j hjl
   have hst := HST.out j s hjl
   rw [HJ.out] at hst
   clear hc HJ
   have hmy := HMY.out l[j]
   have ha := HA.out l[j]
   have hb := HB.out l[j]
   have hf := HF.out l[j]
   have hon := HON.out l[j]
   have hpa := HPA.out l[j]
   have hri := HRI.out l[j]
   have hpb := pkR_bd r st l[j]
   generalize l[j] = G at *
   generalize onS q r G = on at *
   generalize mayS G = ms at *
   generalize pkR r st G = pk at *
   generalize riR q r G = ri at *
   obtain ⟨⟨ax, ay⟩, ⟨ex, ey⟩⟩ := G
   simp only [] at z0 z1 z2 z3 hmy ha hb hf hon hpa hri
   have HMY1 := hidP hmy
   clear hmy
   cases ms
   · have HST2 : Hid (sumR q r st (l.drop (j + 1)) s = R) := hidP (by rw [hst, if_pos rfl])
     clear hst ha hb hf hon hpa hri hpb
     go_wp2_with fail
     refine wp_region_plan (R := Ext) (.q 0 (.q 1 (.q 2 (.q 3 (.l 4 (.q 5 (.q 6 (.q 7 (.q 8 (.q 9 (.q 10 (.q 11 (.q 13 (.q 14 (.q 15 (.q 16 (.q 17 (.q 19 (.l 12 (.l 18 (.l 20 (.q 21 .done)))))))))))))))))))))) (by kernel_rfl) (by kernel_rfl) (by kernel_rfl) (by kernel_rfl) Ext.refl (fun _ _ _ => Ext.trans) ?_
     refine absE (fun x21 hx21 => ?_)
     have hx : Ext wr x21 := by rw [hx21]; exact (Ext.refl _).drew
     replace bp := q1b hx bp
     replace z0 := hx.cell' z0
     replace z1 := hx.cell' z1
     replace z2 := hx.cell' z2
     replace z3 := hx.cell' z3
     replace HE := HE.trans hx
     clear hx
     clear hx21
     repeat (first | (refine wpE_q (v := ?_) rfl rfl (fun u hu => ?_) ?_; rotate_left 1; (focus (have kp := q1b hu bp; have kz0 := hu.cell' z0; have kz1 := hu.cell' z1; have kz2 := hu.cell' z2; have kz3 := hu.cell' z3; go_simp; (try rfl))); simp only [PU]) | (refine wpE_qs rfl rfl ?_; simp only [PU]))
     refine wpE_l rfl rfl (fun K hK => ?_)
     go_simp
     refine (HMY1.out _).mono ?_
     rintro e u1 ⟨rfl, hx⟩
     refine hK.out _ _ hx ?_
     clear hK K
     try simp only [PU]
     replace bp := q1b hx bp
     replace z0 := hx.cell' z0
     replace z1 := hx.cell' z1
     replace z2 := hx.cell' z2
     replace z3 := hx.cell' z3
     replace HE := HE.trans hx
     clear hx
     repeat (first | (refine wpE_q (v := ?_) rfl rfl (fun u hu => ?_) ?_; rotate_left 1; (focus (have kp := q1b hu bp; have kz0 := hu.cell' z0; have kz1 := hu.cell' z1; have kz2 := hu.cell' z2; have kz3 := hu.cell' z3; go_simp; (try rfl))); simp only [PU]) | (refine wpE_qs rfl rfl ?_; simp only [PU]))
     refine wpE_ls (Ext.refl _) rfl rfl ?_
     simp only [PU]
     refine wpE_ls (Ext.refl _) rfl rfl ?_
     simp only [PU]
     refine wpE_ls (Ext.refl _) rfl rfl ?_
     simp only [PU]
     repeat (first | (refine wpE_q (v := ?_) rfl rfl (fun u hu => ?_) ?_; rotate_left 1; (focus (have kp := q1b hu bp; have kz0 := hu.cell' z0; have kz1 := hu.cell' z1; have kz2 := hu.cell' z2; have kz3 := hu.cell' z3; go_simp; (try rfl))); simp only [PU]) | (refine wpE_qs rfl rfl ?_; simp only [PU]))
     refine wpE_done ?_
     go_wp2_with fail
     go_roundw
     case rel => exact ⟨j + 1, s, by omega, by go_num, rfl, by omega, by omega, bp, HST2, HE⟩
     case measure => simp only [intOf]; omega
   rw [if_neg (by simp)] at hst
   obtain ⟨⟨x1, x2, y1, y2⟩, ⟨x3, x4, y3, y4⟩⟩ := hf rfl
   have L1 := hidP (HQL.out ax x1 x2); have L2 := hidP (HQL.out ay y1 y2); have L3 := hidP (HQL.out ex x3 x4); have L4 := hidP (HQL.out ey y3 y4)
   generalize (ax : Rat) = q1 at *
   generalize (ay : Rat) = q2 at *
   generalize (ex : Rat) = q3 at *
   generalize (ey : Rat) = q4 at *
   have HA1 := hidP (ha rfl); have HB1 := hidP (hb rfl); have HON1 := hidP hon
   clear ha hb hon hf
   cases on
   · rw [if_neg (by simp)] at hst
     have HPA1 := hidP (hpa rfl); have hri1 := hri rfl
     clear hpa hri
     go_wp2_with fail
     refine wp_region_plan (R := Ext) (.q 0 (.q 1 (.q 2 (.q 3 (.l 4 (.q 5 (.q 6 (.q 7 (.q 8 (.q 9 (.q 10 (.q 11 (.q 13 (.q 14 (.q 15 (.q 16 (.q 17 (.q 19 (.l 12 (.l 18 (.l 20 (.q 21 .done)))))))))))))))))))))) (by kernel_rfl) (by kernel_rfl) (by kernel_rfl) (by kernel_rfl) Ext.refl (fun _ _ _ => Ext.trans) ?_
     refine absE (fun x21 hx21 => ?_)
     have hx : Ext wr x21 := by rw [hx21]; exact (Ext.refl _).drew
     replace bp := q1b hx bp
     replace z0 := hx.cell' z0
     replace z1 := hx.cell' z1
     replace z2 := hx.cell' z2
     replace z3 := hx.cell' z3
     replace HE := HE.trans hx
     clear hx
     clear hx21
     repeat (refine wpE_q (v := ?_) rfl rfl (fun u hu => ?_) ?_; rotate_left 1; (focus (have kp := q1b hu bp; have kz0 := hu.cell' z0; have kz1 := hu.cell' z1; have kz2 := hu.cell' z2; have kz3 := hu.cell' z3; go_simp; (try rfl))); simp only [PU])
     refine wpE_l rfl rfl (fun K hK => ?_)
     go_simp
     refine (HMY1.out _).mono ?_
     rintro e u1 ⟨rfl, hx⟩
     refine hK.out _ _ hx ?_
     clear hK K
     try simp only [PU]
     replace bp := q1b hx bp
     replace z0 := hx.cell' z0
     replace z1 := hx.cell' z1
     replace z2 := hx.cell' z2
     replace z3 := hx.cell' z3
     replace HE := HE.trans hx
     clear hx
     repeat (refine wpE_q (v := ?_) rfl rfl (fun u hu => ?_) ?_; rotate_left 1; (focus (have kp := q1b hu bp; have kz0 := hu.cell' z0; have kz1 := hu.cell' z1; have kz2 := hu.cell' z2; have kz3 := hu.cell' z3; go_simp; (try rfl))); simp only [PU])
     refine wpE_l rfl rfl (fun K hK => ?_)
     go_simp
     refine (HA1.out _).mono ?_
     rintro e u2 ⟨a1, n1, c1, d1, m1, k1, a2, n2, c2, d2, m2, k2, rfl, hs1, ht1, hs2, ht2, hx⟩
     refine hK.out _ _ hx ?_
     clear hK K
     try simp only [PU]
     replace bp := q1b hx bp
     replace z0 := hx.cell' z0
     replace z1 := hx.cell' z1
     replace z2 := hx.cell' z2
     replace z3 := hx.cell' z3
     replace HE := HE.trans hx
     clear hx
     refine wpE_l rfl rfl (fun K hK => ?_)
     go_simp
     refine (HB1.out _).mono ?_
     rintro e u3 ⟨a3, n3, c3, d3, m3, k3, a4, n4, c4, d4, m4, k4, rfl, hs3, ht3, hs4, ht4, hx⟩
     refine hK.out _ _ hx ?_
     clear hK K
     try simp only [PU]
     replace bp := q1b hx bp
     replace hs1 := hs1.ext hx
     replace ht1 := ht1.ext hx
     replace hs2 := hs2.ext hx
     replace ht2 := ht2.ext hx
     replace z0 := hx.cell' z0
     replace z1 := hx.cell' z1
     replace z2 := hx.cell' z2
     replace z3 := hx.cell' z3
     replace HE := HE.trans hx
     clear hx
     refine wpE_l rfl rfl (fun K hK => ?_)
     go_simp
     refine (HON1.out _ (hN2 hs1 ht1 L1.out) (hN2 hs2 ht2 L2.out) (hN2 hs3 ht3 L3.out) (hN2 hs4 ht4 L4.out) (HX.out.ext HE) (HY.out.ext HE)).mono ?_
     rintro e u4 ⟨rfl, hx⟩
     refine hK.out _ _ hx ?_
     clear hK K
     try simp only [PU]
     replace bp := q1b hx bp
     replace hs1 := hs1.ext hx
     replace ht1 := ht1.ext hx
     replace hs2 := hs2.ext hx
     replace ht2 := ht2.ext hx
     replace hs3 := hs3.ext hx
     replace ht3 := ht3.ext hx
     replace hs4 := hs4.ext hx
     replace ht4 := ht4.ext hx
     replace z0 := hx.cell' z0
     replace z1 := hx.cell' z1
     replace z2 := hx.cell' z2
     replace z3 := hx.cell' z3
     replace HE := HE.trans hx
     clear hx
     repeat (refine wpE_q (v := ?_) rfl rfl (fun u hu => ?_) ?_; rotate_left 1; (focus (have kp := q1b hu bp; have kz0 := hu.cell' z0; have kz1 := hu.cell' z1; have kz2 := hu.cell' z2; have kz3 := hu.cell' z3; go_simp; (try rfl))); simp only [PU])
     refine wpE_done ?_
     clear hs1 ht1 hs2 ht2 hs3 ht3 hs4 ht4
     rcases hpb with hk | hk | hk <;> subst hk
     · cases ri
       · have HRI1 := hidP (hri1 (by omega))
         clear hri1
         have HST2 : Hid (sumR q r st (l.drop (j + 1)) s = R) := hidP (by rw [hst, if_neg (by simp)])
         clear hst
         go_wp2_with fail
         refine wp_region_plan (R := Ext) (.q 0 (.q 1 (.q 2 (.q 3 (.q 4 (.q 5 (.q 6 (.l 7 (.q 8 .done))))))))) (by kernel_rfl) (by kernel_rfl) (by kernel_rfl) (by kernel_rfl) Ext.refl (fun _ _ _ => Ext.trans) ?_
         refine absE (fun x22 hx22 => ?_)
         have hx : Ext u4 x22 := by rw [hx22]; exact (Ext.refl _).drew
         replace bp := q1b hx bp
         replace z0 := hx.cell' z0
         replace z1 := hx.cell' z1
         replace z2 := hx.cell' z2
         replace z3 := hx.cell' z3
         replace HE := HE.trans hx
         clear hx
         clear hx22
         repeat (refine wpE_q (v := ?_) rfl rfl (fun u hu => ?_) ?_; rotate_left 1; (focus (have kp := q1b hu bp; have kz0 := hu.cell' z0; have kz1 := hu.cell' z1; have kz2 := hu.cell' z2; have kz3 := hu.cell' z3; go_simp; (try rfl))); simp only [PU])
         refine wpE_l rfl rfl (fun K hK => ?_)
         go_simp
         refine (HPA1.out _ (HY.out.ext HE)).mono ?_
         rintro e u5 ⟨rfl, hx⟩
         refine hK.out _ _ hx ?_
         clear hK K
         try simp only [PU]
         replace bp := q1b hx bp
         replace z0 := hx.cell' z0
         replace z1 := hx.cell' z1
         replace z2 := hx.cell' z2
         replace z3 := hx.cell' z3
         replace HE := HE.trans hx
         clear hx
         repeat (refine wpE_q (v := ?_) rfl rfl (fun u hu => ?_) ?_; rotate_left 1; (focus (have kp := q1b hu bp; have kz0 := hu.cell' z0; have kz1 := hu.cell' z1; have kz2 := hu.cell' z2; have kz3 := hu.cell' z3; go_simp; (try rfl))); simp only [PU])
         refine wpE_done ?_
         go_wp2_with fail
         refine wp_region_plan (R := Ext) (.q 0 (.q 1 (.q 2 (.q 3 (.q 4 (.q 5 (.q 6 (.q 7 (.l 8 (.q 9 .done)))))))))) (by kernel_rfl) (by kernel_rfl) (by kernel_rfl) (by kernel_rfl) Ext.refl (fun _ _ _ => Ext.trans) ?_
         refine absE (fun x23 hx23 => ?_)
         have hx : Ext u5 x23 := by rw [hx23]; exact (Ext.refl _).drew
         replace bp := q1b hx bp
         replace z0 := hx.cell' z0
         replace z1 := hx.cell' z1
         replace z2 := hx.cell' z2
         replace z3 := hx.cell' z3
         replace HE := HE.trans hx
         clear hx
         clear hx23
         repeat (refine wpE_q (v := ?_) rfl rfl (fun u hu => ?_) ?_; rotate_left 1; (focus (have kp := q1b hu bp; have kz0 := hu.cell' z0; have kz1 := hu.cell' z1; have kz2 := hu.cell' z2; have kz3 := hu.cell' z3; go_simp; (try rfl))); simp only [PU])
         refine wpE_l rfl rfl (fun K hK => ?_)
         go_simp
         refine (HRI1.out _ (HX.out.ext HE) (HY.out.ext HE)).mono ?_
         rintro e u6 ⟨rfl, hx⟩
         refine hK.out _ _ hx ?_
         clear hK K
         try simp only [PU]
         replace bp := q1b hx bp
         replace z0 := hx.cell' z0
         replace z1 := hx.cell' z1
         replace z2 := hx.cell' z2
         replace z3 := hx.cell' z3
         replace HE := HE.trans hx
         clear hx
         repeat (refine wpE_q (v := ?_) rfl rfl (fun u hu => ?_) ?_; rotate_left 1; (focus (have kp := q1b hu bp; have kz0 := hu.cell' z0; have kz1 := hu.cell' z1; have kz2 := hu.cell' z2; have kz3 := hu.cell' z3; go_simp; (try rfl))); simp only [PU])
         refine wpE_done ?_
         go_wp2_with fail
         go_roundw
         case rel => exact ⟨j + 1, s, by omega, by go_num, rfl, by omega, by omega, bp, HST2, HE⟩
         case measure => simp only [intOf]; omega
       have HRI1 := hidP (hri1 (by omega))
       clear hri1
       have HST2 : Hid (sumR q r st (l.drop (j + 1)) (s + -1) = R) := hidP (by rw [hst, if_pos ⟨by omega, rfl⟩])
       clear hst
       go_wp2_with fail
       refine wp_region_plan (R := Ext) (.q 0 (.q 1 (.q 2 (.q 3 (.q 4 (.q 5 (.q 6 (.l 7 (.q 8 .done))))))))) (by kernel_rfl) (by kernel_rfl) (by kernel_rfl) (by kernel_rfl) Ext.refl (fun _ _ _ => Ext.trans) ?_
       refine absE (fun x22 hx22 => ?_)
       have hx : Ext u4 x22 := by rw [hx22]; exact (Ext.refl _).drew
       replace bp := q1b hx bp
       replace z0 := hx.cell' z0
       replace z1 := hx.cell' z1
       replace z2 := hx.cell' z2
       replace z3 := hx.cell' z3
       replace HE := HE.trans hx
       clear hx
       clear hx22
       repeat (refine wpE_q (v := ?_) rfl rfl (fun u hu => ?_) ?_; rotate_left 1; (focus (have kp := q1b hu bp; have kz0 := hu.cell' z0; have kz1 := hu.cell' z1; have kz2 := hu.cell' z2; have kz3 := hu.cell' z3; go_simp; (try rfl))); simp only [PU])
       refine wpE_l rfl rfl (fun K hK => ?_)
       go_simp
       refine (HPA1.out _ (HY.out.ext HE)).mono ?_
       rintro e u5 ⟨rfl, hx⟩
       refine hK.out _ _ hx ?_
       clear hK K
       try simp only [PU]
       replace bp := q1b hx bp
       replace z0 := hx.cell' z0
       replace z1 := hx.cell' z1
       replace z2 := hx.cell' z2
       replace z3 := hx.cell' z3
       replace HE := HE.trans hx
       clear hx
       repeat (refine wpE_q (v := ?_) rfl rfl (fun u hu => ?_) ?_; rotate_left 1; (focus (have kp := q1b hu bp; have kz0 := hu.cell' z0; have kz1 := hu.cell' z1; have kz2 := hu.cell' z2; have kz3 := hu.cell' z3; go_simp; (try rfl))); simp only [PU])
       refine wpE_done ?_
       go_wp2_with fail
       refine wp_region_plan (R := Ext) (.q 0 (.q 1 (.q 2 (.q 3 (.q 4 (.q 5 (.q 6 (.q 7 (.l 8 (.q 9 .done)))))))))) (by kernel_rfl) (by kernel_rfl) (by kernel_rfl) (by kernel_rfl) Ext.refl (fun _ _ _ => Ext.trans) ?_
       refine absE (fun x23 hx23 => ?_)
       have hx : Ext u5 x23 := by rw [hx23]; exact (Ext.refl _).drew
       replace bp := q1b hx bp
       replace z0 := hx.cell' z0
       replace z1 := hx.cell' z1
       replace z2 := hx.cell' z2
       replace z3 := hx.cell' z3
       replace HE := HE.trans hx
       clear hx
       clear hx23
       repeat (refine wpE_q (v := ?_) rfl rfl (fun u hu => ?_) ?_; rotate_left 1; (focus (have kp := q1b hu bp; have kz0 := hu.cell' z0; have kz1 := hu.cell' z1; have kz2 := hu.cell' z2; have kz3 := hu.cell' z3; go_simp; (try rfl))); simp only [PU])
       refine wpE_l rfl rfl (fun K hK => ?_)
       go_simp
       refine (HRI1.out _ (HX.out.ext HE) (HY.out.ext HE)).mono ?_
       rintro e u6 ⟨rfl, hx⟩
       refine hK.out _ _ hx ?_
       clear hK K
       try simp only [PU]
       replace bp := q1b hx bp
       replace z0 := hx.cell' z0
       replace z1 := hx.cell' z1
       replace z2 := hx.cell' z2
       replace z3 := hx.cell' z3
       replace HE := HE.trans hx
       clear hx
       repeat (refine wpE_q (v := ?_) rfl rfl (fun u hu => ?_) ?_; rotate_left 1; (focus (have kp := q1b hu bp; have kz0 := hu.cell' z0; have kz1 := hu.cell' z1; have kz2 := hu.cell' z2; have kz3 := hu.cell' z3; go_simp; (try rfl))); simp only [PU])
       refine wpE_done ?_
       go_wp2_with fail
       go_roundw
       case rel => exact ⟨j + 1, s + -1, by omega, by go_num, rfl, by omega, by omega, bp, HST2, HE⟩
       case measure => simp only [intOf]; omega
     · have HST2 : Hid (sumR q r st (l.drop (j + 1)) s = R) := hidP (by rw [hst, if_neg (by simp)])
       clear hst hri1
       go_wp2_with fail
       refine wp_region_plan (R := Ext) (.q 0 (.q 1 (.q 2 (.q 3 (.q 4 (.q 5 (.q 6 (.l 7 (.q 8 .done))))))))) (by kernel_rfl) (by kernel_rfl) (by kernel_rfl) (by kernel_rfl) Ext.refl (fun _ _ _ => Ext.trans) ?_
       refine absE (fun x22 hx22 => ?_)
       have hx : Ext u4 x22 := by rw [hx22]; exact (Ext.refl _).drew
       replace bp := q1b hx bp
       replace z0 := hx.cell' z0
       replace z1 := hx.cell' z1
       replace z2 := hx.cell' z2
       replace z3 := hx.cell' z3
       replace HE := HE.trans hx
       clear hx
       clear hx22
       repeat (refine wpE_q (v := ?_) rfl rfl (fun u hu => ?_) ?_; rotate_left 1; (focus (have kp := q1b hu bp; have kz0 := hu.cell' z0; have kz1 := hu.cell' z1; have kz2 := hu.cell' z2; have kz3 := hu.cell' z3; go_simp; (try rfl))); simp only [PU])
       refine wpE_l rfl rfl (fun K hK => ?_)
       go_simp
       refine (HPA1.out _ (HY.out.ext HE)).mono ?_
       rintro e u5 ⟨rfl, hx⟩
       refine hK.out _ _ hx ?_
       clear hK K
       try simp only [PU]
       replace bp := q1b hx bp
       replace z0 := hx.cell' z0
       replace z1 := hx.cell' z1
       replace z2 := hx.cell' z2
       replace z3 := hx.cell' z3
       replace HE := HE.trans hx
       clear hx
       repeat (refine wpE_q (v := ?_) rfl rfl (fun u hu => ?_) ?_; rotate_left 1; (focus (have kp := q1b hu bp; have kz0 := hu.cell' z0; have kz1 := hu.cell' z1; have kz2 := hu.cell' z2; have kz3 := hu.cell' z3; go_simp; (try rfl))); simp only [PU])
       refine wpE_done ?_
       go_wp2_with fail
       refine wp_region_plan (R := Ext) (.q 0 (.q 1 (.q 2 (.q 3 (.q 4 (.q 5 (.q 6 (.q 7 (.l 8 (.q 9 .done)))))))))) (by kernel_rfl) (by kernel_rfl) (by kernel_rfl) (by kernel_rfl) Ext.refl (fun _ _ _ => Ext.trans) ?_
       refine absE (fun x23 hx23 => ?_)
       have hx : Ext u5 x23 := by rw [hx23]; exact (Ext.refl _).drew
       replace bp := q1b hx bp
       replace z0 := hx.cell' z0
       replace z1 := hx.cell' z1
       replace z2 := hx.cell' z2
       replace z3 := hx.cell' z3
       replace HE := HE.trans hx
       clear hx
       clear hx23
       repeat (first | (refine wpE_q (v := ?_) rfl rfl (fun u hu => ?_) ?_; rotate_left 1; (focus (have kp := q1b hu bp; have kz0 := hu.cell' z0; have kz1 := hu.cell' z1; have kz2 := hu.cell' z2; have kz3 := hu.cell' z3; go_simp; (try rfl))); simp only [PU]) | (refine wpE_qs rfl rfl ?_; simp only [PU]))
       refine wpE_ls (Ext.refl _) rfl rfl ?_
       simp only [PU]
       repeat (first | (refine wpE_q (v := ?_) rfl rfl (fun u hu => ?_) ?_; rotate_left 1; (focus (have kp := q1b hu bp; have kz0 := hu.cell' z0; have kz1 := hu.cell' z1; have kz2 := hu.cell' z2; have kz3 := hu.cell' z3; go_simp; (try rfl))); simp only [PU]) | (refine wpE_qs rfl rfl ?_; simp only [PU]))
       refine wpE_done ?_
       go_wp2_with fail
       go_roundw
       case rel => exact ⟨j + 1, s, by omega, by go_num, rfl, by omega, by omega, bp, HST2, HE⟩
       case measure => simp only [intOf]; omega
     cases ri
     · have HRI1 := hidP (hri1 (by omega))
       clear hri1
       have HST2 : Hid (sumR q r st (l.drop (j + 1)) s = R) := hidP (by rw [hst, if_neg (by simp)])
       clear hst
       go_wp2_with fail
       refine wp_region_plan (R := Ext) (.q 0 (.q 1 (.q 2 (.q 3 (.q 4 (.q 5 (.q 6 (.l 7 (.q 8 .done))))))))) (by kernel_rfl) (by kernel_rfl) (by kernel_rfl) (by kernel_rfl) Ext.refl (fun _ _ _ => Ext.trans) ?_
       refine absE (fun x22 hx22 => ?_)
       have hx : Ext u4 x22 := by rw [hx22]; exact (Ext.refl _).drew
       replace bp := q1b hx bp
       replace z0 := hx.cell' z0
       replace z1 := hx.cell' z1
       replace z2 := hx.cell' z2
       replace z3 := hx.cell' z3
       replace HE := HE.trans hx
       clear hx
       clear hx22
       repeat (refine wpE_q (v := ?_) rfl rfl (fun u hu => ?_) ?_; rotate_left 1; (focus (have kp := q1b hu bp; have kz0 := hu.cell' z0; have kz1 := hu.cell' z1; have kz2 := hu.cell' z2; have kz3 := hu.cell' z3; go_simp; (try rfl))); simp only [PU])
       refine wpE_l rfl rfl (fun K hK => ?_)
       go_simp
       refine (HPA1.out _ (HY.out.ext HE)).mono ?_
       rintro e u5 ⟨rfl, hx⟩
       refine hK.out _ _ hx ?_
       clear hK K
       try simp only [PU]
       replace bp := q1b hx bp
       replace z0 := hx.cell' z0
       replace z1 := hx.cell' z1
       replace z2 := hx.cell' z2
       replace z3 := hx.cell' z3
       replace HE := HE.trans hx
       clear hx
       repeat (refine wpE_q (v := ?_) rfl rfl (fun u hu => ?_) ?_; rotate_left 1; (focus (have kp := q1b hu bp; have kz0 := hu.cell' z0; have kz1 := hu.cell' z1; have kz2 := hu.cell' z2; have kz3 := hu.cell' z3; go_simp; (try rfl))); simp only [PU])
       refine wpE_done ?_
       go_wp2_with fail
       refine wp_region_plan (R := Ext) (.q 0 (.q 1 (.q 2 (.q 3 (.q 4 (.q 5 (.q 6 (.q 7 (.l 8 (.q 9 .done)))))))))) (by kernel_rfl) (by kernel_rfl) (by kernel_rfl) (by kernel_rfl) Ext.refl (fun _ _ _ => Ext.trans) ?_
       refine absE (fun x23 hx23 => ?_)
       have hx : Ext u5 x23 := by rw [hx23]; exact (Ext.refl _).drew
       replace bp := q1b hx bp
       replace z0 := hx.cell' z0
       replace z1 := hx.cell' z1
       replace z2 := hx.cell' z2
       replace z3 := hx.cell' z3
       replace HE := HE.trans hx
       clear hx
       clear hx23
       repeat (refine wpE_q (v := ?_) rfl rfl (fun u hu => ?_) ?_; rotate_left 1; (focus (have kp := q1b hu bp; have kz0 := hu.cell' z0; have kz1 := hu.cell' z1; have kz2 := hu.cell' z2; have kz3 := hu.cell' z3; go_simp; (try rfl))); simp only [PU])
       refine wpE_l rfl rfl (fun K hK => ?_)
       go_simp
       refine (HRI1.out _ (HX.out.ext HE) (HY.out.ext HE)).mono ?_
       rintro e u6 ⟨rfl, hx⟩
       refine hK.out _ _ hx ?_
       clear hK K
       try simp only [PU]
       replace bp := q1b hx bp
       replace z0 := hx.cell' z0
       replace z1 := hx.cell' z1
       replace z2 := hx.cell' z2
       replace z3 := hx.cell' z3
       replace HE := HE.trans hx
       clear hx
       repeat (refine wpE_q (v := ?_) rfl rfl (fun u hu => ?_) ?_; rotate_left 1; (focus (have kp := q1b hu bp; have kz0 := hu.cell' z0; have kz1 := hu.cell' z1; have kz2 := hu.cell' z2; have kz3 := hu.cell' z3; go_simp; (try rfl))); simp only [PU])
       refine wpE_done ?_
       go_wp2_with fail
       go_roundw
       case rel => exact ⟨j + 1, s, by omega, by go_num, rfl, by omega, by omega, bp, HST2, HE⟩
       case measure => simp only [intOf]; omega
     have HRI1 := hidP (hri1 (by omega))
     clear hri1
     have HST2 : Hid (sumR q r st (l.drop (j + 1)) (s + 1) = R) := hidP (by rw [hst, if_pos ⟨by omega, rfl⟩])
     clear hst
     go_wp2_with fail
     refine wp_region_plan (R := Ext) (.q 0 (.q 1 (.q 2 (.q 3 (.q 4 (.q 5 (.q 6 (.l 7 (.q 8 .done))))))))) (by kernel_rfl) (by kernel_rfl) (by kernel_rfl) (by kernel_rfl) Ext.refl (fun _ _ _ => Ext.trans) ?_
     refine absE (fun x22 hx22 => ?_)
     have hx : Ext u4 x22 := by rw [hx22]; exact (Ext.refl _).drew
     replace bp := q1b hx bp
     replace z0 := hx.cell' z0
     replace z1 := hx.cell' z1
     replace z2 := hx.cell' z2
     replace z3 := hx.cell' z3
     replace HE := HE.trans hx
     clear hx
     clear hx22
     repeat (refine wpE_q (v := ?_) rfl rfl (fun u hu => ?_) ?_; rotate_left 1; (focus (have kp := q1b hu bp; have kz0 := hu.cell' z0; have kz1 := hu.cell' z1; have kz2 := hu.cell' z2; have kz3 := hu.cell' z3; go_simp; (try rfl))); simp only [PU])
     refine wpE_l rfl rfl (fun K hK => ?_)
     go_simp
     refine (HPA1.out _ (HY.out.ext HE)).mono ?_
     rintro e u5 ⟨rfl, hx⟩
     refine hK.out _ _ hx ?_
     clear hK K
     try simp only [PU]
     replace bp := q1b hx bp
     replace z0 := hx.cell' z0
     replace z1 := hx.cell' z1
     replace z2 := hx.cell' z2
     replace z3 := hx.cell' z3
     replace HE := HE.trans hx
     clear hx
     repeat (refine wpE_q (v := ?_) rfl rfl (fun u hu => ?_) ?_; rotate_left 1; (focus (have kp := q1b hu bp; have kz0 := hu.cell' z0; have kz1 := hu.cell' z1; have kz2 := hu.cell' z2; have kz3 := hu.cell' z3; go_simp; (try rfl))); simp only [PU])
     refine wpE_done ?_
     go_wp2_with fail
     refine wp_region_plan (R := Ext) (.q 0 (.q 1 (.q 2 (.q 3 (.q 4 (.q 5 (.q 6 (.q 7 (.l 8 (.q 9 .done)))))))))) (by kernel_rfl) (by kernel_rfl) (by kernel_rfl) (by kernel_rfl) Ext.refl (fun _ _ _ => Ext.trans) ?_
     refine absE (fun x23 hx23 => ?_)
     have hx : Ext u5 x23 := by rw [hx23]; exact (Ext.refl _).drew
     replace bp := q1b hx bp
     replace z0 := hx.cell' z0
     replace z1 := hx.cell' z1
     replace z2 := hx.cell' z2
     replace z3 := hx.cell' z3
     replace HE := HE.trans hx
     clear hx
     clear hx23
     repeat (refine wpE_q (v := ?_) rfl rfl (fun u hu => ?_) ?_; rotate_left 1; (focus (have kp := q1b hu bp; have kz0 := hu.cell' z0; have kz1 := hu.cell' z1; have kz2 := hu.cell' z2; have kz3 := hu.cell' z3; go_simp; (try rfl))); simp only [PU])
     refine wpE_l rfl rfl (fun K hK => ?_)
     go_simp
     refine (HRI1.out _ (HX.out.ext HE) (HY.out.ext HE)).mono ?_
     rintro e u6 ⟨rfl, hx⟩
     refine hK.out _ _ hx ?_
     clear hK K
     try simp only [PU]
     replace bp := q1b hx bp
     replace z0 := hx.cell' z0
     replace z1 := hx.cell' z1
     replace z2 := hx.cell' z2
     replace z3 := hx.cell' z3
     replace HE := HE.trans hx
     clear hx
     repeat (refine wpE_q (v := ?_) rfl rfl (fun u hu => ?_) ?_; rotate_left 1; (focus (have kp := q1b hu bp; have kz0 := hu.cell' z0; have kz1 := hu.cell' z1; have kz2 := hu.cell' z2; have kz3 := hu.cell' z3; go_simp; (try rfl))); simp only [PU])
     refine wpE_done ?_
     go_wp2_with fail
     go_roundw
     case rel => exact ⟨j + 1, s + 1, by omega, by go_num, rfl, by omega, by omega, bp, HST2, HE⟩
     case measure => simp only [intOf]; omega
   have HST2 : Hid (sumR q r st (l.drop (j + 1)) s = R) := hidP (by rw [hst, if_pos rfl])
   clear hst hpa hri hpb
   go_wp2_with fail
   refine wp_region_plan (R := Ext) (.q 0 (.q 1 (.q 2 (.q 3 (.l 4 (.q 5 (.q 6 (.q 7 (.q 8 (.q 9 (.q 10 (.q 11 (.q 13 (.q 14 (.q 15 (.q 16 (.q 17 (.q 19 (.l 12 (.l 18 (.l 20 (.q 21 .done)))))))))))))))))))))) (by kernel_rfl) (by kernel_rfl) (by kernel_rfl) (by kernel_rfl) Ext.refl (fun _ _ _ => Ext.trans) ?_
   refine absE (fun x21 hx21 => ?_)
   have hx : Ext wr x21 := by rw [hx21]; exact (Ext.refl _).drew
   replace bp := q1b hx bp
   replace z0 := hx.cell' z0
   replace z1 := hx.cell' z1
   replace z2 := hx.cell' z2
   replace z3 := hx.cell' z3
   replace HE := HE.trans hx
   clear hx
   clear hx21
   repeat (refine wpE_q (v := ?_) rfl rfl (fun u hu => ?_) ?_; rotate_left 1; (focus (have kp := q1b hu bp; have kz0 := hu.cell' z0; have kz1 := hu.cell' z1; have kz2 := hu.cell' z2; have kz3 := hu.cell' z3; go_simp; (try rfl))); simp only [PU])
   refine wpE_l rfl rfl (fun K hK => ?_)
   go_simp
   refine (HMY1.out _).mono ?_
   rintro e u1 ⟨rfl, hx⟩
   refine hK.out _ _ hx ?_
   clear hK K
   try simp only [PU]
   replace bp := q1b hx bp
   replace z0 := hx.cell' z0
   replace z1 := hx.cell' z1
   replace z2 := hx.cell' z2
   replace z3 := hx.cell' z3
   replace HE := HE.trans hx
   clear hx
   repeat (refine wpE_q (v := ?_) rfl rfl (fun u hu => ?_) ?_; rotate_left 1; (focus (have kp := q1b hu bp; have kz0 := hu.cell' z0; have kz1 := hu.cell' z1; have kz2 := hu.cell' z2; have kz3 := hu.cell' z3; go_simp; (try rfl))); simp only [PU])
   refine wpE_l rfl rfl (fun K hK => ?_)
   go_simp
   refine (HA1.out _).mono ?_
   rintro e u2 ⟨a1, n1, c1, d1, m1, k1, a2, n2, c2, d2, m2, k2, rfl, hs1, ht1, hs2, ht2, hx⟩
   refine hK.out _ _ hx ?_
   clear hK K
   try simp only [PU]
   replace bp := q1b hx bp
   replace z0 := hx.cell' z0
   replace z1 := hx.cell' z1
   replace z2 := hx.cell' z2
   replace z3 := hx.cell' z3
   replace HE := HE.trans hx
   clear hx
   refine wpE_l rfl rfl (fun K hK => ?_)
   go_simp
   refine (HB1.out _).mono ?_
   rintro e u3 ⟨a3, n3, c3, d3, m3, k3, a4, n4, c4, d4, m4, k4, rfl, hs3, ht3, hs4, ht4, hx⟩
   refine hK.out _ _ hx ?_
   clear hK K
   try simp only [PU]
   replace bp := q1b hx bp
   replace hs1 := hs1.ext hx
   replace ht1 := ht1.ext hx
   replace hs2 := hs2.ext hx
   replace ht2 := ht2.ext hx
   replace z0 := hx.cell' z0
   replace z1 := hx.cell' z1
   replace z2 := hx.cell' z2
   replace z3 := hx.cell' z3
   replace HE := HE.trans hx
   clear hx
   refine wpE_l rfl rfl (fun K hK => ?_)
   go_simp
   refine (HON1.out _ (hN2 hs1 ht1 L1.out) (hN2 hs2 ht2 L2.out) (hN2 hs3 ht3 L3.out) (hN2 hs4 ht4 L4.out) (HX.out.ext HE) (HY.out.ext HE)).mono ?_
   rintro e u4 ⟨rfl, hx⟩
   refine hK.out _ _ hx ?_
   clear hK K
   try simp only [PU]
   replace bp := q1b hx bp
   replace hs1 := hs1.ext hx
   replace ht1 := ht1.ext hx
   replace hs2 := hs2.ext hx
   replace ht2 := ht2.ext hx
   replace hs3 := hs3.ext hx
   replace ht3 := ht3.ext hx
   replace hs4 := hs4.ext hx
   replace ht4 := ht4.ext hx
   replace z0 := hx.cell' z0
   replace z1 := hx.cell' z1
   replace z2 := hx.cell' z2
   replace z3 := hx.cell' z3
   replace HE := HE.trans hx
   clear hx
   repeat (refine wpE_q (v := ?_) rfl rfl (fun u hu => ?_) ?_; rotate_left 1; (focus (have kp := q1b hu bp; have kz0 := hu.cell' z0; have kz1 := hu.cell' z1; have kz2 := hu.cell' z2; have kz3 := hu.cell' z3; go_simp; (try rfl))); simp only [PU])
   refine wpE_done ?_
   go_wp2_with fail
   go_roundw
   case rel => exact ⟨j + 1, s, by omega, by go_num, rfl, by omega, by omega, bp, HST2, HE⟩
   case measure => simp only [intOf]; omega
 obtain rfl : j = sn := by omega
 have hr : s = R := by have := HJ.out; rwa [List.drop_of_length_le (by rw [HLN.out]; omega)] at this
 subst hr
 clear HJ
 go_wp2_with fail
 go_ret
 exact ⟨rfl, HE⟩
end Go.Proofs.YtgjjalnmigdjgaaGreat
