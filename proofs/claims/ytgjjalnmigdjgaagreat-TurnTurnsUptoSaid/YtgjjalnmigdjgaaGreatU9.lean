/- Turns, in the document. -/
import Derived.Test.YtgjjalnmigdjgaaGreatU8
namespace Go.Proofs.YtgjjalnmigdjgaaGreat
set_option linter.unusedVariables false
set_option linter.unusedSimpArgs false
open Go Go.RowKit
theorem cmpQ_neg (a b : Rat) : cmpQ a b = -1 ↔ a < b := by
  have h := decide_eq_decide.1 (cmpQ_lt a b)
  have h1 := cmpQ_bd a b
  rw [← h]
  omega
theorem cmpQ_one (a b : Rat) : cmpQ a b = 1 ↔ b < a := by
  have h := decide_eq_decide.1 (cmpQ_le a b)
  have h1 := cmpQ_bd a b
  rw [← Rat.not_le, ← h]
  omega
/-- What a way counts, in both tellings. -/
theorem cnt_same {q r : Rat} {g : Sg} : cntF q r g = if pkR r false g ≠ 0 ∧ riR q r g = true then pkR r false g else 0 := by
  have hpk : pkR r false g = upF (decide ((g.1.2 : Rat) ≤ r)) (decide ((g.2.2 : Rat) ≤ r)) := by
    unfold pkR
    rw [if_neg (by simp), past_up]
  have hri : pkR r false g ≠ 0 → (riR q r g = true ↔ sideR (g.1.1 : Rat) (g.1.2 : Rat) (g.2.1 : Rat) (g.2.2 : Rat) q r = pkR r false g) := by
    rw [hpk]
    unfold riR sideR
    rw [decide_eq_true_iff]
    generalize (g.1.1 : Rat) = ax
    generalize (g.1.2 : Rat) = ay
    generalize (g.2.1 : Rat) = ex
    generalize (g.2.2 : Rat) = ey
    intro h
    by_cases h1 : ay ≤ r
    · by_cases h2 : ey ≤ r
      · exact absurd (by simp [h1, h2, upF]) h
      · rw [right_up h1 (Rat.not_le.1 h2)]
        simp only [h1, h2, upF, decide_true, decide_false]
        exact (cmpQ_one _ _).symm
    · by_cases h2 : ey ≤ r
      · rw [right_dn h2 (Rat.not_le.1 h1)]
        simp only [h1, h2, upF, decide_true, decide_false]
        exact (cmpQ_neg _ _).symm
      · exact absurd (by simp [h1, h2, upF]) h
  unfold cntF
  rw [← hpk]
  unfold passF
  by_cases h0 : pkR r false g = 0
  · rw [if_neg (fun h => h.1 h0), if_neg (fun h => h.1 h0)]
  · by_cases hr : riR q r g = true
    · rw [if_pos ⟨h0, (hri h0).1 hr⟩, if_pos ⟨h0, hr⟩]
    · rw [if_neg (fun h => hr ((hri h0).2 h.2)), if_neg (fun h => hr h.2)]
def anyF (q r : Rat) : List Sg → Bool
  | [] => false
  | g :: t => (mayS g && onS q r g) || anyF q r t
theorem anyF_drop {q r : Rat} {l : List Sg} {j : Nat} (h : j < l.length) : anyF q r (l.drop j) = ((mayS l[j] && onS q r l[j]) || anyF q r (l.drop (j + 1))) := by
  rw [List.drop_eq_getElem_cons h]
  rfl
theorem turns_on {q r : Rat} (l : List Sg) (s : Int) (h : anyF q r l = true) : turnsF q r l s = (0, false) := by
  induction l generalizing s with
  | nil => cases h
  | cons g t ih =>
    unfold anyF at h
    unfold turnsF
    by_cases h1 : mayS g = false
    · rw [if_pos h1]
      exact ih _ (by simpa [h1] using h)
    · rw [if_neg h1]
      by_cases h2 : onS q r g = true
      · rw [if_pos h2]
      · rw [if_neg h2]
        exact ih _ (by simpa [h1, h2] using h)
theorem turns_off {q r : Rat} (l : List Sg) (s : Int) (h : anyF q r l = false) : turnsF q r l s = (sumR q r false l s, true) := by
  induction l generalizing s with
  | nil => rfl
  | cons g t ih =>
    unfold anyF at h
    obtain ⟨ha, hb⟩ := Bool.or_eq_false_iff.1 h
    unfold turnsF sumR
    by_cases h1 : mayS g = false
    · rw [if_pos h1, if_pos h1]
      exact ih _ hb
    · rw [if_neg h1, if_neg h1]
      have h1' : mayS g = true := by simpa using h1
      have h2 : onS q r g = false := by rw [h1', Bool.true_and] at ha; exact ha
      rw [if_neg (by simp [h2]), if_neg (by simp [h2]), cnt_same]
      by_cases h3 : pkR r false g ≠ 0 ∧ riR q r g = true
      · rw [if_pos h3, if_pos h3]; exact ih _ hb
      · rw [if_neg h3, if_neg h3, Int.add_zero]; exact ih _ hb
theorem turns_bd {q r : Rat} (l : List Sg) (s k : Int) (h0 : 0 ≤ k) (h1 : -k ≤ s) (h2 : s ≤ k) : -((l.length : Int) + k) ≤ (turnsF q r l s).1 ∧ (turnsF q r l s).1 ≤ (l.length : Int) + k := by
  induction l generalizing s k with
  | nil => simp only [turnsF, List.length_nil]; omega
  | cons g t ih =>
    have hc := cntF_bd q r g
    have i1 := ih s k h0 h1 h2
    have i2 := ih (s + cntF q r g) (k + 1) (by omega) (by omega) (by omega)
    simp only [List.length_cons]
    by_cases c1 : mayS g = false
    · have e : turnsF q r (g :: t) s = turnsF q r t s := if_pos c1
      rw [e]; omega
    · by_cases c2 : onS q r g = true
      · have e : turnsF q r (g :: t) s = (0, false) := by
          show (if _ then _ else _) = _
          rw [if_neg c1, if_pos c2]
        rw [e]; simp only []; omega
      · have e : turnsF q r (g :: t) s = turnsF q r t (s + cntF q r g) := by
          show (if _ then _ else _) = _
          rw [if_neg c1, if_neg c2]
        rw [e]; omega
set_option maxRecDepth 100000 in
set_option maxHeartbeats 8000000 in
theorem r19_Turns {b b' : Bool} {a d a' d' : Option Addr} {n c m k n' c' m' k' : Nat} {q r : Rat} {N : Nat} (sa : Option Addr) (sn sc : Nat) (l : List Sg) (w : World) (h : SlG w sa sn sc l) (hx : Fq w b a n c d m k q N) (hy : Fq w b' a' n' c' d' m' k' r N) (hN : N ≤ 8589934592) (hN1 : 2 ≤ N) (hsn : sn ≤ 4194304) :
 Calls Tryz.prog 8 #[.slice sa sn sc, .agg #[.bool b, .slice a n c, .slice d m k, .bool b', .slice a' n' c', .slice d' m' k']] w fun e w' => e = .returned (.tuple #[.int .i64 (turnsF q r l 0).1, .bool (turnsF q r l 0).2]) ∧ Ext w w' := by
 have H := hidP h; have HX := hidP hx; have HY := hidP hy
 have HLN := hidP h.len
 have hcap : sn ≤ maxLen := Nat.le_trans h.2.1 h.2.2.1
 unfold maxLen at hcap
 have HST := hidP (fun (j : Nat) (hj : j < l.length) => anyF_drop (q := q) (r := r) hj)
 have HMY := hidP s_May
 have HA := hidP s_A
 have HB := hidP s_B
 have HF := hidP (fun (g : Sg) (hg : mayS g = true) => s_fits hg)
 have HON := hidP (fun (g : Sg) (u : World) {b1 : Bool} {a1 d1 : Option Addr} {n1 c1 m1 k1 : Nat} {b2 : Bool} {a2 d2 : Option Addr} {n2 c2 m2 k2 : Nat} {b3 : Bool} {a3 d3 : Option Addr} {n3 c3 m3 k3 : Nat} {b4 : Bool} {a4 d4 : Option Addr} {n4 c4 m4 k4 : Nat} (t1 : Fq u b1 a1 n1 c1 d1 m1 k1 (g.1.1 : Rat) N) (t2 : Fq u b2 a2 n2 c2 d2 m2 k2 (g.1.2 : Rat) N) (t3 : Fq u b3 a3 n3 c3 d3 m3 k3 (g.2.1 : Rat) N) (t4 : Fq u b4 a4 n4 c4 d4 m4 k4 (g.2.2 : Rat) N) (t5 : Fq u b a n c d m k q N) (t6 : Fq u b' a' n' c' d' m' k' r N) => s_On g u t1 t2 t3 t4 t5 t6 hN (by omega))
 have HSM := hidP (fun u (t0 : SlG u sa sn sc l) (t5 : Fq u b a n c d m k q N) (t6 : Fq u b' a' n' c' d' m' k' r N) => r19_sum false sa sn sc l u t0 t5 t6 hN hN1 hsn)
 have hN2 : ∀ {v : World} {f : Option Addr} {i1 i2 : Nat} {f' : Option Addr} {i3 i4 : Nat} {z : Rat}, Nc v f i1 i2 z.num.natAbs → Nc v f' i3 i4 z.den → ql z ≤ 2 → Fq v (decide (z.num < 0)) f i1 i2 f' i3 i4 z N := fun t1 t2 t3 => fq_of t1 t2 (Nat.le_trans t3 hN1) (by omega)
 have HON1 := hidP (turns_on (q := q) (r := r) l 0)
 have HOF1 := hidP (turns_off (q := q) (r := r) l 0)
 have HJ0 : Hid (anyF q r (l.drop 0) = anyF q r l) := hidP rfl
 have hql : ∀ z : Int, -8388607 ≤ z → z ≤ 8388607 → ql (z : Rat) ≤ 2 := fun z z1 z2 => ql_int (n := z) (by omega) (by omega)
 have HQL := hidP hql
 clear h hx hy hql
 generalize turnsF q r l 0 = R at *
 generalize sumR q r false l 0 = sm at *
 generalize anyF q r l = A at *
 obtain ⟨R1, R2⟩ := R
 go_enter Tryz.func8, Tryz.ntmps8
 go_upto_region 1 with fail
 refine absW (fun x1 hx1 => ?_)
 have hx : Ext w x1 := by rw [hx1]; exact ((Ext.refl _).alloc _)
 have bp : Bl x1 (w.heap.size) #[.bool b, .slice a n c, .slice d m k, .bool b', .slice a' n' c', .slice d' m' k'] := by rw [hx1]; exact (Bl.new (by simp))
 have HE := hx
 clear hx
 clear hx1
 go_wp2_with fail
 go_loopw [6] (fun iv wr => ∃ (j : Nat), j ≤ sn ∧ iv = .int .i64 (j : Int) ∧ Bl wr w.heap.size #[.bool b, .slice a n c, .slice d m k, .bool b', .slice a' n' c', .slice d' m' k'] ∧ Hid (anyF q r (l.drop j) = A) ∧ Ext w wr) (fun iv _ => sn - (intOf iv).toNat)
 case atStart => exact ⟨0, by omega, rfl, bp, HJ0, HE⟩
 case round =>
  clear HE bp HJ0
  obtain ⟨j, hj, rfl, bp, HJ, HE⟩ := hrel
  by_cases hlt : j < sn
  · obtain ⟨g, off, rfl, hc⟩ := (H.out.ext HE).at (by omega)
    have hjl : j < l.length := by rw [HLN.out]; exact hlt
    obtain ⟨z0, z1, z2, z3⟩ := hc j hjl
    have hst := HST.out j hjl
    rw [HJ.out] at hst
    clear hc HJ
    have hmy := HMY.out l[j]
    have ha := HA.out l[j]
    have hb := HB.out l[j]
    have hf := HF.out l[j]
    have hon := HON.out l[j]
    generalize l[j] = G at *
    generalize onS q r G = on at *
    generalize mayS G = ms at *
    obtain ⟨⟨ax, ay⟩, ⟨ex, ey⟩⟩ := G
    simp only [] at z0 z1 z2 z3 hmy ha hb hf hon
    have HMY1 := hidP hmy
    clear hmy
    cases ms
    · have HST2 : Hid (anyF q r (l.drop (j + 1)) = A) := hidP (by rw [hst, Bool.false_and, Bool.false_or])
      clear hst ha hb hf hon
      go_wp2_with fail
      refine wp_region_plan (R := Ext) (.q 0 (.q 1 (.q 2 (.q 3 (.l 4 (.q 5 (.q 6 (.q 7 (.q 8 (.q 9 (.q 10 (.q 12 (.q 13 (.q 14 (.q 15 (.q 16 (.q 18 (.l 11 (.l 17 (.l 19 (.q 20 .done))))))))))))))))))))) (by kernel_rfl) (by kernel_rfl) (by kernel_rfl) (by kernel_rfl) Ext.refl (fun _ _ _ => Ext.trans) ?_
      refine absE (fun x21 hx21 => ?_)
      have hx : Ext wr x21 := by rw [hx21]; exact (Ext.refl _).drew
      replace bp := be hx bp
      replace z0 := hx.cell' z0
      replace z1 := hx.cell' z1
      replace z2 := hx.cell' z2
      replace z3 := hx.cell' z3
      replace HE := HE.trans hx
      clear hx
      clear hx21
      repeat (first | (refine wpE_q (v := ?_) rfl rfl (fun u hu => ?_) ?_; rotate_left 1; (focus (have kp := be hu bp; have kz0 := hu.cell' z0; have kz1 := hu.cell' z1; have kz2 := hu.cell' z2; have kz3 := hu.cell' z3; go_simp; (try rfl))); simp only [PU]) | (refine wpE_qs rfl rfl ?_; simp only [PU]))
      refine wpE_l rfl rfl (fun K hK => ?_)
      go_simp
      refine (HMY1.out _).mono ?_
      rintro e u1 ⟨rfl, hx⟩
      refine hK.out _ _ hx ?_
      clear hK K
      try simp only [PU]
      replace bp := be hx bp
      replace z0 := hx.cell' z0
      replace z1 := hx.cell' z1
      replace z2 := hx.cell' z2
      replace z3 := hx.cell' z3
      replace HE := HE.trans hx
      clear hx
      repeat (first | (refine wpE_q (v := ?_) rfl rfl (fun u hu => ?_) ?_; rotate_left 1; (focus (have kp := be hu bp; have kz0 := hu.cell' z0; have kz1 := hu.cell' z1; have kz2 := hu.cell' z2; have kz3 := hu.cell' z3; go_simp; (try rfl))); simp only [PU]) | (refine wpE_qs rfl rfl ?_; simp only [PU]))
      refine wpE_ls (Ext.refl _) rfl rfl ?_
      simp only [PU]
      refine wpE_ls (Ext.refl _) rfl rfl ?_
      simp only [PU]
      refine wpE_ls (Ext.refl _) rfl rfl ?_
      simp only [PU]
      repeat (first | (refine wpE_q (v := ?_) rfl rfl (fun u hu => ?_) ?_; rotate_left 1; (focus (have kp := be hu bp; have kz0 := hu.cell' z0; have kz1 := hu.cell' z1; have kz2 := hu.cell' z2; have kz3 := hu.cell' z3; go_simp; (try rfl))); simp only [PU]) | (refine wpE_qs rfl rfl ?_; simp only [PU]))
      refine wpE_done ?_
      go_wp2_with fail
      go_roundw
      case rel => exact ⟨j + 1, by omega, by go_num, bp, HST2, HE⟩
      case measure => simp only [intOf]; omega
    · rw [Bool.true_and] at hst
      obtain ⟨⟨x1, x2, y1, y2⟩, ⟨x3, x4, y3, y4⟩⟩ := hf rfl
      have L1 := hidP (HQL.out ax x1 x2); have L2 := hidP (HQL.out ay y1 y2); have L3 := hidP (HQL.out ex x3 x4); have L4 := hidP (HQL.out ey y3 y4)
      generalize (ax : Rat) = q1 at *
      generalize (ay : Rat) = q2 at *
      generalize (ex : Rat) = q3 at *
      generalize (ey : Rat) = q4 at *
      have HA1 := hidP (ha rfl); have HB1 := hidP (hb rfl); have HON2 := hidP hon
      clear ha hb hon hf
      cases on
      · have HST2 : Hid (anyF q r (l.drop (j + 1)) = A) := hidP (by rw [hst, Bool.false_or])
        clear hst
        go_wp2_with fail
        refine wp_region_plan (R := Ext) (.q 0 (.q 1 (.q 2 (.q 3 (.l 4 (.q 5 (.q 6 (.q 7 (.q 8 (.q 9 (.q 10 (.q 12 (.q 13 (.q 14 (.q 15 (.q 16 (.q 18 (.l 11 (.l 17 (.l 19 (.q 20 .done))))))))))))))))))))) (by kernel_rfl) (by kernel_rfl) (by kernel_rfl) (by kernel_rfl) Ext.refl (fun _ _ _ => Ext.trans) ?_
        refine absE (fun x21 hx21 => ?_)
        have hx : Ext wr x21 := by rw [hx21]; exact (Ext.refl _).drew
        replace bp := be hx bp
        replace z0 := hx.cell' z0
        replace z1 := hx.cell' z1
        replace z2 := hx.cell' z2
        replace z3 := hx.cell' z3
        replace HE := HE.trans hx
        clear hx
        clear hx21
        repeat (refine wpE_q (v := ?_) rfl rfl (fun u hu => ?_) ?_; rotate_left 1; (focus (have kp := be hu bp; have kz0 := hu.cell' z0; have kz1 := hu.cell' z1; have kz2 := hu.cell' z2; have kz3 := hu.cell' z3; go_simp; (try rfl))); simp only [PU])
        refine wpE_l rfl rfl (fun K hK => ?_)
        go_simp
        refine (HMY1.out _).mono ?_
        rintro e u1 ⟨rfl, hx⟩
        refine hK.out _ _ hx ?_
        clear hK K
        try simp only [PU]
        replace bp := be hx bp
        replace z0 := hx.cell' z0
        replace z1 := hx.cell' z1
        replace z2 := hx.cell' z2
        replace z3 := hx.cell' z3
        replace HE := HE.trans hx
        clear hx
        repeat (refine wpE_q (v := ?_) rfl rfl (fun u hu => ?_) ?_; rotate_left 1; (focus (have kp := be hu bp; have kz0 := hu.cell' z0; have kz1 := hu.cell' z1; have kz2 := hu.cell' z2; have kz3 := hu.cell' z3; go_simp; (try rfl))); simp only [PU])
        refine wpE_l rfl rfl (fun K hK => ?_)
        go_simp
        refine (HA1.out _).mono ?_
        rintro e u2 ⟨a1, n1, c1, d1, m1, k1, a2, n2, c2, d2, m2, k2, rfl, hs1, ht1, hs2, ht2, hx⟩
        refine hK.out _ _ hx ?_
        clear hK K
        try simp only [PU]
        replace bp := be hx bp
        replace z0 := hx.cell' z0
        replace z1 := hx.cell' z1
        replace z2 := hx.cell' z2
        replace z3 := hx.cell' z3
        replace HE := HE.trans hx
        clear hx
        refine wpE_l rfl rfl (fun K hK => ?_)
        go_simp
        refine (HB1.out _).mono ?_
        rintro e u3 ⟨a3, n3, c3, d3, m3, k3, a4, n4, c4, d4, m4, k4, rfl, hs3, ht3, hs4, ht4, hx⟩
        refine hK.out _ _ hx ?_
        clear hK K
        try simp only [PU]
        replace bp := be hx bp
        replace hs1 := hs1.ext hx
        replace ht1 := ht1.ext hx
        replace hs2 := hs2.ext hx
        replace ht2 := ht2.ext hx
        replace z0 := hx.cell' z0
        replace z1 := hx.cell' z1
        replace z2 := hx.cell' z2
        replace z3 := hx.cell' z3
        replace HE := HE.trans hx
        clear hx
        refine wpE_l rfl rfl (fun K hK => ?_)
        go_simp
        refine (HON2.out _ (hN2 hs1 ht1 L1.out) (hN2 hs2 ht2 L2.out) (hN2 hs3 ht3 L3.out) (hN2 hs4 ht4 L4.out) (HX.out.ext HE) (HY.out.ext HE)).mono ?_
        rintro e u4 ⟨rfl, hx⟩
        refine hK.out _ _ hx ?_
        clear hK K
        try simp only [PU]
        replace bp := be hx bp
        replace hs1 := hs1.ext hx
        replace ht1 := ht1.ext hx
        replace hs2 := hs2.ext hx
        replace ht2 := ht2.ext hx
        replace hs3 := hs3.ext hx
        replace ht3 := ht3.ext hx
        replace hs4 := hs4.ext hx
        replace ht4 := ht4.ext hx
        replace z0 := hx.cell' z0
        replace z1 := hx.cell' z1
        replace z2 := hx.cell' z2
        replace z3 := hx.cell' z3
        replace HE := HE.trans hx
        clear hx
        repeat (refine wpE_q (v := ?_) rfl rfl (fun u hu => ?_) ?_; rotate_left 1; (focus (have kp := be hu bp; have kz0 := hu.cell' z0; have kz1 := hu.cell' z1; have kz2 := hu.cell' z2; have kz3 := hu.cell' z3; go_simp; (try rfl))); simp only [PU])
        refine wpE_done ?_
        go_wp2_with fail
        go_roundw
        case rel => exact ⟨j + 1, by omega, by go_num, bp, HST2, HE⟩
        case measure => simp only [intOf]; omega
      · rw [Bool.true_or] at hst
        have hr := HON1.out hst
        simp only [Prod.mk.injEq] at hr
        obtain ⟨rfl, rfl⟩ := hr
        clear hst HOF1
        go_wp2_with fail
        refine wp_region_plan (R := Ext) (.q 0 (.q 1 (.q 2 (.q 3 (.l 4 (.q 5 (.q 6 (.q 7 (.q 8 (.q 9 (.q 10 (.q 12 (.q 13 (.q 14 (.q 15 (.q 16 (.q 18 (.l 11 (.l 17 (.l 19 (.q 20 .done))))))))))))))))))))) (by kernel_rfl) (by kernel_rfl) (by kernel_rfl) (by kernel_rfl) Ext.refl (fun _ _ _ => Ext.trans) ?_
        refine absE (fun x21 hx21 => ?_)
        have hx : Ext wr x21 := by rw [hx21]; exact (Ext.refl _).drew
        replace bp := be hx bp
        replace z0 := hx.cell' z0
        replace z1 := hx.cell' z1
        replace z2 := hx.cell' z2
        replace z3 := hx.cell' z3
        replace HE := HE.trans hx
        clear hx
        clear hx21
        repeat (refine wpE_q (v := ?_) rfl rfl (fun u hu => ?_) ?_; rotate_left 1; (focus (have kp := be hu bp; have kz0 := hu.cell' z0; have kz1 := hu.cell' z1; have kz2 := hu.cell' z2; have kz3 := hu.cell' z3; go_simp; (try rfl))); simp only [PU])
        refine wpE_l rfl rfl (fun K hK => ?_)
        go_simp
        refine (HMY1.out _).mono ?_
        rintro e u1 ⟨rfl, hx⟩
        refine hK.out _ _ hx ?_
        clear hK K
        try simp only [PU]
        replace bp := be hx bp
        replace z0 := hx.cell' z0
        replace z1 := hx.cell' z1
        replace z2 := hx.cell' z2
        replace z3 := hx.cell' z3
        replace HE := HE.trans hx
        clear hx
        repeat (refine wpE_q (v := ?_) rfl rfl (fun u hu => ?_) ?_; rotate_left 1; (focus (have kp := be hu bp; have kz0 := hu.cell' z0; have kz1 := hu.cell' z1; have kz2 := hu.cell' z2; have kz3 := hu.cell' z3; go_simp; (try rfl))); simp only [PU])
        refine wpE_l rfl rfl (fun K hK => ?_)
        go_simp
        refine (HA1.out _).mono ?_
        rintro e u2 ⟨a1, n1, c1, d1, m1, k1, a2, n2, c2, d2, m2, k2, rfl, hs1, ht1, hs2, ht2, hx⟩
        refine hK.out _ _ hx ?_
        clear hK K
        try simp only [PU]
        replace bp := be hx bp
        replace z0 := hx.cell' z0
        replace z1 := hx.cell' z1
        replace z2 := hx.cell' z2
        replace z3 := hx.cell' z3
        replace HE := HE.trans hx
        clear hx
        refine wpE_l rfl rfl (fun K hK => ?_)
        go_simp
        refine (HB1.out _).mono ?_
        rintro e u3 ⟨a3, n3, c3, d3, m3, k3, a4, n4, c4, d4, m4, k4, rfl, hs3, ht3, hs4, ht4, hx⟩
        refine hK.out _ _ hx ?_
        clear hK K
        try simp only [PU]
        replace bp := be hx bp
        replace hs1 := hs1.ext hx
        replace ht1 := ht1.ext hx
        replace hs2 := hs2.ext hx
        replace ht2 := ht2.ext hx
        replace z0 := hx.cell' z0
        replace z1 := hx.cell' z1
        replace z2 := hx.cell' z2
        replace z3 := hx.cell' z3
        replace HE := HE.trans hx
        clear hx
        refine wpE_l rfl rfl (fun K hK => ?_)
        go_simp
        refine (HON2.out _ (hN2 hs1 ht1 L1.out) (hN2 hs2 ht2 L2.out) (hN2 hs3 ht3 L3.out) (hN2 hs4 ht4 L4.out) (HX.out.ext HE) (HY.out.ext HE)).mono ?_
        rintro e u4 ⟨rfl, hx⟩
        refine hK.out _ _ hx ?_
        clear hK K
        try simp only [PU]
        replace bp := be hx bp
        replace hs1 := hs1.ext hx
        replace ht1 := ht1.ext hx
        replace hs2 := hs2.ext hx
        replace ht2 := ht2.ext hx
        replace hs3 := hs3.ext hx
        replace ht3 := ht3.ext hx
        replace hs4 := hs4.ext hx
        replace ht4 := ht4.ext hx
        replace z0 := hx.cell' z0
        replace z1 := hx.cell' z1
        replace z2 := hx.cell' z2
        replace z3 := hx.cell' z3
        replace HE := HE.trans hx
        clear hx
        repeat (refine wpE_q (v := ?_) rfl rfl (fun u hu => ?_) ?_; rotate_left 1; (focus (have kp := be hu bp; have kz0 := hu.cell' z0; have kz1 := hu.cell' z1; have kz2 := hu.cell' z2; have kz3 := hu.cell' z3; go_simp; (try rfl))); simp only [PU])
        refine wpE_done ?_
        go_wp2_with fail
        go_ret2
        exact ⟨rfl, HE⟩
  · obtain rfl : j = sn := by omega
    have hst : A = false := by have := HJ.out; rw [List.drop_of_length_le (by rw [HLN.out]; omega)] at this; exact this.symm
    have hr := HOF1.out hst
    simp only [Prod.mk.injEq] at hr
    obtain ⟨rfl, rfl⟩ := hr
    clear HJ hst HON1 HOF1
    go_wp2_with fail
    refine (HSM.out _ (H.out.ext HE) (HX.out.ext HE) (HY.out.ext HE)).mono ?_
    rintro e u9 ⟨rfl, hx⟩
    replace HE := HE.trans hx
    clear hx
    go_wp2_with fail
    go_ret2
    exact ⟨rfl, HE⟩
end Go.Proofs.YtgjjalnmigdjgaaGreat
