/- Turns on both sides of an edge. -/
import Derived.Test.YtgjjalnmigdjgaaGreatU17
namespace Go.Proofs.YtgjjalnmigdjgaaGreat
set_option linter.unusedVariables false
set_option linter.unusedSimpArgs false
open Go Go.RowKit
theorem ql_half2 : ql (mkRat 1 2) ≤ 1 := by
  have h : mkRat 1 2 = ⟨1, 2, by decide, by decide⟩ := by decide +kernel
  rw [h]
  decide +kernel
theorem right_pos {ax ay ex ey q r : Rat} (h : ay < ey) : q < rightX ax ay ex ey r ↔ (ey - ay) * (q - ax) < (ex - ax) * (r - ay) := by
  have hd : 0 < ey - ay := by grind
  have e : (r - ay) / (ey - ay) * (ex - ax) = ((ex - ax) * (r - ay)) / (ey - ay) := by grind
  unfold rightX
  rw [e]
  have : q < ax + (ex - ax) * (r - ay) / (ey - ay) ↔ q - ax < (ex - ax) * (r - ay) / (ey - ay) := by grind
  rw [this, Rat.lt_div_iff hd]
  rw [Rat.mul_comm]
theorem right_neg {ax ay ex ey q r : Rat} (h : ey < ay) : q < rightX ax ay ex ey r ↔ (ex - ax) * (r - ay) < (ey - ay) * (q - ax) := by
  have hd : 0 < ay - ey := by grind
  have e : (r - ay) / (ey - ay) * (ex - ax) = ((ex - ax) * (ay - r)) / (ay - ey) := by grind
  unfold rightX
  rw [e]
  have : q < ax + (ex - ax) * (ay - r) / (ay - ey) ↔ q - ax < (ex - ax) * (ay - r) / (ay - ey) := by grind
  rw [this, Rat.lt_div_iff hd]
  have e2 : (q - ax) * (ay - ey) = -((ey - ay) * (q - ax)) := by grind
  have e3 : (ex - ax) * (ay - r) = -((ex - ax) * (r - ay)) := by grind
  rw [e2, e3]
  constructor <;> intro h <;> grind
theorem pkR_up (r : Rat) (st : Bool) (g : Sg) : pkR r st g = upS st r g := by
  unfold pkR upS
  rw [past_up, past_dn]
theorem upF_one {a b : Bool} (h : upF a b = 1) : a = true ∧ b = false := by cases a <;> cases b <;> simp_all [upF]
theorem upF_neg {a b : Bool} (h : upF a b = -1) : a = false ∧ b = true := by cases a <;> cases b <;> simp_all [upF]
theorem upS_one {st : Bool} {r : Rat} {g : Sg} (h : upS st r g = 1) : (g.1.2 : Rat) < (g.2.2 : Rat) := by
  unfold upS at h
  split at h
  · have h' := upF_one h
    have a := of_decide_eq_true h'.1
    have b := of_decide_eq_false h'.2
    rw [Rat.not_lt] at b
    grind
  · have h' := upF_one h
    have a := of_decide_eq_true h'.1
    have b := of_decide_eq_false h'.2
    rw [Rat.not_le] at b
    grind
theorem upS_neg {st : Bool} {r : Rat} {g : Sg} (h : upS st r g = -1) : (g.2.2 : Rat) < (g.1.2 : Rat) := by
  unfold upS at h
  split at h
  · have h' := upF_neg h
    have a := of_decide_eq_false h'.1
    have b := of_decide_eq_true h'.2
    rw [Rat.not_lt] at a
    grind
  · have h' := upF_neg h
    have a := of_decide_eq_false h'.1
    have b := of_decide_eq_true h'.2
    rw [Rat.not_le] at a
    grind
/-- What a way counts, in both tellings, however what is at the height counts. -/
theorem cntS_same {st : Bool} {q r : Rat} {g : Sg} : cntS st q r g = if pkR r st g ≠ 0 ∧ riR q r g = true then pkR r st g else 0 := by
  rw [pkR_up]
  unfold cntS passF
  have hri : upS st r g ≠ 0 → (riR q r g = true ↔ sideR (g.1.1 : Rat) (g.1.2 : Rat) (g.2.1 : Rat) (g.2.2 : Rat) q r = upS st r g) := by
    intro h0
    have hb := upS_bd st r g
    unfold riR sideR
    rw [decide_eq_true_iff]
    rcases (by omega : upS st r g = 1 ∨ upS st r g = -1) with h | h
    · rw [h, right_pos (upS_one h)]
      exact (cmpQ_one _ _).symm
    · rw [h, right_neg (upS_neg h)]
      exact (cmpQ_neg _ _).symm
  by_cases h0 : upS st r g = 0
  · rw [if_neg (fun h => h.1 h0), if_neg (fun h => h.1 h0)]
  · by_cases hr : riR q r g = true
    · rw [if_pos ⟨h0, (hri h0).1 hr⟩, if_pos ⟨h0, hr⟩]
    · rw [if_neg (fun h => hr ((hri h0).2 h.2)), if_neg (fun h => hr h.2)]
theorem pkR_same {st : Bool} {r : Rat} {g : Sg} (h : g.1 = g.2) : pkR r st g = 0 := by
  unfold pkR
  rw [h]
  split <;> exact pastF_self _
theorem sumR_step {st : Bool} {q r : Rat} {g : Sg} {l : List Sg} {s : Int} : sumR q r st (g :: l) s = if mayS g = false ∨ g.1 = g.2 ∨ onS q r g = true then sumR q r st l s else sumR q r st l (s + cntS st q r g) := by
  rw [sumR]
  by_cases h1 : mayS g = false
  · rw [if_pos h1, if_pos (Or.inl h1)]
  · rw [if_neg h1]
    by_cases h2 : onS q r g = true
    · rw [if_pos h2, if_pos (Or.inr (Or.inr h2))]
    · rw [if_neg h2, cntS_same]
      by_cases h3 : g.1 = g.2
      · rw [if_pos (Or.inr (Or.inl h3)), pkR_same h3, if_neg (fun h => h.1 rfl)]
      · have n0 : ¬ (mayS g = false ∨ g.1 = g.2 ∨ onS q r g = true) := fun h => h.elim h1 (fun h => h.elim h3 h2)
        rw [if_neg n0]
        by_cases h4 : pkR r st g ≠ 0 ∧ riR q r g = true
        · rw [if_pos h4, if_pos h4]
        · rw [if_neg h4, if_neg h4, Int.add_zero]
theorem sumR_bd {st : Bool} {q r : Rat} (l : List Sg) (s k : Int) (h1 : -k ≤ s) (h2 : s ≤ k) : -((l.length : Int) + k) ≤ sumR q r st l s ∧ sumR q r st l s ≤ (l.length : Int) + k := by
  induction l generalizing s k with
  | nil => simp only [sumR, List.length_nil]; omega
  | cons g t ih =>
    rw [sumR_step]
    have hc := cntS_bd st q r g
    simp only [List.length_cons]
    split
    · have := ih s k h1 h2; omega
    · have := ih (s + cntS st q r g) (k + 1) (by omega) (by omega); omega
/-- What lies along an edge, counted; none: there is something across. -/
def besL (x y q r : Rat) : List Sg → Int → Option Int
  | [], o => some o
  | g :: l, o => if mayS g = false ∨ g.1 = g.2 ∨ onS q r g = false then besL x y q r l o else if alS x y q r g = false then none else besL x y q r l (o + pkR r false g)
theorem besL_drop {x y q r : Rat} {l : List Sg} {j : Nat} {o : Int} (h : j < l.length) : besL x y q r (l.drop j) o = if mayS l[j] = false ∨ l[j].1 = l[j].2 ∨ onS q r l[j] = false then besL x y q r (l.drop (j + 1)) o else if alS x y q r l[j] = false then none else besL x y q r (l.drop (j + 1)) (o + pkR r false l[j]) := by
  rw [List.drop_eq_getElem_cons h]
  rfl
theorem gath_off {x y q r : Rat} (l : List Sg) (s o : Int) : gathF x y q r false l (s + o) s = match besL x y q r l o with | none => (0, 0, false) | some p => (sumR q r false l s + p, sumR q r false l s, true) := by
  induction l generalizing s o with
  | nil => rfl
  | cons g t ih =>
    rw [sumR_step, gathF, besL]
    by_cases h1 : mayS g = false
    · simp only [h1, true_or, ↓reduceIte]; exact ih s o
    · by_cases h2 : g.1 = g.2
      · simp only [h2, true_or, or_true, ↓reduceIte]; exact ih s o
      · cases h3 : onS q r g
        · simp only [h1, h2, or_true, or_self, false_or, reduceCtorEq, ↓reduceIte]
          have e : s + o + cntS false q r g = s + cntS false q r g + o := by omega
          rw [e]
          exact ih _ o
        · cases h4 : alS x y q r g
          · simp only [h1, h2, or_true, or_self, false_or, reduceCtorEq, ↓reduceIte]
          · simp only [h1, h2, or_true, or_self, false_or, reduceCtorEq, ↓reduceIte]
            rw [pkR_up, Int.add_assoc]
            exact ih s _
theorem gath_on {x y q r : Rat} (l : List Sg) (s t o : Int) : gathF x y q r true l s t = match besL x y q r l o with | none => (0, 0, false) | some _ => (sumR q r false l s, sumR q r true l t, true) := by
  induction l generalizing s t o with
  | nil => rfl
  | cons g l ih =>
    rw [sumR_step, sumR_step, gathF, besL]
    by_cases h1 : mayS g = false
    · simp only [h1, true_or, ↓reduceIte]; exact ih s t o
    · by_cases h2 : g.1 = g.2
      · simp only [h2, true_or, or_true, ↓reduceIte]; exact ih s t o
      · cases h3 : onS q r g
        · simp only [h1, h2, or_true, or_self, false_or, reduceCtorEq, ↓reduceIte]
          exact ih _ _ o
        · cases h4 : alS x y q r g
          · simp only [h1, h2, or_true, or_self, false_or, reduceCtorEq, ↓reduceIte]
          · simp only [h1, h2, or_true, or_self, false_or, reduceCtorEq, ↓reduceIte]
            exact ih s t _
/-- The turns on both sides: the code's telling. -/
def besV (cs cx cy : Int) (R : Int × Int × Bool) : Int × Int × Bool := if cs = 0 then (0, 0, false) else if R.2.2 = false then (0, 0, false) else if cy < 0 ∨ (cy = 0 ∧ cx < 0) then (R.1, R.2.1, true) else (R.2.1, R.1, true)
/-- The document's telling. -/
def besD (cs cy : Int) (p : Option Int) (s0 s1 : Int) : Int × Int × Bool := if cs = 0 then (0, 0, false) else match p with
  | none => (0, 0, false)
  | some p => if (cs < 0 ∧ cy = 0) ∨ cy < 0 then (if cy = 0 then s0 else s0 + p, if cy = 0 then s1 else s0, true) else (if cy = 0 then s1 else s0, if cy = 0 then s0 else s0 + p, true)
def retB (z : Int × Int × Bool) : Ending := .returned (.tuple #[.int .i64 z.1, .int .i64 z.2.1, .bool z.2.2])
/-- The answer. -/
def besA (x1 y1 x2 y2 : Rat) (l : List Sg) : Int × Int × Bool := besV (cmpS x1 y1 x2 y2) (cmpQ x1 x2) (cmpQ y1 y2) (gathF x1 y1 ((x1 + x2) * mkRat 1 2) ((y1 + y2) * mkRat 1 2) (cmpQ y1 y2 == 0) l 0 0)
theorem besA_D (x1 y1 x2 y2 : Rat) (l : List Sg) : besA x1 y1 x2 y2 l = besD (cmpS x1 y1 x2 y2) (cmpQ y1 y2) (besL x1 y1 ((x1 + x2) * mkRat 1 2) ((y1 + y2) * mkRat 1 2) l 0) (sumR ((x1 + x2) * mkRat 1 2) ((y1 + y2) * mkRat 1 2) false l 0) (sumR ((x1 + x2) * mkRat 1 2) ((y1 + y2) * mkRat 1 2) true l 0) := by
  unfold besA besV besD
  have hcs : cmpS x1 y1 x2 y2 = if cmpQ x1 x2 ≠ 0 then cmpQ x1 x2 else cmpQ y1 y2 := rfl
  generalize (x1 + x2) * mkRat 1 2 = q
  generalize (y1 + y2) * mkRat 1 2 = r
  by_cases h0 : cmpS x1 y1 x2 y2 = 0
  · rw [if_pos h0, if_pos h0]
  · rw [if_neg h0, if_neg h0]
    by_cases hy : cmpQ y1 y2 = 0
    · have e : (cmpQ y1 y2 == 0) = true := by simp [hy]
      rw [e, gath_on l 0 0 0]
      have hx : cmpS x1 y1 x2 y2 = cmpQ x1 x2 := by
        rw [hcs]
        split
        · rfl
        · omega
      rw [hx, hy]
      cases besL x1 y1 q r l 0 with
      | none => rfl
      | some p =>
        by_cases hx2 : cmpQ x1 x2 < 0
        · simp [hx2]
        · simp [hx2]
    · have e : (cmpQ y1 y2 == 0) = false := by simp [hy]
      have g := gath_off (x := x1) (y := y1) (q := q) (r := r) l 0 0
      rw [Int.add_zero] at g
      rw [e, g]
      cases besL x1 y1 q r l 0 with
      | none => rfl
      | some p =>
        by_cases hy2 : cmpQ y1 y2 < 0
        · simp [hy, hy2]
        · simp [hy, hy2]
set_option maxRecDepth 100000 in
set_option maxHeartbeats 8000000 in
theorem tu_Beside {bx1 by1 : Bool} {ax1 dx1 ay1 dy1 : Option Addr} {nx1 cx1 mx1 kx1 ny1 cy1 my1 ky1 : Nat} {x1 y1 : Rat} {bx2 by2 : Bool} {ax2 dx2 ay2 dy2 : Option Addr} {nx2 cx2 mx2 kx2 ny2 cy2 my2 ky2 : Nat} {x2 y2 : Rat} {N : Nat} (sa : Option Addr) (sn sc : Nat) (l : List Sg) (w : World) (h : SlG w sa sn sc l) (hx1 : Fq w bx1 ax1 nx1 cx1 dx1 mx1 kx1 x1 N) (hy1 : Fq w by1 ay1 ny1 cy1 dy1 my1 ky1 y1 N) (hx2 : Fq w bx2 ax2 nx2 cx2 dx2 mx2 kx2 x2 N) (hy2 : Fq w by2 ay2 ny2 cy2 dy2 my2 ky2 y2 N) (hN : N ≤ 1073741824) (hN1 : 2 ≤ N) (hsn : sn ≤ 4194304) :
    Calls Tryz.prog 14 #[.slice sa sn sc, .agg #[.bool bx1, .slice ax1 nx1 cx1, .slice dx1 mx1 kx1, .bool by1, .slice ay1 ny1 cy1, .slice dy1 my1 ky1, .bool bx2, .slice ax2 nx2 cx2, .slice dx2 mx2 kx2, .bool by2, .slice ay2 ny2 cy2, .slice dy2 my2 ky2]] w fun e w' => e = .returned (.tuple #[.int .i64 (besA x1 y1 x2 y2 l).1, .int .i64 (besA x1 y1 x2 y2 l).2.1, .bool (besA x1 y1 x2 y2 l).2.2]) ∧ Ext w w' := by
 have H := hidP h; have X1 := hidP hx1; have Y1 := hidP hy1; have X2 := hidP hx2; have Y2 := hidP hy2
 have q1 := ql_mul (ql_add (hx1.ql (by omega)) (hx2.ql (by omega))) ql_half2 (by omega)
 have q2 := ql_mul (ql_add (hy1.ql (by omega)) (hy2.ql (by omega))) ql_half2 (by omega)
 have L1 := hidP (Nat.le_trans q1 (show N + N + 1 + 1 ≤ 4 * N by omega)); have L2 := hidP (Nat.le_trans q2 (show N + N + 1 + 1 ≤ 4 * N by omega))
 have A1 := hidP (fun u (t1 : Fq u bx1 ax1 nx1 cx1 dx1 mx1 kx1 x1 N) (t2 : Fq u by1 ay1 ny1 cy1 dy1 my1 ky1 y1 N) (t3 : Fq u bx2 ax2 nx2 cx2 dx2 mx2 kx2 x2 N) (t4 : Fq u by2 ay2 ny2 cy2 dy2 my2 ky2 y2 N) => sp_Same u t1 t2 t3 t4 (by omega))
 have A2 := hidP (fun u (t1 : Fq u bx1 ax1 nx1 cx1 dx1 mx1 kx1 x1 N) (t2 : Fq u by1 ay1 ny1 cy1 dy1 my1 ky1 y1 N) (t3 : Fq u bx2 ax2 nx2 cx2 dx2 mx2 kx2 x2 N) (t4 : Fq u by2 ay2 ny2 cy2 dy2 my2 ky2 y2 N) => sp_Mid u t1 t2 t3 t4 (by omega) (by omega))
 have A3 := hidP (fun u {g1 g2 : Bool} {e1 f1 e2 f2 : Option Addr} {i1 j1 p1 o1 i2 j2 p2 o2 : Nat} (t0 : SlG u sa sn sc l) (t1 : Fq u bx1 ax1 nx1 cx1 dx1 mx1 kx1 x1 N) (t2 : Fq u by1 ay1 ny1 cy1 dy1 my1 ky1 y1 N) (t3 : Fq u bx2 ax2 nx2 cx2 dx2 mx2 kx2 x2 N) (t4 : Fq u by2 ay2 ny2 cy2 dy2 my2 ky2 y2 N) (t5 : Fq u g1 e1 i1 j1 f1 p1 o1 ((x1 + x2) * mkRat 1 2) (4 * N)) (t6 : Fq u g2 e2 i2 j2 f2 p2 o2 ((y1 + y2) * mkRat 1 2) (4 * N)) => tu_gather sa sn sc l u t0 (t1.mono (by omega)) (t2.mono (by omega)) (t3.mono (by omega)) (t4.mono (by omega)) t5 t6 (by omega) (by omega) hsn)
 have A4 := hidP (fun u (t2 : Fq u by1 ay1 ny1 cy1 dy1 my1 ky1 y1 N) (t4 : Fq u by2 ay2 ny2 cy2 dy2 my2 ky2 y2 N) => fq_Cmp t2 t4 (by omega) (by omega))
 have A5 := hidP (fun u (t1 : Fq u bx1 ax1 nx1 cx1 dx1 mx1 kx1 x1 N) (t3 : Fq u bx2 ax2 nx2 cx2 dx2 mx2 kx2 x2 N) => fq_Cmp t1 t3 (by omega) (by omega))
 have hb1 := cmpQ_bd x1 x2; have hb2 := cmpQ_bd y1 y2
 unfold besA
 generalize (x1 + x2) * mkRat 1 2 = q at *
 generalize (y1 + y2) * mkRat 1 2 = r at *
 generalize hR : gathF x1 y1 q r (cmpQ y1 y2 == 0) l 0 0 = R at *
 clear hR
 obtain ⟨R1, R2, R3⟩ := R
 simp only [] at A3
 generalize cmpS x1 y1 x2 y2 = cs at *
 generalize cmpQ x1 x2 = cx at *
 generalize cmpQ y1 y2 = cy at *
 clear h hx1 hy1 hx2 hy2 q1 q2
 cases hcs : (cs == 0)
 · have hne : ¬ cs = 0 := by simpa using hcs
   go_enter Tryz.func14, Tryz.ntmps14
   go_wp2_with fail
   refine absC (fun x41 hx41 => ?_)
   have hx : Ext w x41 := by rw [hx41]; exact ((Ext.refl _).alloc _)
   have be : Bl x41 (w.heap.size) #[.bool bx1, .slice ax1 nx1 cx1, .slice dx1 mx1 kx1, .bool by1, .slice ay1 ny1 cy1, .slice dy1 my1 ky1, .bool bx2, .slice ax2 nx2 cx2, .slice dx2 mx2 kx2, .bool by2, .slice ay2 ny2 cy2, .slice dy2 my2 ky2] := by rw [hx41]; exact (Bl.new (by simp))
   have HE := hx
   clear hx
   clear hx41
   refine (A1.out _ (X1.out.ext HE) (Y1.out.ext HE) (X2.out.ext HE) (Y2.out.ext HE)).mono ?_
   rintro e u91 ⟨rfl, hx⟩
   replace be := q1b hx be
   replace HE := HE.trans hx
   clear hx
   go_wp2_with fail
   go_cut [7, 8] (fun v7 v8 wx => ∃ (g7 : Nat), v7 = .pointer (some ⟨g7, 0, none⟩) ∧ v8 = .bool R3 ∧ Bl wx g7 #[.int .i64 R1, .int .i64 R2] ∧ Ext u91 wx)
   case first =>
    have HC := Ext.refl u91
    have loe := be.lt (Nat.succ_pos _)
    have hlo : u91.heap.size ≤ u91.heap.size := Nat.le_refl _
    refine wp_region_plan (R := Below u91.heap.size) (.q 0 (.q 1 (.q 2 (.q 3 (.q 4 (.q 5 (.br 6 (.br 7 (.q 8 (.q 9 (.q 10 (.l 11 (.l 12 (.q 13 .done)))))) (.l 11 (.l 7 (.q 8 (.q 9 (.q 10 (.l 12 (.q 13 .done)))))))) (.l 11 (.l 6 (.l 7 (.q 8 (.q 9 (.q 10 (.l 12 (.q 13 .done))))))))))))))) (by kernel_rfl) (by kernel_rfl) (by kernel_rfl) (by kernel_rfl) (Below.refl _) (fun _ _ _ => Below.trans) ?_
    refine absE (fun x42 hx42 => ?_)
    have hx : Ext u91 x42 := by rw [hx42]; exact (Ext.refl _).drew
    replace hlo := Nat.le_trans hlo hx.size
    replace be := q1b hx be
    replace HC := HC.trans hx
    replace HE := HE.trans hx
    clear hx
    clear hx42
    repeat (refine wpE_q (v := ?_) rfl rfl (fun u hu => ?_) ?_; rotate_left 1; (focus (have ke := Bl.low hu be loe; go_simp; (try rfl))); simp only [PU])
    refine wpE_br rfl rfl (fun K hK => ?_) ?_
    · go_simp
      refine (A2.out _ (X1.out.ext HE) (Y1.out.ext HE) (X2.out.ext HE) (Y2.out.ext HE)).mono ?_
      rintro e u92 ⟨a1, n1, c1, d1, m1, k1, a2, n2, c2, d2, m2, k2, rfl, hs1, ht1, hs2, ht2, hx⟩
      refine hK.out _ _ (Below.mono hx hlo) ?_
      clear hK K
      try simp only [PU]
      replace hlo := Nat.le_trans hlo hx.size
      replace be := q1b hx be
      replace HC := HC.trans hx
      replace HE := HE.trans hx
      clear hx
      refine wpE_br rfl rfl (fun K hK => ?_) ?_
      · go_simp
        refine (A3.out _ (H.out.ext HE) (X1.out.ext HE) (Y1.out.ext HE) (X2.out.ext HE) (Y2.out.ext HE) (fq_of hs1 ht1 L1.out (by omega)) (fq_of hs2 ht2 L2.out (by omega))).mono ?_
        rintro e u93 ⟨rfl, hx⟩
        refine hK.out _ _ (Below.mono hx hlo) ?_
        clear hK K
        try simp only [PU]
        replace hlo := Nat.le_trans hlo hx.size
        replace be := q1b hx be
        replace hs1 := hs1.ext hx
        replace ht1 := ht1.ext hx
        replace hs2 := hs2.ext hx
        replace ht2 := ht2.ext hx
        replace HC := HC.trans hx
        replace HE := HE.trans hx
        clear hx
        clear hs1 ht1 hs2 ht2
        repeat (refine wpE_q (v := ?_) rfl rfl (fun u hu => ?_) ?_; rotate_left 1; (focus (have ke := Bl.low hu be loe; go_simp; (try rfl))); simp only [PU])
        refine wpE_l rfl rfl (fun K hK => ?_)
        go_simp
        refine hK.out _ _ ((Below.refl _ _).alloc hlo _) ?_
        clear hK K
        try simp only [PU]
        have ges := hlo
        have les := be.lt (Nat.succ_pos _)
        have l0s := HE.size
        refine absE (fun x43 hx43 => ?_)
        have hx : Ext u93 x43 := by rw [hx43]; exact ((Ext.refl _).alloc _)
        have bs : Bl x43 (u93.heap.size) #[.int .i64 0, .int .i64 0] := by rw [hx43]; exact (Bl.new (by simp))
        have fs : Fz x43 (u93.heap.size) := by rw [hx43]; exact (Fz.new (by simp))
        replace hlo := Nat.le_trans hlo hx.size
        replace be := q1b hx be
        replace HC := HC.trans hx
        replace HE := HE.trans hx
        clear hx
        clear hx43
        refine wpE_l rfl rfl (fun K hK => ?_)
        go_simp
        have hle : u91.heap.size ≤ u93.heap.size := by omega
        refine hK.out _ _ (((Below.refl _ _).setCell hle _).setCell hle _) ?_
        clear hK K hle
        try simp only [PU]
        refine absE (fun x44 hx44 => ?_)
        have hbut : But x43 x44 (u93.heap.size) := by rw [hx44]; exact (But.refl _ _).store.store
        have hbn : Bl x44 (u93.heap.size) #[.int .i64 R1, .int .i64 R2] := by rw [hx44]; exact (Bl.set (Bl.set bs (by simp)) (by simp))
        replace be := But.bl hbut be (Nat.succ_pos _) (by omega)
        replace fs : Fz x44 (u93.heap.size) := by rw [hx44]; exact (Fz.set (Fz.set fs))
        have hle : w.heap.size ≤ u93.heap.size := by omega
        replace HE : Ext w x44 := by rw [hx44]; exact ((HE.store hle _).store hle _)
        clear hle
        have hle : u91.heap.size ≤ u93.heap.size := by omega
        replace HC : Ext u91 x44 := by rw [hx44]; exact ((HC.store hle _).store hle _)
        clear hle
        replace hlo : u91.heap.size ≤ x44.heap.size := Nat.le_trans hlo hbut.1
        clear bs hbut hx44
        have bs := hbn
        clear hbn
        repeat (refine wpE_q (v := ?_) rfl rfl (fun u hu => ?_) ?_; rotate_left 1; (focus (have ke := Bl.low hu be loe; go_simp; (try rfl))); simp only [PU])
        refine wpE_done ?_
        clear hlo
        go_wp2_with fail
        go_meet
        exact ⟨u93.heap.size, rfl, rfl, bs, HC⟩
      refine wpE_l rfl rfl (fun K hK => ?_)
      go_simp
      refine hK.out _ _ ((Below.refl _ _).alloc hlo _) ?_
      clear hK K
      try simp only [PU]
      have ges := hlo
      have les := be.lt (Nat.succ_pos _)
      have l0s := HE.size
      refine absE (fun x43 hx43 => ?_)
      have hx : Ext u92 x43 := by rw [hx43]; exact ((Ext.refl _).alloc _)
      have bs : Bl x43 (u92.heap.size) #[.int .i64 0, .int .i64 0] := by rw [hx43]; exact (Bl.new (by simp))
      have fs : Fz x43 (u92.heap.size) := by rw [hx43]; exact (Fz.new (by simp))
      replace hlo := Nat.le_trans hlo hx.size
      replace be := q1b hx be
      replace hs1 := hs1.ext hx
      replace ht1 := ht1.ext hx
      replace hs2 := hs2.ext hx
      replace ht2 := ht2.ext hx
      replace HC := HC.trans hx
      replace HE := HE.trans hx
      clear hx
      clear hx43
      refine wpE_l rfl rfl (fun K hK => ?_)
      go_simp
      refine (A3.out _ (H.out.ext HE) (X1.out.ext HE) (Y1.out.ext HE) (X2.out.ext HE) (Y2.out.ext HE) (fq_of hs1 ht1 L1.out (by omega)) (fq_of hs2 ht2 L2.out (by omega))).mono ?_
      rintro e u93 ⟨rfl, hx⟩
      refine hK.out _ _ (Below.mono hx hlo) ?_
      clear hK K
      try simp only [PU]
      replace hlo := Nat.le_trans hlo hx.size
      replace be := q1b hx be
      replace fs := q1f hx fs bs
      replace bs := q1b hx bs
      replace hs1 := hs1.ext hx
      replace ht1 := ht1.ext hx
      replace hs2 := hs2.ext hx
      replace ht2 := ht2.ext hx
      replace HC := HC.trans hx
      replace HE := HE.trans hx
      clear hx
      clear hs1 ht1 hs2 ht2
      repeat (refine wpE_q (v := ?_) rfl rfl (fun u hu => ?_) ?_; rotate_left 1; (focus (have ke := Bl.low hu be loe; go_simp; (try rfl))); simp only [PU])
      refine wpE_l rfl rfl (fun K hK => ?_)
      go_simp
      have hle : u91.heap.size ≤ u92.heap.size := by omega
      refine hK.out _ _ (((Below.refl _ _).setCell hle _).setCell hle _) ?_
      clear hK K hle
      try simp only [PU]
      refine absE (fun x44 hx44 => ?_)
      have hbut : But u93 x44 (u92.heap.size) := by rw [hx44]; exact (But.refl _ _).store.store
      have hbn : Bl x44 (u92.heap.size) #[.int .i64 R1, .int .i64 R2] := by rw [hx44]; exact (Bl.set (Bl.set bs (by simp)) (by simp))
      replace be := But.bl hbut be (Nat.succ_pos _) (by omega)
      replace fs : Fz x44 (u92.heap.size) := by rw [hx44]; exact (Fz.set (Fz.set fs))
      have hle : w.heap.size ≤ u92.heap.size := by omega
      replace HE : Ext w x44 := by rw [hx44]; exact ((HE.store hle _).store hle _)
      clear hle
      have hle : u91.heap.size ≤ u92.heap.size := by omega
      replace HC : Ext u91 x44 := by rw [hx44]; exact ((HC.store hle _).store hle _)
      clear hle
      replace hlo : u91.heap.size ≤ x44.heap.size := Nat.le_trans hlo hbut.1
      clear bs hbut hx44
      have bs := hbn
      clear hbn
      repeat (refine wpE_q (v := ?_) rfl rfl (fun u hu => ?_) ?_; rotate_left 1; (focus (have ke := Bl.low hu be loe; go_simp; (try rfl))); simp only [PU])
      refine wpE_done ?_
      clear hlo
      go_wp2_with fail
      go_meet
      exact ⟨u92.heap.size, rfl, rfl, bs, HC⟩
    refine wpE_l rfl rfl (fun K hK => ?_)
    go_simp
    refine hK.out _ _ ((Below.refl _ _).alloc hlo _) ?_
    clear hK K
    try simp only [PU]
    have ges := hlo
    have les := be.lt (Nat.succ_pos _)
    have l0s := HE.size
    refine absE (fun x43 hx43 => ?_)
    have hx : Ext x42 x43 := by rw [hx43]; exact ((Ext.refl _).alloc _)
    have bs : Bl x43 (x42.heap.size) #[.int .i64 0, .int .i64 0] := by rw [hx43]; exact (Bl.new (by simp))
    have fs : Fz x43 (x42.heap.size) := by rw [hx43]; exact (Fz.new (by simp))
    replace hlo := Nat.le_trans hlo hx.size
    replace be := q1b hx be
    replace HC := HC.trans hx
    replace HE := HE.trans hx
    clear hx
    clear hx43
    refine wpE_l rfl rfl (fun K hK => ?_)
    go_simp
    refine (A2.out _ (X1.out.ext HE) (Y1.out.ext HE) (X2.out.ext HE) (Y2.out.ext HE)).mono ?_
    rintro e u92 ⟨a1, n1, c1, d1, m1, k1, a2, n2, c2, d2, m2, k2, rfl, hs1, ht1, hs2, ht2, hx⟩
    refine hK.out _ _ (Below.mono hx hlo) ?_
    clear hK K
    try simp only [PU]
    replace hlo := Nat.le_trans hlo hx.size
    replace be := q1b hx be
    replace fs := q1f hx fs bs
    replace bs := q1b hx bs
    replace HC := HC.trans hx
    replace HE := HE.trans hx
    clear hx
    refine wpE_l rfl rfl (fun K hK => ?_)
    go_simp
    refine (A3.out _ (H.out.ext HE) (X1.out.ext HE) (Y1.out.ext HE) (X2.out.ext HE) (Y2.out.ext HE) (fq_of hs1 ht1 L1.out (by omega)) (fq_of hs2 ht2 L2.out (by omega))).mono ?_
    rintro e u93 ⟨rfl, hx⟩
    refine hK.out _ _ (Below.mono hx hlo) ?_
    clear hK K
    try simp only [PU]
    replace hlo := Nat.le_trans hlo hx.size
    replace be := q1b hx be
    replace fs := q1f hx fs bs
    replace bs := q1b hx bs
    replace hs1 := hs1.ext hx
    replace ht1 := ht1.ext hx
    replace hs2 := hs2.ext hx
    replace ht2 := ht2.ext hx
    replace HC := HC.trans hx
    replace HE := HE.trans hx
    clear hx
    clear hs1 ht1 hs2 ht2
    repeat (refine wpE_q (v := ?_) rfl rfl (fun u hu => ?_) ?_; rotate_left 1; (focus (have ke := Bl.low hu be loe; go_simp; (try rfl))); simp only [PU])
    refine wpE_l rfl rfl (fun K hK => ?_)
    go_simp
    have hle : u91.heap.size ≤ x42.heap.size := by omega
    refine hK.out _ _ (((Below.refl _ _).setCell hle _).setCell hle _) ?_
    clear hK K hle
    try simp only [PU]
    refine absE (fun x44 hx44 => ?_)
    have hbut : But u93 x44 (x42.heap.size) := by rw [hx44]; exact (But.refl _ _).store.store
    have hbn : Bl x44 (x42.heap.size) #[.int .i64 R1, .int .i64 R2] := by rw [hx44]; exact (Bl.set (Bl.set bs (by simp)) (by simp))
    replace be := But.bl hbut be (Nat.succ_pos _) (by omega)
    replace fs : Fz x44 (x42.heap.size) := by rw [hx44]; exact (Fz.set (Fz.set fs))
    have hle : w.heap.size ≤ x42.heap.size := by omega
    replace HE : Ext w x44 := by rw [hx44]; exact ((HE.store hle _).store hle _)
    clear hle
    have hle : u91.heap.size ≤ x42.heap.size := by omega
    replace HC : Ext u91 x44 := by rw [hx44]; exact ((HC.store hle _).store hle _)
    clear hle
    replace hlo : u91.heap.size ≤ x44.heap.size := Nat.le_trans hlo hbut.1
    clear bs hbut hx44
    have bs := hbn
    clear hbn
    repeat (refine wpE_q (v := ?_) rfl rfl (fun u hu => ?_) ?_; rotate_left 1; (focus (have ke := Bl.low hu be loe; go_simp; (try rfl))); simp only [PU])
    refine wpE_done ?_
    clear hlo
    go_wp2_with fail
    go_meet
    exact ⟨x42.heap.size, rfl, rfl, bs, HC⟩
   obtain ⟨g7, rfl, rfl, bs, hx⟩ := hcut
   replace be := q1b hx be
   replace HE := HE.trans hx
   clear hx
   cases R3
   · have HRR := hidP (show besV cs cx cy (R1, R2, false) = (0, 0, false) by unfold besV; rw [if_neg hne, if_pos rfl])
     go_wp2_with fail
     go_ret3
     exact ⟨congrArg retB HRR.out.symm, HE⟩
   rcases hb2 with h2 | h2 | h2 <;> subst h2
   · have HRR := hidP (show besV cs cx (-1) (R1, R2, true) = (R1, R2, true) by unfold besV; rw [if_neg hne, if_neg (by simp), if_pos (by omega)])
     go_wp2_with fail
     refine (A4.out _ (Y1.out.ext HE) (Y2.out.ext HE)).mono ?_
     rintro e u94 ⟨rfl, hx⟩
     replace be := q1b hx be
     replace bs := q1b hx bs
     replace HE := HE.trans hx
     clear hx
     go_wp2_with fail
     refine wp_region_plan (R := Ext) (.q 0 (.q 1 (.q 2 (.q 3 (.q 4 (.q 5 (.q 6 (.q 7 (.q 8 .done))))))))) (by kernel_rfl) (by kernel_rfl) (by kernel_rfl) (by kernel_rfl) Ext.refl (fun _ _ _ => Ext.trans) ?_
     refine absE (fun x42 hx42 => ?_)
     have hx : Ext u94 x42 := by rw [hx42]; exact (Ext.refl _).drew
     replace be := q1b hx be
     replace bs := q1b hx bs
     replace HE := HE.trans hx
     clear hx
     clear hx42
     repeat (refine wpE_q (v := ?_) rfl rfl (fun u hu => ?_) ?_; rotate_left 1; (focus (have ke := q1b hu be; have ks := q1b hu bs; go_simp; (try rfl))); simp only [PU])
     refine wpE_done ?_
     go_wp2_with fail
     go_ret3
     exact ⟨congrArg retB HRR.out.symm, HE⟩
   · rcases hb1 with h1 | h1 | h1
     · subst h1
       have HRR := hidP (show besV cs (-1) (0) (R1, R2, true) = (R1, R2, true) by unfold besV; rw [if_neg hne, if_neg (by simp), if_pos (by omega)])
       go_wp2_with fail
       refine (A4.out _ (Y1.out.ext HE) (Y2.out.ext HE)).mono ?_
       rintro e u94 ⟨rfl, hx⟩
       replace be := q1b hx be
       replace bs := q1b hx bs
       replace HE := HE.trans hx
       clear hx
       go_wp2_with fail
       refine (A5.out _ (X1.out.ext HE) (X2.out.ext HE)).mono ?_
       rintro e u95 ⟨rfl, hx⟩
       replace be := q1b hx be
       replace bs := q1b hx bs
       replace HE := HE.trans hx
       clear hx
       go_wp2_with fail
       refine wp_region_plan (R := Ext) (.q 0 (.q 1 (.q 2 (.q 3 (.q 4 (.q 5 (.q 6 (.q 7 (.q 8 .done))))))))) (by kernel_rfl) (by kernel_rfl) (by kernel_rfl) (by kernel_rfl) Ext.refl (fun _ _ _ => Ext.trans) ?_
       refine absE (fun x42 hx42 => ?_)
       have hx : Ext u95 x42 := by rw [hx42]; exact (Ext.refl _).drew
       replace be := q1b hx be
       replace bs := q1b hx bs
       replace HE := HE.trans hx
       clear hx
       clear hx42
       repeat (refine wpE_q (v := ?_) rfl rfl (fun u hu => ?_) ?_; rotate_left 1; (focus (have ke := q1b hu be; have ks := q1b hu bs; go_simp; (try rfl))); simp only [PU])
       refine wpE_done ?_
       go_wp2_with fail
       go_ret3
       exact ⟨congrArg retB HRR.out.symm, HE⟩
     · subst h1
       have HRR := hidP (show besV cs (0) (0) (R1, R2, true) = (R2, R1, true) by unfold besV; rw [if_neg hne, if_neg (by simp), if_neg (by omega)])
       go_wp2_with fail
       refine (A4.out _ (Y1.out.ext HE) (Y2.out.ext HE)).mono ?_
       rintro e u94 ⟨rfl, hx⟩
       replace be := q1b hx be
       replace bs := q1b hx bs
       replace HE := HE.trans hx
       clear hx
       go_wp2_with fail
       refine (A5.out _ (X1.out.ext HE) (X2.out.ext HE)).mono ?_
       rintro e u95 ⟨rfl, hx⟩
       replace be := q1b hx be
       replace bs := q1b hx bs
       replace HE := HE.trans hx
       clear hx
       go_wp2_with fail
       refine wp_region_plan (R := Ext) (.q 0 (.q 1 (.q 2 (.q 3 (.q 4 (.q 5 (.q 6 (.q 7 (.q 8 .done))))))))) (by kernel_rfl) (by kernel_rfl) (by kernel_rfl) (by kernel_rfl) Ext.refl (fun _ _ _ => Ext.trans) ?_
       refine absE (fun x42 hx42 => ?_)
       have hx : Ext u95 x42 := by rw [hx42]; exact (Ext.refl _).drew
       replace be := q1b hx be
       replace bs := q1b hx bs
       replace HE := HE.trans hx
       clear hx
       clear hx42
       repeat (refine wpE_q (v := ?_) rfl rfl (fun u hu => ?_) ?_; rotate_left 1; (focus (have ke := q1b hu be; have ks := q1b hu bs; go_simp; (try rfl))); simp only [PU])
       refine wpE_done ?_
       go_wp2_with fail
       go_ret3
       exact ⟨congrArg retB HRR.out.symm, HE⟩
     subst h1
     have HRR := hidP (show besV cs (1) (0) (R1, R2, true) = (R2, R1, true) by unfold besV; rw [if_neg hne, if_neg (by simp), if_neg (by omega)])
     go_wp2_with fail
     refine (A4.out _ (Y1.out.ext HE) (Y2.out.ext HE)).mono ?_
     rintro e u94 ⟨rfl, hx⟩
     replace be := q1b hx be
     replace bs := q1b hx bs
     replace HE := HE.trans hx
     clear hx
     go_wp2_with fail
     refine (A5.out _ (X1.out.ext HE) (X2.out.ext HE)).mono ?_
     rintro e u95 ⟨rfl, hx⟩
     replace be := q1b hx be
     replace bs := q1b hx bs
     replace HE := HE.trans hx
     clear hx
     go_wp2_with fail
     refine wp_region_plan (R := Ext) (.q 0 (.q 1 (.q 2 (.q 3 (.q 4 (.q 5 (.q 6 (.q 7 (.q 8 .done))))))))) (by kernel_rfl) (by kernel_rfl) (by kernel_rfl) (by kernel_rfl) Ext.refl (fun _ _ _ => Ext.trans) ?_
     refine absE (fun x42 hx42 => ?_)
     have hx : Ext u95 x42 := by rw [hx42]; exact (Ext.refl _).drew
     replace be := q1b hx be
     replace bs := q1b hx bs
     replace HE := HE.trans hx
     clear hx
     clear hx42
     repeat (refine wpE_q (v := ?_) rfl rfl (fun u hu => ?_) ?_; rotate_left 1; (focus (have ke := q1b hu be; have ks := q1b hu bs; go_simp; (try rfl))); simp only [PU])
     refine wpE_done ?_
     go_wp2_with fail
     go_ret3
     exact ⟨congrArg retB HRR.out.symm, HE⟩
   have HRR := hidP (show besV cs cx (1) (R1, R2, true) = (R2, R1, true) by unfold besV; rw [if_neg hne, if_neg (by simp), if_neg (by omega)])
   go_wp2_with fail
   refine (A4.out _ (Y1.out.ext HE) (Y2.out.ext HE)).mono ?_
   rintro e u94 ⟨rfl, hx⟩
   replace be := q1b hx be
   replace bs := q1b hx bs
   replace HE := HE.trans hx
   clear hx
   go_wp2_with fail
   refine wp_region_plan (R := Ext) (.q 0 (.q 1 (.q 2 (.q 3 (.q 4 (.q 5 (.q 6 (.q 7 (.q 8 .done))))))))) (by kernel_rfl) (by kernel_rfl) (by kernel_rfl) (by kernel_rfl) Ext.refl (fun _ _ _ => Ext.trans) ?_
   refine absE (fun x42 hx42 => ?_)
   have hx : Ext u94 x42 := by rw [hx42]; exact (Ext.refl _).drew
   replace be := q1b hx be
   replace bs := q1b hx bs
   replace HE := HE.trans hx
   clear hx
   clear hx42
   repeat (refine wpE_q (v := ?_) rfl rfl (fun u hu => ?_) ?_; rotate_left 1; (focus (have ke := q1b hu be; have ks := q1b hu bs; go_simp; (try rfl))); simp only [PU])
   refine wpE_done ?_
   go_wp2_with fail
   go_ret3
   exact ⟨congrArg retB HRR.out.symm, HE⟩
 obtain rfl : cs = 0 := by simpa using hcs
 have hr : besV 0 cx cy (R1, R2, R3) = (0, 0, false) := if_pos rfl
 rw [hr]
 go_enter Tryz.func14, Tryz.ntmps14
 go_wp2_with fail
 refine absC (fun x41 hx41 => ?_)
 have hx : Ext w x41 := by rw [hx41]; exact ((Ext.refl _).alloc _)
 have be : Bl x41 (w.heap.size) #[.bool bx1, .slice ax1 nx1 cx1, .slice dx1 mx1 kx1, .bool by1, .slice ay1 ny1 cy1, .slice dy1 my1 ky1, .bool bx2, .slice ax2 nx2 cx2, .slice dx2 mx2 kx2, .bool by2, .slice ay2 ny2 cy2, .slice dy2 my2 ky2] := by rw [hx41]; exact (Bl.new (by simp))
 have HE := hx
 clear hx
 clear hx41
 refine (A1.out _ (X1.out.ext HE) (Y1.out.ext HE) (X2.out.ext HE) (Y2.out.ext HE)).mono ?_
 rintro e u91 ⟨rfl, hx⟩
 replace be := q1b hx be
 replace HE := HE.trans hx
 clear hx
 go_wp2_with fail
 go_ret3
 exact ⟨rfl, HE⟩
end Go.Proofs.YtgjjalnmigdjgaaGreat
