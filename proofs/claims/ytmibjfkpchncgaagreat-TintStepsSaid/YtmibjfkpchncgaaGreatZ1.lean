/- Paints: what fits, and which may be. -/
import Derived.Test.YtmibjfkpchncgaaGreatM6
import Derived.Deep.DeepCutAuto
namespace Go.Proofs.YtmibjfkpchncgaaGreat
set_option linter.unusedVariables false
set_option linter.unusedSimpArgs false
open Go Go.RowKit

/-- An int that fits the grid. -/
def fit1 (n : Int) : Bool := decide (-8388607 ≤ n ∧ n ≤ 8388607)
def fitP (x y : Int) : Bool := fit1 x && fit1 y
theorem fit1_iff {n : Int} : fit1 n = true ↔ -8388607 ≤ n ∧ n ≤ 8388607 := decide_eq_true_iff
theorem fitP_iff {x y : Int} : fitP x y = true ↔ (-8388607 ≤ x ∧ x ≤ 8388607) ∧ (-8388607 ≤ y ∧ y ≤ 8388607) := by
  unfold fitP; rw [Bool.and_eq_true, fit1_iff, fit1_iff]

theorem a_within (n : Int) (w : World) : Calls Tryz.prog 20 #[.int .i64 n, .int .i64 8388607] w fun e w' => e = .returned (.bool (fit1 n)) ∧ w = w' := by
  by_cases h1 : -8388607 ≤ n
  · by_cases h2 : n ≤ 8388607
    · have hr : fit1 n = true := fit1_iff.2 ⟨h1, h2⟩
      rw [hr]; clear hr
      go_enter Tryz.func20, Tryz.ntmps20
      go_wp2
      go_ret
      exact ⟨rfl, rfl⟩
    · have hr : fit1 n = false := by rw [Bool.eq_false_iff]; intro h; rw [fit1_iff] at h; omega
      rw [hr]; clear hr
      have h3 : decide (n ≤ 8388607) = false := decide_eq_false h2
      go_enter Tryz.func20, Tryz.ntmps20
      go_wp2
      go_ret
      exact ⟨rfl, rfl⟩
  · have hr : fit1 n = false := by rw [Bool.eq_false_iff]; intro h; rw [fit1_iff] at h; omega
    rw [hr]; clear hr
    have h3 : decide (-8388607 ≤ n) = false := decide_eq_false h1
    go_enter Tryz.func20, Tryz.ntmps20
    go_wp2
    go_ret
    exact ⟨rfl, rfl⟩
theorem a_Fits (x y : Int) (w : World) : Calls Tryz.prog 11 #[.agg #[.int .i64 x, .int .i64 y]] w fun e w' => e = .returned (.bool (fitP x y)) ∧ Ext w w' := by
  have hx := hidP (a_within x); have hy := hidP (a_within y)
  cases hfx : fit1 x
  · have hr : fitP x y = false := by unfold fitP; rw [hfx]; rfl
    rw [hr]
    rw [hfx] at hx
    clear hr hfx
    go_enter Tryz.func11, Tryz.ntmps11
    go_wp2_with fail
    refine (hx.out _).mono ?_
    rintro e w' ⟨rfl, rfl⟩
    go_wp2_with fail
    go_ret
    exact ⟨rfl, (Ext.refl _).alloc _⟩
  · have hr : fitP x y = fit1 y := by unfold fitP; rw [hfx]; rfl
    rw [hr]
    rw [hfx] at hx
    clear hr hfx
    generalize fit1 y = fy at *
    go_enter Tryz.func11, Tryz.ntmps11
    go_wp2_with fail
    refine (hx.out _).mono ?_
    rintro e w' ⟨rfl, rfl⟩
    go_wp2_with fail
    refine (hy.out _).mono ?_
    rintro e w' ⟨rfl, rfl⟩
    go_wp2_with fail
    go_ret
    exact ⟨rfl, (Ext.refl _).alloc _⟩
theorem d_Fits (x y : Int) (w : World) : Calls Tryz.prog 12 #[.agg #[.int .i64 x, .int .i64 y]] w fun e w' => e = .returned (.bool (fitP x y)) ∧ Ext w w' := by
  have key : ∀ r : Bool, fitP x y = r → (r = false ∨ ((-8388607 ≤ x ∧ x ≤ 8388607) ∧ (-8388607 ≤ y ∧ y ≤ 8388607))) := fun r h => by
    cases r
    · exact .inl rfl
    · exact .inr (fitP_iff.1 h)
  have hno : ¬ ((-8388607 ≤ x ∧ x ≤ 8388607) ∧ (-8388607 ≤ y ∧ y ≤ 8388607)) → fitP x y = false := fun h => by rw [Bool.eq_false_iff]; intro h2; exact h (fitP_iff.1 h2)
  have hyes := @fitP_iff x y
  generalize fitP x y = f at *
  have HY := hidP hyes; have HN := hidP hno
  clear key hno hyes
  by_cases h1 : -8388607 ≤ x
  · by_cases h2 : x ≤ 8388607
    · by_cases h3 : -8388607 ≤ y
      · by_cases h4 : y ≤ 8388607
        · have HR := hidP (HY.out.2 ⟨⟨h1, h2⟩, h3, h4⟩)
          go_enter Tryz.func12, Tryz.ntmps12
          go_wp2
          go_ret
          exact ⟨congrArg (fun x => Ending.returned (Value.bool x)) HR.out.symm, (Ext.refl _).alloc _⟩
        · have HR := hidP (HN.out (fun h => h4 h.2.2))
          have h5 : decide (y ≤ 8388607) = false := decide_eq_false h4
          go_enter Tryz.func12, Tryz.ntmps12
          go_wp2
          go_ret
          exact ⟨congrArg (fun x => Ending.returned (Value.bool x)) HR.out.symm, (Ext.refl _).alloc _⟩
      · have HR := hidP (HN.out (fun h => h3 h.2.1))
        have h5 : decide (-8388607 ≤ y) = false := decide_eq_false h3
        go_enter Tryz.func12, Tryz.ntmps12
        go_wp2
        go_ret
        exact ⟨congrArg (fun x => Ending.returned (Value.bool x)) HR.out.symm, (Ext.refl _).alloc _⟩
    · have HR := hidP (HN.out (fun h => h2 h.1.2))
      have h5 : decide (x ≤ 8388607) = false := decide_eq_false h2
      go_enter Tryz.func12, Tryz.ntmps12
      go_wp2
      go_ret
      exact ⟨congrArg (fun x => Ending.returned (Value.bool x)) HR.out.symm, (Ext.refl _).alloc _⟩
  · have HR := hidP (HN.out (fun h => h1 h.1.1))
    have h5 : decide (-8388607 ≤ x) = false := decide_eq_false h1
    go_enter Tryz.func12, Tryz.ntmps12
    go_wp2
    go_ret
    exact ⟨congrArg (fun x => Ending.returned (Value.bool x)) HR.out.symm, (Ext.refl _).alloc _⟩

/-- The product of what leads from one point to two others. -/
def prodP (px py ax ay bx by' : Int) : Int := (ax - px) * (bx - px) + (ay - py) * (by' - py)
theorem mul_cap {a b : Int} {A B : Int} (h1 : -A ≤ a) (h2 : a ≤ A) (h3 : -B ≤ b) (h4 : b ≤ B) (hA : 0 ≤ A) (hB : 0 ≤ B) : -(A * B) ≤ a * b ∧ a * b ≤ A * B := by
  have h5 : a.natAbs ≤ A.toNat := by omega
  have h6 : b.natAbs ≤ B.toNat := by omega
  have h7 : (a * b).natAbs ≤ A.toNat * B.toNat := by rw [Int.natAbs_mul]; exact Nat.mul_le_mul h5 h6
  have h8 : ((A.toNat * B.toNat : Nat) : Int) = A * B := by
    rw [Int.natCast_mul, Int.toNat_of_nonneg hA, Int.toNat_of_nonneg hB]
  omega
theorem prod_cap {px py ax ay bx by' : Int} (h0 : fitP px py = true) (h1 : fitP ax ay = true) (h2 : fitP bx by' = true) :
    (-281474909601796 ≤ (ax - px) * (bx - px) ∧ (ax - px) * (bx - px) ≤ 281474909601796) ∧ (-281474909601796 ≤ (ay - py) * (by' - py) ∧ (ay - py) * (by' - py) ≤ 281474909601796) := by
  obtain ⟨a1, a2⟩ := fitP_iff.1 h0
  obtain ⟨b1, b2⟩ := fitP_iff.1 h1
  obtain ⟨c1, c2⟩ := fitP_iff.1 h2
  have k1 := mul_cap (a := ax - px) (b := bx - px) (A := 16777214) (B := 16777214) (by omega) (by omega) (by omega) (by omega) (by decide) (by decide)
  have k2 := mul_cap (a := ay - py) (b := by' - py) (A := 16777214) (B := 16777214) (by omega) (by omega) (by omega) (by omega) (by decide) (by decide)
  omega

set_option maxRecDepth 100000 in
set_option maxHeartbeats 8000000 in
theorem t_product (px py ax ay bx by' : Int) (w : World) (h0 : fitP px py = true) (h1 : fitP ax ay = true) (h2 : fitP bx by' = true) :
    Calls Tryz.prog 41 #[.agg #[.int .i64 px, .int .i64 py], .agg #[.int .i64 ax, .int .i64 ay], .agg #[.int .i64 bx, .int .i64 by']] w fun e w' => e = .returned (.int .i64 (prodP px py ax ay bx by')) ∧ Ext w w' := by
  obtain ⟨⟨k1, k2⟩, k3, k4⟩ := prod_cap h0 h1 h2
  obtain ⟨⟨a1, a2⟩, a3, a4⟩ := fitP_iff.1 h0
  obtain ⟨⟨b1, b2⟩, b3, b4⟩ := fitP_iff.1 h1
  obtain ⟨⟨c1, c2⟩, c3, c4⟩ := fitP_iff.1 h2
  have HR : Hid (prodP px py ax ay bx by' = (ax - px) * (bx - px) + (ay - py) * (by' - py)) := hidP rfl
  generalize prodP px py ax ay bx by' = rr at *
  clear h0 h1 h2
  go_enter Tryz.func41, Tryz.ntmps41
  go_wp2_with fail
  go_ret
  rw [HR.out]
  exact ⟨rfl, (((Ext.refl _).alloc _).alloc _).alloc _⟩
/-- Which paints may be. -/
def mayT (k px py qx qy r : Int) : Bool := fitP px py && (fitP qx qy && (decide (k = 1) || (decide (k = 2) || (decide (k = 3) && (decide (1 ≤ r) && decide (r ≤ 8388607))))))

set_option maxRecDepth 100000 in
set_option maxHeartbeats 8000000 in
theorem t_May (k : Int) (r0 g0 b0 a0 r1 g1 b1 a1 : Nat) (px py qx qy r ux uy vx vy : Int) (x y : Int) (a : Option Addr) (n c : Nat) (s : Bool) (w : World) :
    Calls Tryz.prog 4 #[.agg #[.int .i64 k, .int .u8 (r0 : Int), .int .u8 (g0 : Int), .int .u8 (b0 : Int), .int .u8 (a0 : Int), .int .u8 (r1 : Int), .int .u8 (g1 : Int), .int .u8 (b1 : Int), .int .u8 (a1 : Int), .int .i64 px, .int .i64 py, .int .i64 qx, .int .i64 qy, .int .i64 r, .int .i64 ux, .int .i64 uy, .int .i64 vx, .int .i64 vy, .int .i64 x, .int .i64 y, .slice a n c, .bool s]] w fun e w' => e = .returned (.bool (mayT k px py qx qy r)) ∧ Ext w w' := by
  have HP := hidP (a_Fits px py); have HQ := hidP (a_Fits qx qy)
  unfold mayT
  cases hp : fitP px py
  · rw [hp] at HP
    clear hp HQ
    show Calls _ _ _ _ fun e w' => e = .returned (.bool false) ∧ Ext w w'
    go_enter Tryz.func4, Tryz.ntmps4
    go_wp2_with fail
    refine absC (fun x1 hx1 => ?_)
    have hx : Ext w x1 := by rw [hx1]; exact ((Ext.refl _).alloc _)
    have bp : Bl x1 (w.heap.size) #[.int .i64 k, .int .u8 (r0 : Int), .int .u8 (g0 : Int), .int .u8 (b0 : Int), .int .u8 (a0 : Int), .int .u8 (r1 : Int), .int .u8 (g1 : Int), .int .u8 (b1 : Int), .int .u8 (a1 : Int), .int .i64 px, .int .i64 py, .int .i64 qx, .int .i64 qy, .int .i64 r, .int .i64 ux, .int .i64 uy, .int .i64 vx, .int .i64 vy, .int .i64 x, .int .i64 y, .slice a n c, .bool s] := by rw [hx1]; exact (Bl.new (by simp))
    have HE := hx
    clear hx
    clear hx1
    refine (HP.out _).mono ?_
    rintro e u1 ⟨rfl, hx⟩
    replace bp := Bl.ext hx bp (Nat.succ_pos _)
    replace HE := HE.trans hx
    clear hx
    go_wp2_with fail
    go_ret
    exact ⟨rfl, HE⟩
  · rw [hp] at HP
    clear hp
    cases hq : fitP qx qy
    · rw [hq] at HQ
      clear hq
      show Calls _ _ _ _ fun e w' => e = .returned (.bool false) ∧ Ext w w'
      go_enter Tryz.func4, Tryz.ntmps4
      go_wp2_with fail
      refine absC (fun x1 hx1 => ?_)
      have hx : Ext w x1 := by rw [hx1]; exact ((Ext.refl _).alloc _)
      have bp : Bl x1 (w.heap.size) #[.int .i64 k, .int .u8 (r0 : Int), .int .u8 (g0 : Int), .int .u8 (b0 : Int), .int .u8 (a0 : Int), .int .u8 (r1 : Int), .int .u8 (g1 : Int), .int .u8 (b1 : Int), .int .u8 (a1 : Int), .int .i64 px, .int .i64 py, .int .i64 qx, .int .i64 qy, .int .i64 r, .int .i64 ux, .int .i64 uy, .int .i64 vx, .int .i64 vy, .int .i64 x, .int .i64 y, .slice a n c, .bool s] := by rw [hx1]; exact (Bl.new (by simp))
      have HE := hx
      clear hx
      clear hx1
      refine (HP.out _).mono ?_
      rintro e u1 ⟨rfl, hx⟩
      replace bp := Bl.ext hx bp (Nat.succ_pos _)
      replace HE := HE.trans hx
      clear hx
      go_wp2_with fail
      refine (HQ.out _).mono ?_
      rintro e u2 ⟨rfl, hx⟩
      replace bp := Bl.ext hx bp (Nat.succ_pos _)
      replace HE := HE.trans hx
      clear hx
      go_wp2_with fail
      go_ret
      exact ⟨rfl, HE⟩
    · rw [hq] at HQ
      clear hq
      by_cases kh1 : k = 1
      · subst kh1
        show Calls _ _ _ _ fun e w' => e = .returned (.bool true) ∧ Ext w w'
        go_enter Tryz.func4, Tryz.ntmps4
        go_wp2_with fail
        refine absC (fun x1 hx1 => ?_)
        have hx : Ext w x1 := by rw [hx1]; exact ((Ext.refl _).alloc _)
        have bp : Bl x1 (w.heap.size) #[.int .i64 1, .int .u8 (r0 : Int), .int .u8 (g0 : Int), .int .u8 (b0 : Int), .int .u8 (a0 : Int), .int .u8 (r1 : Int), .int .u8 (g1 : Int), .int .u8 (b1 : Int), .int .u8 (a1 : Int), .int .i64 px, .int .i64 py, .int .i64 qx, .int .i64 qy, .int .i64 r, .int .i64 ux, .int .i64 uy, .int .i64 vx, .int .i64 vy, .int .i64 x, .int .i64 y, .slice a n c, .bool s] := by rw [hx1]; exact (Bl.new (by simp))
        have HE := hx
        clear hx
        clear hx1
        refine (HP.out _).mono ?_
        rintro e u1 ⟨rfl, hx⟩
        replace bp := Bl.ext hx bp (Nat.succ_pos _)
        replace HE := HE.trans hx
        clear hx
        go_wp2_with fail
        refine (HQ.out _).mono ?_
        rintro e u2 ⟨rfl, hx⟩
        replace bp := Bl.ext hx bp (Nat.succ_pos _)
        replace HE := HE.trans hx
        clear hx
        go_wp2_with fail
        go_ret
        exact ⟨rfl, HE⟩
      · by_cases kh2 : k = 2
        · subst kh2
          show Calls _ _ _ _ fun e w' => e = .returned (.bool true) ∧ Ext w w'
          go_enter Tryz.func4, Tryz.ntmps4
          go_wp2_with fail
          refine absC (fun x1 hx1 => ?_)
          have hx : Ext w x1 := by rw [hx1]; exact ((Ext.refl _).alloc _)
          have bp : Bl x1 (w.heap.size) #[.int .i64 2, .int .u8 (r0 : Int), .int .u8 (g0 : Int), .int .u8 (b0 : Int), .int .u8 (a0 : Int), .int .u8 (r1 : Int), .int .u8 (g1 : Int), .int .u8 (b1 : Int), .int .u8 (a1 : Int), .int .i64 px, .int .i64 py, .int .i64 qx, .int .i64 qy, .int .i64 r, .int .i64 ux, .int .i64 uy, .int .i64 vx, .int .i64 vy, .int .i64 x, .int .i64 y, .slice a n c, .bool s] := by rw [hx1]; exact (Bl.new (by simp))
          have HE := hx
          clear hx
          clear hx1
          refine (HP.out _).mono ?_
          rintro e u1 ⟨rfl, hx⟩
          replace bp := Bl.ext hx bp (Nat.succ_pos _)
          replace HE := HE.trans hx
          clear hx
          go_wp2_with fail
          refine (HQ.out _).mono ?_
          rintro e u2 ⟨rfl, hx⟩
          replace bp := Bl.ext hx bp (Nat.succ_pos _)
          replace HE := HE.trans hx
          clear hx
          go_wp2_with fail
          go_ret
          exact ⟨rfl, HE⟩
        · by_cases kh3 : k = 3
          · subst kh3
            by_cases rh1 : 1 ≤ r
            · by_cases rh2 : r ≤ 8388607
              · have hr : (true && (true && (decide ((3 : Int) = 1) || (decide ((3 : Int) = 2) || (decide ((3 : Int) = 3) && (decide (1 ≤ r) && decide (r ≤ 8388607))))))) = true := by rw [decide_eq_true rh1, decide_eq_true rh2]; rfl
                rw [hr]
                clear hr
                go_enter Tryz.func4, Tryz.ntmps4
                go_wp2_with fail
                refine absC (fun x1 hx1 => ?_)
                have hx : Ext w x1 := by rw [hx1]; exact ((Ext.refl _).alloc _)
                have bp : Bl x1 (w.heap.size) #[.int .i64 3, .int .u8 (r0 : Int), .int .u8 (g0 : Int), .int .u8 (b0 : Int), .int .u8 (a0 : Int), .int .u8 (r1 : Int), .int .u8 (g1 : Int), .int .u8 (b1 : Int), .int .u8 (a1 : Int), .int .i64 px, .int .i64 py, .int .i64 qx, .int .i64 qy, .int .i64 r, .int .i64 ux, .int .i64 uy, .int .i64 vx, .int .i64 vy, .int .i64 x, .int .i64 y, .slice a n c, .bool s] := by rw [hx1]; exact (Bl.new (by simp))
                have HE := hx
                clear hx
                clear hx1
                refine (HP.out _).mono ?_
                rintro e u1 ⟨rfl, hx⟩
                replace bp := Bl.ext hx bp (Nat.succ_pos _)
                replace HE := HE.trans hx
                clear hx
                go_wp2_with fail
                refine (HQ.out _).mono ?_
                rintro e u2 ⟨rfl, hx⟩
                replace bp := Bl.ext hx bp (Nat.succ_pos _)
                replace HE := HE.trans hx
                clear hx
                go_wp2_with fail
                go_ret
                exact ⟨rfl, HE⟩
              · have hr : (true && (true && (decide ((3 : Int) = 1) || (decide ((3 : Int) = 2) || (decide ((3 : Int) = 3) && (decide (1 ≤ r) && decide (r ≤ 8388607))))))) = false := by rw [decide_eq_true rh1, decide_eq_false rh2]; rfl
                rw [hr]
                clear hr
                have rh3 : decide (r ≤ 8388607) = false := decide_eq_false rh2
                go_enter Tryz.func4, Tryz.ntmps4
                go_wp2_with fail
                refine absC (fun x1 hx1 => ?_)
                have hx : Ext w x1 := by rw [hx1]; exact ((Ext.refl _).alloc _)
                have bp : Bl x1 (w.heap.size) #[.int .i64 3, .int .u8 (r0 : Int), .int .u8 (g0 : Int), .int .u8 (b0 : Int), .int .u8 (a0 : Int), .int .u8 (r1 : Int), .int .u8 (g1 : Int), .int .u8 (b1 : Int), .int .u8 (a1 : Int), .int .i64 px, .int .i64 py, .int .i64 qx, .int .i64 qy, .int .i64 r, .int .i64 ux, .int .i64 uy, .int .i64 vx, .int .i64 vy, .int .i64 x, .int .i64 y, .slice a n c, .bool s] := by rw [hx1]; exact (Bl.new (by simp))
                have HE := hx
                clear hx
                clear hx1
                refine (HP.out _).mono ?_
                rintro e u1 ⟨rfl, hx⟩
                replace bp := Bl.ext hx bp (Nat.succ_pos _)
                replace HE := HE.trans hx
                clear hx
                go_wp2_with fail
                refine (HQ.out _).mono ?_
                rintro e u2 ⟨rfl, hx⟩
                replace bp := Bl.ext hx bp (Nat.succ_pos _)
                replace HE := HE.trans hx
                clear hx
                go_wp2_with fail
                go_ret
                exact ⟨rfl, HE⟩
            · have hr : (true && (true && (decide ((3 : Int) = 1) || (decide ((3 : Int) = 2) || (decide ((3 : Int) = 3) && (decide (1 ≤ r) && decide (r ≤ 8388607))))))) = false := by rw [decide_eq_false rh1]; rfl
              rw [hr]
              clear hr
              have rh3 : decide (1 ≤ r) = false := decide_eq_false rh1
              go_enter Tryz.func4, Tryz.ntmps4
              go_wp2_with fail
              refine absC (fun x1 hx1 => ?_)
              have hx : Ext w x1 := by rw [hx1]; exact ((Ext.refl _).alloc _)
              have bp : Bl x1 (w.heap.size) #[.int .i64 3, .int .u8 (r0 : Int), .int .u8 (g0 : Int), .int .u8 (b0 : Int), .int .u8 (a0 : Int), .int .u8 (r1 : Int), .int .u8 (g1 : Int), .int .u8 (b1 : Int), .int .u8 (a1 : Int), .int .i64 px, .int .i64 py, .int .i64 qx, .int .i64 qy, .int .i64 r, .int .i64 ux, .int .i64 uy, .int .i64 vx, .int .i64 vy, .int .i64 x, .int .i64 y, .slice a n c, .bool s] := by rw [hx1]; exact (Bl.new (by simp))
              have HE := hx
              clear hx
              clear hx1
              refine (HP.out _).mono ?_
              rintro e u1 ⟨rfl, hx⟩
              replace bp := Bl.ext hx bp (Nat.succ_pos _)
              replace HE := HE.trans hx
              clear hx
              go_wp2_with fail
              refine (HQ.out _).mono ?_
              rintro e u2 ⟨rfl, hx⟩
              replace bp := Bl.ext hx bp (Nat.succ_pos _)
              replace HE := HE.trans hx
              clear hx
              go_wp2_with fail
              go_ret
              exact ⟨rfl, HE⟩
          · have hr : (true && (true && (decide (k = 1) || (decide (k = 2) || (decide (k = 3) && (decide (1 ≤ r) && decide (r ≤ 8388607))))))) = false := by rw [decide_eq_false kh1, decide_eq_false kh2, decide_eq_false kh3]; rfl
            rw [hr]
            clear hr
            have e1 : (k == 1) = false := by simp [kh1]
            have e2 : (k == 2) = false := by simp [kh2]
            have e3 : (k == 3) = false := by simp [kh3]
            go_enter Tryz.func4, Tryz.ntmps4
            go_wp2_with fail
            refine absC (fun x1 hx1 => ?_)
            have hx : Ext w x1 := by rw [hx1]; exact ((Ext.refl _).alloc _)
            have bp : Bl x1 (w.heap.size) #[.int .i64 k, .int .u8 (r0 : Int), .int .u8 (g0 : Int), .int .u8 (b0 : Int), .int .u8 (a0 : Int), .int .u8 (r1 : Int), .int .u8 (g1 : Int), .int .u8 (b1 : Int), .int .u8 (a1 : Int), .int .i64 px, .int .i64 py, .int .i64 qx, .int .i64 qy, .int .i64 r, .int .i64 ux, .int .i64 uy, .int .i64 vx, .int .i64 vy, .int .i64 x, .int .i64 y, .slice a n c, .bool s] := by rw [hx1]; exact (Bl.new (by simp))
            have HE := hx
            clear hx
            clear hx1
            refine (HP.out _).mono ?_
            rintro e u1 ⟨rfl, hx⟩
            replace bp := Bl.ext hx bp (Nat.succ_pos _)
            replace HE := HE.trans hx
            clear hx
            go_wp2_with fail
            refine (HQ.out _).mono ?_
            rintro e u2 ⟨rfl, hx⟩
            replace bp := Bl.ext hx bp (Nat.succ_pos _)
            replace HE := HE.trans hx
            clear hx
            go_wp2_with fail
            go_ret
            exact ⟨rfl, HE⟩

set_option maxRecDepth 100000 in
set_option maxHeartbeats 8000000 in
theorem e_May (k : Int) (r0 g0 b0 a0 r1 g1 b1 a1 : Nat) (px py qx qy r ux uy vx vy : Int) (x y : Int) (a : Option Addr) (n c : Nat) (s : Bool) (w : World) :
    Calls Tryz.prog 5 #[.agg #[.int .i64 k, .int .u8 (r0 : Int), .int .u8 (g0 : Int), .int .u8 (b0 : Int), .int .u8 (a0 : Int), .int .u8 (r1 : Int), .int .u8 (g1 : Int), .int .u8 (b1 : Int), .int .u8 (a1 : Int), .int .i64 px, .int .i64 py, .int .i64 qx, .int .i64 qy, .int .i64 r, .int .i64 ux, .int .i64 uy, .int .i64 vx, .int .i64 vy, .int .i64 x, .int .i64 y, .slice a n c, .bool s]] w fun e w' => e = .returned (.bool (mayT k px py qx qy r)) ∧ Ext w w' := by
  have HP := hidP (d_Fits px py); have HQ := hidP (d_Fits qx qy)
  unfold mayT
  cases hp : fitP px py
  · rw [hp] at HP
    clear hp HQ
    show Calls _ _ _ _ fun e w' => e = .returned (.bool false) ∧ Ext w w'
    go_enter Tryz.func5, Tryz.ntmps5
    go_wp2_with fail
    refine absC (fun x1 hx1 => ?_)
    have hx : Ext w x1 := by rw [hx1]; exact ((Ext.refl _).alloc _)
    have bp : Bl x1 (w.heap.size) #[.int .i64 k, .int .u8 (r0 : Int), .int .u8 (g0 : Int), .int .u8 (b0 : Int), .int .u8 (a0 : Int), .int .u8 (r1 : Int), .int .u8 (g1 : Int), .int .u8 (b1 : Int), .int .u8 (a1 : Int), .int .i64 px, .int .i64 py, .int .i64 qx, .int .i64 qy, .int .i64 r, .int .i64 ux, .int .i64 uy, .int .i64 vx, .int .i64 vy, .int .i64 x, .int .i64 y, .slice a n c, .bool s] := by rw [hx1]; exact (Bl.new (by simp))
    have HE := hx
    clear hx
    clear hx1
    refine (HP.out _).mono ?_
    rintro e u1 ⟨rfl, hx⟩
    replace bp := Bl.ext hx bp (Nat.succ_pos _)
    replace HE := HE.trans hx
    clear hx
    go_wp2_with fail
    go_ret
    exact ⟨rfl, HE⟩
  · rw [hp] at HP
    clear hp
    cases hq : fitP qx qy
    · rw [hq] at HQ
      clear hq
      show Calls _ _ _ _ fun e w' => e = .returned (.bool false) ∧ Ext w w'
      go_enter Tryz.func5, Tryz.ntmps5
      go_wp2_with fail
      refine absC (fun x1 hx1 => ?_)
      have hx : Ext w x1 := by rw [hx1]; exact ((Ext.refl _).alloc _)
      have bp : Bl x1 (w.heap.size) #[.int .i64 k, .int .u8 (r0 : Int), .int .u8 (g0 : Int), .int .u8 (b0 : Int), .int .u8 (a0 : Int), .int .u8 (r1 : Int), .int .u8 (g1 : Int), .int .u8 (b1 : Int), .int .u8 (a1 : Int), .int .i64 px, .int .i64 py, .int .i64 qx, .int .i64 qy, .int .i64 r, .int .i64 ux, .int .i64 uy, .int .i64 vx, .int .i64 vy, .int .i64 x, .int .i64 y, .slice a n c, .bool s] := by rw [hx1]; exact (Bl.new (by simp))
      have HE := hx
      clear hx
      clear hx1
      refine (HP.out _).mono ?_
      rintro e u1 ⟨rfl, hx⟩
      replace bp := Bl.ext hx bp (Nat.succ_pos _)
      replace HE := HE.trans hx
      clear hx
      go_wp2_with fail
      refine (HQ.out _).mono ?_
      rintro e u2 ⟨rfl, hx⟩
      replace bp := Bl.ext hx bp (Nat.succ_pos _)
      replace HE := HE.trans hx
      clear hx
      go_wp2_with fail
      go_ret
      exact ⟨rfl, HE⟩
    · rw [hq] at HQ
      clear hq
      by_cases kh1 : k = 1
      · subst kh1
        show Calls _ _ _ _ fun e w' => e = .returned (.bool true) ∧ Ext w w'
        go_enter Tryz.func5, Tryz.ntmps5
        go_wp2_with fail
        refine absC (fun x1 hx1 => ?_)
        have hx : Ext w x1 := by rw [hx1]; exact ((Ext.refl _).alloc _)
        have bp : Bl x1 (w.heap.size) #[.int .i64 1, .int .u8 (r0 : Int), .int .u8 (g0 : Int), .int .u8 (b0 : Int), .int .u8 (a0 : Int), .int .u8 (r1 : Int), .int .u8 (g1 : Int), .int .u8 (b1 : Int), .int .u8 (a1 : Int), .int .i64 px, .int .i64 py, .int .i64 qx, .int .i64 qy, .int .i64 r, .int .i64 ux, .int .i64 uy, .int .i64 vx, .int .i64 vy, .int .i64 x, .int .i64 y, .slice a n c, .bool s] := by rw [hx1]; exact (Bl.new (by simp))
        have HE := hx
        clear hx
        clear hx1
        refine (HP.out _).mono ?_
        rintro e u1 ⟨rfl, hx⟩
        replace bp := Bl.ext hx bp (Nat.succ_pos _)
        replace HE := HE.trans hx
        clear hx
        go_wp2_with fail
        refine (HQ.out _).mono ?_
        rintro e u2 ⟨rfl, hx⟩
        replace bp := Bl.ext hx bp (Nat.succ_pos _)
        replace HE := HE.trans hx
        clear hx
        go_wp2_with fail
        go_ret
        exact ⟨rfl, HE⟩
      · by_cases kh2 : k = 2
        · subst kh2
          show Calls _ _ _ _ fun e w' => e = .returned (.bool true) ∧ Ext w w'
          go_enter Tryz.func5, Tryz.ntmps5
          go_wp2_with fail
          refine absC (fun x1 hx1 => ?_)
          have hx : Ext w x1 := by rw [hx1]; exact ((Ext.refl _).alloc _)
          have bp : Bl x1 (w.heap.size) #[.int .i64 2, .int .u8 (r0 : Int), .int .u8 (g0 : Int), .int .u8 (b0 : Int), .int .u8 (a0 : Int), .int .u8 (r1 : Int), .int .u8 (g1 : Int), .int .u8 (b1 : Int), .int .u8 (a1 : Int), .int .i64 px, .int .i64 py, .int .i64 qx, .int .i64 qy, .int .i64 r, .int .i64 ux, .int .i64 uy, .int .i64 vx, .int .i64 vy, .int .i64 x, .int .i64 y, .slice a n c, .bool s] := by rw [hx1]; exact (Bl.new (by simp))
          have HE := hx
          clear hx
          clear hx1
          refine (HP.out _).mono ?_
          rintro e u1 ⟨rfl, hx⟩
          replace bp := Bl.ext hx bp (Nat.succ_pos _)
          replace HE := HE.trans hx
          clear hx
          go_wp2_with fail
          refine (HQ.out _).mono ?_
          rintro e u2 ⟨rfl, hx⟩
          replace bp := Bl.ext hx bp (Nat.succ_pos _)
          replace HE := HE.trans hx
          clear hx
          go_wp2_with fail
          go_ret
          exact ⟨rfl, HE⟩
        · by_cases kh3 : k = 3
          · subst kh3
            by_cases rh1 : 1 ≤ r
            · by_cases rh2 : r ≤ 8388607
              · have hr : (true && (true && (decide ((3 : Int) = 1) || (decide ((3 : Int) = 2) || (decide ((3 : Int) = 3) && (decide (1 ≤ r) && decide (r ≤ 8388607))))))) = true := by rw [decide_eq_true rh1, decide_eq_true rh2]; rfl
                rw [hr]
                clear hr
                go_enter Tryz.func5, Tryz.ntmps5
                go_wp2_with fail
                refine absC (fun x1 hx1 => ?_)
                have hx : Ext w x1 := by rw [hx1]; exact ((Ext.refl _).alloc _)
                have bp : Bl x1 (w.heap.size) #[.int .i64 3, .int .u8 (r0 : Int), .int .u8 (g0 : Int), .int .u8 (b0 : Int), .int .u8 (a0 : Int), .int .u8 (r1 : Int), .int .u8 (g1 : Int), .int .u8 (b1 : Int), .int .u8 (a1 : Int), .int .i64 px, .int .i64 py, .int .i64 qx, .int .i64 qy, .int .i64 r, .int .i64 ux, .int .i64 uy, .int .i64 vx, .int .i64 vy, .int .i64 x, .int .i64 y, .slice a n c, .bool s] := by rw [hx1]; exact (Bl.new (by simp))
                have HE := hx
                clear hx
                clear hx1
                refine (HP.out _).mono ?_
                rintro e u1 ⟨rfl, hx⟩
                replace bp := Bl.ext hx bp (Nat.succ_pos _)
                replace HE := HE.trans hx
                clear hx
                go_wp2_with fail
                refine (HQ.out _).mono ?_
                rintro e u2 ⟨rfl, hx⟩
                replace bp := Bl.ext hx bp (Nat.succ_pos _)
                replace HE := HE.trans hx
                clear hx
                go_wp2_with fail
                go_ret
                exact ⟨rfl, HE⟩
              · have hr : (true && (true && (decide ((3 : Int) = 1) || (decide ((3 : Int) = 2) || (decide ((3 : Int) = 3) && (decide (1 ≤ r) && decide (r ≤ 8388607))))))) = false := by rw [decide_eq_true rh1, decide_eq_false rh2]; rfl
                rw [hr]
                clear hr
                have rh3 : decide (r ≤ 8388607) = false := decide_eq_false rh2
                go_enter Tryz.func5, Tryz.ntmps5
                go_wp2_with fail
                refine absC (fun x1 hx1 => ?_)
                have hx : Ext w x1 := by rw [hx1]; exact ((Ext.refl _).alloc _)
                have bp : Bl x1 (w.heap.size) #[.int .i64 3, .int .u8 (r0 : Int), .int .u8 (g0 : Int), .int .u8 (b0 : Int), .int .u8 (a0 : Int), .int .u8 (r1 : Int), .int .u8 (g1 : Int), .int .u8 (b1 : Int), .int .u8 (a1 : Int), .int .i64 px, .int .i64 py, .int .i64 qx, .int .i64 qy, .int .i64 r, .int .i64 ux, .int .i64 uy, .int .i64 vx, .int .i64 vy, .int .i64 x, .int .i64 y, .slice a n c, .bool s] := by rw [hx1]; exact (Bl.new (by simp))
                have HE := hx
                clear hx
                clear hx1
                refine (HP.out _).mono ?_
                rintro e u1 ⟨rfl, hx⟩
                replace bp := Bl.ext hx bp (Nat.succ_pos _)
                replace HE := HE.trans hx
                clear hx
                go_wp2_with fail
                refine (HQ.out _).mono ?_
                rintro e u2 ⟨rfl, hx⟩
                replace bp := Bl.ext hx bp (Nat.succ_pos _)
                replace HE := HE.trans hx
                clear hx
                go_wp2_with fail
                go_ret
                exact ⟨rfl, HE⟩
            · have hr : (true && (true && (decide ((3 : Int) = 1) || (decide ((3 : Int) = 2) || (decide ((3 : Int) = 3) && (decide (1 ≤ r) && decide (r ≤ 8388607))))))) = false := by rw [decide_eq_false rh1]; rfl
              rw [hr]
              clear hr
              have rh3 : decide (1 ≤ r) = false := decide_eq_false rh1
              go_enter Tryz.func5, Tryz.ntmps5
              go_wp2_with fail
              refine absC (fun x1 hx1 => ?_)
              have hx : Ext w x1 := by rw [hx1]; exact ((Ext.refl _).alloc _)
              have bp : Bl x1 (w.heap.size) #[.int .i64 3, .int .u8 (r0 : Int), .int .u8 (g0 : Int), .int .u8 (b0 : Int), .int .u8 (a0 : Int), .int .u8 (r1 : Int), .int .u8 (g1 : Int), .int .u8 (b1 : Int), .int .u8 (a1 : Int), .int .i64 px, .int .i64 py, .int .i64 qx, .int .i64 qy, .int .i64 r, .int .i64 ux, .int .i64 uy, .int .i64 vx, .int .i64 vy, .int .i64 x, .int .i64 y, .slice a n c, .bool s] := by rw [hx1]; exact (Bl.new (by simp))
              have HE := hx
              clear hx
              clear hx1
              refine (HP.out _).mono ?_
              rintro e u1 ⟨rfl, hx⟩
              replace bp := Bl.ext hx bp (Nat.succ_pos _)
              replace HE := HE.trans hx
              clear hx
              go_wp2_with fail
              refine (HQ.out _).mono ?_
              rintro e u2 ⟨rfl, hx⟩
              replace bp := Bl.ext hx bp (Nat.succ_pos _)
              replace HE := HE.trans hx
              clear hx
              go_wp2_with fail
              go_ret
              exact ⟨rfl, HE⟩
          · have hr : (true && (true && (decide (k = 1) || (decide (k = 2) || (decide (k = 3) && (decide (1 ≤ r) && decide (r ≤ 8388607))))))) = false := by rw [decide_eq_false kh1, decide_eq_false kh2, decide_eq_false kh3]; rfl
            rw [hr]
            clear hr
            have e1 : (k == 1) = false := by simp [kh1]
            have e2 : (k == 2) = false := by simp [kh2]
            have e3 : (k == 3) = false := by simp [kh3]
            go_enter Tryz.func5, Tryz.ntmps5
            go_wp2_with fail
            refine absC (fun x1 hx1 => ?_)
            have hx : Ext w x1 := by rw [hx1]; exact ((Ext.refl _).alloc _)
            have bp : Bl x1 (w.heap.size) #[.int .i64 k, .int .u8 (r0 : Int), .int .u8 (g0 : Int), .int .u8 (b0 : Int), .int .u8 (a0 : Int), .int .u8 (r1 : Int), .int .u8 (g1 : Int), .int .u8 (b1 : Int), .int .u8 (a1 : Int), .int .i64 px, .int .i64 py, .int .i64 qx, .int .i64 qy, .int .i64 r, .int .i64 ux, .int .i64 uy, .int .i64 vx, .int .i64 vy, .int .i64 x, .int .i64 y, .slice a n c, .bool s] := by rw [hx1]; exact (Bl.new (by simp))
            have HE := hx
            clear hx
            clear hx1
            refine (HP.out _).mono ?_
            rintro e u1 ⟨rfl, hx⟩
            replace bp := Bl.ext hx bp (Nat.succ_pos _)
            replace HE := HE.trans hx
            clear hx
            go_wp2_with fail
            refine (HQ.out _).mono ?_
            rintro e u2 ⟨rfl, hx⟩
            replace bp := Bl.ext hx bp (Nat.succ_pos _)
            replace HE := HE.trans hx
            clear hx
            go_wp2_with fail
            go_ret
            exact ⟨rfl, HE⟩

end Go.Proofs.YtmibjfkpchncgaaGreat
