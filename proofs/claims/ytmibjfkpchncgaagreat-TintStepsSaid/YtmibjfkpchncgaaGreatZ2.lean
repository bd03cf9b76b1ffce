/- Paints: how far a point is from one colour to the other one. -/
import Derived.Test.YtmibjfkpchncgaaGreatZ1
import Derived.Test.YtmibjfkpchncgaaGreatM5
namespace Go.Proofs.YtmibjfkpchncgaaGreat
set_option linter.unusedVariables false
set_option linter.unusedSimpArgs false
open Go Go.RowKit

/-- By the way from P to Q. -/
def linF (n long : Int) : Nat := if long = 0 ∨ n ≤ 0 then 0 else if long ≤ n then 255 else ((510 * n + long) / (2 * long)).toNat
theorem linF_le (n long : Int) (hl : 0 ≤ long) : linF n long ≤ 255 := by
  unfold linF
  split
  · omega
  · split
    · omega
    · next h1 h2 =>
      have h3 : (510 * n + long) / (2 * long) < 256 := Int.ediv_lt_of_lt_mul (by omega) (by omega)
      omega
theorem linF_quo {n long : Int} (h0 : 0 < long) (h1 : 0 < n) (h2 : n < long) : ((linF n long : Nat) : Int) = (510 * n + long) / (2 * long) := by
  unfold linF
  rw [if_neg (by omega), if_neg (by omega), Int.toNat_of_nonneg (Int.ediv_nonneg (by omega) (by omega))]
theorem prodP_self {px py qx qy : Int} : 0 ≤ prodP px py qx qy qx qy := by
  unfold prodP
  have h : ∀ z : Int, 0 ≤ z * z := fun z => by
    rcases Int.le_total 0 z with h | h
    · exact Int.mul_nonneg h h
    · have := Int.mul_nonneg (show 0 ≤ -z by omega) (show 0 ≤ -z by omega)
      rwa [Int.neg_mul_neg] at this
  have h1 := h (qx - px)
  have h2 := h (qy - py)
  omega
/-- By the distance from P. -/
def radF (d R : Int) : Nat := min (isq (65025 * d.toNat / (R * R).toNat)) 255

set_option maxRecDepth 100000 in
set_option maxHeartbeats 8000000 in
theorem t_linear (k : Int) (r0 g0 b0 a0 r1 g1 b1 a1 : Nat) (px py qx qy r ux uy vx vy : Int) (x y : Int) (a : Option Addr) (n c : Nat) (s : Bool) (ax ay : Int) (w : World) (hp : fitP px py = true) (hq : fitP qx qy = true) (ha : fitP ax ay = true) :
    Calls Tryz.prog 21 #[.agg #[.int .i64 k, .int .u8 (r0 : Int), .int .u8 (g0 : Int), .int .u8 (b0 : Int), .int .u8 (a0 : Int), .int .u8 (r1 : Int), .int .u8 (g1 : Int), .int .u8 (b1 : Int), .int .u8 (a1 : Int), .int .i64 px, .int .i64 py, .int .i64 qx, .int .i64 qy, .int .i64 r, .int .i64 ux, .int .i64 uy, .int .i64 vx, .int .i64 vy, .int .i64 x, .int .i64 y, .slice a n c, .bool s], .agg #[.int .i64 ax, .int .i64 ay]] w fun e w' => e = .returned (.int .i64 (linF (prodP px py ax ay qx qy) (prodP px py qx qy qx qy) : Nat)) ∧ Ext w w' := by
  have A1 := hidP (fun u => t_product px py qx qy qx qy u hp hq hq)
  have A2 := hidP (fun u => t_product px py ax ay qx qy u hp ha hq)
  have hl := @prodP_self px py qx qy
  obtain ⟨⟨c1, c2⟩, c3, c4⟩ := prod_cap hp hq hq
  obtain ⟨⟨d1, d2⟩, d3, d4⟩ := prod_cap hp ha hq
  have hL : prodP px py qx qy qx qy ≤ 562949819203592 := by unfold prodP; omega
  have hN1 : prodP px py ax ay qx qy ≤ 562949819203592 := by unfold prodP; omega
  have hN2 : -562949819203592 ≤ prodP px py ax ay qx qy := by unfold prodP; omega
  clear hp hq ha c1 c2 c3 c4 d1 d2 d3 d4
  generalize prodP px py ax ay qx qy = N at *
  generalize prodP px py qx qy qx qy = L at *
  by_cases h0 : L = 0
  · have HR : Hid (linF N L = 0) := hidP (if_pos (.inl h0))
    subst h0
    generalize linF N 0 = rr at *
    go_enter Tryz.func21, Tryz.ntmps21
    go_wp2_with fail
    refine absC (fun x1 hx1 => ?_)
    have hx : Ext w x1 := by rw [hx1]; exact (((Ext.refl _).alloc _).alloc _)
    have bp : Bl x1 (w.heap.size) #[.int .i64 k, .int .u8 (r0 : Int), .int .u8 (g0 : Int), .int .u8 (b0 : Int), .int .u8 (a0 : Int), .int .u8 (r1 : Int), .int .u8 (g1 : Int), .int .u8 (b1 : Int), .int .u8 (a1 : Int), .int .i64 px, .int .i64 py, .int .i64 qx, .int .i64 qy, .int .i64 r, .int .i64 ux, .int .i64 uy, .int .i64 vx, .int .i64 vy, .int .i64 x, .int .i64 y, .slice a n c, .bool s] := by rw [hx1]; exact ((Bl.new (by simp)).alloc (by simp))
    have bz : Bl x1 (w.heap.size + 1) #[.int .i64 ax, .int .i64 ay] := by rw [hx1]; exact (Bl.new (by simp))
    have HE := hx
    clear hx
    clear hx1
    refine (A1.out _).mono ?_
    rintro e u1 ⟨rfl, hx⟩
    replace bp := Bl.ext hx bp (Nat.succ_pos _)
    replace bz := Bl.ext hx bz (Nat.succ_pos _)
    replace HE := HE.trans hx
    clear hx
    go_wp2_with fail
    refine (A2.out _).mono ?_
    rintro e u2 ⟨rfl, hx⟩
    replace bp := Bl.ext hx bp (Nat.succ_pos _)
    replace bz := Bl.ext hx bz (Nat.succ_pos _)
    replace HE := HE.trans hx
    clear hx
    go_wp2_with fail
    go_ret
    rw [HR.out]
    exact ⟨rfl, HE⟩
  · by_cases h1 : N ≤ 0
    · have HR : Hid (linF N L = 0) := hidP (if_pos (.inr h1))
      have e0 : (L == 0) = false := by simp [h0]
      generalize linF N L = rr at *
      go_enter Tryz.func21, Tryz.ntmps21
      go_wp2_with fail
      refine absC (fun x1 hx1 => ?_)
      have hx : Ext w x1 := by rw [hx1]; exact (((Ext.refl _).alloc _).alloc _)
      have bp : Bl x1 (w.heap.size) #[.int .i64 k, .int .u8 (r0 : Int), .int .u8 (g0 : Int), .int .u8 (b0 : Int), .int .u8 (a0 : Int), .int .u8 (r1 : Int), .int .u8 (g1 : Int), .int .u8 (b1 : Int), .int .u8 (a1 : Int), .int .i64 px, .int .i64 py, .int .i64 qx, .int .i64 qy, .int .i64 r, .int .i64 ux, .int .i64 uy, .int .i64 vx, .int .i64 vy, .int .i64 x, .int .i64 y, .slice a n c, .bool s] := by rw [hx1]; exact ((Bl.new (by simp)).alloc (by simp))
      have bz : Bl x1 (w.heap.size + 1) #[.int .i64 ax, .int .i64 ay] := by rw [hx1]; exact (Bl.new (by simp))
      have HE := hx
      clear hx
      clear hx1
      refine (A1.out _).mono ?_
      rintro e u1 ⟨rfl, hx⟩
      replace bp := Bl.ext hx bp (Nat.succ_pos _)
      replace bz := Bl.ext hx bz (Nat.succ_pos _)
      replace HE := HE.trans hx
      clear hx
      go_wp2_with fail
      refine (A2.out _).mono ?_
      rintro e u2 ⟨rfl, hx⟩
      replace bp := Bl.ext hx bp (Nat.succ_pos _)
      replace bz := Bl.ext hx bz (Nat.succ_pos _)
      replace HE := HE.trans hx
      clear hx
      go_wp2_with fail
      go_ret
      rw [HR.out]
      exact ⟨rfl, HE⟩
    · by_cases h2 : L ≤ N
      · have HR : Hid (linF N L = 255) := hidP (by unfold linF; rw [if_neg (by omega), if_pos h2])
        have e0 : (L == 0) = false := by simp [h0]
        have e1 : decide (N ≤ 0) = false := decide_eq_false h1
        generalize linF N L = rr at *
        go_enter Tryz.func21, Tryz.ntmps21
        go_wp2_with fail
        refine absC (fun x1 hx1 => ?_)
        have hx : Ext w x1 := by rw [hx1]; exact (((Ext.refl _).alloc _).alloc _)
        have bp : Bl x1 (w.heap.size) #[.int .i64 k, .int .u8 (r0 : Int), .int .u8 (g0 : Int), .int .u8 (b0 : Int), .int .u8 (a0 : Int), .int .u8 (r1 : Int), .int .u8 (g1 : Int), .int .u8 (b1 : Int), .int .u8 (a1 : Int), .int .i64 px, .int .i64 py, .int .i64 qx, .int .i64 qy, .int .i64 r, .int .i64 ux, .int .i64 uy, .int .i64 vx, .int .i64 vy, .int .i64 x, .int .i64 y, .slice a n c, .bool s] := by rw [hx1]; exact ((Bl.new (by simp)).alloc (by simp))
        have bz : Bl x1 (w.heap.size + 1) #[.int .i64 ax, .int .i64 ay] := by rw [hx1]; exact (Bl.new (by simp))
        have HE := hx
        clear hx
        clear hx1
        refine (A1.out _).mono ?_
        rintro e u1 ⟨rfl, hx⟩
        replace bp := Bl.ext hx bp (Nat.succ_pos _)
        replace bz := Bl.ext hx bz (Nat.succ_pos _)
        replace HE := HE.trans hx
        clear hx
        go_wp2_with fail
        refine (A2.out _).mono ?_
        rintro e u2 ⟨rfl, hx⟩
        replace bp := Bl.ext hx bp (Nat.succ_pos _)
        replace bz := Bl.ext hx bz (Nat.succ_pos _)
        replace HE := HE.trans hx
        clear hx
        go_wp2_with fail
        go_ret
        rw [HR.out]
        exact ⟨rfl, HE⟩
      · have HR : Hid (((linF N L : Nat) : Int) = (510 * N + L) / (2 * L)) := hidP (linF_quo (by omega) (by omega) (by omega))
        have e0 : (L == 0) = false := by simp [h0]
        have e1 : decide (N ≤ 0) = false := decide_eq_false h1
        have e2 : decide (L ≤ N) = false := decide_eq_false h2
        have e3 : ¬ (2 * L = 0) := by omega
        generalize linF N L = rr at *
        go_enter Tryz.func21, Tryz.ntmps21
        go_wp2_with fail
        refine absC (fun x1 hx1 => ?_)
        have hx : Ext w x1 := by rw [hx1]; exact (((Ext.refl _).alloc _).alloc _)
        have bp : Bl x1 (w.heap.size) #[.int .i64 k, .int .u8 (r0 : Int), .int .u8 (g0 : Int), .int .u8 (b0 : Int), .int .u8 (a0 : Int), .int .u8 (r1 : Int), .int .u8 (g1 : Int), .int .u8 (b1 : Int), .int .u8 (a1 : Int), .int .i64 px, .int .i64 py, .int .i64 qx, .int .i64 qy, .int .i64 r, .int .i64 ux, .int .i64 uy, .int .i64 vx, .int .i64 vy, .int .i64 x, .int .i64 y, .slice a n c, .bool s] := by rw [hx1]; exact ((Bl.new (by simp)).alloc (by simp))
        have bz : Bl x1 (w.heap.size + 1) #[.int .i64 ax, .int .i64 ay] := by rw [hx1]; exact (Bl.new (by simp))
        have HE := hx
        clear hx
        clear hx1
        refine (A1.out _).mono ?_
        rintro e u1 ⟨rfl, hx⟩
        replace bp := Bl.ext hx bp (Nat.succ_pos _)
        replace bz := Bl.ext hx bz (Nat.succ_pos _)
        replace HE := HE.trans hx
        clear hx
        go_wp2_with fail
        refine (A2.out _).mono ?_
        rintro e u2 ⟨rfl, hx⟩
        replace bp := Bl.ext hx bp (Nat.succ_pos _)
        replace bz := Bl.ext hx bz (Nat.succ_pos _)
        replace HE := HE.trans hx
        clear hx
        go_wp2_with fail
        go_ret
        rw [HR.out]
        exact ⟨rfl, HE⟩

set_option maxRecDepth 100000 in
set_option maxHeartbeats 8000000 in
theorem t_plain (k : Int) (r0 g0 b0 a0 r1 g1 b1 a1 : Nat) (px py qx qy r ux uy vx vy : Int) (x y : Int) (a : Option Addr) (n c : Nat) (s : Bool) (ax ay : Int) (w : World) :
    Calls Tryz.prog 23 #[.agg #[.int .i64 k, .int .u8 (r0 : Int), .int .u8 (g0 : Int), .int .u8 (b0 : Int), .int .u8 (a0 : Int), .int .u8 (r1 : Int), .int .u8 (g1 : Int), .int .u8 (b1 : Int), .int .u8 (a1 : Int), .int .i64 px, .int .i64 py, .int .i64 qx, .int .i64 qy, .int .i64 r, .int .i64 ux, .int .i64 uy, .int .i64 vx, .int .i64 vy, .int .i64 x, .int .i64 y, .slice a n c, .bool s], .agg #[.int .i64 ax, .int .i64 ay]] w fun e w' => e = .returned (.int .i64 0) ∧ Ext w w' := by
  go_enter Tryz.func23, Tryz.ntmps23
  go_wp2_with fail
  go_ret
  exact ⟨rfl, ((Ext.refl _).alloc _).alloc _⟩
/-- The way of a kind. -/
def wayV (k : Int) : Value := if k = 2 then .func (.func 21) #[] #[] else if k = 3 then .func (.func 22) #[] #[] else .func (.func 23) #[] #[]

set_option maxRecDepth 100000 in
set_option maxHeartbeats 8000000 in
theorem t_way (k : Int) (w : World) : Calls Tryz.prog 13 #[.int .i64 k] w fun e w' => e = .returned (wayV k) ∧ w = w' := by
  unfold wayV
  by_cases h2 : k = 2
  · subst h2
    rw [if_pos rfl]
    go_enter Tryz.func13, Tryz.ntmps13
    go_wp2_with fail
    go_ret
    exact ⟨rfl, rfl⟩
  · rw [if_neg h2]
    have e2 : (k == 2) = false := by simp [h2]
    by_cases h3 : k = 3
    · subst h3
      rw [if_pos rfl]
      go_enter Tryz.func13, Tryz.ntmps13
      go_wp2_with fail
      go_ret
      exact ⟨rfl, rfl⟩
    · rw [if_neg h3]
      have e3 : (k == 3) = false := by simp [h3]
      go_enter Tryz.func13, Tryz.ntmps13
      go_wp2_with fail
      go_ret
      exact ⟨rfl, rfl⟩

set_option maxRecDepth 100000 in
set_option maxHeartbeats 8000000 in
theorem t_radial (k : Int) (r0 g0 b0 a0 r1 g1 b1 a1 : Nat) (px py qx qy r ux uy vx vy : Int) (x y : Int) (a : Option Addr) (n c : Nat) (s : Bool) (ax ay : Int) (w : World) (hp : fitP px py = true) (ha : fitP ax ay = true) (hr1 : 1 ≤ r) (hr2 : r ≤ 8388607) :
    Calls Tryz.prog 22 #[.agg #[.int .i64 k, .int .u8 (r0 : Int), .int .u8 (g0 : Int), .int .u8 (b0 : Int), .int .u8 (a0 : Int), .int .u8 (r1 : Int), .int .u8 (g1 : Int), .int .u8 (b1 : Int), .int .u8 (a1 : Int), .int .i64 px, .int .i64 py, .int .i64 qx, .int .i64 qy, .int .i64 r, .int .i64 ux, .int .i64 uy, .int .i64 vx, .int .i64 vy, .int .i64 x, .int .i64 y, .slice a n c, .bool s], .agg #[.int .i64 ax, .int .i64 ay]] w fun e w' => e = .returned (.int .i64 (radF (prodP px py ax ay ax ay) r : Nat)) ∧ Ext w w' := by
  have A1 := hidP (fun u => t_product px py ax ay ax ay u hp ha ha)
  have hl := @prodP_self px py ax ay
  obtain ⟨⟨d1, d2⟩, d3, d4⟩ := prod_cap hp ha ha
  have hN1 : prodP px py ax ay ax ay ≤ 562949819203592 := by unfold prodP; omega
  clear hp ha d1 d2 d3 d4
  generalize prodP px py ax ay ax ay = N at *
  obtain ⟨D, rfl⟩ : ∃ D : Nat, N = (D : Int) := ⟨N.toNat, by omega⟩
  obtain ⟨R, rfl⟩ : ∃ R : Nat, r = (R : Int) := ⟨r.toNat, by omega⟩
  have hRR : (R : Int) * (R : Int) = ((R * R : Nat) : Int) := by simp
  have hR1 : 1 ≤ R * R := Nat.mul_le_mul (by omega : 1 ≤ R) (by omega : 1 ≤ R)
  have hR2 : R * R ≤ 70368727400449 := Nat.mul_le_mul (by omega : R ≤ 8388607) (by omega : R ≤ 8388607)
  have HRF : Hid (radF (D : Int) (R : Int) = min (isq (65025 * D / (R * R))) 255) := hidP (by unfold radF; rw [hRR, Int.toNat_natCast, Int.toNat_natCast])
  generalize hS : R * R = S at *
  have A2 := hidP (fun u => n_Of 65025 u (by omega))
  have A3 := hidP (fun u => n_Of D u (by omega))
  have A4 := hidP (fun u => n_Of S u (by omega))
  have q1 : dl 65025 ≤ 1 := dl_small (by omega)
  have q2 : dl D ≤ 2 := dl_u64 (by omega)
  have q3 : dl S ≤ 2 := dl_u64 (by omega)
  have q4 := dl_mul 65025 D
  have q5 := dl_div (65025 * D) S
  have A5 := hidP (fun u a n c a' n' c' (t : Nc u a n c 65025) (t' : Nc u a' n' c' D) => n_Mul (t.nu (by omega)) (t'.nu (by omega)))
  have A6 := hidP (fun u a n c a' n' c' (t : Nc u a n c (65025 * D)) (t' : Nc u a' n' c' S) => n_Div (t.nu (by omega)) (t'.nu (by omega)))
  have A7 := hidP (fun u a n c (t : Nc u a n c (65025 * D / S)) => p_Sqrt (t.nu (by omega)) (by omega))
  have hV : 65025 * D / S ≤ 36893488147419103231 := Nat.le_trans (Nat.div_le_self _ _) (by omega)
  have hI : isq (65025 * D / S) ≤ 8589934592 := by
    have h1 := (isq_spec (65025 * D / S)).1
    by_cases hh : isq (65025 * D / S) ≤ 8589934592
    · exact hh
    · have h2 : 8589934593 * 8589934593 ≤ isq (65025 * D / S) * isq (65025 * D / S) := Nat.mul_le_mul (by omega) (by omega)
      omega
  have A8 := hidP (fun u a n c (t : Nc u a n c (isq (65025 * D / S))) => n_Uint (t.nu (Nat.le_trans (dl_u64 (by omega)) (by omega))))
  have hU : uintR (isq (65025 * D / S)) = .tuple #[.int .u64 (isq (65025 * D / S) : Nat), .bool true] := if_pos (by omega)
  rw [hU] at A8
  have hS0 : decide (S ≠ 0) = true := decide_eq_true (by omega)
  unfold RetQR at A6
  simp only [hS0, if_neg (show ¬ S = 0 by omega)] at A6
  clear hS hU hS0 q1 q2 q3 q4 q5 hV hl hR1
  generalize isq (65025 * D / S) = I at *
  generalize 65025 * D / S = V at *
  generalize (65025 * D) = M at *
  have WD : Hid (IntKind.u64.wrap (D : Int) = (D : Int)) := hidP (IntWalk.u64_in _ (by omega))
  go_enter Tryz.func22, Tryz.ntmps22
  go_wp2_with fail
  refine wp_region_plan (R := Ext) (.q 1 (.q 2 (.q 3 (.q 4 (.q 5 (.l 0 (.l 6 (.q 7 (.l 8 (.l 9 (.q 10 .done))))))))))) (by kernel_rfl) (by kernel_rfl) (by kernel_rfl) (by kernel_rfl) Ext.refl (fun _ _ _ => Ext.trans) ?_
  refine absE (fun x1 hx1 => ?_)
  have hx : Ext w x1 := by rw [hx1]; exact (((Ext.refl _).alloc _).alloc _).drew
  have bp : Bl x1 (w.heap.size) #[.int .i64 k, .int .u8 (r0 : Int), .int .u8 (g0 : Int), .int .u8 (b0 : Int), .int .u8 (a0 : Int), .int .u8 (r1 : Int), .int .u8 (g1 : Int), .int .u8 (b1 : Int), .int .u8 (a1 : Int), .int .i64 px, .int .i64 py, .int .i64 qx, .int .i64 qy, .int .i64 (R : Int), .int .i64 ux, .int .i64 uy, .int .i64 vx, .int .i64 vy, .int .i64 x, .int .i64 y, .slice a n c, .bool s] := by rw [hx1]; exact ((Bl.new (by simp)).alloc (by simp)).drew
  have bz : Bl x1 (w.heap.size + 1) #[.int .i64 ax, .int .i64 ay] := by rw [hx1]; exact (Bl.new (by simp)).drew
  have HE := hx
  clear hx
  clear hx1
  repeat (refine wpE_q (v := ?_) rfl rfl (fun u hu => ?_) ?_; rotate_left 1; (focus (have kp := Bl.ext hu bp (Nat.succ_pos _); have kz := Bl.ext hu bz (Nat.succ_pos _); have wq := WD.out; go_simp; (try rfl))); simp only [Act.put, List.setIfInBounds_toArray, List.set_cons_zero, List.set_cons_succ])
  refine wpE_l rfl rfl (fun K hK => ?_)
  go_simp
  refine (A2.out _).mono ?_
  rintro e u1 ⟨a1_, n1_, c1_, rfl, hs1, hx⟩
  refine hK.out _ _ hx ?_
  clear hK K
  try simp only [Act.put, List.setIfInBounds_toArray, List.set_cons_zero, List.set_cons_succ]
  replace bp := Bl.ext hx bp (Nat.succ_pos _)
  replace bz := Bl.ext hx bz (Nat.succ_pos _)
  replace HE := HE.trans hx
  clear hx
  replace hs1 : Nc u1 a1_ n1_ c1_ 65025 := hs1
  refine wpE_l rfl rfl (fun K hK => ?_)
  go_simp
  refine (A1.out _).mono ?_
  rintro e u2 ⟨rfl, hx⟩
  refine hK.out _ _ hx ?_
  clear hK K
  try simp only [Act.put, List.setIfInBounds_toArray, List.set_cons_zero, List.set_cons_succ]
  replace bp := Bl.ext hx bp (Nat.succ_pos _)
  replace bz := Bl.ext hx bz (Nat.succ_pos _)
  replace hs1 := hs1.ext hx
  replace HE := HE.trans hx
  clear hx
  repeat (refine wpE_q (v := ?_) rfl rfl (fun u hu => ?_) ?_; rotate_left 1; (focus (have kp := Bl.ext hu bp (Nat.succ_pos _); have kz := Bl.ext hu bz (Nat.succ_pos _); have wq := WD.out; go_simp; (try rfl))); simp only [Act.put, List.setIfInBounds_toArray, List.set_cons_zero, List.set_cons_succ])
  refine wpE_l rfl rfl (fun K hK => ?_)
  go_simp
  refine (A3.out _).mono ?_
  rintro e u3 ⟨a3_, n3_, c3_, rfl, hs3, hx⟩
  refine hK.out _ _ hx ?_
  clear hK K
  try simp only [Act.put, List.setIfInBounds_toArray, List.set_cons_zero, List.set_cons_succ]
  replace bp := Bl.ext hx bp (Nat.succ_pos _)
  replace bz := Bl.ext hx bz (Nat.succ_pos _)
  replace hs1 := hs1.ext hx
  replace HE := HE.trans hx
  clear hx
  replace hs3 : Nc u3 a3_ n3_ c3_ D := hs3
  refine wpE_l rfl rfl (fun K hK => ?_)
  go_simp
  refine (A5.out _ _ _ _ _ _ _ hs1 hs3).mono ?_
  rintro e u4 ⟨a4_, n4_, c4_, rfl, hs4, hx⟩
  refine hK.out _ _ hx ?_
  clear hK K
  try simp only [Act.put, List.setIfInBounds_toArray, List.set_cons_zero, List.set_cons_succ]
  replace bp := Bl.ext hx bp (Nat.succ_pos _)
  replace bz := Bl.ext hx bz (Nat.succ_pos _)
  replace hs1 := hs1.ext hx
  replace hs3 := hs3.ext hx
  replace HE := HE.trans hx
  clear hx
  replace hs4 : Nc u4 a4_ n4_ c4_ M := hs4
  repeat (refine wpE_q (v := ?_) rfl rfl (fun u hu => ?_) ?_; rotate_left 1; (focus (have kp := Bl.ext hu bp (Nat.succ_pos _); have kz := Bl.ext hu bz (Nat.succ_pos _); have wq := WD.out; go_simp; (try rfl))); simp only [Act.put, List.setIfInBounds_toArray, List.set_cons_zero, List.set_cons_succ])
  refine wpE_done ?_
  clear hs1 hs3
  go_wp2_with fail
  refine (A4.out _).mono ?_
  rintro e u5 ⟨a5_, n5_, c5_, rfl, hs5, hx⟩
  replace bp := Bl.ext hx bp (Nat.succ_pos _)
  replace bz := Bl.ext hx bz (Nat.succ_pos _)
  replace hs4 := hs4.ext hx
  replace HE := HE.trans hx
  clear hx
  replace hs5 : Nc u5 a5_ n5_ c5_ S := hs5
  go_wp2_with fail
  refine (A6.out _ _ _ _ _ _ _ hs4 hs5).mono ?_
  rintro e u6 ⟨a6_, n6_, c6_, a6r, n6r, c6r, rfl, hs6, hs6r, hx⟩
  replace bp := Bl.ext hx bp (Nat.succ_pos _)
  replace bz := Bl.ext hx bz (Nat.succ_pos _)
  replace hs4 := hs4.ext hx
  replace hs5 := hs5.ext hx
  replace HE := HE.trans hx
  clear hx
  replace hs6 : Nc u6 a6_ n6_ c6_ V := hs6
  clear hs6r
  go_wp2_with fail
  refine (A7.out _ _ _ _ hs6).mono ?_
  rintro e u7 ⟨a7_, n7_, c7_, rfl, hs7, hx⟩
  replace bp := Bl.ext hx bp (Nat.succ_pos _)
  replace bz := Bl.ext hx bz (Nat.succ_pos _)
  replace hs4 := hs4.ext hx
  replace hs5 := hs5.ext hx
  replace hs6 := hs6.ext hx
  replace HE := HE.trans hx
  clear hx
  replace hs7 : Nc u7 a7_ n7_ c7_ I := hs7
  go_wp2_with fail
  refine (A8.out _ _ _ _ hs7).mono ?_
  rintro e u8 ⟨rfl, rfl⟩
  by_cases hi : I ≤ 255
  · have hi2 : ¬ ((255 : Int) < (I : Int)) := by omega
    have hi3 : ¬ (255 < I) := by omega
    go_wp2_with fail
    go_ret
    rw [HRF.out, Nat.min_eq_left hi]
    exact ⟨rfl, HE⟩
  · have hi2 : (255 : Int) < (I : Int) := by omega
    have hi3 : 255 < I := by omega
    go_wp2_with fail
    go_ret
    rw [HRF.out, Nat.min_eq_right (by omega)]
    exact ⟨rfl, HE⟩

end Go.Proofs.YtmibjfkpchncgaaGreat
