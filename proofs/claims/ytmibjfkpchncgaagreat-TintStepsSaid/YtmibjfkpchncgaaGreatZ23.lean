/- Paints: the document's steps and colours; the law. -/
import Derived.Test.YtmibjfkpchncgaaGreatZ22
import Derived.Test.YtmibjfkpchncgaaGreatZ8
namespace Go.Proofs.YtmibjfkpchncgaaGreat
set_option linter.unusedVariables false
set_option linter.unusedSimpArgs false
open Go Go.RowKit


set_option maxRecDepth 100000 in
set_option maxHeartbeats 8000000 in
theorem e_Step_no (k : Int) (r0 g0 b0 a0 r1 g1 b1 a1 : Nat) (px py qx qy r ux uy vx vy : Int) (x y : Int) (a : Option Addr) (n c : Nat) (s : Bool) (ax ay : Int) (w : World) (hm : mayT k px py qx qy r = false) :
    Calls Tryz.prog 7 #[.agg #[.int .i64 k, .int .u8 (r0 : Int), .int .u8 (g0 : Int), .int .u8 (b0 : Int), .int .u8 (a0 : Int), .int .u8 (r1 : Int), .int .u8 (g1 : Int), .int .u8 (b1 : Int), .int .u8 (a1 : Int), .int .i64 px, .int .i64 py, .int .i64 qx, .int .i64 qy, .int .i64 r, .int .i64 ux, .int .i64 uy, .int .i64 vx, .int .i64 vy, .int .i64 x, .int .i64 y, .slice a n c, .bool s], .agg #[.int .i64 ax, .int .i64 ay]] w fun e w' => e = .returned (.int .u8 (stepF k px py qx qy r ax ay : Nat)) ∧ Ext w w' := by
  have HM := hidP (fun u => e_May k r0 g0 b0 a0 r1 g1 b1 a1 px py qx qy r ux uy vx vy x y a n c s u)
  have HR : Hid (stepF k px py qx qy r ax ay = 0) := hidP (if_neg (by rw [hm]; simp))
  rw [hm] at HM
  clear hm
  generalize stepF k px py qx qy r ax ay = rr at *
  go_enter Tryz.func7, Tryz.ntmps7
  go_upto_region 1 with fail
  refine absW (fun x1 hx1 => ?_)
  have hx : Ext w x1 := by rw [hx1]; exact (((Ext.refl _).alloc _).alloc _)
  have bp : Bl x1 (w.heap.size) #[.int .i64 k, .int .u8 (r0 : Int), .int .u8 (g0 : Int), .int .u8 (b0 : Int), .int .u8 (a0 : Int), .int .u8 (r1 : Int), .int .u8 (g1 : Int), .int .u8 (b1 : Int), .int .u8 (a1 : Int), .int .i64 px, .int .i64 py, .int .i64 qx, .int .i64 qy, .int .i64 r, .int .i64 ux, .int .i64 uy, .int .i64 vx, .int .i64 vy, .int .i64 x, .int .i64 y, .slice a n c, .bool s] := by rw [hx1]; exact ((Bl.new (by simp)).alloc (by simp))
  have bz : Bl x1 (w.heap.size + 1) #[.int .i64 ax, .int .i64 ay] := by rw [hx1]; exact (Bl.new (by simp))
  have HE := hx
  clear hx
  clear hx1
  go_wp2_with (first | (refine wpList_loadB bp rfl rfl rfl rfl ?_))
  refine (HM.out _).mono ?_
  rintro e u1 ⟨rfl, hx⟩
  replace bp := Bl.ext hx bp (Nat.succ_pos _)
  replace bz := Bl.ext hx bz (Nat.succ_pos _)
  replace HE := HE.trans hx
  clear hx
  go_wp2_with fail
  go_ret
  rw [HR.out]
  exact ⟨rfl, HE⟩

set_option maxRecDepth 100000 in
set_option maxHeartbeats 8000000 in
theorem e_Step_off (k : Int) (r0 g0 b0 a0 r1 g1 b1 a1 : Nat) (px py qx qy r ux uy vx vy : Int) (x y : Int) (a : Option Addr) (n c : Nat) (s : Bool) (ax ay : Int) (w : World) (hm : mayT k px py qx qy r = true) (hf : fitP ax ay = false) :
    Calls Tryz.prog 7 #[.agg #[.int .i64 k, .int .u8 (r0 : Int), .int .u8 (g0 : Int), .int .u8 (b0 : Int), .int .u8 (a0 : Int), .int .u8 (r1 : Int), .int .u8 (g1 : Int), .int .u8 (b1 : Int), .int .u8 (a1 : Int), .int .i64 px, .int .i64 py, .int .i64 qx, .int .i64 qy, .int .i64 r, .int .i64 ux, .int .i64 uy, .int .i64 vx, .int .i64 vy, .int .i64 x, .int .i64 y, .slice a n c, .bool s], .agg #[.int .i64 ax, .int .i64 ay]] w fun e w' => e = .returned (.int .u8 (stepF k px py qx qy r ax ay : Nat)) ∧ Ext w w' := by
  have HM := hidP (fun u => e_May k r0 g0 b0 a0 r1 g1 b1 a1 px py qx qy r ux uy vx vy x y a n c s u)
  have HF := hidP (d_Fits ax ay)
  have HR : Hid (stepF k px py qx qy r ax ay = 0) := hidP (if_neg (by rw [hf]; simp))
  rw [hm] at HM
  rw [hf] at HF
  clear hm hf
  generalize stepF k px py qx qy r ax ay = rr at *
  go_enter Tryz.func7, Tryz.ntmps7
  go_upto_region 1 with fail
  refine absW (fun x1 hx1 => ?_)
  have hx : Ext w x1 := by rw [hx1]; exact (((Ext.refl _).alloc _).alloc _)
  have bp : Bl x1 (w.heap.size) #[.int .i64 k, .int .u8 (r0 : Int), .int .u8 (g0 : Int), .int .u8 (b0 : Int), .int .u8 (a0 : Int), .int .u8 (r1 : Int), .int .u8 (g1 : Int), .int .u8 (b1 : Int), .int .u8 (a1 : Int), .int .i64 px, .int .i64 py, .int .i64 qx, .int .i64 qy, .int .i64 r, .int .i64 ux, .int .i64 uy, .int .i64 vx, .int .i64 vy, .int .i64 x, .int .i64 y, .slice a n c, .bool s] := by rw [hx1]; exact ((Bl.new (by simp)).alloc (by simp))
  have bz : Bl x1 (w.heap.size + 1) #[.int .i64 ax, .int .i64 ay] := by rw [hx1]; exact (Bl.new (by simp))
  have HE := hx
  clear hx
  clear hx1
  go_wp2_with (first | (refine wpList_loadB bp rfl rfl rfl rfl ?_))
  refine (HM.out _).mono ?_
  rintro e u1 ⟨rfl, hx⟩
  replace bp := Bl.ext hx bp (Nat.succ_pos _)
  replace bz := Bl.ext hx bz (Nat.succ_pos _)
  replace HE := HE.trans hx
  clear hx
  go_wp2_with fail
  refine (HF.out _).mono ?_
  rintro e u2 ⟨rfl, hx⟩
  replace bp := Bl.ext hx bp (Nat.succ_pos _)
  replace bz := Bl.ext hx bz (Nat.succ_pos _)
  replace HE := HE.trans hx
  clear hx
  go_wp2_with fail
  go_ret
  rw [HR.out]
  exact ⟨rfl, HE⟩

set_option maxRecDepth 100000 in
set_option maxHeartbeats 8000000 in
theorem e_Step_lin (r0 g0 b0 a0 r1 g1 b1 a1 : Nat) (px py qx qy r ux uy vx vy : Int) (x y : Int) (a : Option Addr) (n c : Nat) (s : Bool) (ax ay : Int) (w : World) (hm : mayT 2 px py qx qy r = true) (hf : fitP ax ay = true) :
    Calls Tryz.prog 7 #[.agg #[.int .i64 2, .int .u8 (r0 : Int), .int .u8 (g0 : Int), .int .u8 (b0 : Int), .int .u8 (a0 : Int), .int .u8 (r1 : Int), .int .u8 (g1 : Int), .int .u8 (b1 : Int), .int .u8 (a1 : Int), .int .i64 px, .int .i64 py, .int .i64 qx, .int .i64 qy, .int .i64 r, .int .i64 ux, .int .i64 uy, .int .i64 vx, .int .i64 vy, .int .i64 x, .int .i64 y, .slice a n c, .bool s], .agg #[.int .i64 ax, .int .i64 ay]] w fun e w' => e = .returned (.int .u8 (stepF 2 px py qx qy r ax ay : Nat)) ∧ Ext w w' := by
  obtain ⟨hp, hq, hk⟩ := mayT_parts hm
  have HM := hidP (fun u => e_May 2 r0 g0 b0 a0 r1 g1 b1 a1 px py qx qy r ux uy vx vy x y a n c s u)
  have HF := hidP (d_Fits ax ay)
  have HR : Hid (stepF 2 px py qx qy r ax ay = linF (prodP px py ax ay qx qy) (prodP px py qx qy qx qy)) := hidP (by unfold stepF; rw [if_pos ⟨hm, hf⟩]; rfl)
  have HL := hidP (fun u => e_linear 2 r0 g0 b0 a0 r1 g1 b1 a1 px py qx qy r ux uy vx vy x y a n c s ax ay u hp hq hf)
  have hle : linF (prodP px py ax ay qx qy) (prodP px py qx qy qx qy) ≤ 255 := linF_le _ _ prodP_self
  rw [hm] at HM
  rw [hf] at HF
  clear hm hf hp hq hk
  generalize stepF 2 px py qx qy r ax ay = rr at *
  generalize linF (prodP px py ax ay qx qy) (prodP px py qx qy qx qy) = I at *
  have hle2 : (I : Int) ≤ 255 := by omega
  go_enter Tryz.func7, Tryz.ntmps7
  go_upto_region 1 with fail
  refine absW (fun x1 hx1 => ?_)
  have hx : Ext w x1 := by rw [hx1]; exact (((Ext.refl _).alloc _).alloc _)
  have bp : Bl x1 (w.heap.size) #[.int .i64 2, .int .u8 (r0 : Int), .int .u8 (g0 : Int), .int .u8 (b0 : Int), .int .u8 (a0 : Int), .int .u8 (r1 : Int), .int .u8 (g1 : Int), .int .u8 (b1 : Int), .int .u8 (a1 : Int), .int .i64 px, .int .i64 py, .int .i64 qx, .int .i64 qy, .int .i64 r, .int .i64 ux, .int .i64 uy, .int .i64 vx, .int .i64 vy, .int .i64 x, .int .i64 y, .slice a n c, .bool s] := by rw [hx1]; exact ((Bl.new (by simp)).alloc (by simp))
  have bz : Bl x1 (w.heap.size + 1) #[.int .i64 ax, .int .i64 ay] := by rw [hx1]; exact (Bl.new (by simp))
  have HE := hx
  clear hx
  clear hx1
  go_wp2_with (first | (refine wpList_loadB bp rfl rfl rfl rfl ?_))
  refine (HM.out _).mono ?_
  rintro e u1 ⟨rfl, hx⟩
  replace bp := Bl.ext hx bp (Nat.succ_pos _)
  replace bz := Bl.ext hx bz (Nat.succ_pos _)
  replace HE := HE.trans hx
  clear hx
  go_wp2_with fail
  refine (HF.out _).mono ?_
  rintro e u2 ⟨rfl, hx⟩
  replace bp := Bl.ext hx bp (Nat.succ_pos _)
  replace bz := Bl.ext hx bz (Nat.succ_pos _)
  replace HE := HE.trans hx
  clear hx
  go_wp2_with (first | (refine wpList_loadB bp rfl rfl rfl rfl ?_))
  refine (HL.out _).mono ?_
  rintro e u3 ⟨rfl, hx⟩
  replace bp := Bl.ext hx bp (Nat.succ_pos _)
  replace bz := Bl.ext hx bz (Nat.succ_pos _)
  replace HE := HE.trans hx
  clear hx
  go_wp2_with fail
  go_ret
  rw [HR.out]
  exact ⟨rfl, HE⟩

set_option maxRecDepth 100000 in
set_option maxHeartbeats 8000000 in
theorem e_Step_rad (r0 g0 b0 a0 r1 g1 b1 a1 : Nat) (px py qx qy r ux uy vx vy : Int) (x y : Int) (a : Option Addr) (n c : Nat) (s : Bool) (ax ay : Int) (w : World) (hm : mayT 3 px py qx qy r = true) (hf : fitP ax ay = true) :
    Calls Tryz.prog 7 #[.agg #[.int .i64 3, .int .u8 (r0 : Int), .int .u8 (g0 : Int), .int .u8 (b0 : Int), .int .u8 (a0 : Int), .int .u8 (r1 : Int), .int .u8 (g1 : Int), .int .u8 (b1 : Int), .int .u8 (a1 : Int), .int .i64 px, .int .i64 py, .int .i64 qx, .int .i64 qy, .int .i64 r, .int .i64 ux, .int .i64 uy, .int .i64 vx, .int .i64 vy, .int .i64 x, .int .i64 y, .slice a n c, .bool s], .agg #[.int .i64 ax, .int .i64 ay]] w fun e w' => e = .returned (.int .u8 (stepF 3 px py qx qy r ax ay : Nat)) ∧ Ext w w' := by
  obtain ⟨hp, hq, hk⟩ := mayT_parts hm
  have HM := hidP (fun u => e_May 3 r0 g0 b0 a0 r1 g1 b1 a1 px py qx qy r ux uy vx vy x y a n c s u)
  have HF := hidP (d_Fits ax ay)
  have hr : 1 ≤ r ∧ r ≤ 8388607 := by omega
  have HR : Hid (stepF 3 px py qx qy r ax ay = radF (prodP px py ax ay ax ay) r) := hidP (by unfold stepF; rw [if_pos ⟨hm, hf⟩]; rfl)
  have HL := hidP (fun u => e_radial 3 r0 g0 b0 a0 r1 g1 b1 a1 px py qx qy r ux uy vx vy x y a n c s ax ay u hp hf hr.1 hr.2)
  have hle : radF (prodP px py ax ay ax ay) r ≤ 255 := radF_le _ _
  rw [hm] at HM
  rw [hf] at HF
  clear hm hf hp hq hk
  generalize stepF 3 px py qx qy r ax ay = rr at *
  generalize radF (prodP px py ax ay ax ay) r = I at *
  have hle2 : (I : Int) ≤ 255 := by omega
  go_enter Tryz.func7, Tryz.ntmps7
  go_upto_region 1 with fail
  refine absW (fun x1 hx1 => ?_)
  have hx : Ext w x1 := by rw [hx1]; exact (((Ext.refl _).alloc _).alloc _)
  have bp : Bl x1 (w.heap.size) #[.int .i64 3, .int .u8 (r0 : Int), .int .u8 (g0 : Int), .int .u8 (b0 : Int), .int .u8 (a0 : Int), .int .u8 (r1 : Int), .int .u8 (g1 : Int), .int .u8 (b1 : Int), .int .u8 (a1 : Int), .int .i64 px, .int .i64 py, .int .i64 qx, .int .i64 qy, .int .i64 r, .int .i64 ux, .int .i64 uy, .int .i64 vx, .int .i64 vy, .int .i64 x, .int .i64 y, .slice a n c, .bool s] := by rw [hx1]; exact ((Bl.new (by simp)).alloc (by simp))
  have bz : Bl x1 (w.heap.size + 1) #[.int .i64 ax, .int .i64 ay] := by rw [hx1]; exact (Bl.new (by simp))
  have HE := hx
  clear hx
  clear hx1
  go_wp2_with (first | (refine wpList_loadB bp rfl rfl rfl rfl ?_))
  refine (HM.out _).mono ?_
  rintro e u1 ⟨rfl, hx⟩
  replace bp := Bl.ext hx bp (Nat.succ_pos _)
  replace bz := Bl.ext hx bz (Nat.succ_pos _)
  replace HE := HE.trans hx
  clear hx
  go_wp2_with fail
  refine (HF.out _).mono ?_
  rintro e u2 ⟨rfl, hx⟩
  replace bp := Bl.ext hx bp (Nat.succ_pos _)
  replace bz := Bl.ext hx bz (Nat.succ_pos _)
  replace HE := HE.trans hx
  clear hx
  go_wp2_with (first | (refine wpList_loadB bp rfl rfl rfl rfl ?_))
  refine (HL.out _).mono ?_
  rintro e u3 ⟨rfl, hx⟩
  replace bp := Bl.ext hx bp (Nat.succ_pos _)
  replace bz := Bl.ext hx bz (Nat.succ_pos _)
  replace HE := HE.trans hx
  clear hx
  go_wp2_with fail
  go_ret
  rw [HR.out]
  exact ⟨rfl, HE⟩

set_option maxRecDepth 100000 in
set_option maxHeartbeats 8000000 in
theorem e_Step_plain (r0 g0 b0 a0 r1 g1 b1 a1 : Nat) (px py qx qy r ux uy vx vy : Int) (x y : Int) (a : Option Addr) (n c : Nat) (s : Bool) (ax ay : Int) (w : World) (hm : mayT 1 px py qx qy r = true) (hf : fitP ax ay = true) :
    Calls Tryz.prog 7 #[.agg #[.int .i64 1, .int .u8 (r0 : Int), .int .u8 (g0 : Int), .int .u8 (b0 : Int), .int .u8 (a0 : Int), .int .u8 (r1 : Int), .int .u8 (g1 : Int), .int .u8 (b1 : Int), .int .u8 (a1 : Int), .int .i64 px, .int .i64 py, .int .i64 qx, .int .i64 qy, .int .i64 r, .int .i64 ux, .int .i64 uy, .int .i64 vx, .int .i64 vy, .int .i64 x, .int .i64 y, .slice a n c, .bool s], .agg #[.int .i64 ax, .int .i64 ay]] w fun e w' => e = .returned (.int .u8 (stepF 1 px py qx qy r ax ay : Nat)) ∧ Ext w w' := by
  obtain ⟨hp, hq, hk⟩ := mayT_parts hm
  have HM := hidP (fun u => e_May 1 r0 g0 b0 a0 r1 g1 b1 a1 px py qx qy r ux uy vx vy x y a n c s u)
  have HF := hidP (d_Fits ax ay)
  have HR : Hid (stepF 1 px py qx qy r ax ay = 0) := hidP (by unfold stepF; rw [if_pos ⟨hm, hf⟩]; rfl)
  rw [hm] at HM
  rw [hf] at HF
  clear hm hf hp hq hk
  generalize stepF 1 px py qx qy r ax ay = rr at *
  go_enter Tryz.func7, Tryz.ntmps7
  go_upto_region 1 with fail
  refine absW (fun x1 hx1 => ?_)
  have hx : Ext w x1 := by rw [hx1]; exact (((Ext.refl _).alloc _).alloc _)
  have bp : Bl x1 (w.heap.size) #[.int .i64 1, .int .u8 (r0 : Int), .int .u8 (g0 : Int), .int .u8 (b0 : Int), .int .u8 (a0 : Int), .int .u8 (r1 : Int), .int .u8 (g1 : Int), .int .u8 (b1 : Int), .int .u8 (a1 : Int), .int .i64 px, .int .i64 py, .int .i64 qx, .int .i64 qy, .int .i64 r, .int .i64 ux, .int .i64 uy, .int .i64 vx, .int .i64 vy, .int .i64 x, .int .i64 y, .slice a n c, .bool s] := by rw [hx1]; exact ((Bl.new (by simp)).alloc (by simp))
  have bz : Bl x1 (w.heap.size + 1) #[.int .i64 ax, .int .i64 ay] := by rw [hx1]; exact (Bl.new (by simp))
  have HE := hx
  clear hx
  clear hx1
  go_wp2_with (first | (refine wpList_loadB bp rfl rfl rfl rfl ?_))
  refine (HM.out _).mono ?_
  rintro e u1 ⟨rfl, hx⟩
  replace bp := Bl.ext hx bp (Nat.succ_pos _)
  replace bz := Bl.ext hx bz (Nat.succ_pos _)
  replace HE := HE.trans hx
  clear hx
  go_wp2_with fail
  refine (HF.out _).mono ?_
  rintro e u2 ⟨rfl, hx⟩
  replace bp := Bl.ext hx bp (Nat.succ_pos _)
  replace bz := Bl.ext hx bz (Nat.succ_pos _)
  replace HE := HE.trans hx
  clear hx
  go_wp2_with fail
  go_ret
  rw [HR.out]
  exact ⟨rfl, HE⟩
theorem e_Step (k : Int) (r0 g0 b0 a0 r1 g1 b1 a1 : Nat) (px py qx qy r ux uy vx vy : Int) (x y : Int) (a : Option Addr) (n c : Nat) (s : Bool) (ax ay : Int) (w : World) :
    Calls Tryz.prog 7 #[.agg #[.int .i64 k, .int .u8 (r0 : Int), .int .u8 (g0 : Int), .int .u8 (b0 : Int), .int .u8 (a0 : Int), .int .u8 (r1 : Int), .int .u8 (g1 : Int), .int .u8 (b1 : Int), .int .u8 (a1 : Int), .int .i64 px, .int .i64 py, .int .i64 qx, .int .i64 qy, .int .i64 r, .int .i64 ux, .int .i64 uy, .int .i64 vx, .int .i64 vy, .int .i64 x, .int .i64 y, .slice a n c, .bool s], .agg #[.int .i64 ax, .int .i64 ay]] w fun e w' => e = .returned (.int .u8 (stepF k px py qx qy r ax ay : Nat)) ∧ Ext w w' := by
  cases hm : mayT k px py qx qy r
  · exact e_Step_no k r0 g0 b0 a0 r1 g1 b1 a1 px py qx qy r ux uy vx vy x y a n c s ax ay w hm
  · cases hf : fitP ax ay
    · exact e_Step_off k r0 g0 b0 a0 r1 g1 b1 a1 px py qx qy r ux uy vx vy x y a n c s ax ay w hm hf
    · obtain ⟨_, _, hk⟩ := mayT_parts hm
      by_cases k2 : k = 2
      · subst k2; exact e_Step_lin r0 g0 b0 a0 r1 g1 b1 a1 px py qx qy r ux uy vx vy x y a n c s ax ay w hm hf
      · by_cases k3 : k = 3
        · subst k3; exact e_Step_rad r0 g0 b0 a0 r1 g1 b1 a1 px py qx qy r ux uy vx vy x y a n c s ax ay w hm hf
        · obtain rfl : k = 1 := by omega
          exact e_Step_plain r0 g0 b0 a0 r1 g1 b1 a1 px py qx qy r ux uy vx vy x y a n c s ax ay w hm hf

set_option maxRecDepth 100000 in
set_option maxHeartbeats 8000000 in
theorem e_At (k : Int) (r0 g0 b0 a0 r1 g1 b1 a1 : Nat) (px py qx qy r ux uy vx vy : Int) (x y : Int) (a : Option Addr) (n c : Nat) (s : Bool) (ax ay : Int) (w : World) (h0 : Col8 r0 g0 b0 a0) (h1 : Col8 r1 g1 b1 a1) :
    Calls Tryz.prog 9 #[.agg #[.int .i64 k, .int .u8 (r0 : Int), .int .u8 (g0 : Int), .int .u8 (b0 : Int), .int .u8 (a0 : Int), .int .u8 (r1 : Int), .int .u8 (g1 : Int), .int .u8 (b1 : Int), .int .u8 (a1 : Int), .int .i64 px, .int .i64 py, .int .i64 qx, .int .i64 qy, .int .i64 r, .int .i64 ux, .int .i64 uy, .int .i64 vx, .int .i64 vy, .int .i64 x, .int .i64 y, .slice a n c, .bool s], .agg #[.int .i64 ax, .int .i64 ay]] w fun e w' => e = .returned (colV (atF k r0 g0 b0 a0 r1 g1 b1 a1 px py qx qy r ax ay)) ∧ Ext w w' := by
  have HM := hidP (fun u => e_May k r0 g0 b0 a0 r1 g1 b1 a1 px py qx qy r ux uy vx vy x y a n c s u)
  have HF := hidP (d_Fits ax ay)
  cases hm : mayT k px py qx qy r
  · have HR : Hid (atF k r0 g0 b0 a0 r1 g1 b1 a1 px py qx qy r ax ay = (0, 0, 0, 0)) := hidP (if_neg (by rw [hm]; simp))
    rw [hm] at HM
    clear hm HF h0 h1
    generalize atF k r0 g0 b0 a0 r1 g1 b1 a1 px py qx qy r ax ay = rr at *
    go_enter Tryz.func9, Tryz.ntmps9
    go_upto_region 1 with fail
    refine absW (fun x1 hx1 => ?_)
    have hx : Ext w x1 := by rw [hx1]; exact ((((Ext.refl _).alloc _).alloc _).alloc _)
    have bp : Bl x1 (w.heap.size) #[.int .i64 k, .int .u8 (r0 : Int), .int .u8 (g0 : Int), .int .u8 (b0 : Int), .int .u8 (a0 : Int), .int .u8 (r1 : Int), .int .u8 (g1 : Int), .int .u8 (b1 : Int), .int .u8 (a1 : Int), .int .i64 px, .int .i64 py, .int .i64 qx, .int .i64 qy, .int .i64 r, .int .i64 ux, .int .i64 uy, .int .i64 vx, .int .i64 vy, .int .i64 x, .int .i64 y, .slice a n c, .bool s] := by rw [hx1]; exact (((Bl.new (by simp)).alloc (by simp)).alloc (by simp))
    have bz : Bl x1 (w.heap.size + 1) #[.int .i64 ax, .int .i64 ay] := by rw [hx1]; exact ((Bl.new (by simp)).alloc (by simp))
    have bo : Bl x1 (w.heap.size + 1 + 1) #[.int .u8 0, .int .u8 0, .int .u8 0, .int .u8 0] := by rw [hx1]; exact (Bl.new (by simp))
    have fo : Fz x1 (w.heap.size + 1 + 1) := by rw [hx1]; exact (Fz.new (by simp))
    have HE := hx
    clear hx
    clear hx1
    go_wp2_with (first | (refine wpList_loadB bp rfl rfl rfl rfl ?_))
    refine (HM.out _).mono ?_
    rintro e u1 ⟨rfl, hx⟩
    replace bp := Bl.ext hx bp (Nat.succ_pos _)
    replace bz := Bl.ext hx bz (Nat.succ_pos _)
    replace fo := Fz.ext hx fo bo (Nat.succ_pos _)
    replace bo := Bl.ext hx bo (Nat.succ_pos _)
    replace HE := HE.trans hx
    clear hx
    go_wp2_with fail
    refine absB (fun ue hue => ?_)
    have hbs : Bl ue (w.heap.size + 1 + 1) #[.int .u8 0, .int .u8 0, .int .u8 0, .int .u8 0] := by rw [hue]; exact ((((bo.set (by simp)).set (by simp)).set (by simp)).set (by simp))
    have heu : Ext w ue := by rw [hue]; exact (((HE.store (by show w.heap.size ≤ w.heap.size + 1 + 1; omega) _).store (by show w.heap.size ≤ w.heap.size + 1 + 1; omega) _).store (by show w.heap.size ≤ w.heap.size + 1 + 1; omega) _).store (by show w.heap.size ≤ w.heap.size + 1 + 1; omega) _
    clear hue
    refine bodyPost_cells rfl rfl Tryz.underlying23 rfl (by kernel_rfl) (blk_four hbs) rfl ?_
    rw [HR.out]
    exact ⟨rfl, heu⟩
  · cases hf : fitP ax ay
    · have HR : Hid (atF k r0 g0 b0 a0 r1 g1 b1 a1 px py qx qy r ax ay = (0, 0, 0, 0)) := hidP (if_neg (by rw [hf]; simp))
      rw [hm] at HM
      rw [hf] at HF
      clear hm hf h0 h1
      generalize atF k r0 g0 b0 a0 r1 g1 b1 a1 px py qx qy r ax ay = rr at *
      go_enter Tryz.func9, Tryz.ntmps9
      go_upto_region 1 with fail
      refine absW (fun x1 hx1 => ?_)
      have hx : Ext w x1 := by rw [hx1]; exact ((((Ext.refl _).alloc _).alloc _).alloc _)
      have bp : Bl x1 (w.heap.size) #[.int .i64 k, .int .u8 (r0 : Int), .int .u8 (g0 : Int), .int .u8 (b0 : Int), .int .u8 (a0 : Int), .int .u8 (r1 : Int), .int .u8 (g1 : Int), .int .u8 (b1 : Int), .int .u8 (a1 : Int), .int .i64 px, .int .i64 py, .int .i64 qx, .int .i64 qy, .int .i64 r, .int .i64 ux, .int .i64 uy, .int .i64 vx, .int .i64 vy, .int .i64 x, .int .i64 y, .slice a n c, .bool s] := by rw [hx1]; exact (((Bl.new (by simp)).alloc (by simp)).alloc (by simp))
      have bz : Bl x1 (w.heap.size + 1) #[.int .i64 ax, .int .i64 ay] := by rw [hx1]; exact ((Bl.new (by simp)).alloc (by simp))
      have bo : Bl x1 (w.heap.size + 1 + 1) #[.int .u8 0, .int .u8 0, .int .u8 0, .int .u8 0] := by rw [hx1]; exact (Bl.new (by simp))
      have fo : Fz x1 (w.heap.size + 1 + 1) := by rw [hx1]; exact (Fz.new (by simp))
      have HE := hx
      clear hx
      clear hx1
      go_wp2_with (first | (refine wpList_loadB bp rfl rfl rfl rfl ?_))
      refine (HM.out _).mono ?_
      rintro e u1 ⟨rfl, hx⟩
      replace bp := Bl.ext hx bp (Nat.succ_pos _)
      replace bz := Bl.ext hx bz (Nat.succ_pos _)
      replace fo := Fz.ext hx fo bo (Nat.succ_pos _)
      replace bo := Bl.ext hx bo (Nat.succ_pos _)
      replace HE := HE.trans hx
      clear hx
      go_wp2_with fail
      refine (HF.out _).mono ?_
      rintro e u2 ⟨rfl, hx⟩
      replace bp := Bl.ext hx bp (Nat.succ_pos _)
      replace bz := Bl.ext hx bz (Nat.succ_pos _)
      replace fo := Fz.ext hx fo bo (Nat.succ_pos _)
      replace bo := Bl.ext hx bo (Nat.succ_pos _)
      replace HE := HE.trans hx
      clear hx
      go_wp2_with fail
      refine absB (fun ue hue => ?_)
      have hbs : Bl ue (w.heap.size + 1 + 1) #[.int .u8 0, .int .u8 0, .int .u8 0, .int .u8 0] := by rw [hue]; exact ((((bo.set (by simp)).set (by simp)).set (by simp)).set (by simp))
      have heu : Ext w ue := by rw [hue]; exact (((HE.store (by show w.heap.size ≤ w.heap.size + 1 + 1; omega) _).store (by show w.heap.size ≤ w.heap.size + 1 + 1; omega) _).store (by show w.heap.size ≤ w.heap.size + 1 + 1; omega) _).store (by show w.heap.size ≤ w.heap.size + 1 + 1; omega) _
      clear hue
      refine bodyPost_cells rfl rfl Tryz.underlying23 rfl (by kernel_rfl) (blk_four hbs) rfl ?_
      rw [HR.out]
      exact ⟨rfl, heu⟩
    · have hn := stepF_le k px py qx qy r ax ay
      have HS := hidP (fun u => e_Step k r0 g0 b0 a0 r1 g1 b1 a1 px py qx qy r ux uy vx vy x y a n c s ax ay u)
      have HR : Hid (atF k r0 g0 b0 a0 r1 g1 b1 a1 px py qx qy r ax ay = wmix (stepF k px py qx qy r ax ay) r0 g0 b0 a0 r1 g1 b1 a1) := hidP (if_pos ⟨hm, hf⟩)
      rw [hm] at HM
      rw [hf] at HF
      clear hm hf
      generalize atF k r0 g0 b0 a0 r1 g1 b1 a1 px py qx qy r ax ay = rr at *
      generalize stepF k px py qx qy r ax ay = S at *
      have HX := hidP (fun u => r08_mix_any S r0 g0 b0 a0 r1 g1 b1 a1 u h0 h1 hn)
      have HW := hidP (fun u => r08_weigh_any (mixr S r0 r1) (mixr S g0 g1) (mixr S b0 b1) (mixr S a0 a1) u ⟨mixr_le _ _ _, mixr_le _ _ _, mixr_le _ _ _, mixr_le _ _ _⟩)
      unfold wmix at HR
      generalize mixr S a0 a1 = c3 at *
      generalize fadr c3 (mixr S r0 r1) (mixr S r0 r1) = c0 at *
      generalize fadr c3 (mixr S g0 g1) (mixr S g0 g1) = c1 at *
      generalize fadr c3 (mixr S b0 b1) (mixr S b0 b1) = c2 at *
      generalize mixr S r0 r1 = d0 at *
      generalize mixr S g0 g1 = d1 at *
      generalize mixr S b0 b1 = d2 at *
      clear h0 h1
      go_enter Tryz.func9, Tryz.ntmps9
      go_upto_region 1 with fail
      refine absW (fun x1 hx1 => ?_)
      have hx : Ext w x1 := by rw [hx1]; exact ((((Ext.refl _).alloc _).alloc _).alloc _)
      have bp : Bl x1 (w.heap.size) #[.int .i64 k, .int .u8 (r0 : Int), .int .u8 (g0 : Int), .int .u8 (b0 : Int), .int .u8 (a0 : Int), .int .u8 (r1 : Int), .int .u8 (g1 : Int), .int .u8 (b1 : Int), .int .u8 (a1 : Int), .int .i64 px, .int .i64 py, .int .i64 qx, .int .i64 qy, .int .i64 r, .int .i64 ux, .int .i64 uy, .int .i64 vx, .int .i64 vy, .int .i64 x, .int .i64 y, .slice a n c, .bool s] := by rw [hx1]; exact (((Bl.new (by simp)).alloc (by simp)).alloc (by simp))
      have bz : Bl x1 (w.heap.size + 1) #[.int .i64 ax, .int .i64 ay] := by rw [hx1]; exact ((Bl.new (by simp)).alloc (by simp))
      have bo : Bl x1 (w.heap.size + 1 + 1) #[.int .u8 0, .int .u8 0, .int .u8 0, .int .u8 0] := by rw [hx1]; exact (Bl.new (by simp))
      have fo : Fz x1 (w.heap.size + 1 + 1) := by rw [hx1]; exact (Fz.new (by simp))
      have HE := hx
      clear hx
      clear hx1
      go_wp2_with (first | (refine wpList_loadB bp rfl rfl rfl rfl ?_))
      refine (HM.out _).mono ?_
      rintro e u1 ⟨rfl, hx⟩
      replace bp := Bl.ext hx bp (Nat.succ_pos _)
      replace bz := Bl.ext hx bz (Nat.succ_pos _)
      replace fo := Fz.ext hx fo bo (Nat.succ_pos _)
      replace bo := Bl.ext hx bo (Nat.succ_pos _)
      replace HE := HE.trans hx
      clear hx
      go_wp2_with fail
      refine (HF.out _).mono ?_
      rintro e u2 ⟨rfl, hx⟩
      replace bp := Bl.ext hx bp (Nat.succ_pos _)
      replace bz := Bl.ext hx bz (Nat.succ_pos _)
      replace fo := Fz.ext hx fo bo (Nat.succ_pos _)
      replace bo := Bl.ext hx bo (Nat.succ_pos _)
      replace HE := HE.trans hx
      clear hx
      go_wp2_with fail
      refine wp_region_plan (R := Ext) (.q 0 (.q 1 (.q 2 (.q 3 (.q 4 (.q 5 (.l 6 (.l 7 (.l 8 (.b 9 .done)))))))))) (by kernel_rfl) (by kernel_rfl) (by kernel_rfl) (by kernel_rfl) Ext.refl (fun _ _ _ => Ext.trans) ?_
      refine absE (fun x2 hx2 => ?_)
      have hx : Ext u2 x2 := by rw [hx2]; exact (Ext.refl _).drew
      replace bp := Bl.ext hx bp (Nat.succ_pos _)
      replace bz := Bl.ext hx bz (Nat.succ_pos _)
      replace fo := Fz.ext hx fo bo (Nat.succ_pos _)
      replace bo := Bl.ext hx bo (Nat.succ_pos _)
      replace HE := HE.trans hx
      clear hx
      clear hx2
      repeat (first | (refine wpE_q rfl rfl (fun u hu => exec_loadB (Bl.ext hu bp (Nat.succ_pos _)) rfl rfl rfl) ?_; simp only [Act.put, List.setIfInBounds_toArray, List.set_cons_zero, List.set_cons_succ]) | (refine wpE_q (v := ?_) rfl rfl (fun u hu => ?_) ?_; rotate_left 1; (focus (have kp := Bl.ext hu bp (Nat.succ_pos _); have kz := Bl.ext hu bz (Nat.succ_pos _); have ko := Bl.ext hu bo (Nat.succ_pos _); go_simp; (try rfl))); simp only [Act.put, List.setIfInBounds_toArray, List.set_cons_zero, List.set_cons_succ]))
      refine wpE_l rfl rfl (fun K hK => ?_)
      go_simp
      refine (HS.out _).mono ?_
      rintro e u4 ⟨rfl, hx⟩
      refine hK.out _ _ hx ?_
      clear hK K
      try simp only [Act.put, List.setIfInBounds_toArray, List.set_cons_zero, List.set_cons_succ]
      replace bp := Bl.ext hx bp (Nat.succ_pos _)
      replace bz := Bl.ext hx bz (Nat.succ_pos _)
      replace fo := Fz.ext hx fo bo (Nat.succ_pos _)
      replace bo := Bl.ext hx bo (Nat.succ_pos _)
      replace HE := HE.trans hx
      clear hx
      refine wpE_l rfl rfl (fun K hK => ?_)
      go_simp
      refine (HX.out _).mono ?_
      rintro e u5 ⟨rfl, hx⟩
      refine hK.out _ _ hx ?_
      clear hK K
      try simp only [Act.put, List.setIfInBounds_toArray, List.set_cons_zero, List.set_cons_succ]
      replace bp := Bl.ext hx bp (Nat.succ_pos _)
      replace bz := Bl.ext hx bz (Nat.succ_pos _)
      replace fo := Fz.ext hx fo bo (Nat.succ_pos _)
      replace bo := Bl.ext hx bo (Nat.succ_pos _)
      replace HE := HE.trans hx
      clear hx
      refine wpE_l rfl rfl (fun K hK => ?_)
      go_simp
      refine (HW.out _).mono ?_
      rintro e u6 ⟨rfl, hx⟩
      refine hK.out _ _ hx ?_
      clear hK K
      try simp only [Act.put, List.setIfInBounds_toArray, List.set_cons_zero, List.set_cons_succ]
      replace bp := Bl.ext hx bp (Nat.succ_pos _)
      replace bz := Bl.ext hx bz (Nat.succ_pos _)
      replace fo := Fz.ext hx fo bo (Nat.succ_pos _)
      replace bo := Bl.ext hx bo (Nat.succ_pos _)
      replace HE := HE.trans hx
      clear hx
      refine wpE_b rfl rfl (fun K hK => ?_)
      go_simp
      refine hK.out _ _ ?_
      clear hK K
      try simp only [Act.put, List.setIfInBounds_toArray, List.set_cons_zero, List.set_cons_succ]
      refine wpE_done ?_
      go_wp2_with fail
      refine absB (fun ue hue => ?_)
      have hbs : Bl ue (w.heap.size + 1 + 1) #[.int .u8 (c0 : Int), .int .u8 (c1 : Int), .int .u8 (c2 : Int), .int .u8 (c3 : Int)] := by rw [hue]; exact ((((bo.set (by simp)).set (by simp)).set (by simp)).set (by simp))
      have heu : Ext w ue := by rw [hue]; exact (((HE.store (by show w.heap.size ≤ w.heap.size + 1 + 1; omega) _).store (by show w.heap.size ≤ w.heap.size + 1 + 1; omega) _).store (by show w.heap.size ≤ w.heap.size + 1 + 1; omega) _).store (by show w.heap.size ≤ w.heap.size + 1 + 1; omega) _
      clear hue
      refine bodyPost_cells rfl rfl Tryz.underlying23 rfl (by kernel_rfl) (blk_four hbs) rfl ?_
      rw [HR.out]
      exact ⟨rfl, heu⟩

/-- A block of 22 cells, read whole. -/
def BlO (w : World) (g : Nat) (cs : Array Value) : Prop := Bl w g cs ∧ cs.size = 22
theorem BlO.ext {w u : World} {g : Nat} {cs : Array Value} (h : BlO w g cs) (he : Ext w u) : BlO u g cs := ⟨Bl.ext he h.1 (by rw [h.2]; decide), h.2⟩
theorem exec_loadO {w : World} {g : Nat} {cs : Array Value} (h : BlO w g cs) {ρ : Operand → Value} {o : Oper} {x : Operand} (ho : o.op = .load 30 x) (hx : ρ x = .pointer (some ⟨g, 0, none⟩)) : (execOp ρ o).run Tryz.prog w = .ok (.value (.agg cs)) w := exec_loadB h.1 ho hx h.2


set_option maxRecDepth 100000 in
set_option maxHeartbeats 8000000 in
theorem tintSteps_any (k : Int) (r0 g0 b0 a0 r1 g1 b1 a1 : Nat) (px py qx qy r ux uy vx vy : Int) (x y : Int) (a : Option Addr) (n c : Nat) (s : Bool) (ax ay : Int) (w : World) (h0 : Col8 r0 g0 b0 a0) (h1 : Col8 r1 g1 b1 a1) :
    Calls Tryz.prog 3 #[.agg #[.int .i64 k, .int .u8 (r0 : Int), .int .u8 (g0 : Int), .int .u8 (b0 : Int), .int .u8 (a0 : Int), .int .u8 (r1 : Int), .int .u8 (g1 : Int), .int .u8 (b1 : Int), .int .u8 (a1 : Int), .int .i64 px, .int .i64 py, .int .i64 qx, .int .i64 qy, .int .i64 r, .int .i64 ux, .int .i64 uy, .int .i64 vx, .int .i64 vy, .int .i64 x, .int .i64 y, .slice a n c, .bool s], .agg #[.int .i64 ax, .int .i64 ay]] w fun e w' => e = .returned (.bool true) ∧ Ext w w' := by
  have H1 := hidP (fun u => t_May k r0 g0 b0 a0 r1 g1 b1 a1 px py qx qy r ux uy vx vy x y a n c s u)
  have H2 := hidP (fun u => e_May k r0 g0 b0 a0 r1 g1 b1 a1 px py qx qy r ux uy vx vy x y a n c s u)
  have H3 := hidP (fun u => t_Step k r0 g0 b0 a0 r1 g1 b1 a1 px py qx qy r ux uy vx vy x y a n c s ax ay u)
  have H4 := hidP (fun u => e_Step k r0 g0 b0 a0 r1 g1 b1 a1 px py qx qy r ux uy vx vy x y a n c s ax ay u)
  have H5 := hidP (fun u => t_At k r0 g0 b0 a0 r1 g1 b1 a1 px py qx qy r ux uy vx vy x y a n c s ax ay u h0 h1)
  have H6 := hidP (fun u => e_At k r0 g0 b0 a0 r1 g1 b1 a1 px py qx qy r ux uy vx vy x y a n c s ax ay u h0 h1)
  generalize mayT k px py qx qy r = m at *
  generalize stepF k px py qx qy r ax ay = S at *
  generalize atF k r0 g0 b0 a0 r1 g1 b1 a1 px py qx qy r ax ay = C at *
  obtain ⟨q0, q1, q2, q3⟩ := C
  unfold colV at H5 H6
  clear h0 h1
  go_enter Tryz.func3, Tryz.ntmps3
  go_upto_region 1 with fail
  refine absW (fun x1 hx1 => ?_)
  have hx : Ext w x1 := by rw [hx1]; exact (((Ext.refl _).alloc _).alloc _)
  have hp : BlO x1 w.heap.size #[.int .i64 k, .int .u8 (r0 : Int), .int .u8 (g0 : Int), .int .u8 (b0 : Int), .int .u8 (a0 : Int), .int .u8 (r1 : Int), .int .u8 (g1 : Int), .int .u8 (b1 : Int), .int .u8 (a1 : Int), .int .i64 px, .int .i64 py, .int .i64 qx, .int .i64 qy, .int .i64 r, .int .i64 ux, .int .i64 uy, .int .i64 vx, .int .i64 vy, .int .i64 x, .int .i64 y, .slice a n c, .bool s] := by rw [hx1]; exact ⟨(Bl.new rfl).alloc (Nat.succ_pos _), rfl⟩
  have bz : Bl x1 (w.heap.size + 1) #[.int .i64 ax, .int .i64 ay] := by rw [hx1]; exact Bl.new (by simp)
  have HE := hx
  clear hx hx1
  refine wp_region_plan (R := Ext) (.q 0 (.q 2 (.l 1 (.l 3 (.q 4 (.q 5 (.q 6 (.q 7 (.q 9 (.q 10 (.l 8 (.l 11 (.q 12 (.q 13 (.q 14 (.q 15 (.q 16 (.q 18 (.q 19 (.l 17 (.l 20 (.q 21 (.q 22 (.q 23 (.l 24 (.q 25 (.q 26 .done))))))))))))))))))))))))))) (by kernel_rfl) (by kernel_rfl) (by kernel_rfl) (by kernel_rfl) Ext.refl (fun _ _ _ => Ext.trans) ?_
  refine absE (fun x2 hx2 => ?_)
  have hx : Ext x1 x2 := by rw [hx2]; exact (Ext.refl _).drew
  replace bz := Bl.ext hx bz (Nat.succ_pos _)
  replace hp := hp.ext hx
  replace HE := HE.trans hx
  clear hx
  clear hx2
  repeat (first | (refine wpE_q rfl rfl (fun u hu => exec_loadO (hp.ext hu) rfl rfl) ?_; simp only [Act.put, List.setIfInBounds_toArray, List.set_cons_zero, List.set_cons_succ]) | (refine wpE_q (v := ?_) rfl rfl (fun u hu => ?_) ?_; rotate_left 1; (focus (have kz := Bl.ext hu bz (Nat.succ_pos _); go_simp; (try rfl))); simp only [Act.put, List.setIfInBounds_toArray, List.set_cons_zero, List.set_cons_succ]))
  refine wpE_l rfl rfl (fun K hK => ?_)
  go_simp
  refine (H1.out _).mono ?_
  rintro e u1 ⟨rfl, hx⟩
  refine hK.out _ _ hx ?_
  clear hK K
  try simp only [Act.put, List.setIfInBounds_toArray, List.set_cons_zero, List.set_cons_succ]
  replace bz := Bl.ext hx bz (Nat.succ_pos _)
  replace hp := hp.ext hx
  replace HE := HE.trans hx
  clear hx
  refine wpE_l rfl rfl (fun K hK => ?_)
  go_simp
  refine (H2.out _).mono ?_
  rintro e u2 ⟨rfl, hx⟩
  refine hK.out _ _ hx ?_
  clear hK K
  try simp only [Act.put, List.setIfInBounds_toArray, List.set_cons_zero, List.set_cons_succ]
  replace bz := Bl.ext hx bz (Nat.succ_pos _)
  replace hp := hp.ext hx
  replace HE := HE.trans hx
  clear hx
  repeat (first | (refine wpE_q rfl rfl (fun u hu => exec_loadO (hp.ext hu) rfl rfl) ?_; simp only [Act.put, List.setIfInBounds_toArray, List.set_cons_zero, List.set_cons_succ]) | (refine wpE_q (v := ?_) rfl rfl (fun u hu => ?_) ?_; rotate_left 1; (focus (have kz := Bl.ext hu bz (Nat.succ_pos _); go_simp; (try rfl))); simp only [Act.put, List.setIfInBounds_toArray, List.set_cons_zero, List.set_cons_succ]))
  refine wpE_l rfl rfl (fun K hK => ?_)
  go_simp
  refine (H3.out _).mono ?_
  rintro e u3 ⟨rfl, hx⟩
  refine hK.out _ _ hx ?_
  clear hK K
  try simp only [Act.put, List.setIfInBounds_toArray, List.set_cons_zero, List.set_cons_succ]
  replace bz := Bl.ext hx bz (Nat.succ_pos _)
  replace hp := hp.ext hx
  replace HE := HE.trans hx
  clear hx
  refine wpE_l rfl rfl (fun K hK => ?_)
  go_simp
  refine (H4.out _).mono ?_
  rintro e u4 ⟨rfl, hx⟩
  refine hK.out _ _ hx ?_
  clear hK K
  try simp only [Act.put, List.setIfInBounds_toArray, List.set_cons_zero, List.set_cons_succ]
  replace bz := Bl.ext hx bz (Nat.succ_pos _)
  replace hp := hp.ext hx
  replace HE := HE.trans hx
  clear hx
  repeat (first | (refine wpE_q rfl rfl (fun u hu => exec_loadO (hp.ext hu) rfl rfl) ?_; simp only [Act.put, List.setIfInBounds_toArray, List.set_cons_zero, List.set_cons_succ]) | (refine wpE_q (v := ?_) rfl rfl (fun u hu => ?_) ?_; rotate_left 1; (focus (have kz := Bl.ext hu bz (Nat.succ_pos _); go_simp; (try rfl))); simp only [Act.put, List.setIfInBounds_toArray, List.set_cons_zero, List.set_cons_succ]))
  refine wpE_l rfl rfl (fun K hK => ?_)
  go_simp
  refine (H5.out _).mono ?_
  rintro e u5 ⟨rfl, hx⟩
  refine hK.out _ _ hx ?_
  clear hK K
  try simp only [Act.put, List.setIfInBounds_toArray, List.set_cons_zero, List.set_cons_succ]
  replace bz := Bl.ext hx bz (Nat.succ_pos _)
  replace hp := hp.ext hx
  replace HE := HE.trans hx
  clear hx
  refine wpE_l rfl rfl (fun K hK => ?_)
  go_simp
  refine (H6.out _).mono ?_
  rintro e u6 ⟨rfl, hx⟩
  refine hK.out _ _ hx ?_
  clear hK K
  try simp only [Act.put, List.setIfInBounds_toArray, List.set_cons_zero, List.set_cons_succ]
  replace bz := Bl.ext hx bz (Nat.succ_pos _)
  replace hp := hp.ext hx
  replace HE := HE.trans hx
  clear hx
  repeat (first | (refine wpE_q rfl rfl (fun u hu => exec_loadO (hp.ext hu) rfl rfl) ?_; simp only [Act.put, List.setIfInBounds_toArray, List.set_cons_zero, List.set_cons_succ]) | (refine wpE_q (v := ?_) rfl rfl (fun u hu => ?_) ?_; rotate_left 1; (focus (have kz := Bl.ext hu bz (Nat.succ_pos _); go_simp; (try rfl))); simp only [Act.put, List.setIfInBounds_toArray, List.set_cons_zero, List.set_cons_succ]))
  refine wpE_l rfl rfl (fun K hK => ?_)
  go_simp
  refine (tint_lives _).mono ?_
  rintro e u7 ⟨rfl, hx⟩
  refine hK.out _ _ hx ?_
  clear hK K
  try simp only [Act.put, List.setIfInBounds_toArray, List.set_cons_zero, List.set_cons_succ]
  replace bz := Bl.ext hx bz (Nat.succ_pos _)
  replace hp := hp.ext hx
  replace HE := HE.trans hx
  clear hx
  repeat (first | (refine wpE_q rfl rfl (fun u hu => exec_loadO (hp.ext hu) rfl rfl) ?_; simp only [Act.put, List.setIfInBounds_toArray, List.set_cons_zero, List.set_cons_succ]) | (refine wpE_q (v := ?_) rfl rfl (fun u hu => ?_) ?_; rotate_left 1; (focus (have kz := Bl.ext hu bz (Nat.succ_pos _); go_simp; (try rfl))); simp only [Act.put, List.setIfInBounds_toArray, List.set_cons_zero, List.set_cons_succ]))
  refine wpE_done ?_
  go_wp2_with fail
  go_ret
  exact ⟨rfl, HE⟩

end Go.Proofs.YtmibjfkpchncgaaGreat
