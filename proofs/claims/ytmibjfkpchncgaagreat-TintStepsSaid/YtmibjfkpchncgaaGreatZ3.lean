/- Paints: steps. -/
import Derived.Test.YtmibjfkpchncgaaGreatZ2
import Derived.Test.YtmibjfkpchncgaaGreatCM
namespace Go.Proofs.YtmibjfkpchncgaaGreat
set_option linter.unusedVariables false
set_option linter.unusedSimpArgs false
open Go Go.RowKit

/-- How far a point is from one colour to the other one. -/
def stepF (k px py qx qy r ax ay : Int) : Nat := if mayT k px py qx qy r = true ∧ fitP ax ay = true then (if k = 2 then linF (prodP px py ax ay qx qy) (prodP px py qx qy qx qy) else if k = 3 then radF (prodP px py ax ay ax ay) r else 0) else 0
theorem radF_le (d R : Int) : radF d R ≤ 255 := Nat.min_le_right _ _
theorem stepF_le (k px py qx qy r ax ay : Int) : stepF k px py qx qy r ax ay ≤ 255 := by
  unfold stepF
  split
  · split
    · exact linF_le _ _ prodP_self
    · split
      · exact radF_le _ _
      · omega
  · omega
theorem mayT_parts {k px py qx qy r : Int} (h : mayT k px py qx qy r = true) : fitP px py = true ∧ fitP qx qy = true ∧ (k = 1 ∨ k = 2 ∨ (k = 3 ∧ 1 ≤ r ∧ r ≤ 8388607)) := by
  unfold mayT at h
  simp only [Bool.and_eq_true, Bool.or_eq_true, decide_eq_true_eq] at h
  exact ⟨h.1, h.2.1, by rcases h.2.2 with h | h | h <;> omega⟩
theorem pnt_load {w : World} {g : Nat} {cs : Array Value} (h : Bl w g cs) (hs : cs.size = 22) : (loadVar 30 ⟨g, 0, none⟩).run Tryz.prog w = .ok (.agg cs) w :=
  run_loadVar_cells w g _ cs _ (fun j v hv => by rw [h j]; simpa using hv) Tryz.underlying30 rfl (by rw [hs]; kernel_rfl)
theorem wpList_loadB {ops : Array Oper} {rest : List Oper} {o : Oper} {a : Act} {Q : Exit → Act → World → Prop} {w : World} {x : Operand} {g : Nat} {cs : Array Value} (h : Bl w g cs) (hgd : o.guard = none) (ho : o.op = .load 30 x) (hx : a.eval x = .pointer (some ⟨g, 0, none⟩)) (hs : cs.size = 22)
    (hK : wpList Tryz.prog ops Q rest (a.put o.dst (.agg cs)) w) : wpList Tryz.prog ops Q (o :: rest) a w :=
  wpList_plain hgd fun _ hk => by
    have hr := pnt_load h hs
    unfold Oper.wp execOp
    simp only [ho, hx, Instr.loadAt, Instr.sureAddr, asAddr, Sem.run_bind, Sem.run_pure, Result.andThen_ok, hr]
    exact hk _ _ hK
theorem exec_loadB {w : World} {g : Nat} {cs : Array Value} (h : Bl w g cs) {ρ : Operand → Value} {o : Oper} {x : Operand} (ho : o.op = .load 30 x) (hx : ρ x = .pointer (some ⟨g, 0, none⟩)) (hs : cs.size = 22) : (execOp ρ o).run Tryz.prog w = .ok (.value (.agg cs)) w := by
  have hr := pnt_load h hs
  unfold execOp
  simp only [ho, hx, Instr.loadAt, Instr.sureAddr, asAddr, Sem.run_bind, Sem.run_pure, Result.andThen_ok, hr]
theorem exec_buildB {w : World} {cs : Array Value} {ρ : Operand → Value} {o : Oper} {x : Operand} (ho : o.op = .build 40 #[(0, x)]) (hx : ρ x = .agg cs) (hs : cs.size = 22) : (execOp ρ o).run Tryz.prog w = .ok (.value (.agg cs)) w := by
  obtain ⟨l⟩ := cs
  match l, hs with
  | [v0, v1, v2, v3, v4, v5, v6, v7, v8, v9, v10, v11, v12, v13, v14, v15, v16, v17, v18, v19, v20, v21], _ =>
    unfold execOp
    simp only [ho]
    go_simp

set_option maxRecDepth 100000 in
set_option maxHeartbeats 4000000 in
theorem t_Step_no (k : Int) (r0 g0 b0 a0 r1 g1 b1 a1 : Nat) (px py qx qy r ux uy vx vy : Int) (x y : Int) (a : Option Addr) (n c : Nat) (s : Bool) (ax ay : Int) (w : World) (hm : mayT k px py qx qy r = false) :
    Calls Tryz.prog 6 #[.agg #[.int .i64 k, .int .u8 (r0 : Int), .int .u8 (g0 : Int), .int .u8 (b0 : Int), .int .u8 (a0 : Int), .int .u8 (r1 : Int), .int .u8 (g1 : Int), .int .u8 (b1 : Int), .int .u8 (a1 : Int), .int .i64 px, .int .i64 py, .int .i64 qx, .int .i64 qy, .int .i64 r, .int .i64 ux, .int .i64 uy, .int .i64 vx, .int .i64 vy, .int .i64 x, .int .i64 y, .slice a n c, .bool s], .agg #[.int .i64 ax, .int .i64 ay]] w fun e w' => e = .returned (.int .u8 (stepF k px py qx qy r ax ay : Nat)) ∧ Ext w w' := by
  have HM := hidP (fun u => t_May k r0 g0 b0 a0 r1 g1 b1 a1 px py qx qy r ux uy vx vy x y a n c s u)
  have HR : Hid (stepF k px py qx qy r ax ay = 0) := hidP (if_neg (by rw [hm]; simp))
  rw [hm] at HM
  clear hm
  generalize stepF k px py qx qy r ax ay = rr at *
  go_enter Tryz.func6, Tryz.ntmps6
  go_upto_region 1 with fail
  refine absW (fun x1 hx1 => ?_)
  have hx : Ext w x1 := by rw [hx1]; exact (((Ext.refl _).alloc _).alloc _)
  have bp : Bl x1 (w.heap.size) #[.int .i64 k, .int .u8 (r0 : Int), .int .u8 (g0 : Int), .int .u8 (b0 : Int), .int .u8 (a0 : Int), .int .u8 (r1 : Int), .int .u8 (g1 : Int), .int .u8 (b1 : Int), .int .u8 (a1 : Int), .int .i64 px, .int .i64 py, .int .i64 qx, .int .i64 qy, .int .i64 r, .int .i64 ux, .int .i64 uy, .int .i64 vx, .int .i64 vy, .int .i64 x, .int .i64 y, .slice a n c, .bool s] := by rw [hx1]; exact ((Bl.new (by simp)).alloc (by simp))
  have bz : Bl x1 (w.heap.size + 1) #[.int .i64 ax, .int .i64 ay] := by rw [hx1]; exact (Bl.new (by simp))
  have HE := hx
  clear hx
  clear hx1
  go_wp2_with (first | (refine wpList_loadB bp rfl rfl rfl rfl ?_))
  refine (HM.out _).mono ?_
  rintro e u1 ⟨rfl, hx⟩
  replace bp := Bl.ext hx bp (Nat.succ_pos _)
  replace bz := Bl.ext hx bz (Nat.succ_pos _)
  replace HE := HE.trans hx
  clear hx
  go_wp2_with fail
  go_ret
  rw [HR.out]
  exact ⟨rfl, HE⟩

set_option maxRecDepth 100000 in
set_option maxHeartbeats 4000000 in
theorem t_Step_off (k : Int) (r0 g0 b0 a0 r1 g1 b1 a1 : Nat) (px py qx qy r ux uy vx vy : Int) (x y : Int) (a : Option Addr) (n c : Nat) (s : Bool) (ax ay : Int) (w : World) (hm : mayT k px py qx qy r = true) (hf : fitP ax ay = false) :
    Calls Tryz.prog 6 #[.agg #[.int .i64 k, .int .u8 (r0 : Int), .int .u8 (g0 : Int), .int .u8 (b0 : Int), .int .u8 (a0 : Int), .int .u8 (r1 : Int), .int .u8 (g1 : Int), .int .u8 (b1 : Int), .int .u8 (a1 : Int), .int .i64 px, .int .i64 py, .int .i64 qx, .int .i64 qy, .int .i64 r, .int .i64 ux, .int .i64 uy, .int .i64 vx, .int .i64 vy, .int .i64 x, .int .i64 y, .slice a n c, .bool s], .agg #[.int .i64 ax, .int .i64 ay]] w fun e w' => e = .returned (.int .u8 (stepF k px py qx qy r ax ay : Nat)) ∧ Ext w w' := by
  have HM := hidP (fun u => t_May k r0 g0 b0 a0 r1 g1 b1 a1 px py qx qy r ux uy vx vy x y a n c s u)
  have HF := hidP (a_Fits ax ay)
  have HR : Hid (stepF k px py qx qy r ax ay = 0) := hidP (if_neg (by rw [hf]; simp))
  rw [hm] at HM
  rw [hf] at HF
  clear hm hf
  generalize stepF k px py qx qy r ax ay = rr at *
  go_enter Tryz.func6, Tryz.ntmps6
  go_upto_region 1 with fail
  refine absW (fun x1 hx1 => ?_)
  have hx : Ext w x1 := by rw [hx1]; exact (((Ext.refl _).alloc _).alloc _)
  have bp : Bl x1 (w.heap.size) #[.int .i64 k, .int .u8 (r0 : Int), .int .u8 (g0 : Int), .int .u8 (b0 : Int), .int .u8 (a0 : Int), .int .u8 (r1 : Int), .int .u8 (g1 : Int), .int .u8 (b1 : Int), .int .u8 (a1 : Int), .int .i64 px, .int .i64 py, .int .i64 qx, .int .i64 qy, .int .i64 r, .int .i64 ux, .int .i64 uy, .int .i64 vx, .int .i64 vy, .int .i64 x, .int .i64 y, .slice a n c, .bool s] := by rw [hx1]; exact ((Bl.new (by simp)).alloc (by simp))
  have bz : Bl x1 (w.heap.size + 1) #[.int .i64 ax, .int .i64 ay] := by rw [hx1]; exact (Bl.new (by simp))
  have HE := hx
  clear hx
  clear hx1
  go_wp2_with (first | (refine wpList_loadB bp rfl rfl rfl rfl ?_))
  refine (HM.out _).mono ?_
  rintro e u1 ⟨rfl, hx⟩
  replace bp := Bl.ext hx bp (Nat.succ_pos _)
  replace bz := Bl.ext hx bz (Nat.succ_pos _)
  replace HE := HE.trans hx
  clear hx
  go_wp2_with fail
  refine (HF.out _).mono ?_
  rintro e u2 ⟨rfl, hx⟩
  replace bp := Bl.ext hx bp (Nat.succ_pos _)
  replace bz := Bl.ext hx bz (Nat.succ_pos _)
  replace HE := HE.trans hx
  clear hx
  go_wp2_with fail
  go_ret
  rw [HR.out]
  exact ⟨rfl, HE⟩

set_option maxRecDepth 100000 in
set_option maxHeartbeats 4000000 in
theorem t_Step_lin (r0 g0 b0 a0 r1 g1 b1 a1 : Nat) (px py qx qy r ux uy vx vy : Int) (x y : Int) (a : Option Addr) (n c : Nat) (s : Bool) (ax ay : Int) (w : World) (hm : mayT 2 px py qx qy r = true) (hf : fitP ax ay = true) :
    Calls Tryz.prog 6 #[.agg #[.int .i64 2, .int .u8 (r0 : Int), .int .u8 (g0 : Int), .int .u8 (b0 : Int), .int .u8 (a0 : Int), .int .u8 (r1 : Int), .int .u8 (g1 : Int), .int .u8 (b1 : Int), .int .u8 (a1 : Int), .int .i64 px, .int .i64 py, .int .i64 qx, .int .i64 qy, .int .i64 r, .int .i64 ux, .int .i64 uy, .int .i64 vx, .int .i64 vy, .int .i64 x, .int .i64 y, .slice a n c, .bool s], .agg #[.int .i64 ax, .int .i64 ay]] w fun e w' => e = .returned (.int .u8 (stepF 2 px py qx qy r ax ay : Nat)) ∧ Ext w w' := by
  obtain ⟨hp, hq, hk⟩ := mayT_parts hm
  have HM := hidP (fun u => t_May 2 r0 g0 b0 a0 r1 g1 b1 a1 px py qx qy r ux uy vx vy x y a n c s u)
  have HF := hidP (a_Fits ax ay)
  have HR : Hid (stepF 2 px py qx qy r ax ay = linF (prodP px py ax ay qx qy) (prodP px py qx qy qx qy)) := hidP (by unfold stepF; rw [if_pos ⟨hm, hf⟩]; rfl)
  have HL := hidP (fun u => t_linear 2 r0 g0 b0 a0 r1 g1 b1 a1 px py qx qy r ux uy vx vy x y a n c s ax ay u hp hq hf)
  have hle : linF (prodP px py ax ay qx qy) (prodP px py qx qy qx qy) ≤ 255 := linF_le _ _ prodP_self
  rw [hm] at HM
  rw [hf] at HF
  clear hm hf hp hq hk
  generalize stepF 2 px py qx qy r ax ay = rr at *
  generalize linF (prodP px py ax ay qx qy) (prodP px py qx qy qx qy) = I at *
  have hle2 : (I : Int) ≤ 255 := by omega
  have WU : Hid (IntKind.u8.wrap (min (I : Int) 255) = (I : Int)) := hidP (by rw [Int.min_eq_left hle2]; exact IntWalk.u8_in _ (by omega))
  have cf := callFunc_enters Tryz.func21 (by kernel_rfl) (by kernel_rfl)
  go_enter Tryz.func6, Tryz.ntmps6
  go_upto_region 1 with fail
  refine absW (fun x1 hx1 => ?_)
  have hx : Ext w x1 := by rw [hx1]; exact (((Ext.refl _).alloc _).alloc _)
  have bp : Bl x1 (w.heap.size) #[.int .i64 2, .int .u8 (r0 : Int), .int .u8 (g0 : Int), .int .u8 (b0 : Int), .int .u8 (a0 : Int), .int .u8 (r1 : Int), .int .u8 (g1 : Int), .int .u8 (b1 : Int), .int .u8 (a1 : Int), .int .i64 px, .int .i64 py, .int .i64 qx, .int .i64 qy, .int .i64 r, .int .i64 ux, .int .i64 uy, .int .i64 vx, .int .i64 vy, .int .i64 x, .int .i64 y, .slice a n c, .bool s] := by rw [hx1]; exact ((Bl.new (by simp)).alloc (by simp))
  have bz : Bl x1 (w.heap.size + 1) #[.int .i64 ax, .int .i64 ay] := by rw [hx1]; exact (Bl.new (by simp))
  have HE := hx
  clear hx
  clear hx1
  go_wp2_with (first | (refine wpList_loadB bp rfl rfl rfl rfl ?_))
  refine (HM.out _).mono ?_
  rintro e u1 ⟨rfl, hx⟩
  replace bp := Bl.ext hx bp (Nat.succ_pos _)
  replace bz := Bl.ext hx bz (Nat.succ_pos _)
  replace HE := HE.trans hx
  clear hx
  go_wp2_with fail
  refine (HF.out _).mono ?_
  rintro e u2 ⟨rfl, hx⟩
  replace bp := Bl.ext hx bp (Nat.succ_pos _)
  replace bz := Bl.ext hx bz (Nat.succ_pos _)
  replace HE := HE.trans hx
  clear hx
  go_wp2_with fail
  refine wp_region_plan (R := Ext) (.q 0 (.q 1 (.q 3 (.q 4 (.q 5 (.l 2 (.l 6 (.q 7 (.q 8 (.q 9 .done)))))))))) (by kernel_rfl) (by kernel_rfl) (by kernel_rfl) (by kernel_rfl) Ext.refl (fun _ _ _ => Ext.trans) ?_
  refine absE (fun x2 hx2 => ?_)
  have hx : Ext u2 x2 := by rw [hx2]; exact (Ext.refl _).drew
  replace bp := Bl.ext hx bp (Nat.succ_pos _)
  replace bz := Bl.ext hx bz (Nat.succ_pos _)
  replace HE := HE.trans hx
  clear hx
  clear hx2
  repeat (first | (refine wpE_q rfl rfl (fun u hu => exec_loadB (Bl.ext hu bp (Nat.succ_pos _)) rfl rfl rfl) ?_; simp only [Act.put, List.setIfInBounds_toArray, List.set_cons_zero, List.set_cons_succ]) | (refine wpE_q rfl rfl (fun u hu => exec_buildB rfl rfl rfl) ?_; simp only [Act.put, List.setIfInBounds_toArray, List.set_cons_zero, List.set_cons_succ]) | (refine wpE_q (v := ?_) rfl rfl (fun u hu => ?_) ?_; rotate_left 1; (focus (have kp := Bl.ext hu bp (Nat.succ_pos _); have kz := Bl.ext hu bz (Nat.succ_pos _); have wu := WU.out; go_simp; (try rfl))); simp only [Act.put, List.setIfInBounds_toArray, List.set_cons_zero, List.set_cons_succ]))
  refine wpE_l rfl rfl (fun K hK => ?_)
  go_simp
  refine (t_way _ _).mono ?_
  rintro e u3 ⟨rfl, rfl⟩
  refine hK.out _ _ (Ext.refl _) ?_
  clear hK K
  try simp only [Act.put, List.setIfInBounds_toArray, List.set_cons_zero, List.set_cons_succ]
  refine wpE_l rfl rfl (fun K hK => ?_)
  go_simp
  refine (HL.out _).mono ?_
  rintro e u4 ⟨rfl, hx⟩
  refine hK.out _ _ hx ?_
  clear hK K
  try simp only [Act.put, List.setIfInBounds_toArray, List.set_cons_zero, List.set_cons_succ]
  replace bp := Bl.ext hx bp (Nat.succ_pos _)
  replace bz := Bl.ext hx bz (Nat.succ_pos _)
  replace HE := HE.trans hx
  clear hx
  repeat (first | (refine wpE_q rfl rfl (fun u hu => exec_loadB (Bl.ext hu bp (Nat.succ_pos _)) rfl rfl rfl) ?_; simp only [Act.put, List.setIfInBounds_toArray, List.set_cons_zero, List.set_cons_succ]) | (refine wpE_q rfl rfl (fun u hu => exec_buildB rfl rfl rfl) ?_; simp only [Act.put, List.setIfInBounds_toArray, List.set_cons_zero, List.set_cons_succ]) | (refine wpE_q (v := ?_) rfl rfl (fun u hu => ?_) ?_; rotate_left 1; (focus (have kp := Bl.ext hu bp (Nat.succ_pos _); have kz := Bl.ext hu bz (Nat.succ_pos _); have wu := WU.out; go_simp; (try rfl))); simp only [Act.put, List.setIfInBounds_toArray, List.set_cons_zero, List.set_cons_succ]))
  refine wpE_done ?_
  go_wp2_with fail
  go_ret
  rw [HR.out]
  exact ⟨rfl, HE⟩

set_option maxRecDepth 100000 in
set_option maxHeartbeats 4000000 in
theorem t_Step_rad (r0 g0 b0 a0 r1 g1 b1 a1 : Nat) (px py qx qy r ux uy vx vy : Int) (x y : Int) (a : Option Addr) (n c : Nat) (s : Bool) (ax ay : Int) (w : World) (hm : mayT 3 px py qx qy r = true) (hf : fitP ax ay = true) :
    Calls Tryz.prog 6 #[.agg #[.int .i64 3, .int .u8 (r0 : Int), .int .u8 (g0 : Int), .int .u8 (b0 : Int), .int .u8 (a0 : Int), .int .u8 (r1 : Int), .int .u8 (g1 : Int), .int .u8 (b1 : Int), .int .u8 (a1 : Int), .int .i64 px, .int .i64 py, .int .i64 qx, .int .i64 qy, .int .i64 r, .int .i64 ux, .int .i64 uy, .int .i64 vx, .int .i64 vy, .int .i64 x, .int .i64 y, .slice a n c, .bool s], .agg #[.int .i64 ax, .int .i64 ay]] w fun e w' => e = .returned (.int .u8 (stepF 3 px py qx qy r ax ay : Nat)) ∧ Ext w w' := by
  obtain ⟨hp, hq, hk⟩ := mayT_parts hm
  have HM := hidP (fun u => t_May 3 r0 g0 b0 a0 r1 g1 b1 a1 px py qx qy r ux uy vx vy x y a n c s u)
  have HF := hidP (a_Fits ax ay)
  have hr : 1 ≤ r ∧ r ≤ 8388607 := by omega
  have HR : Hid (stepF 3 px py qx qy r ax ay = radF (prodP px py ax ay ax ay) r) := hidP (by unfold stepF; rw [if_pos ⟨hm, hf⟩]; rfl)
  have HL := hidP (fun u => t_radial 3 r0 g0 b0 a0 r1 g1 b1 a1 px py qx qy r ux uy vx vy x y a n c s ax ay u hp hf hr.1 hr.2)
  have hle : radF (prodP px py ax ay ax ay) r ≤ 255 := radF_le _ _
  rw [hm] at HM
  rw [hf] at HF
  clear hm hf hp hq hk
  generalize stepF 3 px py qx qy r ax ay = rr at *
  generalize radF (prodP px py ax ay ax ay) r = I at *
  have hle2 : (I : Int) ≤ 255 := by omega
  have WU : Hid (IntKind.u8.wrap (min (I : Int) 255) = (I : Int)) := hidP (by rw [Int.min_eq_left hle2]; exact IntWalk.u8_in _ (by omega))
  have cf := callFunc_enters Tryz.func22 (by kernel_rfl) (by kernel_rfl)
  go_enter Tryz.func6, Tryz.ntmps6
  go_upto_region 1 with fail
  refine absW (fun x1 hx1 => ?_)
  have hx : Ext w x1 := by rw [hx1]; exact (((Ext.refl _).alloc _).alloc _)
  have bp : Bl x1 (w.heap.size) #[.int .i64 3, .int .u8 (r0 : Int), .int .u8 (g0 : Int), .int .u8 (b0 : Int), .int .u8 (a0 : Int), .int .u8 (r1 : Int), .int .u8 (g1 : Int), .int .u8 (b1 : Int), .int .u8 (a1 : Int), .int .i64 px, .int .i64 py, .int .i64 qx, .int .i64 qy, .int .i64 r, .int .i64 ux, .int .i64 uy, .int .i64 vx, .int .i64 vy, .int .i64 x, .int .i64 y, .slice a n c, .bool s] := by rw [hx1]; exact ((Bl.new (by simp)).alloc (by simp))
  have bz : Bl x1 (w.heap.size + 1) #[.int .i64 ax, .int .i64 ay] := by rw [hx1]; exact (Bl.new (by simp))
  have HE := hx
  clear hx
  clear hx1
  go_wp2_with (first | (refine wpList_loadB bp rfl rfl rfl rfl ?_))
  refine (HM.out _).mono ?_
  rintro e u1 ⟨rfl, hx⟩
  replace bp := Bl.ext hx bp (Nat.succ_pos _)
  replace bz := Bl.ext hx bz (Nat.succ_pos _)
  replace HE := HE.trans hx
  clear hx
  go_wp2_with fail
  refine (HF.out _).mono ?_
  rintro e u2 ⟨rfl, hx⟩
  replace bp := Bl.ext hx bp (Nat.succ_pos _)
  replace bz := Bl.ext hx bz (Nat.succ_pos _)
  replace HE := HE.trans hx
  clear hx
  go_wp2_with fail
  refine wp_region_plan (R := Ext) (.q 0 (.q 1 (.q 3 (.q 4 (.q 5 (.l 2 (.l 6 (.q 7 (.q 8 (.q 9 .done)))))))))) (by kernel_rfl) (by kernel_rfl) (by kernel_rfl) (by kernel_rfl) Ext.refl (fun _ _ _ => Ext.trans) ?_
  refine absE (fun x2 hx2 => ?_)
  have hx : Ext u2 x2 := by rw [hx2]; exact (Ext.refl _).drew
  replace bp := Bl.ext hx bp (Nat.succ_pos _)
  replace bz := Bl.ext hx bz (Nat.succ_pos _)
  replace HE := HE.trans hx
  clear hx
  clear hx2
  repeat (first | (refine wpE_q rfl rfl (fun u hu => exec_loadB (Bl.ext hu bp (Nat.succ_pos _)) rfl rfl rfl) ?_; simp only [Act.put, List.setIfInBounds_toArray, List.set_cons_zero, List.set_cons_succ]) | (refine wpE_q rfl rfl (fun u hu => exec_buildB rfl rfl rfl) ?_; simp only [Act.put, List.setIfInBounds_toArray, List.set_cons_zero, List.set_cons_succ]) | (refine wpE_q (v := ?_) rfl rfl (fun u hu => ?_) ?_; rotate_left 1; (focus (have kp := Bl.ext hu bp (Nat.succ_pos _); have kz := Bl.ext hu bz (Nat.succ_pos _); have wu := WU.out; go_simp; (try rfl))); simp only [Act.put, List.setIfInBounds_toArray, List.set_cons_zero, List.set_cons_succ]))
  refine wpE_l rfl rfl (fun K hK => ?_)
  go_simp
  refine (t_way _ _).mono ?_
  rintro e u3 ⟨rfl, rfl⟩
  refine hK.out _ _ (Ext.refl _) ?_
  clear hK K
  try simp only [Act.put, List.setIfInBounds_toArray, List.set_cons_zero, List.set_cons_succ]
  refine wpE_l rfl rfl (fun K hK => ?_)
  go_simp
  refine (HL.out _).mono ?_
  rintro e u4 ⟨rfl, hx⟩
  refine hK.out _ _ hx ?_
  clear hK K
  try simp only [Act.put, List.setIfInBounds_toArray, List.set_cons_zero, List.set_cons_succ]
  replace bp := Bl.ext hx bp (Nat.succ_pos _)
  replace bz := Bl.ext hx bz (Nat.succ_pos _)
  replace HE := HE.trans hx
  clear hx
  repeat (first | (refine wpE_q rfl rfl (fun u hu => exec_loadB (Bl.ext hu bp (Nat.succ_pos _)) rfl rfl rfl) ?_; simp only [Act.put, List.setIfInBounds_toArray, List.set_cons_zero, List.set_cons_succ]) | (refine wpE_q rfl rfl (fun u hu => exec_buildB rfl rfl rfl) ?_; simp only [Act.put, List.setIfInBounds_toArray, List.set_cons_zero, List.set_cons_succ]) | (refine wpE_q (v := ?_) rfl rfl (fun u hu => ?_) ?_; rotate_left 1; (focus (have kp := Bl.ext hu bp (Nat.succ_pos _); have kz := Bl.ext hu bz (Nat.succ_pos _); have wu := WU.out; go_simp; (try rfl))); simp only [Act.put, List.setIfInBounds_toArray, List.set_cons_zero, List.set_cons_succ]))
  refine wpE_done ?_
  go_wp2_with fail
  go_ret
  rw [HR.out]
  exact ⟨rfl, HE⟩

set_option maxRecDepth 100000 in
set_option maxHeartbeats 4000000 in
theorem t_Step_plain (r0 g0 b0 a0 r1 g1 b1 a1 : Nat) (px py qx qy r ux uy vx vy : Int) (x y : Int) (a : Option Addr) (n c : Nat) (s : Bool) (ax ay : Int) (w : World) (hm : mayT 1 px py qx qy r = true) (hf : fitP ax ay = true) :
    Calls Tryz.prog 6 #[.agg #[.int .i64 1, .int .u8 (r0 : Int), .int .u8 (g0 : Int), .int .u8 (b0 : Int), .int .u8 (a0 : Int), .int .u8 (r1 : Int), .int .u8 (g1 : Int), .int .u8 (b1 : Int), .int .u8 (a1 : Int), .int .i64 px, .int .i64 py, .int .i64 qx, .int .i64 qy, .int .i64 r, .int .i64 ux, .int .i64 uy, .int .i64 vx, .int .i64 vy, .int .i64 x, .int .i64 y, .slice a n c, .bool s], .agg #[.int .i64 ax, .int .i64 ay]] w fun e w' => e = .returned (.int .u8 (stepF 1 px py qx qy r ax ay : Nat)) ∧ Ext w w' := by
  obtain ⟨hp, hq, hk⟩ := mayT_parts hm
  have HM := hidP (fun u => t_May 1 r0 g0 b0 a0 r1 g1 b1 a1 px py qx qy r ux uy vx vy x y a n c s u)
  have HF := hidP (a_Fits ax ay)
  have HR : Hid (stepF 1 px py qx qy r ax ay = 0) := hidP (by unfold stepF; rw [if_pos ⟨hm, hf⟩]; rfl)
  have HL := hidP (fun u => t_plain 1 r0 g0 b0 a0 r1 g1 b1 a1 px py qx qy r ux uy vx vy x y a n c s ax ay u)
  rw [hm] at HM
  rw [hf] at HF
  clear hm hf hp hq hk
  generalize stepF 1 px py qx qy r ax ay = rr at *
  have WU : Hid (IntKind.u8.wrap 0 = 0) := hidP (IntWalk.u8_in _ (by omega))
  have cf := callFunc_enters Tryz.func23 (by kernel_rfl) (by kernel_rfl)
  go_enter Tryz.func6, Tryz.ntmps6
  go_upto_region 1 with fail
  refine absW (fun x1 hx1 => ?_)
  have hx : Ext w x1 := by rw [hx1]; exact (((Ext.refl _).alloc _).alloc _)
  have bp : Bl x1 (w.heap.size) #[.int .i64 1, .int .u8 (r0 : Int), .int .u8 (g0 : Int), .int .u8 (b0 : Int), .int .u8 (a0 : Int), .int .u8 (r1 : Int), .int .u8 (g1 : Int), .int .u8 (b1 : Int), .int .u8 (a1 : Int), .int .i64 px, .int .i64 py, .int .i64 qx, .int .i64 qy, .int .i64 r, .int .i64 ux, .int .i64 uy, .int .i64 vx, .int .i64 vy, .int .i64 x, .int .i64 y, .slice a n c, .bool s] := by rw [hx1]; exact ((Bl.new (by simp)).alloc (by simp))
  have bz : Bl x1 (w.heap.size + 1) #[.int .i64 ax, .int .i64 ay] := by rw [hx1]; exact (Bl.new (by simp))
  have HE := hx
  clear hx
  clear hx1
  go_wp2_with (first | (refine wpList_loadB bp rfl rfl rfl rfl ?_))
  refine (HM.out _).mono ?_
  rintro e u1 ⟨rfl, hx⟩
  replace bp := Bl.ext hx bp (Nat.succ_pos _)
  replace bz := Bl.ext hx bz (Nat.succ_pos _)
  replace HE := HE.trans hx
  clear hx
  go_wp2_with fail
  refine (HF.out _).mono ?_
  rintro e u2 ⟨rfl, hx⟩
  replace bp := Bl.ext hx bp (Nat.succ_pos _)
  replace bz := Bl.ext hx bz (Nat.succ_pos _)
  replace HE := HE.trans hx
  clear hx
  go_wp2_with fail
  refine wp_region_plan (R := Ext) (.q 0 (.q 1 (.q 3 (.q 4 (.q 5 (.l 2 (.l 6 (.q 7 (.q 8 (.q 9 .done)))))))))) (by kernel_rfl) (by kernel_rfl) (by kernel_rfl) (by kernel_rfl) Ext.refl (fun _ _ _ => Ext.trans) ?_
  refine absE (fun x2 hx2 => ?_)
  have hx : Ext u2 x2 := by rw [hx2]; exact (Ext.refl _).drew
  replace bp := Bl.ext hx bp (Nat.succ_pos _)
  replace bz := Bl.ext hx bz (Nat.succ_pos _)
  replace HE := HE.trans hx
  clear hx
  clear hx2
  repeat (first | (refine wpE_q rfl rfl (fun u hu => exec_loadB (Bl.ext hu bp (Nat.succ_pos _)) rfl rfl rfl) ?_; simp only [Act.put, List.setIfInBounds_toArray, List.set_cons_zero, List.set_cons_succ]) | (refine wpE_q rfl rfl (fun u hu => exec_buildB rfl rfl rfl) ?_; simp only [Act.put, List.setIfInBounds_toArray, List.set_cons_zero, List.set_cons_succ]) | (refine wpE_q (v := ?_) rfl rfl (fun u hu => ?_) ?_; rotate_left 1; (focus (have kp := Bl.ext hu bp (Nat.succ_pos _); have kz := Bl.ext hu bz (Nat.succ_pos _); have wu := WU.out; go_simp; (try rfl))); simp only [Act.put, List.setIfInBounds_toArray, List.set_cons_zero, List.set_cons_succ]))
  refine wpE_l rfl rfl (fun K hK => ?_)
  go_simp
  refine (t_way _ _).mono ?_
  rintro e u3 ⟨rfl, rfl⟩
  refine hK.out _ _ (Ext.refl _) ?_
  clear hK K
  try simp only [Act.put, List.setIfInBounds_toArray, List.set_cons_zero, List.set_cons_succ]
  refine wpE_l rfl rfl (fun K hK => ?_)
  go_simp
  refine (HL.out _).mono ?_
  rintro e u4 ⟨rfl, hx⟩
  refine hK.out _ _ hx ?_
  clear hK K
  try simp only [Act.put, List.setIfInBounds_toArray, List.set_cons_zero, List.set_cons_succ]
  replace bp := Bl.ext hx bp (Nat.succ_pos _)
  replace bz := Bl.ext hx bz (Nat.succ_pos _)
  replace HE := HE.trans hx
  clear hx
  repeat (first | (refine wpE_q rfl rfl (fun u hu => exec_loadB (Bl.ext hu bp (Nat.succ_pos _)) rfl rfl rfl) ?_; simp only [Act.put, List.setIfInBounds_toArray, List.set_cons_zero, List.set_cons_succ]) | (refine wpE_q rfl rfl (fun u hu => exec_buildB rfl rfl rfl) ?_; simp only [Act.put, List.setIfInBounds_toArray, List.set_cons_zero, List.set_cons_succ]) | (refine wpE_q (v := ?_) rfl rfl (fun u hu => ?_) ?_; rotate_left 1; (focus (have kp := Bl.ext hu bp (Nat.succ_pos _); have kz := Bl.ext hu bz (Nat.succ_pos _); have wu := WU.out; go_simp; (try rfl))); simp only [Act.put, List.setIfInBounds_toArray, List.set_cons_zero, List.set_cons_succ]))
  refine wpE_done ?_
  go_wp2_with fail
  go_ret
  rw [HR.out]
  exact ⟨rfl, HE⟩
theorem t_Step (k : Int) (r0 g0 b0 a0 r1 g1 b1 a1 : Nat) (px py qx qy r ux uy vx vy : Int) (x y : Int) (a : Option Addr) (n c : Nat) (s : Bool) (ax ay : Int) (w : World) :
    Calls Tryz.prog 6 #[.agg #[.int .i64 k, .int .u8 (r0 : Int), .int .u8 (g0 : Int), .int .u8 (b0 : Int), .int .u8 (a0 : Int), .int .u8 (r1 : Int), .int .u8 (g1 : Int), .int .u8 (b1 : Int), .int .u8 (a1 : Int), .int .i64 px, .int .i64 py, .int .i64 qx, .int .i64 qy, .int .i64 r, .int .i64 ux, .int .i64 uy, .int .i64 vx, .int .i64 vy, .int .i64 x, .int .i64 y, .slice a n c, .bool s], .agg #[.int .i64 ax, .int .i64 ay]] w fun e w' => e = .returned (.int .u8 (stepF k px py qx qy r ax ay : Nat)) ∧ Ext w w' := by
  cases hm : mayT k px py qx qy r
  · exact t_Step_no k r0 g0 b0 a0 r1 g1 b1 a1 px py qx qy r ux uy vx vy x y a n c s ax ay w hm
  · cases hf : fitP ax ay
    · exact t_Step_off k r0 g0 b0 a0 r1 g1 b1 a1 px py qx qy r ux uy vx vy x y a n c s ax ay w hm hf
    · obtain ⟨_, _, hk⟩ := mayT_parts hm
      by_cases k2 : k = 2
      · subst k2; exact t_Step_lin r0 g0 b0 a0 r1 g1 b1 a1 px py qx qy r ux uy vx vy x y a n c s ax ay w hm hf
      · by_cases k3 : k = 3
        · subst k3; exact t_Step_rad r0 g0 b0 a0 r1 g1 b1 a1 px py qx qy r ux uy vx vy x y a n c s ax ay w hm hf
        · obtain rfl : k = 1 := by omega
          exact t_Step_plain r0 g0 b0 a0 r1 g1 b1 a1 px py qx qy r ux uy vx vy x y a n c s ax ay w hm hf

end Go.Proofs.YtmibjfkpchncgaaGreat
