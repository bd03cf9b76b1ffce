/- Paints: what of them plays a part. -/
import Derived.Test.YtmibjfkpchncgaaZ5
namespace Go.Proofs.Ytmibjfkpchncgaa
set_option linter.unusedVariables false
set_option linter.unusedSimpArgs false
open Go Go.RowKit

theorem wpList_exec {ops : Array Oper} {rest : List Oper} {o : Oper} {a : Act} {Q : Exit → Act → World → Prop} {w : World} {v : Value} (hgd : o.guard = none) (hr : (execOp a.eval o).run Try.prog w = .ok (.value v) w)
    (hK : wpList Try.prog ops Q rest (a.put o.dst v) w) : wpList Try.prog ops Q (o :: rest) a w :=
  wpList_plain hgd fun _ hk => by
    unfold Oper.wp
    rw [hr]
    exact hk _ _ hK
theorem blk_great {w : World} {g : Nat} {cs : Array Value} (h : Bl w g cs) : ∀ j v, cs.toList[j]? = some v → w.cell? ⟨g, j, none⟩ = some v := by
  intro j v hv
  rw [h j]
  simpa using hv

set_option maxRecDepth 100000 in
set_option maxHeartbeats 4000000 in
theorem exec_u1 {k : Int} {r0 g0 b0 a0 r1 g1 b1 a1 : Nat} {px py qx qy r : Int} {w : World} {ρ : Operand → Value} {o : Oper} {x0 x1 : Operand} (ho : o.op = .build 30 #[(0, x0), (1, x1)]) (h0 : ρ x0 = .int .i64 k) (h1 : ρ x1 = .agg #[.int .u8 (r0 : Int), .int .u8 (g0 : Int), .int .u8 (b0 : Int), .int .u8 (a0 : Int)]) : (execOp ρ o).run Try.prog w = .ok (.value (.agg #[.int .i64 k, .int .u8 (r0 : Int), .int .u8 (g0 : Int), .int .u8 (b0 : Int), .int .u8 (a0 : Int), .int .u8 0, .int .u8 0, .int .u8 0, .int .u8 0, .int .i64 0, .int .i64 0, .int .i64 0, .int .i64 0, .int .i64 0, .int .i64 0, .int .i64 0, .int .i64 0, .int .i64 0, .int .i64 0, .int .i64 0, .slice none 0 0, .bool false])) w := by
  unfold execOp
  simp only [ho]
  go_simp

set_option maxRecDepth 100000 in
set_option maxHeartbeats 4000000 in
theorem exec_u2 {k : Int} {r0 g0 b0 a0 r1 g1 b1 a1 : Nat} {px py qx qy r : Int} {w : World} {ρ : Operand → Value} {o : Oper} {x0 x1 x2 x3 x4 : Operand} (ho : o.op = .build 30 #[(0, x0), (1, x1), (2, x2), (3, x3), (4, x4)]) (h0 : ρ x0 = .int .i64 k) (h1 : ρ x1 = .agg #[.int .u8 (r0 : Int), .int .u8 (g0 : Int), .int .u8 (b0 : Int), .int .u8 (a0 : Int)]) (h2 : ρ x2 = .agg #[.int .u8 (r1 : Int), .int .u8 (g1 : Int), .int .u8 (b1 : Int), .int .u8 (a1 : Int)]) (h3 : ρ x3 = .agg #[.int .i64 px, .int .i64 py]) (h4 : ρ x4 = .agg #[.int .i64 qx, .int .i64 qy]) : (execOp ρ o).run Try.prog w = .ok (.value (.agg #[.int .i64 k, .int .u8 (r0 : Int), .int .u8 (g0 : Int), .int .u8 (b0 : Int), .int .u8 (a0 : Int), .int .u8 (r1 : Int), .int .u8 (g1 : Int), .int .u8 (b1 : Int), .int .u8 (a1 : Int), .int .i64 px, .int .i64 py, .int .i64 qx, .int .i64 qy, .int .i64 0, .int .i64 0, .int .i64 0, .int .i64 0, .int .i64 0, .int .i64 0, .int .i64 0, .slice none 0 0, .bool false])) w := by
  unfold execOp
  simp only [ho]
  go_simp

set_option maxRecDepth 100000 in
set_option maxHeartbeats 4000000 in
theorem exec_u3 {k : Int} {r0 g0 b0 a0 r1 g1 b1 a1 : Nat} {px py qx qy r : Int} {w : World} {ρ : Operand → Value} {o : Oper} {x0 x1 x2 x3 x4 : Operand} (ho : o.op = .build 30 #[(0, x0), (1, x1), (2, x2), (3, x3), (5, x4)]) (h0 : ρ x0 = .int .i64 k) (h1 : ρ x1 = .agg #[.int .u8 (r0 : Int), .int .u8 (g0 : Int), .int .u8 (b0 : Int), .int .u8 (a0 : Int)]) (h2 : ρ x2 = .agg #[.int .u8 (r1 : Int), .int .u8 (g1 : Int), .int .u8 (b1 : Int), .int .u8 (a1 : Int)]) (h3 : ρ x3 = .agg #[.int .i64 px, .int .i64 py]) (h4 : ρ x4 = .int .i64 r) : (execOp ρ o).run Try.prog w = .ok (.value (.agg #[.int .i64 k, .int .u8 (r0 : Int), .int .u8 (g0 : Int), .int .u8 (b0 : Int), .int .u8 (a0 : Int), .int .u8 (r1 : Int), .int .u8 (g1 : Int), .int .u8 (b1 : Int), .int .u8 (a1 : Int), .int .i64 px, .int .i64 py, .int .i64 0, .int .i64 0, .int .i64 r, .int .i64 0, .int .i64 0, .int .i64 0, .int .i64 0, .int .i64 0, .int .i64 0, .slice none 0 0, .bool false])) w := by
  unfold execOp
  simp only [ho]
  go_simp

set_option maxRecDepth 100000 in
set_option maxHeartbeats 4000000 in
theorem exec_u0  {w : World} {ρ : Operand → Value} {o : Oper} {_x : Operand} (ho : o.op = .build 30 #[])  : (execOp ρ o).run Try.prog w = .ok (.value (.agg #[.int .i64 0, .int .u8 0, .int .u8 0, .int .u8 0, .int .u8 0, .int .u8 0, .int .u8 0, .int .u8 0, .int .u8 0, .int .i64 0, .int .i64 0, .int .i64 0, .int .i64 0, .int .i64 0, .int .i64 0, .int .i64 0, .int .i64 0, .int .i64 0, .int .i64 0, .int .i64 0, .slice none 0 0, .bool false])) w := by
  unfold execOp
  simp only [ho]
  go_simp

set_option maxRecDepth 100000 in
set_option maxHeartbeats 4000000 in
theorem t_Used_1 (r0 g0 b0 a0 r1 g1 b1 a1 : Nat) (px py qx qy r ux uy vx vy : Int) (x y : Int) (a : Option Addr) (n c : Nat) (s : Bool) (w : World) : Calls Try.prog 9 #[.agg #[.int .i64 1, .int .u8 (r0 : Int), .int .u8 (g0 : Int), .int .u8 (b0 : Int), .int .u8 (a0 : Int), .int .u8 (r1 : Int), .int .u8 (g1 : Int), .int .u8 (b1 : Int), .int .u8 (a1 : Int), .int .i64 px, .int .i64 py, .int .i64 qx, .int .i64 qy, .int .i64 r, .int .i64 ux, .int .i64 uy, .int .i64 vx, .int .i64 vy, .int .i64 x, .int .i64 y, .slice a n c, .bool s]] w fun e w' => e = .returned (.agg #[.int .i64 1, .int .u8 (r0 : Int), .int .u8 (g0 : Int), .int .u8 (b0 : Int), .int .u8 (a0 : Int), .int .u8 0, .int .u8 0, .int .u8 0, .int .u8 0, .int .i64 0, .int .i64 0, .int .i64 0, .int .i64 0, .int .i64 0, .int .i64 0, .int .i64 0, .int .i64 0, .int .i64 0, .int .i64 0, .int .i64 0, .slice none 0 0, .bool false]) ∧ Ext w w' := by
  go_enter Try.func9, Try.ntmps9
  go_upto_region 1 with fail
  refine absW (fun x1 hx1 => ?_)
  have hx : Ext w x1 := by rw [hx1]; exact (((Ext.refl _).alloc _).alloc _)
  have bp : Bl x1 (w.heap.size) #[.int .i64 1, .int .u8 (r0 : Int), .int .u8 (g0 : Int), .int .u8 (b0 : Int), .int .u8 (a0 : Int), .int .u8 (r1 : Int), .int .u8 (g1 : Int), .int .u8 (b1 : Int), .int .u8 (a1 : Int), .int .i64 px, .int .i64 py, .int .i64 qx, .int .i64 qy, .int .i64 r, .int .i64 ux, .int .i64 uy, .int .i64 vx, .int .i64 vy, .int .i64 x, .int .i64 y, .slice a n c, .bool s] := by rw [hx1]; exact ((Bl.new (by simp)).alloc (by simp))
  have bo : Bl x1 (w.heap.size + 1) #[.int .i64 0, .int .u8 0, .int .u8 0, .int .u8 0, .int .u8 0, .int .u8 0, .int .u8 0, .int .u8 0, .int .u8 0, .int .i64 0, .int .i64 0, .int .i64 0, .int .i64 0, .int .i64 0, .int .i64 0, .int .i64 0, .int .i64 0, .int .i64 0, .int .i64 0, .int .i64 0, .slice none 0 0, .bool false] := by rw [hx1]; exact (Bl.new (by simp))
  have fo : Fz x1 (w.heap.size + 1) := by rw [hx1]; exact (Fz.new (by simp))
  have HE := hx
  clear hx
  clear hx1
  go_wp2_with (first | (refine wpList_exec rfl (exec_u1 rfl rfl rfl) ?_) | (refine wpList_storeB bo fo rfl rfl rfl rfl rfl rfl (List.all_eq_true.1 (by rfl)) rfl (fun ue hbs hfs hbu hex => ?_)))
  refine bodyPost_cells rfl rfl Try.underlying30 rfl (by kernel_rfl) (blk_great hbs) rfl ?_
  exact ⟨rfl, hex w HE (by omega)⟩

set_option maxRecDepth 100000 in
set_option maxHeartbeats 4000000 in
theorem t_Used_2 (r0 g0 b0 a0 r1 g1 b1 a1 : Nat) (px py qx qy r ux uy vx vy : Int) (x y : Int) (a : Option Addr) (n c : Nat) (s : Bool) (w : World) : Calls Try.prog 9 #[.agg #[.int .i64 2, .int .u8 (r0 : Int), .int .u8 (g0 : Int), .int .u8 (b0 : Int), .int .u8 (a0 : Int), .int .u8 (r1 : Int), .int .u8 (g1 : Int), .int .u8 (b1 : Int), .int .u8 (a1 : Int), .int .i64 px, .int .i64 py, .int .i64 qx, .int .i64 qy, .int .i64 r, .int .i64 ux, .int .i64 uy, .int .i64 vx, .int .i64 vy, .int .i64 x, .int .i64 y, .slice a n c, .bool s]] w fun e w' => e = .returned (.agg #[.int .i64 2, .int .u8 (r0 : Int), .int .u8 (g0 : Int), .int .u8 (b0 : Int), .int .u8 (a0 : Int), .int .u8 (r1 : Int), .int .u8 (g1 : Int), .int .u8 (b1 : Int), .int .u8 (a1 : Int), .int .i64 px, .int .i64 py, .int .i64 qx, .int .i64 qy, .int .i64 0, .int .i64 0, .int .i64 0, .int .i64 0, .int .i64 0, .int .i64 0, .int .i64 0, .slice none 0 0, .bool false]) ∧ Ext w w' := by
  go_enter Try.func9, Try.ntmps9
  go_upto_region 1 with fail
  refine absW (fun x1 hx1 => ?_)
  have hx : Ext w x1 := by rw [hx1]; exact (((Ext.refl _).alloc _).alloc _)
  have bp : Bl x1 (w.heap.size) #[.int .i64 2, .int .u8 (r0 : Int), .int .u8 (g0 : Int), .int .u8 (b0 : Int), .int .u8 (a0 : Int), .int .u8 (r1 : Int), .int .u8 (g1 : Int), .int .u8 (b1 : Int), .int .u8 (a1 : Int), .int .i64 px, .int .i64 py, .int .i64 qx, .int .i64 qy, .int .i64 r, .int .i64 ux, .int .i64 uy, .int .i64 vx, .int .i64 vy, .int .i64 x, .int .i64 y, .slice a n c, .bool s] := by rw [hx1]; exact ((Bl.new (by simp)).alloc (by simp))
  have bo : Bl x1 (w.heap.size + 1) #[.int .i64 0, .int .u8 0, .int .u8 0, .int .u8 0, .int .u8 0, .int .u8 0, .int .u8 0, .int .u8 0, .int .u8 0, .int .i64 0, .int .i64 0, .int .i64 0, .int .i64 0, .int .i64 0, .int .i64 0, .int .i64 0, .int .i64 0, .int .i64 0, .int .i64 0, .int .i64 0, .slice none 0 0, .bool false] := by rw [hx1]; exact (Bl.new (by simp))
  have fo : Fz x1 (w.heap.size + 1) := by rw [hx1]; exact (Fz.new (by simp))
  have HE := hx
  clear hx
  clear hx1
  go_wp2_with (first | (refine wpList_exec rfl (exec_u2 rfl rfl rfl rfl rfl rfl) ?_) | (refine wpList_storeB bo fo rfl rfl rfl rfl rfl rfl (List.all_eq_true.1 (by rfl)) rfl (fun ue hbs hfs hbu hex => ?_)))
  refine bodyPost_cells rfl rfl Try.underlying30 rfl (by kernel_rfl) (blk_great hbs) rfl ?_
  exact ⟨rfl, hex w HE (by omega)⟩

set_option maxRecDepth 100000 in
set_option maxHeartbeats 4000000 in
theorem t_Used_3 (r0 g0 b0 a0 r1 g1 b1 a1 : Nat) (px py qx qy r ux uy vx vy : Int) (x y : Int) (a : Option Addr) (n c : Nat) (s : Bool) (w : World) : Calls Try.prog 9 #[.agg #[.int .i64 3, .int .u8 (r0 : Int), .int .u8 (g0 : Int), .int .u8 (b0 : Int), .int .u8 (a0 : Int), .int .u8 (r1 : Int), .int .u8 (g1 : Int), .int .u8 (b1 : Int), .int .u8 (a1 : Int), .int .i64 px, .int .i64 py, .int .i64 qx, .int .i64 qy, .int .i64 r, .int .i64 ux, .int .i64 uy, .int .i64 vx, .int .i64 vy, .int .i64 x, .int .i64 y, .slice a n c, .bool s]] w fun e w' => e = .returned (.agg #[.int .i64 3, .int .u8 (r0 : Int), .int .u8 (g0 : Int), .int .u8 (b0 : Int), .int .u8 (a0 : Int), .int .u8 (r1 : Int), .int .u8 (g1 : Int), .int .u8 (b1 : Int), .int .u8 (a1 : Int), .int .i64 px, .int .i64 py, .int .i64 0, .int .i64 0, .int .i64 r, .int .i64 0, .int .i64 0, .int .i64 0, .int .i64 0, .int .i64 0, .int .i64 0, .slice none 0 0, .bool false]) ∧ Ext w w' := by
  go_enter Try.func9, Try.ntmps9
  go_upto_region 1 with fail
  refine absW (fun x1 hx1 => ?_)
  have hx : Ext w x1 := by rw [hx1]; exact (((Ext.refl _).alloc _).alloc _)
  have bp : Bl x1 (w.heap.size) #[.int .i64 3, .int .u8 (r0 : Int), .int .u8 (g0 : Int), .int .u8 (b0 : Int), .int .u8 (a0 : Int), .int .u8 (r1 : Int), .int .u8 (g1 : Int), .int .u8 (b1 : Int), .int .u8 (a1 : Int), .int .i64 px, .int .i64 py, .int .i64 qx, .int .i64 qy, .int .i64 r, .int .i64 ux, .int .i64 uy, .int .i64 vx, .int .i64 vy, .int .i64 x, .int .i64 y, .slice a n c, .bool s] := by rw [hx1]; exact ((Bl.new (by simp)).alloc (by simp))
  have bo : Bl x1 (w.heap.size + 1) #[.int .i64 0, .int .u8 0, .int .u8 0, .int .u8 0, .int .u8 0, .int .u8 0, .int .u8 0, .int .u8 0, .int .u8 0, .int .i64 0, .int .i64 0, .int .i64 0, .int .i64 0, .int .i64 0, .int .i64 0, .int .i64 0, .int .i64 0, .int .i64 0, .int .i64 0, .int .i64 0, .slice none 0 0, .bool false] := by rw [hx1]; exact (Bl.new (by simp))
  have fo : Fz x1 (w.heap.size + 1) := by rw [hx1]; exact (Fz.new (by simp))
  have HE := hx
  clear hx
  clear hx1
  go_wp2_with (first | (refine wpList_exec rfl (exec_u3 rfl rfl rfl rfl rfl rfl) ?_) | (refine wpList_storeB bo fo rfl rfl rfl rfl rfl rfl (List.all_eq_true.1 (by rfl)) rfl (fun ue hbs hfs hbu hex => ?_)))
  refine bodyPost_cells rfl rfl Try.underlying30 rfl (by kernel_rfl) (blk_great hbs) rfl ?_
  exact ⟨rfl, hex w HE (by omega)⟩

set_option maxRecDepth 100000 in
set_option maxHeartbeats 4000000 in
theorem t_Used_0 (k : Int) (r0 g0 b0 a0 r1 g1 b1 a1 : Nat) (px py qx qy r ux uy vx vy : Int) (x y : Int) (a : Option Addr) (n c : Nat) (s : Bool) (w : World) (h1 : ¬ k = 1) (h2 : ¬ k = 2) (h3 : ¬ k = 3) : Calls Try.prog 9 #[.agg #[.int .i64 k, .int .u8 (r0 : Int), .int .u8 (g0 : Int), .int .u8 (b0 : Int), .int .u8 (a0 : Int), .int .u8 (r1 : Int), .int .u8 (g1 : Int), .int .u8 (b1 : Int), .int .u8 (a1 : Int), .int .i64 px, .int .i64 py, .int .i64 qx, .int .i64 qy, .int .i64 r, .int .i64 ux, .int .i64 uy, .int .i64 vx, .int .i64 vy, .int .i64 x, .int .i64 y, .slice a n c, .bool s]] w fun e w' => e = .returned (.agg #[.int .i64 0, .int .u8 0, .int .u8 0, .int .u8 0, .int .u8 0, .int .u8 0, .int .u8 0, .int .u8 0, .int .u8 0, .int .i64 0, .int .i64 0, .int .i64 0, .int .i64 0, .int .i64 0, .int .i64 0, .int .i64 0, .int .i64 0, .int .i64 0, .int .i64 0, .int .i64 0, .slice none 0 0, .bool false]) ∧ Ext w w' := by
  have e1 : (k == 1) = false := by simp [h1]
  have e2 : (k == 2) = false := by simp [h2]
  have e3 : (k == 3) = false := by simp [h3]
  go_enter Try.func9, Try.ntmps9
  go_upto_region 1 with fail
  refine absW (fun x1 hx1 => ?_)
  have hx : Ext w x1 := by rw [hx1]; exact (((Ext.refl _).alloc _).alloc _)
  have bp : Bl x1 (w.heap.size) #[.int .i64 k, .int .u8 (r0 : Int), .int .u8 (g0 : Int), .int .u8 (b0 : Int), .int .u8 (a0 : Int), .int .u8 (r1 : Int), .int .u8 (g1 : Int), .int .u8 (b1 : Int), .int .u8 (a1 : Int), .int .i64 px, .int .i64 py, .int .i64 qx, .int .i64 qy, .int .i64 r, .int .i64 ux, .int .i64 uy, .int .i64 vx, .int .i64 vy, .int .i64 x, .int .i64 y, .slice a n c, .bool s] := by rw [hx1]; exact ((Bl.new (by simp)).alloc (by simp))
  have bo : Bl x1 (w.heap.size + 1) #[.int .i64 0, .int .u8 0, .int .u8 0, .int .u8 0, .int .u8 0, .int .u8 0, .int .u8 0, .int .u8 0, .int .u8 0, .int .i64 0, .int .i64 0, .int .i64 0, .int .i64 0, .int .i64 0, .int .i64 0, .int .i64 0, .int .i64 0, .int .i64 0, .int .i64 0, .int .i64 0, .slice none 0 0, .bool false] := by rw [hx1]; exact (Bl.new (by simp))
  have fo : Fz x1 (w.heap.size + 1) := by rw [hx1]; exact (Fz.new (by simp))
  have HE := hx
  clear hx
  clear hx1
  go_wp2_with (first | (refine wpList_exec rfl (exec_u0 rfl) ?_) | (refine wpList_storeB bo fo rfl rfl rfl rfl rfl rfl (List.all_eq_true.1 (by rfl)) rfl (fun ue hbs hfs hbu hex => ?_)))
  refine bodyPost_cells rfl rfl Try.underlying30 rfl (by kernel_rfl) (blk_great hbs) rfl ?_
  exact ⟨rfl, hex w HE (by omega)⟩

end Go.Proofs.Ytmibjfkpchncgaa
