/- Paints: what of them plays a part. -/
import Derived.Test.YtmibjfkpchncgaaGreatZ5
namespace Go.Proofs.YtmibjfkpchncgaaGreat
set_option linter.unusedVariables false
set_option linter.unusedSimpArgs false
open Go Go.RowKit

theorem wpList_exec {ops : Array Oper} {rest : List Oper} {o : Oper} {a : Act} {Q : Exit → Act → World → Prop} {w : World} {v : Value} (hgd : o.guard = none) (hr : (execOp a.eval o).run Tryz.prog w = .ok (.value v) w)
    (hK : wpList Tryz.prog ops Q rest (a.put o.dst v) w) : wpList Tryz.prog ops Q (o :: rest) a w :=
  wpList_plain hgd fun _ hk => by
    unfold Oper.wp
    rw [hr]
    exact hk _ _ hK
theorem blk_great {w : World} {g : Nat} {cs : Array Value} (h : Bl w g cs) : ∀ j v, cs.toList[j]? = some v → w.cell? ⟨g, j, none⟩ = some v := by
  intro j v hv
  rw [h j]
  simpa using hv

set_option maxRecDepth 100000 in
set_option maxHeartbeats 4000000 in
theorem exec_u1 {k : Int} {r0 g0 b0 a0 r1 g1 b1 a1 : Nat} {px py qx qy r : Int} {w : World} {ρ : Operand → Value} {o : Oper} {x0 x1 : Operand} (ho : o.op = .build 30 #[(0, x0), (1, x1)]) (h0 : ρ x0 = .int .i64 k) (h1 : ρ x1 = .agg #[.int .u8 (r0 : Int), .int .u8 (g0 : Int), .int .u8 (b0 : Int), .int .u8 (a0 : Int)]) : (execOp ρ o).run Tryz.prog w = .ok (.value (.agg #[.int .i64 k, .int .u8 (r0 : Int), .int .u8 (g0 : Int), .int .u8 (b0 : Int), .int .u8 (a0 : Int), .int .u8 0, .int .u8 0, .int .u8 0, .int .u8 0, .int .i64 0, .int .i64 0, .int .i64 0, .int .i64 0, .int .i64 0, .int .i64 0, .int .i64 0, .int .i64 0, .int .i64 0, .int .i64 0, .int .i64 0, .slice none 0 0, .bool false])) w := by
  unfold execOp
  simp only [ho]
  go_simp

set_option maxRecDepth 100000 in
set_option maxHeartbeats 4000000 in
theorem exec_u2 {k : Int} {r0 g0 b0 a0 r1 g1 b1 a1 : Nat} {px py qx qy r : Int} {w : World} {ρ : Operand → Value} {o : Oper} {x0 x1 x2 x3 x4 : Operand} (ho : o.op = .build 30 #[(0, x0), (1, x1), (2, x2), (3, x3), (4, x4)]) (h0 : ρ x0 = .int .i64 k) (h1 : ρ x1 = .agg #[.int .u8 (r0 : Int), .int .u8 (g0 : Int), .int .u8 (b0 : Int), .int .u8 (a0 : Int)]) (h2 : ρ x2 = .agg #[.int .u8 (r1 : Int), .int .u8 (g1 : Int), .int .u8 (b1 : Int), .int .u8 (a1 : Int)]) (h3 : ρ x3 = .agg #[.int .i64 px, .int .i64 py]) (h4 : ρ x4 = .agg #[.int .i64 qx, .int .i64 qy]) : (execOp ρ o).run Tryz.prog w = .ok (.value (.agg #[.int .i64 k, .int .u8 (r0 : Int), .int .u8 (g0 : Int), .int .u8 (b0 : Int), .int .u8 (a0 : Int), .int .u8 (r1 : Int), .int .u8 (g1 : Int), .int .u8 (b1 : Int), .int .u8 (a1 : Int), .int .i64 px, .int .i64 py, .int .i64 qx, .int .i64 qy, .int .i64 0, .int .i64 0, .int .i64 0, .int .i64 0, .int .i64 0, .int .i64 0, .int .i64 0, .slice none 0 0, .bool false])) w := by
  unfold execOp
  simp only [ho]
  go_simp

set_option maxRecDepth 100000 in
set_option maxHeartbeats 4000000 in
theorem exec_u3 {k : Int} {r0 g0 b0 a0 r1 g1 b1 a1 : Nat} {px py qx qy r : Int} {w : World} {ρ : Operand → Value} {o : Oper} {x0 x1 x2 x3 x4 : Operand} (ho : o.op = .build 30 #[(0, x0), (1, x1), (2, x2), (3, x3), (5, x4)]) (h0 : ρ x0 = .int .i64 k) (h1 : ρ x1 = .agg #[.int .u8 (r0 : Int), .int .u8 (g0 : Int), .int .u8 (b0 : Int), .int .u8 (a0 : Int)]) (h2 : ρ x2 = .agg #[.int .u8 (r1 : Int), .int .u8 (g1 : Int), .int .u8 (b1 : Int), .int .u8 (a1 : Int)]) (h3 : ρ x3 = .agg #[.int .i64 px, .int .i64 py]) (h4 : ρ x4 = .int .i64 r) : (execOp ρ o).run Tryz.prog w = .ok (.value (.agg #[.int .i64 k, .int .u8 (r0 : Int), .int .u8 (g0 : Int), .int .u8 (b0 : Int), .int .u8 (a0 : Int), .int .u8 (r1 : Int), .int .u8 (g1 : Int), .int .u8 (b1 : Int), .int .u8 (a1 : Int), .int .i64 px, .int .i64 py, .int .i64 0, .int .i64 0, .int .i64 r, .int .i64 0, .int .i64 0, .int .i64 0, .int .i64 0, .int .i64 0, .int .i64 0, .slice none 0 0, .bool false])) w := by
  unfold execOp
  simp only [ho]
  go_simp

set_option maxRecDepth 100000 in
set_option maxHeartbeats 4000000 in
theorem exec_u0  {w : World} {ρ : Operand → Value} {o : Oper} {_x : Operand} (ho : o.op = .build 30 #[])  : (execOp ρ o).run Tryz.prog w = .ok (.value (.agg #[.int .i64 0, .int .u8 0, .int .u8 0, .int .u8 0, .int .u8 0, .int .u8 0, .int .u8 0, .int .u8 0, .int .u8 0, .int .i64 0, .int .i64 0, .int .i64 0, .int .i64 0, .int .i64 0, .int .i64 0, .int .i64 0, .int .i64 0, .int .i64 0, .int .i64 0, .int .i64 0, .slice none 0 0, .bool false])) w := by
  unfold execOp
  simp only [ho]
  go_simp

end Go.Proofs.YtmibjfkpchncgaaGreat
