/- Paints: when two are the same; a ramp that lives. -/
import Derived.Test.YtmibjfkpchncgaaGreatZ7
import Derived.Test.YtmibjfkpchncgaaGreatR2
namespace Go.Proofs.YtmibjfkpchncgaaGreat
set_option linter.unusedVariables false
set_option linter.unusedSimpArgs false
open Go Go.RowKit

theorem wpList_execW {ops : Array Oper} {rest : List Oper} {o : Oper} {a : Act} {Q : Exit → Act → World → Prop} {w : World} {v : Value} (hw : Region.wanted o (yielded ops a.tmps) = true) (hr : (execOp a.eval o).run Tryz.prog w = .ok (.value v) w)
    (hK : wpList Tryz.prog ops Q rest (a.put o.dst v) w) : wpList Tryz.prog ops Q (o :: rest) a w :=
  wpList_step fun K hK' => by
    rw [if_pos hw]
    unfold Oper.wp
    rw [hr]
    exact hK' _ _ hK
theorem live_step : stepF 2 0 0 10 0 0 5 7 = 128 := by decide +kernel
theorem live_at : atF 2 0 0 0 0 255 0 0 255 0 0 10 0 0 20 0 = (255, 0, 0, 255) := by decide +kernel
set_option maxRecDepth 100000 in
theorem exec_eqC {w : World} {ρ : Operand → Value} {o : Oper} {x y : Operand} {c0 c1 c2 c3 : Int} (ho : o.op = .binOp .eql 23 x y 4) (h0 : ρ x = .agg #[.int .u8 c0, .int .u8 c1, .int .u8 c2, .int .u8 c3]) (h1 : ρ y = .agg #[.int .u8 c0, .int .u8 c1, .int .u8 c2, .int .u8 c3]) : (execOp ρ o).run Tryz.prog w = .ok (.value (.bool true)) w := by
  unfold execOp
  simp only [ho]
  go_simp


set_option maxRecDepth 100000 in
set_option maxHeartbeats 4000000 in
theorem exec_l  {w : World} {ρ : Operand → Value} {o : Oper} {x0 x1 x2 : Operand} (ho : o.op = .build 30 #[(0, x0), (4, x1), (2, x2)]) (h0 : ρ x0 = .int .i64 2) (h1 : ρ x1 = .agg #[.int .i64 10, .int .i64 0]) (h2 : ρ x2 = .agg #[.int .u8 255, .int .u8 0, .int .u8 0, .int .u8 255]) : (execOp ρ o).run Tryz.prog w = .ok (.value (.agg #[.int .i64 2, .int .u8 0, .int .u8 0, .int .u8 0, .int .u8 0, .int .u8 255, .int .u8 0, .int .u8 0, .int .u8 255, .int .i64 0, .int .i64 0, .int .i64 10, .int .i64 0, .int .i64 0, .int .i64 0, .int .i64 0, .int .i64 0, .int .i64 0, .int .i64 0, .int .i64 0, .slice none 0 0, .bool false])) w := by
  unfold execOp
  simp only [ho]
  go_simp

set_option maxRecDepth 100000 in
set_option maxHeartbeats 4000000 in
theorem tint_lives (w : World) : Calls Tryz.prog 10 #[] w fun e w' => e = .returned (.bool true) ∧ Ext w w' := by
  have h1 := live_step
  have h2 := live_at
  have H1 := hidP (fun u => t_Step 2 0 0 0 0 255 0 0 255 0 0 10 0 0 0 0 0 0 0 0 none 0 0 false 5 7 u)
  have H2 := hidP (fun u => t_At 2 0 0 0 0 255 0 0 255 0 0 10 0 0 0 0 0 0 0 0 none 0 0 false 20 0 u ⟨by omega, by omega, by omega, by omega⟩ ⟨by omega, by omega, by omega, by omega⟩)
  rw [h1] at H1
  rw [h2] at H2
  replace H2 := hidP (fun u => (by exact H2.out u : Calls Tryz.prog 8 #[.agg #[.int .i64 2, .int .u8 0, .int .u8 0, .int .u8 0, .int .u8 0, .int .u8 255, .int .u8 0, .int .u8 0, .int .u8 255, .int .i64 0, .int .i64 0, .int .i64 10, .int .i64 0, .int .i64 0, .int .i64 0, .int .i64 0, .int .i64 0, .int .i64 0, .int .i64 0, .int .i64 0, .slice none 0 0, .bool false], .agg #[.int .i64 20, .int .i64 0]] u fun e w' => e = .returned (.agg #[.int .u8 255, .int .u8 0, .int .u8 0, .int .u8 255]) ∧ Ext u w'))
  clear h1 h2
  go_enter Tryz.func10, Tryz.ntmps10
  go_upto_region 1 with fail
  go_upto_region 2 with (first | (refine wpList_exec rfl (exec_l rfl rfl rfl rfl) ?_) | (refine wpList_storeB (Bl.new (by simp)) (Fz.new (by simp)) rfl rfl rfl rfl rfl rfl (List.all_eq_true.1 (by rfl)) rfl ?_; intro ue bq fq hbu hex; have HE := hex w ((Ext.refl _).alloc _) (Nat.le_refl _)))
  clear hbu hex fq
  go_wp2_with (first | (refine wpList_loadB bq rfl rfl rfl rfl ?_))
  refine (H1.out _).mono ?_
  rintro e u1 ⟨rfl, hx⟩
  replace bq := Bl.ext hx bq (Nat.succ_pos _)
  replace HE := HE.trans hx
  clear hx
  rename_i hK
  refine hK _ _ ?_
  try simp only [Act.put, List.setIfInBounds_toArray, List.set_cons_zero, List.set_cons_succ]
  refine wpList_execW (v := .bool true) rfl (by unfold execOp; go_simp) ?_
  try simp only [Act.put, List.setIfInBounds_toArray, List.set_cons_zero, List.set_cons_succ]
  refine wpList_execW (v := .bool true) rfl (by unfold execOp; go_simp) ?_
  try simp only [Act.put, List.setIfInBounds_toArray, List.set_cons_zero, List.set_cons_succ]
  refine wpList_execW rfl (exec_loadB bq rfl rfl rfl) ?_
  try simp only [Act.put, List.setIfInBounds_toArray, List.set_cons_zero, List.set_cons_succ]
  go_wp2_with fail
  refine (H2.out _).mono ?_
  rintro e u2 ⟨rfl, hx⟩
  replace bq := Bl.ext hx bq (Nat.succ_pos _)
  replace HE := HE.trans hx
  clear hx
  go_wp2_with fail
  go_ret
  exact ⟨rfl, HE⟩

end Go.Proofs.YtmibjfkpchncgaaGreat
