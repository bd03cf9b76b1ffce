/- The rules of reckoning hold of any three fractions, and what is equal is the same, where what is read is of bulk at most 1048576. Conditions: bulk at most 1048576. -/
import Derived.Test.YtcipcpbjkcpgdaaLF
import Derived.Test.YtcipcpbjkcpgdaaQ28
import Derived.JoinedCond
namespace Go.Proofs.Ytcipcpbjkcpgdaa.fracRulesDone
open Go Go.RowKit Go.ChangeShapes Go.WideShapes Go.ChangeAt
open Go.ChangeMaps (open_string shut_string)
set_option linter.unusedVariables false

theorem own : ownKnob Try.prog.godebug = none := by kernel_rfl
theorem laidOut : laidOutB Try.prog = true := by kernel_rfl
theorem cells32 : Try.prog.cellsOf 57 = 1 := by kernel_rfl
theorem wf_i64 {n : Int} (hw : (Lit.int .i64 n).wf = true) : -9223372036854775808 ≤ n ∧ n ≤ 9223372036854775807 := by
  simp [Lit.wf] at hw
  exact ⟨hw.1, hw.2⟩
theorem wf_u64 {n : Int} (hw : (Lit.int .u64 n).wf = true) : ∃ m : Nat, n = (m : Int) ∧ m ≤ 18446744073709551615 := by
  simp [Lit.wf] at hw
  have h1 : (0 : Int) ≤ n := hw.1
  have h2 : n ≤ (18446744073709551615 : Int) := hw.2
  exact ⟨n.toNat, by omega, by omega⟩

set_option maxRecDepth 100000 in
theorem contract (H : Type) (enc : TypeId × Value → H) (W : World) (base : Nat) (args : Array Value) (ds gs : List (DataW H)) (before : List MemPlace)
    (hval : ∀ (j : Nat) t v, Try.f18.params[j]? = some t → args[j]? = some v → Value.okWide Try.prog W .any base t v)
    (hW : DataW.Whole enc Try.prog Try.f18.params.toList Rows.fracRulesSpec.vars false W args.toList ds gs before) (hk : Rows.uptoSmall H (ds ++ gs) = true) :
    Calls Try.prog 18 args W fun e W' => ∃ v, e = .returned v ∧ Rows.fracRulesSpec.post enc Try.prog Try.f18 false true false false W args v W' := by
  have hW' := hW
  obtain ⟨p, q, hA0, hV, rfl, hfz, hnd⟩ := hW
  have hA : DataW.TrodAll enc Try.prog W 0 (fun _ => true) true Try.f18.params.toList args.toList ds p := hA0
  rw [Try.params18] at hA hval
  obtain ⟨v0, vs0, d0, ds0, p0, q0, hargs, rfl, rfl, h0, r0⟩ := trodAll_cons hA
  obtain ⟨v1, vs1, d1, ds1, p1, q1, rfl, rfl, rfl, h1, r1⟩ := trodAll_cons r0
  obtain ⟨v2, vs2, d2, ds2, p2, q2, rfl, rfl, rfl, h2, r2⟩ := trodAll_cons r1
  obtain ⟨rfl, rfl, rfl⟩ := trodAll_nil r2
  obtain rfl : args = #[v0, v1, v2] := by cases args; simp_all
  obtain ⟨rfl, rfl⟩ := trodVars_none hV
  have hb : Rows.uptoBulkAll (H := H) ([d0, d1, d2] ++ []) ≤ 1048576 := of_decide_eq_true hk
  simp only [List.append_nil, Rows.uptoBulkAll] at hb
  have b0 := bulk_one d0
  have b1 := bulk_one d1
  have b2 := bulk_one d2
  have k0 := h0
  have lt0 : ∀ x ∈ p0, x.block < W.heap.size := by obtain ⟨m, hm⟩ := k0; exact DataW.trod_lt m _ _ _ hm
  obtain ⟨g0, a0, n0, c0, l0, e0, m0, j0, y0, rfl, s0, w0, u0, ss0, ww0, uu0⟩ := frac_arg (hval 0 79 v0 rfl rfl) h0
  have k1 := h1
  have lt1 : ∀ x ∈ p1, x.block < W.heap.size := by obtain ⟨m, hm⟩ := k1; exact DataW.trod_lt m _ _ _ hm
  obtain ⟨g1, a1, n1, c1, l1, e1, m1, j1, y1, rfl, s1, w1, u1, ss1, ww1, uu1⟩ := frac_arg (hval 1 79 v1 rfl rfl) h1
  have k2 := h2
  have lt2 : ∀ x ∈ p2, x.block < W.heap.size := by obtain ⟨m, hm⟩ := k2; exact DataW.trod_lt m _ _ _ hm
  obtain ⟨g2, a2, n2, c2, l2, e2, m2, j2, y2, rfl, s2, w2, u2, ss2, ww2, uu2⟩ := frac_arg (hval 2 79 v2 rfl rfl) h2
  clear hA0
  refine (fracRules_any g0 a0 n0 c0 l0 e0 m0 j0 y0 g1 a1 n1 c1 l1 e1 m1 j1 y1 g2 a2 n2 c2 l2 e2 m2 j2 y2 W s0 (fun x hx => wf_u32' (w0 x hx)) (by omega) ss0 (fun x hx => wf_u32' (ww0 x hx)) (by omega) s1 (fun x hx => wf_u32' (w1 x hx)) (by omega) ss1 (fun x hx => wf_u32' (ww1 x hx)) (by omega) s2 (fun x hx => wf_u32' (w2 x hx)) (by omega) ss2 (fun x hx => wf_u32' (ww2 x hx)) (by omega)).mono fun e W' ⟨he, bel⟩ => ?_
  subst he
  exact ⟨_, rfl, _, _, _, [], _, [], hW', trodAll_mk1 (shut_bool Try.underlying4 _), (trodAll_cons_mk (Below.trod laidOut (by kernel_rfl) (of_decide_eq_true (by kernel_rfl)) k0 bel lt0) (trodAll_cons_mk (Below.trod laidOut (by kernel_rfl) (of_decide_eq_true (by kernel_rfl)) k1 bel lt1) (trodAll_cons_mk (Below.trod laidOut (by kernel_rfl) (of_decide_eq_true (by kernel_rfl)) k2 bel lt2) trodAll_mk0))), rfl, bel.frame _, fun h => by cases h⟩

set_option maxRecDepth 100000 in
theorem lifted (os : Os) (started : os.Started) (H : Type) (enc : TypeId × Value → H) (F : Stop.Interp) :
    ReturnsInHanded {} Try.checked os 18 .any ((Rows.OpenSpec.upto Rows.fracRulesSpec).pre6 enc Try.prog Try.f18 Rows.fracRulesUptoRow.domain false) (((Rows.OpenSpec.upto Rows.fracRulesSpec).at F).post enc Try.prog Try.f18 false true false false) := by
  refine returnsInHanded_of_cond (C := Try.checked) (s := Rows.OpenSpec.upto Rows.fracRulesSpec) (k := Rows.uptoSmall) rfl own started (by kernel_rfl) Try.func18
    (OpenSpec.witness (enc := enc) (C := Try.checked) (s := Rows.OpenSpec.upto Rows.fracRulesSpec) (k := Rows.uptoSmall) rfl false ⟨#[], #[.agg #[.bool false, .slice none 0 0, .slice none 0 0], .agg #[.bool false, .slice none 0 0, .slice none 0 0], .agg #[.bool false, .slice none 0 0, .slice none 0 0]], []⟩ 8 (by kernel_rfl) (by kernel_rfl) (by kernel_rfl)
      (x := ([.agg [.agg [.lit (.bool false), .nil], .nil], .agg [.agg [.lit (.bool false), .nil], .nil], .agg [.agg [.lit (.bool false), .nil], .nil]], [], [])) (by kernel_rfl) rfl (by kernel_rfl)) ?_
  intro W base args ds gs before hval hW _ hk _
  exact contract H enc W base args ds gs before hval hW hk

theorem said : Rows.FracRulesUptoSaid :=
  OpenClaim.holds_of_cond 18 Try.f18 rfl rfl rfl rfl rfl rfl rfl ⟨rfl, rfl, rfl, rfl, rfl⟩ rfl rfl rfl rfl rfl (by kernel_rfl) Try.func18 (by kernel_rfl)
    (of_decide_eq_true (by kernel_rfl)) (by unfold Func.isWrapper; first | (rw [if_pos (by decide +kernel)]; kernel_rfl) | (rw [if_neg (by decide +kernel)]; exact ⟨rfl, rfl⟩))
    (fun os started H enc _ F => lifted os started H enc F)

end Go.Proofs.Ytcipcpbjkcpgdaa.fracRulesDone
namespace Go.Proofs.Ytcipcpbjkcpgdaa
open Go
/-- THE STATEMENT. -/
theorem fracRules_holds : Rows.FracRulesUptoSaid := fracRulesDone.said
#print axioms fracRules_holds
end Go.Proofs.Ytcipcpbjkcpgdaa
