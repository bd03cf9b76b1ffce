/- The rules of reckoning hold of any three whole numbers, where what is read is of bulk at most 1048576. Conditions: bulk at most 1048576. -/
import Derived.Test.YtcipcpbjkcpgdaaM7
import Derived.Test.YtcipcpbjkcpgdaaQ34
import Derived.JoinedCond
namespace Go.Proofs.Ytcipcpbjkcpgdaa.wholeRulesDone
open Go Go.RowKit Go.ChangeShapes Go.WideShapes Go.ChangeAt
open Go.ChangeMaps (open_string shut_string)
set_option linter.unusedVariables false

theorem own : ownKnob Try.prog.godebug = none := by kernel_rfl
theorem laidOut : laidOutB Try.prog = true := by kernel_rfl
theorem cells32 : Try.prog.cellsOf 57 = 1 := by kernel_rfl
theorem wf_i64 {n : Int} (hw : (Lit.int .i64 n).wf = true) : -9223372036854775808 ≤ n ∧ n ≤ 9223372036854775807 := by
  simp [Lit.wf] at hw
  exact ⟨hw.1, hw.2⟩
theorem wf_u64 {n : Int} (hw : (Lit.int .u64 n).wf = true) : ∃ m : Nat, n = (m : Int) ∧ m ≤ 18446744073709551615 := by
  simp [Lit.wf] at hw
  have h1 : (0 : Int) ≤ n := hw.1
  have h2 : n ≤ (18446744073709551615 : Int) := hw.2
  exact ⟨n.toNat, by omega, by omega⟩

theorem cellsW : Try.prog.cellsOf 51 = 2 := by kernel_rfl

set_option maxRecDepth 100000 in
theorem whole_arg {H : Type} {enc : TypeId × Value → H} {W : World} {r : Reach} {b0 : Nat} {spare : Nat → Bool} {held : Bool} {base : Nat} {v : Value} {d : DataW H} {p : List MemPlace} (hv : Value.okWide Try.prog W r b0 51 v) (h : DataW.Trod enc Try.prog W base spare held 51 v d p) :
    ∃ (g : Bool) (a : Option Addr) (n cap : Nat) (l : List Nat), v = .agg #[.bool g, .slice a n cap] ∧ Sl W a n cap (ints .u32 l) ∧ (∀ x ∈ l, (Lit.int .u32 (x : Int)).wf = true) ∧ n ≤ Rows.uptoBulk d := by
  obtain ⟨c0, c1, y0, y1, n, rfl, hd, _, t0, t1⟩ := Go.Joins.open_agg2 Try.underlying51 (by kernel_rfl) cellsW hv h
  obtain ⟨g, hg, _⟩ := DataW.trod_bool Try.underlying4 t0
  obtain ⟨a, m, cap, l, rfl, hs, hw, hb⟩ := nums_cell Try.underlying22 Try.underlying57 cells32 (fun z h => wf_u32 h) t1
  cases hg
  refine ⟨g, a, m, cap, l, rfl, hs, hw, ?_⟩
  rw [hd]
  simp only [Rows.uptoBulk, Rows.uptoBulkAll]
  omega

set_option maxRecDepth 100000 in
theorem contract (H : Type) (enc : TypeId × Value → H) (W : World) (base : Nat) (args : Array Value) (ds gs : List (DataW H)) (before : List MemPlace)
    (hval : ∀ (j : Nat) t v, Try.f15.params[j]? = some t → args[j]? = some v → Value.okWide Try.prog W .any base t v)
    (hW : DataW.Whole enc Try.prog Try.f15.params.toList Rows.wholeRulesSpec.vars false W args.toList ds gs before) (hk : Rows.uptoSmall H (ds ++ gs) = true) :
    Calls Try.prog 15 args W fun e W' => ∃ v, e = .returned v ∧ Rows.wholeRulesSpec.post enc Try.prog Try.f15 false true false false W args v W' := by
  have hW' := hW
  obtain ⟨p, q, hA0, hV, rfl, hfz, hnd⟩ := hW
  have hA : DataW.TrodAll enc Try.prog W 0 (fun _ => true) true Try.f15.params.toList args.toList ds p := hA0
  rw [Try.params15] at hA hval
  obtain ⟨v0, vs0, d0, ds0, p0, q0, hargs, rfl, rfl, h0, r0⟩ := trodAll_cons hA
  obtain ⟨v1, vs1, d1, ds1, p1, q1, rfl, rfl, rfl, h1, r1⟩ := trodAll_cons r0
  obtain ⟨v2, vs2, d2, ds2, p2, q2, rfl, rfl, rfl, h2, r2⟩ := trodAll_cons r1
  obtain ⟨rfl, rfl, rfl⟩ := trodAll_nil r2
  obtain rfl : args = #[v0, v1, v2] := by cases args; simp_all
  obtain ⟨rfl, rfl⟩ := trodVars_none hV
  have hb : Rows.uptoBulkAll (H := H) ([d0, d1, d2] ++ []) ≤ 1048576 := of_decide_eq_true hk
  simp only [List.append_nil, Rows.uptoBulkAll] at hb
  have b0 := bulk_one d0
  have b1 := bulk_one d1
  have b2 := bulk_one d2
  have k0 := h0
  have lt0 : ∀ x ∈ p0, x.block < W.heap.size := by obtain ⟨m, hm⟩ := k0; exact DataW.trod_lt m _ _ _ hm
  obtain ⟨g0, a0, n0, c0, l0, rfl, s0, w0, u0⟩ := whole_arg (hval 0 51 v0 rfl rfl) h0
  have k1 := h1
  have lt1 : ∀ x ∈ p1, x.block < W.heap.size := by obtain ⟨m, hm⟩ := k1; exact DataW.trod_lt m _ _ _ hm
  obtain ⟨g1, a1, n1, c1, l1, rfl, s1, w1, u1⟩ := whole_arg (hval 1 51 v1 rfl rfl) h1
  have k2 := h2
  have lt2 : ∀ x ∈ p2, x.block < W.heap.size := by obtain ⟨m, hm⟩ := k2; exact DataW.trod_lt m _ _ _ hm
  obtain ⟨g2, a2, n2, c2, l2, rfl, s2, w2, u2⟩ := whole_arg (hval 2 51 v2 rfl rfl) h2
  clear hA0
  refine (wholeRules_any g0 a0 n0 c0 l0 g1 a1 n1 c1 l1 g2 a2 n2 c2 l2 W s0 (fun x hx => wf_u32' (w0 x hx)) (by omega) s1 (fun x hx => wf_u32' (w1 x hx)) (by omega) s2 (fun x hx => wf_u32' (w2 x hx)) (by omega)).mono fun e W' ⟨he, bel⟩ => ?_
  subst he
  exact ⟨_, rfl, _, _, _, [], _, [], hW', trodAll_mk1 (shut_bool Try.underlying4 _), (trodAll_cons_mk (Below.trod laidOut (by kernel_rfl) (of_decide_eq_true (by kernel_rfl)) k0 bel lt0) (trodAll_cons_mk (Below.trod laidOut (by kernel_rfl) (of_decide_eq_true (by kernel_rfl)) k1 bel lt1) (trodAll_cons_mk (Below.trod laidOut (by kernel_rfl) (of_decide_eq_true (by kernel_rfl)) k2 bel lt2) trodAll_mk0))), rfl, bel.frame _, fun h => by cases h⟩

set_option maxRecDepth 100000 in
theorem lifted (os : Os) (started : os.Started) (H : Type) (enc : TypeId × Value → H) (F : Stop.Interp) :
    ReturnsInHanded {} Try.checked os 15 .any ((Rows.OpenSpec.upto Rows.wholeRulesSpec).pre6 enc Try.prog Try.f15 Rows.wholeRulesUptoRow.domain false) (((Rows.OpenSpec.upto Rows.wholeRulesSpec).at F).post enc Try.prog Try.f15 false true false false) := by
  refine returnsInHanded_of_cond (C := Try.checked) (s := Rows.OpenSpec.upto Rows.wholeRulesSpec) (k := Rows.uptoSmall) rfl own started (by kernel_rfl) Try.func15
    (OpenSpec.witness (enc := enc) (C := Try.checked) (s := Rows.OpenSpec.upto Rows.wholeRulesSpec) (k := Rows.uptoSmall) rfl false ⟨#[], #[.agg #[.bool false, .slice none 0 0], .agg #[.bool false, .slice none 0 0], .agg #[.bool false, .slice none 0 0]], []⟩ 8 (by kernel_rfl) (by kernel_rfl) (by kernel_rfl)
      (x := ([.agg [.lit (.bool false), .nil], .agg [.lit (.bool false), .nil], .agg [.lit (.bool false), .nil]], [], [])) (by kernel_rfl) rfl (by kernel_rfl)) ?_
  intro W base args ds gs before hval hW _ hk _
  exact contract H enc W base args ds gs before hval hW hk

theorem said : Rows.WholeRulesUptoSaid :=
  OpenClaim.holds_of_cond 15 Try.f15 rfl rfl rfl rfl rfl rfl rfl ⟨rfl, rfl, rfl, rfl, rfl⟩ rfl rfl rfl rfl rfl (by kernel_rfl) Try.func15 (by kernel_rfl)
    (of_decide_eq_true (by kernel_rfl)) (by unfold Func.isWrapper; first | (rw [if_pos (by decide +kernel)]; kernel_rfl) | (rw [if_neg (by decide +kernel)]; exact ⟨rfl, rfl⟩))
    (fun os started H enc _ F => lifted os started H enc F)

end Go.Proofs.Ytcipcpbjkcpgdaa.wholeRulesDone
namespace Go.Proofs.Ytcipcpbjkcpgdaa
open Go
/-- THE STATEMENT. -/
theorem wholeRules_holds : Rows.WholeRulesUptoSaid := wholeRulesDone.said
#print axioms wholeRules_holds
end Go.Proofs.Ytcipcpbjkcpgdaa
