/- Fractions to the nearest. -/
import Derived.Test.YtmibjfkpchncgaaGreatQ18
import Derived.Test.YtmibjfkpchncgaaGreatQ19
namespace Go.Proofs.YtmibjfkpchncgaaGreat
set_option linter.unusedVariables false
open Go Go.RowKit

theorem near_rat {n d : Int} (h : 1 ≤ d) : ((n : Rat) / (d : Rat) + mkRat 1 2).floor = (2 * n + d) / (2 * d) := by
  have e1 : (n : Rat) / (d : Rat) = mkRat n d.natAbs := by
    rw [← Rat.divInt_eq_div, mz_div (by omega)]
    have : mz n d = n := by unfold mz; rw [if_neg (by omega)]
    rw [this]
  have hn : d.natAbs ≠ 0 := by omega
  rw [e1, Rat.mkRat_add_mkRat _ _ hn (by omega), floor_mk (Nat.mul_ne_zero hn (by omega))]
  have e2 : ((d.natAbs : Nat) : Int) = d := by omega
  rw [Int.natCast_mul, e2]
  have e3 : n * ((2 : Nat) : Int) + 1 * d = 2 * n + d := by omega
  have e4 : d * ((2 : Nat) : Int) = 2 * d := by omega
  rw [e3, e4]
theorem rat_ne {d : Int} (h : 1 ≤ d) : (d : Rat) ≠ 0 := by
  intro h0
  rw [Rat.intCast_eq_zero_iff] at h0
  omega
theorem near_range {n d : Int} (h1 : -1125899906842624 ≤ n) (h2 : n ≤ 1125899906842624) (h3 : 1 ≤ d) (h4 : d ≤ 4294967296) : -9007199254740992 ≤ (2 * n + d) / (2 * d) ∧ (2 * n + d) / (2 * d) ≤ 9007199254740992 := by
  have := Int.natAbs_ediv_le_natAbs (2 * n + d) (2 * d)
  omega
theorem ql_half : ql (mkRat 1 2) ≤ 1 := by
  refine ql_mk ?_ ?_ (by omega)
  · exact dl_small (by decide)
  · exact dl_small (by decide)

set_option maxRecDepth 100000 in
set_option maxHeartbeats 4000000 in
theorem dq_Near {b : Bool} {a d : Option Addr} {n c m k N : Nat} {q : Rat} {w : World} (h : Fq w b a n c d m k q N) (hN : N ≤ 68719476736) (hN1 : 1 ≤ N) (hr : -9223372036854775808 ≤ (q + mkRat 1 2).floor ∧ (q + mkRat 1 2).floor ≤ 9223372036854775807) :
    Calls Tryz.prog 29 #[.agg #[.bool b, .slice a n c, .slice d m k]] w fun e w' => e = .returned (.int .i64 (q + mkRat 1 2).floor) ∧ Ext w w' := by
  have q1 := h.ql hN1
  have q3 := ql_half
  have x1 : ql (q + mkRat 1 2) ≤ 137438953472 := by have := ql_add q1 q3; omega
  have L1 := hidP q3; have L2 := hidP x1
  have f2 := ql_floor x1
  have A10 := hidP (fun (u : World) => gq_Half u)
  have A11 := hidP (fun (u : World) (t1 : Fq u b a n c d m k q N) (b2 : Bool) (a2 d2 : Option Addr) (n2 c2 m2 k2 : Nat) (t2 : Fq u b2 a2 n2 c2 d2 m2 k2 (mkRat 1 2) 1) => gq_Add t1 t2 (by omega) (by omega))
  have A12 := hidP (fun (u : World) (b2 : Bool) (a2 d2 : Option Addr) (n2 c2 m2 k2 : Nat) (t2 : Fq u b2 a2 n2 c2 d2 m2 k2 (q + mkRat 1 2) 137438953472) => gq_Floor t2 (by omega))
  have HF := hidP f2
  have HI : Hid (intR (q + mkRat 1 2).floor = .tuple #[.int .i64 (q + mkRat 1 2).floor, .bool true]) := hidP (if_pos hr)
  generalize (q + mkRat 1 2).floor = ff at *
  generalize q + mkRat 1 2 = r1 at *
  generalize mkRat 1 2 = hf at *
  have H := hidP h
  clear h q1 q3 x1 f2 hr hN hN1
  go_enter Tryz.func29, Tryz.ntmps29
  go_wp2_with fail
  refine wp_region_plan (R := Ext) (.q 0 (.l 1 (.l 2 (.l 3 (.l 4 (.q 5 (.q 6 (.q 7 (.q 8 (.q 9 .done)))))))))) (by kernel_rfl) (by kernel_rfl) (by kernel_rfl) (by kernel_rfl) Ext.refl (fun _ _ _ => Ext.trans) ?_
  refine absE (fun x1 hx1 => ?_)
  have hx : Ext w x1 := by rw [hx1]; exact ((Ext.refl _).alloc _).drew
  have bp : Bl x1 (w.heap.size) #[.bool b, .slice a n c, .slice d m k] := by rw [hx1]; exact (Bl.new (by simp)).drew
  have HE := hx
  clear hx
  clear hx1
  repeat (refine wpE_q (v := ?_) rfl rfl (fun u hu => ?_) ?_; rotate_left 1; (focus (have kp := Bl.ext hu bp (Nat.succ_pos _); go_simp; (try rfl))); simp only [Act.put, List.setIfInBounds_toArray, List.set_cons_zero, List.set_cons_succ])
  refine wpE_l rfl rfl (fun K hK => ?_)
  go_simp
  refine (A10.out _).mono ?_
  rintro e u1 ⟨a1, n1, c1, d1, m1, k1, rfl, hs1, ht1, hx⟩
  refine hK.out _ _ hx ?_
  clear hK K
  try simp only [Act.put, List.setIfInBounds_toArray, List.set_cons_zero, List.set_cons_succ]
  replace bp := Bl.ext hx bp (Nat.succ_pos _)
  replace HE := HE.trans hx
  clear hx
  replace hs1 : Nc u1 a1 n1 c1 (hf.num).natAbs := hs1
  replace ht1 : Nc u1 d1 m1 k1 (hf.den) := ht1
  refine wpE_l rfl rfl (fun K hK => ?_)
  go_simp
  refine (A11.out _ (H.out.ext HE) _ _ _ _ _ _ _ (fq_of hs1 ht1 L1.out (by omega))).mono ?_
  rintro e u2 ⟨a2, n2, c2, d2, m2, k2, rfl, hs2, ht2, hx⟩
  refine hK.out _ _ hx ?_
  clear hK K
  try simp only [Act.put, List.setIfInBounds_toArray, List.set_cons_zero, List.set_cons_succ]
  replace bp := Bl.ext hx bp (Nat.succ_pos _)
  replace hs1 := hs1.ext hx
  replace ht1 := ht1.ext hx
  replace HE := HE.trans hx
  clear hx
  replace hs2 : Nc u2 a2 n2 c2 (r1.num).natAbs := hs2
  replace ht2 : Nc u2 d2 m2 k2 (r1.den) := ht2
  refine wpE_l rfl rfl (fun K hK => ?_)
  go_simp
  refine (A12.out _ _ _ _ _ _ _ _ (fq_of hs2 ht2 L2.out (by omega))).mono ?_
  rintro e u3 ⟨a3, n3, c3, rfl, hs3, hx⟩
  refine hK.out _ _ hx ?_
  clear hK K
  try simp only [Act.put, List.setIfInBounds_toArray, List.set_cons_zero, List.set_cons_succ]
  replace bp := Bl.ext hx bp (Nat.succ_pos _)
  replace hs1 := hs1.ext hx
  replace ht1 := ht1.ext hx
  replace hs2 := hs2.ext hx
  replace ht2 := ht2.ext hx
  replace HE := HE.trans hx
  clear hx
  replace hs3 : Nc u3 a3 n3 c3 (ff).natAbs := hs3
  refine wpE_l rfl rfl (fun K hK => ?_)
  go_simp
  refine (r02_Int_any _ a3 n3 c3 ff _ (hs3.wh (by have := HF.out; omega)) (by have := hs3.len; have := HF.out; omega)).mono ?_
  rw [HI.out]
  rintro e u4 ⟨rfl, hx⟩
  refine hK.out _ _ hx ?_
  clear hK K
  try simp only [Act.put, List.setIfInBounds_toArray, List.set_cons_zero, List.set_cons_succ]
  replace bp := Bl.ext hx bp (Nat.succ_pos _)
  replace hs1 := hs1.ext hx
  replace ht1 := ht1.ext hx
  replace hs2 := hs2.ext hx
  replace ht2 := ht2.ext hx
  replace hs3 := hs3.ext hx
  replace HE := HE.trans hx
  clear hx
  repeat (refine wpE_q (v := ?_) rfl rfl (fun u hu => ?_) ?_; rotate_left 1; (focus (have kp := Bl.ext hu bp (Nat.succ_pos _); go_simp; (try rfl))); simp only [Act.put, List.setIfInBounds_toArray, List.set_cons_zero, List.set_cons_succ])
  refine wpE_done ?_
  go_wp2_with fail
  go_ret
  exact ⟨rfl, HE⟩


end Go.Proofs.YtmibjfkpchncgaaGreat
