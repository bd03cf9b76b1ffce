/- Fractions as rational numbers: what both sides' fractions stand for, and contracts of the document's fractions by it. -/
import Derived.Test.YtgjjalnmigdjgaaGreatQ17
namespace Go.Proofs.YtgjjalnmigdjgaaGreat
set_option linter.unusedVariables false
open Go Go.RowKit
theorem rz_num {z : Int} {D : Nat} (h : D ≠ 0) : rz z D = (mkRat z D).num ∧ rd z D = (mkRat z D).den := by
  rw [Rat.num_mkRat, Rat.den_mkRat, if_neg h, if_neg h, Nat.gcd_comm]
  exact ⟨rfl, rfl⟩
theorem mk_pr (z : Int) (D : Nat) : mkRat (pz z D) (pd D) = mkRat z D := by
  by_cases h : D = 0
  · subst h; simp [pz, pd]
  · have e1 : pz z D = z := if_neg h
    have e2 : pd D = D := if_neg h
    rw [e1, e2]
theorem mz_div {n d : Int} (h : d ≠ 0) : Rat.divInt n d = mkRat (mz n d) d.natAbs := by
  cases d with
  | ofNat k =>
    have : mz n (Int.ofNat k) = n := by unfold mz; rw [if_neg (by simp)]
    rw [this]; rfl
  | negSucc k =>
    have : mz n (Int.negSucc k) = -n := by unfold mz; rw [if_pos (by omega)]
    rw [this]
    show Rat.normalize (-n) k.succ (Nat.succ_ne_zero k) = _
    rw [Rat.normalize_eq_mkRat]; rfl
theorem mkz_div {n d : Int} (h : d ≠ 0) : mkz n d = (Rat.divInt n d).num ∧ mkd n d = (Rat.divInt n d).den ∧ mke d = 0 := by
  unfold mkz mkd mke
  rw [if_neg h, if_neg h, if_neg h, mz_div h]
  have := rz_num (z := mz n d) (D := d.natAbs) (by omega)
  exact ⟨this.1, this.2, rfl⟩
/-- A quotient across. -/
theorem mk_across {z z' : Int} {D D' : Nat} : Rat.divInt (z * (D' : Int)) (z' * (D : Int)) = mkRat z D / mkRat z' D' := by
  rw [Rat.div_def, ← Rat.divInt_ofNat, ← Rat.divInt_ofNat, Rat.inv_divInt, Rat.divInt_mul_divInt, Int.mul_comm z' (D : Int)]
/-- How many words a rational's parts have. -/
def ql (q : Rat) : Nat := max (dl q.num.natAbs) (dl q.den)
theorem ql_num {q : Rat} {N : Nat} (h : ql q ≤ N) : dl q.num.natAbs ≤ N := Nat.le_trans (Nat.le_max_left _ _) h
theorem ql_den {q : Rat} {N : Nat} (h : ql q ≤ N) : dl q.den ≤ N := Nat.le_trans (Nat.le_max_right _ _) h
theorem dl_one : dl 1 = 1 := by
  have h1 := dl_small (a := 1) (by omega)
  have h2 := dl_pos (V := 1) (by omega)
  omega
theorem ql_mk {z : Int} {D N : Nat} (h1 : dl z.natAbs ≤ N) (h2 : dl D ≤ N) (h0 : 1 ≤ N) : ql (mkRat z D) ≤ N := by
  unfold ql
  rw [Rat.num_mkRat, Rat.den_mkRat]
  refine Nat.max_le.2 ⟨?_, ?_⟩
  · split
    · rw [Int.natAbs_zero, dl_zero]; omega
    · exact Nat.le_trans (dl_mono (Int.natAbs_ediv_le_natAbs _ _)) h1
  · split
    · rw [dl_one]; exact h0
    · exact Nat.le_trans (dl_div _ _) h2
theorem ql_add {q q' : Rat} {N N' : Nat} (h : ql q ≤ N) (h' : ql q' ≤ N') : ql (q + q') ≤ N + N' + 1 := by
  rw [Rat.add_def']
  have a1 := dz_mul q.num (q'.den : Int); have a2 := dz_mul q'.num (q.den : Int)
  rw [Int.natAbs_natCast] at a1 a2
  have b1 := ql_num h; have b2 := ql_den h; have b3 := ql_num h'; have b4 := ql_den h'
  refine ql_mk (dz_add (by omega) (by omega)) ?_ (by omega)
  have := dl_mul q.den q'.den; omega
theorem ql_mul {q q' : Rat} {N N' : Nat} (h : ql q ≤ N) (h' : ql q' ≤ N') (h0 : 1 ≤ N) : ql (q * q') ≤ N + N' := by
  rw [Rat.mul_def']
  have a1 := dz_mul q.num q'.num
  have b1 := ql_num h; have b2 := ql_den h; have b3 := ql_num h'; have b4 := ql_den h'
  refine ql_mk (by omega) ?_ (by omega)
  have := dl_mul q.den q'.den; omega
theorem ql_neg (q : Rat) : ql (-q) = ql q := by unfold ql; rw [Rat.neg_num, Rat.neg_den, Int.natAbs_neg]
theorem ql_sub {q q' : Rat} {N N' : Nat} (h : ql q ≤ N) (h' : ql q' ≤ N') : ql (q - q') ≤ N + N' + 1 := by
  rw [Rat.sub_eq_add_neg]; exact ql_add h (by rw [ql_neg]; exact h')
theorem ql_inv {q : Rat} {N : Nat} (h : ql q ≤ N) (h0 : 1 ≤ N) : ql q⁻¹ ≤ N := by
  unfold ql
  rw [Rat.num_inv, Rat.den_inv]
  have b1 := ql_num h; have b2 := ql_den h
  refine Nat.max_le.2 ⟨?_, ?_⟩
  · rw [Int.natAbs_mul, Int.natAbs_natCast]
    refine Nat.le_trans (dl_mono ?_) b2
    have : q.num.sign.natAbs ≤ 1 := by
      rcases Int.lt_trichotomy q.num 0 with h | h | h
      · rw [Int.sign_eq_neg_one_of_neg h]; decide
      · rw [h]; decide
      · rw [Int.sign_eq_one_of_pos h]; decide
    have := Nat.mul_le_mul_right q.den this
    omega
  · split
    · rw [dl_one]; exact h0
    · exact b1
theorem ql_div {q q' : Rat} {N N' : Nat} (h : ql q ≤ N) (h' : ql q' ≤ N') (h0 : 1 ≤ N) (h1 : 1 ≤ N') : ql (q / q') ≤ N + N' := by
  rw [Rat.div_def]; exact ql_mul h (ql_inv h' h1) h0
theorem ql_int {n : Int} (h1 : -9223372036854775808 ≤ n) (h2 : n ≤ 9223372036854775807) : ql (n : Rat) ≤ 2 := by
  unfold ql
  rw [Rat.num_intCast, Rat.den_intCast, dl_one]
  have := wd_int h1 h2
  omega
/-- A fraction that stands for a rational, in parts of at most so many words. -/
def Fq (w : World) (b : Bool) (a : Option Addr) (n c : Nat) (d : Option Addr) (m k : Nat) (q : Rat) (N : Nat) : Prop :=
  ∃ (z : Int) (D : Nat), WhIn w b a n c z ∧ Nu w d m k D ∧ m ≤ 549755813888 ∧ dl z.natAbs ≤ N ∧ dl D ≤ N ∧ mkRat z D = q
theorem Fq.ext {w u : World} {b : Bool} {a d : Option Addr} {n c m k N : Nat} {q : Rat} (h : Fq w b a n c d m k q N) (he : Ext w u) : Fq u b a n c d m k q N := by
  obtain ⟨z, D, h1, h2, h3, h4, h5, h6⟩ := h
  exact ⟨z, D, h1.ext he, h2.ext he, h3, h4, h5, h6⟩
theorem Fq.ql {w : World} {b : Bool} {a d : Option Addr} {n c m k N : Nat} {q : Rat} (h : Fq w b a n c d m k q N) (h0 : 1 ≤ N) : ql q ≤ N := by
  obtain ⟨z, D, h1, h2, h3, h4, h5, rfl⟩ := h
  exact ql_mk h4 h5 h0
/-- What a call handed back, as an argument. -/
theorem fq_of {w : World} {a d : Option Addr} {n c m k N : Nat} {q : Rat} (h1 : Nc w a n c q.num.natAbs) (h2 : Nc w d m k q.den) (h : Go.Proofs.YtgjjalnmigdjgaaGreat.ql q ≤ N) (hN : N ≤ 549755813888) : Fq w (decide (q.num < 0)) a n c d m k q N := by
  have b1 := ql_num h; have b2 := ql_den h
  refine ⟨q.num, q.den, h1.wh (by omega), h2.nu (by omega), ?_, b1, b2, Rat.mkRat_self q⟩
  rw [h2.len]; omega
section
variable {b b' : Bool} {a d a' d' : Option Addr} {n c m k n' c' m' k' N N' : Nat} {q q' : Rat} {w : World}
theorem gq_Int (z : Int) (w : World) (h1 : -9223372036854775808 ≤ z) (h2 : z ≤ 9223372036854775807) : Calls Tryz.prog 57 #[.int .i64 z] w (RetF w (z : Rat).num (z : Rat).den) := g_Int z w h1 h2
theorem gq_Mul (h : Fq w b a n c d m k q N) (h' : Fq w b' a' n' c' d' m' k' q' N') (hN : N ≤ 137438953472) (hN' : N' ≤ 137438953472) :
    Calls Tryz.prog 54 #[.agg #[.bool b, .slice a n c, .slice d m k], .agg #[.bool b', .slice a' n' c', .slice d' m' k']] w (RetF w (q * q').num (q * q').den) := by
  obtain ⟨z, D, h1, h2, h3, h4, h5, rfl⟩ := h
  obtain ⟨z', D', h1', h2', h3', h4', h5', rfl⟩ := h'
  have e : mkRat z D * mkRat z' D' = mkRat (pz z D * pz z' D') (pd D * pd D') := by
    rw [← mk_pr z D, ← mk_pr z' D', Rat.mkRat_mul_mkRat]
  have h := rz_num (z := pz z D * pz z' D') (D := pd D * pd D') (Nat.mul_ne_zero (pd_ne D) (pd_ne D'))
  rw [e, ← h.1, ← h.2]
  exact g_Mul b b' a d a' d' n c m k n' c' m' k' z z' D D' w h1 h2 h3 h1' h2' h3' (by omega) (by omega) (by omega) (by omega)
theorem gq_Add (h : Fq w b a n c d m k q N) (h' : Fq w b' a' n' c' d' m' k' q' N') (hN : N ≤ 137438953472) (hN' : N' ≤ 137438953472) :
    Calls Tryz.prog 53 #[.agg #[.bool b, .slice a n c, .slice d m k], .agg #[.bool b', .slice a' n' c', .slice d' m' k']] w (RetF w (q + q').num (q + q').den) := by
  obtain ⟨z, D, h1, h2, h3, h4, h5, rfl⟩ := h
  obtain ⟨z', D', h1', h2', h3', h4', h5', rfl⟩ := h'
  have e : mkRat z D + mkRat z' D' = mkRat (pz z D * (pd D' : Int) + pz z' D' * (pd D : Int)) (pd D * pd D') := by
    rw [← mk_pr z D, ← mk_pr z' D', Rat.mkRat_add_mkRat _ _ (pd_ne D) (pd_ne D')]
  have h := rz_num (z := pz z D * (pd D' : Int) + pz z' D' * (pd D : Int)) (D := pd D * pd D') (Nat.mul_ne_zero (pd_ne D) (pd_ne D'))
  rw [e, ← h.1, ← h.2]
  exact g_Add b b' a d a' d' n c m k n' c' m' k' z z' D D' w h1 h2 h3 h1' h2' h3' (by omega) (by omega) (by omega) (by omega)
theorem gq_Neg (h : Fq w b a n c d m k q N) (hN : N ≤ 137438953472) :
    Calls Tryz.prog 104 #[.agg #[.bool b, .slice a n c, .slice d m k]] w (RetF w (-q).num (-q).den) := by
  obtain ⟨z, D, h1, h2, h3, h4, h5, rfl⟩ := h
  have e : -mkRat z D = mkRat (-pz z D) (pd D) := by rw [← mk_pr z D, Rat.neg_mkRat]
  have h := rz_num (z := -pz z D) (D := pd D) (pd_ne D)
  rw [e, ← h.1, ← h.2]
  exact g_Neg b a d n c m k z D w h1 h2 h3 (by omega) (by omega)
/-- A quotient, where the divisor isn't 0. -/
theorem mk_quot {z z' : Int} {D D' : Nat} (h0 : mkRat z' D' ≠ 0) : mkz (pz z D * pd D') (pz z' D' * pd D) = (mkRat z D / mkRat z' D').num ∧ mkd (pz z D * pd D') (pz z' D' * pd D) = (mkRat z D / mkRat z' D').den ∧ mke (pz z' D' * pd D) = 0 := by
  rw [← mk_pr z D, ← mk_pr z' D', ← mk_across]
  refine mkz_div ?_
  have h1 : pz z' D' ≠ 0 := fun h => h0 (by rw [← mk_pr, h, Rat.zero_mkRat])
  exact Int.mul_ne_zero h1 (by have := pd_ne D; omega)
theorem gq_Div (h : Fq w b a n c d m k q N) (h' : Fq w b' a' n' c' d' m' k' q' N') (hN : N ≤ 137438953472) (hN' : N' ≤ 137438953472) (h0 : q' ≠ 0) :
    Calls Tryz.prog 111 #[.agg #[.bool b, .slice a n c, .slice d m k], .agg #[.bool b', .slice a' n' c', .slice d' m' k']] w (RetFE w (q / q').num (q / q').den 0) := by
  obtain ⟨z, D, h1, h2, h3, h4, h5, rfl⟩ := h
  obtain ⟨z', D', h1', h2', h3', h4', h5', rfl⟩ := h'
  have e := mk_quot (z := z) (D := D) h0
  have := g_Div b b' a d a' d' n c m k n' c' m' k' z z' D D' w h1 h2 h3 h1' h2' h3' (by omega) (by omega) (by omega) (by omega)
  rwa [e.1, e.2.1, e.2.2] at this
end
end Go.Proofs.YtgjjalnmigdjgaaGreat
