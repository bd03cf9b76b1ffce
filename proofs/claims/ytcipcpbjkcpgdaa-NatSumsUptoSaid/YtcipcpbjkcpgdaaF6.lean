/- The law of sums of numbers: its walk. -/
import Derived.Test.YtcipcpbjkcpgdaaF3
import Derived.Test.YtcipcpbjkcpgdaaE2
namespace Go.Proofs.Ytcipcpbjkcpgdaa
set_option linter.unusedVariables false
open Go Go.RowKit

set_option maxRecDepth 100000 in
set_option maxHeartbeats 2000000 in
theorem natSums_any (a : Option Addr) (n cap : Nat) (x : List Nat) (a' : Option Addr) (n' cap' : Nat) (y : List Nat) (w : World) (hs : Sl w a n cap (ints .u32 x)) (hx : Ws x) (hn : n ≤ 1048576) (hs' : Sl w a' n' cap' (ints .u32 y)) (hy : Ws y) (hn' : n' ≤ 1048576) :
    Calls Try.prog 5 #[.slice a n cap, .slice a' n' cap'] w fun e w' => e = .returned (.bool true) ∧ Ext w w' := by
  have hlx := hs.int_len
  have hly := hs'.int_len
  have hdl : (dig B32 (val B32 x - val B32 y)).length ≤ 1048577 := by
    have h1 := dig_mono B32_two (Nat.sub_le (val B32 x) (val B32 y))
    have h2 := dig_val_len B32_two x hx
    omega
  have hal := dig_add_len x y hx hy 1048576 (by omega) (by omega)
  have HS := hidP hs; have HS' := hidP hs'
  have s1 := fun u h h' => nat_Sub_any a a' n cap n' cap' x y u h h' hx hy (by omega) (by omega)
  have s2 := fun u h h' => r01_Sub_any a a' n cap n' cap' x y u h h' hx hy (by omega) (by omega)
  have c1 := fun u h h' => nat_Cmp_any a a' n cap n' cap' x y u h h' hx hy (by omega) (by omega)
  have c2 := fun u h h' => r01_Cmp_any a a' n cap n' cap' x y u h h' hx hy (by omega) (by omega)
  have d1 := fun u h h' => nat_Add_any a a' n cap n' cap' x y u h h' hx hy (by omega) (by omega)
  have d2 := fun u h h' => r01_Add_any a a' n cap n' cap' x y u h h' hx hy (by omega) (by omega)
  have b1 := fun u h => nat_Bits_any a n cap x u h hx (by omega)
  have b2 := fun u h => r01_Bits_any a n cap x u h hx (by omega)
  generalize dig B32 (val B32 x - val B32 y) = DS at *
  generalize dig B32 (val B32 x + val B32 y) = DA at *
  generalize decide (val B32 y ≤ val B32 x) = ok at *
  generalize cmpI (val B32 x) (val B32 y) = cm at *
  generalize bitlen (val B32 x) = bl at *
  have S1 := hidP s1; have S2 := hidP s2; have C1 := hidP c1; have C2 := hidP c2; have D1 := hidP d1; have D2 := hidP d2; have B1 := hidP b1; have B2 := hidP b2
  clear s1 s2 c1 c2 d1 d2 b1 b2 hs hs' hlx hly
  go_enter Try.func5, Try.ntmps5
  go_wp2_with fail
  refine (S1.out _ HS.out HS'.out).mono ?_
  rintro e w1 ⟨a1, n1, c1, rfl, hs1, HE⟩
  go_wp2_with fail
  refine (S2.out _ (HS.out.ext HE) (HS'.out.ext HE)).mono ?_
  rintro e w2 ⟨a2, n2, c2, rfl, hs2, he⟩
  replace hs1 := hs1.ext he
  replace HE := HE.trans he
  clear he
  go_wp2_with fail
  refine (C1.out _ (HS.out.ext HE) (HS'.out.ext HE)).mono ?_
  rintro e w3 ⟨rfl, he⟩
  replace hs1 := hs1.ext he
  replace hs2 := hs2.ext he
  replace HE := HE.trans he
  clear he
  go_wp2_with fail
  refine (C2.out _ (HS.out.ext HE) (HS'.out.ext HE)).mono ?_
  rintro e w4 ⟨rfl, he⟩
  replace hs1 := hs1.ext he
  replace hs2 := hs2.ext he
  replace HE := HE.trans he
  clear he
  go_wp2_with fail
  refine (D1.out _ (HS.out.ext HE) (HS'.out.ext HE)).mono ?_
  rintro e w5 ⟨a3, n3, c3, rfl, hs3, he⟩
  replace hs1 := hs1.ext he
  replace hs2 := hs2.ext he
  replace HE := HE.trans he
  clear he
  go_wp2_with fail
  refine (D2.out _ (HS.out.ext HE) (HS'.out.ext HE)).mono ?_
  rintro e w6 ⟨a4, n4, c4, rfl, hs4, he⟩
  replace hs1 := hs1.ext he
  replace hs2 := hs2.ext he
  replace hs3 := hs3.ext he
  replace HE := HE.trans he
  clear he
  have hn3 : n3 ≤ 1048577 := by have := hs3.int_len; omega
  have hn1 : n1 ≤ 1048577 := by have := hs1.int_len; omega
  go_wp2_with fail
  refine (r01_Same_any a3 a4 n3 c3 n4 c4 DA DA _ hs3 hs4 (by omega)).mono ?_
  rw [decide_eq_true rfl]
  rintro e w7 ⟨rfl, he⟩
  replace hs1 := hs1.ext he
  replace hs2 := hs2.ext he
  replace HE := HE.trans he
  clear he hs3 hs4
  go_wp2_with fail
  refine (r01_Same_any a1 a2 n1 c1 n2 c2 DS DS _ hs1 hs2 (by omega)).mono ?_
  rw [decide_eq_true rfl]
  rintro e w8 ⟨rfl, he⟩
  replace HE := HE.trans he
  clear he hs1 hs2
  go_wp2_with fail
  refine (B1.out _ (HS.out.ext HE)).mono ?_
  rintro e w9 ⟨rfl, rfl⟩
  go_wp2_with fail
  refine (B2.out _ (HS.out.ext HE)).mono ?_
  rintro e w10 ⟨rfl, he⟩
  replace HE := HE.trans he
  clear he
  go_wp2_with fail
  refine (n_lives_any _).mono ?_
  rintro e w11 ⟨rfl, he⟩
  go_wp2_with fail
  go_ret
  exact ⟨rfl, HE.trans he⟩

end Go.Proofs.Ytcipcpbjkcpgdaa
