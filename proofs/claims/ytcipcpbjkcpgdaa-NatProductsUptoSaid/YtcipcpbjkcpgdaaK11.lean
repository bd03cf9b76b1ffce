/- The law of products of numbers: its walk. -/
import Derived.Test.YtcipcpbjkcpgdaaF3
import Derived.Test.YtcipcpbjkcpgdaaK10
namespace Go.Proofs.Ytcipcpbjkcpgdaa
set_option linter.unusedVariables false
open Go Go.RowKit

set_option maxRecDepth 100000 in
set_option maxHeartbeats 4000000 in
theorem natProducts_any (a : Option Addr) (n cap : Nat) (x : List Nat) (a' : Option Addr) (n' cap' : Nat) (y : List Nat) (w : World) (hs : Sl w a n cap (ints .u32 x)) (hx : Ws x) (hn : n ≤ 1048576) (hs' : Sl w a' n' cap' (ints .u32 y)) (hy : Ws y) (hn' : n' ≤ 1048576) :
    Calls Try.prog 6 #[.slice a n cap, .slice a' n' cap'] w fun e w' => e = .returned (.bool true) ∧ Ext w w' := by
  have hA : Nu w a n cap (val B32 x) := ⟨⟨x, hs, hx, rfl⟩, by omega⟩
  have hB : Nu w a' n' cap' (val B32 y) := ⟨⟨y, hs', hy, rfl⟩, by omega⟩
  generalize val B32 x = X at *
  generalize val B32 y = Y at *
  have dX := hA.dl
  have dY := hB.dl
  have d1 := dl_mul X Y
  have d2 := dl_div X Y
  have d3 := dl_mod X Y
  have d4 := dl_zero
  have D1 : Hid (dl (X * Y) ≤ 1099511627776) := hidP (by omega)
  have D2 : Hid (dl (if Y = 0 then 0 else X / Y) ≤ 1099511627776) := hidP (by split <;> omega)
  have D3 : Hid (dl (if Y = 0 then 0 else X % Y) ≤ 1099511627776) := hidP (by split <;> omega)
  have s1 := fun u h h' => @n_Div a a' n cap n' cap' X Y u h h'
  have s2 := fun u h h' => @d_Div a a' n cap n' cap' X Y u h h'
  unfold RetQR at s1 s2
  have S3 := hidP (fun u h h' => @n_Mul a a' n cap n' cap' X Y u h h')
  have S4 := hidP (fun u h h' => @d_Mul a a' n cap n' cap' X Y u h h')
  generalize (if Y = 0 then 0 else X / Y) = Q at *
  generalize (if Y = 0 then 0 else X % Y) = R at *
  generalize decide (Y ≠ 0) = ok at *
  generalize X * Y = P at *
  have HA := hidP hA; have HB := hidP hB; have S1 := hidP s1; have S2 := hidP s2
  clear hA hB s1 s2 hs hs' dX dY d1 d2 d3 d4
  go_enter Try.func6, Try.ntmps6
  go_wp2_with fail
  refine (S1.out _ HA.out HB.out).mono ?_
  rintro e u1 ⟨a1q, n1q, c1q, a1r, n1r, c1r, rfl, hs1q, hs1r, heq1⟩
  have HE := heq1
  clear heq1
  go_wp2_with fail
  refine (S2.out _ (HA.out.ext HE) (HB.out.ext HE)).mono ?_
  rintro e u2 ⟨a2q, n2q, c2q, a2r, n2r, c2r, rfl, hs2q, hs2r, heq2⟩
  replace hs1q := hs1q.ext heq2
  replace hs1r := hs1r.ext heq2
  replace HE := HE.trans heq2
  clear heq2
  go_wp2_with fail
  refine (S3.out _ (HA.out.ext HE) (HB.out.ext HE)).mono ?_
  rintro e u3 ⟨a3, n3, c3, rfl, hs3, heq3⟩
  replace hs1q := hs1q.ext heq3
  replace hs1r := hs1r.ext heq3
  replace hs2q := hs2q.ext heq3
  replace hs2r := hs2r.ext heq3
  replace HE := HE.trans heq3
  clear heq3
  go_wp2_with fail
  refine (S4.out _ (HA.out.ext HE) (HB.out.ext HE)).mono ?_
  rintro e u4 ⟨a4, n4, c4, rfl, hs4, heq4⟩
  replace hs1q := hs1q.ext heq4
  replace hs1r := hs1r.ext heq4
  replace hs2q := hs2q.ext heq4
  replace hs2r := hs2r.ext heq4
  replace hs3 := hs3.ext heq4
  replace HE := HE.trans heq4
  clear heq4
  go_wp2_with fail
  refine (d_Same_eq hs3 hs4 D1.out).mono ?_
  rintro e u5 ⟨rfl, heq5⟩
  replace hs1q := hs1q.ext heq5
  replace hs1r := hs1r.ext heq5
  replace hs2q := hs2q.ext heq5
  replace hs2r := hs2r.ext heq5
  replace hs3 := hs3.ext heq5
  replace hs4 := hs4.ext heq5
  replace HE := HE.trans heq5
  clear heq5
  clear hs3 hs4
  go_wp2_with fail
  refine (d_Same_eq hs1q hs2q D2.out).mono ?_
  rintro e u6 ⟨rfl, heq6⟩
  replace hs1q := hs1q.ext heq6
  replace hs1r := hs1r.ext heq6
  replace hs2q := hs2q.ext heq6
  replace hs2r := hs2r.ext heq6
  replace HE := HE.trans heq6
  clear heq6
  clear hs1q hs2q
  go_wp2_with fail
  refine (d_Same_eq hs1r hs2r D3.out).mono ?_
  rintro e u7 ⟨rfl, heq7⟩
  replace hs1r := hs1r.ext heq7
  replace hs2r := hs2r.ext heq7
  replace HE := HE.trans heq7
  clear heq7
  clear hs1r hs2r
  go_wp2_with fail
  refine (n_lives_any _).mono ?_
  rintro e u8 ⟨rfl, heq8⟩
  replace HE := HE.trans heq8
  clear heq8
  go_wp2_with fail
  go_ret
  exact ⟨rfl, HE⟩

end Go.Proofs.Ytcipcpbjkcpgdaa
