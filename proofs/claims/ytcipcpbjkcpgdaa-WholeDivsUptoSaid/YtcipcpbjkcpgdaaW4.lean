/- The program's quotients by one word. -/
import Derived.Test.YtcipcpbjkcpgdaaW1
import Derived.Test.YtcipcpbjkcpgdaaF3
namespace Go.Proofs.Ytcipcpbjkcpgdaa
set_option linter.unusedVariables false
open Go Go.RowKit

theorem dig_one {d : Nat} (h : 0 < d) (h2 : d ≤ 4294967295) : dig B32 d = [d] := by
  rw [dig_pos B32_two (by omega), Nat.div_eq_of_lt (by unfold B32; omega), dig_zero, Nat.mod_eq_of_lt (by unfold B32; omega)]

set_option maxRecDepth 100000 in
set_option maxHeartbeats 2000000 in
/-- A quotient by one word. -/
theorem nat_Div_one (a a' : Option Addr) (n cap n' cap' : Nat) (x : List Nat) (d : Nat) (w : World) (hs : Sl w a n cap (ints .u32 x)) (hs' : Sl w a' n' cap' (ints .u32 [d])) (hx : Ws x) (hn : n ≤ 1099511627776) (hd : 0 < d) (hd2 : d ≤ 4294967295) (hge : d ≤ val B32 x) :
    Calls Try.prog 43 #[.slice a n cap, .slice a' n' cap'] w fun e w' => ∃ a2 n2 c2 a3 n3 c3, e = .returned (.tuple #[.slice a2 n2 c2, .slice a3 n3 c3, .bool true]) ∧ Sl w' a2 n2 c2 (ints .u32 (dig B32 (val B32 x / d))) ∧ Sl w' a3 n3 c3 (ints .u32 (dig B32 (val B32 x % d))) ∧ Ext w w' := by
  obtain rfl : n' = 1 := hs'.int_len.symm
  have hv : val B32 [d] = d := by simp [val]
  have hwd : Ws [d] := by intro y hy; simp at hy; subst hy; unfold B32; omega
  have hsz := nat_size_any a' 1 cap' [d] w hs' hwd (by omega)
  rw [hv, dig_one hd hd2] at hsz
  have hcm := fun u h h' => nat_Cmp_any a a' n cap 1 cap' x [d] u h h' hx hwd hn (by omega)
  rw [hv] at hcm
  obtain ⟨c, hc⟩ : ∃ c, cmpI (val B32 x) d = c := ⟨_, rfl⟩
  have hc0 : 0 ≤ c := by rw [← hc]; exact cmpI_ge hge
  rw [hc] at hcm
  obtain ⟨b, off, rfl, hcell⟩ := hs'.at_int (by omega)
  have hcd : w.cell? ⟨b, off, none⟩ = some (.int .u32 (d : Int)) := by have := hcell 0 (by simp); simpa using this
  have HSZ := hidP hsz; have HCM := hidP hcm; have HS := hidP hs; have HS' := hidP hs'
  clear hsz hcm hcell hc hs hs' hv
  go_enter Try.func43, Try.ntmps43
  go_wp2_with fail
  refine (nat_size_any a n cap x _ HS.out hx (by omega)).mono ?_
  rintro e w' ⟨rfl, rfl⟩
  go_wp2_with fail
  refine HSZ.out.mono ?_
  rintro e w' ⟨rfl, rfl⟩
  generalize (dig B32 (val B32 x)).length = lx at *
  go_wp2_with fail
  refine (HCM.out _ HS.out HS'.out).mono ?_
  rintro e w1 ⟨rfl, he1⟩
  have hcd1 := he1.cell' hcd
  go_wp2_with fail
  refine (nat_small_any a n cap x d _ (HS.out.ext he1) hx (by omega) (by omega) hd2).mono ?_
  have hmd : val B32 x % d ≤ 4294967295 := by have := Nat.mod_lt (val B32 x) hd; omega
  rintro e w2 ⟨g2, n2, c2, rfl, hs2, he2, hb2⟩
  generalize hrr : val B32 x % d = r at *
  generalize hqq : val B32 x / d = q at *
  have HRR := hidP hrr; have HQQ := hidP hqq
  clear hcd1 hrr hqq
  go_wp2_with fail
  refine (nat_Of_any r _ (by omega)).mono ?_
  rintro e w3 ⟨a3, n3, c3, rfl, hs3, he3⟩
  go_wp2_with fail
  go_ret3
  exact ⟨_, _, _, _, _, _, rfl, by rw [HQQ.out]; exact hs2.ext he3, by rw [HRR.out]; exact hs3, he1.trans (he2.trans he3)⟩

end Go.Proofs.Ytcipcpbjkcpgdaa
