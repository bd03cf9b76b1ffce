/- The program's numbers (nat): quotients, of any two numbers. -/
import Derived.Test.YtcipcpbjkcpgdaaK8
namespace Go.Proofs.Ytcipcpbjkcpgdaa
set_option linter.unusedVariables false
open Go Go.RowKit

set_option maxRecDepth 100000 in
set_option maxHeartbeats 2000000 in
theorem nat_Div_any (a a' : Option Addr) (n cap n' cap' : Nat) (x y : List Nat) (w : World) (hs : Sl w a n cap (ints .u32 x)) (hs' : Sl w a' n' cap' (ints .u32 y)) (hx : Ws x) (hy : Ws y)
    (hn : n ≤ 1099511627776) (hn' : n' ≤ 1099511627776) :
    Calls Try.prog 43 #[.slice a n cap, .slice a' n' cap'] w (RetDiv w (val B32 x) (val B32 y)) := by
  have hlen' := hs'.int_len
  have hmn' := dig_val_len B32_two y hy
  have hvy := val_dig B32_two (val B32 y)
  by_cases h2 : 2 ≤ (dig B32 (val B32 y)).length ∧ val B32 y ≤ val B32 x
  · exact nat_Div_big a a' n cap n' cap' x y w hs hs' hx hy hn hn' ((dig B32 (val B32 y)).length - 2) (by omega) h2.2
  by_cases h0 : (dig B32 (val B32 y)).length = 0
  · have hy0 : val B32 y = 0 := by
      rw [List.eq_nil_of_length_eq_zero h0] at hvy
      rw [← hvy]; rfl
    have HR : Hid (∀ u, Ext w u → RetDiv w (val B32 x) (val B32 y) (.returned (.tuple #[.slice none 0 0, .slice none 0 0, .bool false])) u) := hidP (fun u hu =>
      ⟨none, 0, 0, none, 0, 0, by rw [hy0]; rfl, by rw [if_pos hy0]; exact Sl.nil _, by rw [if_pos hy0]; exact Sl.nil _, hu⟩)
    have H0 := hidP h0
    clear h0 h2 hvy hmn' hy0
    generalize RetDiv w (val B32 x) (val B32 y) = R at *
    go_enter Try.func43, Try.ntmps43
    go_wp2_with fail
    refine (nat_size_any a n cap x _ hs hx (by omega)).mono ?_
    generalize (dig B32 (val B32 x)).length = lx
    rintro e w' ⟨rfl, rfl⟩
    go_wp2_with fail
    refine (nat_size_any a' n' cap' y _ hs' hy (by omega)).mono ?_
    rw [H0.out]
    rintro e w' ⟨rfl, rfl⟩
    go_wp2_with fail
    go_ret3
    exact HR.out _ (Ext.refl _)
  have hy0 : val B32 y ≠ 0 := by
    intro h
    rw [h, dig_zero] at h0
    exact h0 rfl
  by_cases hlt : val B32 x < val B32 y
  · have HC := hidP (cmpI_lt hlt)
    have HD := hidP (Nat.div_eq_of_lt hlt); have HM := hidP (Nat.mod_eq_of_lt hlt)
    have HY0 := hidP hy0
    have hz : (((dig B32 (val B32 y)).length : Int) == 0) = false := by simp [h0]
    generalize hky : (dig B32 (val B32 y)).length = ky at *
    have HKY := hidP hky
    have HS := hidP hs; have HS' := hidP hs'
    clear h0 h2 hvy hmn' hy0 hlt hky hs hs'
    go_enter Try.func43, Try.ntmps43
    go_wp2_with fail
    refine (nat_size_any a n cap x _ HS.out hx (by omega)).mono ?_
    generalize (dig B32 (val B32 x)).length = lx
    rintro e w' ⟨rfl, rfl⟩
    go_wp2_with fail
    refine (nat_size_any a' n' cap' y _ HS'.out hy (by omega)).mono ?_
    rw [HKY.out]
    rintro e w' ⟨rfl, rfl⟩
    go_wp2_with fail
    refine (nat_Cmp_any a a' n cap n' cap' x y _ HS.out HS'.out hx hy hn hn').mono ?_
    rw [HC.out]
    rintro e w1 ⟨rfl, he1⟩
    go_wp2_with fail
    refine (nat_Trim_any a n cap x _ (HS.out.ext he1) hx (by omega)).mono ?_
    rintro e w2 ⟨a2, n2, c2, rfl, hs2, he2⟩
    go_wp2_with fail
    go_ret3
    exact ⟨none, 0, 0, _, _, _, by rw [decide_eq_true HY0.out]; rfl, by rw [if_neg HY0.out, HD.out, dig_zero]; exact Sl.nil _, by rw [if_neg HY0.out, HM.out]; exact hs2, he1.trans he2⟩
  · have hge : val B32 y ≤ val B32 x := by omega
    have hc0 := cmpI_ge hge
    have h1 : (dig B32 (val B32 y)).length = 1 := by omega
    obtain ⟨hi0, hy1⟩ := dig_get hy 0 (by omega)
    have hval : y[0]'hi0 = val B32 y := by
      rw [hy1]
      have hh := val_head B32 (dig B32 (val B32 y))
      have ht : (dig B32 (val B32 y)).tail = [] := List.eq_nil_of_length_eq_zero (by rw [List.length_tail, h1])
      rw [ht, hvy] at hh
      simp only [val, Nat.mul_zero, Nat.add_zero] at hh
      exact hh.symm
    have hdb := hy.at 0 hi0
    have HCMP := hidP (fun u h h' => nat_Cmp_any a a' n cap n' cap' x y u h h' hx hy hn hn')
    have HSZ := hidP (nat_size_any a' n' cap' y w hs' hy (by omega))
    obtain ⟨b, off, rfl, hcell⟩ := hs'.at_int (by omega)
    have hcd := hcell 0 hi0
    rw [Nat.add_zero] at hcd
    rw [h1] at HSZ
    rw [hval] at hcd hdb
    generalize cmpI (val B32 x) (val B32 y) = cc at *
    have HS := hidP hs; have HS' := hidP hs'
    have hd0 : 1 ≤ val B32 y := by omega
    have hd2 : val B32 y ≤ 4294967295 := by omega
    have HRES : Hid (∀ a2 n2 c2 a3 n3 c3 u, Sl u a2 n2 c2 (ints .u32 (dig B32 (val B32 x / val B32 y))) → Sl u a3 n3 c3 (ints .u32 (dig B32 (val B32 x % val B32 y))) → Ext w u → RetDiv w (val B32 x) (val B32 y) (.returned (.tuple #[.slice a2 n2 c2, .slice a3 n3 c3, .bool true])) u) := hidP (fun a2 n2 c2 a3 n3 c3 u t1 t2 t3 =>
      ⟨a2, n2, c2, a3, n3, c3, by rw [decide_eq_true hy0], by rw [if_neg hy0]; exact t1, by rw [if_neg hy0]; exact t2, t3⟩)
    generalize hR : RetDiv w (val B32 x) (val B32 y) = R at *
    clear hR h2 hy0 h0 hlt hge h1 hy1 hval hvy hmn' hcell hs hs'
    generalize val B32 y = d at *
    go_enter Try.func43, Try.ntmps43
    go_wp2_with fail
    refine (nat_size_any a n cap x _ HS.out hx (by omega)).mono ?_
    generalize (dig B32 (val B32 x)).length = lx
    rintro e w' ⟨rfl, rfl⟩
    go_wp2_with fail
    refine HSZ.out.mono ?_
    rintro e w' ⟨rfl, rfl⟩
    go_wp2_with fail
    refine (HCMP.out _ HS.out HS'.out).mono ?_
    rintro e w1 ⟨rfl, he1⟩
    have hcd1 := he1.cell' hcd
    go_wp2_with fail
    have hbn : n ≤ 4398046511105 := by omega
    have hh := nat_small_any a n cap x d w1 (HS.out.ext he1) hx hbn hd0 hd2
    refine hh.mono ?_
    clear hh
    have hmd : val B32 x % d ≤ 4294967295 := by have := Nat.mod_lt (val B32 x) hd0; omega
    rintro e w2 ⟨g2, n2, c2, rfl, hs2, he2, hb2⟩
    generalize val B32 x % d = r at *
    generalize val B32 x / d = q at *
    clear hcd1
    go_wp2_with fail
    refine (nat_Of_any r _ (by omega)).mono ?_
    rintro e w3 ⟨a3, n3, c3, rfl, hs3, he3⟩
    go_wp2_with fail
    go_ret3
    exact HRES.out _ _ _ _ _ _ _ (hs2.ext he3) hs3 (he1.trans (he2.trans he3))

end Go.Proofs.Ytcipcpbjkcpgdaa
