/- The program's numbers as 64 bits; whole numbers as ints. -/
import Derived.Test.YtcipcpbjkcpgdaaW1
import Derived.Test.YtcipcpbjkcpgdaaE5
import Derived.Test.YtcipcpbjkcpgdaaF1
namespace Go.Proofs.Ytcipcpbjkcpgdaa
set_option linter.unusedVariables false
open Go Go.RowKit

/-- What Uint answers. -/
def uintR (V : Nat) : Value := if V ≤ 18446744073709551615 then .tuple #[.int .u64 (V : Int), .bool true] else .tuple #[.int .u64 0, .bool false]

theorem or_zero64 (x : Nat) (h : x ≤ 4294967295) : bits .or .u64 0 (x : Int) = (x : Int) := by
  have h1 := or32 0 x (by omega) h
  simpa using h1

set_option maxRecDepth 100000 in
set_option maxHeartbeats 1000000 in
theorem nat_Uint_any (a : Option Addr) (n cap : Nat) (x : List Nat) (w : World) (hs : Sl w a n cap (ints .u32 x)) (hx : Ws x) (hn : n ≤ 1099511627776) :
    Calls Try.prog 27 #[.slice a n cap] w fun e w' => e = .returned (uintR (val B32 x)) ∧ w = w' := by
  have hlx := hs.int_len
  have hdl := dig_val_len B32_two x hx
  obtain ⟨m, hm⟩ : ∃ m, m = (dig B32 (val B32 x)).length := ⟨_, rfl⟩
  have hmn : m ≤ n := by omega
  have HM := hidP hm
  by_cases h3 : 3 ≤ m
  · have HR : Hid (uintR (val B32 x) = .tuple #[.int .u64 0, .bool false]) := hidP (if_neg (fun h => by
      have h4 : (dig B32 (val B32 x)).length ≤ 2 := dig_len_le B32_two (by unfold B32 at *; omega)
      omega))
    have hm2 : ((m : Int) == 2) = false := by simp; omega
    have hm1 : ((m : Int) == 1) = false := by simp; omega
    have hm0 : ((m : Int) == 0) = false := by simp; omega
    clear hm hdl
    go_enter Try.func27, Try.ntmps27
    go_wp2_with fail
    refine (nat_size_any a n cap x _ hs hx (by omega)).mono ?_
    rw [← HM.out]
    rintro e w' ⟨rfl, rfl⟩
    go_wp2_with fail
    go_ret2
    exact ⟨by rw [HR.out]; rfl, rfl⟩
  · have hV : (dig B32 (val B32 x)).length = m := hm.symm
    rcases (by omega : m = 0 ∨ m = 1 ∨ m = 2) with rfl | rfl | rfl
    · have HR : Hid (uintR (val B32 x) = .tuple #[.int .u64 0, .bool true]) := hidP (by
        have h5 := val_dig B32_two (val B32 x)
        rw [List.eq_nil_of_length_eq_zero hV] at h5
        rw [← h5]; rfl)
      clear hm hdl hV
      go_enter Try.func27, Try.ntmps27
      go_wp2_with fail
      refine (nat_size_any a n cap x _ hs hx (by omega)).mono ?_
      rw [← HM.out]
      rintro e w' ⟨rfl, rfl⟩
      go_wp2_with fail
      go_ret2
      exact ⟨by rw [HR.out]; rfl, rfl⟩
    · obtain ⟨h0, hg0⟩ := dig_get hx 0 (by omega)
      obtain ⟨b, off, rfl, hc⟩ := hs.at_int (by omega)
      have hc0 : w.cell? ⟨b, off, none⟩ = some (.int .u32 ((x[0] : Nat) : Int)) := by have := hc 0 h0; simpa using this
      have hb0 := hx.at 0 h0
      have HR : Hid (uintR (val B32 x) = .tuple #[.int .u64 ((x[0] : Nat) : Int), .bool true]) := hidP (by
        have h5 := val_dig B32_two (val B32 x)
        generalize hD : dig B32 (val B32 x) = D at *
        match D, hV with
        | [d0], _ =>
          simp at hg0
          simp [val] at h5
          rw [← h5, hg0]
          exact if_pos (by omega))
      have hor := or_zero64 x[0] (by omega)
      clear hc hm hdl hV hg0
      generalize x[0] = d0 at *
      go_enter Try.func27, Try.ntmps27
      go_wp2_with fail
      refine (nat_size_any _ n cap x _ hs hx (by omega)).mono ?_
      rw [← HM.out]
      rintro e w' ⟨rfl, rfl⟩
      go_wp2_with fail
      go_ret2
      exact ⟨by rw [HR.out]; rfl, rfl⟩
    · obtain ⟨h0, hg0⟩ := dig_get hx 0 (by omega)
      obtain ⟨h1, hg1⟩ := dig_get hx 1 (by omega)
      obtain ⟨b, off, rfl, hc⟩ := hs.at_int (by omega)
      have hc0 : w.cell? ⟨b, off, none⟩ = some (.int .u32 ((x[0] : Nat) : Int)) := by have := hc 0 h0; simpa using this
      have hc1 := hc 1 h1
      have hb0 := hx.at 0 h0
      have hb1 := hx.at 1 h1
      have HR : Hid (uintR (val B32 x) = .tuple #[.int .u64 ((x[1] * 4294967296 + x[0] : Nat) : Int), .bool true]) := hidP (by
        have h5 := val_dig B32_two (val B32 x)
        generalize hD : dig B32 (val B32 x) = D at *
        match D, hV with
        | [d0, d1], _ =>
          simp at hg0 hg1
          simp [val] at h5
          have h6 : val B32 x = x[1] * 4294967296 + x[0] := by rw [← h5, hg0, hg1]; unfold B32; omega
          rw [h6]
          exact if_pos (by omega))
      have hor := or32 x[1] x[0] (by omega) (by omega)
      clear hc hm hdl hV hg0 hg1
      generalize x[0] = d0 at *
      generalize x[1] = d1 at *
      go_enter Try.func27, Try.ntmps27
      go_wp2_with fail
      refine (nat_size_any _ n cap x _ hs hx (by omega)).mono ?_
      rw [← HM.out]
      rintro e w' ⟨rfl, rfl⟩
      go_wp2_with fail
      go_ret2
      exact ⟨by rw [HR.out]; rfl, rfl⟩

set_option maxRecDepth 100000 in
set_option maxHeartbeats 1000000 in
theorem w_Int_any (neg : Bool) (a : Option Addr) (n cap : Nat) (z : Int) (w : World) (hw : WhIn w neg a n cap z) :
    Calls Try.prog 60 #[.agg #[.bool neg, .slice a n cap]] w fun e w' => e = .returned (intR z) ∧ Ext w w' := by
  obtain ⟨⟨l, hs, hl, hz⟩, hn⟩ := hw
  have hU := nat_Uint_any a n cap l _ (hs.ext ((Ext.refl w).alloc (.cells #[.bool neg, .slice a n cap] 51))) hl (by omega)
  generalize val B32 l = V at *
  by_cases hv : V ≤ 18446744073709551615
  · rw [show uintR V = .tuple #[.int .u64 (V : Int), .bool true] from if_pos hv] at hU
    have HU := hidP hU; clear hU
    cases neg with
    | false =>
      have hz' : z = (V : Int) := by rw [← hz]; rfl
      by_cases hb : V ≤ 9223372036854775807
      · have HR : Hid (intR z = .tuple #[.int .i64 (V : Int), .bool true]) := hidP (by rw [hz']; exact if_pos ⟨by omega, by omega⟩)
        clear hz hz'
        go_enter Try.func60, Try.ntmps60
        go_wp2_with fail
        refine HU.out.mono ?_
        rintro e w' ⟨rfl, rfl⟩
        go_wp2_with fail
        go_ret2
        exact ⟨by rw [HR.out]; rfl, (Ext.refl _).alloc _⟩
      · have HR : Hid (intR z = .tuple #[.int .i64 0, .bool false]) := hidP (by rw [hz']; exact if_neg (fun h => by omega))
        clear hz hz'
        go_enter Try.func60, Try.ntmps60
        go_wp2_with fail
        refine HU.out.mono ?_
        rintro e w' ⟨rfl, rfl⟩
        go_wp2_with fail
        go_ret2
        exact ⟨by rw [HR.out]; rfl, (Ext.refl _).alloc _⟩
    | true =>
      have hz' : z = -(V : Int) := by rw [← hz]; rfl
      by_cases hb : V ≤ 9223372036854775807
      · have HR : Hid (intR z = .tuple #[.int .i64 (-(V : Int)), .bool true]) := hidP (by rw [hz']; exact if_pos ⟨by omega, by omega⟩)
        clear hz hz'
        go_enter Try.func60, Try.ntmps60
        go_wp2_with fail
        refine HU.out.mono ?_
        rintro e w' ⟨rfl, rfl⟩
        go_wp2_with fail
        go_ret2
        exact ⟨by rw [HR.out]; rfl, (Ext.refl _).alloc _⟩
      · by_cases he : V = 9223372036854775808
        · subst he
          have HR : Hid (intR z = .tuple #[.int .i64 (-9223372036854775808), .bool true]) := hidP (by rw [hz']; rfl)
          clear hz hz'
          go_enter Try.func60, Try.ntmps60
          go_wp2_with fail
          refine HU.out.mono ?_
          rintro e w' ⟨rfl, rfl⟩
          go_wp2_with fail
          go_ret2
          exact ⟨by rw [HR.out]; rfl, (Ext.refl _).alloc _⟩
        · have HR : Hid (intR z = .tuple #[.int .i64 0, .bool false]) := hidP (by rw [hz']; exact if_neg (fun h => by omega))
          have hne : ((V : Int) == 9223372036854775808) = false := by simp; omega
          clear hz hz'
          go_enter Try.func60, Try.ntmps60
          go_wp2_with fail
          refine HU.out.mono ?_
          rintro e w' ⟨rfl, rfl⟩
          go_wp2_with fail
          go_ret2
          exact ⟨by rw [HR.out]; rfl, (Ext.refl _).alloc _⟩
  · rw [show uintR V = .tuple #[.int .u64 0, .bool false] from if_neg hv] at hU
    have HU := hidP hU; clear hU
    have HR : Hid (intR z = .tuple #[.int .i64 0, .bool false]) := hidP (by
      rw [← hz]
      refine if_neg (fun h => ?_)
      unfold wz at h
      split at h <;> omega)
    clear hz
    go_enter Try.func60, Try.ntmps60
    go_wp2_with fail
    refine HU.out.mono ?_
    rintro e w' ⟨rfl, rfl⟩
    go_wp2_with fail
    go_ret2
    exact ⟨by rw [HR.out]; rfl, (Ext.refl _).alloc _⟩

end Go.Proofs.Ytcipcpbjkcpgdaa
