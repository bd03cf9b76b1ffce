/- The law of quotients of whole numbers: its walk. -/
import Derived.Test.YtcipcpbjkcpgdaaV2
import Derived.Test.YtcipcpbjkcpgdaaW6
namespace Go.Proofs.Ytcipcpbjkcpgdaa
set_option linter.unusedVariables false
open Go Go.RowKit

theorem d_SameW {b : Bool} {a a' : Option Addr} {n cap n' cap' V : Nat} {w : World} (h : Nc w a n cap V) (h' : Nc w a' n' cap' V) (hn : dl V ≤ 1099511627776) :
    Calls Try.prog 49 #[.agg #[.bool b, .slice a n cap], .agg #[.bool b, .slice a' n' cap']] w fun e w' => e = .returned (.bool true) ∧ Ext w w' :=
  r02_Same_eq b a a' n cap n' cap' (dig B32 V) w h h' (by rw [h.len]; exact hn)
theorem wh_of {w : World} {neg : Bool} {a : Option Addr} {n cap : Nat} {l : List Nat} (hs : Sl w a n cap (ints .u32 l)) (hl : Ws l) (hn : n ≤ 549755813888) : WhIn w neg a n cap (wz neg (val B32 l)) ∧ dl (wz neg (val B32 l)).natAbs ≤ n := by
  refine ⟨⟨⟨l, hs, hl, rfl⟩, hn⟩, ?_⟩
  rw [wz_abs]
  have := dig_val_len B32_two l hl
  rw [hs.int_len] at this
  exact this
theorem zmod_len {z z' : Int} : dl (zmod z z').natAbs ≤ dl z'.natAbs := by
  unfold zmod
  split
  · simp [dl_zero]
  · next h =>
    refine dl_mono ?_
    have h1 := Int.emod_nonneg z h
    have h2 := Int.emod_lt z h
    omega
theorem zdiv_len {z z' : Int} : dl (z / z').natAbs ≤ dl z.natAbs := dl_mono (Int.natAbs_ediv_le_natAbs z z')

set_option maxRecDepth 100000 in
set_option maxHeartbeats 4000000 in
theorem wholeDivs_any (neg : Bool) (a : Option Addr) (n cap : Nat) (l : List Nat) (neg' : Bool) (a' : Option Addr) (n' cap' : Nat) (l' : List Nat) (w : World) (hs : Sl w a n cap (ints .u32 l)) (hl : Ws l) (hn : n ≤ 1048576) (hs' : Sl w a' n' cap' (ints .u32 l')) (hl' : Ws l') (hn' : n' ≤ 1048576) :
    Calls Try.prog 8 #[.agg #[.bool neg, .slice a n cap], .agg #[.bool neg', .slice a' n' cap']] w fun e w' => e = .returned (.bool true) ∧ Ext w w' := by
  obtain ⟨hw, hd⟩ := wh_of (neg := neg) hs hl (by omega)
  obtain ⟨hw', hd'⟩ := wh_of (neg := neg') hs' hl' (by omega)
  generalize wz neg (val B32 l) = z at *
  generalize wz neg' (val B32 l') = z' at *
  have hq := @zdiv_len z z'
  have hr := @zmod_len z z'
  have HQL : Hid (dl (z / z').natAbs ≤ 1099511627776) := hidP (by omega)
  have HRL : Hid (dl (zmod z z').natAbs ≤ 1099511627776) := hidP (by omega)
  have s1 := fun u h h' => w_Div_any neg neg' a a' n cap n' cap' z z' u h h'
  have s2 := fun u h h' => r02_Div_any neg neg' a a' n cap n' cap' z z' u h h' (by omega) (by omega)
  unfold RetWD at s1 s2
  generalize decide (z' ≠ 0) = ok at *
  generalize decide (z / z' < 0) = b1 at *
  generalize decide (zmod z z' < 0) = b2 at *
  generalize (z / z').natAbs = Q at *
  generalize (zmod z z').natAbs = R at *
  have HW := hidP hw; have HW' := hidP hw'; have S1 := hidP s1; have S2 := hidP s2
  clear hw hw' hs hs' s1 s2 hd hd' hq hr
  go_enter Try.func8, Try.ntmps8
  go_wp2_with fail
  refine absC (fun x1 hx1 => ?_)
  have hx : Ext w x1 := by rw [hx1]; exact (((Ext.refl _).alloc _).alloc _)
  have bp : Bl x1 (w.heap.size) #[.bool neg, .slice a n cap] := by rw [hx1]; exact ((Bl.new (by simp)).alloc (by simp))
  have bq : Bl x1 (w.heap.size + 1) #[.bool neg', .slice a' n' cap'] := by rw [hx1]; exact (Bl.new (by simp))
  have HE := hx
  clear hx
  clear hx1
  refine (S1.out _ (HW.out.ext HE) (HW'.out.ext HE)).mono ?_
  rintro e u1 ⟨a1q, n1q, c1q, a1r, n1r, c1r, rfl, hs1q, hs1r, hx⟩
  replace bp := Bl.ext hx bp (Nat.succ_pos _)
  replace bq := Bl.ext hx bq (Nat.succ_pos _)
  replace HE := HE.trans hx
  clear hx
  go_upto_region 2 with fail
  refine absW (fun x2 hx2 => ?_)
  have hx : Ext u1 x2 := by rw [hx2]; exact (((Ext.refl _).alloc _).alloc _)
  have bx : Bl x2 (u1.heap.size) #[.bool b1, .slice a1q n1q c1q] := by rw [hx2]; exact ((Bl.new (by simp)).alloc (by simp))
  have bz : Bl x2 (u1.heap.size + 1) #[.bool b2, .slice a1r n1r c1r] := by rw [hx2]; exact (Bl.new (by simp))
  replace bp := Bl.ext hx bp (Nat.succ_pos _)
  replace bq := Bl.ext hx bq (Nat.succ_pos _)
  replace hs1q := hs1q.ext hx
  replace hs1r := hs1r.ext hx
  replace HE := HE.trans hx
  clear hx
  clear hx2
  go_wp2_with fail
  refine (S2.out _ (HW.out.ext HE) (HW'.out.ext HE)).mono ?_
  rintro e u2 ⟨a2q, n2q, c2q, a2r, n2r, c2r, rfl, hs2q, hs2r, hx⟩
  replace bp := Bl.ext hx bp (Nat.succ_pos _)
  replace bq := Bl.ext hx bq (Nat.succ_pos _)
  replace bx := Bl.ext hx bx (Nat.succ_pos _)
  replace bz := Bl.ext hx bz (Nat.succ_pos _)
  replace hs1q := hs1q.ext hx
  replace hs1r := hs1r.ext hx
  replace HE := HE.trans hx
  clear hx
  go_upto_region 3 with fail
  refine absW (fun x3 hx3 => ?_)
  have hx : Ext u2 x3 := by rw [hx3]; exact (((Ext.refl _).alloc _).alloc _)
  have bv : Bl x3 (u2.heap.size) #[.bool b1, .slice a2q n2q c2q] := by rw [hx3]; exact ((Bl.new (by simp)).alloc (by simp))
  have bt : Bl x3 (u2.heap.size + 1) #[.bool b2, .slice a2r n2r c2r] := by rw [hx3]; exact (Bl.new (by simp))
  replace bp := Bl.ext hx bp (Nat.succ_pos _)
  replace bq := Bl.ext hx bq (Nat.succ_pos _)
  replace bx := Bl.ext hx bx (Nat.succ_pos _)
  replace bz := Bl.ext hx bz (Nat.succ_pos _)
  replace hs1q := hs1q.ext hx
  replace hs1r := hs1r.ext hx
  replace hs2q := hs2q.ext hx
  replace hs2r := hs2r.ext hx
  replace HE := HE.trans hx
  clear hx
  clear hx3
  go_wp2_with fail
  refine (d_SameW hs1q hs2q HQL.out).mono ?_
  rintro e u3 ⟨rfl, hx⟩
  replace bp := Bl.ext hx bp (Nat.succ_pos _)
  replace bq := Bl.ext hx bq (Nat.succ_pos _)
  replace bx := Bl.ext hx bx (Nat.succ_pos _)
  replace bz := Bl.ext hx bz (Nat.succ_pos _)
  replace bv := Bl.ext hx bv (Nat.succ_pos _)
  replace bt := Bl.ext hx bt (Nat.succ_pos _)
  replace hs1q := hs1q.ext hx
  replace hs1r := hs1r.ext hx
  replace hs2q := hs2q.ext hx
  replace hs2r := hs2r.ext hx
  replace HE := HE.trans hx
  clear hx
  clear hs1q hs2q
  go_wp2_with fail
  refine (d_SameW hs1r hs2r HRL.out).mono ?_
  rintro e u4 ⟨rfl, hx⟩
  replace bp := Bl.ext hx bp (Nat.succ_pos _)
  replace bq := Bl.ext hx bq (Nat.succ_pos _)
  replace bx := Bl.ext hx bx (Nat.succ_pos _)
  replace bz := Bl.ext hx bz (Nat.succ_pos _)
  replace bv := Bl.ext hx bv (Nat.succ_pos _)
  replace bt := Bl.ext hx bt (Nat.succ_pos _)
  replace hs1r := hs1r.ext hx
  replace hs2r := hs2r.ext hx
  replace HE := HE.trans hx
  clear hx
  clear hs1r hs2r
  go_wp2_with fail
  refine (w_lives_any _).mono ?_
  rintro e u5 ⟨rfl, hx⟩
  replace bp := Bl.ext hx bp (Nat.succ_pos _)
  replace bq := Bl.ext hx bq (Nat.succ_pos _)
  replace bx := Bl.ext hx bx (Nat.succ_pos _)
  replace bz := Bl.ext hx bz (Nat.succ_pos _)
  replace bv := Bl.ext hx bv (Nat.succ_pos _)
  replace bt := Bl.ext hx bt (Nat.succ_pos _)
  replace HE := HE.trans hx
  clear hx
  go_wp2_with fail
  go_ret
  exact ⟨rfl, HE⟩

end Go.Proofs.Ytcipcpbjkcpgdaa
