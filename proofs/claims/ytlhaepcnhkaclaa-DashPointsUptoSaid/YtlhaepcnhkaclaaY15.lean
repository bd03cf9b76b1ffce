/- The law of points at distances: its walk. -/
import Derived.Test.YtlhaepcnhkaclaaY11
import Derived.Test.YtlhaepcnhkaclaaY14
namespace Go.Proofs.Ytlhaepcnhkaclaa
set_option linter.unusedVariables false
set_option linter.unusedSimpArgs false
open Go Go.RowKit


set_option maxRecDepth 100000 in
set_option maxHeartbeats 4000000 in
theorem dashPoints_any (a : Option Addr) (n cap : Nat) (l : List Pt) (c : Bool) (m : Int) (pa : Option Addr) (pn pc : Nat) (pat : List Int) (w : World) (h : SlP w a n cap l) (hw : ∀ p ∈ l, True) (hn : n ≤ 4194303) (m1 : -9223372036854775808 ≤ m) (m2 : m ≤ 9223372036854775807) (hp : Sl w pa pn pc (izs pat)) (hpw : ∀ x ∈ pat, True) :
    Calls Try.prog 5 #[.agg #[.slice a n cap, .bool c], .int .i64 m, .slice pa pn pc] w fun e w' => e = .returned (.bool true) ∧ Ext w w' := by
  have H := hidP h; have HP := hidP hp
  have HA1 := hidP (fun u (q : SlP u a n cap l) => dd_At a n cap l c m u q hn m1 m2)
  have HA2 := hidP (fun u (q : SlP u a n cap l) => dr_At a n cap l c m u q hn m1 m2)
  have HM1 := hidP (fun u (q : Sl u pa pn pc (izs pat)) => dd_May pa pn pc pat m u q)
  have HM2 := hidP (fun u (q : Sl u pa pn pc (izs pat)) => dr_May pa pn pc pat m u q)
  have HT := hidP (fun (hm : mayD pat m = true) u (q : Sl u pa pn pc (izs pat)) => dd_Total pa pn pc pat u q (by have := (mayD_iff.1 hm).1.1; rw [q.z_len] at this; exact this) (mayD_iff.1 hm).2)
  have HT2 := hidP (fun (hm : mayD pat m = true) u (q : Sl u pa pn pc (izs pat)) => dr_Total pa pn pc pat u q (by have := (mayD_iff.1 hm).1.1; rw [q.z_len] at this; exact this) (mayD_iff.1 hm).2)
  have HLV := hidP (fun u => dash_lives u)
  clear h hp
  generalize atF l c m = r at *
  obtain ⟨⟨x, y⟩, b⟩ := r
  generalize totD pat = tot at *
  cases hmay : mayD pat m
  · rw [hmay] at HM1 HM2
    clear hmay HT HT2
    go_enter Try.func5, Try.ntmps5
    go_wp2_with fail
    refine absC (fun x1 hx1 => ?_)
    have hx : Ext w x1 := by rw [hx1]; exact ((Ext.refl _).alloc _)
    have bp : Bl x1 (w.heap.size) #[.slice a n cap, .bool c] := by rw [hx1]; exact (Bl.new (by simp))
    have HE := hx
    clear hx
    clear hx1
    refine (HA1.out _ (H.out.ext HE)).mono ?_
    rintro e u1 ⟨rfl, hx⟩
    replace bp := Bl.ext hx bp (Nat.succ_pos _)
    replace HE := HE.trans hx
    clear hx
    go_upto_region 2 with fail
    refine absW (fun x2 hx2 => ?_)
    have hx : Ext u1 x2 := by rw [hx2]; exact ((Ext.refl _).alloc _)
    have bq : Bl x2 (u1.heap.size) #[.int .i64 x, .int .i64 y] := by rw [hx2]; exact (Bl.new (by simp))
    replace bp := Bl.ext hx bp (Nat.succ_pos _)
    replace HE := HE.trans hx
    clear hx
    clear hx2
    go_wp2_with fail
    refine (HA2.out _ (H.out.ext HE)).mono ?_
    rintro e u2 ⟨rfl, hx⟩
    replace bp := Bl.ext hx bp (Nat.succ_pos _)
    replace bq := Bl.ext hx bq (Nat.succ_pos _)
    replace HE := HE.trans hx
    clear hx
    go_upto_region 3 with fail
    refine absW (fun x3 hx3 => ?_)
    have hx : Ext u2 x3 := by rw [hx3]; exact ((Ext.refl _).alloc _)
    have br : Bl x3 (u2.heap.size) #[.int .i64 x, .int .i64 y] := by rw [hx3]; exact (Bl.new (by simp))
    replace bp := Bl.ext hx bp (Nat.succ_pos _)
    replace bq := Bl.ext hx bq (Nat.succ_pos _)
    replace HE := HE.trans hx
    clear hx
    clear hx3
    go_wp2_with fail
    refine (HM2.out _ (HP.out.ext HE)).mono ?_
    rintro e u3 ⟨rfl, hx⟩
    replace bp := Bl.ext hx bp (Nat.succ_pos _)
    replace bq := Bl.ext hx bq (Nat.succ_pos _)
    replace br := Bl.ext hx br (Nat.succ_pos _)
    replace HE := HE.trans hx
    clear hx
    go_wp2_with fail
    refine (HM1.out _ (HP.out.ext HE)).mono ?_
    rintro e u4 ⟨rfl, hx⟩
    replace bp := Bl.ext hx bp (Nat.succ_pos _)
    replace bq := Bl.ext hx bq (Nat.succ_pos _)
    replace br := Bl.ext hx br (Nat.succ_pos _)
    replace HE := HE.trans hx
    clear hx
    go_wp2_with fail
    refine (HLV.out _).mono ?_
    rintro e u7 ⟨rfl, hx⟩
    replace bp := Bl.ext hx bp (Nat.succ_pos _)
    replace bq := Bl.ext hx bq (Nat.succ_pos _)
    replace br := Bl.ext hx br (Nat.succ_pos _)
    replace HE := HE.trans hx
    clear hx
    go_wp2_with fail
    go_ret
    exact ⟨rfl, HE⟩
  · rw [hmay] at HM1 HM2
    have HTT := hidP (HT.out hmay); have HTT2 := hidP (HT2.out hmay)
    clear hmay HT HT2
    go_enter Try.func5, Try.ntmps5
    go_wp2_with fail
    refine absC (fun x1 hx1 => ?_)
    have hx : Ext w x1 := by rw [hx1]; exact ((Ext.refl _).alloc _)
    have bp : Bl x1 (w.heap.size) #[.slice a n cap, .bool c] := by rw [hx1]; exact (Bl.new (by simp))
    have HE := hx
    clear hx
    clear hx1
    refine (HA1.out _ (H.out.ext HE)).mono ?_
    rintro e u1 ⟨rfl, hx⟩
    replace bp := Bl.ext hx bp (Nat.succ_pos _)
    replace HE := HE.trans hx
    clear hx
    go_upto_region 2 with fail
    refine absW (fun x2 hx2 => ?_)
    have hx : Ext u1 x2 := by rw [hx2]; exact ((Ext.refl _).alloc _)
    have bq : Bl x2 (u1.heap.size) #[.int .i64 x, .int .i64 y] := by rw [hx2]; exact (Bl.new (by simp))
    replace bp := Bl.ext hx bp (Nat.succ_pos _)
    replace HE := HE.trans hx
    clear hx
    clear hx2
    go_wp2_with fail
    refine (HA2.out _ (H.out.ext HE)).mono ?_
    rintro e u2 ⟨rfl, hx⟩
    replace bp := Bl.ext hx bp (Nat.succ_pos _)
    replace bq := Bl.ext hx bq (Nat.succ_pos _)
    replace HE := HE.trans hx
    clear hx
    go_upto_region 3 with fail
    refine absW (fun x3 hx3 => ?_)
    have hx : Ext u2 x3 := by rw [hx3]; exact ((Ext.refl _).alloc _)
    have br : Bl x3 (u2.heap.size) #[.int .i64 x, .int .i64 y] := by rw [hx3]; exact (Bl.new (by simp))
    replace bp := Bl.ext hx bp (Nat.succ_pos _)
    replace bq := Bl.ext hx bq (Nat.succ_pos _)
    replace HE := HE.trans hx
    clear hx
    clear hx3
    go_wp2_with fail
    refine (HM2.out _ (HP.out.ext HE)).mono ?_
    rintro e u3 ⟨rfl, hx⟩
    replace bp := Bl.ext hx bp (Nat.succ_pos _)
    replace bq := Bl.ext hx bq (Nat.succ_pos _)
    replace br := Bl.ext hx br (Nat.succ_pos _)
    replace HE := HE.trans hx
    clear hx
    go_wp2_with fail
    refine (HM1.out _ (HP.out.ext HE)).mono ?_
    rintro e u4 ⟨rfl, hx⟩
    replace bp := Bl.ext hx bp (Nat.succ_pos _)
    replace bq := Bl.ext hx bq (Nat.succ_pos _)
    replace br := Bl.ext hx br (Nat.succ_pos _)
    replace HE := HE.trans hx
    clear hx
    go_wp2_with fail
    refine (HTT.out _ (HP.out.ext HE)).mono ?_
    rintro e u5 ⟨rfl, rfl⟩
    go_wp2_with fail
    refine (HTT2.out _ (HP.out.ext HE)).mono ?_
    rintro e u6 ⟨rfl, hx⟩
    replace bp := Bl.ext hx bp (Nat.succ_pos _)
    replace bq := Bl.ext hx bq (Nat.succ_pos _)
    replace br := Bl.ext hx br (Nat.succ_pos _)
    replace HE := HE.trans hx
    clear hx
    go_wp2_with fail
    refine (HLV.out _).mono ?_
    rintro e u7 ⟨rfl, hx⟩
    replace bp := Bl.ext hx bp (Nat.succ_pos _)
    replace bq := Bl.ext hx bq (Nat.succ_pos _)
    replace br := Bl.ext hx br (Nat.succ_pos _)
    replace HE := HE.trans hx
    clear hx
    go_wp2_with fail
    go_ret
    exact ⟨rfl, HE⟩

end Go.Proofs.Ytlhaepcnhkaclaa
