/- Gauge: lengths of ways. -/
import Derived.Test.YtogcmnagiepofaaG2
namespace Go.Proofs.Ytogcmnagiepofaa
set_option linter.unusedVariables false
open Go Go.RowKit

theorem sq_bd {t : Int} (h1 : -16777214 ≤ t) (h2 : t ≤ 16777214) : 0 ≤ t * t ∧ t * t ≤ 281474909601796 := by
  have h3 : t.natAbs ≤ 16777214 := by omega
  have h4 := Nat.mul_le_mul h3 h3
  have h5 := Int.natAbs_mul_self (a := t)
  omega
theorem isq_bd {n : Nat} (h : n ≤ 562949819203592) : isq n ≤ 33554431 := by
  have h1 := (isq_spec n).1
  rcases Nat.lt_or_ge 33554431 (isq n) with h2 | h2
  · have := Nat.mul_le_mul h2 h2
    omega
  · exact h2
/-- How long a way is. -/
def lenI (x y x' y' : Int) : Nat := if fitP x y && fitP x' y' then isq ((x' - x) * (x' - x) + (y' - y) * (y' - y)).toNat else 0
theorem lenI_yes {x y x' y' : Int} (h : fitP x y = true) (h' : fitP x' y' = true) : lenI x y x' y' = isq ((x' - x) * (x' - x) + (y' - y) * (y' - y)).toNat := by
  unfold lenI; rw [h, h']; rfl
theorem lenI_no {x y x' y' : Int} (h : fitP x y = false ∨ fitP x' y' = false) : lenI x y x' y' = 0 := by
  unfold lenI
  rcases h with h | h
  · rw [h]; rfl
  · rw [h, Bool.and_false]; rfl
theorem lenI_bd (x y x' y' : Int) : lenI x y x' y' ≤ 33554431 := by
  unfold lenI
  split
  · next h =>
    rw [Bool.and_eq_true, fitP_iff, fitP_iff] at h
    have h1 := sq_bd (t := x' - x) (by omega) (by omega)
    have h2 := sq_bd (t := y' - y) (by omega) (by omega)
    exact isq_bd (by omega)
  · omega
theorem lenI_fit {x y x' y' : Int} (h : lenI x y x' y' ≠ 0) : fitP x y = true ∧ fitP x' y' = true := by
  unfold lenI at h
  split at h
  · next h1 => rw [Bool.and_eq_true] at h1; exact h1
  · exact absurd rfl h
theorem sq_neg (x x' : Int) : (x - x') * (x - x') = (x' - x) * (x' - x) := by
  have : x - x' = -(x' - x) := by omega
  rw [this, Int.neg_mul_neg]

set_option maxRecDepth 100000 in
set_option maxHeartbeats 2000000 in
theorem g_delta (x y x' y' : Int) (w : World) (h : fitP x y = true) (h' : fitP x' y' = true) :
    Calls Try.prog 89 #[.agg #[.int .i64 x, .int .i64 y], .agg #[.int .i64 x', .int .i64 y']] w fun e w' => e = .returned (.tuple #[.int .i64 (x' - x), .int .i64 (y' - y)]) ∧ Ext w w' := by
  rw [fitP_iff] at h h'
  obtain ⟨⟨h1, h2⟩, h3, h4⟩ := h
  obtain ⟨⟨h5, h6⟩, h7, h8⟩ := h'
  go_enter Try.func89, Try.ntmps89
  go_wp2_with fail
  go_quiet (fail)
  go_wp2
  go_ret2
  exact ⟨rfl, (((Ext.refl _).alloc _).alloc _).drewN _⟩

set_option maxRecDepth 100000 in
set_option maxHeartbeats 2000000 in
theorem g_Len (x y x' y' : Int) (w : World) :
    Calls Try.prog 20 #[.agg #[.int .i64 x, .int .i64 y], .agg #[.int .i64 x', .int .i64 y']] w fun e w' => e = .returned (.int .i64 (lenI x y x' y' : Nat)) ∧ Ext w w' := by
  have ha := fun u => a_Fits x y u
  have hb := fun u => a_Fits x' y' u
  cases hfx : fitP x y
  · have hr := lenI_no (.inl hfx : fitP x y = false ∨ fitP x' y' = false)
    have HR := hidP hr
    rw [hfx] at ha
    have HA := hidP ha
    clear ha hb hr hfx
    generalize lenI x y x' y' = rr at *
    go_enter Try.func20, Try.ntmps20
    go_wp2_with fail
    refine (HA.out _).mono ?_
    rintro e u1 ⟨rfl, hx1⟩
    go_wp2_with fail
    go_ret
    exact ⟨congrArg (fun x : Nat => Ending.returned (Value.int .i64 (x : Int))) HR.out.symm, (((Ext.refl _).alloc _).alloc _).trans hx1⟩
  · cases hfy : fitP x' y'
    · have hr := lenI_no (.inr hfy : fitP x y = false ∨ fitP x' y' = false)
      have HR := hidP hr
      rw [hfx] at ha
      rw [hfy] at hb
      have HA := hidP ha; have HB := hidP hb
      clear ha hb hr hfx hfy
      generalize lenI x y x' y' = rr at *
      go_enter Try.func20, Try.ntmps20
      go_wp2_with fail
      refine absC (fun x1 hx1 => ?_)
      have hx : Ext w x1 := by rw [hx1]; exact (((Ext.refl _).alloc _).alloc _)
      have bq : Bl x1 (w.heap.size + 1) #[.int .i64 x', .int .i64 y'] := by rw [hx1]; exact (Bl.new (by simp))
      clear hx1
      refine (HA.out _).mono ?_
      rintro e u1 ⟨rfl, he⟩
      replace bq := Bl.ext he bq (Nat.succ_pos _)
      replace hx := hx.trans he
      clear he
      go_wp2_with fail
      refine (HB.out _).mono ?_
      rintro e u2 ⟨rfl, he⟩
      replace hx := hx.trans he
      clear he
      go_wp2_with fail
      go_ret
      exact ⟨congrArg (fun x : Nat => Ending.returned (Value.int .i64 (x : Int))) HR.out.symm, hx⟩
    · have hr := lenI_yes hfx hfy
      have hdl := fun u => g_delta x y x' y' u hfx hfy
      have hf1 := fitP_iff.1 hfx
      have hf2 := fitP_iff.1 hfy
      have s1 := sq_bd (t := x' - x) (by omega) (by omega)
      have s2 := sq_bd (t := y' - y) (by omega) (by omega)
      have t1 : -16777214 ≤ x' - x ∧ x' - x ≤ 16777214 := by omega
      have t2 : -16777214 ≤ y' - y ∧ y' - y ≤ 16777214 := by omega
      rw [hfx] at ha
      rw [hfy] at hb
      generalize x' - x = dx at *
      generalize y' - y = dy at *
      have HR := hidP hr
      have HA := hidP ha; have HB := hidP hb; have HD := hidP hdl
      clear ha hb hr hfx hfy hdl hf1 hf2
      generalize lenI x y x' y' = rr at *
      obtain ⟨s3, s4⟩ := s1
      obtain ⟨s5, s6⟩ := s2
      obtain ⟨t3, t4⟩ := t1
      obtain ⟨t5, t6⟩ := t2
      go_enter Try.func20, Try.ntmps20
      go_wp2_with fail
      refine absC (fun x1 hx1 => ?_)
      have hx : Ext w x1 := by rw [hx1]; exact (((Ext.refl _).alloc _).alloc _)
      have bp : Bl x1 (w.heap.size) #[.int .i64 x, .int .i64 y] := by rw [hx1]; exact ((Bl.new (by simp)).alloc (by simp))
      have bq : Bl x1 (w.heap.size + 1) #[.int .i64 x', .int .i64 y'] := by rw [hx1]; exact (Bl.new (by simp))
      clear hx1
      refine (HA.out _).mono ?_
      rintro e u1 ⟨rfl, he⟩
      replace bp := Bl.ext he bp (Nat.succ_pos _)
      replace bq := Bl.ext he bq (Nat.succ_pos _)
      replace hx := hx.trans he
      clear he
      go_wp2_with fail
      refine (HB.out _).mono ?_
      rintro e u2 ⟨rfl, he⟩
      replace bp := Bl.ext he bp (Nat.succ_pos _)
      replace bq := Bl.ext he bq (Nat.succ_pos _)
      replace hx := hx.trans he
      clear he
      go_wp2_with fail
      refine (HD.out _).mono ?_
      rintro e u3 ⟨rfl, he⟩
      replace hx := hx.trans he
      clear he
      go_wp2_with fail
      refine (p_SqrtInt (dx * dx + dy * dy) _ (by omega) (by omega)).mono ?_
      rw [← HR.out]
      rintro e u4 ⟨rfl, rfl⟩
      go_wp2_with fail
      go_ret
      exact ⟨rfl, hx⟩

set_option maxRecDepth 100000 in
set_option maxHeartbeats 2000000 in
theorem d_Root (m : Nat) (w : World) (h : m ≤ 562949819203592) :
    Calls Try.prog 92 #[.int .i64 (m : Int)] w fun e w' => e = .returned (.int .i64 (isq m : Nat)) ∧ Ext w w' := by
  have hq := isq_bd h
  have hS := fun u (t : Nu u (some ⟨0, 0, none⟩) 0 0 m) => True
  clear hS
  have hdm : dl m ≤ 2 := dl_u64 (by omega)
  have HDM := hidP hdm
  clear hdm
  generalize hs : isq m = s at *
  have HS := hidP hs
  clear hs
  go_enter Try.func92, Try.ntmps92
  go_wp2_with fail
  refine (d_Of m _ (by omega)).mono ?_
  rintro e u1 ⟨a1, n1, c1, rfl, hs1, he1⟩
  go_wp2_with fail
  refine (q_Sqrt (hs1.nu (by have := HDM.out; omega)) (by have := HDM.out; omega)).mono ?_
  rw [HS.out]
  rintro e u2 ⟨a2, n2, c2, rfl, hs2, he2⟩
  have hx := he1.trans he2
  clear he1 he2 hs1
  have hl := hs2.len
  rcases Nat.eq_zero_or_pos s with h0 | h0
  · subst h0
    obtain rfl : n2 = 0 := by rw [hl]; exact dl_zero
    clear hs2 hl
    go_wp2_with fail
    go_loop [3, 5] (fun v i => v = .int .i64 0 ∧ i = .int .i64 (-1)) (fun _ _ => 0)
    case atStart => exact ⟨rfl, rfl⟩
    case round =>
      obtain ⟨rfl, rfl⟩ := hrel
      go_wp2_with fail
      go_ret
      exact ⟨rfl, hx⟩
  · have hds : dig B32 s = [s] := dig_one h0 (by omega)
    obtain rfl : n2 = 1 := by rw [hl]; unfold dl; rw [hds]; rfl
    unfold Nc at hs2
    rw [hds] at hs2
    obtain ⟨bl, off, ha, hc⟩ := hs2.2.2.2 (by omega)
    have hcell : u2.cell? ⟨bl, off, none⟩ = some (.int .u32 (s : Int)) := hc 0 _ rfl
    subst ha
    clear hc hs2 hl hds
    go_wp2_with fail
    go_loop [3, 5] (fun v i => ∃ k : Nat, k ≤ 1 ∧ i = .int .i64 ((k : Int) - 1) ∧ v = .int .i64 ((s : Int) * (1 - (k : Int)))) (fun _ i => (intOf i + 1).toNat)
    case atStart => exact ⟨1, by omega, rfl, by simp⟩
    case round =>
      obtain ⟨k, hk, rfl, rfl⟩ := hrel
      have hk2 : k = 0 ∨ k = 1 := by omega
      rcases hk2 with rfl | rfl
      · have e1 : (s : Int) * (1 - ((0 : Nat) : Int)) = (s : Int) := by simp
        have e2 : ((0 : Nat) : Int) - 1 = -1 := rfl
        rw [e1, e2]
        clear e1 e2
        go_wp2_with fail
        go_ret
        exact ⟨rfl, hx⟩
      · have e1 : (s : Int) * (1 - ((1 : Nat) : Int)) = 0 := by simp
        have e2 : ((1 : Nat) : Int) - 1 = 0 := rfl
        rw [e1, e2]
        clear e1 e2
        go_wp2_with fail
        go_round
        case rel => exact ⟨0, by omega, rfl, by simp⟩
        case measure => simp [intOf]
end Go.Proofs.Ytogcmnagiepofaa
