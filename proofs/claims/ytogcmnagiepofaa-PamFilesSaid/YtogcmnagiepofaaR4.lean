/- Rasters: where two differ. -/
import Derived.Test.YtogcmnagiepofaaR3
import Derived.OwnWalk
namespace Go.Proofs.Ytogcmnagiepofaa
set_option linter.unusedVariables false
open Go Go.RowKit

/-- The place of the first difference. -/
def fdK : List Col → List Col → Nat
  | p :: t, q :: t' => if p = q then fdK t t' + 1 else 0
  | _, _ => 0
theorem fdK_at {l l' : List Col} {j : Nat} (hj : j < l.length) (hj' : j < l'.length) (h : l.take j = l'.take j) (hne : l[j] ≠ l'[j]) : fdK l l' = j := by
  induction j generalizing l l' with
  | zero =>
    cases l with
    | nil => simp at hj
    | cons p t =>
      cases l' with
      | nil => simp at hj'
      | cons q t' => simp only [List.getElem_cons_zero] at hne; unfold fdK; rw [if_neg hne]
  | succ j ih =>
    cases l with
    | nil => simp at hj
    | cons p t =>
      cases l' with
      | nil => simp at hj'
      | cons q t' =>
        simp only [List.take_succ_cons, List.cons.injEq] at h
        simp only [List.getElem_cons_succ] at hne
        unfold fdK
        rw [if_pos h.1, ih (by simpa using hj) (by simpa using hj') h.2 hne]
/-- Where two rasters differ first. -/
def difR (x y : Int) (n : Nat) (l : List Col) (x' y' : Int) (n' : Nat) (l' : List Col) : Int × Int × Bool :=
  if x = x' ∧ y = y' ∧ mayR x y n = true ∧ mayR x' y' n' = true then
    (if l = l' then (0, 0, false) else ((((fdK l l' % x.toNat : Nat)) : Int), (((fdK l l' / x.toNat : Nat)) : Int), true))
  else (0, 0, !decide (x = x' ∧ y = y' ∧ l = l'))
def RetD (w : World) (r : Int × Int × Bool) (e : Ending) (w' : World) : Prop := e = .returned (.tuple #[.int .i64 r.1, .int .i64 r.2.1, .bool r.2.2]) ∧ Ext w w'
theorem difR_no {x y : Int} {n : Nat} {l : List Col} {x' y' : Int} {n' : Nat} {l' : List Col} (h : ¬ (x = x' ∧ y = y' ∧ mayR x y n = true ∧ mayR x' y' n' = true)) : difR x y n l x' y' n' l' = (0, 0, !decide (x = x' ∧ y = y' ∧ l = l')) := if_neg h
theorem difR_same {X y : Int} {n n' : Nat} {l : List Col} (h : mayR X y n = true) (h' : mayR X y n' = true) : difR X y n l X y n' l = (0, 0, false) := by
  unfold difR
  rw [if_pos ⟨rfl, rfl, h, h'⟩, if_pos rfl]
theorem difR_at {X : Nat} {y : Int} {n n' : Nat} {l l' : List Col} (h : mayR X y n = true) (h' : mayR X y n' = true) {j : Nat} (hj : j < l.length) (hj' : j < l'.length) (ht : l.take j = l'.take j) (hne : l[j] ≠ l'[j]) : difR X y n l X y n' l' = (((j % X : Nat) : Int), ((j / X : Nat) : Int), true) := by
  unfold difR
  rw [if_pos ⟨rfl, rfl, h, h'⟩, if_neg (fun e => hne (by simp only [e])), fdK_at hj hj' ht hne]
  rfl

set_option maxRecDepth 100000 in
set_option maxHeartbeats 4000000 in
theorem p_Differ (x y x' y' : Int) (a a' : Option Addr) (n c n' c' : Nat) (l l' : List Col) (w : World) (h : SlC w a n c l) (h' : SlC w a' n' c' l') :
    Calls Try.prog 69 #[rst x y a n c, rst x' y' a' n' c'] w (RetD w (difR x y n l x' y' n' l')) := by
  have HL := hidP h.len; have HL' := hidP h'.len
  have H := hidP h; have H' := hidP h'
  clear h h'
  have HM := hidP (fun u => p_May x y a n c u)
  have HM' := hidP (fun u => p_May x' y' a' n' c' u)
  by_cases hx : x = x'
  · subst hx
    by_cases hy : y = y'
    · subst hy
      have HQ := hidP (fun (u : World) (t : SlC u a n c l) (t' : SlC u a' n' c' l') => s_EqC a a' n c n' c' l l' u t t')
      cases hm : mayR x y n
      · rw [hm] at HM
        have HR := hidP (@difR_no x y n l x y n' l' (fun h => by rw [hm] at h; exact absurd h.2.2.1 (by decide)))
        rw [show decide (x = x ∧ y = y ∧ l = l') = decide (l = l') by simp] at HR
        clear hm HM'
        generalize difR x y n l x y n' l' = rr at *
        generalize decide (l = l') = bb at *
        go_enter Try.func69, Try.ntmps69
        go_wp2_with fail
        refine absC (fun x1 hx1 => ?_)
        have hx : Ext w x1 := by rw [hx1]; exact (((Ext.refl _).alloc _).alloc _)
        have bs : Bl x1 (w.heap.size) #[.int .i64 x, .int .i64 y, .slice a n c] := by rw [hx1]; exact ((Bl.new (by simp)).alloc (by simp))
        have bt : Bl x1 (w.heap.size + 1) #[.int .i64 x, .int .i64 y, .slice a' n' c'] := by rw [hx1]; exact (Bl.new (by simp))
        have HE := hx
        clear hx
        clear hx1
        refine (HM.out _).mono ?_
        rintro e u1 ⟨rfl, hx⟩
        replace bs := Bl.ext hx bs (Nat.succ_pos _)
        replace bt := Bl.ext hx bt (Nat.succ_pos _)
        replace HE := HE.trans hx
        clear hx
        go_wp2_with fail
        refine (HQ.out _ (H.out.ext HE) (H'.out.ext HE)).mono ?_
        rintro e u3 ⟨rfl, hx⟩
        replace bs := Bl.ext hx bs (Nat.succ_pos _)
        replace bt := Bl.ext hx bt (Nat.succ_pos _)
        replace HE := HE.trans hx
        clear hx
        cases bb
        all_goals (
          go_wp2_with fail
          refine bodyPost_ret (results_tmp3 rfl _ _ _) rfl ?_
          exact ⟨by rw [HR.out]; rfl, HE⟩)
      · rw [hm] at HM
        cases hm' : mayR x y n'
        · rw [hm'] at HM'
          have HR := hidP (@difR_no x y n l x y n' l' (fun h => by rw [hm'] at h; exact absurd h.2.2.2 (by decide)))
          rw [show decide (x = x ∧ y = y ∧ l = l') = decide (l = l') by simp] at HR
          clear hm hm'
          generalize difR x y n l x y n' l' = rr at *
          generalize decide (l = l') = bb at *
          go_enter Try.func69, Try.ntmps69
          go_wp2_with fail
          refine absC (fun x1 hx1 => ?_)
          have hx : Ext w x1 := by rw [hx1]; exact (((Ext.refl _).alloc _).alloc _)
          have bs : Bl x1 (w.heap.size) #[.int .i64 x, .int .i64 y, .slice a n c] := by rw [hx1]; exact ((Bl.new (by simp)).alloc (by simp))
          have bt : Bl x1 (w.heap.size + 1) #[.int .i64 x, .int .i64 y, .slice a' n' c'] := by rw [hx1]; exact (Bl.new (by simp))
          have HE := hx
          clear hx
          clear hx1
          refine (HM.out _).mono ?_
          rintro e u1 ⟨rfl, hx⟩
          replace bs := Bl.ext hx bs (Nat.succ_pos _)
          replace bt := Bl.ext hx bt (Nat.succ_pos _)
          replace HE := HE.trans hx
          clear hx
          go_wp2_with fail
          refine (HM'.out _).mono ?_
          rintro e u2 ⟨rfl, hx⟩
          replace bs := Bl.ext hx bs (Nat.succ_pos _)
          replace bt := Bl.ext hx bt (Nat.succ_pos _)
          replace HE := HE.trans hx
          clear hx
          go_wp2_with fail
          refine (HQ.out _ (H.out.ext HE) (H'.out.ext HE)).mono ?_
          rintro e u3 ⟨rfl, hx⟩
          replace bs := Bl.ext hx bs (Nat.succ_pos _)
          replace bt := Bl.ext hx bt (Nat.succ_pos _)
          replace HE := HE.trans hx
          clear hx
          cases bb
          all_goals (
            go_wp2_with fail
            refine bodyPost_ret (results_tmp3 rfl _ _ _) rfl ?_
            exact ⟨by rw [HR.out]; rfl, HE⟩)
        · rw [hm'] at HM'
          have hmm := of_decide_eq_true hm
          have hmm' := of_decide_eq_true hm'
          obtain ⟨m1, m2, m3, m4, m5⟩ := hmm
          have hbx := mul_box m1 m2 m3 m4
          obtain rfl : n = n' := by have := hmm'.2.2.2.2; omega
          obtain ⟨X, rfl⟩ : ∃ X : Nat, x = (X : Int) := ⟨x.toNat, by omega⟩
          have hnb : n ≤ 4096 := by omega
          have hX0 : ¬ X = 0 := by omega
          have HS : Hid (l = l' → difR X y n l X y n l' = (0, 0, false)) := hidP (fun e => by rw [← e]; exact difR_same hm hm)
          have HD := hidP (fun (j : Nat) (hj : j < n) (ht : l.take j = l'.take j) (hne : l[j]'(by rw [HL.out]; exact hj) ≠ l'[j]'(by rw [HL'.out]; exact hj)) => difR_at hm hm' (by rw [HL.out]; exact hj) (by rw [HL'.out]; exact hj) ht hne)
          have HJ0 : Hid (l.take 0 = l'.take 0) := hidP (by simp)
          clear hm hm' hmm' m5 hbx HQ
          generalize difR X y n l X y n l' = rr at *
          go_enter Try.func69, Try.ntmps69
          go_wp2_with fail
          refine absC (fun x1 hx1 => ?_)
          have hx : Ext w x1 := by rw [hx1]; exact (((Ext.refl _).alloc _).alloc _)
          have bs : Bl x1 (w.heap.size) #[.int .i64 (X : Int), .int .i64 y, .slice a n c] := by rw [hx1]; exact ((Bl.new (by simp)).alloc (by simp))
          have bt : Bl x1 (w.heap.size + 1) #[.int .i64 (X : Int), .int .i64 y, .slice a' n c'] := by rw [hx1]; exact (Bl.new (by simp))
          have HE := hx
          clear hx
          clear hx1
          refine (HM.out _).mono ?_
          rintro e u1 ⟨rfl, hx⟩
          replace bs := Bl.ext hx bs (Nat.succ_pos _)
          replace bt := Bl.ext hx bt (Nat.succ_pos _)
          replace HE := HE.trans hx
          clear hx
          go_wp2_with fail
          refine (HM'.out _).mono ?_
          rintro e u2 ⟨rfl, hx⟩
          replace bs := Bl.ext hx bs (Nat.succ_pos _)
          replace bt := Bl.ext hx bt (Nat.succ_pos _)
          replace HE := HE.trans hx
          clear hx
          go_wp2_with fail
          go_loopw [55] (fun iv wr => ∃ j : Nat, j ≤ n ∧ iv = .int .i64 (j : Int) ∧ Hid (l.take j = l'.take j) ∧ Bl wr w.heap.size #[.int .i64 (X : Int), .int .i64 y, .slice a n c] ∧ Bl wr (w.heap.size + 1) #[.int .i64 (X : Int), .int .i64 y, .slice a' n c'] ∧ Ext w wr) (fun iv _ => n - (intOf iv).toNat)
          case atStart => exact ⟨0, by omega, rfl, HJ0, bs, bt, HE⟩
          case round =>
            clear HJ0 bs bt HE
            obtain ⟨j, hj, rfl, HJ, bs, bt, HE⟩ := hrel
            by_cases hlt : j < n
            · have hlt0 := hlt
              obtain ⟨g, off, rfl, hc⟩ := (H.out.ext HE).at (by omega)
              obtain ⟨g', off', rfl, hc'⟩ := (H'.out.ext HE).at (by omega)
              obtain ⟨h0, h1, h2, h3⟩ := hc j (by rw [HL.out]; exact hlt)
              obtain ⟨k0, k1, k2, k3⟩ := hc' j (by rw [HL'.out]; exact hlt)
              clear hc hc'
              generalize hp : l[j]'(by rw [HL.out]; exact hlt) = p at *
              generalize hq : l'[j]'(by rw [HL'.out]; exact hlt) = q at *
              obtain ⟨p0, p1, p2, p3⟩ := p
              obtain ⟨q0, q1, q2, q3⟩ := q
              have HP := hidP hp; have HQ := hidP hq
              clear hp hq
              simp only [] at h0 h1 h2 h3 k0 k1 k2 k3
              by_cases hpq : (p0, p1, p2, p3) = (q0, q1, q2, q3)
              · have HS := hidP (take_same HJ.out (by rw [HL.out]; exact hlt) (by rw [HL'.out]; exact hlt) (by rw [HP.out, HQ.out, hpq]))
                injection hpq with e0 e1
                injection e1 with e1 e2
                injection e2 with e2 e3
                subst e0; subst e1; subst e2; subst e3
                clear HP HQ
                go_wp2_with fail
                refine wp_region_plan (R := Ext) (.q 0 (.q 1 (.q 2 (.q 3 (.q 4 (.q 5 (.q 6 (.q 7 (.q 8 (.q 9 (.q 10 .done))))))))))) (by kernel_rfl) (by kernel_rfl) (by kernel_rfl) (by kernel_rfl) Ext.refl (fun _ _ _ => Ext.trans) ?_
                refine absE (fun x1 hx1 => ?_)
                have hx : Ext wr x1 := by rw [hx1]; exact (Ext.refl _).drew
                replace bs := Bl.ext hx bs (Nat.succ_pos _)
                replace bt := Bl.ext hx bt (Nat.succ_pos _)
                replace h0 := hx.cell' h0
                replace h1 := hx.cell' h1
                replace h2 := hx.cell' h2
                replace h3 := hx.cell' h3
                replace k0 := hx.cell' k0
                replace k1 := hx.cell' k1
                replace k2 := hx.cell' k2
                replace k3 := hx.cell' k3
                replace HE := HE.trans hx
                clear hx
                clear hx1
                repeat (refine wpE_q (v := ?_) rfl rfl (fun u hu => ?_) ?_; rotate_left 1; (focus (have ks := Bl.ext hu bs (Nat.succ_pos _); have kt := Bl.ext hu bt (Nat.succ_pos _); have kh0 := hu.cell' h0; have kh1 := hu.cell' h1; have kh2 := hu.cell' h2; have kh3 := hu.cell' h3; have kk0 := hu.cell' k0; have kk1 := hu.cell' k1; have kk2 := hu.cell' k2; have kk3 := hu.cell' k3; go_simp; (try rfl))); simp only [Act.put, List.setIfInBounds_toArray, List.set_cons_zero, List.set_cons_succ])
                refine wpE_done ?_
                go_wp2_with fail
                go_roundw
                case rel => exact ⟨j + 1, by omega, by go_num, HS, bs, bt, HE⟩
                case measure => simp only [intOf]; omega
              · have HR := hidP (HD.out j hlt HJ.out (by rw [HP.out, HQ.out]; exact hpq))
                have hqp : ¬ ((p0 : Int) = (q0 : Int) ∧ (p1 : Int) = (q1 : Int) ∧ (p2 : Int) = (q2 : Int) ∧ (p3 : Int) = (q3 : Int)) := fun h => hpq (by
                  obtain ⟨e0, e1, e2, e3⟩ := h
                  rw [Int.ofNat.inj e0, Int.ofNat.inj e1, Int.ofNat.inj e2, Int.ofNat.inj e3])
                clear HP HQ hpq
                have HQP := hidP hqp
                clear hqp
                go_wp2_with fail
                refine wp_region_plan (R := Ext) (.q 0 (.q 1 (.q 2 (.q 3 (.q 4 (.q 5 (.q 6 (.q 7 (.q 8 (.q 9 (.q 10 .done))))))))))) (by kernel_rfl) (by kernel_rfl) (by kernel_rfl) (by kernel_rfl) Ext.refl (fun _ _ _ => Ext.trans) ?_
                refine absE (fun x1 hx1 => ?_)
                have hx : Ext wr x1 := by rw [hx1]; exact (Ext.refl _).drew
                replace bs := Bl.ext hx bs (Nat.succ_pos _)
                replace bt := Bl.ext hx bt (Nat.succ_pos _)
                replace h0 := hx.cell' h0
                replace h1 := hx.cell' h1
                replace h2 := hx.cell' h2
                replace h3 := hx.cell' h3
                replace k0 := hx.cell' k0
                replace k1 := hx.cell' k1
                replace k2 := hx.cell' k2
                replace k3 := hx.cell' k3
                replace HE := HE.trans hx
                clear hx
                clear hx1
                repeat (refine wpE_q (v := ?_) rfl rfl (fun u hu => ?_) ?_; rotate_left 1; (focus (have ks := Bl.ext hu bs (Nat.succ_pos _); have kt := Bl.ext hu bt (Nat.succ_pos _); have kh0 := hu.cell' h0; have kh1 := hu.cell' h1; have kh2 := hu.cell' h2; have kh3 := hu.cell' h3; have kk0 := hu.cell' k0; have kk1 := hu.cell' k1; have kk2 := hu.cell' k2; have kk3 := hu.cell' k3; go_simp; (first | rfl | exact ite4 HQP.out | skip))); simp only [Act.put, List.setIfInBounds_toArray, List.set_cons_zero, List.set_cons_succ])
                refine wpE_done ?_
                go_upto_region 8 with fail
                have hr1 : ((j : Int)).tmod (X : Int) = ((j % X : Nat) : Int) := by rw [Int.tmod_eq_emod_of_nonneg (by omega)]; omega
                have hr2 : ((j : Int)).tdiv (X : Int) = ((j / X : Nat) : Int) := by rw [Int.tdiv_eq_ediv_of_nonneg (by omega)]; omega
                have hd1 : j / X ≤ 4096 := Nat.le_trans (Nat.div_le_self _ _) (by omega)
                have hd2 : j % X ≤ 4096 := Nat.le_trans (Nat.mod_le _ _) (by omega)
                generalize j / X = jq at *
                generalize j % X = jr at *
                have HW1 : Hid (IntKind.i64.wrap (jq : Int) = (jq : Int)) := hidP (IntWalk.i64_in _ (by omega))
                have HW2 : Hid (IntKind.i64.wrap (jr : Int) = (jr : Int)) := hidP (IntWalk.i64_in _ (by omega))
                have HR1 := hidP hr1; have HR2 := hidP hr2
                clear hr1 hr2 hd1 hd2
                refine wp_region_plan (R := Ext) (.q 0 (.q 1 (.q 2 (.q 3 (.q 4 (.q 5 (.q 6 (.q 7 (.q 8 (.q 9 (.q 10 .done))))))))))) (by kernel_rfl) (by kernel_rfl) (by kernel_rfl) (by kernel_rfl) Ext.refl (fun _ _ _ => Ext.trans) ?_
                refine absE (fun x2 hx2 => ?_)
                have hx : Ext x1 x2 := by rw [hx2]; exact (Ext.refl _).drew
                replace bs := Bl.ext hx bs (Nat.succ_pos _)
                replace bt := Bl.ext hx bt (Nat.succ_pos _)
                replace h0 := hx.cell' h0
                replace h1 := hx.cell' h1
                replace h2 := hx.cell' h2
                replace h3 := hx.cell' h3
                replace k0 := hx.cell' k0
                replace k1 := hx.cell' k1
                replace k2 := hx.cell' k2
                replace k3 := hx.cell' k3
                replace HE := HE.trans hx
                clear hx
                clear hx2
                repeat (refine wpE_q (v := ?_) rfl rfl (fun u hu => ?_) ?_; rotate_left 1; (focus (have ks := Bl.ext hu bs (Nat.succ_pos _); have kt := Bl.ext hu bt (Nat.succ_pos _); have kh0 := hu.cell' h0; have kh1 := hu.cell' h1; have kh2 := hu.cell' h2; have kh3 := hu.cell' h3; have kk0 := hu.cell' k0; have kk1 := hu.cell' k1; have kk2 := hu.cell' k2; have kk3 := hu.cell' k3; have r1 := HR1.out; have r2 := HR2.out; have r3 := HW1.out; have r4 := HW2.out; go_simp; (first | rfl | exact ite4 HQP.out | skip))); simp only [Act.put, List.setIfInBounds_toArray, List.set_cons_zero, List.set_cons_succ])
                refine wpE_done ?_
                go_wp2_with fail
                refine bodyPost_ret (results_tmp3 rfl _ _ _) rfl ?_
                exact ⟨by rw [HR.out]; rfl, HE⟩
            · obtain rfl : j = n := by omega
              have HR := hidP (HS.out (same_take HJ.out HL.out HL'.out))
              go_wp2_with fail
              refine bodyPost_ret (results_tmp3 rfl _ _ _) rfl ?_
              exact ⟨by rw [HR.out]; rfl, HE⟩
    · have hb : (y == y') = false := by simpa using hy
      have HR := hidP (@difR_no x y n l x y' n' l' (fun h => hy h.2.1))
      rw [show decide (x = x ∧ y = y' ∧ l = l') = false from decide_eq_false (fun h => hy h.2.1)] at HR
      generalize difR x y n l x y' n' l' = rr at *
      go_enter Try.func69, Try.ntmps69
      go_wp2_with fail
      refine bodyPost_ret (results_tmp3 rfl _ _ _) rfl ?_
      exact ⟨by rw [HR.out]; rfl, ((Ext.refl _).alloc _).alloc _⟩
  · have hb : (x == x') = false := by simpa using hx
    have HR := hidP (@difR_no x y n l x' y' n' l' (fun h => hx h.1))
    rw [show decide (x = x' ∧ y = y' ∧ l = l') = false from decide_eq_false (fun h => hx h.1)] at HR
    generalize difR x y n l x' y' n' l' = rr at *
    go_enter Try.func69, Try.ntmps69
    go_wp2_with fail
    refine bodyPost_ret (results_tmp3 rfl _ _ _) rfl ?_
    exact ⟨by rw [HR.out]; rfl, ((Ext.refl _).alloc _).alloc _⟩

end Go.Proofs.Ytogcmnagiepofaa
