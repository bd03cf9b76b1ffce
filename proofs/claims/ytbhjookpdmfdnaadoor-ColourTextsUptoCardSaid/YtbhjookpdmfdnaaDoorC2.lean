/- Colours: something with each part. -/
import Derived.Test.YtbhjookpdmfdnaaDoorC1
namespace Go.Proofs.YtbhjookpdmfdnaaDoor
set_option linter.unusedVariables false
open Go Go.RowKit

/-- Four bytes that can be read. -/
def Four (w : World) (g : Nat) (r x b a : Nat) : Prop :=
  w.cell? ⟨g, 0, none⟩ = some (.int .u8 (r : Int)) ∧ w.cell? ⟨g, 1, none⟩ = some (.int .u8 (x : Int)) ∧ w.cell? ⟨g, 2, none⟩ = some (.int .u8 (b : Int)) ∧ w.cell? ⟨g, 3, none⟩ = some (.int .u8 (a : Int))

/-- What stands at place j when n places are done. -/
def upto (n j z : Nat) : Nat := if j < n then z else 0

theorem Four.below {w u : World} {n g r x b a : Nat} (h : Four w g r x b a) (hu : Below n w u) (hg : g < n) : Four u g r x b a :=
  ⟨(hu.cell hg).trans h.1, (hu.cell hg).trans h.2.1, (hu.cell hg).trans h.2.2.1, (hu.cell hg).trans h.2.2.2⟩

theorem Below.via {n : Nat} {u A B : World} (h1 : Below n u A) (h2 : Below n u B) (hs : A.heap.size ≤ B.heap.size) : Below n A B :=
  ⟨h2.os.trans h1.os.symm, h2.tape.trans h1.tape.symm, h2.output.trans h1.output.symm, hs, fun k hk => (h2.block k hk).trans (h1.block k hk).symm⟩

set_option maxHeartbeats 1000000 in
theorem c_each_any (k c : Nat) (f : Nat → Nat → Nat) (hf : ∀ x y, f x y ≤ 255) (r g b a r' g' b' a' : Nat) (w : World) (hr : r ≤ 255) (hg : g ≤ 255) (hb : b ≤ 255) (ha : a ≤ 255) (hr' : r' ≤ 255) (hg' : g' ≤ 255) (hb' : b' ≤ 255) (ha' : a' ≤ 255)
    (hcf : ∀ args u, (callFunc k args).run Tryd.prog u = .ok (.enter k args) u)
    (hdo : ∀ x y : Nat, x ≤ 255 → y ≤ 255 → ∀ u, Ext w u → Calls Tryd.prog k #[.int .u8 (x : Int), .int .u8 (y : Int), .pointer (some ⟨c, 0, none⟩)] u fun e u' => e = .returned (.int .u8 ((f x y : Nat) : Int)) ∧ u = u') :
    Calls Tryd.prog 46 #[col r g b a, col r' g' b' a', .func (.func k) #[] #[.pointer (some ⟨c, 0, none⟩)]] w fun e w' => e = .returned (col (f r r') (f g g') (f b b') (f a a')) ∧ Ext w w' := by
  have H := hidP hdo; clear hdo
  have HF := hidP hf; clear hf
  have HC := hidP hcf; clear hcf
  unfold col
  go_enter Tryd.func46, Tryd.ntmps46
  go_upto_region 1 with fail
  go_cut [7, 8] (fun v7 v8 wx => ∃ g7 g8, v7 = .pointer (some ⟨g7, 0, none⟩) ∧ v8 = .pointer (some ⟨g8, 0, none⟩) ∧ Four wx g7 r g b a ∧ Four wx g8 r' g' b' a' ∧ Ext w wx ∧ Four wx (w.heap.size + 1 + 1) 0 0 0 0 ∧ (∀ j, wx.frozen? ⟨w.heap.size + 1 + 1, j, none⟩ = false) ∧ w.heap.size + 3 ≤ wx.heap.size)
  case first =>
    obtain ⟨w0, hw0⟩ : ∃ w0 : World, w0 = ((w.alloc (.cells #[.int .u8 (r : Int), .int .u8 (g : Int), .int .u8 (b : Int), .int .u8 (a : Int)] 39)).alloc (.cells #[.int .u8 (r' : Int), .int .u8 (g' : Int), .int .u8 (b' : Int), .int .u8 (a' : Int)] 39)).alloc (.cells #[.int .u8 0, .int .u8 0, .int .u8 0, .int .u8 0] 39) := ⟨_, rfl⟩
    have hz0 : w0.heap.size = w.heap.size + 3 := by rw [hw0]; simp
    have hgd : w.heap.size + 1 < w0.heap.size := by omega
    have hC : Four w0 w.heap.size r g b a := by rw [hw0]; refine ⟨?_, ?_, ?_, ?_⟩ <;> (go_simp; try rfl)
    have hD : Four w0 (w.heap.size + 1) r' g' b' a' := by rw [hw0]; refine ⟨?_, ?_, ?_, ?_⟩ <;> (go_simp; try rfl)
    have hE : Ext w w0 := by rw [hw0]; exact (((Ext.refl _).alloc _).alloc _).alloc _
    have hO1 : Four w0 (w.heap.size + 1 + 1) 0 0 0 0 := by rw [hw0]; refine ⟨?_, ?_, ?_, ?_⟩ <;> (go_simp; try rfl)
    have hO2 : ∀ j, w0.frozen? ⟨w.heap.size + 1 + 1, j, none⟩ = false := by intro j; rw [hw0]; go_simp
    have hgd2 : w.heap.size + 1 + 1 < w0.heap.size := by omega
    rw [← hw0]
    clear hw0
    generalize w.heap.size + 1 = gd at *
    refine wp_region_plan (R := Below w0.heap.size) (.q 0 (.q 2 (.br 1 (.br 3 (.br 4 (.l 5 (.l 6 (.b 7 .done))) (.l 5 (.l 4 (.l 6 (.b 7 .done))))) (.br 4 (.br 3 (.l 5 (.l 6 (.b 7 .done))) (.l 5 (.l 3 (.l 6 (.b 7 .done))))) (.l 5 (.br 3 (.l 4 (.l 6 (.b 7 .done))) (.l 4 (.l 3 (.l 6 (.b 7 .done)))))))) (.br 4 (.br 1 (.br 3 (.l 5 (.l 6 (.b 7 .done))) (.l 5 (.l 3 (.l 6 (.b 7 .done))))) (.l 5 (.l 1 (.l 3 (.l 6 (.b 7 .done)))))) (.l 5 (.br 1 (.br 3 (.l 4 (.l 6 (.b 7 .done))) (.l 4 (.l 3 (.l 6 (.b 7 .done))))) (.l 4 (.l 1 (.l 3 (.l 6 (.b 7 .done))))))))))) (by kernel_rfl) (by kernel_rfl) (by kernel_rfl) (by kernel_rfl) (Below.refl _) (fun _ _ _ => Below.trans) ?_
    have hb0 : Below w0.heap.size w0 w0.drew := (Below.refl _ _).drew
    have hs1 := hb0.size
    have hC1 : Four w0.drew w.heap.size r g b a := hC.below hb0 (by omega)
    have hD1 : Four w0.drew gd r' g' b' a' := hD.below hb0 (by omega)
    generalize w0.drew = w1 at *
    refine wpE_q (v := .agg #[.int .u8 (r : Int), .int .u8 (g : Int), .int .u8 (b : Int), .int .u8 (a : Int)]) rfl rfl (fun u hu => ?_) ?_
    focus ((obtain ⟨f0, f1, f2, f3⟩ := hC1.below hu (by omega)); go_simp; (try rfl))
    simp only [Act.put, List.setIfInBounds_toArray, List.set_cons_zero, List.set_cons_succ]
    refine wpE_q (v := .agg #[.int .u8 (r' : Int), .int .u8 (g' : Int), .int .u8 (b' : Int), .int .u8 (a' : Int)]) rfl rfl (fun u hu => ?_) ?_
    focus ((obtain ⟨f0, f1, f2, f3⟩ := hD1.below hu (by omega)); go_simp; (try rfl))
    simp only [Act.put, List.setIfInBounds_toArray, List.set_cons_zero, List.set_cons_succ]
    repeat' (first
      | (refine wpE_br rfl rfl (fun K hK => ?_) ?_; (focus ((go_simp; (try (refine (c_of_any _ _ _ _ _).mono ?_; rintro e u ⟨rfl, rfl⟩)); (first | refine hK.out _ _ (Below.via (u := w1) (by (repeat (refine Below.alloc ?_ (by (try simp); omega) _)); exact Below.refl _ _) (by (repeat (refine Below.alloc ?_ (by (try simp); omega) _)); exact Below.refl _ _) (by (try simp); try omega)) ?_ | refine hK.out _ _ ?_); clear hK K; (try simp only [Act.put, List.setIfInBounds_toArray, List.set_cons_zero, List.set_cons_succ])))))
      | (refine wpE_l rfl rfl (fun K hK => ?_); (go_simp; (try (refine (c_of_any _ _ _ _ _).mono ?_; rintro e u ⟨rfl, rfl⟩)); (first | refine hK.out _ _ (Below.via (u := w1) (by (repeat (refine Below.alloc ?_ (by (try simp); omega) _)); exact Below.refl _ _) (by (repeat (refine Below.alloc ?_ (by (try simp); omega) _)); exact Below.refl _ _) (by (try simp); try omega)) ?_ | refine hK.out _ _ ?_); clear hK K; (try simp only [Act.put, List.setIfInBounds_toArray, List.set_cons_zero, List.set_cons_succ])))
      | (refine wpE_b rfl rfl (fun K hK => ?_); (go_simp; (try (refine (c_of_any _ _ _ _ _).mono ?_; rintro e u ⟨rfl, rfl⟩)); (first | refine hK.out _ _ (Below.via (u := w1) (by (repeat (refine Below.alloc ?_ (by (try simp); omega) _)); exact Below.refl _ _) (by (repeat (refine Below.alloc ?_ (by (try simp); omega) _)); exact Below.refl _ _) (by (try simp); try omega)) ?_ | refine hK.out _ _ ?_); clear hK K; (try simp only [Act.put, List.setIfInBounds_toArray, List.set_cons_zero, List.set_cons_succ])))
      | refine wpE_done ?_)
    all_goals go_wp2_with fail
    all_goals go_meet
    all_goals refine ⟨_, _, rfl, rfl, ⟨?_, ?_, ?_, ?_⟩, ⟨?_, ?_, ?_, ?_⟩, hE.trans (hb0.trans ?_), hO1.below (hb0.trans ?_) (by omega), fun j => ((hb0.trans ?_).frozen (by show gd + 1 < _; omega)).trans (hO2 j), by (try simp); omega⟩
    all_goals first | (repeat (refine Below.alloc ?_ (by (try simp); omega) _)); exact Below.refl _ _ | (go_simp; try rfl)
  case rest =>
    obtain ⟨g7, g8, rfl, rfl, hX, hY, hE, hO1, hO2, hsz⟩ := hcut
    go_wp2_with fail
    go_loopw [15] (fun i wr => ∃ n : Nat, n ≤ 4 ∧ i = .int .i64 (n : Int) ∧ Ext wc wr ∧ wc.heap.size < wr.heap.size ∧ Four wr wc.heap.size (upto n 0 (f r r')) (upto n 1 (f g g')) (upto n 2 (f b b')) (upto n 3 (f a a')) ∧ ∀ j, wr.frozen? ⟨wc.heap.size, j, none⟩ = false) (fun i _ => 4 - (intOf i).toNat)
    case atStart => exact ⟨0, by omega, rfl, (Ext.refl _).alloc _, by simp, by refine ⟨?_, ?_, ?_, ?_⟩ <;> (go_simp; try rfl), by intro j; go_simp⟩
    case round =>
      obtain ⟨n, hn, rfl, he, hs, hF, hz⟩ := hrel
      by_cases h4 : n < 4
      · obtain ⟨x0, x1, x2, x3⟩ : Four wr.drew g7 r g b a := ⟨he.drew.cell' hX.1, he.drew.cell' hX.2.1, he.drew.cell' hX.2.2.1, he.drew.cell' hX.2.2.2⟩
        obtain ⟨y0, y1, y2, y3⟩ : Four wr.drew g8 r' g' b' a' := ⟨he.drew.cell' hY.1, he.drew.cell' hY.2.1, he.drew.cell' hY.2.2.1, he.drew.cell' hY.2.2.2⟩
        have HE := he.drew
        have HH := hE.trans HE
        have hs' : wc.heap.size < wr.drew.heap.size := by simpa using hs
        have hF' : Four wr.drew wc.heap.size (upto n 0 (f r r')) (upto n 1 (f g g')) (upto n 2 (f b b')) (upto n 3 (f a a')) := by obtain ⟨k0, k1, k2, k3⟩ := hF; refine ⟨?_, ?_, ?_, ?_⟩ <;> (go_simp; try assumption)
        have hz' : ∀ j, wr.drew.frozen? ⟨wc.heap.size, j, none⟩ = false := by intro j; have hzj := hz j; go_simp
        clear hF hz hs he
        rcases (by omega : n = 0 ∨ n = 1 ∨ n = 2 ∨ n = 3) with rfl | rfl | rfl | rfl
        all_goals simp only [upto, Nat.reduceLT, if_true, if_false, Nat.lt_irrefl, Nat.zero_lt_succ, Nat.not_lt_zero] at hF'
        all_goals (
          go_wp2_with fail
          refine wp_region_plan (R := Ext) (.q 0 (.q 1 (.q 2 (.q 3 (.q 4 (.q 5 (.q 6 (.q 7 (.l 8 (.q 9 (.b 10 .done))))))))))) (by kernel_rfl) (by kernel_rfl) (by kernel_rfl) (by kernel_rfl) Ext.refl (fun _ _ _ => Ext.trans) ?_
          generalize wr.drew = W1 at *
          repeat (refine wpE_q (v := ?_) rfl rfl (fun u hu => ?_) ?_; rotate_left 1; (focus ((have a0 := hu.cell' x0; have a1 := hu.cell' x1; have a2 := hu.cell' x2; have a3 := hu.cell' x3; have b0 := hu.cell' y0; have b1 := hu.cell' y1; have b2 := hu.cell' y2; have b3 := hu.cell' y3); go_simp; (try rfl))); simp only [Act.put, List.setIfInBounds_toArray, List.set_cons_zero, List.set_cons_succ])
          refine wpE_l rfl rfl (fun K hK => ?_)
          go_simp
          rw [HC.out]
          refine (H.out _ _ ?_ ?_ _ (hE.trans HE)).mono ?_
          rotate_left 2
          rintro e u ⟨rfl, rfl⟩
          refine hK.out _ _ (Ext.refl _) ?_
          clear hK K
          try simp only [Act.put, List.setIfInBounds_toArray, List.set_cons_zero, List.set_cons_succ]
          refine wpE_q (v := ?_) rfl rfl (fun u hu => ?_) ?_
          rotate_left 1
          focus (go_simp; (try rfl))
          try simp only [Act.put, List.setIfInBounds_toArray, List.set_cons_zero, List.set_cons_succ]
          refine wpE_b rfl rfl (fun K hK => ?_)
          have zz := hz' 0
          have zz1 := hz' 1
          have zz2 := hz' 2
          have zz3 := hz' 3
          have HZ := hidP hz'
          have HFF := hidP hF'
          clear hz' hX hY hO1 hO2 hE HH x0 x1 x2 x3 y0 y1 y2 y3
          have k0 := hF'.1
          have k1 := hF'.2.1
          have k2 := hF'.2.2.1
          have k3 := hF'.2.2.2
          clear hF'
          go_simp
          refine hK.out _ _ ?_
          clear hK K
          try simp only [Act.put, List.setIfInBounds_toArray, List.set_cons_zero, List.set_cons_succ]
          refine wpE_done ?_
          go_wp2_with fail
          go_roundw
          case rel =>
            first | (refine ⟨1, by omega, rfl, HE.store (Nat.le_refl _) _, by simpa using hs', ⟨?_, ?_, ?_, ?_⟩, ?_⟩) | (refine ⟨2, by omega, rfl, HE.store (Nat.le_refl _) _, by simpa using hs', ⟨?_, ?_, ?_, ?_⟩, ?_⟩) | (refine ⟨3, by omega, rfl, HE.store (Nat.le_refl _) _, by simpa using hs', ⟨?_, ?_, ?_, ?_⟩, ?_⟩) | (refine ⟨4, by omega, rfl, HE.store (Nat.le_refl _) _, by simpa using hs', ⟨?_, ?_, ?_, ?_⟩, ?_⟩)
            all_goals first | (intro j; have hzj := HZ.out j; go_simp) | (go_simp; (try simp only [upto, Nat.reduceLT, if_true, if_false]); (try rfl))
          case measure => simp [intOf]
          all_goals omega)
      · obtain rfl : n = 4 := by omega
        obtain ⟨k0, k1, k2, k3⟩ : Four wr wc.heap.size (f r r') (f g g') (f b b') (f a a') := hF
        have o0 := fun j => he.frozen (p := ⟨w.heap.size + 1 + 1, j, none⟩) (by show w.heap.size + 1 + 1 < _; omega)
        simp only [hO2] at o0
        obtain ⟨z0, z1, z2, z3⟩ := hO1.below he (by omega)
        have l0 := HF.out r r'
        have l1 := HF.out g g'
        have l2 := HF.out b b'
        have l3 := HF.out a a'
        go_wp2_with fail
        refine (c_colour_any _ _ _ _ _).mono ?_
        rintro e u ⟨rfl, hu⟩
        have z0 := hu.cell' z0
        have z1 := hu.cell' z1
        have z2 := hu.cell' z2
        have z3 := hu.cell' z3
        have q0 := (hu.frozen (p := ⟨w.heap.size + 1 + 1, 0, none⟩) (by show w.heap.size + 1 + 1 < _; omega)).trans (o0 0)
        have q1 := (hu.frozen (p := ⟨w.heap.size + 1 + 1, 1, none⟩) (by show w.heap.size + 1 + 1 < _; omega)).trans (o0 1)
        have q2 := (hu.frozen (p := ⟨w.heap.size + 1 + 1, 2, none⟩) (by show w.heap.size + 1 + 1 < _; omega)).trans (o0 2)
        have q3 := (hu.frozen (p := ⟨w.heap.size + 1 + 1, 3, none⟩) (by show w.heap.size + 1 + 1 < _; omega)).trans (o0 3)
        have HH := (hE.trans he).trans hu
        clear o0 hO2 hz hX hY hO1 hE he hu k0 k1 k2 k3
        go_wp2_with fail
        refine bodyPost_cells rfl rfl Tryd.underlying39 rfl (by kernel_rfl) (four (by go_simp; try rfl) (by go_simp; try rfl) (by go_simp; try rfl) (by go_simp; try rfl)) rfl ⟨rfl, ?_⟩
        refine (((HH.store ?_ _).store ?_ _).store ?_ _).store ?_ _ <;> (show w.heap.size ≤ w.heap.size + 1 + 1; omega)

end Go.Proofs.YtbhjookpdmfdnaaDoor
