/- Colours, on the joined texts: mix, weigh, both ways. -/
import Derived.Test.YtmibjfkpchncgaaGreatM4
namespace Go.Proofs.YtmibjfkpchncgaaGreat
set_option linter.unusedVariables false
open Go Go.RowKit

/-- Four bytes that can be read. -/
def Four (w : World) (g : Nat) (r x b a : Nat) : Prop :=
  w.cell? ⟨g, 0, none⟩ = some (.int .u8 (r : Int)) ∧ w.cell? ⟨g, 1, none⟩ = some (.int .u8 (x : Int)) ∧ w.cell? ⟨g, 2, none⟩ = some (.int .u8 (b : Int)) ∧ w.cell? ⟨g, 3, none⟩ = some (.int .u8 (a : Int))

/-- What stands at place j when n places are done. -/
def upto (n j z : Nat) : Nat := if j < n then z else 0

theorem Four.below {w u : World} {n g r x b a : Nat} (h : Four w g r x b a) (hu : Below n w u) (hg : g < n) : Four u g r x b a :=
  ⟨(hu.cell hg).trans h.1, (hu.cell hg).trans h.2.1, (hu.cell hg).trans h.2.2.1, (hu.cell hg).trans h.2.2.2⟩

theorem Below.via {n : Nat} {u A B : World} (h1 : Below n u A) (h2 : Below n u B) (hs : A.heap.size ≤ B.heap.size) : Below n A B :=
  ⟨h2.os.trans h1.os.symm, h2.tape.trans h1.tape.symm, h2.output.trans h1.output.symm, hs, fun k hk => (h2.block k hk).trans (h1.block k hk).symm⟩

set_option maxHeartbeats 1000000 in
theorem c_each_any (k c : Nat) (f : Nat → Nat → Nat) (hf : ∀ x y, f x y ≤ 255) (r g b a r' g' b' a' : Nat) (w : World) (hr : r ≤ 255) (hg : g ≤ 255) (hb : b ≤ 255) (ha : a ≤ 255) (hr' : r' ≤ 255) (hg' : g' ≤ 255) (hb' : b' ≤ 255) (ha' : a' ≤ 255)
    (hcf : ∀ args u, (callFunc k args).run Tryz.prog u = .ok (.enter k args) u)
    (hdo : ∀ x y : Nat, x ≤ 255 → y ≤ 255 → ∀ u, Ext w u → Calls Tryz.prog k #[.int .u8 (x : Int), .int .u8 (y : Int), .pointer (some ⟨c, 0, none⟩)] u fun e u' => e = .returned (.int .u8 ((f x y : Nat) : Int)) ∧ u = u') :
    Calls Tryz.prog 36 #[col r g b a, col r' g' b' a', .func (.func k) #[] #[.pointer (some ⟨c, 0, none⟩)]] w fun e w' => e = .returned (col (f r r') (f g g') (f b b') (f a a')) ∧ Ext w w' := by
  have H := hidP hdo; clear hdo
  have HF := hidP hf; clear hf
  have HC := hidP hcf; clear hcf
  unfold col
  go_enter Tryz.func36, Tryz.ntmps36
  go_upto_region 1 with fail
  go_cut [7, 8] (fun v7 v8 wx => ∃ g7 g8, v7 = .pointer (some ⟨g7, 0, none⟩) ∧ v8 = .pointer (some ⟨g8, 0, none⟩) ∧ Four wx g7 r g b a ∧ Four wx g8 r' g' b' a' ∧ Ext w wx ∧ Four wx (w.heap.size + 1 + 1) 0 0 0 0 ∧ (∀ j, wx.frozen? ⟨w.heap.size + 1 + 1, j, none⟩ = false) ∧ w.heap.size + 3 ≤ wx.heap.size)
  case first =>
    obtain ⟨w0, hw0⟩ : ∃ w0 : World, w0 = ((w.alloc (.cells #[.int .u8 (r : Int), .int .u8 (g : Int), .int .u8 (b : Int), .int .u8 (a : Int)] 23)).alloc (.cells #[.int .u8 (r' : Int), .int .u8 (g' : Int), .int .u8 (b' : Int), .int .u8 (a' : Int)] 23)).alloc (.cells #[.int .u8 0, .int .u8 0, .int .u8 0, .int .u8 0] 23) := ⟨_, rfl⟩
    have hz0 : w0.heap.size = w.heap.size + 3 := by rw [hw0]; simp
    have hgd : w.heap.size + 1 < w0.heap.size := by omega
    have hC : Four w0 w.heap.size r g b a := by rw [hw0]; refine ⟨?_, ?_, ?_, ?_⟩ <;> (go_simp; try rfl)
    have hD : Four w0 (w.heap.size + 1) r' g' b' a' := by rw [hw0]; refine ⟨?_, ?_, ?_, ?_⟩ <;> (go_simp; try rfl)
    have hE : Ext w w0 := by rw [hw0]; exact (((Ext.refl _).alloc _).alloc _).alloc _
    have hO1 : Four w0 (w.heap.size + 1 + 1) 0 0 0 0 := by rw [hw0]; refine ⟨?_, ?_, ?_, ?_⟩ <;> (go_simp; try rfl)
    have hO2 : ∀ j, w0.frozen? ⟨w.heap.size + 1 + 1, j, none⟩ = false := by intro j; rw [hw0]; go_simp
    have hgd2 : w.heap.size + 1 + 1 < w0.heap.size := by omega
    rw [← hw0]
    clear hw0
    generalize w.heap.size + 1 = gd at *
    refine wp_region_plan (R := Below w0.heap.size) (.q 0 (.q 2 (.br 1 (.br 3 (.br 4 (.l 5 (.l 6 (.b 7 .done))) (.l 5 (.l 4 (.l 6 (.b 7 .done))))) (.br 4 (.br 3 (.l 5 (.l 6 (.b 7 .done))) (.l 5 (.l 3 (.l 6 (.b 7 .done))))) (.l 5 (.br 3 (.l 4 (.l 6 (.b 7 .done))) (.l 4 (.l 3 (.l 6 (.b 7 .done)))))))) (.br 4 (.br 1 (.br 3 (.l 5 (.l 6 (.b 7 .done))) (.l 5 (.l 3 (.l 6 (.b 7 .done))))) (.l 5 (.l 1 (.l 3 (.l 6 (.b 7 .done)))))) (.l 5 (.br 1 (.br 3 (.l 4 (.l 6 (.b 7 .done))) (.l 4 (.l 3 (.l 6 (.b 7 .done))))) (.l 4 (.l 1 (.l 3 (.l 6 (.b 7 .done))))))))))) (by kernel_rfl) (by kernel_rfl) (by kernel_rfl) (by kernel_rfl) (Below.refl _) (fun _ _ _ => Below.trans) ?_
    have hb0 : Below w0.heap.size w0 w0.drew := (Below.refl _ _).drew
    have hs1 := hb0.size
    have hC1 : Four w0.drew w.heap.size r g b a := hC.below hb0 (by omega)
    have hD1 : Four w0.drew gd r' g' b' a' := hD.below hb0 (by omega)
    generalize w0.drew = w1 at *
    refine wpE_q (v := .agg #[.int .u8 (r : Int), .int .u8 (g : Int), .int .u8 (b : Int), .int .u8 (a : Int)]) rfl rfl (fun u hu => ?_) ?_
    focus ((obtain ⟨f0, f1, f2, f3⟩ := hC1.below hu (by omega)); go_simp; (try rfl))
    simp only [Act.put, List.setIfInBounds_toArray, List.set_cons_zero, List.set_cons_succ]
    refine wpE_q (v := .agg #[.int .u8 (r' : Int), .int .u8 (g' : Int), .int .u8 (b' : Int), .int .u8 (a' : Int)]) rfl rfl (fun u hu => ?_) ?_
    focus ((obtain ⟨f0, f1, f2, f3⟩ := hD1.below hu (by omega)); go_simp; (try rfl))
    simp only [Act.put, List.setIfInBounds_toArray, List.set_cons_zero, List.set_cons_succ]
    repeat' (first
      | (refine wpE_br rfl rfl (fun K hK => ?_) ?_; (focus ((go_simp; (try (refine (c_of_any _ _ _ _ _).mono ?_; rintro e u ⟨rfl, rfl⟩)); (first | refine hK.out _ _ (Below.via (u := w1) (by (repeat (refine Below.alloc ?_ (by (try simp); omega) _)); exact Below.refl _ _) (by (repeat (refine Below.alloc ?_ (by (try simp); omega) _)); exact Below.refl _ _) (by (try simp); try omega)) ?_ | refine hK.out _ _ ?_); clear hK K; (try simp only [Act.put, List.setIfInBounds_toArray, List.set_cons_zero, List.set_cons_succ])))))
      | (refine wpE_l rfl rfl (fun K hK => ?_); (go_simp; (try (refine (c_of_any _ _ _ _ _).mono ?_; rintro e u ⟨rfl, rfl⟩)); (first | refine hK.out _ _ (Below.via (u := w1) (by (repeat (refine Below.alloc ?_ (by (try simp); omega) _)); exact Below.refl _ _) (by (repeat (refine Below.alloc ?_ (by (try simp); omega) _)); exact Below.refl _ _) (by (try simp); try omega)) ?_ | refine hK.out _ _ ?_); clear hK K; (try simp only [Act.put, List.setIfInBounds_toArray, List.set_cons_zero, List.set_cons_succ])))
      | (refine wpE_b rfl rfl (fun K hK => ?_); (go_simp; (try (refine (c_of_any _ _ _ _ _).mono ?_; rintro e u ⟨rfl, rfl⟩)); (first | refine hK.out _ _ (Below.via (u := w1) (by (repeat (refine Below.alloc ?_ (by (try simp); omega) _)); exact Below.refl _ _) (by (repeat (refine Below.alloc ?_ (by (try simp); omega) _)); exact Below.refl _ _) (by (try simp); try omega)) ?_ | refine hK.out _ _ ?_); clear hK K; (try simp only [Act.put, List.setIfInBounds_toArray, List.set_cons_zero, List.set_cons_succ])))
      | refine wpE_done ?_)
    all_goals go_wp2_with fail
    all_goals go_meet
    all_goals refine ⟨_, _, rfl, rfl, ⟨?_, ?_, ?_, ?_⟩, ⟨?_, ?_, ?_, ?_⟩, hE.trans (hb0.trans ?_), hO1.below (hb0.trans ?_) (by omega), fun j => ((hb0.trans ?_).frozen (by show gd + 1 < _; omega)).trans (hO2 j), by (try simp); omega⟩
    all_goals first | (repeat (refine Below.alloc ?_ (by (try simp); omega) _)); exact Below.refl _ _ | (go_simp; try rfl)
  case rest =>
    obtain ⟨g7, g8, rfl, rfl, hX, hY, hE, hO1, hO2, hsz⟩ := hcut
    go_wp2_with fail
    go_loopw [15] (fun i wr => ∃ n : Nat, n ≤ 4 ∧ i = .int .i64 (n : Int) ∧ Ext wc wr ∧ wc.heap.size < wr.heap.size ∧ Four wr wc.heap.size (upto n 0 (f r r')) (upto n 1 (f g g')) (upto n 2 (f b b')) (upto n 3 (f a a')) ∧ ∀ j, wr.frozen? ⟨wc.heap.size, j, none⟩ = false) (fun i _ => 4 - (intOf i).toNat)
    case atStart => exact ⟨0, by omega, rfl, (Ext.refl _).alloc _, by simp, by refine ⟨?_, ?_, ?_, ?_⟩ <;> (go_simp; try rfl), by intro j; go_simp⟩
    case round =>
      obtain ⟨n, hn, rfl, he, hs, hF, hz⟩ := hrel
      by_cases h4 : n < 4
      · obtain ⟨x0, x1, x2, x3⟩ : Four wr.drew g7 r g b a := ⟨he.drew.cell' hX.1, he.drew.cell' hX.2.1, he.drew.cell' hX.2.2.1, he.drew.cell' hX.2.2.2⟩
        obtain ⟨y0, y1, y2, y3⟩ : Four wr.drew g8 r' g' b' a' := ⟨he.drew.cell' hY.1, he.drew.cell' hY.2.1, he.drew.cell' hY.2.2.1, he.drew.cell' hY.2.2.2⟩
        have HE := he.drew
        have HH := hE.trans HE
        have hs' : wc.heap.size < wr.drew.heap.size := by simpa using hs
        have hF' : Four wr.drew wc.heap.size (upto n 0 (f r r')) (upto n 1 (f g g')) (upto n 2 (f b b')) (upto n 3 (f a a')) := by obtain ⟨k0, k1, k2, k3⟩ := hF; refine ⟨?_, ?_, ?_, ?_⟩ <;> (go_simp; try assumption)
        have hz' : ∀ j, wr.drew.frozen? ⟨wc.heap.size, j, none⟩ = false := by intro j; have hzj := hz j; go_simp
        clear hF hz hs he
        rcases (by omega : n = 0 ∨ n = 1 ∨ n = 2 ∨ n = 3) with rfl | rfl | rfl | rfl
        all_goals simp only [upto, Nat.reduceLT, if_true, if_false, Nat.lt_irrefl, Nat.zero_lt_succ, Nat.not_lt_zero] at hF'
        all_goals (
          go_wp2_with fail
          refine wp_region_plan (R := Ext) (.q 0 (.q 1 (.q 2 (.q 3 (.q 4 (.q 5 (.q 6 (.q 7 (.l 8 (.q 9 (.b 10 .done))))))))))) (by kernel_rfl) (by kernel_rfl) (by kernel_rfl) (by kernel_rfl) Ext.refl (fun _ _ _ => Ext.trans) ?_
          generalize wr.drew = W1 at *
          repeat (refine wpE_q (v := ?_) rfl rfl (fun u hu => ?_) ?_; rotate_left 1; (focus ((have a0 := hu.cell' x0; have a1 := hu.cell' x1; have a2 := hu.cell' x2; have a3 := hu.cell' x3; have b0 := hu.cell' y0; have b1 := hu.cell' y1; have b2 := hu.cell' y2; have b3 := hu.cell' y3); go_simp; (try rfl))); simp only [Act.put, List.setIfInBounds_toArray, List.set_cons_zero, List.set_cons_succ])
          refine wpE_l rfl rfl (fun K hK => ?_)
          go_simp
          rw [HC.out]
          refine (H.out _ _ ?_ ?_ _ (hE.trans HE)).mono ?_
          rotate_left 2
          rintro e u ⟨rfl, rfl⟩
          refine hK.out _ _ (Ext.refl _) ?_
          clear hK K
          try simp only [Act.put, List.setIfInBounds_toArray, List.set_cons_zero, List.set_cons_succ]
          refine wpE_q (v := ?_) rfl rfl (fun u hu => ?_) ?_
          rotate_left 1
          focus (go_simp; (try rfl))
          try simp only [Act.put, List.setIfInBounds_toArray, List.set_cons_zero, List.set_cons_succ]
          refine wpE_b rfl rfl (fun K hK => ?_)
          have zz := hz' 0
          have zz1 := hz' 1
          have zz2 := hz' 2
          have zz3 := hz' 3
          have HZ := hidP hz'
          have HFF := hidP hF'
          clear hz' hX hY hO1 hO2 hE HH x0 x1 x2 x3 y0 y1 y2 y3
          have k0 := hF'.1
          have k1 := hF'.2.1
          have k2 := hF'.2.2.1
          have k3 := hF'.2.2.2
          clear hF'
          go_simp
          refine hK.out _ _ ?_
          clear hK K
          try simp only [Act.put, List.setIfInBounds_toArray, List.set_cons_zero, List.set_cons_succ]
          refine wpE_done ?_
          go_wp2_with fail
          go_roundw
          case rel =>
            first | (refine ⟨1, by omega, rfl, HE.store (Nat.le_refl _) _, by simpa using hs', ⟨?_, ?_, ?_, ?_⟩, ?_⟩) | (refine ⟨2, by omega, rfl, HE.store (Nat.le_refl _) _, by simpa using hs', ⟨?_, ?_, ?_, ?_⟩, ?_⟩) | (refine ⟨3, by omega, rfl, HE.store (Nat.le_refl _) _, by simpa using hs', ⟨?_, ?_, ?_, ?_⟩, ?_⟩) | (refine ⟨4, by omega, rfl, HE.store (Nat.le_refl _) _, by simpa using hs', ⟨?_, ?_, ?_, ?_⟩, ?_⟩)
            all_goals first | (intro j; have hzj := HZ.out j; go_simp) | (go_simp; (try simp only [upto, Nat.reduceLT, if_true, if_false]); (try rfl))
          case measure => simp [intOf]
          all_goals omega)
      · obtain rfl : n = 4 := by omega
        obtain ⟨k0, k1, k2, k3⟩ : Four wr wc.heap.size (f r r') (f g g') (f b b') (f a a') := hF
        have o0 := fun j => he.frozen (p := ⟨w.heap.size + 1 + 1, j, none⟩) (by show w.heap.size + 1 + 1 < _; omega)
        simp only [hO2] at o0
        obtain ⟨z0, z1, z2, z3⟩ := hO1.below he (by omega)
        have l0 := HF.out r r'
        have l1 := HF.out g g'
        have l2 := HF.out b b'
        have l3 := HF.out a a'
        go_wp2_with fail
        refine (c_colour_any _ _ _ _ _).mono ?_
        rintro e u ⟨rfl, hu⟩
        have z0 := hu.cell' z0
        have z1 := hu.cell' z1
        have z2 := hu.cell' z2
        have z3 := hu.cell' z3
        have q0 := (hu.frozen (p := ⟨w.heap.size + 1 + 1, 0, none⟩) (by show w.heap.size + 1 + 1 < _; omega)).trans (o0 0)
        have q1 := (hu.frozen (p := ⟨w.heap.size + 1 + 1, 1, none⟩) (by show w.heap.size + 1 + 1 < _; omega)).trans (o0 1)
        have q2 := (hu.frozen (p := ⟨w.heap.size + 1 + 1, 2, none⟩) (by show w.heap.size + 1 + 1 < _; omega)).trans (o0 2)
        have q3 := (hu.frozen (p := ⟨w.heap.size + 1 + 1, 3, none⟩) (by show w.heap.size + 1 + 1 < _; omega)).trans (o0 3)
        have HH := (hE.trans he).trans hu
        clear o0 hO2 hz hX hY hO1 hE he hu k0 k1 k2 k3
        go_wp2_with fail
        refine bodyPost_cells rfl rfl Tryz.underlying23 rfl (by kernel_rfl) (four (by go_simp; try rfl) (by go_simp; try rfl) (by go_simp; try rfl) (by go_simp; try rfl)) rfl ⟨rfl, ?_⟩
        refine (((HH.store ?_ _).store ?_ _).store ?_ _).store ?_ _ <;> (show w.heap.size ≤ w.heap.size + 1 + 1; omega)

end Go.Proofs.YtmibjfkpchncgaaGreat

namespace Go.Proofs.YtmibjfkpchncgaaGreat
set_option linter.unusedVariables false
open Go Go.RowKit

/-- A number by 255, to the nearest. -/
def part (n : Int) : Nat := if n ≤ 0 then 0 else if 65025 ≤ n then 255 else ((n + 127) / 255).toNat
theorem part_le (n : Int) : part n ≤ 255 := by
  unfold part; split
  · omega
  · split <;> omega

theorem c_part_any (n : Int) (w : World) (h1 : -9223372036854775808 ≤ n) (h2 : n ≤ 9223372036854775807) :
    Calls Tryz.prog 38 #[.int .i64 n] w fun e w' => e = .returned (.int .u8 (part n : Int)) ∧ w = w' := by
  by_cases h0 : n ≤ 0
  · have hp : part n = 0 := by simp [part, h0]
    rw [hp]; clear hp
    go_enter Tryz.func38, Tryz.ntmps38
    go_wp2
    go_ret
    exact ⟨rfl, rfl⟩
  · by_cases h3 : 65025 ≤ n
    · have hp : part n = 255 := by simp [part, h0, h3]
      rw [hp]; clear hp
      go_enter Tryz.func38, Tryz.ntmps38
      go_wp2
      go_ret
      exact ⟨rfl, rfl⟩
    · obtain ⟨q, hq⟩ : ∃ q, (n + 127) / 255 = q := ⟨_, rfl⟩
      have hp : (part n : Int) = q := by rw [← hq]; simp only [part, if_neg h0, if_neg h3]; omega
      rw [hp]; clear hp
      have hq1 : 0 ≤ q := by omega
      have hq2 : q ≤ 255 := by omega
      go_enter Tryz.func38, Tryz.ntmps38
      go_wp2
      go_ret
      exact ⟨rfl, rfl⟩

theorem part_up (n : Int) (h : 0 ≤ n) (h' : n ≤ 65025) (hu : 255 < 2 * (n - 255 * (n / 255))) : n / 255 + 1 = (part n : Int) := by
  unfold part
  split
  · omega
  · split <;> omega
theorem part_down (n : Int) (h : 0 ≤ n) (h' : n ≤ 65025) (hu : 2 * (n - 255 * (n / 255)) ≤ 255) : n / 255 = (part n : Int) := by
  unfold part
  split
  · omega
  · split <;> omega

theorem r08_part_any (n : Int) (w : World) (h1 : -9223372036854775808 ≤ n) (h2 : n ≤ 9223372036854775807) :
    Calls Tryz.prog 68 #[.int .i64 n] w fun e w' => e = .returned (.int .u8 (part n : Int)) ∧ w = w' := by
  by_cases h0 : n < 0
  · have hp : part n = 0 := by simp only [part, if_pos (show n ≤ 0 by omega)]
    rw [hp]; clear hp
    go_enter Tryz.func68, Tryz.ntmps68
    go_wp2
    go_ret
    exact ⟨rfl, rfl⟩
  · by_cases h3 : 65025 < n
    · have hp : part n = 255 := by simp only [part, if_neg (show ¬ n ≤ 0 by omega), if_pos (show 65025 ≤ n by omega)]
      rw [hp]; clear hp
      go_enter Tryz.func68, Tryz.ntmps68
      go_wp2
      go_ret
      exact ⟨rfl, rfl⟩
    · go_enter Tryz.func68, Tryz.ntmps68
      go_wp2
      all_goals go_ret
      all_goals refine ⟨ret_int ?_, rfl⟩
      all_goals first | exact part_up n (by omega) (by omega) (by omega) | exact part_down n (by omega) (by omega) (by omega)

theorem prod_le {a b : Nat} (ha : a ≤ 255) (hb : b ≤ 255) : a * b ≤ 65025 := Nat.mul_le_mul ha hb

theorem prod_int {a b : Nat} (ha : a ≤ 255) (hb : b ≤ 255) : (a : Int) * (b : Int) ≤ 65025 ∧ 0 ≤ (a : Int) * (b : Int) := by
  rw [← Int.natCast_mul]
  have := prod_le ha hb
  omega

theorem c_times_any (a b : Nat) (w : World) (ha : a ≤ 255) (hb : b ≤ 255) :
    Calls Tryz.prog 65 #[.int .u8 (a : Int), .int .u8 (b : Int)] w fun e w' => e = .returned (.int .u8 (part ((a : Int) * (b : Int)) : Int)) ∧ w = w' := by
  obtain ⟨hp, hp0⟩ := prod_int ha hb
  go_enter Tryz.func65, Tryz.ntmps65
  go_wp2_with fail
  refine (c_part_any _ _ (by omega) (by omega)).mono ?_
  rintro e u ⟨rfl, rfl⟩
  go_wp2
  go_ret
  exact ⟨rfl, rfl⟩

theorem r08_times_any (a b : Nat) (w : World) (ha : a ≤ 255) (hb : b ≤ 255) :
    Calls Tryz.prog 39 #[.int .u8 (a : Int), .int .u8 (b : Int)] w fun e w' => e = .returned (.int .u8 (part ((a : Int) * (b : Int)) : Int)) ∧ w = w' := by
  obtain ⟨hp, hp0⟩ := prod_int ha hb
  go_enter Tryz.func39, Tryz.ntmps39
  go_wp2_with fail
  refine (r08_part_any _ _ (by omega) (by omega)).mono ?_
  rintro e u ⟨rfl, rfl⟩
  go_wp2
  go_ret
  exact ⟨rfl, rfl⟩


/-- One part over another one, where rest shines through. -/
def covr (rest a b : Nat) : Nat := min (a + part ((b : Int) * (rest : Int))) 255
def fadr (n a b : Nat) : Nat := part ((a : Int) * (n : Int))
def mixr (n a b : Nat) : Nat := part ((a : Int) * (255 - (n : Int)) + (b : Int) * (n : Int))
theorem covr_le (n a b : Nat) : covr n a b ≤ 255 := Nat.min_le_right _ _
theorem fadr_le (n a b : Nat) : fadr n a b ≤ 255 := part_le _
theorem mixr_le (n a b : Nat) : mixr n a b ≤ 255 := part_le _

theorem c_fade1_any (n g a b : Nat) (w : World) (ha : a ≤ 255) (hb : b ≤ 255) (hn : n ≤ 255) (hc : w.cell? ⟨g, 0, none⟩ = some (.int .u8 (n : Int))) :
    Calls Tryz.prog 64 #[.int .u8 (a : Int), .int .u8 (b : Int), .pointer (some ⟨g, 0, none⟩)] w fun e w' => e = .returned (.int .u8 ((fadr n a b : Nat) : Int)) ∧ w = w' := by
  go_enter Tryz.func64, Tryz.ntmps64
  go_wp2_with fail
  refine (c_times_any _ _ _ ha hn).mono ?_
  rintro e u ⟨rfl, rfl⟩
  go_wp2
  go_ret
  exact ⟨rfl, rfl⟩

theorem c_mix1_any (n g a b : Nat) (w : World) (ha : a ≤ 255) (hb : b ≤ 255) (hn : n ≤ 255) (hc : w.cell? ⟨g, 0, none⟩ = some (.int .u8 (n : Int))) :
    Calls Tryz.prog 37 #[.int .u8 (a : Int), .int .u8 (b : Int), .pointer (some ⟨g, 0, none⟩)] w fun e w' => e = .returned (.int .u8 ((mixr n a b : Nat) : Int)) ∧ w = w' := by
  obtain ⟨hp, hp0⟩ := prod_int hb hn
  obtain ⟨hq, hq0⟩ : (a : Int) * (255 - (n : Int)) ≤ 65025 ∧ 0 ≤ (a : Int) * (255 - (n : Int)) := by
    have := prod_int (a := a) (b := 255 - n) ha (by omega)
    rwa [show ((255 - n : Nat) : Int) = 255 - (n : Int) by omega] at this
  go_enter Tryz.func37, Tryz.ntmps37
  go_wp2_with fail
  refine (c_part_any _ _ (by omega) (by omega)).mono ?_
  rintro e u ⟨rfl, rfl⟩
  go_wp2
  go_ret
  exact ⟨rfl, rfl⟩

theorem r08_mix1_any (n a b : Nat) (w : World) (ha : a ≤ 255) (hb : b ≤ 255) (hn : n ≤ 255) :
    Calls Tryz.prog 40 #[.int .u8 (a : Int), .int .u8 (b : Int), .int .u8 (n : Int)] w fun e w' => e = .returned (.int .u8 ((mixr n a b : Nat) : Int)) ∧ w = w' := by
  obtain ⟨hp, hp0⟩ := prod_int hb hn
  obtain ⟨hq, hq0⟩ : (a : Int) * (255 - (n : Int)) ≤ 65025 ∧ 0 ≤ (a : Int) * (255 - (n : Int)) := by
    have := prod_int (a := a) (b := 255 - n) ha (by omega)
    rwa [show ((255 - n : Nat) : Int) = 255 - (n : Int) by omega] at this
  go_enter Tryz.func40, Tryz.ntmps40
  go_wp2_with fail
  refine (r08_part_any _ _ (by omega) (by omega)).mono ?_
  rintro e u ⟨rfl, rfl⟩
  go_wp2
  go_ret
  exact ⟨rfl, rfl⟩

end Go.Proofs.YtmibjfkpchncgaaGreat

namespace Go.Proofs.YtmibjfkpchncgaaGreat
set_option linter.unusedVariables false
open Go Go.RowKit

/-- A byte colour, part by part. -/
structure Col8 (r g b a : Nat) : Prop where
  r : r ≤ 255
  g : g ≤ 255
  b : b ≤ 255
  a : a ≤ 255

theorem callFunc_enters {P : Program} {F : FuncId} {fn : Func} (hf : P.funcs[F]? = some fn) (hn : (fn.name == "runtime.NumGoroutine") = false) (hb : fn.body.isNone = false) (args : Array Value) (u : World) :
    (callFunc F args).run P u = .ok (.enter F args) u := by
  have hn' : ¬ fn.name = "runtime.NumGoroutine" := by simpa using hn
  have hb' : ¬ fn.body = none := fun h => by rw [h] at hb; cases hb
  simp [callFunc, Sem.run_bind, hf, hn', hb']

theorem c_each (k c : Nat) (f : Nat → Nat → Nat) (hf : ∀ x y, f x y ≤ 255) {r g b a r' g' b' a' : Nat} (w : World) (h : Col8 r g b a) (h' : Col8 r' g' b' a') (hcf : ∀ args u, (callFunc k args).run Tryz.prog u = .ok (.enter k args) u)
    (hdo : ∀ x y : Nat, x ≤ 255 → y ≤ 255 → ∀ u, Ext w u → Calls Tryz.prog k #[.int .u8 (x : Int), .int .u8 (y : Int), .pointer (some ⟨c, 0, none⟩)] u fun e u' => e = .returned (.int .u8 ((f x y : Nat) : Int)) ∧ u = u') :
    Calls Tryz.prog 36 #[(.agg #[.int .u8 (r : Int), .int .u8 (g : Int), .int .u8 (b : Int), .int .u8 (a : Int)]), (.agg #[.int .u8 (r' : Int), .int .u8 (g' : Int), .int .u8 (b' : Int), .int .u8 (a' : Int)]), .func (.func k) #[] #[.pointer (some ⟨c, 0, none⟩)]] w fun e w' => e = .returned (.agg #[.int .u8 ((f r r' : Nat) : Int), .int .u8 ((f g g' : Nat) : Int), .int .u8 ((f b b' : Nat) : Int), .int .u8 ((f a a' : Nat) : Int)]) ∧ Ext w w' :=
  c_each_any k c f hf r g b a r' g' b' a' w h.r h.g h.b h.a h'.r h'.g h'.b h'.a hcf hdo

set_option maxHeartbeats 1000000 in
theorem c_fade_any (n r g b a : Nat) (w : World) (h : Col8 r g b a) (hn : n ≤ 255) :
    Calls Tryz.prog 35 #[.agg #[.int .u8 (r : Int), .int .u8 (g : Int), .int .u8 (b : Int), .int .u8 (a : Int)], .int .u8 (n : Int)] w fun e w' => e = .returned (.agg #[.int .u8 ((fadr n r r : Nat) : Int), .int .u8 ((fadr n g g : Nat) : Int), .int .u8 ((fadr n b b : Nat) : Int), .int .u8 ((fadr n a a : Nat) : Int)]) ∧ Ext w w' := by
  go_enter Tryz.func35, Tryz.ntmps35
  have hmf : ∀ (fn : Fn) (first cap : Array Value) (w : World), (Instr.makeFunc fn first cap).run Tryz.prog w = .ok (.func fn first cap) w := fun _ _ _ _ => rfl
  go_wp2_with fail
  refine (c_each 64 (w.heap.size + 1) (fadr n) (fadr_le _) _ h h (callFunc_enters Tryz.func64 (by kernel_rfl) (by kernel_rfl)) (fun x y hx hy u hu => c_fade1_any _ _ x y u hx hy hn (hu.cell' (by go_simp; try rfl)))).mono ?_
  rintro e u ⟨rfl, hu⟩
  have z0 := hu.cell' (p := ⟨w.heap.size + 1 + 1, 0, none⟩) (v := .int .u8 0) (by go_simp; try rfl)
  have q0 : u.frozen? ⟨w.heap.size + 1 + 1, 0, none⟩ = false := (hu.frozen (p := ⟨w.heap.size + 1 + 1, 0, none⟩) (by simp)).trans (by go_simp)
  have z1 := hu.cell' (p := ⟨w.heap.size + 1 + 1, 1, none⟩) (v := .int .u8 0) (by go_simp; try rfl)
  have q1 : u.frozen? ⟨w.heap.size + 1 + 1, 1, none⟩ = false := (hu.frozen (p := ⟨w.heap.size + 1 + 1, 1, none⟩) (by simp)).trans (by go_simp)
  have z2 := hu.cell' (p := ⟨w.heap.size + 1 + 1, 2, none⟩) (v := .int .u8 0) (by go_simp; try rfl)
  have q2 : u.frozen? ⟨w.heap.size + 1 + 1, 2, none⟩ = false := (hu.frozen (p := ⟨w.heap.size + 1 + 1, 2, none⟩) (by simp)).trans (by go_simp)
  have z3 := hu.cell' (p := ⟨w.heap.size + 1 + 1, 3, none⟩) (v := .int .u8 0) (by go_simp; try rfl)
  have q3 : u.frozen? ⟨w.heap.size + 1 + 1, 3, none⟩ = false := (hu.frozen (p := ⟨w.heap.size + 1 + 1, 3, none⟩) (by simp)).trans (by go_simp)
  have HE : Ext w u := Ext.trans (by repeat (refine Ext.alloc ?_ _)
                                     exact Ext.refl _) hu
  clear hu
  go_wp2_with fail
  refine bodyPost_cells rfl rfl Tryz.underlying23 rfl (by kernel_rfl) (four (by go_simp; try rfl) (by go_simp; try rfl) (by go_simp; try rfl) (by go_simp; try rfl)) rfl ⟨rfl, ?_⟩
  refine (((HE.store ?_ _).store ?_ _).store ?_ _).store ?_ _ <;> (show w.heap.size ≤ w.heap.size + 1 + 1; omega)

set_option maxHeartbeats 1000000 in
theorem c_mix_any (n r g b a r' g' b' a' : Nat) (w : World) (h : Col8 r g b a) (h' : Col8 r' g' b' a') (hn : n ≤ 255) :
    Calls Tryz.prog 17 #[.agg #[.int .u8 (r : Int), .int .u8 (g : Int), .int .u8 (b : Int), .int .u8 (a : Int)], .agg #[.int .u8 (r' : Int), .int .u8 (g' : Int), .int .u8 (b' : Int), .int .u8 (a' : Int)], .int .u8 (n : Int)] w fun e w' => e = .returned (.agg #[.int .u8 ((mixr n r r' : Nat) : Int), .int .u8 ((mixr n g g' : Nat) : Int), .int .u8 ((mixr n b b' : Nat) : Int), .int .u8 ((mixr n a a' : Nat) : Int)]) ∧ Ext w w' := by
  go_enter Tryz.func17, Tryz.ntmps17
  have hmf : ∀ (fn : Fn) (first cap : Array Value) (w : World), (Instr.makeFunc fn first cap).run Tryz.prog w = .ok (.func fn first cap) w := fun _ _ _ _ => rfl
  go_wp2_with fail
  refine (c_each 37 (w.heap.size + 1 + 1) (mixr n) (mixr_le _) _ h h' (callFunc_enters Tryz.func37 (by kernel_rfl) (by kernel_rfl)) (fun x y hx hy u hu => c_mix1_any _ _ x y u hx hy hn (hu.cell' (by go_simp; try rfl)))).mono ?_
  rintro e u ⟨rfl, hu⟩
  have z0 := hu.cell' (p := ⟨w.heap.size + 1 + 1 + 1, 0, none⟩) (v := .int .u8 0) (by go_simp; try rfl)
  have q0 : u.frozen? ⟨w.heap.size + 1 + 1 + 1, 0, none⟩ = false := (hu.frozen (p := ⟨w.heap.size + 1 + 1 + 1, 0, none⟩) (by simp)).trans (by go_simp)
  have z1 := hu.cell' (p := ⟨w.heap.size + 1 + 1 + 1, 1, none⟩) (v := .int .u8 0) (by go_simp; try rfl)
  have q1 : u.frozen? ⟨w.heap.size + 1 + 1 + 1, 1, none⟩ = false := (hu.frozen (p := ⟨w.heap.size + 1 + 1 + 1, 1, none⟩) (by simp)).trans (by go_simp)
  have z2 := hu.cell' (p := ⟨w.heap.size + 1 + 1 + 1, 2, none⟩) (v := .int .u8 0) (by go_simp; try rfl)
  have q2 : u.frozen? ⟨w.heap.size + 1 + 1 + 1, 2, none⟩ = false := (hu.frozen (p := ⟨w.heap.size + 1 + 1 + 1, 2, none⟩) (by simp)).trans (by go_simp)
  have z3 := hu.cell' (p := ⟨w.heap.size + 1 + 1 + 1, 3, none⟩) (v := .int .u8 0) (by go_simp; try rfl)
  have q3 : u.frozen? ⟨w.heap.size + 1 + 1 + 1, 3, none⟩ = false := (hu.frozen (p := ⟨w.heap.size + 1 + 1 + 1, 3, none⟩) (by simp)).trans (by go_simp)
  have HE : Ext w u := Ext.trans (by repeat (refine Ext.alloc ?_ _)
                                     exact Ext.refl _) hu
  clear hu
  go_wp2_with fail
  refine bodyPost_cells rfl rfl Tryz.underlying23 rfl (by kernel_rfl) (four (by go_simp; try rfl) (by go_simp; try rfl) (by go_simp; try rfl) (by go_simp; try rfl)) rfl ⟨rfl, ?_⟩
  refine (((HE.store ?_ _).store ?_ _).store ?_ _).store ?_ _ <;> (show w.heap.size ≤ w.heap.size + 1 + 1 + 1; omega)


end Go.Proofs.YtmibjfkpchncgaaGreat

namespace Go.Proofs.YtmibjfkpchncgaaGreat
set_option linter.unusedVariables false
open Go Go.RowKit

set_option maxHeartbeats 1000000 in
theorem r08_weigh_any (r g b a : Nat) (w : World) (h : Col8 r g b a) :
    Calls Tryz.prog 18 #[.agg #[.int .u8 (r : Int), .int .u8 (g : Int), .int .u8 (b : Int), .int .u8 (a : Int)]] w fun e w' => e = .returned (.agg #[.int .u8 ((fadr a r r : Nat) : Int), .int .u8 ((fadr a g g : Nat) : Int), .int .u8 ((fadr a b b : Nat) : Int), .int .u8 (a : Int)]) ∧ Ext w w' := by
  obtain ⟨hr, hg, hb, ha⟩ := h
  go_enter Tryz.func18, Tryz.ntmps18
  go_wp2_with fail
  obtain ⟨w0, hw0⟩ : ∃ w0 : World, w0 = World.drew (World.alloc (World.alloc w (.cells #[.int .u8 (r : Int), .int .u8 (g : Int), .int .u8 (b : Int), .int .u8 (a : Int)] 23)) (.cells #[.int .u8 0, .int .u8 0, .int .u8 0, .int .u8 0] 23)) := ⟨_, rfl⟩
  have c00 : w0.cell? ⟨w.heap.size, 0, none⟩ = some (.int .u8 (r : Int)) := by rw [hw0]; go_simp; try rfl
  have c01 : w0.cell? ⟨w.heap.size, 1, none⟩ = some (.int .u8 (g : Int)) := by rw [hw0]; go_simp; try rfl
  have c02 : w0.cell? ⟨w.heap.size, 2, none⟩ = some (.int .u8 (b : Int)) := by rw [hw0]; go_simp; try rfl
  have c03 : w0.cell? ⟨w.heap.size, 3, none⟩ = some (.int .u8 (a : Int)) := by rw [hw0]; go_simp; try rfl
  have z0 : w0.cell? ⟨w.heap.size + 1, 0, none⟩ = some (.int .u8 0) := by rw [hw0]; go_simp; try rfl
  have f0 : w0.frozen? ⟨w.heap.size + 1, 0, none⟩ = false := by rw [hw0]; go_simp
  have z1 : w0.cell? ⟨w.heap.size + 1, 1, none⟩ = some (.int .u8 0) := by rw [hw0]; go_simp; try rfl
  have f1 : w0.frozen? ⟨w.heap.size + 1, 1, none⟩ = false := by rw [hw0]; go_simp
  have z2 : w0.cell? ⟨w.heap.size + 1, 2, none⟩ = some (.int .u8 0) := by rw [hw0]; go_simp; try rfl
  have f2 : w0.frozen? ⟨w.heap.size + 1, 2, none⟩ = false := by rw [hw0]; go_simp
  have z3 : w0.cell? ⟨w.heap.size + 1, 3, none⟩ = some (.int .u8 0) := by rw [hw0]; go_simp; try rfl
  have f3 : w0.frozen? ⟨w.heap.size + 1, 3, none⟩ = false := by rw [hw0]; go_simp
  have HE : Ext w w0 := by
    rw [hw0]
    refine Ext.drew ?_
    repeat (refine Ext.alloc ?_ _)
    exact Ext.refl _
  refine wp_region_plan (R := Ext) (.q 0 (.q 1 (.q 2 (.q 3 (.q 5 (.q 6 (.q 7 (.q 8 (.q 10 (.q 11 (.q 12 (.q 13 (.q 15 (.q 16 (.l 4 (.l 9 (.l 14 (.q 17 (.b 18 .done))))))))))))))))))) (by kernel_rfl) (by kernel_rfl) (by kernel_rfl) (by kernel_rfl) Ext.refl (fun _ _ _ => Ext.trans) ?_
  rw [← hw0]
  clear hw0
  repeat (refine wpE_q (v := ?_) rfl rfl (fun u hu => ?_) ?_; rotate_left 1; (focus ((have d00 := hu.cell' c00; have d01 := hu.cell' c01; have d02 := hu.cell' c02; have d03 := hu.cell' c03); go_simp; (try rfl))); simp only [Act.put, List.setIfInBounds_toArray, List.set_cons_zero, List.set_cons_succ])
  refine wpE_l rfl rfl (fun K hK => ?_)
  go_simp
  refine (r08_times_any _ _ _ hr ha).mono ?_
  rintro e u ⟨rfl, rfl⟩
  refine hK.out _ _ (Ext.refl _) ?_
  clear hK K
  try simp only [Act.put, List.setIfInBounds_toArray, List.set_cons_zero, List.set_cons_succ]
  refine wpE_l rfl rfl (fun K hK => ?_)
  go_simp
  refine (r08_times_any _ _ _ hg ha).mono ?_
  rintro e u ⟨rfl, rfl⟩
  refine hK.out _ _ (Ext.refl _) ?_
  clear hK K
  try simp only [Act.put, List.setIfInBounds_toArray, List.set_cons_zero, List.set_cons_succ]
  refine wpE_l rfl rfl (fun K hK => ?_)
  go_simp
  refine (r08_times_any _ _ _ hb ha).mono ?_
  rintro e u ⟨rfl, rfl⟩
  refine hK.out _ _ (Ext.refl _) ?_
  clear hK K
  try simp only [Act.put, List.setIfInBounds_toArray, List.set_cons_zero, List.set_cons_succ]
  refine wpE_q (v := ?_) rfl rfl (fun u hu => ?_) ?_
  rotate_left 1
  focus (go_simp; (try rfl))
  try simp only [Act.put, List.setIfInBounds_toArray, List.set_cons_zero, List.set_cons_succ]
  refine wpE_b rfl rfl (fun K hK => ?_)
  go_simp
  refine hK.out _ _ ?_
  clear hK K
  try simp only [Act.put, List.setIfInBounds_toArray, List.set_cons_zero, List.set_cons_succ]
  refine wpE_done ?_
  go_wp2_with fail
  refine bodyPost_cells rfl rfl Tryz.underlying23 rfl (by kernel_rfl) (four (by go_simp; try rfl) (by go_simp; try rfl) (by go_simp; try rfl) (by go_simp; try rfl)) rfl ⟨rfl, ?_⟩
  refine (((HE.store ?_ _).store ?_ _).store ?_ _).store ?_ _ <;> (show w.heap.size ≤ w.heap.size + 1; omega)

set_option maxHeartbeats 1000000 in
theorem r08_mix_any (n r g b a r' g' b' a' : Nat) (w : World) (h : Col8 r g b a) (h' : Col8 r' g' b' a') (hn : n ≤ 255) :
    Calls Tryz.prog 19 #[.agg #[.int .u8 (r : Int), .int .u8 (g : Int), .int .u8 (b : Int), .int .u8 (a : Int)], .agg #[.int .u8 (r' : Int), .int .u8 (g' : Int), .int .u8 (b' : Int), .int .u8 (a' : Int)], .int .u8 (n : Int)] w fun e w' => e = .returned (.agg #[.int .u8 ((mixr n r r' : Nat) : Int), .int .u8 ((mixr n g g' : Nat) : Int), .int .u8 ((mixr n b b' : Nat) : Int), .int .u8 ((mixr n a a' : Nat) : Int)]) ∧ Ext w w' := by
  obtain ⟨hr, hg, hb, ha⟩ := h
  obtain ⟨hr', hg', hb', ha'⟩ := h'
  go_enter Tryz.func19, Tryz.ntmps19
  go_wp2_with fail
  obtain ⟨w0, hw0⟩ : ∃ w0 : World, w0 = World.drew (World.alloc (World.alloc (World.alloc w (.cells #[.int .u8 (r : Int), .int .u8 (g : Int), .int .u8 (b : Int), .int .u8 (a : Int)] 23)) (.cells #[.int .u8 (r' : Int), .int .u8 (g' : Int), .int .u8 (b' : Int), .int .u8 (a' : Int)] 23)) (.cells #[.int .u8 0, .int .u8 0, .int .u8 0, .int .u8 0] 23)) := ⟨_, rfl⟩
  have c00 : w0.cell? ⟨w.heap.size, 0, none⟩ = some (.int .u8 (r : Int)) := by rw [hw0]; go_simp; try rfl
  have c01 : w0.cell? ⟨w.heap.size, 1, none⟩ = some (.int .u8 (g : Int)) := by rw [hw0]; go_simp; try rfl
  have c02 : w0.cell? ⟨w.heap.size, 2, none⟩ = some (.int .u8 (b : Int)) := by rw [hw0]; go_simp; try rfl
  have c03 : w0.cell? ⟨w.heap.size, 3, none⟩ = some (.int .u8 (a : Int)) := by rw [hw0]; go_simp; try rfl
  have c10 : w0.cell? ⟨w.heap.size + 1, 0, none⟩ = some (.int .u8 (r' : Int)) := by rw [hw0]; go_simp; try rfl
  have c11 : w0.cell? ⟨w.heap.size + 1, 1, none⟩ = some (.int .u8 (g' : Int)) := by rw [hw0]; go_simp; try rfl
  have c12 : w0.cell? ⟨w.heap.size + 1, 2, none⟩ = some (.int .u8 (b' : Int)) := by rw [hw0]; go_simp; try rfl
  have c13 : w0.cell? ⟨w.heap.size + 1, 3, none⟩ = some (.int .u8 (a' : Int)) := by rw [hw0]; go_simp; try rfl
  have z0 : w0.cell? ⟨w.heap.size + 1 + 1, 0, none⟩ = some (.int .u8 0) := by rw [hw0]; go_simp; try rfl
  have f0 : w0.frozen? ⟨w.heap.size + 1 + 1, 0, none⟩ = false := by rw [hw0]; go_simp
  have z1 : w0.cell? ⟨w.heap.size + 1 + 1, 1, none⟩ = some (.int .u8 0) := by rw [hw0]; go_simp; try rfl
  have f1 : w0.frozen? ⟨w.heap.size + 1 + 1, 1, none⟩ = false := by rw [hw0]; go_simp
  have z2 : w0.cell? ⟨w.heap.size + 1 + 1, 2, none⟩ = some (.int .u8 0) := by rw [hw0]; go_simp; try rfl
  have f2 : w0.frozen? ⟨w.heap.size + 1 + 1, 2, none⟩ = false := by rw [hw0]; go_simp
  have z3 : w0.cell? ⟨w.heap.size + 1 + 1, 3, none⟩ = some (.int .u8 0) := by rw [hw0]; go_simp; try rfl
  have f3 : w0.frozen? ⟨w.heap.size + 1 + 1, 3, none⟩ = false := by rw [hw0]; go_simp
  have HE : Ext w w0 := by
    rw [hw0]
    refine Ext.drew ?_
    repeat (refine Ext.alloc ?_ _)
    exact Ext.refl _
  refine wp_region_plan (R := Ext) (.q 0 (.q 1 (.q 2 (.q 3 (.q 4 (.q 6 (.q 7 (.q 8 (.q 9 (.q 10 (.q 12 (.q 13 (.q 14 (.q 15 (.q 16 (.q 18 (.q 19 (.q 20 (.q 21 (.q 22 (.l 5 (.l 11 (.l 17 (.l 23 (.q 24 (.b 25 .done)))))))))))))))))))))))))) (by kernel_rfl) (by kernel_rfl) (by kernel_rfl) (by kernel_rfl) Ext.refl (fun _ _ _ => Ext.trans) ?_
  rw [← hw0]
  clear hw0
  repeat (refine wpE_q (v := ?_) rfl rfl (fun u hu => ?_) ?_; rotate_left 1; (focus ((have d00 := hu.cell' c00; have d01 := hu.cell' c01; have d02 := hu.cell' c02; have d03 := hu.cell' c03; have d10 := hu.cell' c10; have d11 := hu.cell' c11; have d12 := hu.cell' c12; have d13 := hu.cell' c13); go_simp; (try rfl))); simp only [Act.put, List.setIfInBounds_toArray, List.set_cons_zero, List.set_cons_succ])
  refine wpE_l rfl rfl (fun K hK => ?_)
  go_simp
  refine (r08_mix1_any _ _ _ _ hr hr' hn).mono ?_
  rintro e u ⟨rfl, rfl⟩
  refine hK.out _ _ (Ext.refl _) ?_
  clear hK K
  try simp only [Act.put, List.setIfInBounds_toArray, List.set_cons_zero, List.set_cons_succ]
  refine wpE_l rfl rfl (fun K hK => ?_)
  go_simp
  refine (r08_mix1_any _ _ _ _ hg hg' hn).mono ?_
  rintro e u ⟨rfl, rfl⟩
  refine hK.out _ _ (Ext.refl _) ?_
  clear hK K
  try simp only [Act.put, List.setIfInBounds_toArray, List.set_cons_zero, List.set_cons_succ]
  refine wpE_l rfl rfl (fun K hK => ?_)
  go_simp
  refine (r08_mix1_any _ _ _ _ hb hb' hn).mono ?_
  rintro e u ⟨rfl, rfl⟩
  refine hK.out _ _ (Ext.refl _) ?_
  clear hK K
  try simp only [Act.put, List.setIfInBounds_toArray, List.set_cons_zero, List.set_cons_succ]
  refine wpE_l rfl rfl (fun K hK => ?_)
  go_simp
  refine (r08_mix1_any _ _ _ _ ha ha' hn).mono ?_
  rintro e u ⟨rfl, rfl⟩
  refine hK.out _ _ (Ext.refl _) ?_
  clear hK K
  try simp only [Act.put, List.setIfInBounds_toArray, List.set_cons_zero, List.set_cons_succ]
  refine wpE_q (v := ?_) rfl rfl (fun u hu => ?_) ?_
  rotate_left 1
  focus (go_simp; (try rfl))
  try simp only [Act.put, List.setIfInBounds_toArray, List.set_cons_zero, List.set_cons_succ]
  refine wpE_b rfl rfl (fun K hK => ?_)
  go_simp
  refine hK.out _ _ ?_
  clear hK K
  try simp only [Act.put, List.setIfInBounds_toArray, List.set_cons_zero, List.set_cons_succ]
  refine wpE_done ?_
  go_wp2_with fail
  refine bodyPost_cells rfl rfl Tryz.underlying23 rfl (by kernel_rfl) (four (by go_simp; try rfl) (by go_simp; try rfl) (by go_simp; try rfl) (by go_simp; try rfl)) rfl ⟨rfl, ?_⟩
  refine (((HE.store ?_ _).store ?_ _).store ?_ _).store ?_ _ <;> (show w.heap.size ≤ w.heap.size + 1 + 1; omega)


theorem ret_bool {a b : Bool} (h : a = b) : Ending.returned (.bool a) = .returned (.bool b) := by rw [h]

/-- May a colour be a weighted one? -/
def mayB (r g b a : Nat) : Bool := decide (r ≤ a ∧ g ≤ a ∧ b ≤ a)

set_option maxHeartbeats 1000000 in
theorem c_weigh_any (r g b a : Nat) (w : World) (h : Col8 r g b a) :
    Calls Tryz.prog 16 #[.agg #[.int .u8 (r : Int), .int .u8 (g : Int), .int .u8 (b : Int), .int .u8 (a : Int)]] w fun e w' => e = .returned (.agg #[.int .u8 ((fadr a r r : Nat) : Int), .int .u8 ((fadr a g g : Nat) : Int), .int .u8 ((fadr a b b : Nat) : Int), .int .u8 (a : Int)]) ∧ Ext w w' := by
  go_enter Tryz.func16, Tryz.ntmps16
  go_wp2_with fail
  refine (c_fade_any a r g b a _ h h.a).mono ?_
  rintro e u ⟨rfl, hu⟩
  have z0 := hu.cell' (p := ⟨w.heap.size, 0, none⟩) (v := .int .u8 (r : Int)) (by go_simp; try rfl)
  have y0 := hu.cell' (p := ⟨w.heap.size + 1, 0, none⟩) (v := .int .u8 0) (by go_simp; try rfl)
  have q0 : u.frozen? ⟨w.heap.size + 1, 0, none⟩ = false := (hu.frozen (p := ⟨w.heap.size + 1, 0, none⟩) (by simp)).trans (by go_simp)
  have z1 := hu.cell' (p := ⟨w.heap.size, 1, none⟩) (v := .int .u8 (g : Int)) (by go_simp; try rfl)
  have y1 := hu.cell' (p := ⟨w.heap.size + 1, 1, none⟩) (v := .int .u8 0) (by go_simp; try rfl)
  have q1 : u.frozen? ⟨w.heap.size + 1, 1, none⟩ = false := (hu.frozen (p := ⟨w.heap.size + 1, 1, none⟩) (by simp)).trans (by go_simp)
  have z2 := hu.cell' (p := ⟨w.heap.size, 2, none⟩) (v := .int .u8 (b : Int)) (by go_simp; try rfl)
  have y2 := hu.cell' (p := ⟨w.heap.size + 1, 2, none⟩) (v := .int .u8 0) (by go_simp; try rfl)
  have q2 : u.frozen? ⟨w.heap.size + 1, 2, none⟩ = false := (hu.frozen (p := ⟨w.heap.size + 1, 2, none⟩) (by simp)).trans (by go_simp)
  have z3 := hu.cell' (p := ⟨w.heap.size, 3, none⟩) (v := .int .u8 (a : Int)) (by go_simp; try rfl)
  have y3 := hu.cell' (p := ⟨w.heap.size + 1, 3, none⟩) (v := .int .u8 0) (by go_simp; try rfl)
  have q3 : u.frozen? ⟨w.heap.size + 1, 3, none⟩ = false := (hu.frozen (p := ⟨w.heap.size + 1, 3, none⟩) (by simp)).trans (by go_simp)
  have hsu := hu.size
  simp only [World.size_alloc] at hsu
  have HE : Ext w u := Ext.trans (((Ext.refl _).alloc _).alloc _) hu
  clear hu
  go_upto_region 2 with fail
  have he := (Ext.refl u).alloc (.cells #[.int .u8 ((fadr a r r : Nat) : Int), .int .u8 ((fadr a g g : Nat) : Int), .int .u8 ((fadr a b b : Nat) : Int), .int .u8 ((fadr a a a : Nat) : Int)] 23)
  have hq : ∀ j, (u.alloc (.cells #[.int .u8 ((fadr a r r : Nat) : Int), .int .u8 ((fadr a g g : Nat) : Int), .int .u8 ((fadr a b b : Nat) : Int), .int .u8 ((fadr a a a : Nat) : Int)] 23)).frozen? ⟨w.heap.size + 1, j, none⟩ = u.frozen? ⟨w.heap.size + 1, j, none⟩ := fun j => he.frozen (by show w.heap.size + 1 < _; omega)
  have x0 : (u.alloc (.cells #[.int .u8 ((fadr a r r : Nat) : Int), .int .u8 ((fadr a g g : Nat) : Int), .int .u8 ((fadr a b b : Nat) : Int), .int .u8 ((fadr a a a : Nat) : Int)] 23)).cell? ⟨u.heap.size, 0, none⟩ = some (.int .u8 ((fadr a r r : Nat) : Int)) := by go_simp; try rfl
  replace z0 := he.cell' z0
  replace y0 := he.cell' y0
  replace q0 := (hq 0).trans q0
  have x1 : (u.alloc (.cells #[.int .u8 ((fadr a r r : Nat) : Int), .int .u8 ((fadr a g g : Nat) : Int), .int .u8 ((fadr a b b : Nat) : Int), .int .u8 ((fadr a a a : Nat) : Int)] 23)).cell? ⟨u.heap.size, 1, none⟩ = some (.int .u8 ((fadr a g g : Nat) : Int)) := by go_simp; try rfl
  replace z1 := he.cell' z1
  replace y1 := he.cell' y1
  replace q1 := (hq 1).trans q1
  have x2 : (u.alloc (.cells #[.int .u8 ((fadr a r r : Nat) : Int), .int .u8 ((fadr a g g : Nat) : Int), .int .u8 ((fadr a b b : Nat) : Int), .int .u8 ((fadr a a a : Nat) : Int)] 23)).cell? ⟨u.heap.size, 2, none⟩ = some (.int .u8 ((fadr a b b : Nat) : Int)) := by go_simp; try rfl
  replace z2 := he.cell' z2
  replace y2 := he.cell' y2
  replace q2 := (hq 2).trans q2
  have x3 : (u.alloc (.cells #[.int .u8 ((fadr a r r : Nat) : Int), .int .u8 ((fadr a g g : Nat) : Int), .int .u8 ((fadr a b b : Nat) : Int), .int .u8 ((fadr a a a : Nat) : Int)] 23)).cell? ⟨u.heap.size, 3, none⟩ = some (.int .u8 ((fadr a a a : Nat) : Int)) := by go_simp; try rfl
  replace z3 := he.cell' z3
  replace y3 := he.cell' y3
  replace q3 := (hq 3).trans q3
  have x4 : (u.alloc (.cells #[.int .u8 ((fadr a r r : Nat) : Int), .int .u8 ((fadr a g g : Nat) : Int), .int .u8 ((fadr a b b : Nat) : Int), .int .u8 ((fadr a a a : Nat) : Int)] 23)).frozen? ⟨u.heap.size, 3, none⟩ = false := by go_simp
  replace HE := HE.trans he
  clear he hq
  generalize (u.alloc (.cells #[.int .u8 ((fadr a r r : Nat) : Int), .int .u8 ((fadr a g g : Nat) : Int), .int .u8 ((fadr a b b : Nat) : Int), .int .u8 ((fadr a a a : Nat) : Int)] 23)) = u2 at *
  have hne : ¬ w.heap.size + 1 = u.heap.size := by omega
  have hne' : ¬ u.heap.size = w.heap.size + 1 := by omega
  have hle : w.heap.size ≤ u.heap.size := by omega
  clear hsu
  generalize u.heap.size = G at *
  go_wp2_with fail
  refine bodyPost_cells rfl rfl Tryz.underlying23 rfl (by kernel_rfl) (four (by go_simp; try rfl) (by go_simp; try rfl) (by go_simp; try rfl) (by go_simp; try rfl)) rfl ⟨rfl, ?_⟩
  exact ((((HE.store hle _).store (Nat.le_succ _) _).store (Nat.le_succ _) _).store (Nat.le_succ _) _).store (Nat.le_succ _) _


end Go.Proofs.YtmibjfkpchncgaaGreat

namespace Go.Proofs.YtmibjfkpchncgaaGreat
theorem part_mono {x y : Int} (h : x ≤ y) : part x ≤ part y := by
  unfold part
  split
  · omega
  · split
    · split
      · omega
      · split
        · omega
        · omega
    · split
      · omega
      · split
        · omega
        · omega
end Go.Proofs.YtmibjfkpchncgaaGreat

namespace Go.Proofs.YtmibjfkpchncgaaGreat
theorem part_full (r : Nat) (h : r ≤ 255) : part ((r : Int) * 255) = r := by
  unfold part
  split
  · omega
  · split <;> omega
end Go.Proofs.YtmibjfkpchncgaaGreat

namespace Go.Proofs.YtmibjfkpchncgaaGreat
theorem part_none (r : Int) (h : r = 0) : part r = 0 := by subst h; rfl
end Go.Proofs.YtmibjfkpchncgaaGreat

namespace Go.Proofs.YtmibjfkpchncgaaGreat
theorem mixr_none (r b : Nat) (h : r ≤ 255) : mixr 0 r b = r := by
  unfold mixr
  rw [show (r : Int) * (255 - ((0 : Nat) : Int)) + (b : Int) * ((0 : Nat) : Int) = (r : Int) * 255 by omega]
  exact part_full r h
end Go.Proofs.YtmibjfkpchncgaaGreat

namespace Go.Proofs.YtmibjfkpchncgaaGreat
theorem mixr_full (r b : Nat) (h : b ≤ 255) : mixr 255 r b = b := by
  unfold mixr
  rw [show (r : Int) * (255 - ((255 : Nat) : Int)) + (b : Int) * ((255 : Nat) : Int) = (b : Int) * 255 by omega]
  exact part_full b h
end Go.Proofs.YtmibjfkpchncgaaGreat
