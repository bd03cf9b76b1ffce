/- The law of what colours keep: its walk. -/
import Derived.Test.YtbhjookpdmfdnaaC9
namespace Go.Proofs.Ytbhjookpdmfdnaa
set_option linter.unusedVariables false
open Go Go.RowKit


theorem c_weigh_full {r g b : Nat} (w : World) (hr : r ≤ 255) (hg : g ≤ 255) (hb : b ≤ 255) :
    Calls Try.prog 17 #[.agg #[.int .u8 (r : Int), .int .u8 (g : Int), .int .u8 (b : Int), .int .u8 255]] w fun e w' => e = .returned (.agg #[.int .u8 (r : Int), .int .u8 (g : Int), .int .u8 (b : Int), .int .u8 255]) ∧ Ext w w' := by
  have := c_weigh_any r g b 255 w ⟨hr, hg, hb, by omega⟩
  rw [fadr_full r r hr, fadr_full g g hg, fadr_full b b hb] at this
  exact this
theorem c_may_yes {r g b a : Nat} (w : World) (h : Col8 r g b a) (hm : r ≤ a ∧ g ≤ a ∧ b ≤ a) :
    Calls Try.prog 19 #[.agg #[.int .u8 (r : Int), .int .u8 (g : Int), .int .u8 (b : Int), .int .u8 (a : Int)]] w fun e w' => e = .returned (.bool true) ∧ Ext w w' := by
  have := c_may_any r g b a w h
  rw [show mayB r g b a = true from decide_eq_true hm] at this
  exact this
theorem c_over_full {r g b p q s t : Nat} (w : World) (hr : r ≤ 255) (hg : g ≤ 255) (hb : b ≤ 255) (h' : Col8 p q s t) :
    Calls Try.prog 10 #[.agg #[.int .u8 (r : Int), .int .u8 (g : Int), .int .u8 (b : Int), .int .u8 255], .agg #[.int .u8 (p : Int), .int .u8 (q : Int), .int .u8 (s : Int), .int .u8 (t : Int)]] w fun e w' => e = .returned (.agg #[.int .u8 (r : Int), .int .u8 (g : Int), .int .u8 (b : Int), .int .u8 255]) ∧ Ext w w' := by
  have := c_over_any r g b 255 p q s t w ⟨hr, hg, hb, by omega⟩ h'
  rw [show 255 - 255 = 0 from rfl, covr_all r p hr, covr_all g q hg, covr_all b s hb, covr_all 255 t (by omega)] at this
  exact this
theorem c_over_zero {r g b a : Nat} (w : World) (h : Col8 r g b a) :
    Calls Try.prog 10 #[.agg #[.int .u8 (r : Int), .int .u8 (g : Int), .int .u8 (b : Int), .int .u8 (a : Int)], .agg #[.int .u8 0, .int .u8 0, .int .u8 0, .int .u8 0]] w fun e w' => e = .returned (.agg #[.int .u8 (r : Int), .int .u8 (g : Int), .int .u8 (b : Int), .int .u8 (a : Int)]) ∧ Ext w w' := by
  have := c_over_any r g b a 0 0 0 0 w h ⟨by omega, by omega, by omega, by omega⟩
  rw [covr_over_none _ r h.r, covr_over_none _ g h.g, covr_over_none _ b h.b, covr_over_none _ a h.a] at this
  exact this
theorem c_fade_full {r g b a : Nat} (w : World) (h : Col8 r g b a) :
    Calls Try.prog 21 #[.agg #[.int .u8 (r : Int), .int .u8 (g : Int), .int .u8 (b : Int), .int .u8 (a : Int)], .int .u8 255] w fun e w' => e = .returned (.agg #[.int .u8 (r : Int), .int .u8 (g : Int), .int .u8 (b : Int), .int .u8 (a : Int)]) ∧ Ext w w' := by
  have := c_fade_any 255 r g b a w h (by omega)
  rw [fadr_full r r h.r, fadr_full g g h.g, fadr_full b b h.b, fadr_full a a h.a] at this
  exact this
theorem c_fade_none {r g b a : Nat} (w : World) (h : Col8 r g b a) :
    Calls Try.prog 21 #[.agg #[.int .u8 (r : Int), .int .u8 (g : Int), .int .u8 (b : Int), .int .u8 (a : Int)], .int .u8 0] w fun e w' => e = .returned (.agg #[.int .u8 0, .int .u8 0, .int .u8 0, .int .u8 0]) ∧ Ext w w' := by
  have := c_fade_any 0 r g b a w h (by omega)
  rw [fadr_none r r, fadr_none g g, fadr_none b b, fadr_none a a] at this
  exact this
theorem c_mix_none {r g b a p q s t : Nat} (w : World) (h : Col8 r g b a) (h' : Col8 p q s t) :
    Calls Try.prog 23 #[.agg #[.int .u8 (r : Int), .int .u8 (g : Int), .int .u8 (b : Int), .int .u8 (a : Int)], .agg #[.int .u8 (p : Int), .int .u8 (q : Int), .int .u8 (s : Int), .int .u8 (t : Int)], .int .u8 0] w fun e w' => e = .returned (.agg #[.int .u8 (r : Int), .int .u8 (g : Int), .int .u8 (b : Int), .int .u8 (a : Int)]) ∧ Ext w w' := by
  have := c_mix_any 0 r g b a p q s t w h h' (by omega)
  rw [mixr_none r p h.r, mixr_none g q h.g, mixr_none b s h.b, mixr_none a t h.a] at this
  exact this
theorem c_mix_full {r g b a p q s t : Nat} (w : World) (h : Col8 r g b a) (h' : Col8 p q s t) :
    Calls Try.prog 23 #[.agg #[.int .u8 (r : Int), .int .u8 (g : Int), .int .u8 (b : Int), .int .u8 (a : Int)], .agg #[.int .u8 (p : Int), .int .u8 (q : Int), .int .u8 (s : Int), .int .u8 (t : Int)], .int .u8 255] w fun e w' => e = .returned (.agg #[.int .u8 (p : Int), .int .u8 (q : Int), .int .u8 (s : Int), .int .u8 (t : Int)]) ∧ Ext w w' := by
  have := c_mix_any 255 r g b a p q s t w h h' (by omega)
  rw [mixr_full r p h'.r, mixr_full g q h'.g, mixr_full b s h'.b, mixr_full a t h'.a] at this
  exact this

set_option maxRecDepth 100000 in
set_option maxHeartbeats 8000000 in
theorem keeps_any (r g b a r' g' b' a' n : Nat) (w : World) (h : Col8 r g b a) (h' : Col8 r' g' b' a') (hn : n ≤ 255) :
    Calls Try.prog 5 #[.agg #[.int .u8 (r : Int), .int .u8 (g : Int), .int .u8 (b : Int), .int .u8 (a : Int)], .agg #[.int .u8 (r' : Int), .int .u8 (g' : Int), .int .u8 (b' : Int), .int .u8 (a' : Int)], .int .u8 (n : Int)] w fun e w' => e = .returned (.bool true) ∧ Ext w w' := by
  go_enter Try.func5, Try.ntmps5
  go_upto_region 1 with fail
  go_cut [7, 8] (fun v7 v8 wx => ∃ g7 g8, v7 = .pointer (some ⟨g7, 0, none⟩) ∧ v8 = .pointer (some ⟨g8, 0, none⟩) ∧ Own (w.heap.size + 2) wx g7 (fadr a r r) (fadr a g g) (fadr a b b) (a) ∧ Own (w.heap.size + 2) wx g8 (fadr a' r' r') (fadr a' g' g') (fadr a' b' b') (a') ∧ Four wx w.heap.size r g b a ∧ Four wx (w.heap.size + 1) r' g' b' a' ∧ Ext w wx)
  case first =>
    obtain ⟨w0, hw0⟩ : ∃ w0 : World, w0 = (w.alloc (.cells #[.int .u8 (r : Int), .int .u8 (g : Int), .int .u8 (b : Int), .int .u8 (a : Int)] 23)).alloc (.cells #[.int .u8 (r' : Int), .int .u8 (g' : Int), .int .u8 (b' : Int), .int .u8 (a' : Int)] 23) := ⟨_, rfl⟩
    have hz0 : w0.heap.size = w.heap.size + 2 := by rw [hw0]; simp
    have hC : Four w0 w.heap.size r g b a := by rw [hw0]; refine ⟨?_, ?_, ?_, ?_⟩ <;> (go_simp; try rfl)
    have hD : Four w0 (w.heap.size + 1) r' g' b' a' := by rw [hw0]; refine ⟨?_, ?_, ?_, ?_⟩ <;> (go_simp; try rfl)
    have hE : Ext w w0 := by rw [hw0]; exact ((Ext.refl _).alloc _).alloc _
    rw [← hw0]
    clear hw0
    have hsC : w.heap.size < w0.heap.size := by omega
    have hsD : w.heap.size + 1 < w0.heap.size := by omega
    have HB : Below w0.heap.size w0 w0.drew := (Below.refl _ _).drew
    have hs := HB.size
    have hC1 : Four w0.drew w.heap.size r g b a := hC.below HB (by omega)
    have hD1 : Four w0.drew (w.heap.size + 1) r' g' b' a' := hD.below HB (by omega)
    refine wp_region_plan (R := Below w0.heap.size) (.q 0 (.q 2 (.br 1 (.br 3 (.br 4 (.l 5 (.l 6 (.b 7 .done))) (.l 5 (.l 4 (.l 6 (.b 7 .done))))) (.br 4 (.br 3 (.l 5 (.l 6 (.b 7 .done))) (.l 5 (.l 3 (.l 6 (.b 7 .done))))) (.l 5 (.br 3 (.l 4 (.l 6 (.b 7 .done))) (.l 4 (.l 3 (.l 6 (.b 7 .done)))))))) (.br 4 (.br 1 (.br 3 (.l 5 (.l 6 (.b 7 .done))) (.l 5 (.l 3 (.l 6 (.b 7 .done))))) (.l 5 (.l 1 (.l 3 (.l 6 (.b 7 .done)))))) (.l 5 (.br 1 (.br 3 (.l 4 (.l 6 (.b 7 .done))) (.l 4 (.l 3 (.l 6 (.b 7 .done))))) (.l 4 (.l 1 (.l 3 (.l 6 (.b 7 .done))))))))))) (by kernel_rfl) (by kernel_rfl) (by kernel_rfl) (by kernel_rfl) (Below.refl _) (fun _ _ _ => Below.trans) ?_
    generalize w0.drew = u1 at *
    refine wpE_q (v := (.agg #[.int .u8 (r : Int), .int .u8 (g : Int), .int .u8 (b : Int), .int .u8 (a : Int)])) rfl rfl (fun u hu => ?_) ?_
    focus ((obtain ⟨f0, f1, f2, f3⟩ := hC1.below hu (by omega)); go_simp; (try rfl))
    simp only [Act.put, List.setIfInBounds_toArray, List.set_cons_zero, List.set_cons_succ]
    refine wpE_q (v := (.agg #[.int .u8 (r' : Int), .int .u8 (g' : Int), .int .u8 (b' : Int), .int .u8 (a' : Int)])) rfl rfl (fun u hu => ?_) ?_
    focus ((obtain ⟨f0, f1, f2, f3⟩ := hD1.below hu (by omega)); go_simp; (try rfl))
    simp only [Act.put, List.setIfInBounds_toArray, List.set_cons_zero, List.set_cons_succ]
    clear hC1 hD1
    refine wpE_br rfl rfl (fun K hK => ?_) ?_
    · go_simp
      refine (c_weigh_any _ _ _ _ _ h).mono ?_
      rintro e u2 ⟨rfl, he⟩
      refine hK.out _ _ (he.mono hs) ?_
      clear hK K
      replace HB := HB.trans (he.mono hs)
      replace hs := Nat.le_trans hs he.size
      clear he
      try simp only [Act.put, List.setIfInBounds_toArray, List.set_cons_zero, List.set_cons_succ]
      refine wpE_br rfl rfl (fun K hK => ?_) ?_
      · go_simp
        refine (c_weigh_any _ _ _ _ _ h').mono ?_
        rintro e u3 ⟨rfl, he⟩
        refine hK.out _ _ (he.mono hs) ?_
        clear hK K
        replace HB := HB.trans (he.mono hs)
        replace hs := Nat.le_trans hs he.size
        clear he
        try simp only [Act.put, List.setIfInBounds_toArray, List.set_cons_zero, List.set_cons_succ]
        refine wpE_br rfl rfl (fun K hK => ?_) ?_
        · go_simp
          refine hK.out _ _ ((Below.refl _ _).alloc hs _) ?_
          clear hK K
          have o7 := Own.new hs 23
          replace HB := HB.trans ((Below.refl _ _).alloc hs (.cells #[.int .u8 0, .int .u8 0, .int .u8 0, .int .u8 0] 23))
          have hs2 : w0.heap.size ≤ (World.alloc u3 (.cells #[.int .u8 0, .int .u8 0, .int .u8 0, .int .u8 0] 23)).heap.size := by simp; omega
          generalize World.alloc u3 (.cells #[.int .u8 0, .int .u8 0, .int .u8 0, .int .u8 0] 23) = u4 at *
          clear hs
          have hs := hs2
          clear hs2
          generalize u3.heap.size = g7 at *
          try simp only [Act.put, List.setIfInBounds_toArray, List.set_cons_zero, List.set_cons_succ]
          refine wpE_l rfl rfl (fun K hK => ?_)
          go_simp
          refine hK.out _ _ ((Below.refl _ _).alloc hs _) ?_
          clear hK K
          have o8 := Own.new hs 23
          have hlt := o7.2.1
          replace o7 := o7.ext ((Ext.refl _).alloc (.cells #[.int .u8 0, .int .u8 0, .int .u8 0, .int .u8 0] 23))
          replace HB := HB.trans ((Below.refl _ _).alloc hs (.cells #[.int .u8 0, .int .u8 0, .int .u8 0, .int .u8 0] 23))
          have hs2 : w0.heap.size ≤ (World.alloc u4 (.cells #[.int .u8 0, .int .u8 0, .int .u8 0, .int .u8 0] 23)).heap.size := by simp; omega
          generalize World.alloc u4 (.cells #[.int .u8 0, .int .u8 0, .int .u8 0, .int .u8 0] 23) = u5 at *
          clear hs
          have hs := hs2
          clear hs2
          generalize u4.heap.size = g8 at *
          have hne : ¬ g7 = g8 := by omega
          clear hlt
          try simp only [Act.put, List.setIfInBounds_toArray, List.set_cons_zero, List.set_cons_succ]
          refine wpE_l rfl rfl (fun K hK => ?_)
          obtain ⟨n1, n2, ⟨k0, k1, k2, k3⟩, hz⟩ := id o7
          have z0 := hz 0
          have z1 := hz 1
          have z2 := hz 2
          have z3 := hz 3
          clear hz
          go_simp
          refine hK.out _ _ (puts_below u5 g7 (fadr a r r) (fadr a g g) (fadr a b b) (a) n1) ?_
          clear hK K
          clear n2 k0 k1 k2 k3 z0 z1 z2 z3
          have hb := puts_below (n := w0.heap.size) u5 g7 (fadr a r r) (fadr a g g) (fadr a b b) (a) n1
          replace o7 := o7.put (fadr a r r) (fadr a g g) (fadr a b b) (a)
          replace o8 := o8.other (g' := g7) (by omega) (fadr a r r) (fadr a g g) (fadr a b b) (a)
          replace HB := HB.trans hb
          replace hs := Nat.le_trans hs hb.size
          clear n1 hb
          change wpE _ _ _ _ _ _ (puts u5 g7 (fadr a r r) (fadr a g g) (fadr a b b) (a))
          generalize puts u5 g7 (fadr a r r) (fadr a g g) (fadr a b b) (a) = u6 at *
          try simp only [Act.put, List.setIfInBounds_toArray, List.set_cons_zero, List.set_cons_succ]
          refine wpE_b rfl rfl (fun K hK => ?_)
          obtain ⟨n1, n2, ⟨k0, k1, k2, k3⟩, hz⟩ := id o8
          have z0 := hz 0
          have z1 := hz 1
          have z2 := hz 2
          have z3 := hz 3
          clear hz
          go_simp
          refine hK.out _ _ ?_
          clear hK K
          clear n2 k0 k1 k2 k3 z0 z1 z2 z3
          have hb := puts_below (n := w0.heap.size) u6 g8 (fadr a' r' r') (fadr a' g' g') (fadr a' b' b') (a') n1
          replace o8 := o8.put (fadr a' r' r') (fadr a' g' g') (fadr a' b' b') (a')
          replace o7 := o7.other (g' := g8) (by omega) (fadr a' r' r') (fadr a' g' g') (fadr a' b' b') (a')
          replace HB := HB.trans hb
          replace hs := Nat.le_trans hs hb.size
          clear n1 hb
          change wpE _ _ _ _ _ _ (puts u6 g8 (fadr a' r' r') (fadr a' g' g') (fadr a' b' b') (a'))
          generalize puts u6 g8 (fadr a' r' r') (fadr a' g' g') (fadr a' b' b') (a') = u7 at *
          try simp only [Act.put, List.setIfInBounds_toArray, List.set_cons_zero, List.set_cons_succ]
          refine wpE_done ?_
          go_wp2_with fail
          go_meet
          exact ⟨g7, g8, rfl, rfl, by rw [← hz0]; exact o7, by rw [← hz0]; exact o8, hC.below HB (by omega), hD.below HB (by omega), hE.trans HB⟩
        refine wpE_l rfl rfl (fun K hK => ?_)
        go_simp
        refine hK.out _ _ ((Below.refl _ _).alloc hs _) ?_
        clear hK K
        have o8 := Own.new hs 23
        replace HB := HB.trans ((Below.refl _ _).alloc hs (.cells #[.int .u8 0, .int .u8 0, .int .u8 0, .int .u8 0] 23))
        have hs2 : w0.heap.size ≤ (World.alloc u3 (.cells #[.int .u8 0, .int .u8 0, .int .u8 0, .int .u8 0] 23)).heap.size := by simp; omega
        generalize World.alloc u3 (.cells #[.int .u8 0, .int .u8 0, .int .u8 0, .int .u8 0] 23) = u8 at *
        clear hs
        have hs := hs2
        clear hs2
        generalize u3.heap.size = g8 at *
        try simp only [Act.put, List.setIfInBounds_toArray, List.set_cons_zero, List.set_cons_succ]
        refine wpE_l rfl rfl (fun K hK => ?_)
        go_simp
        refine hK.out _ _ ((Below.refl _ _).alloc hs _) ?_
        clear hK K
        have o7 := Own.new hs 23
        have hlt := o8.2.1
        replace o8 := o8.ext ((Ext.refl _).alloc (.cells #[.int .u8 0, .int .u8 0, .int .u8 0, .int .u8 0] 23))
        replace HB := HB.trans ((Below.refl _ _).alloc hs (.cells #[.int .u8 0, .int .u8 0, .int .u8 0, .int .u8 0] 23))
        have hs2 : w0.heap.size ≤ (World.alloc u8 (.cells #[.int .u8 0, .int .u8 0, .int .u8 0, .int .u8 0] 23)).heap.size := by simp; omega
        generalize World.alloc u8 (.cells #[.int .u8 0, .int .u8 0, .int .u8 0, .int .u8 0] 23) = u9 at *
        clear hs
        have hs := hs2
        clear hs2
        generalize u8.heap.size = g7 at *
        have hne : ¬ g7 = g8 := by omega
        clear hlt
        try simp only [Act.put, List.setIfInBounds_toArray, List.set_cons_zero, List.set_cons_succ]
        refine wpE_l rfl rfl (fun K hK => ?_)
        obtain ⟨n1, n2, ⟨k0, k1, k2, k3⟩, hz⟩ := id o7
        have z0 := hz 0
        have z1 := hz 1
        have z2 := hz 2
        have z3 := hz 3
        clear hz
        go_simp
        refine hK.out _ _ (puts_below u9 g7 (fadr a r r) (fadr a g g) (fadr a b b) (a) n1) ?_
        clear hK K
        clear n2 k0 k1 k2 k3 z0 z1 z2 z3
        have hb := puts_below (n := w0.heap.size) u9 g7 (fadr a r r) (fadr a g g) (fadr a b b) (a) n1
        replace o7 := o7.put (fadr a r r) (fadr a g g) (fadr a b b) (a)
        replace o8 := o8.other (g' := g7) (by omega) (fadr a r r) (fadr a g g) (fadr a b b) (a)
        replace HB := HB.trans hb
        replace hs := Nat.le_trans hs hb.size
        clear n1 hb
        change wpE _ _ _ _ _ _ (puts u9 g7 (fadr a r r) (fadr a g g) (fadr a b b) (a))
        generalize puts u9 g7 (fadr a r r) (fadr a g g) (fadr a b b) (a) = u10 at *
        try simp only [Act.put, List.setIfInBounds_toArray, List.set_cons_zero, List.set_cons_succ]
        refine wpE_b rfl rfl (fun K hK => ?_)
        obtain ⟨n1, n2, ⟨k0, k1, k2, k3⟩, hz⟩ := id o8
        have z0 := hz 0
        have z1 := hz 1
        have z2 := hz 2
        have z3 := hz 3
        clear hz
        go_simp
        refine hK.out _ _ ?_
        clear hK K
        clear n2 k0 k1 k2 k3 z0 z1 z2 z3
        have hb := puts_below (n := w0.heap.size) u10 g8 (fadr a' r' r') (fadr a' g' g') (fadr a' b' b') (a') n1
        replace o8 := o8.put (fadr a' r' r') (fadr a' g' g') (fadr a' b' b') (a')
        replace o7 := o7.other (g' := g8) (by omega) (fadr a' r' r') (fadr a' g' g') (fadr a' b' b') (a')
        replace HB := HB.trans hb
        replace hs := Nat.le_trans hs hb.size
        clear n1 hb
        change wpE _ _ _ _ _ _ (puts u10 g8 (fadr a' r' r') (fadr a' g' g') (fadr a' b' b') (a'))
        generalize puts u10 g8 (fadr a' r' r') (fadr a' g' g') (fadr a' b' b') (a') = u11 at *
        try simp only [Act.put, List.setIfInBounds_toArray, List.set_cons_zero, List.set_cons_succ]
        refine wpE_done ?_
        go_wp2_with fail
        go_meet
        exact ⟨g7, g8, rfl, rfl, by rw [← hz0]; exact o7, by rw [← hz0]; exact o8, hC.below HB (by omega), hD.below HB (by omega), hE.trans HB⟩
      refine wpE_br rfl rfl (fun K hK => ?_) ?_
      · go_simp
        refine hK.out _ _ ((Below.refl _ _).alloc hs _) ?_
        clear hK K
        have o7 := Own.new hs 23
        replace HB := HB.trans ((Below.refl _ _).alloc hs (.cells #[.int .u8 0, .int .u8 0, .int .u8 0, .int .u8 0] 23))
        have hs2 : w0.heap.size ≤ (World.alloc u2 (.cells #[.int .u8 0, .int .u8 0, .int .u8 0, .int .u8 0] 23)).heap.size := by simp; omega
        generalize World.alloc u2 (.cells #[.int .u8 0, .int .u8 0, .int .u8 0, .int .u8 0] 23) = u12 at *
        clear hs
        have hs := hs2
        clear hs2
        generalize u2.heap.size = g7 at *
        try simp only [Act.put, List.setIfInBounds_toArray, List.set_cons_zero, List.set_cons_succ]
        refine wpE_br rfl rfl (fun K hK => ?_) ?_
        · go_simp
          refine (c_weigh_any _ _ _ _ _ h').mono ?_
          rintro e u13 ⟨rfl, he⟩
          refine hK.out _ _ (he.mono hs) ?_
          clear hK K
          replace o7 := o7.ext he
          replace HB := HB.trans (he.mono hs)
          replace hs := Nat.le_trans hs he.size
          clear he
          try simp only [Act.put, List.setIfInBounds_toArray, List.set_cons_zero, List.set_cons_succ]
          refine wpE_l rfl rfl (fun K hK => ?_)
          go_simp
          refine hK.out _ _ ((Below.refl _ _).alloc hs _) ?_
          clear hK K
          have o8 := Own.new hs 23
          have hlt := o7.2.1
          replace o7 := o7.ext ((Ext.refl _).alloc (.cells #[.int .u8 0, .int .u8 0, .int .u8 0, .int .u8 0] 23))
          replace HB := HB.trans ((Below.refl _ _).alloc hs (.cells #[.int .u8 0, .int .u8 0, .int .u8 0, .int .u8 0] 23))
          have hs2 : w0.heap.size ≤ (World.alloc u13 (.cells #[.int .u8 0, .int .u8 0, .int .u8 0, .int .u8 0] 23)).heap.size := by simp; omega
          generalize World.alloc u13 (.cells #[.int .u8 0, .int .u8 0, .int .u8 0, .int .u8 0] 23) = u14 at *
          clear hs
          have hs := hs2
          clear hs2
          generalize u13.heap.size = g8 at *
          have hne : ¬ g7 = g8 := by omega
          clear hlt
          try simp only [Act.put, List.setIfInBounds_toArray, List.set_cons_zero, List.set_cons_succ]
          refine wpE_l rfl rfl (fun K hK => ?_)
          obtain ⟨n1, n2, ⟨k0, k1, k2, k3⟩, hz⟩ := id o7
          have z0 := hz 0
          have z1 := hz 1
          have z2 := hz 2
          have z3 := hz 3
          clear hz
          go_simp
          refine hK.out _ _ (puts_below u14 g7 (fadr a r r) (fadr a g g) (fadr a b b) (a) n1) ?_
          clear hK K
          clear n2 k0 k1 k2 k3 z0 z1 z2 z3
          have hb := puts_below (n := w0.heap.size) u14 g7 (fadr a r r) (fadr a g g) (fadr a b b) (a) n1
          replace o7 := o7.put (fadr a r r) (fadr a g g) (fadr a b b) (a)
          replace o8 := o8.other (g' := g7) (by omega) (fadr a r r) (fadr a g g) (fadr a b b) (a)
          replace HB := HB.trans hb
          replace hs := Nat.le_trans hs hb.size
          clear n1 hb
          change wpE _ _ _ _ _ _ (puts u14 g7 (fadr a r r) (fadr a g g) (fadr a b b) (a))
          generalize puts u14 g7 (fadr a r r) (fadr a g g) (fadr a b b) (a) = u15 at *
          try simp only [Act.put, List.setIfInBounds_toArray, List.set_cons_zero, List.set_cons_succ]
          refine wpE_b rfl rfl (fun K hK => ?_)
          obtain ⟨n1, n2, ⟨k0, k1, k2, k3⟩, hz⟩ := id o8
          have z0 := hz 0
          have z1 := hz 1
          have z2 := hz 2
          have z3 := hz 3
          clear hz
          go_simp
          refine hK.out _ _ ?_
          clear hK K
          clear n2 k0 k1 k2 k3 z0 z1 z2 z3
          have hb := puts_below (n := w0.heap.size) u15 g8 (fadr a' r' r') (fadr a' g' g') (fadr a' b' b') (a') n1
          replace o8 := o8.put (fadr a' r' r') (fadr a' g' g') (fadr a' b' b') (a')
          replace o7 := o7.other (g' := g8) (by omega) (fadr a' r' r') (fadr a' g' g') (fadr a' b' b') (a')
          replace HB := HB.trans hb
          replace hs := Nat.le_trans hs hb.size
          clear n1 hb
          change wpE _ _ _ _ _ _ (puts u15 g8 (fadr a' r' r') (fadr a' g' g') (fadr a' b' b') (a'))
          generalize puts u15 g8 (fadr a' r' r') (fadr a' g' g') (fadr a' b' b') (a') = u16 at *
          try simp only [Act.put, List.setIfInBounds_toArray, List.set_cons_zero, List.set_cons_succ]
          refine wpE_done ?_
          go_wp2_with fail
          go_meet
          exact ⟨g7, g8, rfl, rfl, by rw [← hz0]; exact o7, by rw [← hz0]; exact o8, hC.below HB (by omega), hD.below HB (by omega), hE.trans HB⟩
        refine wpE_l rfl rfl (fun K hK => ?_)
        go_simp
        refine hK.out _ _ ((Below.refl _ _).alloc hs _) ?_
        clear hK K
        have o8 := Own.new hs 23
        have hlt := o7.2.1
        replace o7 := o7.ext ((Ext.refl _).alloc (.cells #[.int .u8 0, .int .u8 0, .int .u8 0, .int .u8 0] 23))
        replace HB := HB.trans ((Below.refl _ _).alloc hs (.cells #[.int .u8 0, .int .u8 0, .int .u8 0, .int .u8 0] 23))
        have hs2 : w0.heap.size ≤ (World.alloc u12 (.cells #[.int .u8 0, .int .u8 0, .int .u8 0, .int .u8 0] 23)).heap.size := by simp; omega
        generalize World.alloc u12 (.cells #[.int .u8 0, .int .u8 0, .int .u8 0, .int .u8 0] 23) = u17 at *
        clear hs
        have hs := hs2
        clear hs2
        generalize u12.heap.size = g8 at *
        have hne : ¬ g7 = g8 := by omega
        clear hlt
        try simp only [Act.put, List.setIfInBounds_toArray, List.set_cons_zero, List.set_cons_succ]
        refine wpE_l rfl rfl (fun K hK => ?_)
        go_simp
        refine (c_weigh_any _ _ _ _ _ h').mono ?_
        rintro e u18 ⟨rfl, he⟩
        refine hK.out _ _ (he.mono hs) ?_
        clear hK K
        replace o7 := o7.ext he
        replace o8 := o8.ext he
        replace HB := HB.trans (he.mono hs)
        replace hs := Nat.le_trans hs he.size
        clear he
        try simp only [Act.put, List.setIfInBounds_toArray, List.set_cons_zero, List.set_cons_succ]
        refine wpE_l rfl rfl (fun K hK => ?_)
        obtain ⟨n1, n2, ⟨k0, k1, k2, k3⟩, hz⟩ := id o7
        have z0 := hz 0
        have z1 := hz 1
        have z2 := hz 2
        have z3 := hz 3
        clear hz
        go_simp
        refine hK.out _ _ (puts_below u18 g7 (fadr a r r) (fadr a g g) (fadr a b b) (a) n1) ?_
        clear hK K
        clear n2 k0 k1 k2 k3 z0 z1 z2 z3
        have hb := puts_below (n := w0.heap.size) u18 g7 (fadr a r r) (fadr a g g) (fadr a b b) (a) n1
        replace o7 := o7.put (fadr a r r) (fadr a g g) (fadr a b b) (a)
        replace o8 := o8.other (g' := g7) (by omega) (fadr a r r) (fadr a g g) (fadr a b b) (a)
        replace HB := HB.trans hb
        replace hs := Nat.le_trans hs hb.size
        clear n1 hb
        change wpE _ _ _ _ _ _ (puts u18 g7 (fadr a r r) (fadr a g g) (fadr a b b) (a))
        generalize puts u18 g7 (fadr a r r) (fadr a g g) (fadr a b b) (a) = u19 at *
        try simp only [Act.put, List.setIfInBounds_toArray, List.set_cons_zero, List.set_cons_succ]
        refine wpE_b rfl rfl (fun K hK => ?_)
        obtain ⟨n1, n2, ⟨k0, k1, k2, k3⟩, hz⟩ := id o8
        have z0 := hz 0
        have z1 := hz 1
        have z2 := hz 2
        have z3 := hz 3
        clear hz
        go_simp
        refine hK.out _ _ ?_
        clear hK K
        clear n2 k0 k1 k2 k3 z0 z1 z2 z3
        have hb := puts_below (n := w0.heap.size) u19 g8 (fadr a' r' r') (fadr a' g' g') (fadr a' b' b') (a') n1
        replace o8 := o8.put (fadr a' r' r') (fadr a' g' g') (fadr a' b' b') (a')
        replace o7 := o7.other (g' := g8) (by omega) (fadr a' r' r') (fadr a' g' g') (fadr a' b' b') (a')
        replace HB := HB.trans hb
        replace hs := Nat.le_trans hs hb.size
        clear n1 hb
        change wpE _ _ _ _ _ _ (puts u19 g8 (fadr a' r' r') (fadr a' g' g') (fadr a' b' b') (a'))
        generalize puts u19 g8 (fadr a' r' r') (fadr a' g' g') (fadr a' b' b') (a') = u20 at *
        try simp only [Act.put, List.setIfInBounds_toArray, List.set_cons_zero, List.set_cons_succ]
        refine wpE_done ?_
        go_wp2_with fail
        go_meet
        exact ⟨g7, g8, rfl, rfl, by rw [← hz0]; exact o7, by rw [← hz0]; exact o8, hC.below HB (by omega), hD.below HB (by omega), hE.trans HB⟩
      refine wpE_l rfl rfl (fun K hK => ?_)
      go_simp
      refine hK.out _ _ ((Below.refl _ _).alloc hs _) ?_
      clear hK K
      have o8 := Own.new hs 23
      replace HB := HB.trans ((Below.refl _ _).alloc hs (.cells #[.int .u8 0, .int .u8 0, .int .u8 0, .int .u8 0] 23))
      have hs2 : w0.heap.size ≤ (World.alloc u2 (.cells #[.int .u8 0, .int .u8 0, .int .u8 0, .int .u8 0] 23)).heap.size := by simp; omega
      generalize World.alloc u2 (.cells #[.int .u8 0, .int .u8 0, .int .u8 0, .int .u8 0] 23) = u21 at *
      clear hs
      have hs := hs2
      clear hs2
      generalize u2.heap.size = g8 at *
      try simp only [Act.put, List.setIfInBounds_toArray, List.set_cons_zero, List.set_cons_succ]
      refine wpE_br rfl rfl (fun K hK => ?_) ?_
      · go_simp
        refine (c_weigh_any _ _ _ _ _ h').mono ?_
        rintro e u22 ⟨rfl, he⟩
        refine hK.out _ _ (he.mono hs) ?_
        clear hK K
        replace o8 := o8.ext he
        replace HB := HB.trans (he.mono hs)
        replace hs := Nat.le_trans hs he.size
        clear he
        try simp only [Act.put, List.setIfInBounds_toArray, List.set_cons_zero, List.set_cons_succ]
        refine wpE_l rfl rfl (fun K hK => ?_)
        go_simp
        refine hK.out _ _ ((Below.refl _ _).alloc hs _) ?_
        clear hK K
        have o7 := Own.new hs 23
        have hlt := o8.2.1
        replace o8 := o8.ext ((Ext.refl _).alloc (.cells #[.int .u8 0, .int .u8 0, .int .u8 0, .int .u8 0] 23))
        replace HB := HB.trans ((Below.refl _ _).alloc hs (.cells #[.int .u8 0, .int .u8 0, .int .u8 0, .int .u8 0] 23))
        have hs2 : w0.heap.size ≤ (World.alloc u22 (.cells #[.int .u8 0, .int .u8 0, .int .u8 0, .int .u8 0] 23)).heap.size := by simp; omega
        generalize World.alloc u22 (.cells #[.int .u8 0, .int .u8 0, .int .u8 0, .int .u8 0] 23) = u23 at *
        clear hs
        have hs := hs2
        clear hs2
        generalize u22.heap.size = g7 at *
        have hne : ¬ g7 = g8 := by omega
        clear hlt
        try simp only [Act.put, List.setIfInBounds_toArray, List.set_cons_zero, List.set_cons_succ]
        refine wpE_l rfl rfl (fun K hK => ?_)
        obtain ⟨n1, n2, ⟨k0, k1, k2, k3⟩, hz⟩ := id o7
        have z0 := hz 0
        have z1 := hz 1
        have z2 := hz 2
        have z3 := hz 3
        clear hz
        go_simp
        refine hK.out _ _ (puts_below u23 g7 (fadr a r r) (fadr a g g) (fadr a b b) (a) n1) ?_
        clear hK K
        clear n2 k0 k1 k2 k3 z0 z1 z2 z3
        have hb := puts_below (n := w0.heap.size) u23 g7 (fadr a r r) (fadr a g g) (fadr a b b) (a) n1
        replace o7 := o7.put (fadr a r r) (fadr a g g) (fadr a b b) (a)
        replace o8 := o8.other (g' := g7) (by omega) (fadr a r r) (fadr a g g) (fadr a b b) (a)
        replace HB := HB.trans hb
        replace hs := Nat.le_trans hs hb.size
        clear n1 hb
        change wpE _ _ _ _ _ _ (puts u23 g7 (fadr a r r) (fadr a g g) (fadr a b b) (a))
        generalize puts u23 g7 (fadr a r r) (fadr a g g) (fadr a b b) (a) = u24 at *
        try simp only [Act.put, List.setIfInBounds_toArray, List.set_cons_zero, List.set_cons_succ]
        refine wpE_b rfl rfl (fun K hK => ?_)
        obtain ⟨n1, n2, ⟨k0, k1, k2, k3⟩, hz⟩ := id o8
        have z0 := hz 0
        have z1 := hz 1
        have z2 := hz 2
        have z3 := hz 3
        clear hz
        go_simp
        refine hK.out _ _ ?_
        clear hK K
        clear n2 k0 k1 k2 k3 z0 z1 z2 z3
        have hb := puts_below (n := w0.heap.size) u24 g8 (fadr a' r' r') (fadr a' g' g') (fadr a' b' b') (a') n1
        replace o8 := o8.put (fadr a' r' r') (fadr a' g' g') (fadr a' b' b') (a')
        replace o7 := o7.other (g' := g8) (by omega) (fadr a' r' r') (fadr a' g' g') (fadr a' b' b') (a')
        replace HB := HB.trans hb
        replace hs := Nat.le_trans hs hb.size
        clear n1 hb
        change wpE _ _ _ _ _ _ (puts u24 g8 (fadr a' r' r') (fadr a' g' g') (fadr a' b' b') (a'))
        generalize puts u24 g8 (fadr a' r' r') (fadr a' g' g') (fadr a' b' b') (a') = u25 at *
        try simp only [Act.put, List.setIfInBounds_toArray, List.set_cons_zero, List.set_cons_succ]
        refine wpE_done ?_
        go_wp2_with fail
        go_meet
        exact ⟨g7, g8, rfl, rfl, by rw [← hz0]; exact o7, by rw [← hz0]; exact o8, hC.below HB (by omega), hD.below HB (by omega), hE.trans HB⟩
      refine wpE_l rfl rfl (fun K hK => ?_)
      go_simp
      refine hK.out _ _ ((Below.refl _ _).alloc hs _) ?_
      clear hK K
      have o7 := Own.new hs 23
      have hlt := o8.2.1
      replace o8 := o8.ext ((Ext.refl _).alloc (.cells #[.int .u8 0, .int .u8 0, .int .u8 0, .int .u8 0] 23))
      replace HB := HB.trans ((Below.refl _ _).alloc hs (.cells #[.int .u8 0, .int .u8 0, .int .u8 0, .int .u8 0] 23))
      have hs2 : w0.heap.size ≤ (World.alloc u21 (.cells #[.int .u8 0, .int .u8 0, .int .u8 0, .int .u8 0] 23)).heap.size := by simp; omega
      generalize World.alloc u21 (.cells #[.int .u8 0, .int .u8 0, .int .u8 0, .int .u8 0] 23) = u26 at *
      clear hs
      have hs := hs2
      clear hs2
      generalize u21.heap.size = g7 at *
      have hne : ¬ g7 = g8 := by omega
      clear hlt
      try simp only [Act.put, List.setIfInBounds_toArray, List.set_cons_zero, List.set_cons_succ]
      refine wpE_l rfl rfl (fun K hK => ?_)
      go_simp
      refine (c_weigh_any _ _ _ _ _ h').mono ?_
      rintro e u27 ⟨rfl, he⟩
      refine hK.out _ _ (he.mono hs) ?_
      clear hK K
      replace o7 := o7.ext he
      replace o8 := o8.ext he
      replace HB := HB.trans (he.mono hs)
      replace hs := Nat.le_trans hs he.size
      clear he
      try simp only [Act.put, List.setIfInBounds_toArray, List.set_cons_zero, List.set_cons_succ]
      refine wpE_l rfl rfl (fun K hK => ?_)
      obtain ⟨n1, n2, ⟨k0, k1, k2, k3⟩, hz⟩ := id o7
      have z0 := hz 0
      have z1 := hz 1
      have z2 := hz 2
      have z3 := hz 3
      clear hz
      go_simp
      refine hK.out _ _ (puts_below u27 g7 (fadr a r r) (fadr a g g) (fadr a b b) (a) n1) ?_
      clear hK K
      clear n2 k0 k1 k2 k3 z0 z1 z2 z3
      have hb := puts_below (n := w0.heap.size) u27 g7 (fadr a r r) (fadr a g g) (fadr a b b) (a) n1
      replace o7 := o7.put (fadr a r r) (fadr a g g) (fadr a b b) (a)
      replace o8 := o8.other (g' := g7) (by omega) (fadr a r r) (fadr a g g) (fadr a b b) (a)
      replace HB := HB.trans hb
      replace hs := Nat.le_trans hs hb.size
      clear n1 hb
      change wpE _ _ _ _ _ _ (puts u27 g7 (fadr a r r) (fadr a g g) (fadr a b b) (a))
      generalize puts u27 g7 (fadr a r r) (fadr a g g) (fadr a b b) (a) = u28 at *
      try simp only [Act.put, List.setIfInBounds_toArray, List.set_cons_zero, List.set_cons_succ]
      refine wpE_b rfl rfl (fun K hK => ?_)
      obtain ⟨n1, n2, ⟨k0, k1, k2, k3⟩, hz⟩ := id o8
      have z0 := hz 0
      have z1 := hz 1
      have z2 := hz 2
      have z3 := hz 3
      clear hz
      go_simp
      refine hK.out _ _ ?_
      clear hK K
      clear n2 k0 k1 k2 k3 z0 z1 z2 z3
      have hb := puts_below (n := w0.heap.size) u28 g8 (fadr a' r' r') (fadr a' g' g') (fadr a' b' b') (a') n1
      replace o8 := o8.put (fadr a' r' r') (fadr a' g' g') (fadr a' b' b') (a')
      replace o7 := o7.other (g' := g8) (by omega) (fadr a' r' r') (fadr a' g' g') (fadr a' b' b') (a')
      replace HB := HB.trans hb
      replace hs := Nat.le_trans hs hb.size
      clear n1 hb
      change wpE _ _ _ _ _ _ (puts u28 g8 (fadr a' r' r') (fadr a' g' g') (fadr a' b' b') (a'))
      generalize puts u28 g8 (fadr a' r' r') (fadr a' g' g') (fadr a' b' b') (a') = u29 at *
      try simp only [Act.put, List.setIfInBounds_toArray, List.set_cons_zero, List.set_cons_succ]
      refine wpE_done ?_
      go_wp2_with fail
      go_meet
      exact ⟨g7, g8, rfl, rfl, by rw [← hz0]; exact o7, by rw [← hz0]; exact o8, hC.below HB (by omega), hD.below HB (by omega), hE.trans HB⟩
    refine wpE_br rfl rfl (fun K hK => ?_) ?_
    · go_simp
      refine hK.out _ _ ((Below.refl _ _).alloc hs _) ?_
      clear hK K
      have o7 := Own.new hs 23
      replace HB := HB.trans ((Below.refl _ _).alloc hs (.cells #[.int .u8 0, .int .u8 0, .int .u8 0, .int .u8 0] 23))
      have hs2 : w0.heap.size ≤ (World.alloc u1 (.cells #[.int .u8 0, .int .u8 0, .int .u8 0, .int .u8 0] 23)).heap.size := by simp; omega
      generalize World.alloc u1 (.cells #[.int .u8 0, .int .u8 0, .int .u8 0, .int .u8 0] 23) = u30 at *
      clear hs
      have hs := hs2
      clear hs2
      generalize u1.heap.size = g7 at *
      try simp only [Act.put, List.setIfInBounds_toArray, List.set_cons_zero, List.set_cons_succ]
      refine wpE_br rfl rfl (fun K hK => ?_) ?_
      · go_simp
        refine (c_weigh_any _ _ _ _ _ h).mono ?_
        rintro e u31 ⟨rfl, he⟩
        refine hK.out _ _ (he.mono hs) ?_
        clear hK K
        replace o7 := o7.ext he
        replace HB := HB.trans (he.mono hs)
        replace hs := Nat.le_trans hs he.size
        clear he
        try simp only [Act.put, List.setIfInBounds_toArray, List.set_cons_zero, List.set_cons_succ]
        refine wpE_br rfl rfl (fun K hK => ?_) ?_
        · go_simp
          refine (c_weigh_any _ _ _ _ _ h').mono ?_
          rintro e u32 ⟨rfl, he⟩
          refine hK.out _ _ (he.mono hs) ?_
          clear hK K
          replace o7 := o7.ext he
          replace HB := HB.trans (he.mono hs)
          replace hs := Nat.le_trans hs he.size
          clear he
          try simp only [Act.put, List.setIfInBounds_toArray, List.set_cons_zero, List.set_cons_succ]
          refine wpE_l rfl rfl (fun K hK => ?_)
          go_simp
          refine hK.out _ _ ((Below.refl _ _).alloc hs _) ?_
          clear hK K
          have o8 := Own.new hs 23
          have hlt := o7.2.1
          replace o7 := o7.ext ((Ext.refl _).alloc (.cells #[.int .u8 0, .int .u8 0, .int .u8 0, .int .u8 0] 23))
          replace HB := HB.trans ((Below.refl _ _).alloc hs (.cells #[.int .u8 0, .int .u8 0, .int .u8 0, .int .u8 0] 23))
          have hs2 : w0.heap.size ≤ (World.alloc u32 (.cells #[.int .u8 0, .int .u8 0, .int .u8 0, .int .u8 0] 23)).heap.size := by simp; omega
          generalize World.alloc u32 (.cells #[.int .u8 0, .int .u8 0, .int .u8 0, .int .u8 0] 23) = u33 at *
          clear hs
          have hs := hs2
          clear hs2
          generalize u32.heap.size = g8 at *
          have hne : ¬ g7 = g8 := by omega
          clear hlt
          try simp only [Act.put, List.setIfInBounds_toArray, List.set_cons_zero, List.set_cons_succ]
          refine wpE_l rfl rfl (fun K hK => ?_)
          obtain ⟨n1, n2, ⟨k0, k1, k2, k3⟩, hz⟩ := id o7
          have z0 := hz 0
          have z1 := hz 1
          have z2 := hz 2
          have z3 := hz 3
          clear hz
          go_simp
          refine hK.out _ _ (puts_below u33 g7 (fadr a r r) (fadr a g g) (fadr a b b) (a) n1) ?_
          clear hK K
          clear n2 k0 k1 k2 k3 z0 z1 z2 z3
          have hb := puts_below (n := w0.heap.size) u33 g7 (fadr a r r) (fadr a g g) (fadr a b b) (a) n1
          replace o7 := o7.put (fadr a r r) (fadr a g g) (fadr a b b) (a)
          replace o8 := o8.other (g' := g7) (by omega) (fadr a r r) (fadr a g g) (fadr a b b) (a)
          replace HB := HB.trans hb
          replace hs := Nat.le_trans hs hb.size
          clear n1 hb
          change wpE _ _ _ _ _ _ (puts u33 g7 (fadr a r r) (fadr a g g) (fadr a b b) (a))
          generalize puts u33 g7 (fadr a r r) (fadr a g g) (fadr a b b) (a) = u34 at *
          try simp only [Act.put, List.setIfInBounds_toArray, List.set_cons_zero, List.set_cons_succ]
          refine wpE_b rfl rfl (fun K hK => ?_)
          obtain ⟨n1, n2, ⟨k0, k1, k2, k3⟩, hz⟩ := id o8
          have z0 := hz 0
          have z1 := hz 1
          have z2 := hz 2
          have z3 := hz 3
          clear hz
          go_simp
          refine hK.out _ _ ?_
          clear hK K
          clear n2 k0 k1 k2 k3 z0 z1 z2 z3
          have hb := puts_below (n := w0.heap.size) u34 g8 (fadr a' r' r') (fadr a' g' g') (fadr a' b' b') (a') n1
          replace o8 := o8.put (fadr a' r' r') (fadr a' g' g') (fadr a' b' b') (a')
          replace o7 := o7.other (g' := g8) (by omega) (fadr a' r' r') (fadr a' g' g') (fadr a' b' b') (a')
          replace HB := HB.trans hb
          replace hs := Nat.le_trans hs hb.size
          clear n1 hb
          change wpE _ _ _ _ _ _ (puts u34 g8 (fadr a' r' r') (fadr a' g' g') (fadr a' b' b') (a'))
          generalize puts u34 g8 (fadr a' r' r') (fadr a' g' g') (fadr a' b' b') (a') = u35 at *
          try simp only [Act.put, List.setIfInBounds_toArray, List.set_cons_zero, List.set_cons_succ]
          refine wpE_done ?_
          go_wp2_with fail
          go_meet
          exact ⟨g7, g8, rfl, rfl, by rw [← hz0]; exact o7, by rw [← hz0]; exact o8, hC.below HB (by omega), hD.below HB (by omega), hE.trans HB⟩
        refine wpE_l rfl rfl (fun K hK => ?_)
        go_simp
        refine hK.out _ _ ((Below.refl _ _).alloc hs _) ?_
        clear hK K
        have o8 := Own.new hs 23
        have hlt := o7.2.1
        replace o7 := o7.ext ((Ext.refl _).alloc (.cells #[.int .u8 0, .int .u8 0, .int .u8 0, .int .u8 0] 23))
        replace HB := HB.trans ((Below.refl _ _).alloc hs (.cells #[.int .u8 0, .int .u8 0, .int .u8 0, .int .u8 0] 23))
        have hs2 : w0.heap.size ≤ (World.alloc u31 (.cells #[.int .u8 0, .int .u8 0, .int .u8 0, .int .u8 0] 23)).heap.size := by simp; omega
        generalize World.alloc u31 (.cells #[.int .u8 0, .int .u8 0, .int .u8 0, .int .u8 0] 23) = u36 at *
        clear hs
        have hs := hs2
        clear hs2
        generalize u31.heap.size = g8 at *
        have hne : ¬ g7 = g8 := by omega
        clear hlt
        try simp only [Act.put, List.setIfInBounds_toArray, List.set_cons_zero, List.set_cons_succ]
        refine wpE_l rfl rfl (fun K hK => ?_)
        go_simp
        refine (c_weigh_any _ _ _ _ _ h').mono ?_
        rintro e u37 ⟨rfl, he⟩
        refine hK.out _ _ (he.mono hs) ?_
        clear hK K
        replace o7 := o7.ext he
        replace o8 := o8.ext he
        replace HB := HB.trans (he.mono hs)
        replace hs := Nat.le_trans hs he.size
        clear he
        try simp only [Act.put, List.setIfInBounds_toArray, List.set_cons_zero, List.set_cons_succ]
        refine wpE_l rfl rfl (fun K hK => ?_)
        obtain ⟨n1, n2, ⟨k0, k1, k2, k3⟩, hz⟩ := id o7
        have z0 := hz 0
        have z1 := hz 1
        have z2 := hz 2
        have z3 := hz 3
        clear hz
        go_simp
        refine hK.out _ _ (puts_below u37 g7 (fadr a r r) (fadr a g g) (fadr a b b) (a) n1) ?_
        clear hK K
        clear n2 k0 k1 k2 k3 z0 z1 z2 z3
        have hb := puts_below (n := w0.heap.size) u37 g7 (fadr a r r) (fadr a g g) (fadr a b b) (a) n1
        replace o7 := o7.put (fadr a r r) (fadr a g g) (fadr a b b) (a)
        replace o8 := o8.other (g' := g7) (by omega) (fadr a r r) (fadr a g g) (fadr a b b) (a)
        replace HB := HB.trans hb
        replace hs := Nat.le_trans hs hb.size
        clear n1 hb
        change wpE _ _ _ _ _ _ (puts u37 g7 (fadr a r r) (fadr a g g) (fadr a b b) (a))
        generalize puts u37 g7 (fadr a r r) (fadr a g g) (fadr a b b) (a) = u38 at *
        try simp only [Act.put, List.setIfInBounds_toArray, List.set_cons_zero, List.set_cons_succ]
        refine wpE_b rfl rfl (fun K hK => ?_)
        obtain ⟨n1, n2, ⟨k0, k1, k2, k3⟩, hz⟩ := id o8
        have z0 := hz 0
        have z1 := hz 1
        have z2 := hz 2
        have z3 := hz 3
        clear hz
        go_simp
        refine hK.out _ _ ?_
        clear hK K
        clear n2 k0 k1 k2 k3 z0 z1 z2 z3
        have hb := puts_below (n := w0.heap.size) u38 g8 (fadr a' r' r') (fadr a' g' g') (fadr a' b' b') (a') n1
        replace o8 := o8.put (fadr a' r' r') (fadr a' g' g') (fadr a' b' b') (a')
        replace o7 := o7.other (g' := g8) (by omega) (fadr a' r' r') (fadr a' g' g') (fadr a' b' b') (a')
        replace HB := HB.trans hb
        replace hs := Nat.le_trans hs hb.size
        clear n1 hb
        change wpE _ _ _ _ _ _ (puts u38 g8 (fadr a' r' r') (fadr a' g' g') (fadr a' b' b') (a'))
        generalize puts u38 g8 (fadr a' r' r') (fadr a' g' g') (fadr a' b' b') (a') = u39 at *
        try simp only [Act.put, List.setIfInBounds_toArray, List.set_cons_zero, List.set_cons_succ]
        refine wpE_done ?_
        go_wp2_with fail
        go_meet
        exact ⟨g7, g8, rfl, rfl, by rw [← hz0]; exact o7, by rw [← hz0]; exact o8, hC.below HB (by omega), hD.below HB (by omega), hE.trans HB⟩
      refine wpE_l rfl rfl (fun K hK => ?_)
      go_simp
      refine hK.out _ _ ((Below.refl _ _).alloc hs _) ?_
      clear hK K
      have o8 := Own.new hs 23
      have hlt := o7.2.1
      replace o7 := o7.ext ((Ext.refl _).alloc (.cells #[.int .u8 0, .int .u8 0, .int .u8 0, .int .u8 0] 23))
      replace HB := HB.trans ((Below.refl _ _).alloc hs (.cells #[.int .u8 0, .int .u8 0, .int .u8 0, .int .u8 0] 23))
      have hs2 : w0.heap.size ≤ (World.alloc u30 (.cells #[.int .u8 0, .int .u8 0, .int .u8 0, .int .u8 0] 23)).heap.size := by simp; omega
      generalize World.alloc u30 (.cells #[.int .u8 0, .int .u8 0, .int .u8 0, .int .u8 0] 23) = u40 at *
      clear hs
      have hs := hs2
      clear hs2
      generalize u30.heap.size = g8 at *
      have hne : ¬ g7 = g8 := by omega
      clear hlt
      try simp only [Act.put, List.setIfInBounds_toArray, List.set_cons_zero, List.set_cons_succ]
      refine wpE_l rfl rfl (fun K hK => ?_)
      go_simp
      refine (c_weigh_any _ _ _ _ _ h).mono ?_
      rintro e u41 ⟨rfl, he⟩
      refine hK.out _ _ (he.mono hs) ?_
      clear hK K
      replace o7 := o7.ext he
      replace o8 := o8.ext he
      replace HB := HB.trans (he.mono hs)
      replace hs := Nat.le_trans hs he.size
      clear he
      try simp only [Act.put, List.setIfInBounds_toArray, List.set_cons_zero, List.set_cons_succ]
      refine wpE_l rfl rfl (fun K hK => ?_)
      go_simp
      refine (c_weigh_any _ _ _ _ _ h').mono ?_
      rintro e u42 ⟨rfl, he⟩
      refine hK.out _ _ (he.mono hs) ?_
      clear hK K
      replace o7 := o7.ext he
      replace o8 := o8.ext he
      replace HB := HB.trans (he.mono hs)
      replace hs := Nat.le_trans hs he.size
      clear he
      try simp only [Act.put, List.setIfInBounds_toArray, List.set_cons_zero, List.set_cons_succ]
      refine wpE_l rfl rfl (fun K hK => ?_)
      obtain ⟨n1, n2, ⟨k0, k1, k2, k3⟩, hz⟩ := id o7
      have z0 := hz 0
      have z1 := hz 1
      have z2 := hz 2
      have z3 := hz 3
      clear hz
      go_simp
      refine hK.out _ _ (puts_below u42 g7 (fadr a r r) (fadr a g g) (fadr a b b) (a) n1) ?_
      clear hK K
      clear n2 k0 k1 k2 k3 z0 z1 z2 z3
      have hb := puts_below (n := w0.heap.size) u42 g7 (fadr a r r) (fadr a g g) (fadr a b b) (a) n1
      replace o7 := o7.put (fadr a r r) (fadr a g g) (fadr a b b) (a)
      replace o8 := o8.other (g' := g7) (by omega) (fadr a r r) (fadr a g g) (fadr a b b) (a)
      replace HB := HB.trans hb
      replace hs := Nat.le_trans hs hb.size
      clear n1 hb
      change wpE _ _ _ _ _ _ (puts u42 g7 (fadr a r r) (fadr a g g) (fadr a b b) (a))
      generalize puts u42 g7 (fadr a r r) (fadr a g g) (fadr a b b) (a) = u43 at *
      try simp only [Act.put, List.setIfInBounds_toArray, List.set_cons_zero, List.set_cons_succ]
      refine wpE_b rfl rfl (fun K hK => ?_)
      obtain ⟨n1, n2, ⟨k0, k1, k2, k3⟩, hz⟩ := id o8
      have z0 := hz 0
      have z1 := hz 1
      have z2 := hz 2
      have z3 := hz 3
      clear hz
      go_simp
      refine hK.out _ _ ?_
      clear hK K
      clear n2 k0 k1 k2 k3 z0 z1 z2 z3
      have hb := puts_below (n := w0.heap.size) u43 g8 (fadr a' r' r') (fadr a' g' g') (fadr a' b' b') (a') n1
      replace o8 := o8.put (fadr a' r' r') (fadr a' g' g') (fadr a' b' b') (a')
      replace o7 := o7.other (g' := g8) (by omega) (fadr a' r' r') (fadr a' g' g') (fadr a' b' b') (a')
      replace HB := HB.trans hb
      replace hs := Nat.le_trans hs hb.size
      clear n1 hb
      change wpE _ _ _ _ _ _ (puts u43 g8 (fadr a' r' r') (fadr a' g' g') (fadr a' b' b') (a'))
      generalize puts u43 g8 (fadr a' r' r') (fadr a' g' g') (fadr a' b' b') (a') = u44 at *
      try simp only [Act.put, List.setIfInBounds_toArray, List.set_cons_zero, List.set_cons_succ]
      refine wpE_done ?_
      go_wp2_with fail
      go_meet
      exact ⟨g7, g8, rfl, rfl, by rw [← hz0]; exact o7, by rw [← hz0]; exact o8, hC.below HB (by omega), hD.below HB (by omega), hE.trans HB⟩
    refine wpE_l rfl rfl (fun K hK => ?_)
    go_simp
    refine hK.out _ _ ((Below.refl _ _).alloc hs _) ?_
    clear hK K
    have o8 := Own.new hs 23
    replace HB := HB.trans ((Below.refl _ _).alloc hs (.cells #[.int .u8 0, .int .u8 0, .int .u8 0, .int .u8 0] 23))
    have hs2 : w0.heap.size ≤ (World.alloc u1 (.cells #[.int .u8 0, .int .u8 0, .int .u8 0, .int .u8 0] 23)).heap.size := by simp; omega
    generalize World.alloc u1 (.cells #[.int .u8 0, .int .u8 0, .int .u8 0, .int .u8 0] 23) = u45 at *
    clear hs
    have hs := hs2
    clear hs2
    generalize u1.heap.size = g8 at *
    try simp only [Act.put, List.setIfInBounds_toArray, List.set_cons_zero, List.set_cons_succ]
    refine wpE_br rfl rfl (fun K hK => ?_) ?_
    · go_simp
      refine (c_weigh_any _ _ _ _ _ h).mono ?_
      rintro e u46 ⟨rfl, he⟩
      refine hK.out _ _ (he.mono hs) ?_
      clear hK K
      replace o8 := o8.ext he
      replace HB := HB.trans (he.mono hs)
      replace hs := Nat.le_trans hs he.size
      clear he
      try simp only [Act.put, List.setIfInBounds_toArray, List.set_cons_zero, List.set_cons_succ]
      refine wpE_br rfl rfl (fun K hK => ?_) ?_
      · go_simp
        refine (c_weigh_any _ _ _ _ _ h').mono ?_
        rintro e u47 ⟨rfl, he⟩
        refine hK.out _ _ (he.mono hs) ?_
        clear hK K
        replace o8 := o8.ext he
        replace HB := HB.trans (he.mono hs)
        replace hs := Nat.le_trans hs he.size
        clear he
        try simp only [Act.put, List.setIfInBounds_toArray, List.set_cons_zero, List.set_cons_succ]
        refine wpE_l rfl rfl (fun K hK => ?_)
        go_simp
        refine hK.out _ _ ((Below.refl _ _).alloc hs _) ?_
        clear hK K
        have o7 := Own.new hs 23
        have hlt := o8.2.1
        replace o8 := o8.ext ((Ext.refl _).alloc (.cells #[.int .u8 0, .int .u8 0, .int .u8 0, .int .u8 0] 23))
        replace HB := HB.trans ((Below.refl _ _).alloc hs (.cells #[.int .u8 0, .int .u8 0, .int .u8 0, .int .u8 0] 23))
        have hs2 : w0.heap.size ≤ (World.alloc u47 (.cells #[.int .u8 0, .int .u8 0, .int .u8 0, .int .u8 0] 23)).heap.size := by simp; omega
        generalize World.alloc u47 (.cells #[.int .u8 0, .int .u8 0, .int .u8 0, .int .u8 0] 23) = u48 at *
        clear hs
        have hs := hs2
        clear hs2
        generalize u47.heap.size = g7 at *
        have hne : ¬ g7 = g8 := by omega
        clear hlt
        try simp only [Act.put, List.setIfInBounds_toArray, List.set_cons_zero, List.set_cons_succ]
        refine wpE_l rfl rfl (fun K hK => ?_)
        obtain ⟨n1, n2, ⟨k0, k1, k2, k3⟩, hz⟩ := id o7
        have z0 := hz 0
        have z1 := hz 1
        have z2 := hz 2
        have z3 := hz 3
        clear hz
        go_simp
        refine hK.out _ _ (puts_below u48 g7 (fadr a r r) (fadr a g g) (fadr a b b) (a) n1) ?_
        clear hK K
        clear n2 k0 k1 k2 k3 z0 z1 z2 z3
        have hb := puts_below (n := w0.heap.size) u48 g7 (fadr a r r) (fadr a g g) (fadr a b b) (a) n1
        replace o7 := o7.put (fadr a r r) (fadr a g g) (fadr a b b) (a)
        replace o8 := o8.other (g' := g7) (by omega) (fadr a r r) (fadr a g g) (fadr a b b) (a)
        replace HB := HB.trans hb
        replace hs := Nat.le_trans hs hb.size
        clear n1 hb
        change wpE _ _ _ _ _ _ (puts u48 g7 (fadr a r r) (fadr a g g) (fadr a b b) (a))
        generalize puts u48 g7 (fadr a r r) (fadr a g g) (fadr a b b) (a) = u49 at *
        try simp only [Act.put, List.setIfInBounds_toArray, List.set_cons_zero, List.set_cons_succ]
        refine wpE_b rfl rfl (fun K hK => ?_)
        obtain ⟨n1, n2, ⟨k0, k1, k2, k3⟩, hz⟩ := id o8
        have z0 := hz 0
        have z1 := hz 1
        have z2 := hz 2
        have z3 := hz 3
        clear hz
        go_simp
        refine hK.out _ _ ?_
        clear hK K
        clear n2 k0 k1 k2 k3 z0 z1 z2 z3
        have hb := puts_below (n := w0.heap.size) u49 g8 (fadr a' r' r') (fadr a' g' g') (fadr a' b' b') (a') n1
        replace o8 := o8.put (fadr a' r' r') (fadr a' g' g') (fadr a' b' b') (a')
        replace o7 := o7.other (g' := g8) (by omega) (fadr a' r' r') (fadr a' g' g') (fadr a' b' b') (a')
        replace HB := HB.trans hb
        replace hs := Nat.le_trans hs hb.size
        clear n1 hb
        change wpE _ _ _ _ _ _ (puts u49 g8 (fadr a' r' r') (fadr a' g' g') (fadr a' b' b') (a'))
        generalize puts u49 g8 (fadr a' r' r') (fadr a' g' g') (fadr a' b' b') (a') = u50 at *
        try simp only [Act.put, List.setIfInBounds_toArray, List.set_cons_zero, List.set_cons_succ]
        refine wpE_done ?_
        go_wp2_with fail
        go_meet
        exact ⟨g7, g8, rfl, rfl, by rw [← hz0]; exact o7, by rw [← hz0]; exact o8, hC.below HB (by omega), hD.below HB (by omega), hE.trans HB⟩
      refine wpE_l rfl rfl (fun K hK => ?_)
      go_simp
      refine hK.out _ _ ((Below.refl _ _).alloc hs _) ?_
      clear hK K
      have o7 := Own.new hs 23
      have hlt := o8.2.1
      replace o8 := o8.ext ((Ext.refl _).alloc (.cells #[.int .u8 0, .int .u8 0, .int .u8 0, .int .u8 0] 23))
      replace HB := HB.trans ((Below.refl _ _).alloc hs (.cells #[.int .u8 0, .int .u8 0, .int .u8 0, .int .u8 0] 23))
      have hs2 : w0.heap.size ≤ (World.alloc u46 (.cells #[.int .u8 0, .int .u8 0, .int .u8 0, .int .u8 0] 23)).heap.size := by simp; omega
      generalize World.alloc u46 (.cells #[.int .u8 0, .int .u8 0, .int .u8 0, .int .u8 0] 23) = u51 at *
      clear hs
      have hs := hs2
      clear hs2
      generalize u46.heap.size = g7 at *
      have hne : ¬ g7 = g8 := by omega
      clear hlt
      try simp only [Act.put, List.setIfInBounds_toArray, List.set_cons_zero, List.set_cons_succ]
      refine wpE_l rfl rfl (fun K hK => ?_)
      go_simp
      refine (c_weigh_any _ _ _ _ _ h').mono ?_
      rintro e u52 ⟨rfl, he⟩
      refine hK.out _ _ (he.mono hs) ?_
      clear hK K
      replace o7 := o7.ext he
      replace o8 := o8.ext he
      replace HB := HB.trans (he.mono hs)
      replace hs := Nat.le_trans hs he.size
      clear he
      try simp only [Act.put, List.setIfInBounds_toArray, List.set_cons_zero, List.set_cons_succ]
      refine wpE_l rfl rfl (fun K hK => ?_)
      obtain ⟨n1, n2, ⟨k0, k1, k2, k3⟩, hz⟩ := id o7
      have z0 := hz 0
      have z1 := hz 1
      have z2 := hz 2
      have z3 := hz 3
      clear hz
      go_simp
      refine hK.out _ _ (puts_below u52 g7 (fadr a r r) (fadr a g g) (fadr a b b) (a) n1) ?_
      clear hK K
      clear n2 k0 k1 k2 k3 z0 z1 z2 z3
      have hb := puts_below (n := w0.heap.size) u52 g7 (fadr a r r) (fadr a g g) (fadr a b b) (a) n1
      replace o7 := o7.put (fadr a r r) (fadr a g g) (fadr a b b) (a)
      replace o8 := o8.other (g' := g7) (by omega) (fadr a r r) (fadr a g g) (fadr a b b) (a)
      replace HB := HB.trans hb
      replace hs := Nat.le_trans hs hb.size
      clear n1 hb
      change wpE _ _ _ _ _ _ (puts u52 g7 (fadr a r r) (fadr a g g) (fadr a b b) (a))
      generalize puts u52 g7 (fadr a r r) (fadr a g g) (fadr a b b) (a) = u53 at *
      try simp only [Act.put, List.setIfInBounds_toArray, List.set_cons_zero, List.set_cons_succ]
      refine wpE_b rfl rfl (fun K hK => ?_)
      obtain ⟨n1, n2, ⟨k0, k1, k2, k3⟩, hz⟩ := id o8
      have z0 := hz 0
      have z1 := hz 1
      have z2 := hz 2
      have z3 := hz 3
      clear hz
      go_simp
      refine hK.out _ _ ?_
      clear hK K
      clear n2 k0 k1 k2 k3 z0 z1 z2 z3
      have hb := puts_below (n := w0.heap.size) u53 g8 (fadr a' r' r') (fadr a' g' g') (fadr a' b' b') (a') n1
      replace o8 := o8.put (fadr a' r' r') (fadr a' g' g') (fadr a' b' b') (a')
      replace o7 := o7.other (g' := g8) (by omega) (fadr a' r' r') (fadr a' g' g') (fadr a' b' b') (a')
      replace HB := HB.trans hb
      replace hs := Nat.le_trans hs hb.size
      clear n1 hb
      change wpE _ _ _ _ _ _ (puts u53 g8 (fadr a' r' r') (fadr a' g' g') (fadr a' b' b') (a'))
      generalize puts u53 g8 (fadr a' r' r') (fadr a' g' g') (fadr a' b' b') (a') = u54 at *
      try simp only [Act.put, List.setIfInBounds_toArray, List.set_cons_zero, List.set_cons_succ]
      refine wpE_done ?_
      go_wp2_with fail
      go_meet
      exact ⟨g7, g8, rfl, rfl, by rw [← hz0]; exact o7, by rw [← hz0]; exact o8, hC.below HB (by omega), hD.below HB (by omega), hE.trans HB⟩
    refine wpE_l rfl rfl (fun K hK => ?_)
    go_simp
    refine hK.out _ _ ((Below.refl _ _).alloc hs _) ?_
    clear hK K
    have o7 := Own.new hs 23
    have hlt := o8.2.1
    replace o8 := o8.ext ((Ext.refl _).alloc (.cells #[.int .u8 0, .int .u8 0, .int .u8 0, .int .u8 0] 23))
    replace HB := HB.trans ((Below.refl _ _).alloc hs (.cells #[.int .u8 0, .int .u8 0, .int .u8 0, .int .u8 0] 23))
    have hs2 : w0.heap.size ≤ (World.alloc u45 (.cells #[.int .u8 0, .int .u8 0, .int .u8 0, .int .u8 0] 23)).heap.size := by simp; omega
    generalize World.alloc u45 (.cells #[.int .u8 0, .int .u8 0, .int .u8 0, .int .u8 0] 23) = u55 at *
    clear hs
    have hs := hs2
    clear hs2
    generalize u45.heap.size = g7 at *
    have hne : ¬ g7 = g8 := by omega
    clear hlt
    try simp only [Act.put, List.setIfInBounds_toArray, List.set_cons_zero, List.set_cons_succ]
    refine wpE_l rfl rfl (fun K hK => ?_)
    go_simp
    refine (c_weigh_any _ _ _ _ _ h).mono ?_
    rintro e u56 ⟨rfl, he⟩
    refine hK.out _ _ (he.mono hs) ?_
    clear hK K
    replace o7 := o7.ext he
    replace o8 := o8.ext he
    replace HB := HB.trans (he.mono hs)
    replace hs := Nat.le_trans hs he.size
    clear he
    try simp only [Act.put, List.setIfInBounds_toArray, List.set_cons_zero, List.set_cons_succ]
    refine wpE_l rfl rfl (fun K hK => ?_)
    go_simp
    refine (c_weigh_any _ _ _ _ _ h').mono ?_
    rintro e u57 ⟨rfl, he⟩
    refine hK.out _ _ (he.mono hs) ?_
    clear hK K
    replace o7 := o7.ext he
    replace o8 := o8.ext he
    replace HB := HB.trans (he.mono hs)
    replace hs := Nat.le_trans hs he.size
    clear he
    try simp only [Act.put, List.setIfInBounds_toArray, List.set_cons_zero, List.set_cons_succ]
    refine wpE_l rfl rfl (fun K hK => ?_)
    obtain ⟨n1, n2, ⟨k0, k1, k2, k3⟩, hz⟩ := id o7
    have z0 := hz 0
    have z1 := hz 1
    have z2 := hz 2
    have z3 := hz 3
    clear hz
    go_simp
    refine hK.out _ _ (puts_below u57 g7 (fadr a r r) (fadr a g g) (fadr a b b) (a) n1) ?_
    clear hK K
    clear n2 k0 k1 k2 k3 z0 z1 z2 z3
    have hb := puts_below (n := w0.heap.size) u57 g7 (fadr a r r) (fadr a g g) (fadr a b b) (a) n1
    replace o7 := o7.put (fadr a r r) (fadr a g g) (fadr a b b) (a)
    replace o8 := o8.other (g' := g7) (by omega) (fadr a r r) (fadr a g g) (fadr a b b) (a)
    replace HB := HB.trans hb
    replace hs := Nat.le_trans hs hb.size
    clear n1 hb
    change wpE _ _ _ _ _ _ (puts u57 g7 (fadr a r r) (fadr a g g) (fadr a b b) (a))
    generalize puts u57 g7 (fadr a r r) (fadr a g g) (fadr a b b) (a) = u58 at *
    try simp only [Act.put, List.setIfInBounds_toArray, List.set_cons_zero, List.set_cons_succ]
    refine wpE_b rfl rfl (fun K hK => ?_)
    obtain ⟨n1, n2, ⟨k0, k1, k2, k3⟩, hz⟩ := id o8
    have z0 := hz 0
    have z1 := hz 1
    have z2 := hz 2
    have z3 := hz 3
    clear hz
    go_simp
    refine hK.out _ _ ?_
    clear hK K
    clear n2 k0 k1 k2 k3 z0 z1 z2 z3
    have hb := puts_below (n := w0.heap.size) u58 g8 (fadr a' r' r') (fadr a' g' g') (fadr a' b' b') (a') n1
    replace o8 := o8.put (fadr a' r' r') (fadr a' g' g') (fadr a' b' b') (a')
    replace o7 := o7.other (g' := g8) (by omega) (fadr a' r' r') (fadr a' g' g') (fadr a' b' b') (a')
    replace HB := HB.trans hb
    replace hs := Nat.le_trans hs hb.size
    clear n1 hb
    change wpE _ _ _ _ _ _ (puts u58 g8 (fadr a' r' r') (fadr a' g' g') (fadr a' b' b') (a'))
    generalize puts u58 g8 (fadr a' r' r') (fadr a' g' g') (fadr a' b' b') (a') = u59 at *
    try simp only [Act.put, List.setIfInBounds_toArray, List.set_cons_zero, List.set_cons_succ]
    refine wpE_done ?_
    go_wp2_with fail
    go_meet
    exact ⟨g7, g8, rfl, rfl, by rw [← hz0]; exact o7, by rw [← hz0]; exact o8, hC.below HB (by omega), hD.below HB (by omega), hE.trans HB⟩
  case rest =>
    obtain ⟨g7, g8, rfl, rfl, o7, o8, hC, hD, hE⟩ := hcut
    obtain ⟨hr, hg, hb, ha⟩ := id h
    obtain ⟨hr', hg', hb', ha'⟩ := id h'
    have e1 := weigh_le a r r hr ha
    have e2 := weigh_le a g g hg ha
    have e3 := weigh_le a b b hb ha
    have e4 := weigh_le a' r' r' hr' ha'
    have e5 := weigh_le a' g' g' hg' ha'
    have e6 := weigh_le a' b' b' hb' ha'
    generalize fadr a r r = p at *
    generalize fadr a g g = q at *
    generalize fadr a b b = s at *
    generalize fadr a' r' r' = p' at *
    generalize fadr a' g' g' = q' at *
    generalize fadr a' b' b' = s' at *
    have hX : Col8 p q s a := ⟨by omega, by omega, by omega, ha⟩
    have hY : Col8 p' q' s' a' := ⟨by omega, by omega, by omega, ha'⟩
    have hO : Col8 (covr (255 - a) p p') (covr (255 - a) q q') (covr (255 - a) s s') (covr (255 - a) a a') := ⟨covr_le _ _ _, covr_le _ _ _, covr_le _ _ _, covr_le _ _ _⟩
    have hF : Col8 (fadr n p p) (fadr n q q) (fadr n s s) (fadr n a a) := ⟨fadr_le _ _ _, fadr_le _ _ _, fadr_le _ _ _, fadr_le _ _ _⟩
    have mO := And.intro (covr_mono (255 - a) p a p' a' e1 e4) (And.intro (covr_mono (255 - a) q a q' a' e2 e5) (covr_mono (255 - a) s a s' a' e3 e6))
    have mF := And.intro (fadr_mono n p a p a e1) (And.intro (fadr_mono n q a q a e2) (fadr_mono n s a s a e3))
    have hmore := covr_more (255 - a) a a' ha
    obtain ⟨c0, c1, c2, c3⟩ := id hC
    obtain ⟨d0, d1, d2, d3⟩ := id hD
    obtain ⟨_, _, ⟨x0, x1, x2, x3⟩, _⟩ := id o7
    obtain ⟨_, _, ⟨y0, y1, y2, y3⟩, _⟩ := id o8
    clear hC hD o7 o8
    go_wp2_with fail
    refine (c_weigh_full _ hr hg hb).mono ?_
    rintro e u ⟨rfl, hu⟩
    have HE := hE.trans hu
    replace c0 := hu.cell' c0
    replace c1 := hu.cell' c1
    replace c2 := hu.cell' c2
    replace c3 := hu.cell' c3
    replace d0 := hu.cell' d0
    replace d1 := hu.cell' d1
    replace d2 := hu.cell' d2
    replace d3 := hu.cell' d3
    replace x0 := hu.cell' x0
    replace x1 := hu.cell' x1
    replace x2 := hu.cell' x2
    replace x3 := hu.cell' x3
    replace y0 := hu.cell' y0
    replace y1 := hu.cell' y1
    replace y2 := hu.cell' y2
    replace y3 := hu.cell' y3
    clear hu
    go_upto_region 3 with fail
    have he := (Ext.refl u).alloc (.cells #[.int .u8 (r : Int), .int .u8 (g : Int), .int .u8 (b : Int), .int .u8 255] 23)
    have z0 : (u.alloc (.cells #[.int .u8 (r : Int), .int .u8 (g : Int), .int .u8 (b : Int), .int .u8 255] 23)).cell? ⟨u.heap.size, 0, none⟩ = some (.int .u8 (r : Int)) := by go_simp; try rfl
    have z1 : (u.alloc (.cells #[.int .u8 (r : Int), .int .u8 (g : Int), .int .u8 (b : Int), .int .u8 255] 23)).cell? ⟨u.heap.size, 1, none⟩ = some (.int .u8 (g : Int)) := by go_simp; try rfl
    have z2 : (u.alloc (.cells #[.int .u8 (r : Int), .int .u8 (g : Int), .int .u8 (b : Int), .int .u8 255] 23)).cell? ⟨u.heap.size, 2, none⟩ = some (.int .u8 (b : Int)) := by go_simp; try rfl
    have z3 : (u.alloc (.cells #[.int .u8 (r : Int), .int .u8 (g : Int), .int .u8 (b : Int), .int .u8 255] 23)).cell? ⟨u.heap.size, 3, none⟩ = some (.int .u8 255) := by go_simp; try rfl
    replace HE := HE.trans he
    replace c0 := he.cell' c0
    replace c1 := he.cell' c1
    replace c2 := he.cell' c2
    replace c3 := he.cell' c3
    replace d0 := he.cell' d0
    replace d1 := he.cell' d1
    replace d2 := he.cell' d2
    replace d3 := he.cell' d3
    replace x0 := he.cell' x0
    replace x1 := he.cell' x1
    replace x2 := he.cell' x2
    replace x3 := he.cell' x3
    replace y0 := he.cell' y0
    replace y1 := he.cell' y1
    replace y2 := he.cell' y2
    replace y3 := he.cell' y3
    clear he
    generalize (u.alloc (.cells #[.int .u8 (r : Int), .int .u8 (g : Int), .int .u8 (b : Int), .int .u8 255] 23)) = w0 at *
    generalize u.heap.size = g9 at *
    refine wp_region_plan (R := Ext) (.q 0 (.l 1 (.q 2 (.q 3 (.q 4 (.l 5 (.l 6 (.q 7 (.q 8 (.q 9 (.q 10 (.l 11 (.l 12 (.q 13 (.q 14 (.q 15 (.q 16 (.q 18 (.l 17 (.q 19 (.q 20 (.q 21 (.q 22 (.q 23 (.q 25 (.l 24 (.q 26 (.q 27 (.q 28 (.q 29 (.q 30 (.q 32 (.l 31 (.q 33 (.q 34 (.q 35 (.q 36 (.q 38 (.l 37 (.q 39 (.q 40 (.q 41 (.q 42 (.q 44 (.l 43 (.q 45 (.q 46 (.q 47 (.q 48 (.q 49 (.q 51 (.l 50 (.q 52 (.q 53 (.q 54 (.q 55 (.q 56 (.q 58 (.l 57 (.q 59 (.q 60 (.q 61 (.q 62 (.q 63 (.q 66 (.q 67 (.l 64 (.q 65 (.q 68 (.q 69 (.q 70 (.l 71 (.q 72 (.q 73 .done)))))))))))))))))))))))))))))))))))))))))))))))))))))))))))))))))))))))))) (by kernel_rfl) (by kernel_rfl) (by kernel_rfl) (by kernel_rfl) Ext.refl (fun _ _ _ => Ext.trans) ?_
    have hd : Ext w0 w0.drew := (Ext.refl _).drew
    replace HE := HE.trans hd
    replace c0 := hd.cell' c0
    replace c1 := hd.cell' c1
    replace c2 := hd.cell' c2
    replace c3 := hd.cell' c3
    replace d0 := hd.cell' d0
    replace d1 := hd.cell' d1
    replace d2 := hd.cell' d2
    replace d3 := hd.cell' d3
    replace x0 := hd.cell' x0
    replace x1 := hd.cell' x1
    replace x2 := hd.cell' x2
    replace x3 := hd.cell' x3
    replace y0 := hd.cell' y0
    replace y1 := hd.cell' y1
    replace y2 := hd.cell' y2
    replace y3 := hd.cell' y3
    replace z0 := hd.cell' z0
    replace z1 := hd.cell' z1
    replace z2 := hd.cell' z2
    replace z3 := hd.cell' z3
    clear hd
    generalize w0.drew = w1 at *
    repeat (refine wpE_q (v := ?_) rfl rfl (fun u hu => ?_) ?_; rotate_left 1; (focus ((have k0 := hu.cell' c0; have k1 := hu.cell' c1; have k2 := hu.cell' c2; have k3 := hu.cell' c3; have k4 := hu.cell' d0; have k5 := hu.cell' d1; have k6 := hu.cell' d2; have k7 := hu.cell' d3; have k8 := hu.cell' x0; have k9 := hu.cell' x1; have k10 := hu.cell' x2; have k11 := hu.cell' x3; have k12 := hu.cell' y0; have k13 := hu.cell' y1; have k14 := hu.cell' y2; have k15 := hu.cell' y3; have k16 := hu.cell' z0; have k17 := hu.cell' z1; have k18 := hu.cell' z2; have k19 := hu.cell' z3); go_simp; (try rfl))); simp only [Act.put, List.setIfInBounds_toArray, List.set_cons_zero, List.set_cons_succ])
    refine wpE_l rfl rfl (fun K hK => ?_)
    go_simp
    refine (c_may_yes _ hX ⟨e1, e2, e3⟩).mono ?_
    rintro e u ⟨rfl, hu⟩
    refine hK.out _ _ hu ?_
    clear hK K
    replace HE := HE.trans hu
    replace c0 := hu.cell' c0
    replace c1 := hu.cell' c1
    replace c2 := hu.cell' c2
    replace c3 := hu.cell' c3
    replace d0 := hu.cell' d0
    replace d1 := hu.cell' d1
    replace d2 := hu.cell' d2
    replace d3 := hu.cell' d3
    replace x0 := hu.cell' x0
    replace x1 := hu.cell' x1
    replace x2 := hu.cell' x2
    replace x3 := hu.cell' x3
    replace y0 := hu.cell' y0
    replace y1 := hu.cell' y1
    replace y2 := hu.cell' y2
    replace y3 := hu.cell' y3
    replace z0 := hu.cell' z0
    replace z1 := hu.cell' z1
    replace z2 := hu.cell' z2
    replace z3 := hu.cell' z3
    clear hu
    try simp only [Act.put, List.setIfInBounds_toArray, List.set_cons_zero, List.set_cons_succ]
    repeat (refine wpE_q (v := ?_) rfl rfl (fun u hu => ?_) ?_; rotate_left 1; (focus ((have k0 := hu.cell' c0; have k1 := hu.cell' c1; have k2 := hu.cell' c2; have k3 := hu.cell' c3; have k4 := hu.cell' d0; have k5 := hu.cell' d1; have k6 := hu.cell' d2; have k7 := hu.cell' d3; have k8 := hu.cell' x0; have k9 := hu.cell' x1; have k10 := hu.cell' x2; have k11 := hu.cell' x3; have k12 := hu.cell' y0; have k13 := hu.cell' y1; have k14 := hu.cell' y2; have k15 := hu.cell' y3; have k16 := hu.cell' z0; have k17 := hu.cell' z1; have k18 := hu.cell' z2; have k19 := hu.cell' z3); go_simp; (try rfl))); simp only [Act.put, List.setIfInBounds_toArray, List.set_cons_zero, List.set_cons_succ])
    refine wpE_l rfl rfl (fun K hK => ?_)
    go_simp
    refine (c_over_any p q s a p' q' s' a' _ hX hY).mono ?_
    rintro e u ⟨rfl, hu⟩
    refine hK.out _ _ hu ?_
    clear hK K
    replace HE := HE.trans hu
    replace c0 := hu.cell' c0
    replace c1 := hu.cell' c1
    replace c2 := hu.cell' c2
    replace c3 := hu.cell' c3
    replace d0 := hu.cell' d0
    replace d1 := hu.cell' d1
    replace d2 := hu.cell' d2
    replace d3 := hu.cell' d3
    replace x0 := hu.cell' x0
    replace x1 := hu.cell' x1
    replace x2 := hu.cell' x2
    replace x3 := hu.cell' x3
    replace y0 := hu.cell' y0
    replace y1 := hu.cell' y1
    replace y2 := hu.cell' y2
    replace y3 := hu.cell' y3
    replace z0 := hu.cell' z0
    replace z1 := hu.cell' z1
    replace z2 := hu.cell' z2
    replace z3 := hu.cell' z3
    clear hu
    try simp only [Act.put, List.setIfInBounds_toArray, List.set_cons_zero, List.set_cons_succ]
    refine wpE_l rfl rfl (fun K hK => ?_)
    go_simp
    refine (c_may_yes _ hO mO).mono ?_
    rintro e u ⟨rfl, hu⟩
    refine hK.out _ _ hu ?_
    clear hK K
    replace HE := HE.trans hu
    replace c0 := hu.cell' c0
    replace c1 := hu.cell' c1
    replace c2 := hu.cell' c2
    replace c3 := hu.cell' c3
    replace d0 := hu.cell' d0
    replace d1 := hu.cell' d1
    replace d2 := hu.cell' d2
    replace d3 := hu.cell' d3
    replace x0 := hu.cell' x0
    replace x1 := hu.cell' x1
    replace x2 := hu.cell' x2
    replace x3 := hu.cell' x3
    replace y0 := hu.cell' y0
    replace y1 := hu.cell' y1
    replace y2 := hu.cell' y2
    replace y3 := hu.cell' y3
    replace z0 := hu.cell' z0
    replace z1 := hu.cell' z1
    replace z2 := hu.cell' z2
    replace z3 := hu.cell' z3
    clear hu
    try simp only [Act.put, List.setIfInBounds_toArray, List.set_cons_zero, List.set_cons_succ]
    repeat (refine wpE_q (v := ?_) rfl rfl (fun u hu => ?_) ?_; rotate_left 1; (focus ((have k0 := hu.cell' c0; have k1 := hu.cell' c1; have k2 := hu.cell' c2; have k3 := hu.cell' c3; have k4 := hu.cell' d0; have k5 := hu.cell' d1; have k6 := hu.cell' d2; have k7 := hu.cell' d3; have k8 := hu.cell' x0; have k9 := hu.cell' x1; have k10 := hu.cell' x2; have k11 := hu.cell' x3; have k12 := hu.cell' y0; have k13 := hu.cell' y1; have k14 := hu.cell' y2; have k15 := hu.cell' y3; have k16 := hu.cell' z0; have k17 := hu.cell' z1; have k18 := hu.cell' z2; have k19 := hu.cell' z3); go_simp; (try rfl))); simp only [Act.put, List.setIfInBounds_toArray, List.set_cons_zero, List.set_cons_succ])
    refine wpE_l rfl rfl (fun K hK => ?_)
    go_simp
    refine (c_fade_any n p q s a _ hX hn).mono ?_
    rintro e u ⟨rfl, hu⟩
    refine hK.out _ _ hu ?_
    clear hK K
    replace HE := HE.trans hu
    replace c0 := hu.cell' c0
    replace c1 := hu.cell' c1
    replace c2 := hu.cell' c2
    replace c3 := hu.cell' c3
    replace d0 := hu.cell' d0
    replace d1 := hu.cell' d1
    replace d2 := hu.cell' d2
    replace d3 := hu.cell' d3
    replace x0 := hu.cell' x0
    replace x1 := hu.cell' x1
    replace x2 := hu.cell' x2
    replace x3 := hu.cell' x3
    replace y0 := hu.cell' y0
    replace y1 := hu.cell' y1
    replace y2 := hu.cell' y2
    replace y3 := hu.cell' y3
    replace z0 := hu.cell' z0
    replace z1 := hu.cell' z1
    replace z2 := hu.cell' z2
    replace z3 := hu.cell' z3
    clear hu
    try simp only [Act.put, List.setIfInBounds_toArray, List.set_cons_zero, List.set_cons_succ]
    refine wpE_l rfl rfl (fun K hK => ?_)
    go_simp
    refine (c_may_yes _ hF mF).mono ?_
    rintro e u ⟨rfl, hu⟩
    refine hK.out _ _ hu ?_
    clear hK K
    replace HE := HE.trans hu
    replace c0 := hu.cell' c0
    replace c1 := hu.cell' c1
    replace c2 := hu.cell' c2
    replace c3 := hu.cell' c3
    replace d0 := hu.cell' d0
    replace d1 := hu.cell' d1
    replace d2 := hu.cell' d2
    replace d3 := hu.cell' d3
    replace x0 := hu.cell' x0
    replace x1 := hu.cell' x1
    replace x2 := hu.cell' x2
    replace x3 := hu.cell' x3
    replace y0 := hu.cell' y0
    replace y1 := hu.cell' y1
    replace y2 := hu.cell' y2
    replace y3 := hu.cell' y3
    replace z0 := hu.cell' z0
    replace z1 := hu.cell' z1
    replace z2 := hu.cell' z2
    replace z3 := hu.cell' z3
    clear hu
    try simp only [Act.put, List.setIfInBounds_toArray, List.set_cons_zero, List.set_cons_succ]
    repeat (refine wpE_q (v := ?_) rfl rfl (fun u hu => ?_) ?_; rotate_left 1; (focus ((have k0 := hu.cell' c0; have k1 := hu.cell' c1; have k2 := hu.cell' c2; have k3 := hu.cell' c3; have k4 := hu.cell' d0; have k5 := hu.cell' d1; have k6 := hu.cell' d2; have k7 := hu.cell' d3; have k8 := hu.cell' x0; have k9 := hu.cell' x1; have k10 := hu.cell' x2; have k11 := hu.cell' x3; have k12 := hu.cell' y0; have k13 := hu.cell' y1; have k14 := hu.cell' y2; have k15 := hu.cell' y3; have k16 := hu.cell' z0; have k17 := hu.cell' z1; have k18 := hu.cell' z2; have k19 := hu.cell' z3); go_simp; (try rfl))); simp only [Act.put, List.setIfInBounds_toArray, List.set_cons_zero, List.set_cons_succ])
    refine wpE_l rfl rfl (fun K hK => ?_)
    go_simp
    refine (c_over_full _ hr hg hb hY).mono ?_
    rintro e u ⟨rfl, hu⟩
    refine hK.out _ _ hu ?_
    clear hK K
    replace HE := HE.trans hu
    replace c0 := hu.cell' c0
    replace c1 := hu.cell' c1
    replace c2 := hu.cell' c2
    replace c3 := hu.cell' c3
    replace d0 := hu.cell' d0
    replace d1 := hu.cell' d1
    replace d2 := hu.cell' d2
    replace d3 := hu.cell' d3
    replace x0 := hu.cell' x0
    replace x1 := hu.cell' x1
    replace x2 := hu.cell' x2
    replace x3 := hu.cell' x3
    replace y0 := hu.cell' y0
    replace y1 := hu.cell' y1
    replace y2 := hu.cell' y2
    replace y3 := hu.cell' y3
    replace z0 := hu.cell' z0
    replace z1 := hu.cell' z1
    replace z2 := hu.cell' z2
    replace z3 := hu.cell' z3
    clear hu
    try simp only [Act.put, List.setIfInBounds_toArray, List.set_cons_zero, List.set_cons_succ]
    repeat (refine wpE_q (v := ?_) rfl rfl (fun u hu => ?_) ?_; rotate_left 1; (focus ((have k0 := hu.cell' c0; have k1 := hu.cell' c1; have k2 := hu.cell' c2; have k3 := hu.cell' c3; have k4 := hu.cell' d0; have k5 := hu.cell' d1; have k6 := hu.cell' d2; have k7 := hu.cell' d3; have k8 := hu.cell' x0; have k9 := hu.cell' x1; have k10 := hu.cell' x2; have k11 := hu.cell' x3; have k12 := hu.cell' y0; have k13 := hu.cell' y1; have k14 := hu.cell' y2; have k15 := hu.cell' y3; have k16 := hu.cell' z0; have k17 := hu.cell' z1; have k18 := hu.cell' z2; have k19 := hu.cell' z3); go_simp; (try rfl))); simp only [Act.put, List.setIfInBounds_toArray, List.set_cons_zero, List.set_cons_succ])
    refine wpE_l rfl rfl (fun K hK => ?_)
    go_simp
    refine (c_over_none_any p' q' s' a' _ hY).mono ?_
    rintro e u ⟨rfl, hu⟩
    refine hK.out _ _ hu ?_
    clear hK K
    replace HE := HE.trans hu
    replace c0 := hu.cell' c0
    replace c1 := hu.cell' c1
    replace c2 := hu.cell' c2
    replace c3 := hu.cell' c3
    replace d0 := hu.cell' d0
    replace d1 := hu.cell' d1
    replace d2 := hu.cell' d2
    replace d3 := hu.cell' d3
    replace x0 := hu.cell' x0
    replace x1 := hu.cell' x1
    replace x2 := hu.cell' x2
    replace x3 := hu.cell' x3
    replace y0 := hu.cell' y0
    replace y1 := hu.cell' y1
    replace y2 := hu.cell' y2
    replace y3 := hu.cell' y3
    replace z0 := hu.cell' z0
    replace z1 := hu.cell' z1
    replace z2 := hu.cell' z2
    replace z3 := hu.cell' z3
    clear hu
    try simp only [Act.put, List.setIfInBounds_toArray, List.set_cons_zero, List.set_cons_succ]
    repeat (refine wpE_q (v := ?_) rfl rfl (fun u hu => ?_) ?_; rotate_left 1; (focus ((have k0 := hu.cell' c0; have k1 := hu.cell' c1; have k2 := hu.cell' c2; have k3 := hu.cell' c3; have k4 := hu.cell' d0; have k5 := hu.cell' d1; have k6 := hu.cell' d2; have k7 := hu.cell' d3; have k8 := hu.cell' x0; have k9 := hu.cell' x1; have k10 := hu.cell' x2; have k11 := hu.cell' x3; have k12 := hu.cell' y0; have k13 := hu.cell' y1; have k14 := hu.cell' y2; have k15 := hu.cell' y3; have k16 := hu.cell' z0; have k17 := hu.cell' z1; have k18 := hu.cell' z2; have k19 := hu.cell' z3); go_simp; (try rfl))); simp only [Act.put, List.setIfInBounds_toArray, List.set_cons_zero, List.set_cons_succ])
    refine wpE_l rfl rfl (fun K hK => ?_)
    go_simp
    refine (c_over_zero _ hX).mono ?_
    rintro e u ⟨rfl, hu⟩
    refine hK.out _ _ hu ?_
    clear hK K
    replace HE := HE.trans hu
    replace c0 := hu.cell' c0
    replace c1 := hu.cell' c1
    replace c2 := hu.cell' c2
    replace c3 := hu.cell' c3
    replace d0 := hu.cell' d0
    replace d1 := hu.cell' d1
    replace d2 := hu.cell' d2
    replace d3 := hu.cell' d3
    replace x0 := hu.cell' x0
    replace x1 := hu.cell' x1
    replace x2 := hu.cell' x2
    replace x3 := hu.cell' x3
    replace y0 := hu.cell' y0
    replace y1 := hu.cell' y1
    replace y2 := hu.cell' y2
    replace y3 := hu.cell' y3
    replace z0 := hu.cell' z0
    replace z1 := hu.cell' z1
    replace z2 := hu.cell' z2
    replace z3 := hu.cell' z3
    clear hu
    try simp only [Act.put, List.setIfInBounds_toArray, List.set_cons_zero, List.set_cons_succ]
    repeat (refine wpE_q (v := ?_) rfl rfl (fun u hu => ?_) ?_; rotate_left 1; (focus ((have k0 := hu.cell' c0; have k1 := hu.cell' c1; have k2 := hu.cell' c2; have k3 := hu.cell' c3; have k4 := hu.cell' d0; have k5 := hu.cell' d1; have k6 := hu.cell' d2; have k7 := hu.cell' d3; have k8 := hu.cell' x0; have k9 := hu.cell' x1; have k10 := hu.cell' x2; have k11 := hu.cell' x3; have k12 := hu.cell' y0; have k13 := hu.cell' y1; have k14 := hu.cell' y2; have k15 := hu.cell' y3; have k16 := hu.cell' z0; have k17 := hu.cell' z1; have k18 := hu.cell' z2; have k19 := hu.cell' z3); go_simp; (try rfl))); simp only [Act.put, List.setIfInBounds_toArray, List.set_cons_zero, List.set_cons_succ])
    refine wpE_l rfl rfl (fun K hK => ?_)
    go_simp
    refine (c_fade_full _ hX).mono ?_
    rintro e u ⟨rfl, hu⟩
    refine hK.out _ _ hu ?_
    clear hK K
    replace HE := HE.trans hu
    replace c0 := hu.cell' c0
    replace c1 := hu.cell' c1
    replace c2 := hu.cell' c2
    replace c3 := hu.cell' c3
    replace d0 := hu.cell' d0
    replace d1 := hu.cell' d1
    replace d2 := hu.cell' d2
    replace d3 := hu.cell' d3
    replace x0 := hu.cell' x0
    replace x1 := hu.cell' x1
    replace x2 := hu.cell' x2
    replace x3 := hu.cell' x3
    replace y0 := hu.cell' y0
    replace y1 := hu.cell' y1
    replace y2 := hu.cell' y2
    replace y3 := hu.cell' y3
    replace z0 := hu.cell' z0
    replace z1 := hu.cell' z1
    replace z2 := hu.cell' z2
    replace z3 := hu.cell' z3
    clear hu
    try simp only [Act.put, List.setIfInBounds_toArray, List.set_cons_zero, List.set_cons_succ]
    repeat (refine wpE_q (v := ?_) rfl rfl (fun u hu => ?_) ?_; rotate_left 1; (focus ((have k0 := hu.cell' c0; have k1 := hu.cell' c1; have k2 := hu.cell' c2; have k3 := hu.cell' c3; have k4 := hu.cell' d0; have k5 := hu.cell' d1; have k6 := hu.cell' d2; have k7 := hu.cell' d3; have k8 := hu.cell' x0; have k9 := hu.cell' x1; have k10 := hu.cell' x2; have k11 := hu.cell' x3; have k12 := hu.cell' y0; have k13 := hu.cell' y1; have k14 := hu.cell' y2; have k15 := hu.cell' y3; have k16 := hu.cell' z0; have k17 := hu.cell' z1; have k18 := hu.cell' z2; have k19 := hu.cell' z3); go_simp; (try rfl))); simp only [Act.put, List.setIfInBounds_toArray, List.set_cons_zero, List.set_cons_succ])
    refine wpE_l rfl rfl (fun K hK => ?_)
    go_simp
    refine (c_fade_none _ hX).mono ?_
    rintro e u ⟨rfl, hu⟩
    refine hK.out _ _ hu ?_
    clear hK K
    replace HE := HE.trans hu
    replace c0 := hu.cell' c0
    replace c1 := hu.cell' c1
    replace c2 := hu.cell' c2
    replace c3 := hu.cell' c3
    replace d0 := hu.cell' d0
    replace d1 := hu.cell' d1
    replace d2 := hu.cell' d2
    replace d3 := hu.cell' d3
    replace x0 := hu.cell' x0
    replace x1 := hu.cell' x1
    replace x2 := hu.cell' x2
    replace x3 := hu.cell' x3
    replace y0 := hu.cell' y0
    replace y1 := hu.cell' y1
    replace y2 := hu.cell' y2
    replace y3 := hu.cell' y3
    replace z0 := hu.cell' z0
    replace z1 := hu.cell' z1
    replace z2 := hu.cell' z2
    replace z3 := hu.cell' z3
    clear hu
    try simp only [Act.put, List.setIfInBounds_toArray, List.set_cons_zero, List.set_cons_succ]
    repeat (refine wpE_q (v := ?_) rfl rfl (fun u hu => ?_) ?_; rotate_left 1; (focus ((have k0 := hu.cell' c0; have k1 := hu.cell' c1; have k2 := hu.cell' c2; have k3 := hu.cell' c3; have k4 := hu.cell' d0; have k5 := hu.cell' d1; have k6 := hu.cell' d2; have k7 := hu.cell' d3; have k8 := hu.cell' x0; have k9 := hu.cell' x1; have k10 := hu.cell' x2; have k11 := hu.cell' x3; have k12 := hu.cell' y0; have k13 := hu.cell' y1; have k14 := hu.cell' y2; have k15 := hu.cell' y3; have k16 := hu.cell' z0; have k17 := hu.cell' z1; have k18 := hu.cell' z2; have k19 := hu.cell' z3); go_simp; (try rfl))); simp only [Act.put, List.setIfInBounds_toArray, List.set_cons_zero, List.set_cons_succ])
    refine wpE_l rfl rfl (fun K hK => ?_)
    go_simp
    refine (c_mix_none _ h h').mono ?_
    rintro e u ⟨rfl, hu⟩
    refine hK.out _ _ hu ?_
    clear hK K
    replace HE := HE.trans hu
    replace c0 := hu.cell' c0
    replace c1 := hu.cell' c1
    replace c2 := hu.cell' c2
    replace c3 := hu.cell' c3
    replace d0 := hu.cell' d0
    replace d1 := hu.cell' d1
    replace d2 := hu.cell' d2
    replace d3 := hu.cell' d3
    replace x0 := hu.cell' x0
    replace x1 := hu.cell' x1
    replace x2 := hu.cell' x2
    replace x3 := hu.cell' x3
    replace y0 := hu.cell' y0
    replace y1 := hu.cell' y1
    replace y2 := hu.cell' y2
    replace y3 := hu.cell' y3
    replace z0 := hu.cell' z0
    replace z1 := hu.cell' z1
    replace z2 := hu.cell' z2
    replace z3 := hu.cell' z3
    clear hu
    try simp only [Act.put, List.setIfInBounds_toArray, List.set_cons_zero, List.set_cons_succ]
    repeat (refine wpE_q (v := ?_) rfl rfl (fun u hu => ?_) ?_; rotate_left 1; (focus ((have k0 := hu.cell' c0; have k1 := hu.cell' c1; have k2 := hu.cell' c2; have k3 := hu.cell' c3; have k4 := hu.cell' d0; have k5 := hu.cell' d1; have k6 := hu.cell' d2; have k7 := hu.cell' d3; have k8 := hu.cell' x0; have k9 := hu.cell' x1; have k10 := hu.cell' x2; have k11 := hu.cell' x3; have k12 := hu.cell' y0; have k13 := hu.cell' y1; have k14 := hu.cell' y2; have k15 := hu.cell' y3; have k16 := hu.cell' z0; have k17 := hu.cell' z1; have k18 := hu.cell' z2; have k19 := hu.cell' z3); go_simp; (try rfl))); simp only [Act.put, List.setIfInBounds_toArray, List.set_cons_zero, List.set_cons_succ])
    refine wpE_l rfl rfl (fun K hK => ?_)
    go_simp
    refine (c_mix_full _ h h').mono ?_
    rintro e u ⟨rfl, hu⟩
    refine hK.out _ _ hu ?_
    clear hK K
    replace HE := HE.trans hu
    replace c0 := hu.cell' c0
    replace c1 := hu.cell' c1
    replace c2 := hu.cell' c2
    replace c3 := hu.cell' c3
    replace d0 := hu.cell' d0
    replace d1 := hu.cell' d1
    replace d2 := hu.cell' d2
    replace d3 := hu.cell' d3
    replace x0 := hu.cell' x0
    replace x1 := hu.cell' x1
    replace x2 := hu.cell' x2
    replace x3 := hu.cell' x3
    replace y0 := hu.cell' y0
    replace y1 := hu.cell' y1
    replace y2 := hu.cell' y2
    replace y3 := hu.cell' y3
    replace z0 := hu.cell' z0
    replace z1 := hu.cell' z1
    replace z2 := hu.cell' z2
    replace z3 := hu.cell' z3
    clear hu
    try simp only [Act.put, List.setIfInBounds_toArray, List.set_cons_zero, List.set_cons_succ]
    repeat (refine wpE_q (v := ?_) rfl rfl (fun u hu => ?_) ?_; rotate_left 1; (focus ((have k0 := hu.cell' c0; have k1 := hu.cell' c1; have k2 := hu.cell' c2; have k3 := hu.cell' c3; have k4 := hu.cell' d0; have k5 := hu.cell' d1; have k6 := hu.cell' d2; have k7 := hu.cell' d3; have k8 := hu.cell' x0; have k9 := hu.cell' x1; have k10 := hu.cell' x2; have k11 := hu.cell' x3; have k12 := hu.cell' y0; have k13 := hu.cell' y1; have k14 := hu.cell' y2; have k15 := hu.cell' y3; have k16 := hu.cell' z0; have k17 := hu.cell' z1; have k18 := hu.cell' z2; have k19 := hu.cell' z3); go_simp; (try rfl))); simp only [Act.put, List.setIfInBounds_toArray, List.set_cons_zero, List.set_cons_succ])
    refine wpE_l rfl rfl (fun K hK => ?_)
    go_simp
    refine (c_over_any p q s a p' q' s' a' _ hX hY).mono ?_
    rintro e u ⟨rfl, hu⟩
    refine hK.out _ _ hu ?_
    clear hK K
    replace HE := HE.trans hu
    replace c0 := hu.cell' c0
    replace c1 := hu.cell' c1
    replace c2 := hu.cell' c2
    replace c3 := hu.cell' c3
    replace d0 := hu.cell' d0
    replace d1 := hu.cell' d1
    replace d2 := hu.cell' d2
    replace d3 := hu.cell' d3
    replace x0 := hu.cell' x0
    replace x1 := hu.cell' x1
    replace x2 := hu.cell' x2
    replace x3 := hu.cell' x3
    replace y0 := hu.cell' y0
    replace y1 := hu.cell' y1
    replace y2 := hu.cell' y2
    replace y3 := hu.cell' y3
    replace z0 := hu.cell' z0
    replace z1 := hu.cell' z1
    replace z2 := hu.cell' z2
    replace z3 := hu.cell' z3
    clear hu
    try simp only [Act.put, List.setIfInBounds_toArray, List.set_cons_zero, List.set_cons_succ]
    repeat (refine wpE_q (v := ?_) rfl rfl (fun u hu => ?_) ?_; rotate_left 1; (focus ((have k0 := hu.cell' c0; have k1 := hu.cell' c1; have k2 := hu.cell' c2; have k3 := hu.cell' c3; have k4 := hu.cell' d0; have k5 := hu.cell' d1; have k6 := hu.cell' d2; have k7 := hu.cell' d3; have k8 := hu.cell' x0; have k9 := hu.cell' x1; have k10 := hu.cell' x2; have k11 := hu.cell' x3; have k12 := hu.cell' y0; have k13 := hu.cell' y1; have k14 := hu.cell' y2; have k15 := hu.cell' y3; have k16 := hu.cell' z0; have k17 := hu.cell' z1; have k18 := hu.cell' z2; have k19 := hu.cell' z3); go_simp; (try rfl))); simp only [Act.put, List.setIfInBounds_toArray, List.set_cons_zero, List.set_cons_succ])
    refine wpE_l rfl rfl (fun K hK => ?_)
    go_simp
    refine (lives_any _).mono ?_
    rintro e u ⟨rfl, hu⟩
    refine hK.out _ _ hu ?_
    clear hK K
    replace HE := HE.trans hu
    replace c0 := hu.cell' c0
    replace c1 := hu.cell' c1
    replace c2 := hu.cell' c2
    replace c3 := hu.cell' c3
    replace d0 := hu.cell' d0
    replace d1 := hu.cell' d1
    replace d2 := hu.cell' d2
    replace d3 := hu.cell' d3
    replace x0 := hu.cell' x0
    replace x1 := hu.cell' x1
    replace x2 := hu.cell' x2
    replace x3 := hu.cell' x3
    replace y0 := hu.cell' y0
    replace y1 := hu.cell' y1
    replace y2 := hu.cell' y2
    replace y3 := hu.cell' y3
    replace z0 := hu.cell' z0
    replace z1 := hu.cell' z1
    replace z2 := hu.cell' z2
    replace z3 := hu.cell' z3
    clear hu
    try simp only [Act.put, List.setIfInBounds_toArray, List.set_cons_zero, List.set_cons_succ]
    repeat (refine wpE_q (v := ?_) rfl rfl (fun u hu => ?_) ?_; rotate_left 1; (focus ((have k0 := hu.cell' c0; have k1 := hu.cell' c1; have k2 := hu.cell' c2; have k3 := hu.cell' c3; have k4 := hu.cell' d0; have k5 := hu.cell' d1; have k6 := hu.cell' d2; have k7 := hu.cell' d3; have k8 := hu.cell' x0; have k9 := hu.cell' x1; have k10 := hu.cell' x2; have k11 := hu.cell' x3; have k12 := hu.cell' y0; have k13 := hu.cell' y1; have k14 := hu.cell' y2; have k15 := hu.cell' y3; have k16 := hu.cell' z0; have k17 := hu.cell' z1; have k18 := hu.cell' z2; have k19 := hu.cell' z3); go_simp; (try rfl))); simp only [Act.put, List.setIfInBounds_toArray, List.set_cons_zero, List.set_cons_succ])
    refine wpE_done ?_
    go_wp2_with fail
    go_ret
    exact ⟨rfl, HE⟩

end Go.Proofs.Ytbhjookpdmfdnaa
