/- Dashes: are lines the same? The law lives. -/
import Derived.Test.YtlhaepcnhkaclaaY9
import Derived.Test.YtlhaepcnhkaclaaPS
namespace Go.Proofs.Ytlhaepcnhkaclaa
set_option linter.unusedVariables false
set_option linter.unusedSimpArgs false
open Go Go.RowKit

theorem SlLn.at {w : World} {a : Option Addr} {n c : Nat} {ll : List (List Pt × Bool)} (h : SlLn w a n c ll) {i : Nat} (hi : i < ll.length) : ∃ b off a' n' c', a = some ⟨b, off, none⟩ ∧ w.cell? ⟨b, off + i * 2, none⟩ = some (.slice a' n' c') ∧ w.cell? ⟨b, off + i * 2 + 1, none⟩ = some (.bool ll[i].2) ∧ SlP w a' n' c' ll[i].1 := by
  obtain ⟨vs, hs, hl, hx⟩ := h
  obtain ⟨b, off, e, hc⟩ := hs.2.2.2 (by omega)
  obtain ⟨a', n', c', h1, h2, h3⟩ := hx i hi
  exact ⟨b, off, a', n', c', e, hc _ _ h1, hc _ _ h2, h3⟩
theorem SlLn.len {w : World} {a : Option Addr} {n c : Nat} {ll : List (List Pt × Bool)} (h : SlLn w a n c ll) : ll.length = n := let ⟨_, _, hl, _⟩ := h; hl
theorem SlLn.cap {w : World} {a : Option Addr} {n c : Nat} {ll : List (List Pt × Bool)} (h : SlLn w a n c ll) : n ≤ c ∧ c ≤ maxLen := let ⟨_, hs, _, _⟩ := h; ⟨hs.2.1, hs.2.2.1⟩
theorem SlLn.ext {w u : World} {a : Option Addr} {n c : Nat} {ll : List (List Pt × Bool)} (h : SlLn w a n c ll) (he : Ext w u) : SlLn u a n c ll := by
  obtain ⟨vs, hs, hl, hx⟩ := h
  refine ⟨vs, hs.ext he, hl, fun i hi => ?_⟩
  obtain ⟨a', n', c', h1, h2, h3⟩ := hx i hi
  exact ⟨a', n', c', h1, h2, h3.ext he⟩

set_option maxRecDepth 100000 in
set_option maxHeartbeats 4000000 in
theorem d_SameLn (a a' : Option Addr) (n cap n' cap' : Nat) (l : List (List Pt × Bool)) (w : World) (h : SlLn w a n cap l) (h' : SlLn w a' n' cap' l) :
    Calls Try.prog 10 #[.slice a n cap, .slice a' n' cap'] w fun e w' => e = .returned (.bool true) ∧ Ext w w' := by
  have H := hidP h; have H' := hidP h'
  have HLN := hidP h.len
  have hcap : n ≤ maxLen := Nat.le_trans h.cap.1 h.cap.2
  unfold maxLen at hcap
  obtain rfl : n = n' := by rw [← h.len, ← h'.len]
  clear h h'
  go_enter Try.func10, Try.ntmps10
  go_wp2_with fail
  go_loopw [5] (fun iv wr => ∃ j : Nat, j ≤ n ∧ iv = .int .i64 (j : Int) ∧ Ext w wr) (fun iv _ => n - (intOf iv).toNat)
  case atStart => exact ⟨0, by omega, rfl, Ext.refl _⟩
  case round =>
    obtain ⟨j, hj, rfl, HE⟩ := hrel
    by_cases hlt : j < n
    · have hjl : j < l.length := by rw [HLN.out]; exact hlt
      obtain ⟨g, off, a1, n1, c1, rfl, h1, h2, h3⟩ := (H.out.ext HE).at hjl
      obtain ⟨g2, off2, a2, n2, c2, rfl, h4, h5, h6⟩ := (H'.out.ext HE).at hjl
      generalize l[j] = pp at *
      obtain ⟨px, pc⟩ := pp
      simp only at h2 h3 h5 h6
      have HS := hidP (fun u (q : Ext wr u) => d_SameP a1 a2 n1 c1 n2 c2 px u (h3.ext q) (h6.ext q))
      clear h3 h6
      cases pc
      all_goals (
        have HX : Ext w wr := HE
        clear HE
        go_wp2_with fail
        refine wp_region_plan (R := Ext) (.q 0 (.q 1 (.q 2 (.q 3 (.q 4 (.q 5 (.q 6 (.q 7 (.q 8 (.q 9 (.q 10 (.q 11 (.q 12 (.q 13 (.q 14 (.q 15 (.q 16 (.q 17 (.q 18 (.q 19 (.q 20 (.q 21 (.l 22 (.q 23 (.q 24 .done))))))))))))))))))))))))) (by kernel_rfl) (by kernel_rfl) (by kernel_rfl) (by kernel_rfl) Ext.refl (fun _ _ _ => Ext.trans) ?_
        refine absE (fun x11 hx11 => ?_)
        have hx : Ext wr x11 := by rw [hx11]; exact (Ext.refl _).drew
        replace HX := HX.trans hx
        replace h1 := hx.cell' h1
        replace h2 := hx.cell' h2
        replace h4 := hx.cell' h4
        replace h5 := hx.cell' h5
        have HE := hx
        clear hx
        clear hx11
        repeat (refine wpE_q (v := ?_) rfl rfl (fun u hu => ?_) ?_; rotate_left 1; (focus (have kh1 := hu.cell' h1; have kh2 := hu.cell' h2; have kh4 := hu.cell' h4; have kh5 := hu.cell' h5; go_simp; (try rfl))); simp only [Act.put, List.setIfInBounds_toArray, List.set_cons_zero, List.set_cons_succ])
        refine wpE_l rfl rfl (fun K hK => ?_)
        go_simp
        refine (HS.out _ HE).mono ?_
        rintro e u30 ⟨rfl, hx⟩
        refine hK.out _ _ hx ?_
        clear hK K
        try simp only [Act.put, List.setIfInBounds_toArray, List.set_cons_zero, List.set_cons_succ]
        replace HX := HX.trans hx
        replace h1 := hx.cell' h1
        replace h2 := hx.cell' h2
        replace h4 := hx.cell' h4
        replace h5 := hx.cell' h5
        replace HE := HE.trans hx
        clear hx
        repeat (refine wpE_q (v := ?_) rfl rfl (fun u hu => ?_) ?_; rotate_left 1; (focus (have kh1 := hu.cell' h1; have kh2 := hu.cell' h2; have kh4 := hu.cell' h4; have kh5 := hu.cell' h5; go_simp; (try rfl))); simp only [Act.put, List.setIfInBounds_toArray, List.set_cons_zero, List.set_cons_succ])
        refine wpE_done ?_
        go_wp2_with fail
        go_roundw
        case rel => exact ⟨j + 1, by omega, by go_num, HX⟩
        case measure => simp only [intOf]; omega)
    · obtain rfl : j = n := by omega
      go_wp2_with fail
      go_ret
      exact ⟨rfl, HE⟩
theorem lv_len : lenI 0 0 10 0 = 10 := by
  rw [lenI_yes (by decide) (by decide)]
  exact (isq_uniq (by decide) (by decide)).symm
theorem lv_ah {n : Int} (h0 : 0 ≤ n) (h1 : n ≤ 10) : ahP (0, 0) (10, 0) n = (n, 0) := by
  have hx : ahX 0 0 10 0 n = n := by
    unfold ahX
    rw [lv_len, if_neg (by omega)]
    unfold nearI
    rw [if_pos (by omega)]
    omega
  have hy : ahY 0 0 10 0 n = 0 := by
    unfold ahY
    rw [lv_len, if_neg (by omega)]
    unfold nearI
    rw [if_pos (by omega)]
    omega
  unfold ahP
  simp only [hx, hy]
/-- A row that was just made. -/
theorem own_many (W : World) (B e K m : Nat) (cs : Array Value) (hK : cs.size = m * K) (hm : m ≤ 4194304) (hB : B ≤ W.heap.size) : (W.alloc (.cells cs e)).ownsRow B e K (.slice (some ⟨W.heap.size, 0, none⟩) m m) m cs.toList := by
  refine ⟨by simp [hK], .inr ⟨W.heap.size, m, cs, rfl, hB, World.alloc_heap_new W _, Nat.le_refl _, by unfold maxLen; omega, hK, ?_⟩⟩
  rw [List.take_of_length_le (by simp [hK])]
theorem lv_way : waysF (rndL [(0, 0), (10, 0)] false) 0 = [(((0, 0), (10, 0)), 0, 10)] := by
  have e : lenP (0, 0) (10, 0) = 10 := by unfold lenP; rw [lv_len]; rfl
  have : rndL [(0, 0), (10, 0)] false = [(0, 0), (10, 0)] := by unfold rndL; simp
  rw [this]
  unfold waysF
  rw [e]
  rfl
theorem lv_piece {s t : Int} (h0 : 0 ≤ s) (h1 : s < t) (h2 : t ≤ 10) : pieceF [(((0, 0), (10, 0)), 0, 10)] s t = [(s, 0), (t, 0)] := by
  unfold pieceF
  have e1 : findD (0, 0) [(((0, 0), (10, 0)), 0, 10)] s = (s, 0) := by
    unfold findD
    rw [if_pos (by simp only []; omega)]
    simp only [Int.sub_zero]
    exact lv_ah h0 (by omega)
  have e2 : findD (0, 0) [(((0, 0), (10, 0)), 0, 10)] t = (t, 0) := by
    unfold findD
    rw [if_pos (by simp only []; omega)]
    simp only [Int.sub_zero]
    exact lv_ah (by omega) h2
  have e3 : midW s t [(((0, 0), (10, 0)), 0, 10)] = [] := by
    unfold midW midW
    rw [if_neg (by simp only []; omega)]
    rfl
  rw [e1, e2, e3]
  simp only [List.nil_append, ddL, ddA]
  rw [if_neg (by intro h; simp at h; omega)]
theorem lv_cut : cutA [(0, 0), (10, 0)] false [3, 2] 0 = ([([(0, 0), (3, 0)], false), ([(5, 0), (8, 0)], false)], 0) := by
  have el : longL [(0, 0), (10, 0)] false = 10 := by
    rw [longL_yes (by decide)]
    have e : lenP (0, 0) (10, 0) = 10 := by unfold lenP; rw [lv_len]; rfl
    simp only [path, e, backL_off]
    rfl
  have et : -((0 : Int).tmod (totD [3, 2])) = 0 := by decide
  have p1 := lv_piece (s := 0) (t := 3) (by omega) (by omega) (by omega)
  have p2 := lv_piece (s := 5) (t := 8) (by omega) (by omega) (by omega)
  unfold cutA
  rw [if_neg (by decide), if_neg (by decide), if_neg (by simp), lv_way, el, et]
  have e5 : spansF [3, 2] 2000 0 0 = ((0, 3), true) :: ((3, 5), false) :: ((5, 8), true) :: ((8, 10), false) :: ((10, 13), true) :: spansF [3, 2] 1995 5 13 := rfl
  rw [e5]
  have g : cutF [(((0, 0), (10, 0)), 0, 10)] 10 (((0, 3), true) :: ((3, 5), false) :: ((5, 8), true) :: ((8, 10), false) :: ((10, 13), true) :: spansF [3, 2] 1995 5 13) 0 [] = ([[(0, 0), (3, 0)], [(5, 0), (8, 0)]], 0) := by
    unfold cutF
    simp only []
    rw [if_neg (by decide), if_neg (by decide), if_pos trivial, show (max (0 : Int) 0) = 0 from rfl, show min (3 : Int) 10 = 3 from rfl, p1]
    unfold cutF
    simp only []
    rw [if_neg (by decide), if_neg (by decide), if_neg (by decide)]
    unfold cutF
    simp only []
    rw [if_neg (by decide), if_neg (by decide), if_pos trivial, show (max (5 : Int) 0) = 5 from rfl, show min (8 : Int) 10 = 8 from rfl, p2]
    unfold cutF
    simp only []
    rw [if_neg (by decide), if_neg (by decide), if_neg (by decide)]
    unfold cutF
    simp only []
    rw [if_pos (by decide)]
    rfl
  rw [g]
  rfl

set_option maxRecDepth 100000 in
set_option maxHeartbeats 4000000 in
theorem dash_lives (w : World) : Calls Try.prog 11 #[] w fun e w' => e = .returned (.bool true) ∧ Ext w w' := by
  have HC := hidP (fun u a n c pa pn pc (q : SlP u a n c [(0, 0), (10, 0)]) (qp : Sl u pa pn pc (izs [3, 2])) (hn : n ≤ 4194303) => dd_Cut a n c [(0, 0), (10, 0)] false pa pn pc [3, 2] 0 u q qp hn)
  rw [lv_cut] at HC
  go_enter Try.func11, Try.ntmps11
  go_wp2_with fail
  refine absC (fun x1 hx1 => ?_)
  have hx : Ext w x1 := by rw [hx1]; exact ((Ext.refl _).alloc _).alloc _
  have q1 : SlP x1 (some ⟨w.heap.size, 0, none⟩) 2 2 [(0, 0), (10, 0)] := by
    rw [hx1]
    have k1 := own_many w 0 36 2 2 #[.int .i64 0, .int .i64 0, .int .i64 10, .int .i64 0] rfl (by omega) (Nat.zero_le _)
    exact SlK.of_owns' (k1.alloc _)
  have q2 : Sl x1 (some ⟨w.heap.size + 1, 0, none⟩) 2 2 (izs [3, 2]) := by
    rw [hx1]
    have k1 := own_many (w.alloc (.cells #[.int .i64 0, .int .i64 0, .int .i64 10, .int .i64 0] 36)) 0 3 1 2 #[.int .i64 3, .int .i64 2] rfl (by omega) (Nat.zero_le _)
    rw [World.size_alloc] at k1
    have k2 := SlK.of_owns' k1
    exact ⟨k2.1, k2.2.1, k2.2.2.1, k2.2.2.2⟩
  have HE := hx
  clear hx hx1
  refine (HC.out _ _ _ _ _ _ _ q1 q2 (by omega)).mono ?_
  rintro e u2 ⟨a2, n2, c2, rfl, hs, hx⟩
  obtain rfl : n2 = 2 := hs.len.symm
  obtain ⟨b, off, a3, n3, c3, rfl, h1, h2, h3⟩ := hs.at (i := 1) (by simp)
  simp only [List.getElem_cons_succ, List.getElem_cons_zero] at h2 h3
  obtain rfl : n3 = 2 := h3.len.symm
  obtain ⟨b4, off4, rfl, hc⟩ := h3.at (by omega)
  obtain ⟨k1, k2⟩ := hc 0 (by simp)
  obtain ⟨k3, k4⟩ := hc 1 (by simp)
  simp only [List.getElem_cons_succ, List.getElem_cons_zero, Nat.zero_mul, Nat.add_zero, Nat.one_mul] at h1 k1 k2 k3 k4
  have HX := HE.trans hx
  clear hs h2 h3 hc q1 q2 HE hx
  go_wp2_with fail
  go_ret
  exact ⟨rfl, HX⟩

end Go.Proofs.Ytlhaepcnhkaclaa
