/- Sets of cells: rows as columns; what is near. -/
import Derived.Test.YtogcmnagiepofaaS9
namespace Go.Proofs.Ytogcmnagiepofaa
set_option linter.unusedVariables false
set_option linter.unusedSimpArgs false
open Go Go.RowKit

def tab (N : Nat) (f : Nat → Bool) : List Bool := (List.range N).map f
theorem tab_len (N : Nat) (f : Nat → Bool) : (tab N f).length = N := by simp [tab]
theorem tab_get (N : Nat) (f : Nat → Bool) (i : Nat) (h : i < (tab N f).length) : (tab N f)[i] = f i := by simp [tab]
theorem tab_congr {N : Nat} {f g : Nat → Bool} (h : ∀ i, i < N → f i = g i) : tab N f = tab N g := by
  unfold tab
  exact List.map_congr_left fun i hi => h i (List.mem_range.1 hi)
theorem tab_set (N : Nat) (f : Nat → Bool) (j : Nat) (v : Bool) : (tab N f).set j v = tab N (fun i => if i = j then v else f i) := by
  apply List.ext_getElem
  · simp [tab_len]
  · intro i h1 h2
    rw [tab_get, List.getElem_set, tab_get]
    by_cases h : j = i
    · rw [if_pos h, if_pos h.symm]
    · rw [if_neg h, if_neg (fun e => h e.symm)]
theorem tab_false (N : Nat) : tab N (fun _ => false) = List.replicate N false := by
  unfold tab
  rw [List.map_const', List.length_range]
theorem tab_of (l : List Bool) : tab l.length (fun i => l.getD i false) = l := by
  apply List.ext_getElem
  · rw [tab_len]
  · intro i h1 h2
    rw [tab_get, List.getD_eq_getElem?_getD, List.getElem?_eq_getElem h2]; rfl
/-- Rows as columns, as far as row y, place x. -/
def turnU (X Y : Nat) (l : List Bool) (y x : Nat) : List Bool := tab (X * Y) (fun i => decide (i % Y < y ∨ (i % Y = y ∧ i / Y < x)) && l.getD (i % Y * X + i / Y) false)
def turnT (X Y : Nat) (l : List Bool) : List Bool := tab (X * Y) (fun i => l.getD (i % Y * X + i / Y) false)
theorem turnU_zero (X Y : Nat) (l : List Bool) : turnU X Y l 0 0 = List.replicate (X * Y) false := by
  unfold turnU
  rw [← tab_false]
  refine tab_congr fun i hi => ?_
  rw [decide_eq_false (by rintro (h | ⟨_, h⟩) <;> exact Nat.not_lt_zero _ h)]
  rfl
theorem wrap_mul (a b c : Nat) (h : a * b + c ≤ 1000000) : IntKind.i64.wrap (IntKind.i64.wrap ((a : Int) * (b : Int)) + (c : Int)) = ((a * b + c : Nat) : Int) := by
  have e1 : (a : Int) * (b : Int) = ((a * b : Nat) : Int) := by simp
  rw [e1]
  generalize a * b = q at *
  rw [IntWalk.i64_in (q : Int) (by omega), IntWalk.i64_in _ (by omega)]
  simp
theorem turnU_step {X Y : Nat} {l : List Bool} {y x : Nat} (hy : y < Y) : (turnU X Y l y x).set (x * Y + y) (l.getD (y * X + x) false) = turnU X Y l y (x + 1) := by
  unfold turnU
  rw [tab_set]
  refine tab_congr fun i hi => ?_
  have h1 : (x * Y + y) % Y = y := by rw [Nat.mul_comm, Nat.mul_add_mod]; exact Nat.mod_eq_of_lt hy
  have h2 : (x * Y + y) / Y = x := by rw [Nat.mul_comm, Nat.mul_add_div (by omega), Nat.div_eq_of_lt hy, Nat.add_zero]
  by_cases he : i = x * Y + y
  · rw [if_pos he, he, h1, h2, decide_eq_true (by omega)]
    rfl
  · rw [if_neg he]
    congr 1
    have : ¬ (i % Y = y ∧ i / Y = x) := fun h => he (by
      have := Nat.div_add_mod i Y
      rw [h.1, h.2, Nat.mul_comm] at this
      exact this.symm)
    by_cases hc : i % Y < y ∨ (i % Y = y ∧ i / Y < x)
    · rw [decide_eq_true hc, decide_eq_true (by omega)]
    · rw [decide_eq_false hc, decide_eq_false (by omega)]
theorem turnU_row {X Y : Nat} {l : List Bool} {y : Nat} (hY : 0 < Y) : turnU X Y l y X = turnU X Y l (y + 1) 0 := by
  unfold turnU
  refine tab_congr fun i hi => ?_
  have h2 : i / Y < X := by
    rw [Nat.div_lt_iff_lt_mul hY]
    exact hi
  congr 1
  generalize i / Y = d at h2 ⊢
  generalize i % Y = m
  clear hi
  by_cases hc : m < y ∨ (m = y ∧ d < X)
  · rw [decide_eq_true hc, decide_eq_true (by omega)]
  · rw [decide_eq_false hc, decide_eq_false (by omega)]
theorem turnU_end {X Y : Nat} {l : List Bool} (hY : 0 < Y) : turnU X Y l Y 0 = turnT X Y l := by
  unfold turnU turnT
  refine tab_congr fun i hi => ?_
  rw [decide_eq_true (.inl (Nat.mod_lt _ hY))]
  rfl
theorem turnU_len (X Y : Nat) (l : List Bool) (y x : Nat) : (turnU X Y l y x).length = X * Y := tab_len _ _

set_option maxRecDepth 100000 in
set_option maxHeartbeats 8000000 in
theorem c_turned (X Y : Nat) (a : Option Addr) (n c : Nat) (l : List Bool) (w : World) (h : SlB w a n c l) (hX1 : 1 ≤ X) (hX2 : X ≤ 64) (hY1 : 1 ≤ Y) (hY2 : Y ≤ 64) (hn : n = X * Y) :
    Calls Try.prog 104 #[rst X Y a n c] w (RetB w ((Y : Int), (X : Int), turnT X Y l)) := by
  have HL := hidP h.len
  have H := hidP h
  clear h
  obtain ⟨hm1, hm2⟩ := mul_box (x := (Y : Int)) (y := (X : Int)) (by omega) (by omega) (by omega) (by omega)
  have hNi : (Y : Int) * (X : Int) = (n : Int) := by rw [hn]; simp [Int.mul_comm]
  rw [hNi] at hm1 hm2
  have hN4 : n ≤ 4096 := by omega
  have hN0 : 0 < n := by omega
  have HN := hidP (fun u => c_New Y X u)
  have hNB : newB (Y : Int) (X : Int) = ((Y : Int), (X : Int), turnU X Y l 0 0) := by
    unfold newB
    rw [if_pos (by omega), hNi, Int.toNat_natCast, turnU_zero, hn]
  rw [hNB] at HN
  have HNN := hidP hn
  have HLEN := hidP (fun y x => (turnU_len X Y l y x).trans hn.symm)
  have HSTEP := hidP (fun y x (hy : y < Y) => turnU_step (X := X) (l := l) (x := x) hy)
  have HROW := hidP (fun y => turnU_row (X := X) (Y := Y) (l := l) (y := y) (by omega))
  have HEND := hidP (turnU_end (X := X) (Y := Y) (l := l) (by omega))
  clear hNi hNB hn
  generalize hT : turnU X Y l = T at *
  clear hT
  go_enter Try.func104, Try.ntmps104
  go_wp2_with fail
  refine absC (fun x1 hx1 => ?_)
  have hx : Ext w x1 := by rw [hx1]; exact (((Ext.refl _).alloc _).alloc _)
  have bp : Bl x1 (w.heap.size) #[.int .i64 (X : Int), .int .i64 (Y : Int), .slice a n c] := by rw [hx1]; exact ((Bl.new (by simp)).alloc (by simp))
  have bs : Bl x1 (w.heap.size + 1) #[.int .i64 0, .int .i64 0, .slice none 0 0] := by rw [hx1]; exact (Bl.new (by simp))
  have fs : Fz x1 (w.heap.size + 1) := by rw [hx1]; exact (Fz.new (by simp))
  have HE := hx
  clear hx
  clear hx1
  refine (HN.out _).mono ?_
  rintro e u3 ⟨a3, n3, c3, rfl, hs3, hown, hx⟩
  obtain rfl : n3 = n := by have := hs3.len; rw [HLEN.out] at this; omega
  have lp2 := bp.lt (Nat.succ_pos _); have ls2 := bs.lt (Nat.succ_pos _)
  obtain ⟨g3, rfl, hg3⟩ := RowB.open hown hN0
  have hg3u := (hown.lt g3 rfl).2
  clear hs3
  replace bp := Bl.ext hx bp (Nat.succ_pos _)
  replace fs := Fz.ext hx fs bs (Nat.succ_pos _)
  replace bs := Bl.ext hx bs (Nat.succ_pos _)
  replace HE := HE.trans hx
  clear hx
  go_upto_region 2 with fail
  refine absW (fun x2 hx2 => ?_)
  have hx : Ext u3 x2 := by rw [hx2]; exact ((Ext.refl _).alloc _)
  have bt : Bl x2 (u3.heap.size) #[.int .i64 (Y : Int), .int .i64 (X : Int), .slice (some ⟨g3, 0, none⟩) n3 c3] := by rw [hx2]; exact (Bl.new (by simp))
  replace bp := Bl.ext hx bp (Nat.succ_pos _)
  replace fs := Fz.ext hx fs bs (Nat.succ_pos _)
  replace bs := Bl.ext hx bs (Nat.succ_pos _)
  replace HE := HE.trans hx
  clear hx
  replace hown : x2.ownsRow x1.heap.size 4 1 (.slice (some ⟨g3, 0, none⟩) n3 c3) n3 (bools (T 0 0)) := by rw [hx2]; exact hown.alloc _
  clear hx2
  generalize u3.heap.size = ga at *
  generalize x1.heap.size = B at *
  go_wp2_with fail
  go_loopw [13] (fun iv wr => ∃ y : Nat, y ≤ Y ∧ iv = .int .i64 (y : Int) ∧ wr.ownsRow B 4 1 (.slice (some ⟨g3, 0, none⟩) n3 c3) n3 (bools (T y 0)) ∧ Bl wr ga #[.int .i64 (Y : Int), .int .i64 (X : Int), .slice (some ⟨g3, 0, none⟩) n3 c3] ∧ Bl wr w.heap.size #[.int .i64 (X : Int), .int .i64 (Y : Int), .slice a n3 c] ∧ Bl wr (w.heap.size + 1) #[.int .i64 0, .int .i64 0, .slice none 0 0] ∧ Fz wr (w.heap.size + 1) ∧ Ext w wr) (fun iv _ => Y - (intOf iv).toNat)
  case atStart => exact ⟨0, by omega, rfl, hown, bt, bp, bs, fs, HE⟩
  case round =>
    clear hown bt bp bs fs HE
    obtain ⟨y, hy, rfl, hown, bt, bp, bs, fs, HE⟩ := hrel
    by_cases hlt : y < Y
    · have hlt0 := hlt
      go_wp2_with fail
      go_loopw [18] (fun iv wr => ∃ x : Nat, x ≤ X ∧ iv = .int .i64 (x : Int) ∧ wr.ownsRow B 4 1 (.slice (some ⟨g3, 0, none⟩) n3 c3) n3 (bools (T y x)) ∧ Bl wr ga #[.int .i64 (Y : Int), .int .i64 (X : Int), .slice (some ⟨g3, 0, none⟩) n3 c3] ∧ Bl wr w.heap.size #[.int .i64 (X : Int), .int .i64 (Y : Int), .slice a n3 c] ∧ Bl wr (w.heap.size + 1) #[.int .i64 0, .int .i64 0, .slice none 0 0] ∧ Fz wr (w.heap.size + 1) ∧ Ext w wr) (fun iv _ => X - (intOf iv).toNat)
      case atStart => exact ⟨0, by omega, rfl, hown, bt, bp, bs, fs, HE⟩
      case round =>
        clear hown bt bp bs fs HE
        obtain ⟨x, hx, rfl, hown, bt, bp, bs, fs, HE⟩ := hrel
        by_cases hlx : x < X
        · have hlx0 := hlx
          obtain ⟨g, off, rfl, hc⟩ := (H.out.ext HE).at (by omega)
          have hin1 : y * X + x < n3 := by
            have e : (y + 1) * X ≤ Y * X := Nat.mul_le_mul_right _ (by omega)
            rw [Nat.add_mul, Nat.one_mul, Nat.mul_comm Y X] at e
            rw [HNN.out]; omega
          have hin2 : x * Y + y < n3 := by
            have e : (x + 1) * Y ≤ X * Y := Nat.mul_le_mul_right _ (by omega)
            rw [Nat.add_mul, Nat.one_mul] at e
            rw [HNN.out]; omega
          have h0 := hc (y * X + x) (by rw [HL.out]; exact hin1)
          have hst := HSTEP.out y x hlt
          rw [show l.getD (y * X + x) false = l[y * X + x]'(by rw [HL.out]; exact hin1) by rw [List.getD_eq_getElem?_getD, List.getElem?_eq_getElem (by rw [HL.out]; exact hin1)]; rfl] at hst
          have hfl : x * Y + y < (T y x).length := by rw [HLEN.out]; exact hin2
          have HC1 := RowB.cell hown (x * Y + y) hfl
          have HC2 : wr.frozen? ⟨g3, x * Y + y, none⟩ = false := World.ownsRow.frozenAt (w := wr) hown (x * Y + y)
          have hrow2 := RowB.store (w := wr.drew) hown.drew (x * Y + y) (l[y * X + x]'(by rw [HL.out]; exact hin1))
          rw [hst] at hrow2
          generalize (T y x)[x * Y + y]'hfl = old at *
          generalize l[y * X + x]'(by rw [HL.out]; exact hin1) = p at *
          have HROW2 := hidP hrow2
          have HQ1 : Hid ((x : Int) * (Y : Int) + (y : Int) = ((x * Y + y : Nat) : Int)) := hidP (by simp)
          have HQ2 : Hid ((y : Int) * (X : Int) + (x : Int) = ((y * X + x : Nat) : Int)) := hidP (by simp)
          have HW1 := hidP (wrap_mul x Y y (by omega))
          have HW2 := hidP (wrap_mul y X x (by omega))
          clear hc hst hfl hrow2 hown
          generalize x * Y + y = i1 at *
          generalize y * X + x = i2 at *
          have hd1 : Ext wr wr.drew := (Ext.refl _).drew
          have hbut : But wr.drew (wr.drew.setCell ⟨g3, i1, none⟩ (.bool p)) g3 := (But.refl _ _).store
          go_wp2_with fail
          refine wp_region_plan (R := Ext) (.q 0 (.q 1 (.q 2 (.q 3 (.q 4 (.q 5 (.q 6 (.q 7 (.q 8 (.q 9 (.q 10 (.q 11 (.q 12 (.q 13 (.q 14 (.q 15 (.q 16 (.q 17 (.q 18 (.b 19 .done)))))))))))))))))))) (by kernel_rfl) (by kernel_rfl) (by kernel_rfl) (by kernel_rfl) Ext.refl (fun _ _ _ => Ext.trans) ?_
          replace bt := Bl.ext hd1 bt (Nat.succ_pos _)
          replace bp := Bl.ext hd1 bp (Nat.succ_pos _)
          replace fs := Fz.ext hd1 fs bs (Nat.succ_pos _)
          replace bs := Bl.ext hd1 bs (Nat.succ_pos _)
          replace h0 := hd1.cell' h0
          replace HC1 := hd1.cell' HC1
          replace HC2 : wr.drew.frozen? ⟨g3, i1, none⟩ = false := HC2
          replace HE := HE.trans hd1
          clear hd1
          generalize wr.drew = wd at *
          repeat (refine wpE_q (v := ?_) rfl rfl (fun u hu => ?_) ?_; rotate_left 1; (focus (have kt := Bl.ext hu bt (Nat.succ_pos _); have kp := Bl.ext hu bp (Nat.succ_pos _); have kh0 := hu.cell' h0; have q1 := HQ1.out; have q2 := HQ2.out; have w1 := HW1.out; have w2 := HW2.out; go_simp; (try rfl))); simp only [Act.put, List.setIfInBounds_toArray, List.set_cons_zero, List.set_cons_succ])
          refine wpE_b rfl rfl (fun K hK => ?_)
          go_simp
          refine hK.out _ _ ?_
          clear hK K
          try simp only [Act.put, List.setIfInBounds_toArray, List.set_cons_zero, List.set_cons_succ]
          refine wpE_done ?_
          go_wp2_with fail
          go_roundw
          case rel => exact ⟨x + 1, by omega, by go_num, HROW2.out, hbut.bl bt (Nat.succ_pos _) (by omega), hbut.bl bp (Nat.succ_pos _) (by omega), hbut.bl bs (Nat.succ_pos _) (by omega), hbut.fz fs bs (Nat.succ_pos _) (by omega), HE.store (by show w.heap.size ≤ g3; omega) _⟩
          case measure => simp only [intOf]; omega
        · obtain rfl : x = X := by omega
          rw [HROW.out] at hown
          go_wp2_with fail
          go_roundw
          case rel => exact ⟨y + 1, by omega, by go_num, hown, bt, bp, bs, fs, HE⟩
          case measure => simp only [intOf]; omega
    · obtain rfl : y = Y := by omega
      rw [HEND.out] at hown
      have HSR : Hid (SlB wr (some ⟨g3, 0, none⟩) n3 c3 (turnT X y l)) := hidP (SlK.of_owns' hown)
      clear hown
      generalize turnT X y l = R at *
      go_wp2_with fail
      refine absB (fun ue hue => ?_)
      have hbs : Bl ue (w.heap.size + 1) #[.int .i64 (y : Int), .int .i64 (X : Int), .slice (some ⟨g3, 0, none⟩) n3 c3] := by rw [hue]; exact (((bs.set (by simp)).set (by simp)).set (by simp))
      have hbt : But wr ue (w.heap.size + 1) := by rw [hue]; exact ((But.refl _ _).store.store.store)
      have heu : Ext w ue := by rw [hue]; exact ((HE.store (by show w.heap.size ≤ w.heap.size + 1; omega) _).store (by show w.heap.size ≤ w.heap.size + 1; omega) _).store (by show w.heap.size ≤ w.heap.size + 1; omega) _
      clear hue
      refine bodyPost_cells rfl rfl Try.underlying44 rfl (by kernel_rfl) (blk_three hbs) rfl ?_
      exact ⟨_, _, _, rfl, HSR.out.but bs not_bools hbt, heu⟩

/-- What is near, the program's way. -/
def growC (k X Y : Nat) (l : List Bool) : List Bool :=
  turnT Y X (fillW k Y (List.replicate (X * Y) false) (rowsR (turnT X Y (fillW k X (List.replicate (Y * X) false) (rowsR l X Y 0))) Y X 0))
def growB (x y : Int) (n : Nat) (l : List Bool) (k : Int) : (Int × Int × List Bool) × Int :=
  if mayR x y n = true ∧ 0 ≤ k ∧ k ≤ 8 then ((x, y, growC k.toNat x.toNat y.toNat l), 0) else ((0, 0, []), 2)

set_option maxRecDepth 100000 in
set_option maxHeartbeats 8000000 in
theorem c_Grow (x y : Int) (a : Option Addr) (n c : Nat) (l : List Bool) (k : Int) (w : World) (h : SlB w a n c l) :
    Calls Try.prog 49 #[rst x y a n c, .int .i64 k] w (RetBE w (growB x y n l k)) := by
  have H := hidP h
  clear h
  have HM := hidP (fun u => c_May x y a n c u)
  by_cases hok : mayR x y n = true ∧ 0 ≤ k ∧ k ≤ 8
  · have hR : growB x y n l k = ((x, y, growC k.toNat x.toNat y.toNat l), 0) := if_pos hok
    obtain ⟨hm, hk1, hk2⟩ := hok
    rw [hm] at HM
    obtain ⟨m1, m2, m3, m4, m5⟩ := of_decide_eq_true hm
    obtain ⟨X, rfl⟩ : ∃ X : Nat, x = (X : Int) := ⟨x.toNat, by omega⟩
    obtain ⟨Y, rfl⟩ : ∃ Y : Nat, y = (Y : Int) := ⟨y.toNat, by omega⟩
    obtain ⟨K, rfl⟩ : ∃ K : Nat, k = (K : Int) := ⟨k.toNat, by omega⟩
    simp only [Int.toNat_natCast] at hR
    have hn1 : n = X * Y := by exact_mod_cast m5
    have hn2 : n = Y * X := by rw [hn1, Nat.mul_comm]
    unfold growC at hR
    have W1 := hidP (fun u (t : SlB u a n c l) => c_wide X Y K a n c l u t (by omega) (by omega) (by omega) (by omega) hn2 (by omega))
    generalize hA : fillW K X (List.replicate (Y * X) false) (rowsR l X Y 0) = A at *
    have hAl : A.length = n := by rw [← hA, fillW_len, List.length_replicate, hn2]
    have W2 := hidP (fun u a c (t : SlB u a n c A) => c_turned X Y a n c A u t (by omega) (by omega) (by omega) (by omega) hn1)
    generalize hB : turnT X Y A = B at *
    have hBl : B.length = n := by rw [← hB, hn1]; exact tab_len _ _
    have W3 := hidP (fun u a c (t : SlB u a n c B) => c_wide Y X K a n c B u t (by omega) (by omega) (by omega) (by omega) hn1 (by omega))
    generalize hC : fillW K Y (List.replicate (X * Y) false) (rowsR B Y X 0) = C at *
    have hCl : C.length = n := by rw [← hC, fillW_len, List.length_replicate, hn1]
    have W4 := hidP (fun u a c (t : SlB u a n c C) => c_turned Y X a n c C u t (by omega) (by omega) (by omega) (by omega) hn2)
    generalize turnT Y X C = E at *
    have HR := hidP hR
    have HAL := hidP hAl; have HBL := hidP hBl; have HCL := hidP hCl
    clear hR hm m5 hA hB hC hAl hBl hCl hn1 hn2
    generalize growB X Y n l K = rr at *
    go_enter Try.func49, Try.ntmps49
    go_wp2_with fail
    refine absC (fun x1 hx1 => ?_)
    have hx : Ext w x1 := by rw [hx1]; exact (((Ext.refl _).alloc _).alloc _)
    have bp : Bl x1 (w.heap.size) #[.int .i64 (X : Int), .int .i64 (Y : Int), .slice a n c] := by rw [hx1]; exact ((Bl.new (by simp)).alloc (by simp))
    have bs : Bl x1 (w.heap.size + 1) #[.int .i64 0, .int .i64 0, .slice none 0 0] := by rw [hx1]; exact (Bl.new (by simp))
    have fs : Fz x1 (w.heap.size + 1) := by rw [hx1]; exact (Fz.new (by simp))
    have HE := hx
    clear hx
    clear hx1
    refine (HM.out _).mono ?_
    rintro e u0 ⟨rfl, hx⟩
    replace bp := Bl.ext hx bp (Nat.succ_pos _)
    replace fs := Fz.ext hx fs bs (Nat.succ_pos _)
    replace bs := Bl.ext hx bs (Nat.succ_pos _)
    replace HE := HE.trans hx
    clear hx
    go_wp2_with fail
    refine (W1.out _ (H.out.ext HE)).mono ?_
    rintro e u1 ⟨a1, n1, c1, rfl, hs1, hx⟩
    replace bp := Bl.ext hx bp (Nat.succ_pos _)
    replace fs := Fz.ext hx fs bs (Nat.succ_pos _)
    replace bs := Bl.ext hx bs (Nat.succ_pos _)
    replace HE := HE.trans hx
    clear hx
    replace hs1 : SlB u1 a1 n1 c1 A := hs1
    obtain rfl : n = n1 := by have := hs1.len; rw [HAL.out] at this; omega
    go_wp2_with fail
    refine (W2.out _ _ _ hs1).mono ?_
    rintro e u2 ⟨a2, n2, c2, rfl, hs2, hx⟩
    replace bp := Bl.ext hx bp (Nat.succ_pos _)
    replace fs := Fz.ext hx fs bs (Nat.succ_pos _)
    replace bs := Bl.ext hx bs (Nat.succ_pos _)
    replace hs1 := hs1.ext hx
    replace HE := HE.trans hx
    clear hx
    replace hs2 : SlB u2 a2 n2 c2 B := hs2
    obtain rfl : n = n2 := by have := hs2.len; rw [HBL.out] at this; omega
    go_wp2_with fail
    refine (W3.out _ _ _ hs2).mono ?_
    rintro e u3 ⟨a3, n3, c3, rfl, hs3, hx⟩
    replace bp := Bl.ext hx bp (Nat.succ_pos _)
    replace fs := Fz.ext hx fs bs (Nat.succ_pos _)
    replace bs := Bl.ext hx bs (Nat.succ_pos _)
    replace hs1 := hs1.ext hx
    replace hs2 := hs2.ext hx
    replace HE := HE.trans hx
    clear hx
    replace hs3 : SlB u3 a3 n3 c3 C := hs3
    obtain rfl : n = n3 := by have := hs3.len; rw [HCL.out] at this; omega
    go_wp2_with fail
    refine (W4.out _ _ _ hs3).mono ?_
    rintro e u4 ⟨a4, n4, c4, rfl, hs4, hx⟩
    replace bp := Bl.ext hx bp (Nat.succ_pos _)
    replace fs := Fz.ext hx fs bs (Nat.succ_pos _)
    replace bs := Bl.ext hx bs (Nat.succ_pos _)
    replace hs1 := hs1.ext hx
    replace hs2 := hs2.ext hx
    replace hs3 := hs3.ext hx
    replace HE := HE.trans hx
    clear hx
    replace hs4 : SlB u4 a4 n4 c4 E := hs4
    go_wp2_with fail
    refine absB (fun ue hue => ?_)
    have hbs : Bl ue (w.heap.size + 1) #[.int .i64 (X : Int), .int .i64 (Y : Int), .slice a4 n4 c4] := by rw [hue]; exact (((bs.set (by simp)).set (by simp)).set (by simp))
    have hnc : ∀ {aa : Option Addr} {nn cc : Nat} {ll : List Bool}, SlB u4 aa nn cc ll → SlB ue aa nn cc ll := fun h => by
      rw [hue]
      exact h.but bs (not_bools) ((But.refl _ _).store.store.store)
    have heu : Ext w ue := by rw [hue]; exact ((HE.store (by show w.heap.size ≤ w.heap.size + 1; omega) _).store (by show w.heap.size ≤ w.heap.size + 1; omega) _).store (by show w.heap.size ≤ w.heap.size + 1; omega) _
    clear hue
    refine bodyPost_cells_tmp2 rfl rfl Try.underlying44 rfl (by kernel_rfl) (blk_three hbs) rfl rfl ?_
    rw [HR.out]
    exact ⟨_, _, _, rfl, hnc hs4, heu⟩
  · have HR : Hid (growB x y n l k = ((0, 0, []), 2)) := hidP (if_neg hok)
    generalize growB x y n l k = rr at *
    cases hm : mayR x y n
    · rw [hm] at HM
      clear hok hm
      go_enter Try.func49, Try.ntmps49
      go_wp2_with fail
      refine absC (fun x1 hx1 => ?_)
      have hx : Ext w x1 := by rw [hx1]; exact (((Ext.refl _).alloc _).alloc _)
      have bp : Bl x1 (w.heap.size) #[.int .i64 x, .int .i64 y, .slice a n c] := by rw [hx1]; exact ((Bl.new (by simp)).alloc (by simp))
      have bs : Bl x1 (w.heap.size + 1) #[.int .i64 0, .int .i64 0, .slice none 0 0] := by rw [hx1]; exact (Bl.new (by simp))
      have fs : Fz x1 (w.heap.size + 1) := by rw [hx1]; exact (Fz.new (by simp))
      have HE := hx
      clear hx
      clear hx1
      refine (HM.out _).mono ?_
      rintro e u1 ⟨rfl, hx⟩
      replace bp := Bl.ext hx bp (Nat.succ_pos _)
      replace fs := Fz.ext hx fs bs (Nat.succ_pos _)
      replace bs := Bl.ext hx bs (Nat.succ_pos _)
      replace HE := HE.trans hx
      clear hx
      go_wp2_with fail
      refine absB (fun ue hue => ?_)
      have hbs : Bl ue (w.heap.size + 1) #[.int .i64 0, .int .i64 0, .slice none 0 0] := by rw [hue]; exact (((bs.set (by simp)).set (by simp)).set (by simp))
      have hnc : ∀ {aa : Option Addr} {nn cc : Nat} {ll : List Bool}, SlB u1 aa nn cc ll → SlB ue aa nn cc ll := fun h => by
        rw [hue]
        exact h.but bs (not_bools) ((But.refl _ _).store.store.store)
      have heu : Ext w ue := by rw [hue]; exact ((HE.store (by show w.heap.size ≤ w.heap.size + 1; omega) _).store (by show w.heap.size ≤ w.heap.size + 1; omega) _).store (by show w.heap.size ≤ w.heap.size + 1; omega) _
      clear hue
      refine bodyPost_cells_tmp2 rfl rfl Try.underlying44 rfl (by kernel_rfl) (blk_three hbs) rfl rfl ?_
      rw [HR.out]
      exact ⟨none, 0, 0, rfl, SlK.nil 1 _, heu⟩
    · rw [hm] at HM
      have hcs : k < 0 ∨ (0 ≤ k ∧ 8 < k) := by
        have : ¬ (0 ≤ k ∧ k ≤ 8) := fun h => hok ⟨hm, h⟩
        omega
      clear hok hm
      rcases hcs with h1 | ⟨h0, h1⟩
      all_goals (
        go_enter Try.func49, Try.ntmps49
        go_wp2_with fail
        refine absC (fun x1 hx1 => ?_)
        have hx : Ext w x1 := by rw [hx1]; exact (((Ext.refl _).alloc _).alloc _)
        have bp : Bl x1 (w.heap.size) #[.int .i64 x, .int .i64 y, .slice a n c] := by rw [hx1]; exact ((Bl.new (by simp)).alloc (by simp))
        have bs : Bl x1 (w.heap.size + 1) #[.int .i64 0, .int .i64 0, .slice none 0 0] := by rw [hx1]; exact (Bl.new (by simp))
        have fs : Fz x1 (w.heap.size + 1) := by rw [hx1]; exact (Fz.new (by simp))
        have HE := hx
        clear hx
        clear hx1
        refine (HM.out _).mono ?_
        rintro e u1 ⟨rfl, hx⟩
        replace bp := Bl.ext hx bp (Nat.succ_pos _)
        replace fs := Fz.ext hx fs bs (Nat.succ_pos _)
        replace bs := Bl.ext hx bs (Nat.succ_pos _)
        replace HE := HE.trans hx
        clear hx
        go_wp2_with fail
        refine absB (fun ue hue => ?_)
        have hbs : Bl ue (w.heap.size + 1) #[.int .i64 0, .int .i64 0, .slice none 0 0] := by rw [hue]; exact (((bs.set (by simp)).set (by simp)).set (by simp))
        have hnc : ∀ {aa : Option Addr} {nn cc : Nat} {ll : List Bool}, SlB u1 aa nn cc ll → SlB ue aa nn cc ll := fun h => by
          rw [hue]
          exact h.but bs (not_bools) ((But.refl _ _).store.store.store)
        have heu : Ext w ue := by rw [hue]; exact ((HE.store (by show w.heap.size ≤ w.heap.size + 1; omega) _).store (by show w.heap.size ≤ w.heap.size + 1; omega) _).store (by show w.heap.size ≤ w.heap.size + 1; omega) _
        clear hue
        refine bodyPost_cells_tmp2 rfl rfl Try.underlying44 rfl (by kernel_rfl) (blk_three hbs) rfl rfl ?_
        rw [HR.out]
        exact ⟨none, 0, 0, rfl, SlK.nil 1 _, heu⟩)

end Go.Proofs.Ytogcmnagiepofaa
