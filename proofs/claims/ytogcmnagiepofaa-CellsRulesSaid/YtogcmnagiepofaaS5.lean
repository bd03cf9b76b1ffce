/- Sets of cells: the set of runs. -/
import Derived.Test.YtogcmnagiepofaaS3
namespace Go.Proofs.Ytogcmnagiepofaa
set_option linter.unusedVariables false
set_option linter.unusedSimpArgs false
open Go Go.RowKit

theorem RowB.ext {w u : World} {B e K n : Nat} {v : Value} {xs : List Value} (h : w.ownsRow B e K v n xs) (he : Ext w u) : u.ownsRow B e K v n xs :=
  World.ownsRow.kept (row := none) h ⟨he.os, he.tape, he.output, he.size, fun k hk _ => he.block k hk⟩ (by cases v.ownBlock <;> simp)
/-- A run: its row, from, to. -/
abbrev Run3 := Nat × Nat × Nat
def runsV (l : List Run3) : List Value := l.flatMap fun p => [.int .i64 (p.1 : Int), .int .i64 (p.2.1 : Int), .int .i64 (p.2.2 : Int)]
theorem runsV_append (l m : List Run3) : runsV (l ++ m) = runsV l ++ runsV m := by simp [runsV]
theorem runsV_len (l : List Run3) : (runsV l).length = l.length * 3 := by
  induction l with
  | nil => rfl
  | cons p r ih => simp only [runsV, List.flatMap_cons, List.length_append, List.length_cons, List.length_nil] at *; omega
theorem runsV_get (l : List Run3) (i : Nat) (h : i < l.length) : (runsV l)[i * 3]? = some (.int .i64 (l[i].1 : Int)) ∧ (runsV l)[i * 3 + 1]? = some (.int .i64 (l[i].2.1 : Int)) ∧ (runsV l)[i * 3 + 2]? = some (.int .i64 (l[i].2.2 : Int)) := by
  induction l generalizing i with
  | nil => simp at h
  | cons p r ih =>
    cases i with
    | zero => exact ⟨rfl, rfl, rfl⟩
    | succ i =>
      have := ih i (by simpa using h)
      have e1 : (i + 1) * 3 = i * 3 + 1 + 1 + 1 := by omega
      rw [e1]
      simpa [runsV] using this
/-- A row of runs. -/
def SlR (w : World) (a : Option Addr) (n cap : Nat) (l : List Run3) : Prop := SlK 3 w a n cap (runsV l)
theorem SlR.ext {w u : World} {a : Option Addr} {n cap : Nat} {l : List Run3} (h : SlR w a n cap l) (he : Ext w u) : SlR u a n cap l := SlK.ext h he
theorem SlR.len {w : World} {a : Option Addr} {n cap : Nat} {l : List Run3} (h : SlR w a n cap l) : l.length = n := by
  have h1 := h.1
  rw [runsV_len] at h1
  omega
theorem SlR.at {w : World} {a : Option Addr} {n cap : Nat} {l : List Run3} (h : SlR w a n cap l) (h0 : 0 < n) : ∃ b off, a = some ⟨b, off, none⟩ ∧ ∀ (i : Nat) (hi : i < l.length), w.cell? ⟨b, off + i * 3, none⟩ = some (.int .i64 (l[i].1 : Int)) ∧ w.cell? ⟨b, off + i * 3 + 1, none⟩ = some (.int .i64 (l[i].2.1 : Int)) ∧ w.cell? ⟨b, off + i * 3 + 2, none⟩ = some (.int .i64 (l[i].2.2 : Int)) := by
  obtain ⟨b, off, ha, hc⟩ := h.2.2.2 h0
  refine ⟨b, off, ha, fun i hi => ?_⟩
  obtain ⟨g0, g1, g2⟩ := runsV_get l i hi
  exact ⟨hc _ _ g0, hc _ _ g1, hc _ _ g2⟩
/-- So many cells from a place on are in. -/
def fillR (D : List Bool) (p : Nat) : Nat → List Bool
  | 0 => D
  | k + 1 => (fillR D p k).set (p + k) true
def fills (X : Nat) (D : List Bool) (l : List Run3) : List Bool := l.foldl (fun D r => fillR D (r.1 * X + r.2.1) (r.2.2 - r.2.1)) D
theorem fillR_len (D : List Bool) (p : Nat) : ∀ k, (fillR D p k).length = D.length
  | 0 => rfl
  | k + 1 => by rw [fillR, List.length_set, fillR_len D p k]
theorem fills_len (X : Nat) : ∀ (l : List Run3) (D : List Bool), (fills X D l).length = D.length
  | [], _ => rfl
  | r :: l, D => by
    show (fills X (fillR D (r.1 * X + r.2.1) (r.2.2 - r.2.1)) l).length = _
    rw [fills_len X l, fillR_len]
theorem fills_snoc (X : Nat) (D : List Bool) (l : List Run3) (j : Nat) (h : j < l.length) : fills X D (l.take (j + 1)) = fillR (fills X D (l.take j)) (l[j].1 * X + l[j].2.1) (l[j].2.2 - l[j].2.1) := by
  rw [List.take_succ_eq_append_getElem h]
  unfold fills
  rw [List.foldl_append]
  rfl
/-- Runs that may be, one behind another. -/
def RunsOk (X Y : Nat) (l : List Run3) : Prop := ∀ (i : Nat) (h : i < l.length), l[i].1 < Y ∧ l[i].2.1 < l[i].2.2 ∧ l[i].2.2 ≤ X ∧ (0 < i → l[i - 1].1 < l[i].1 ∨ (l[i - 1].1 = l[i].1 ∧ l[i - 1].2.2 < l[i].2.1))

set_option maxRecDepth 100000 in
set_option maxHeartbeats 8000000 in
theorem c_Of (X Y : Nat) (a : Option Addr) (n c : Nat) (l : List Run3) (w : World) (h : SlR w a n c l) (hX1 : 1 ≤ X) (hX2 : X ≤ 64) (hY1 : 1 ≤ Y) (hY2 : Y ≤ 64) (hl : RunsOk X Y l) (hn : n ≤ 1099511627776) :
    Calls Try.prog 57 #[.int .i64 (X : Int), .int .i64 (Y : Int), .slice a n c] w (RetBE w (((X : Int), (Y : Int), fills X (List.replicate (Y * X) false) l), 0)) := by
  have HL := hidP h.len
  have H := hidP h
  have HOK := hidP hl
  clear h hl
  obtain ⟨hm1, hm2⟩ := mul_box (x := (X : Int)) (y := (Y : Int)) (by omega) (by omega) (by omega) (by omega)
  obtain ⟨N, hNN⟩ : ∃ N : Nat, N = Y * X := ⟨_, rfl⟩
  have hNi : (X : Int) * (Y : Int) = (N : Int) := by rw [hNN]; simp [Int.mul_comm]
  have HNN := hidP hNN
  rw [hNi] at hm1 hm2
  have hN4 : N ≤ 4096 := by omega
  have hN0 : 0 < N := by omega
  have HN := hidP (fun u => c_New X Y u)
  have hNB : newB (X : Int) (Y : Int) = ((X : Int), (Y : Int), List.replicate N false) := by
    unfold newB
    rw [if_pos (by omega), hNi, Int.toNat_natCast]
  rw [hNB] at HN
  have HM := hidP (fun u a c => c_May X Y a N c u)
  have hmm : mayR (X : Int) (Y : Int) N = true := decide_eq_true ⟨by omega, by omega, by omega, by omega, hNi.symm⟩
  rw [hmm] at HM
  rw [← hNN]
  clear hNN hNi hNB hmm
  generalize hD0 : List.replicate N false = D0 at *
  have HD0 : Hid (D0.length = N) := hidP (by rw [← hD0, List.length_replicate])
  clear hD0
  have HI0 : Hid (fills X D0 (l.take 0) = D0) := hidP (by simp [fills])
  have HS := hidP (fun j hj => fills_snoc X D0 l j hj)
  have HFL := hidP (fun j => (fills_len X (l.take j) D0).trans HD0.out)
  go_enter Try.func57, Try.ntmps57
  go_wp2_with fail
  refine absC (fun x1 hx1 => ?_)
  have hx : Ext w x1 := by rw [hx1]; exact ((Ext.refl _).alloc _)
  have bs : Bl x1 (w.heap.size) #[.int .i64 0, .int .i64 0, .slice none 0 0] := by rw [hx1]; exact (Bl.new (by simp))
  have fs : Fz x1 (w.heap.size) := by rw [hx1]; exact (Fz.new (by simp))
  have HE := hx
  clear hx
  clear hx1
  refine (HN.out _).mono ?_
  rintro e u3 ⟨a3, n3, c3, rfl, hs3, hown, hx⟩
  obtain rfl : n3 = N := by have := hs3.len; rw [HD0.out] at this; omega
  have ls2 := bs.lt (Nat.succ_pos _)
  obtain ⟨g3, rfl, hg3⟩ := RowB.open hown hN0
  have hg3u := (hown.lt g3 rfl).2
  clear hs3
  replace fs := Fz.ext hx fs bs (Nat.succ_pos _)
  replace bs := Bl.ext hx bs (Nat.succ_pos _)
  replace HE := HE.trans hx
  clear hx
  go_upto_region 2 with fail
  refine absW (fun x2 hx2 => ?_)
  have hx : Ext u3 x2 := by rw [hx2]; exact ((Ext.refl _).alloc _)
  have bt : Bl x2 (u3.heap.size) #[.int .i64 (X : Int), .int .i64 (Y : Int), .slice (some ⟨g3, 0, none⟩) n3 c3] := by rw [hx2]; exact (Bl.new (by simp))
  replace fs := Fz.ext hx fs bs (Nat.succ_pos _)
  replace bs := Bl.ext hx bs (Nat.succ_pos _)
  replace HE := HE.trans hx
  clear hx
  replace hown : x2.ownsRow x1.heap.size 4 1 (.slice (some ⟨g3, 0, none⟩) n3 c3) n3 (bools D0) := by rw [hx2]; exact hown.alloc _
  clear hx2
  go_wp2_with fail
  refine (HM.out _ _ _).mono ?_
  rintro e u4 ⟨rfl, hx⟩
  have hmv := But.of_ext g3 hx
  replace hown := RowB.ext hown hx
  replace fs := Fz.ext hx fs bs (Nat.succ_pos _)
  replace bs := Bl.ext hx bs (Nat.succ_pos _)
  replace bt := Bl.ext hx bt (Nat.succ_pos _)
  replace HE := HE.trans hx
  clear hx
  clear hmv
  generalize u3.heap.size = ga at *
  generalize x1.heap.size = B at *
  have hB : ga < u4.heap.size := bt.lt (Nat.succ_pos _)
  go_wp2_with fail
  rw [← HI0.out] at hown
  go_loopw [21] (fun iv wr => ∃ j : Nat, j ≤ n ∧ iv = .int .i64 (j : Int) ∧ wr.ownsRow B 4 1 (.slice (some ⟨g3, 0, none⟩) n3 c3) n3 (bools (fills X D0 (l.take j))) ∧ Bl wr ga #[.int .i64 (X : Int), .int .i64 (Y : Int), .slice (some ⟨g3, 0, none⟩) n3 c3] ∧ Bl wr w.heap.size #[.int .i64 0, .int .i64 0, .slice none 0 0] ∧ Fz wr w.heap.size ∧ ga < wr.heap.size ∧ Ext w wr) (fun iv _ => n - (intOf iv).toNat)
  case atStart => exact ⟨0, by omega, rfl, hown, bt, bs, fs, hB, HE⟩
  case round =>
    clear hown bt bs fs hB HE
    obtain ⟨j, hj, rfl, hown, bt, bs, fs, hB, HE⟩ := hrel
    by_cases hlt : j < n
    · have hlt0 := hlt
      obtain ⟨g, off, rfl, hc⟩ := H.out.at (by omega)
      have hjl : j < l.length := by rw [HL.out]; exact hlt
      obtain ⟨h0, h1, h2⟩ := hc j hjl
      obtain ⟨o1, o2, o3, o4⟩ := HOK.out j hjl
      have hs := HS.out j hjl
      have hgl := cell_lt h0
      have hpv : 0 < j → ∃ (p0 p1 p2 : Nat), w.cell? ⟨g, off + (j - 1) * 3, none⟩ = some (.int .i64 (p0 : Int)) ∧ w.cell? ⟨g, off + (j - 1) * 3 + 1, none⟩ = some (.int .i64 (p1 : Int)) ∧ w.cell? ⟨g, off + (j - 1) * 3 + 2, none⟩ = some (.int .i64 (p2 : Int)) ∧ (p0 < l[j].1 ∨ (p0 = l[j].1 ∧ p2 < l[j].2.1)) := fun hj0 => by
        obtain ⟨k0, k1, k2⟩ := hc (j - 1) (by omega)
        exact ⟨_, _, _, k0, k1, k2, o4 hj0⟩
      clear hc o4
      generalize l[j] = r at *
      obtain ⟨r0, r1, r2⟩ := r
      simp only [] at h0 h1 h2 o1 o2 o3 hs hpv
      replace h0 := HE.cell' h0; replace h1 := HE.cell' h1; replace h2 := HE.cell' h2
      have hfl := HFL.out j
      generalize fills X D0 (l.take j) = D at *
      generalize hD2 : fills X D0 (l.take (j + 1)) = D2 at *
      have HD2 := hidP hD2
      clear hD2
      have HSS := hidP hs
      have HFLL := hidP hfl
      have hrX : r0 * X + r2 ≤ n3 := by
        have e : (r0 + 1) * X ≤ Y * X := Nat.mul_le_mul_right _ (by omega)
        rw [Nat.add_mul, Nat.one_mul] at e
        rw [HNN.out]; omega
      have HRI : Hid ((r0 : Int) * (X : Int) = ((r0 * X : Nat) : Int)) := hidP (by simp)
      generalize r0 * X = q at *
      have HPV := hidP hpv
      clear hs hfl hpv
      have h0' := h0; have h1' := h1; have h2' := h2
      go_upto_region 9 with fail
      refine absW (fun x5 hx5 => ?_)
      have hx : Ext wr x5 := by rw [hx5]; exact (Ext.refl _).alloc _
      have br : Bl x5 wr.heap.size #[.int .i64 (r0 : Int), .int .i64 (r1 : Int), .int .i64 (r2 : Int)] := by rw [hx5]; exact Bl.new (by simp)
      clear hx5 h0' h1' h2' h0 h1 h2
      replace hown := RowB.ext hown hx
      replace bt := Bl.ext hx bt (Nat.succ_pos _)
      replace fs := Fz.ext hx fs bs (Nat.succ_pos _)
      replace bs := Bl.ext hx bs (Nat.succ_pos _)
      have hB5 := br.lt (Nat.succ_pos _)
      replace HE := HE.trans hx
      clear hx
      generalize wr.heap.size = gr at *
      rcases Nat.eq_zero_or_pos j with hj0 | hj0
      · have D0' : Hid (decide ((j : Int) > 0) = false) := hidP (by simp; omega)
        clear HPV
        refine wp_region_plan (R := Ext) (.q 0 (.q 1 (.q 2 (.q 3 (.q 4 (.q 5 (.q 6 (.q 7 (.q 8 (.q 9 (.q 10 (.q 11 (.q 12 (.q 13 (.q 14 (.q 15 (.q 16 (.q 17 (.q 18 (.q 19 (.q 20 (.q 21 (.q 22 (.q 23 (.q 24 (.q 25 (.q 26 (.q 27 (.q 28 (.q 29 (.q 30 (.q 31 (.q 32 (.q 33 (.q 34 .done))))))))))))))))))))))))))))))))))) (by kernel_rfl) (by kernel_rfl) (by kernel_rfl) (by kernel_rfl) Ext.refl (fun _ _ _ => Ext.trans) ?_
        refine absE (fun x6 hx6 => ?_)
        have hx : Ext x5 x6 := by rw [hx6]; exact (Ext.refl _).drew
        replace hown : x6.ownsRow B 4 1 (.slice (some ⟨g3, 0, none⟩) n3 c3) n3 (bools D) := by rw [hx6]; exact hown.drew
        replace bt := Bl.ext hx bt (Nat.succ_pos _)
        replace br := Bl.ext hx br (Nat.succ_pos _)
        replace fs := Fz.ext hx fs bs (Nat.succ_pos _)
        replace bs := Bl.ext hx bs (Nat.succ_pos _)
        replace HE := HE.trans hx
        replace hB5 := Nat.lt_of_lt_of_le hB5 hx.size
        clear hx hx6
        repeat (first | (refine wpE_q (v := ?_) rfl rfl (fun u hu => ?_) ?_; rotate_left 1; (focus (have kt := Bl.ext hu br (Nat.succ_pos _); have d0 := D0'.out; go_simp; (try rfl))); simp only [Act.put, List.setIfInBounds_toArray, List.set_cons_zero, List.set_cons_succ]) | (refine wpE_qs rfl rfl ?_; simp only [Act.put, List.setIfInBounds_toArray, List.set_cons_zero, List.set_cons_succ]))
        refine wpE_done ?_
        go_wp2_with fail
        have hown0 : x6.ownsRow B 4 1 (.slice (some ⟨g3, 0, none⟩) n3 c3) n3 (bools (fillR D (q + r1) (r1 - r1))) := by rw [Nat.sub_self]; exact hown
        clear hown
        go_loopw [11] (fun xv wr => ∃ k : Nat, r1 ≤ k ∧ k ≤ r2 ∧ xv = .int .i64 (k : Int) ∧ wr.ownsRow B 4 1 (.slice (some ⟨g3, 0, none⟩) n3 c3) n3 (bools (fillR D (q + r1) (k - r1))) ∧ Bl wr ga #[.int .i64 (X : Int), .int .i64 (Y : Int), .slice (some ⟨g3, 0, none⟩) n3 c3] ∧ Bl wr gr #[.int .i64 (r0 : Int), .int .i64 (r1 : Int), .int .i64 (r2 : Int)] ∧ Bl wr w.heap.size #[.int .i64 0, .int .i64 0, .slice none 0 0] ∧ Fz wr w.heap.size ∧ gr < wr.heap.size ∧ Ext w wr) (fun xv _ => r2 - (intOf xv).toNat)
        case atStart => exact ⟨r1, by omega, by omega, rfl, hown0, bt, br, bs, fs, hB5, HE⟩
        case round =>
          clear hown0 bt br bs fs hB5 HE
          obtain ⟨k, hk1, hk2, rfl, hown, bt, br, bs, fs, hB5, HE⟩ := hrel
          by_cases hlk : k < r2
          · have hlk0 := hlk
            have hq : q + k < (fillR D (q + r1) (k - r1)).length := by rw [fillR_len, HFLL.out]; omega
            have HC1 := RowB.cell hown (q + k) hq
            have HC2 : wr.frozen? ⟨g3, q + k, none⟩ = false := World.ownsRow.frozenAt (w := wr) hown (q + k)
            have hrow := RowB.store hown (q + k) true
            have e1 : (fillR D (q + r1) (k - r1)).set (q + k) true = fillR D (q + r1) (k + 1 - r1) := by
              rw [show k + 1 - r1 = (k - r1) + 1 by omega, fillR, show q + r1 + (k - r1) = q + k by omega]
            rw [e1] at hrow
            have HROW := hidP hrow
            have hqn : q + k < n3 := by omega
            have HQ0 := HRI.out
            have hbut : But wr (wr.setCell ⟨g3, q + k, none⟩ (.bool true)) g3 := (But.refl _ _).store
            generalize (fillR D (q + r1) (k - r1))[q + k] = old at *
            clear hq hrow e1 hown
            go_wp2_with fail
            go_roundw
            case rel => exact ⟨k + 1, by omega, by omega, by go_num, HROW.out, hbut.bl bt (Nat.succ_pos _) (by omega), hbut.bl br (Nat.succ_pos _) (by omega), hbut.bl bs (Nat.succ_pos _) (by omega), hbut.fz fs bs (Nat.succ_pos _) (by omega), Nat.lt_of_lt_of_le hB5 hbut.1, HE.store (by show w.heap.size ≤ g3; omega) _⟩
            case measure => simp only [intOf]; omega
          · obtain rfl : k = r2 := by omega
            rw [← HSS.out] at hown
            go_wp2_with fail
            go_roundw
            case rel => exact ⟨j + 1, by omega, by go_num, by rw [HD2.out]; exact hown, bt, bs, fs, by omega, HE⟩
            case measure => simp only [intOf]; omega
      · obtain ⟨p0, p1, p2, k0, k1, k2, ho⟩ := HPV.out (by omega)
        clear HPV
        replace k0 := HE.cell' k0; replace k1 := HE.cell' k1; replace k2 := HE.cell' k2
        have D0' : Hid (decide ((j : Int) > 0) = true) := hidP (by simp; omega)
        have D1 : Hid (decide ((r0 : Int) < (p0 : Int)) = false) := hidP (by simp; omega)
        have DJ : Hid (IntKind.i64.wrap ((j : Int) - 1) = ((j - 1 : Nat) : Int)) := hidP (by rw [IntWalk.i64_in _ (by omega)]; omega)
        have DJ2 : j - 1 < n := by omega
        generalize j - 1 = i at *
        have E1 : Hid (decide (r0 < p0) = false) := hidP (by simp; omega)
        rcases ho with ho | ⟨he, ho⟩
        · have D2 : Hid (((r0 : Int) == (p0 : Int)) = false) := hidP (by simp; omega)
          have E2 : Hid ((r0 == p0) = false) := hidP (by simp; omega)
          refine wp_region_plan (R := Ext) (.q 0 (.q 1 (.q 2 (.q 3 (.q 4 (.q 5 (.q 6 (.q 7 (.q 8 (.q 9 (.q 10 (.q 11 (.q 12 (.q 13 (.q 14 (.q 15 (.q 16 (.q 17 (.q 18 (.q 19 (.q 20 (.q 21 (.q 22 (.q 23 (.q 24 (.q 25 (.q 26 (.q 27 (.q 28 (.q 29 (.q 30 (.q 31 (.q 32 (.q 33 (.q 34 .done))))))))))))))))))))))))))))))))))) (by kernel_rfl) (by kernel_rfl) (by kernel_rfl) (by kernel_rfl) Ext.refl (fun _ _ _ => Ext.trans) ?_
          refine absE (fun x6 hx6 => ?_)
          have hx : Ext x5 x6 := by rw [hx6]; exact (Ext.refl _).drew
          replace hown : x6.ownsRow B 4 1 (.slice (some ⟨g3, 0, none⟩) n3 c3) n3 (bools D) := by rw [hx6]; exact hown.drew
          replace bt := Bl.ext hx bt (Nat.succ_pos _)
          replace br := Bl.ext hx br (Nat.succ_pos _)
          replace fs := Fz.ext hx fs bs (Nat.succ_pos _)
          replace bs := Bl.ext hx bs (Nat.succ_pos _)
          replace k0 := hx.cell' k0
          replace k1 := hx.cell' k1
          replace k2 := hx.cell' k2
          replace HE := HE.trans hx
          replace hB5 := Nat.lt_of_lt_of_le hB5 hx.size
          clear hx hx6
          repeat (first | (refine wpE_q (v := ?_) rfl rfl (fun u hu => ?_) ?_; rotate_left 1; (focus (have kt := Bl.ext hu br (Nat.succ_pos _); have kk0 := hu.cell' k0; have kk1 := hu.cell' k1; have kk2 := hu.cell' k2; have e1 := E1.out; have e2 := E2.out; have d0 := D0'.out; have d1 := D1.out; have d2 := D2.out; have dj := DJ.out; go_simp; (try rfl))); simp only [Act.put, List.setIfInBounds_toArray, List.set_cons_zero, List.set_cons_succ]) | (refine wpE_qs rfl rfl ?_; simp only [Act.put, List.setIfInBounds_toArray, List.set_cons_zero, List.set_cons_succ]))
          refine wpE_done ?_
          go_wp2_with fail
          have hown0 : x6.ownsRow B 4 1 (.slice (some ⟨g3, 0, none⟩) n3 c3) n3 (bools (fillR D (q + r1) (r1 - r1))) := by rw [Nat.sub_self]; exact hown
          clear hown
          go_loopw [11] (fun xv wr => ∃ k : Nat, r1 ≤ k ∧ k ≤ r2 ∧ xv = .int .i64 (k : Int) ∧ wr.ownsRow B 4 1 (.slice (some ⟨g3, 0, none⟩) n3 c3) n3 (bools (fillR D (q + r1) (k - r1))) ∧ Bl wr ga #[.int .i64 (X : Int), .int .i64 (Y : Int), .slice (some ⟨g3, 0, none⟩) n3 c3] ∧ Bl wr gr #[.int .i64 (r0 : Int), .int .i64 (r1 : Int), .int .i64 (r2 : Int)] ∧ Bl wr w.heap.size #[.int .i64 0, .int .i64 0, .slice none 0 0] ∧ Fz wr w.heap.size ∧ gr < wr.heap.size ∧ Ext w wr) (fun xv _ => r2 - (intOf xv).toNat)
          case atStart => exact ⟨r1, by omega, by omega, rfl, hown0, bt, br, bs, fs, hB5, HE⟩
          case round =>
            clear hown0 bt br bs fs hB5 HE
            obtain ⟨k, hk1, hk2, rfl, hown, bt, br, bs, fs, hB5, HE⟩ := hrel
            by_cases hlk : k < r2
            · have hlk0 := hlk
              have hq : q + k < (fillR D (q + r1) (k - r1)).length := by rw [fillR_len, HFLL.out]; omega
              have HC1 := RowB.cell hown (q + k) hq
              have HC2 : wr.frozen? ⟨g3, q + k, none⟩ = false := World.ownsRow.frozenAt (w := wr) hown (q + k)
              have hrow := RowB.store hown (q + k) true
              have e1 : (fillR D (q + r1) (k - r1)).set (q + k) true = fillR D (q + r1) (k + 1 - r1) := by
                rw [show k + 1 - r1 = (k - r1) + 1 by omega, fillR, show q + r1 + (k - r1) = q + k by omega]
              rw [e1] at hrow
              have HROW := hidP hrow
              have hqn : q + k < n3 := by omega
              have HQ0 := HRI.out
              have hbut : But wr (wr.setCell ⟨g3, q + k, none⟩ (.bool true)) g3 := (But.refl _ _).store
              generalize (fillR D (q + r1) (k - r1))[q + k] = old at *
              clear hq hrow e1 hown
              go_wp2_with fail
              go_roundw
              case rel => exact ⟨k + 1, by omega, by omega, by go_num, HROW.out, hbut.bl bt (Nat.succ_pos _) (by omega), hbut.bl br (Nat.succ_pos _) (by omega), hbut.bl bs (Nat.succ_pos _) (by omega), hbut.fz fs bs (Nat.succ_pos _) (by omega), Nat.lt_of_lt_of_le hB5 hbut.1, HE.store (by show w.heap.size ≤ g3; omega) _⟩
              case measure => simp only [intOf]; omega
            · obtain rfl : k = r2 := by omega
              rw [← HSS.out] at hown
              go_wp2_with fail
              go_roundw
              case rel => exact ⟨j + 1, by omega, by go_num, by rw [HD2.out]; exact hown, bt, bs, fs, by omega, HE⟩
              case measure => simp only [intOf]; omega
        · have he' := he.symm
          subst he'
          clear he
          have E3 : Hid (decide (r1 ≤ p2) = false) := hidP (by simp; omega)
          have D3 : Hid (decide ((r1 : Int) ≤ (p2 : Int)) = false) := hidP (by simp; omega)
          refine wp_region_plan (R := Ext) (.q 0 (.q 1 (.q 2 (.q 3 (.q 4 (.q 5 (.q 6 (.q 7 (.q 8 (.q 9 (.q 10 (.q 11 (.q 12 (.q 13 (.q 14 (.q 15 (.q 16 (.q 17 (.q 18 (.q 19 (.q 20 (.q 21 (.q 22 (.q 23 (.q 24 (.q 25 (.q 26 (.q 27 (.q 28 (.q 29 (.q 30 (.q 31 (.q 32 (.q 33 (.q 34 .done))))))))))))))))))))))))))))))))))) (by kernel_rfl) (by kernel_rfl) (by kernel_rfl) (by kernel_rfl) Ext.refl (fun _ _ _ => Ext.trans) ?_
          refine absE (fun x6 hx6 => ?_)
          have hx : Ext x5 x6 := by rw [hx6]; exact (Ext.refl _).drew
          replace hown : x6.ownsRow B 4 1 (.slice (some ⟨g3, 0, none⟩) n3 c3) n3 (bools D) := by rw [hx6]; exact hown.drew
          replace bt := Bl.ext hx bt (Nat.succ_pos _)
          replace br := Bl.ext hx br (Nat.succ_pos _)
          replace fs := Fz.ext hx fs bs (Nat.succ_pos _)
          replace bs := Bl.ext hx bs (Nat.succ_pos _)
          replace k0 := hx.cell' k0
          replace k1 := hx.cell' k1
          replace k2 := hx.cell' k2
          replace HE := HE.trans hx
          replace hB5 := Nat.lt_of_lt_of_le hB5 hx.size
          clear hx hx6
          repeat (first | (refine wpE_q (v := ?_) rfl rfl (fun u hu => ?_) ?_; rotate_left 1; (focus (have kt := Bl.ext hu br (Nat.succ_pos _); have kk0 := hu.cell' k0; have kk1 := hu.cell' k1; have kk2 := hu.cell' k2; have e1 := E1.out; have e3 := E3.out; have d0 := D0'.out; have d1 := D1.out; have d3 := D3.out; have dj := DJ.out; go_simp; (try rfl))); simp only [Act.put, List.setIfInBounds_toArray, List.set_cons_zero, List.set_cons_succ]) | (refine wpE_qs rfl rfl ?_; simp only [Act.put, List.setIfInBounds_toArray, List.set_cons_zero, List.set_cons_succ]))
          refine wpE_done ?_
          go_wp2_with fail
          have hown0 : x6.ownsRow B 4 1 (.slice (some ⟨g3, 0, none⟩) n3 c3) n3 (bools (fillR D (q + r1) (r1 - r1))) := by rw [Nat.sub_self]; exact hown
          clear hown
          go_loopw [11] (fun xv wr => ∃ k : Nat, r1 ≤ k ∧ k ≤ r2 ∧ xv = .int .i64 (k : Int) ∧ wr.ownsRow B 4 1 (.slice (some ⟨g3, 0, none⟩) n3 c3) n3 (bools (fillR D (q + r1) (k - r1))) ∧ Bl wr ga #[.int .i64 (X : Int), .int .i64 (Y : Int), .slice (some ⟨g3, 0, none⟩) n3 c3] ∧ Bl wr gr #[.int .i64 (r0 : Int), .int .i64 (r1 : Int), .int .i64 (r2 : Int)] ∧ Bl wr w.heap.size #[.int .i64 0, .int .i64 0, .slice none 0 0] ∧ Fz wr w.heap.size ∧ gr < wr.heap.size ∧ Ext w wr) (fun xv _ => r2 - (intOf xv).toNat)
          case atStart => exact ⟨r1, by omega, by omega, rfl, hown0, bt, br, bs, fs, hB5, HE⟩
          case round =>
            clear hown0 bt br bs fs hB5 HE
            obtain ⟨k, hk1, hk2, rfl, hown, bt, br, bs, fs, hB5, HE⟩ := hrel
            by_cases hlk : k < r2
            · have hlk0 := hlk
              have hq : q + k < (fillR D (q + r1) (k - r1)).length := by rw [fillR_len, HFLL.out]; omega
              have HC1 := RowB.cell hown (q + k) hq
              have HC2 : wr.frozen? ⟨g3, q + k, none⟩ = false := World.ownsRow.frozenAt (w := wr) hown (q + k)
              have hrow := RowB.store hown (q + k) true
              have e1 : (fillR D (q + r1) (k - r1)).set (q + k) true = fillR D (q + r1) (k + 1 - r1) := by
                rw [show k + 1 - r1 = (k - r1) + 1 by omega, fillR, show q + r1 + (k - r1) = q + k by omega]
              rw [e1] at hrow
              have HROW := hidP hrow
              have hqn : q + k < n3 := by omega
              have HQ0 := HRI.out
              have hbut : But wr (wr.setCell ⟨g3, q + k, none⟩ (.bool true)) g3 := (But.refl _ _).store
              generalize (fillR D (q + r1) (k - r1))[q + k] = old at *
              clear hq hrow e1 hown
              go_wp2_with fail
              go_roundw
              case rel => exact ⟨k + 1, by omega, by omega, by go_num, HROW.out, hbut.bl bt (Nat.succ_pos _) (by omega), hbut.bl br (Nat.succ_pos _) (by omega), hbut.bl bs (Nat.succ_pos _) (by omega), hbut.fz fs bs (Nat.succ_pos _) (by omega), Nat.lt_of_lt_of_le hB5 hbut.1, HE.store (by show w.heap.size ≤ g3; omega) _⟩
              case measure => simp only [intOf]; omega
            · obtain rfl : k = r2 := by omega
              rw [← HSS.out] at hown
              go_wp2_with fail
              go_roundw
              case rel => exact ⟨j + 1, by omega, by go_num, by rw [HD2.out]; exact hown, bt, bs, fs, by omega, HE⟩
              case measure => simp only [intOf]; omega
    · obtain rfl : j = n := by omega
      have hsR := SlK.of_owns' hown
      rw [List.take_of_length_le (by rw [HL.out]; omega)] at hsR
      have HSR : Hid (SlB wr (some ⟨g3, 0, none⟩) n3 c3 (fills X D0 l)) := hidP hsR
      clear hsR hown
      generalize fills X D0 l = R at *
      go_wp2_with fail
      refine absB (fun ue hue => ?_)
      have hbs : Bl ue (w.heap.size) #[.int .i64 (X : Int), .int .i64 (Y : Int), .slice (some ⟨g3, 0, none⟩) n3 c3] := by rw [hue]; exact (((bs.set (by simp)).set (by simp)).set (by simp))
      have hnc : ∀ {aa : Option Addr} {nn cc : Nat} {ll : List Bool}, SlB wr aa nn cc ll → SlB ue aa nn cc ll := fun h => by
        rw [hue]
        exact h.but bs (not_bools) ((But.refl _ _).store.store.store)
      have heu : Ext w ue := by rw [hue]; exact ((HE.store (by show w.heap.size ≤ w.heap.size; omega) _).store (by show w.heap.size ≤ w.heap.size; omega) _).store (by show w.heap.size ≤ w.heap.size; omega) _
      clear hue
      refine bodyPost_cells_tmp2 rfl rfl Try.underlying44 rfl (by kernel_rfl) (blk_three hbs) rfl rfl ?_
      exact ⟨_, _, _, rfl, hnc HSR.out, heu⟩

end Go.Proofs.Ytogcmnagiepofaa
