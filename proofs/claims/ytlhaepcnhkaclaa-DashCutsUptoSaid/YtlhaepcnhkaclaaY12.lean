/- Dashes, in the document: a piece. -/
import Derived.Test.YtlhaepcnhkaclaaY11
namespace Go.Proofs.Ytlhaepcnhkaclaa
set_option linter.unusedVariables false
set_option linter.unusedSimpArgs false
open Go Go.RowKit

theorem mid_snoc (s t : Int) : ∀ (l : List Pt) (h : l ≠ []) (x : Pt) (q : Int), midR s t (l ++ [x]) q = midR s t l q ++ (if s < q + path lenP l ∧ q + path lenP l < t then [l.getLast h] else [])
  | [a], _, x, q => by
    show (if s < q ∧ q < t then [a] else []) ++ [] = [] ++ (if s < q + path lenP [a] ∧ q + path lenP [a] < t then [a] else [])
    simp [path]
  | a :: b :: r, _, x, q => by
    have ih := mid_snoc s t (b :: r) (by simp)
    simp only [List.cons_append] at ih ⊢
    rw [List.getLast_cons (by simp : b :: r ≠ [])]
    unfold midR
    rw [ih x]
    simp only [path, Int.add_assoc, List.append_assoc]
    rfl
theorem midR_step {R : List Pt} {s t : Int} {k : Nat} (h : k + 1 < R.length) : midR s t (R.take (k + 1 + 1)) 0 = midR s t (R.take (k + 1)) 0 ++ (if s < path lenP (R.take (k + 1)) ∧ path lenP (R.take (k + 1)) < t then [R[k]] else []) := by
  have hne : R.take (k + 1) ≠ [] := by intro h0; have := congrArg List.length h0; rw [List.length_take, List.length_nil] at this; omega
  have hl : (R.take (k + 1)).getLast hne = R[k] := by
    rw [List.getLast_eq_getElem]
    simp only [List.length_take, List.getElem_take]
    congr 1; omega
  rw [List.take_succ_eq_append_getElem h, mid_snoc s t _ hne, hl, Int.zero_add]
theorem midR_len (s t : Int) : ∀ (l : List Pt) (q : Int), (midR s t l q).length ≤ l.length
  | [], _ => by simp [midR]
  | [_], _ => by simp [midR]
  | a :: b :: r, q => by
    have := midR_len s t (b :: r) (q + lenP a b)
    simp only [midR, List.length_append, List.length_cons] at this ⊢
    split <;> simp <;> omega
theorem dd_one {X : List Pt} (h : 0 < X.length) : ddL (X.take 1) = [X[0]] := by
  cases X with
  | nil => simp at h
  | cons x r => rfl
theorem dd_step {X : List Pt} {k : Nat} (h : k + 1 < X.length) : ddL (X.take (k + 1 + 1)) = if X[k + 1] = X[k] then ddL (X.take (k + 1)) else ddL (X.take (k + 1)) ++ [X[k + 1]] := by
  have hne : X.take (k + 1) ≠ [] := by intro h0; have := congrArg List.length h0; rw [List.length_take, List.length_nil] at this; omega
  have hl : (X.take (k + 1)).getLastD (0, 0) = X[k] := by
    rw [List.getLastD_eq_getLast?, List.getLast?_eq_getElem?, List.length_take, List.getElem?_take, if_pos (by omega), show min (k + 1) X.length - 1 = k by omega, List.getElem?_eq_getElem (by omega)]
    rfl
  rw [List.take_succ_eq_append_getElem h, ddL_snoc hne (0, 0), hl]
/-- The call hands back points of its own. -/
def RetPp (w : World) (L : List Pt) (e : Ending) (w' : World) : Prop := ∃ a cap, e = .returned (.slice a L.length cap) ∧ w'.ownsRow w.heap.size 36 2 (.slice a L.length cap) L.length (pts L) ∧ Ext w w'

set_option maxRecDepth 100000 in
set_option maxHeartbeats 4000000 in
theorem dr_piece (a : Option Addr) (n cap : Nat) (l : List Pt) (c : Bool) (s t : Int) (w : World) (h : SlP w a n cap l) (hn : n ≤ 4194303) (s1 : -9223372036854775808 ≤ s) (s2 : s ≤ 9223372036854775807) (t1 : -9223372036854775808 ≤ t) (t2 : t ≤ 9223372036854775807) :
    Calls Try.prog 32 #[.agg #[.slice a n cap, .bool c], .int .i64 s, .int .i64 t] w (RetPp w (pieceR l c s t)) := by
  have H := hidP h
  have HRD := hidP (fun u (q : SlP u a n cap l) => dr_round a n cap l c u q hn)
  have HA1 := hidP (fun u (q : SlP u a n cap l) => dr_At a n cap l c s u q hn s1 s2)
  have HA2 := hidP (fun u (q : SlP u a n cap l) => dr_At a n cap l c t u q hn t1 t2)
  have hrl := rnd_len l c
  rw [h.len] at hrl
  have hrm : (rndL l c).length ≤ 4194304 := by rw [hrl]; split <;> omega
  have HPC : Hid (pieceR l c s t = ddL ((atF l c s).1 :: (midR s t (rndL l c) 0 ++ [(atF l c t).1]))) := hidP rfl
  clear h hrl
  generalize pieceR l c s t = PP at *
  generalize atF l c s = r1 at *
  generalize atF l c t = r2 at *
  generalize rndL l c = R at *
  obtain ⟨⟨ax, ay⟩, ok1⟩ := r1
  obtain ⟨⟨bx, by_⟩, ok2⟩ := r2
  have HMS := hidP (fun (j : Nat) (hj : j + 1 < R.length) => midR_step (s := s) (t := t) hj)
  have HPS := hidP (fun (j : Nat) (hj : j + 1 < R.length) => path_step hj)
  have HPB := hidP (fun (j : Nat) (hj : j ≤ 4194304) => path_bd' R j hj)
  have HML := hidP (fun (j : Nat) => Nat.le_trans (midR_len s t (R.take j) 0) (List.length_take_le _ _))
  have HM0 : Hid ((ax, ay) :: midR s t (R.take (0 + 1)) 0 = [(ax, ay)]) := hidP (by
    match R with
    | [] => rfl
    | x :: r => rfl)
  have HP0 : Hid (path lenP (R.take (0 + 1)) = 0) := hidP (by
    match R with
    | [] => rfl
    | x :: r => rfl)
  go_enter Try.func32, Try.ntmps32
  go_wp2_with fail
  refine absC (fun x1 hx1 => ?_)
  have hx : Ext w x1 := by rw [hx1]; exact ((Ext.refl _).alloc _)
  have bp : Bl x1 (w.heap.size) #[.slice a n cap, .bool c] := by rw [hx1]; exact (Bl.new (by simp))
  have HE := hx
  clear hx
  clear hx1
  refine (HRD.out _ (H.out.ext HE)).mono ?_
  rintro e u1 ⟨ar, nr, cr, rfl, hsr, hx⟩
  replace bp := Bl.ext hx bp (Nat.succ_pos _)
  replace HE := HE.trans hx
  clear hx
  go_wp2_with fail
  refine (HA1.out _ (H.out.ext HE)).mono ?_
  rintro e u2 ⟨rfl, hx⟩
  replace bp := Bl.ext hx bp (Nat.succ_pos _)
  replace hsr := hsr.ext hx
  replace HE := HE.trans hx
  clear hx
  go_upto_region 3 with fail
  refine absW (fun x2 hx2 => ?_)
  have hx : Ext u2 x2 := by rw [hx2]; exact ((Ext.refl _).alloc _)
  have bq : Bl x2 (u2.heap.size) #[.int .i64 ax, .int .i64 ay] := by rw [hx2]; exact (Bl.new (by simp))
  replace bp := Bl.ext hx bp (Nat.succ_pos _)
  replace hsr := hsr.ext hx
  replace HE := HE.trans hx
  clear hx
  clear hx2
  go_wp2_with fail
  refine (HA2.out _ (H.out.ext HE)).mono ?_
  rintro e u4 ⟨rfl, hx⟩
  replace bp := Bl.ext hx bp (Nat.succ_pos _)
  replace bq := Bl.ext hx bq (Nat.succ_pos _)
  replace hsr := hsr.ext hx
  replace HE := HE.trans hx
  clear hx
  have HNR : Hid (nr = R.length) := hidP hsr.len.symm
  have hnr4 : nr ≤ 4194304 := by have := HNR.out; omega
  have HWL : Hid (w.heap.size ≤ u4.heap.size) := hidP HE.size
  have hsr4 := hsr
  go_upto_region 4 with fail
  have HE4 : Ext u4 u4 := Ext.refl _
  refine absW (fun x3 hx3 => ?_)
  have hx : Ext u4 x3 := by rw [hx3]; exact ((Ext.refl _).alloc _)
  have br : Bl x3 (u4.heap.size) #[.int .i64 bx, .int .i64 by_] := by rw [hx3]; exact (Bl.new (by simp))
  replace HE4 := HE4.trans hx
  replace bp := Bl.ext hx bp (Nat.succ_pos _)
  replace bq := Bl.ext hx bq (Nat.succ_pos _)
  replace hsr := hsr.ext hx
  replace HE := HE.trans hx
  clear hx
  clear hx3
  go_upto_region 5 with fail
  refine absW (fun x5 hx5 => ?_)
  have hx : Ext x3 x5 := by rw [hx5]; exact (Ext.refl _).alloc _
  have hB4 : u4.heap.size + 1 ≤ x3.heap.size := br.lt (Nat.succ_pos _)
  have hown : x5.ownsRow (u4.heap.size + 1) 36 2 (.slice (some ⟨x3.heap.size, 0, none⟩) 1 1) 1 (pts [(ax, ay)]) := by
    rw [hx5]
    exact own_one x3 (u4.heap.size + 1) 36 2 #[.int .i64 ax, .int .i64 ay] rfl hB4
  replace br := Bl.ext hx br (Nat.succ_pos _)
  replace HE4 := HE4.trans hx
  have HSR := hidP hsr4
  have hwl := HWL.out
  replace HE := HE.trans hx
  have hB0 : u4.heap.size + 1 ≤ x5.heap.size := br.lt (Nat.succ_pos _)
  have hsr5 := hsr.ext hx
  have HS5 := hidP hsr5
  clear hx hx5 bp bq hsr hsr4 hsr5 hB4
  go_wp2_with fail
  go_loopw [12, 13, 14] (fun vv sv iv wr => ∃ (j : Nat) (d : Int) (X : List Pt), j ≤ nr ∧ iv = .int .i64 (j : Int) ∧ sv = .int .i64 d ∧ 0 ≤ d ∧ d ≤ 140737484161024 ∧ wr.ownsRow (u4.heap.size + 1) 36 2 vv X.length (pts X) ∧ X.length ≤ j + 2 ∧ Hid ((ax, ay) :: midR s t (R.take (j + 1)) 0 = X) ∧ Hid (path lenP (R.take (j + 1)) = d) ∧ Bl wr u4.heap.size #[.int .i64 bx, .int .i64 by_] ∧ SlP wr ar nr cr R ∧ Ext u4 wr ∧ Ext w wr) (fun _ _ iv _ => nr - (intOf iv).toNat)
  case atStart => exact ⟨0, 0, [(ax, ay)], by omega, rfl, rfl, by omega, by omega, hown, by simp, HM0, HP0, br, HS5.out, HE4, HE⟩
  case round =>
    clear HE HE4 br hown hB0 HM0 HP0 HS5
    obtain ⟨j, d, X, hj, rfl, rfl, d1, d2, hown, hxl, HJ, HD, br, hsr, HE4, HE⟩ := hrel
    have hB : u4.heap.size + 1 ≤ wr.heap.size := br.lt (Nat.succ_pos _)
    by_cases hlt : j + 1 < nr
    · obtain ⟨g, off, rfl, hc⟩ := hsr.at (by omega)
      have hj1 : j < R.length := by have := HNR.out; omega
      have hj2 : j + 1 < R.length := by have := HNR.out; omega
      obtain ⟨h1, h2⟩ := hc j hj1
      obtain ⟨h3, h4⟩ := hc (j + 1) hj2
      have hms := HMS.out j hj2
      have hps := HPS.out j hj2
      have hpb := HPB.out (j + 1 + 1) (by omega)
      have hlb := lenP_bd R[j] R[j + 1]
      have hml := HML.out (j + 1 + 1)
      rw [hps, HD.out] at hpb
      rw [HD.out] at hms hps
      have HRI : Hid (∀ u, SlP u (some ⟨g, off, none⟩) nr cr R → u.cell? ⟨g, off + j * 2, none⟩ = some (.int .i64 R[j].1) ∧ u.cell? ⟨g, off + j * 2 + 1, none⟩ = some (.int .i64 R[j].2) ∧ u.cell? ⟨g, off + (j + 1) * 2, none⟩ = some (.int .i64 R[j + 1].1) ∧ u.cell? ⟨g, off + (j + 1) * 2 + 1, none⟩ = some (.int .i64 R[j + 1].2)) := hidP (fun u q => by
        obtain ⟨g', off', e, hc'⟩ := q.at (by omega)
        cases e
        exact ⟨(hc' j hj1).1, (hc' j hj1).2, (hc' (j + 1) hj2).1, (hc' (j + 1) hj2).2⟩)
      clear hc HD
      generalize R[j] = pp at *
      generalize R[j + 1] = qq at *
      obtain ⟨px, py⟩ := pp
      obtain ⟨qx, qy⟩ := qq
      simp only [] at h1 h2 h3 h4 HRI
      have HLE := hidP (fun u => d_Len px py qx qy u)
      have hlp : lenP (px, py) (qx, qy) = (lenI px py qx qy : Nat) := rfl
      rw [hlp] at hps hpb hlb
      clear hlp
      generalize lenI px py qx qy = ln at *
      obtain ⟨j9, hj9⟩ : ∃ j9, j9 = j + 1 := ⟨_, rfl⟩
      rw [← hj9] at h3 h4 HRI
      have hjn : j < nr := by omega
      have hj9n : j9 < nr := by omega
      have HW0 : Hid (IntKind.i64.wrap ((j : Int) + 1) = (j9 : Int)) := hidP (by rw [IntWalk.i64_in _ (by omega)]; omega)
      have HW1 := hidP (IntWalk.i64_in (d + (ln : Int)) (by omega))
      have HPS2 := hidP hps
      clear hj9 hps
      by_cases hmm : s < d ∧ d < t
      · rw [if_pos hmm] at hms
        have HX : Hid ((ax, ay) :: midR s t (R.take (j + 1 + 1)) 0 = X ++ [(px, py)]) := hidP (by rw [hms, ← HJ.out]; rfl)
        obtain ⟨hmm1, hmm2⟩ := hmm
        clear hms HJ
        go_upto_region 11 with (at_builtin; refine wpList_appB T_pt rfl _ _ rfl hown hB #[.int .i64 px, .int .i64 py] rfl (ends_pt _ _) rfl rfl (by omega) (by omega) ?_; intro v2 w2 hown2 hlow2; obtain ⟨a2, c2, rfl, -⟩ := SlK.of_owns hown2)
        clear h1 h2 h3 h4
        replace HE4 : Ext u4 w2 := Below.trans HE4 (Below.mono hlow2 (Nat.le_succ _))
        replace hsr := HSR.out.ext HE4
        replace br := Bl.lowB hlow2 br (Nat.lt_succ_self _)
        replace HE : Ext w w2 := Below.trans HE (Below.mono hlow2 (by omega))
        obtain ⟨h1, h2, h3, h4⟩ := HRI.out _ hsr
        replace hown := hown2
        have hll : (X ++ [(px, py)]).length = X.length + 1 := by simp
        clear hown2 hlow2
        obtain ⟨wz, hwz⟩ : ∃ wz, wz = w2 := ⟨_, rfl⟩
        rw [← hwz] at h1 h2 h3 h4 br hsr HE HE4 hown
        rw [← hwz]
        clear hwz
        go_wp2_with fail
        refine wp_region_plan (R := Ext) (.q 0 (.q 1 (.q 2 (.q 3 (.q 4 (.q 5 (.q 6 (.q 7 (.q 8 (.q 9 (.l 10 (.q 11 (.q 12 .done))))))))))))) (by kernel_rfl) (by kernel_rfl) (by kernel_rfl) (by kernel_rfl) Ext.refl (fun _ _ _ => Ext.trans) ?_
        refine absE (fun x31 hx31 => ?_)
        have hx : Ext wz x31 := by rw [hx31]; exact (Ext.refl _).drew
        replace HE4 := HE4.trans hx
        replace hown := own_ext hown hx
        replace br := Bl.ext hx br (Nat.succ_pos _)
        replace hsr := hsr.ext hx
        replace h1 := hx.cell' h1
        replace h2 := hx.cell' h2
        replace h3 := hx.cell' h3
        replace h4 := hx.cell' h4
        replace HE := HE.trans hx
        clear hx
        clear hx31
        repeat (refine wpE_q (v := ?_) rfl rfl (fun u hu => ?_) ?_; rotate_left 1; (focus (have kr := Bl.ext hu br (Nat.succ_pos _); have kh1 := hu.cell' h1; have kh2 := hu.cell' h2; have kh3 := hu.cell' h3; have kh4 := hu.cell' h4; have wq0 := HW0.out; have wq1 := HW1.out; go_simp; (try rfl))); simp only [Act.put, List.setIfInBounds_toArray, List.set_cons_zero, List.set_cons_succ])
        refine wpE_l rfl rfl (fun K hK => ?_)
        go_simp
        refine (HLE.out _).mono ?_
        rintro e u30 ⟨rfl, hx⟩
        refine hK.out _ _ hx ?_
        clear hK K
        try simp only [Act.put, List.setIfInBounds_toArray, List.set_cons_zero, List.set_cons_succ]
        replace HE4 := HE4.trans hx
        replace hown := own_ext hown hx
        replace br := Bl.ext hx br (Nat.succ_pos _)
        replace hsr := hsr.ext hx
        replace h1 := hx.cell' h1
        replace h2 := hx.cell' h2
        replace h3 := hx.cell' h3
        replace h4 := hx.cell' h4
        replace HE := HE.trans hx
        clear hx
        repeat (refine wpE_q (v := ?_) rfl rfl (fun u hu => ?_) ?_; rotate_left 1; (focus (have kr := Bl.ext hu br (Nat.succ_pos _); have kh1 := hu.cell' h1; have kh2 := hu.cell' h2; have kh3 := hu.cell' h3; have kh4 := hu.cell' h4; have wq0 := HW0.out; have wq1 := HW1.out; go_simp; (try rfl))); simp only [Act.put, List.setIfInBounds_toArray, List.set_cons_zero, List.set_cons_succ])
        refine wpE_done ?_
        clear h1 h2 h3 h4
        go_wp2_with fail
        go_roundw
        case rel => exact ⟨j + 1, d + ln, X ++ [(px, py)], by omega, by go_num, rfl, by omega, by omega, by rw [hll, pts_append]; exact hown, by rw [hll]; omega, HX, HPS2, br, hsr, HE4, HE⟩
        case measure => simp only [intOf]; omega
      · rw [if_neg hmm, List.append_nil] at hms
        have HX : Hid ((ax, ay) :: midR s t (R.take (j + 1 + 1)) 0 = X) := hidP (by rw [hms, ← HJ.out])
        clear hms HJ
        obtain ⟨wz, hwz⟩ : ∃ wz, wz = wr := ⟨_, rfl⟩
        by_cases hmm1 : s < d
        · have hmm2 : t ≤ d := by omega
          clear hmm
          rw [← hwz] at h1 h2 h3 h4 br hsr HE HE4 hown
          rw [← hwz]
          clear hwz
          go_wp2_with fail
          refine wp_region_plan (R := Ext) (.q 0 (.q 1 (.q 2 (.q 3 (.q 4 (.q 5 (.q 6 (.q 7 (.q 8 (.q 9 (.l 10 (.q 11 (.q 12 .done))))))))))))) (by kernel_rfl) (by kernel_rfl) (by kernel_rfl) (by kernel_rfl) Ext.refl (fun _ _ _ => Ext.trans) ?_
          refine absE (fun x51 hx51 => ?_)
          have hx : Ext wz x51 := by rw [hx51]; exact (Ext.refl _).drew
          replace HE4 := HE4.trans hx
          replace hown := own_ext hown hx
          replace br := Bl.ext hx br (Nat.succ_pos _)
          replace hsr := hsr.ext hx
          replace h1 := hx.cell' h1
          replace h2 := hx.cell' h2
          replace h3 := hx.cell' h3
          replace h4 := hx.cell' h4
          replace HE := HE.trans hx
          clear hx
          clear hx51
          repeat (refine wpE_q (v := ?_) rfl rfl (fun u hu => ?_) ?_; rotate_left 1; (focus (have kr := Bl.ext hu br (Nat.succ_pos _); have kh1 := hu.cell' h1; have kh2 := hu.cell' h2; have kh3 := hu.cell' h3; have kh4 := hu.cell' h4; have wq0 := HW0.out; have wq1 := HW1.out; go_simp; (try rfl))); simp only [Act.put, List.setIfInBounds_toArray, List.set_cons_zero, List.set_cons_succ])
          refine wpE_l rfl rfl (fun K hK => ?_)
          go_simp
          refine (HLE.out _).mono ?_
          rintro e u30 ⟨rfl, hx⟩
          refine hK.out _ _ hx ?_
          clear hK K
          try simp only [Act.put, List.setIfInBounds_toArray, List.set_cons_zero, List.set_cons_succ]
          replace HE4 := HE4.trans hx
          replace hown := own_ext hown hx
          replace br := Bl.ext hx br (Nat.succ_pos _)
          replace hsr := hsr.ext hx
          replace h1 := hx.cell' h1
          replace h2 := hx.cell' h2
          replace h3 := hx.cell' h3
          replace h4 := hx.cell' h4
          replace HE := HE.trans hx
          clear hx
          repeat (refine wpE_q (v := ?_) rfl rfl (fun u hu => ?_) ?_; rotate_left 1; (focus (have kr := Bl.ext hu br (Nat.succ_pos _); have kh1 := hu.cell' h1; have kh2 := hu.cell' h2; have kh3 := hu.cell' h3; have kh4 := hu.cell' h4; have wq0 := HW0.out; have wq1 := HW1.out; go_simp; (try rfl))); simp only [Act.put, List.setIfInBounds_toArray, List.set_cons_zero, List.set_cons_succ])
          refine wpE_done ?_
          clear h1 h2 h3 h4
          go_wp2_with fail
          go_roundw
          case rel => exact ⟨j + 1, d + ln, X, by omega, by go_num, rfl, by omega, by omega, hown, by omega, HX, HPS2, br, hsr, HE4, HE⟩
          case measure => simp only [intOf]; omega
        · clear hmm
          rw [← hwz] at h1 h2 h3 h4 br hsr HE HE4 hown
          rw [← hwz]
          clear hwz
          go_wp2_with fail
          refine wp_region_plan (R := Ext) (.q 0 (.q 1 (.q 2 (.q 3 (.q 4 (.q 5 (.q 6 (.q 7 (.q 8 (.q 9 (.l 10 (.q 11 (.q 12 .done))))))))))))) (by kernel_rfl) (by kernel_rfl) (by kernel_rfl) (by kernel_rfl) Ext.refl (fun _ _ _ => Ext.trans) ?_
          refine absE (fun x71 hx71 => ?_)
          have hx : Ext wz x71 := by rw [hx71]; exact (Ext.refl _).drew
          replace HE4 := HE4.trans hx
          replace hown := own_ext hown hx
          replace br := Bl.ext hx br (Nat.succ_pos _)
          replace hsr := hsr.ext hx
          replace h1 := hx.cell' h1
          replace h2 := hx.cell' h2
          replace h3 := hx.cell' h3
          replace h4 := hx.cell' h4
          replace HE := HE.trans hx
          clear hx
          clear hx71
          repeat (refine wpE_q (v := ?_) rfl rfl (fun u hu => ?_) ?_; rotate_left 1; (focus (have kr := Bl.ext hu br (Nat.succ_pos _); have kh1 := hu.cell' h1; have kh2 := hu.cell' h2; have kh3 := hu.cell' h3; have kh4 := hu.cell' h4; have wq0 := HW0.out; have wq1 := HW1.out; go_simp; (try rfl))); simp only [Act.put, List.setIfInBounds_toArray, List.set_cons_zero, List.set_cons_succ])
          refine wpE_l rfl rfl (fun K hK => ?_)
          go_simp
          refine (HLE.out _).mono ?_
          rintro e u30 ⟨rfl, hx⟩
          refine hK.out _ _ hx ?_
          clear hK K
          try simp only [Act.put, List.setIfInBounds_toArray, List.set_cons_zero, List.set_cons_succ]
          replace HE4 := HE4.trans hx
          replace hown := own_ext hown hx
          replace br := Bl.ext hx br (Nat.succ_pos _)
          replace hsr := hsr.ext hx
          replace h1 := hx.cell' h1
          replace h2 := hx.cell' h2
          replace h3 := hx.cell' h3
          replace h4 := hx.cell' h4
          replace HE := HE.trans hx
          clear hx
          repeat (refine wpE_q (v := ?_) rfl rfl (fun u hu => ?_) ?_; rotate_left 1; (focus (have kr := Bl.ext hu br (Nat.succ_pos _); have kh1 := hu.cell' h1; have kh2 := hu.cell' h2; have kh3 := hu.cell' h3; have kh4 := hu.cell' h4; have wq0 := HW0.out; have wq1 := HW1.out; go_simp; (try rfl))); simp only [Act.put, List.setIfInBounds_toArray, List.set_cons_zero, List.set_cons_succ])
          refine wpE_done ?_
          clear h1 h2 h3 h4
          go_wp2_with fail
          go_roundw
          case rel => exact ⟨j + 1, d + ln, X, by omega, by go_num, rfl, by omega, by omega, hown, by omega, HX, HPS2, br, hsr, HE4, HE⟩
          case measure => simp only [intOf]; omega
    · have hXX : Hid ((ax, ay) :: midR s t R 0 = X) := hidP (by
        have := HJ.out
        rwa [List.take_of_length_le (by have := HNR.out; omega)] at this)
      have HPX : Hid (PP = ddL (X ++ [(bx, by_)])) := hidP (by rw [HPC.out, ← hXX.out]; rfl)
      have hxp : 0 < X.length := by rw [← hXX.out]; simp
      have hBw : u4.heap.size + 1 ≤ wr.heap.size := hB
      clear HJ HD hXX HMS HPS HPB HML HPC hsr HSR HE4
      go_upto_region 12 with fail
      go_upto_region 13 with (at_builtin; refine wpList_appB T_pt rfl _ _ rfl hown hBw #[.int .i64 bx, .int .i64 by_] rfl (ends_pt _ _) rfl rfl (by omega) (by omega) ?_; intro v2 w2 hown2 hlow2; obtain ⟨a2, c2, rfl, hs2⟩ := SlK.of_owns hown2)
      have HE2 : Ext w w2 := Below.trans HE (Below.mono hlow2 (by omega))
      have hsx : SlP w2 a2 (X.length + 1) c2 (X ++ [(bx, by_)]) := by unfold SlP; rw [pts_append]; exact hs2
      clear hown hown2 hs2 hlow2 HE br
      generalize hY : X ++ [(bx, by_)] = Y at *
      have hyl : Y.length = X.length + 1 := by rw [← hY]; simp
      have HSX := hidP hsx
      have HD1 := hidP (fun (h : 0 < Y.length) => dd_one h)
      have HD2 := hidP (fun (k : Nat) (h : k + 1 < Y.length) => dd_step h)
      have HYL := hidP hyl
      have hx4 : X.length + 1 ≤ 4194308 := by omega
      clear hsx hY hyl hxp
      generalize X.length + 1 = N at *
      go_wp2_with fail
      go_loopw [15, 16] (fun vv iv wr => ∃ (i : Nat) (Z : List Pt), i ≤ N ∧ iv = .int .i64 (i : Int) ∧ wr.ownsRow w2.heap.size 36 2 vv Z.length (pts Z) ∧ Z.length ≤ i ∧ Hid (ddL (Y.take i) = Z) ∧ Ext w2 wr) (fun _ iv _ => N - (intOf iv).toNat)
      case atStart => exact ⟨0, [], by omega, rfl, by simpa [pts] using World.ownsRow_nil _ w2.heap.size 36 2, by simp, hidP rfl, Ext.refl _⟩
      case round =>
        obtain ⟨i, Z, hi, rfl, hown, hzl, HZ, HEz⟩ := hrel
        by_cases hlt : i < N
        · obtain ⟨g, off, rfl, hc⟩ := (HSX.out.ext HEz).at (by omega)
          have hi1 : i < Y.length := by rw [HYL.out]; exact hlt
          obtain ⟨h1, h2⟩ := hc i hi1
          have HCC : Hid (∀ u, Ext w2 u → u.cell? ⟨g, off + i * 2, none⟩ = some (.int .i64 Y[i].1) ∧ u.cell? ⟨g, off + i * 2 + 1, none⟩ = some (.int .i64 Y[i].2)) := hidP (fun u q => by
            obtain ⟨g', off', e, hc'⟩ := (HSX.out.ext q).at (by omega)
            cases e
            exact hc' i hi1)
          by_cases hi0 : i = 0
          · subst hi0
            have hst := HD1.out hi1
            have hzz : Z = [] := List.length_eq_zero_iff.1 (by omega)
            subst hzz
            generalize Y[0] = pp at *
            obtain ⟨px, py⟩ := pp
            simp only [] at h1 h2 HCC
            rw [Nat.zero_mul, Nat.add_zero] at h1 h2 HCC
            have HST := hidP hst
            clear hc hst HZ
            have hn0 : 0 < N := by omega
            go_wp2_with fail
            refine wp_region_plan (R := Ext) (.q 0 (.q 1 (.q 2 (.q 3 (.q 4 (.q 5 (.q 6 (.q 7 (.q 8 (.q 9 (.q 10 (.q 11 (.q 12 (.q 13 .done)))))))))))))) (by kernel_rfl) (by kernel_rfl) (by kernel_rfl) (by kernel_rfl) Ext.refl (fun _ _ _ => Ext.trans) ?_
            refine absE (fun x91 hx91 => ?_)
            have hx : Ext wr x91 := by rw [hx91]; exact (Ext.refl _).drew
            replace HEz := HEz.trans hx
            replace hown := own_ext hown hx
            replace h1 := hx.cell' h1
            replace h2 := hx.cell' h2
            have HE := hx
            clear hx
            clear hx91
            repeat (first | (refine wpE_q (v := ?_) rfl rfl (fun u hu => ?_) ?_; rotate_left 1; (focus (have kh1 := hu.cell' h1; have kh2 := hu.cell' h2; go_simp; (try rfl))); simp only [Act.put, List.setIfInBounds_toArray, List.set_cons_zero, List.set_cons_succ]) | (refine wpE_qs rfl rfl ?_; simp only [Act.put, List.setIfInBounds_toArray, List.set_cons_zero, List.set_cons_succ]))
            refine wpE_done ?_
            have hBz : w2.heap.size ≤ x91.heap.size := HEz.size
            go_wp2_with (at_builtin; refine wpList_appB T_pt rfl _ _ rfl hown hBz #[.int .i64 px, .int .i64 py] rfl (ends_pt _ _) rfl rfl (by omega) (by omega) ?_; intro v3 w3 hown3 hlow3; obtain ⟨a3, c3, rfl, -⟩ := SlK.of_owns hown3)
            go_roundw
            case rel => exact ⟨1, [(px, py)], by omega, rfl, by rw [show pts [(px, py)] = pts [] ++ [.int .i64 px, .int .i64 py] from rfl]; exact hown3, by simp, HST, Below.trans HEz hlow3⟩
            case measure => simp only [intOf]; omega
          · obtain ⟨k, hk⟩ : ∃ k, k + 1 = i := ⟨i - 1, by omega⟩
            have hk1 : k < Y.length := by omega
            obtain ⟨h3, h4⟩ := hc k hk1
            subst hk
            have hst := HD2.out k hi1
            rw [HZ.out] at hst
            generalize Y[k + 1] = pp at *
            generalize Y[k] = qq at *
            obtain ⟨px, py⟩ := pp
            obtain ⟨qx, qy⟩ := qq
            simp only [] at h1 h2 h3 h4 HCC
            obtain ⟨j9, hj9⟩ : ∃ j9, j9 = k + 1 := ⟨_, rfl⟩
            rw [← hj9] at h1 h2 HCC
            have HW0 : Hid (IntKind.i64.wrap ((j9 : Int) - 1) = (k : Int)) := hidP (by rw [IntWalk.i64_in _ (by omega)]; omega)
            have hj9b : ((j9 : Int) == 0) = false := by simp; omega
            have hkN : k < N := by omega
            have hj9N : j9 < N := by omega
            have HJ9 := hidP hj9
            have e9 : ((k + 1 : Nat) : Int) = (j9 : Int) := by omega
            clear hc HZ
            rw [← hj9] at hst hzl hi hlt ⊢
            clear hj9 e9 hi0 hi1
            have hkz : Z.length ≤ j9 := hzl
            by_cases hpq : (px, py) = (qx, qy)
            · rw [if_pos hpq] at hst
              simp only [Prod.mk.injEq] at hpq
              obtain ⟨rfl, rfl⟩ := hpq
              have HST := hidP hst
              clear hst
              go_wp2_with fail
              refine wp_region_plan (R := Ext) (.q 0 (.q 1 (.q 2 (.q 3 (.q 4 (.q 5 (.q 6 (.q 7 (.q 8 (.q 9 (.q 10 (.q 11 (.q 12 (.q 13 .done)))))))))))))) (by kernel_rfl) (by kernel_rfl) (by kernel_rfl) (by kernel_rfl) Ext.refl (fun _ _ _ => Ext.trans) ?_
              refine absE (fun x91 hx91 => ?_)
              have hx : Ext wr x91 := by rw [hx91]; exact (Ext.refl _).drew
              replace HEz := HEz.trans hx
              replace hown := own_ext hown hx
              replace h1 := hx.cell' h1
              replace h2 := hx.cell' h2
              replace h3 := hx.cell' h3
              replace h4 := hx.cell' h4
              have HE := hx
              clear hx
              clear hx91
              repeat (refine wpE_q (v := ?_) rfl rfl (fun u hu => ?_) ?_; rotate_left 1; (focus (have kh1 := hu.cell' h1; have kh2 := hu.cell' h2; have kh3 := hu.cell' h3; have kh4 := hu.cell' h4; have wq0 := HW0.out; go_simp; (try rfl))); simp only [Act.put, List.setIfInBounds_toArray, List.set_cons_zero, List.set_cons_succ])
              refine wpE_done ?_
              go_wp2_with fail
              go_roundw
              case rel => exact ⟨j9 + 1, Z, by omega, by go_num, hown, by omega, HST, HEz⟩
              case measure => simp only [intOf]; omega
            · rw [if_neg hpq] at hst
              have HST := hidP hst
              clear hst
              have hpl2 : px = qx → py ≠ qy := fun h1 h2 => hpq (by rw [h1, h2])
              clear hpq
              have hlz : ∀ (p : Pt), (Z ++ [p]).length = Z.length + 1 := fun p => by simp
              have HLZ := hidP hlz
              clear hlz
              by_cases hx1 : px = qx
              · have hx3 : ¬ py = qy := hpl2 hx1
                subst hx1
                clear hpl2
                go_wp2_with fail
                refine wp_region_plan (R := Ext) (.q 0 (.q 1 (.q 2 (.q 3 (.q 4 (.q 5 (.q 6 (.q 7 (.q 8 (.q 9 (.q 10 (.q 11 (.q 12 (.q 13 .done)))))))))))))) (by kernel_rfl) (by kernel_rfl) (by kernel_rfl) (by kernel_rfl) Ext.refl (fun _ _ _ => Ext.trans) ?_
                refine absE (fun x91 hx91 => ?_)
                have hx : Ext wr x91 := by rw [hx91]; exact (Ext.refl _).drew
                replace HEz := HEz.trans hx
                replace hown := own_ext hown hx
                replace h1 := hx.cell' h1
                replace h2 := hx.cell' h2
                replace h3 := hx.cell' h3
                replace h4 := hx.cell' h4
                have HE := hx
                clear hx
                clear hx91
                repeat (refine wpE_q (v := ?_) rfl rfl (fun u hu => ?_) ?_; rotate_left 1; (focus (have kh1 := hu.cell' h1; have kh2 := hu.cell' h2; have kh3 := hu.cell' h3; have kh4 := hu.cell' h4; have wq0 := HW0.out; go_simp; (try rfl))); simp only [Act.put, List.setIfInBounds_toArray, List.set_cons_zero, List.set_cons_succ])
                refine wpE_done ?_
                have hBz : w2.heap.size ≤ x91.heap.size := HEz.size
                go_wp2_with (at_builtin; refine wpList_appB T_pt rfl _ _ rfl hown hBz #[.int .i64 px, .int .i64 py] rfl (ends_pt _ _) rfl rfl (by omega) (by omega) ?_; intro v3 w3 hown3 hlow3; obtain ⟨a3, c3, rfl, -⟩ := SlK.of_owns hown3)
                go_roundw
                case rel => exact ⟨j9 + 1, Z ++ [(px, py)], by omega, by go_num, by rw [HLZ.out, pts_append]; exact hown3, by rw [HLZ.out]; omega, HST, Below.trans HEz hlow3⟩
                case measure => simp only [intOf]; omega
              · clear hpl2
                go_wp2_with fail
                refine wp_region_plan (R := Ext) (.q 0 (.q 1 (.q 2 (.q 3 (.q 4 (.q 5 (.q 6 (.q 7 (.q 8 (.q 9 (.q 10 (.q 11 (.q 12 (.q 13 .done)))))))))))))) (by kernel_rfl) (by kernel_rfl) (by kernel_rfl) (by kernel_rfl) Ext.refl (fun _ _ _ => Ext.trans) ?_
                refine absE (fun x91 hx91 => ?_)
                have hx : Ext wr x91 := by rw [hx91]; exact (Ext.refl _).drew
                replace HEz := HEz.trans hx
                replace hown := own_ext hown hx
                replace h1 := hx.cell' h1
                replace h2 := hx.cell' h2
                replace h3 := hx.cell' h3
                replace h4 := hx.cell' h4
                have HE := hx
                clear hx
                clear hx91
                repeat (refine wpE_q (v := ?_) rfl rfl (fun u hu => ?_) ?_; rotate_left 1; (focus (have kh1 := hu.cell' h1; have kh2 := hu.cell' h2; have kh3 := hu.cell' h3; have kh4 := hu.cell' h4; have wq0 := HW0.out; go_simp; (try rfl))); simp only [Act.put, List.setIfInBounds_toArray, List.set_cons_zero, List.set_cons_succ])
                refine wpE_done ?_
                have hBz : w2.heap.size ≤ x91.heap.size := HEz.size
                go_wp2_with (at_builtin; refine wpList_appB T_pt rfl _ _ rfl hown hBz #[.int .i64 px, .int .i64 py] rfl (ends_pt _ _) rfl rfl (by omega) (by omega) ?_; intro v3 w3 hown3 hlow3; obtain ⟨a3, c3, rfl, -⟩ := SlK.of_owns hown3)
                go_roundw
                case rel => exact ⟨j9 + 1, Z ++ [(px, py)], by omega, by go_num, by rw [HLZ.out, pts_append]; exact hown3, by rw [HLZ.out]; omega, HST, Below.trans HEz hlow3⟩
                case measure => simp only [intOf]; omega
        · obtain rfl : i = N := by omega
          have HRR : Hid (Z = PP) := hidP (by have := HZ.out; rw [List.take_of_length_le (by rw [HYL.out]; omega)] at this; rw [HPX.out, this])
          obtain ⟨a3, c3, rfl, -⟩ := SlK.of_owns hown
          have HOW := hidP hown
          clear hown HZ
          go_wp2_with fail
          go_ret
          rw [← HRR.out]
          exact ⟨a3, c3, rfl, own_base HOW.out HE2.size, HE2.trans HEz⟩

end Go.Proofs.Ytlhaepcnhkaclaa
