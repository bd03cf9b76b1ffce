/- Sets of cells: what is near, in the document's way. -/
import Derived.Test.YtogcmnagiepofaaS11
namespace Go.Proofs.Ytogcmnagiepofaa
set_option linter.unusedVariables false
set_option linter.unusedSimpArgs false
open Go Go.RowKit

/-- Is one that is in at most m away? -/
def nearB (x y : Int) (n : Nat) (l : List Bool) (i j m : Nat) : Bool :=
  (List.range (2 * m + 1)).any fun d => (List.range (2 * m + 1)).any fun e => hasB x y n l ((i : Int) - m + e) ((j : Int) - m + d)
theorem nearB_true {x y : Int} {n : Nat} {l : List Bool} {i j m d e : Nat} (hd : d < 2 * m + 1) (he : e < 2 * m + 1) (h : hasB x y n l ((i : Int) - m + e) ((j : Int) - m + d) = true) : nearB x y n l i j m = true := by
  unfold nearB
  rw [List.any_eq_true]
  refine ⟨d, List.mem_range.2 hd, ?_⟩
  rw [List.any_eq_true]
  exact ⟨e, List.mem_range.2 he, h⟩
theorem nearB_false {x y : Int} {n : Nat} {l : List Bool} {i j m : Nat} (h : ∀ d, d < 2 * m + 1 → ∀ e, e < 2 * m + 1 → hasB x y n l ((i : Int) - m + e) ((j : Int) - m + d) = false) : nearB x y n l i j m = false := by
  unfold nearB
  rw [List.any_eq_false]
  intro d hd
  rw [Bool.not_eq_true, List.any_eq_false]
  intro e he
  rw [Bool.not_eq_true]
  exact h d (List.mem_range.1 hd) e (List.mem_range.1 he)

set_option maxRecDepth 100000 in
set_option maxHeartbeats 8000000 in
theorem e_near (x y : Int) (a : Option Addr) (n c : Nat) (l : List Bool) (i j m : Nat) (w : World) (h : SlB w a n c l) (hi : i ≤ 64) (hj : j ≤ 64) (hm : m ≤ 8) :
    Calls Try.prog 106 #[rst x y a n c, .int .i64 (i : Int), .int .i64 (j : Int), .int .i64 (m : Int)] w fun e w' => e = .returned (.bool (nearB x y n l i j m)) ∧ Ext w w' := by
  have H := hidP h
  have HH := hidP (fun (p q : Int) (u : World) (t : SlB u a n c l) => e_Has x y a n c l p q u t)
  have HT := hidP (fun (d e : Nat) (hd : d < 2 * m + 1) (he : e < 2 * m + 1) (h : hasB x y n l ((i : Int) - m + e) ((j : Int) - m + d) = true) => nearB_true (x := x) (y := y) (n := n) (l := l) (i := i) (j := j) hd he h)
  have HF := hidP (fun (h : ∀ d, d < 2 * m + 1 → ∀ e, e < 2 * m + 1 → hasB x y n l ((i : Int) - m + e) ((j : Int) - m + d) = false) => nearB_false h)
  clear h
  generalize nearB x y n l i j m = rr at *
  generalize hasB x y n l = hs at *
  have HD0 : Hid (∀ d, d < 0 → ∀ e, e < 2 * m + 1 → hs ((i : Int) - m + (e : Nat)) ((j : Int) - m + (d : Nat)) = false) := hidP (fun d hd => by omega)
  go_enter Try.func106, Try.ntmps106
  go_wp2_with fail
  refine absW (fun x1 hx1 => ?_)
  have hx : Ext w x1 := by rw [hx1]; exact ((Ext.refl _).alloc _)
  have bp : Bl x1 (w.heap.size) #[.int .i64 x, .int .i64 y, .slice a n c] := by rw [hx1]; exact (Bl.new (by simp))
  have HE := hx
  clear hx
  clear hx1
  go_loopw [9] (fun kv wr => ∃ d : Nat, d ≤ 2 * m + 1 ∧ kv = .int .i64 ((j : Int) - (m : Int) + (d : Int)) ∧ Hid (∀ d', d' < d → ∀ e, e < 2 * m + 1 → hs ((i : Int) - m + (e : Nat)) ((j : Int) - m + (d' : Nat)) = false) ∧ Bl wr w.heap.size #[.int .i64 x, .int .i64 y, .slice a n c] ∧ Ext w wr) (fun kv _ => ((j : Int) + (m : Int) + 1 - intOf kv).toNat)
  case atStart => exact ⟨0, by omega, by simp, HD0, bp, HE⟩
  case round =>
    clear HD0 bp HE
    obtain ⟨d, hd, rfl, HD, bp, HE⟩ := hrel
    by_cases hlt : d < 2 * m + 1
    · have hlt0 : (j : Int) - (m : Int) + (d : Int) ≤ (j : Int) + (m : Int) := by omega
      have HE0 : Hid (∀ e, e < 0 → hs ((i : Int) - m + (e : Nat)) ((j : Int) - m + (d : Nat)) = false) := hidP (fun e he => by omega)
      go_wp2_with fail
      go_loopw [10] (fun iv wr => ∃ e : Nat, e ≤ 2 * m + 1 ∧ iv = .int .i64 ((i : Int) - (m : Int) + (e : Int)) ∧ Hid (∀ e', e' < e → hs ((i : Int) - m + (e' : Nat)) ((j : Int) - m + (d : Nat)) = false) ∧ Bl wr w.heap.size #[.int .i64 x, .int .i64 y, .slice a n c] ∧ Ext w wr) (fun iv _ => ((i : Int) + (m : Int) + 1 - intOf iv).toNat)
      case atStart => exact ⟨0, by omega, by simp, HE0, bp, HE⟩
      case round =>
        clear HE0 bp HE
        obtain ⟨e, he, rfl, HEE, bp, HE⟩ := hrel
        by_cases hle : e < 2 * m + 1
        · have hle0 : (i : Int) - (m : Int) + (e : Int) ≤ (i : Int) + (m : Int) := by omega
          have HC := hidP (fun u t => HH.out ((i : Int) - m + (e : Nat)) ((j : Int) - m + (d : Nat)) u t)
          have hT := HT.out d e hlt hle
          have hN : hs ((i : Int) - m + (e : Nat)) ((j : Int) - m + (d : Nat)) = false → ∀ e', e' < e + 1 → hs ((i : Int) - m + (e' : Nat)) ((j : Int) - m + (d : Nat)) = false := fun h e' he' => by
            by_cases h2 : e' = e
            · rw [h2]; exact h
            · exact HEE.out e' (by omega)
          generalize hs ((i : Int) - m + (e : Nat)) ((j : Int) - m + (d : Nat)) = b at *
          cases b
          · have HN2 := hidP (hN rfl)
            clear hT hN
            go_wp2_with fail
            refine (HC.out _ (H.out.ext HE)).mono ?_
            rintro e u1 ⟨rfl, hx⟩
            replace bp := Bl.ext hx bp (Nat.succ_pos _)
            replace HE := HE.trans hx
            clear hx
            go_wp2_with fail
            go_roundw
            case rel => exact ⟨e + 1, by omega, by congr 1; omega, HN2, bp, HE⟩
            case measure => simp only [intOf]; omega
          · have HR := hidP (hT rfl)
            clear hT hN
            go_wp2_with fail
            refine (HC.out _ (H.out.ext HE)).mono ?_
            rintro e u1 ⟨rfl, hx⟩
            replace bp := Bl.ext hx bp (Nat.succ_pos _)
            replace HE := HE.trans hx
            clear hx
            go_wp2_with fail
            go_ret
            exact ⟨by rw [HR.out]; rfl, HE⟩
        · have HD2 : Hid (∀ d', d' < d + 1 → ∀ e, e < 2 * m + 1 → hs ((i : Int) - m + (e : Nat)) ((j : Int) - m + (d' : Nat)) = false) := hidP (fun d' hd' e' he' => by
            by_cases h2 : d' = d
            · rw [h2]; exact HEE.out e' (by omega)
            · exact HD.out d' (by omega) e' he')
          have hle0 : ¬ ((i : Int) - (m : Int) + (e : Int) ≤ (i : Int) + (m : Int)) := by omega
          go_wp2_with fail
          go_roundw
          case rel => exact ⟨d + 1, by omega, by congr 1; omega, HD2, bp, HE⟩
          case measure => simp only [intOf]; omega
    · have hlt0 : ¬ ((j : Int) - (m : Int) + (d : Int) ≤ (j : Int) + (m : Int)) := by omega
      have HR := hidP (HF.out (fun d' hd' e he => HD.out d' (by omega) e he))
      go_wp2_with fail
      go_ret
      exact ⟨by rw [HR.out]; rfl, HE⟩

def growR (k X Y : Nat) (l : List Bool) : List Bool := tab (Y * X) (fun t => nearB X Y (Y * X) l (t % X) (t / X) k)
def growD (x y : Int) (n : Nat) (l : List Bool) (k : Int) : (Int × Int × List Bool) × Int :=
  if mayR x y n = true ∧ 0 ≤ k ∧ k ≤ 8 then ((x, y, growR k.toNat x.toNat y.toNat l), 0) else ((0, 0, []), 2)

set_option maxRecDepth 100000 in
set_option maxHeartbeats 8000000 in
theorem e_Grow (x y : Int) (a : Option Addr) (n c : Nat) (l : List Bool) (k : Int) (w : World) (h : SlB w a n c l) :
    Calls Try.prog 50 #[rst x y a n c, .int .i64 k] w (RetBE w (growD x y n l k)) := by
  have H := hidP h
  clear h
  have HM := hidP (fun u => e_May x y a n c u)
  by_cases hok : mayR x y n = true ∧ 0 ≤ k ∧ k ≤ 8
  · have hR : growD x y n l k = ((x, y, growR k.toNat x.toNat y.toNat l), 0) := if_pos hok
    obtain ⟨hm, hk1, hk2⟩ := hok
    rw [hm] at HM
    obtain ⟨m1, m2, m3, m4, m5⟩ := of_decide_eq_true hm
    have hbx := mul_box m1 m2 m3 m4
    obtain ⟨X, rfl⟩ : ∃ X : Nat, x = (X : Int) := ⟨x.toNat, by omega⟩
    obtain ⟨Y, rfl⟩ : ∃ Y : Nat, y = (Y : Int) := ⟨y.toNat, by omega⟩
    obtain ⟨K, rfl⟩ : ∃ K : Nat, k = (K : Int) := ⟨k.toNat, by omega⟩
    simp only [Int.toNat_natCast] at hR
    have hn1 : n = Y * X := by rw [Nat.mul_comm]; exact_mod_cast m5
    unfold growR at hR
    rw [← hn1] at hR
    have HC := hidP (fun (p q : Nat) (hp : p ≤ 64) (hq : q ≤ 64) u (t : SlB u a n c l) => e_near X Y a n c l p q K u t hp hq (by omega))
    have hR0 : (tab n (fun t => nearB X Y n l (t % X) (t / X) K)).length = n := tab_len _ _
    have HS : Hid (∀ p q, p < X → q < Y → bools ((tab n (fun t => nearB X Y n l (t % X) (t / X) K)).take (q * X + p + 1)) = bools ((tab n (fun t => nearB X Y n l (t % X) (t / X) K)).take (q * X + p)) ++ [.bool (nearB X Y n l p q K)]) := hidP (fun p q hp hq => by
      have hlt : q * X + p < n := by
        have e : (q + 1) * X ≤ Y * X := Nat.mul_le_mul_right _ (by omega)
        rw [Nat.add_mul, Nat.one_mul] at e
        omega
      rw [List.take_succ_eq_append_getElem (by rw [hR0]; exact hlt), bools_append, tab_get]
      have h1 : (q * X + p) % X = p := by rw [Nat.mul_comm, Nat.mul_add_mod]; exact Nat.mod_eq_of_lt hp
      have h2 : (q * X + p) / X = q := by rw [Nat.mul_comm, Nat.mul_add_div (by omega), Nat.div_eq_of_lt hp, Nat.add_zero]
      rw [h1, h2]; rfl)
    have hn4 : n ≤ 4096 := by omega
    have HR := hidP hR
    have HNN := hidP hn1
    generalize tab n (fun t => nearB X Y n l (t % X) (t / X) K) = R at *
    generalize nearB X Y n l = nb at *
    clear hR hm m5 hbx hn1
    generalize growD X Y n l K = rr at *
    have HZ : Hid (R.take 0 = []) := hidP rfl
    go_enter Try.func50, Try.ntmps50
    go_wp2_with fail
    refine absC (fun x1 hx1 => ?_)
    have hx : Ext w x1 := by rw [hx1]; exact (((Ext.refl _).alloc _).alloc _)
    have bp : Bl x1 (w.heap.size) #[.int .i64 (X : Int), .int .i64 (Y : Int), .slice a n c] := by rw [hx1]; exact ((Bl.new (by simp)).alloc (by simp))
    have bs : Bl x1 (w.heap.size + 1) #[.int .i64 0, .int .i64 0, .slice none 0 0] := by rw [hx1]; exact (Bl.new (by simp))
    have fs : Fz x1 (w.heap.size + 1) := by rw [hx1]; exact (Fz.new (by simp))
    have HE := hx
    clear hx
    clear hx1
    refine (HM.out _).mono ?_
    rintro e u1 ⟨rfl, hx⟩
    replace bp := Bl.ext hx bp (Nat.succ_pos _)
    replace fs := Fz.ext hx fs bs (Nat.succ_pos _)
    replace bs := Bl.ext hx bs (Nat.succ_pos _)
    replace HE := HE.trans hx
    clear hx
    have lpx := bp.lt (Nat.succ_pos _); have lsx := bs.lt (Nat.succ_pos _)
    go_upto_region 4 with fail
    refine absW (fun x2 hx2 => ?_)
    have hx : Ext u1 x2 := by rw [hx2]; exact ((Ext.refl _).alloc _)
    have bt : Bl x2 (u1.heap.size) #[.int .i64 (X : Int), .int .i64 (Y : Int), .slice none 0 0] := by rw [hx2]; exact (Bl.new (by simp))
    have ft : Fz x2 (u1.heap.size) := by rw [hx2]; exact (Fz.new (by simp))
    replace bp := Bl.ext hx bp (Nat.succ_pos _)
    replace fs := Fz.ext hx fs bs (Nat.succ_pos _)
    replace bs := Bl.ext hx bs (Nat.succ_pos _)
    replace HE := HE.trans hx
    clear hx
    clear hx2
    generalize u1.heap.size = ga at *
    have hB : ga + 1 ≤ x2.heap.size := by have := bt.lt (Nat.succ_pos _); omega
    have hz0 : x2.ownsRow (ga + 1) 4 1 (.slice none 0 0) (0 * X) (bools (R.take (0 * X))) := by rw [Nat.zero_mul, HZ.out]; exact World.ownsRow_nil _ _ _ _
    go_wp2_with fail
    go_loopw [7] (fun iv wr => ∃ (q : Nat) (v : Value), q ≤ Y ∧ iv = .int .i64 (q : Int) ∧ wr.ownsRow (ga + 1) 4 1 v (q * X) (bools (R.take (q * X))) ∧ Bl wr ga #[.int .i64 (X : Int), .int .i64 (Y : Int), v] ∧ Fz wr ga ∧ Bl wr w.heap.size #[.int .i64 (X : Int), .int .i64 (Y : Int), .slice a n c] ∧ Bl wr (w.heap.size + 1) #[.int .i64 0, .int .i64 0, .slice none 0 0] ∧ Fz wr (w.heap.size + 1) ∧ ga + 1 ≤ wr.heap.size ∧ Ext w wr) (fun iv _ => Y - (intOf iv).toNat)
    case atStart => exact ⟨0, _, by omega, rfl, hz0, bt, ft, bp, bs, fs, hB, HE⟩
    case round =>
      clear hz0 bt ft bp bs fs hB HE
      obtain ⟨q, v, hq, rfl, hown, bt, ft, bp, bs, fs, hB, HE⟩ := hrel
      by_cases hlt : q < Y
      · have hlt0 := hlt
        go_wp2_with fail
        go_loopw [8] (fun iv wr => ∃ (p : Nat) (v : Value), p ≤ X ∧ iv = .int .i64 (p : Int) ∧ wr.ownsRow (ga + 1) 4 1 v (q * X + p) (bools (R.take (q * X + p))) ∧ Bl wr ga #[.int .i64 (X : Int), .int .i64 (Y : Int), v] ∧ Fz wr ga ∧ Bl wr w.heap.size #[.int .i64 (X : Int), .int .i64 (Y : Int), .slice a n c] ∧ Bl wr (w.heap.size + 1) #[.int .i64 0, .int .i64 0, .slice none 0 0] ∧ Fz wr (w.heap.size + 1) ∧ ga + 1 ≤ wr.heap.size ∧ Ext w wr) (fun iv _ => X - (intOf iv).toNat)
        case atStart => exact ⟨0, v, by omega, rfl, hown, bt, ft, bp, bs, fs, hB, HE⟩
        case round =>
          clear hown bt ft bp bs fs hB HE
          obtain ⟨p, v, hp, rfl, hown, bt, ft, bp, bs, fs, hB, HE⟩ := hrel
          by_cases hlp : p < X
          · have hlp0 := hlp
            have HST := hidP (HS.out p q hlp hlt)
            have HCC := hidP (fun u t => HC.out p q (by omega) (by omega) u t)
            have hqp : q * X + p < n := by
              have e : (q + 1) * X ≤ Y * X := Nat.mul_le_mul_right _ (by omega)
              rw [Nat.add_mul, Nat.one_mul] at e
              rw [HNN.out]; omega
            generalize nb p q K = b at *
            go_wp2_with fail
            refine wp_region_plan (R := Below (ga + 1)) (.q 0 (.q 1 (.q 2 (.q 3 (.q 4 (.q 5 (.l 6 (.l 7 (.l 8 (.q 9 (.b 10 .done))))))))))) (by kernel_rfl) (by kernel_rfl) (by kernel_rfl) (by kernel_rfl) (Below.refl _) (fun _ _ _ => Below.trans) ?_
            refine absE (fun x3 hx3 => ?_)
            have hx : Ext wr x3 := by rw [hx3]; exact (Ext.refl _).drew
            replace hown : x3.ownsRow (ga + 1) 4 1 v (q * X + p) (bools (R.take (q * X + p))) := by rw [hx3]; exact hown.drew
            replace ft := Fz.ext hx ft bt (Nat.succ_pos _)
            replace bt := Bl.ext hx bt (Nat.succ_pos _)
            replace bp := Bl.ext hx bp (Nat.succ_pos _)
            replace fs := Fz.ext hx fs bs (Nat.succ_pos _)
            replace bs := Bl.ext hx bs (Nat.succ_pos _)
            replace hB := Nat.le_trans hB hx.size
            replace HE := HE.trans hx
            clear hx hx3
            repeat (refine wpE_q (v := ?_) rfl rfl (fun u hu => ?_) ?_; rotate_left 1; (focus (have kt := Bl.lowB hu bt (by omega); have kp := Bl.lowB hu bp (by omega); go_simp; (try rfl))); simp only [Act.put, List.setIfInBounds_toArray, List.set_cons_zero, List.set_cons_succ])
            refine wpE_l rfl rfl (fun K hK => ?_)
            go_simp
            refine (HCC.out _ (H.out.ext HE)).mono ?_
            rintro e u5 ⟨rfl, hx⟩
            refine hK.out _ _ (Below.mono hx hB) ?_
            clear hK K
            try simp only [Act.put, List.setIfInBounds_toArray, List.set_cons_zero, List.set_cons_succ]
            replace hown := RowB.ext hown hx
            replace ft := Fz.ext hx ft bt (Nat.succ_pos _)
            replace bt := Bl.ext hx bt (Nat.succ_pos _)
            replace bp := Bl.ext hx bp (Nat.succ_pos _)
            replace fs := Fz.ext hx fs bs (Nat.succ_pos _)
            replace bs := Bl.ext hx bs (Nat.succ_pos _)
            replace hB := Nat.le_trans hB hx.size
            replace HE := HE.trans hx
            clear hx
            refine wpE_l rfl rfl (fun K hK => ?_)
            go_simp
            refine hK.out _ _ ((Below.refl _ _).alloc hB _) ?_
            clear hK K
            try simp only [Act.put, List.setIfInBounds_toArray, List.set_cons_zero, List.set_cons_succ]
            refine wpE_l rfl rfl (fun K hK => ?_)
            refine wp_appB (ad := ⟨u5.heap.size, 0, none⟩) (m := 1) T_bool _ _ rfl (hown.alloc _) (Nat.le_trans hB (by simp)) [.bool b] rfl rfl rfl (cell_one_new _ _ _) (ends_bool _) (by omega) (by omega) ?_
            intro v2 w2 hown2 hlow0
            refine hK.out _ _ hlow0 ?_
            clear hK K
            try simp only [Act.put, List.setIfInBounds_toArray, List.set_cons_zero, List.set_cons_succ]
            have hlow : Below (ga + 1) u5 w2 := Below.trans ((Below.refl _ _).alloc hB _) hlow0
            clear hlow0
            obtain ⟨a2, c2, rfl, hs2⟩ := SlK.of_owns hown2
            have ft2 := Fz.lowB hlow ft (by omega)
            have bt2 := Bl.lowB hlow bt (by omega)
            have bp2 := Bl.lowB hlow bp (by omega)
            have fs2 := Fz.lowB hlow fs (by omega)
            have bs2 := Bl.lowB hlow bs (by omega)
            repeat (refine wpE_q (v := ?_) rfl rfl (fun u hu => ?_) ?_; rotate_left 1; (focus (have kt := Bl.lowB hu bt2 (by omega); go_simp; (try rfl))); simp only [Act.put, List.setIfInBounds_toArray, List.set_cons_zero, List.set_cons_succ])
            refine wpE_b rfl rfl (fun K hK => ?_)
            go_simp
            refine hK.out _ _ ?_
            clear hK K
            try simp only [Act.put, List.setIfInBounds_toArray, List.set_cons_zero, List.set_cons_succ]
            refine wpE_done ?_
            go_wp2_with fail
            have hb2 : But w2 (w2.setCell ⟨ga, 2, none⟩ (.slice a2 (q * X + p + 1) c2)) ga := (But.refl _ _).store
            go_roundw
            case rel =>
              refine ⟨p + 1, _, by omega, by go_num, ?_, bt2.set (by simp), ft2.set, hb2.bl bp2 (Nat.succ_pos _) (by omega), hb2.bl bs2 (Nat.succ_pos _) (by omega), hb2.fz fs2 bs2 (Nat.succ_pos _) (by omega), Nat.le_trans (Nat.le_trans hB hlow.size) hb2.1, (Below.trans HE (hlow.mono (by omega))).setCell (by show w.heap.size ≤ ga; omega) _⟩
              rw [← Nat.add_assoc, HST.out]
              exact hb2.rowB hown2 (by omega)
            case measure => simp only [intOf]; omega
          · obtain rfl : p = X := by omega
            have e : q * p + p = (q + 1) * p := by rw [Nat.add_mul, Nat.one_mul]
            rw [e] at hown
            go_wp2_with fail
            go_roundw
            case rel => exact ⟨q + 1, v, by omega, by go_num, hown, bt, ft, bp, bs, fs, hB, HE⟩
            case measure => simp only [intOf]; omega
      · obtain rfl : q = Y := by omega
        rw [← HNN.out] at hown
        obtain ⟨a2, c2, rfl, hs2⟩ := SlK.of_owns hown
        rw [List.take_of_length_le (by omega)] at hs2
        have HSR : Hid (SlB wr a2 n c2 R) := hidP hs2
        clear hs2 hown
        go_wp2_with fail
        refine absB (fun ue hue => ?_)
        have hbs : Bl ue (w.heap.size + 1) #[.int .i64 (X : Int), .int .i64 (q : Int), .slice a2 n c2] := by rw [hue]; exact (((bs.set (by simp)).set (by simp)).set (by simp))
        have hnc : ∀ {aa : Option Addr} {nn cc : Nat} {ll : List Bool}, SlB wr aa nn cc ll → SlB ue aa nn cc ll := fun h => by
          rw [hue]
          exact h.but bs (not_bools) ((But.refl _ _).store.store.store)
        have heu : Ext w ue := by rw [hue]; exact ((HE.store (by show w.heap.size ≤ w.heap.size + 1; omega) _).store (by show w.heap.size ≤ w.heap.size + 1; omega) _).store (by show w.heap.size ≤ w.heap.size + 1; omega) _
        clear hue
        refine bodyPost_cells_tmp2 rfl rfl Try.underlying44 rfl (by kernel_rfl) (blk_three hbs) rfl rfl ?_
        rw [HR.out]
        exact ⟨_, _, _, rfl, hnc HSR.out, heu⟩
  · have HR : Hid (growD x y n l k = ((0, 0, []), 2)) := hidP (if_neg hok)
    generalize growD x y n l k = rr at *
    cases hm : mayR x y n
    · rw [hm] at HM
      clear hok hm
      go_enter Try.func50, Try.ntmps50
      go_wp2_with fail
      refine absC (fun x1 hx1 => ?_)
      have hx : Ext w x1 := by rw [hx1]; exact (((Ext.refl _).alloc _).alloc _)
      have bp : Bl x1 (w.heap.size) #[.int .i64 x, .int .i64 y, .slice a n c] := by rw [hx1]; exact ((Bl.new (by simp)).alloc (by simp))
      have bs : Bl x1 (w.heap.size + 1) #[.int .i64 0, .int .i64 0, .slice none 0 0] := by rw [hx1]; exact (Bl.new (by simp))
      have fs : Fz x1 (w.heap.size + 1) := by rw [hx1]; exact (Fz.new (by simp))
      have HE := hx
      clear hx
      clear hx1
      refine (HM.out _).mono ?_
      rintro e u1 ⟨rfl, hx⟩
      replace bp := Bl.ext hx bp (Nat.succ_pos _)
      replace fs := Fz.ext hx fs bs (Nat.succ_pos _)
      replace bs := Bl.ext hx bs (Nat.succ_pos _)
      replace HE := HE.trans hx
      clear hx
      go_wp2_with fail
      refine absB (fun ue hue => ?_)
      have hbs : Bl ue (w.heap.size + 1) #[.int .i64 0, .int .i64 0, .slice none 0 0] := by rw [hue]; exact (((bs.set (by simp)).set (by simp)).set (by simp))
      have hnc : ∀ {aa : Option Addr} {nn cc : Nat} {ll : List Bool}, SlB u1 aa nn cc ll → SlB ue aa nn cc ll := fun h => by
        rw [hue]
        exact h.but bs (not_bools) ((But.refl _ _).store.store.store)
      have heu : Ext w ue := by rw [hue]; exact ((HE.store (by show w.heap.size ≤ w.heap.size + 1; omega) _).store (by show w.heap.size ≤ w.heap.size + 1; omega) _).store (by show w.heap.size ≤ w.heap.size + 1; omega) _
      clear hue
      refine bodyPost_cells_tmp2 rfl rfl Try.underlying44 rfl (by kernel_rfl) (blk_three hbs) rfl rfl ?_
      rw [HR.out]
      exact ⟨none, 0, 0, rfl, SlK.nil 1 _, heu⟩
    · rw [hm] at HM
      have hcs : k < 0 ∨ (0 ≤ k ∧ 8 < k) := by
        have : ¬ (0 ≤ k ∧ k ≤ 8) := fun h => hok ⟨hm, h⟩
        omega
      clear hok hm
      rcases hcs with h1 | ⟨h0, h1⟩
      all_goals (
        go_enter Try.func50, Try.ntmps50
        go_wp2_with fail
        refine absC (fun x1 hx1 => ?_)
        have hx : Ext w x1 := by rw [hx1]; exact (((Ext.refl _).alloc _).alloc _)
        have bp : Bl x1 (w.heap.size) #[.int .i64 x, .int .i64 y, .slice a n c] := by rw [hx1]; exact ((Bl.new (by simp)).alloc (by simp))
        have bs : Bl x1 (w.heap.size + 1) #[.int .i64 0, .int .i64 0, .slice none 0 0] := by rw [hx1]; exact (Bl.new (by simp))
        have fs : Fz x1 (w.heap.size + 1) := by rw [hx1]; exact (Fz.new (by simp))
        have HE := hx
        clear hx
        clear hx1
        refine (HM.out _).mono ?_
        rintro e u1 ⟨rfl, hx⟩
        replace bp := Bl.ext hx bp (Nat.succ_pos _)
        replace fs := Fz.ext hx fs bs (Nat.succ_pos _)
        replace bs := Bl.ext hx bs (Nat.succ_pos _)
        replace HE := HE.trans hx
        clear hx
        go_wp2_with fail
        refine absB (fun ue hue => ?_)
        have hbs : Bl ue (w.heap.size + 1) #[.int .i64 0, .int .i64 0, .slice none 0 0] := by rw [hue]; exact (((bs.set (by simp)).set (by simp)).set (by simp))
        have hnc : ∀ {aa : Option Addr} {nn cc : Nat} {ll : List Bool}, SlB u1 aa nn cc ll → SlB ue aa nn cc ll := fun h => by
          rw [hue]
          exact h.but bs (not_bools) ((But.refl _ _).store.store.store)
        have heu : Ext w ue := by rw [hue]; exact ((HE.store (by show w.heap.size ≤ w.heap.size + 1; omega) _).store (by show w.heap.size ≤ w.heap.size + 1; omega) _).store (by show w.heap.size ≤ w.heap.size + 1; omega) _
        clear hue
        refine bodyPost_cells_tmp2 rfl rfl Try.underlying44 rfl (by kernel_rfl) (blk_three hbs) rfl rfl ?_
        rw [HR.out]
        exact ⟨none, 0, 0, rfl, SlK.nil 1 _, heu⟩)

end Go.Proofs.Ytogcmnagiepofaa
