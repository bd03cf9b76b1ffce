/- The program's numbers (nat): a quotient word guessed, taken, given back. -/
import Derived.Test.YtcipcpbjkcpgdaaK2
import Derived.Test.YtcipcpbjkcpgdaaK0
import Derived.Test.YtcipcpbjkcpgdaaBlk
namespace Go.Proofs.Ytcipcpbjkcpgdaa
set_option linter.unusedVariables false
open Go Go.RowKit

set_option maxRecDepth 100000 in
set_option maxHeartbeats 2000000 in
theorem nat_guess_any (g off cap : Nat) (j : Nat) (p : List Nat) (top next : Nat) (w : World) (hs : Sl w (some ⟨g, off, none⟩) (j + 3) cap (ints .u32 p)) (hp : Ws p) (hj : j ≤ 1099511627776)
    (ht : 1 ≤ top) (ht2 : top ≤ 4294967295) (hn : next ≤ 4294967295) (hle : p.getD (j + 2) 0 * 4294967296 + p.getD (j + 1) 0 ≤ top * 4294967296 + next) :
    Calls Try.prog 132 #[.slice (some ⟨g, off, none⟩) (j + 3) cap, .int .u32 top, .int .u32 next] w
      fun e w' => e = .returned (.int .u64 (min (((p.getD (j + 2) 0 * 4294967296 + p.getD (j + 1) 0) * 4294967296 + p.getD j 0) / (top * 4294967296 + next)) (4294967296 - 1) : Nat)) ∧ Ext w w' := by
  have hlen := hs.int_len
  obtain ⟨b, o, hbo, hc⟩ := hs.at_int (by omega)
  simp only [Option.some.injEq, Addr.mk.injEq, and_true] at hbo
  obtain ⟨rfl, rfl⟩ := hbo
  have c2 := hc (j + 2) (by omega)
  have c1 := hc (j + 1) (by omega)
  have c0 := hc j (by omega)
  have b2 := hp.at (j + 2) (by omega)
  have b1 := hp.at (j + 1) (by omega)
  have b0 := hp.at j (by omega)
  have e2 : p.getD (j + 2) 0 = p[j + 2] := by rw [List.getD_eq_getElem?_getD, List.getElem?_eq_getElem (by omega)]; rfl
  have e1 : p.getD (j + 1) 0 = p[j + 1] := by rw [List.getD_eq_getElem?_getD, List.getElem?_eq_getElem (by omega)]; rfl
  have e0 : p.getD j 0 = p[j] := by rw [List.getD_eq_getElem?_getD, List.getElem?_eq_getElem (by omega)]; rfl
  rw [e2, e1] at hle
  rw [e2, e1, e0]
  clear e2 e1 e0 hc
  generalize p[j + 2] = p2 at *
  generalize p[j + 1] = p1 at *
  generalize p[j] = p0 at *
  have hor := or32 p2 p1 (by omega) (by omega)
  obtain ⟨v, hv⟩ : ∃ v, v = p2 * 4294967296 + p1 := ⟨_, rfl⟩
  rw [← hv] at hor hle ⊢
  have hvb : v ≤ 18446744073709551615 := by omega
  clear hv
  have hw1 : IntKind.u64.wrap ((v : Int) / (top : Int)) = ((v / top : Nat) : Int) := by
    rw [← Int.natCast_ediv]
    have : v / top ≤ v := Nat.div_le_self _ _
    generalize v / top = q at *
    exact IntWalk.u64_in _ (by omega)
  have hw2 : (v : Int).tmod (top : Int) = ((v % top : Nat) : Int) := by rw [IntWalk.rem_in _ _ (by omega)]; rfl
  have hz : ¬ top = 0 := by omega
  have HDM : Hid (v / top * top + v % top = v) := hidP (Nat.div_add_mod' v top)
  have hrb : v % top < top := Nat.mod_lt _ (by omega)
  have hqb : v / top ≤ 18446744073709551615 := Nat.le_trans (Nat.div_le_self _ _) hvb
  have HLOW : Hid (min ((v * 4294967296 + p0) / (top * 4294967296 + next)) (4294967296 - 1) ≤ v / top) := hidP (by
    refine Nat.le_trans (Nat.min_le_left _ _) ?_
    have h3 : (v * 4294967296 + p0) / (top * 4294967296 + next) ≤ (v * 4294967296 + p0) / (top * 4294967296) := Nat.div_le_div_left (by omega) (by omega)
    refine Nat.le_trans h3 ?_
    rw [Nat.mul_comm top, ← Nat.div_div_eq_div_mul]
    refine Nat.div_le_div_right ?_
    omega)
  have hw1' := hw1
  generalize v / top = q0 at *
  generalize v % top = r0 at *
  have HGE := hidP (fun q left (h1 : q * top + left = v) h2 h3 h4 => @guess_end 4294967296 q top next left p0 v h1 h2 h3 h4 (by omega))
  have HGB := hidP (fun q left (h1 : q * top + left = v) h2 h4 => @guess_break 4294967296 q top next left p0 v (by omega) h1 h2 (by omega) hle h4 (by omega))
  have HGM := hidP (fun q left (h1 : q * top + left = v) h2 h4 => @guess_more 4294967296 q top next left p0 v h1 h2 h4 (by omega))
  generalize min ((v * 4294967296 + p0) / (top * 4294967296 + next)) (4294967296 - 1) = M at *
  clear hw1' hle hlen
  go_enter Try.func132, Try.ntmps132
  go_wp2
  go_quiet (fail)
  go_wp2
  go_quiet (fail)
  go_wp2
  have e31 : j + 3 - 1 = j + 2 := rfl
  have e32 : j + 3 - 1 - 1 = j + 1 := rfl
  rw [e32, e31]
  clear e31 e32
  go_loopw [9, 10] (fun qv lv wr => ∃ (q left : Nat), qv = .int .u64 (q : Nat) ∧ lv = .int .u64 (left : Nat) ∧ q * top + left = v ∧ M ≤ q ∧ q ≤ 18446744073709551615 ∧ left ≤ 4294967295 ∧ Ext w wr) (fun qv _ _ => (intOf qv).toNat)
  case atStart => exact ⟨q0, r0, rfl, rfl, HDM.out, HLOW.out, hqb, by omega, ((Ext.refl _).drewN _).drewN _⟩
  case round =>
    clear HDM HLOW hqb hrb hw1 hw2
    obtain ⟨q, left, rfl, rfl, hinv, hlow, hq, hl, he⟩ := hrel
    have HI := hidP hinv; have HL := hidP hlow
    clear hinv hlow
    have c0' := he.cell' c0
    clear c0 c1 c2
    have hor2 := or32 left p0 hl (by omega)
    by_cases h1 : q ≤ 4294967295
    · obtain ⟨mm, hm⟩ : ∃ mm : Nat, (q : Int) * (next : Int) = (mm : Int) ∧ mm = q * next := ⟨q * next, by rw [Int.natCast_mul], rfl⟩
      have hm1 := hm.1
      have hmb : mm ≤ 18446744065119617025 := by rw [hm.2]; exact Nat.mul_le_mul h1 hn
      have HMM := hidP hm.2
      clear hm
      obtain ⟨lo, hlo⟩ : ∃ lo, lo = left * 4294967296 + p0 := ⟨_, rfl⟩
      rw [← hlo] at hor2
      have HLO := hidP hlo
      clear hlo
      by_cases h2 : lo < mm
      · have hmore := HGM.out q left HI.out (.inr (by have := HLO.out; have := HMM.out; omega)) HL.out
        have hq1 := hmore.1
        have HMORE := hidP hmore.2
        clear hmore
        by_cases h3 : 4294967296 ≤ left + top
        · have HRES := hidP (HGB.out (q - 1) (left + top) HMORE.out.2 h3 HMORE.out.1)
          go_wp2
          go_ret
          exact ⟨ret_int (by have := HRES.out; omega), he⟩
        · go_wp2
          go_roundw
          case rel => exact ⟨q - 1, left + top, by go_num, by go_num, HMORE.out.2, HMORE.out.1, by omega, by omega, he⟩
          case measure => simp only [intOf]; omega
      · have HRES := hidP (HGE.out q left HI.out (by omega) (by have := HLO.out; have := HMM.out; omega) HL.out)
        go_wp2
        go_ret
        exact ⟨ret_int (by have := HRES.out; omega), he⟩
    · have hmore := HGM.out q left HI.out (.inl (by omega)) HL.out
      have hq1 := hmore.1
      have HMORE := hidP hmore.2
      clear hmore
      by_cases h3 : 4294967296 ≤ left + top
      · have HRES := hidP (HGB.out (q - 1) (left + top) HMORE.out.2 h3 HMORE.out.1)
        go_wp2
        go_ret
        exact ⟨ret_int (by have := HRES.out; omega), he⟩
      · go_wp2
        go_roundw
        case rel => exact ⟨q - 1, left + top, by go_num, by go_num, HMORE.out.2, HMORE.out.1, by omega, by omega, he⟩
        case measure => simp only [intOf]; omega

/-- What 'take' leaves. -/
def TakeR (W w : World) (g N i n : Nat) (D Y : List Nat) (q : Nat) (e : Ending) (w' : World) : Prop :=
  ∃ (D' : List Nat) (br : Nat), e = .returned (.bool (decide (br = 0))) ∧ w'.ownsRow W.heap.size 57 1 (.slice (some ⟨g, 0, none⟩) N N) N (ints .u32 D') ∧ Ext W w' ∧ But w w' g ∧ Ws D' ∧
    D'.take i = D.take i ∧ D'.drop (i + n + 1) = D.drop (i + n + 1) ∧ br ≤ 1 ∧ val B32 ((D'.drop i).take (n + 1)) + q * val B32 Y = val B32 ((D.drop i).take (n + 1)) + B32 ^ (n + 1) * br

set_option maxRecDepth 100000 in
set_option maxHeartbeats 2000000 in
theorem nat_take_any (W : World) (g N i n cap0 : Nat) (D Y : List Nat) (q : Nat) (a' : Option Addr) (cap' : Nat) (w : World) (hown : w.ownsRow W.heap.size 57 1 (.slice (some ⟨g, 0, none⟩) N N) N (ints .u32 D)) (he : Ext W w)
    (hs' : Sl W a' n cap' (ints .u32 Y)) (hY : Ws Y) (hD : Ws D) (hin : i + n < N) (hN : N ≤ 4398046511105) (hq : q ≤ 4294967295) :
    Calls Try.prog 133 #[.slice (some ⟨g, i, none⟩) (n + 1) cap0, .slice a' n cap', .int .u64 q] w (TakeR W w g N i n D Y q) := by
  have hlen' := hs'.int_len
  have hDl := Row.len hown
  have hgb := Row.base hown
  have HG : Hid (W.heap.size ≤ g) := hidP hgb.1
  clear hgb
  have HDL := hidP hDl; clear hDl
  have HI0 : Hid (val B32 ((D.drop i).take 0) + q * val B32 (Y.take 0) = val B32 ((D.drop i).take 0) + B32 ^ 0 * (0 + 0)) := hidP (by simp [val])
  go_enter Try.func133, Try.ntmps133
  go_wp2
  go_loopw [7, 8, 15] (fun c b jv wr => ∃ (j cy br : Nat) (E : List Nat), j ≤ n ∧ jv = .int .i64 j ∧ c = .int .u64 (cy : Nat) ∧ cy ≤ 4294967295 ∧ b = .int .u32 (br : Nat) ∧ br ≤ 1 ∧ wr.ownsRow W.heap.size 57 1 (.slice (some ⟨g, 0, none⟩) N N) N (ints .u32 E) ∧ Ext W wr ∧ But w wr g ∧ Ws E ∧
    E.take i = D.take i ∧ E.drop (i + j) = D.drop (i + j) ∧ val B32 ((E.drop i).take j) + q * val B32 (Y.take j) = val B32 ((D.drop i).take j) + B32 ^ j * (cy + br)) (fun _ _ jv _ => n - (intOf jv).toNat)
  case atStart => exact ⟨0, 0, 0, D, by omega, rfl, rfl, by omega, rfl, by omega, hown, he, But.refl _ _, hD, rfl, rfl, HI0.out⟩
  case round =>
    clear hown he HI0
    obtain ⟨j, cy, br, E, hj, rfl, rfl, hcy, rfl, hbr, hown, he, hbut, hE, ht, hd, hv⟩ := hrel
    have hEl := Row.len hown
    have HT := hidP ht; have HDR := hidP hd; have HV := hidP hv; have HB := hidP hbut; have HEX := hidP he
    clear ht hd hv hbut
    have hij : i + j < E.length := by omega
    have hcE := Row.cell hown (i + j) hij
    have hfr := Row.free hown (i + j)
    have hrb := hE.at (i + j) hij
    have HST := hidP (fun v => Row.store hown (i + j) v)
    have HPW := hidP (fun d => part_write (B := B32) (E := E) (D := D) (i := i) (j := j) (d := d) hij HDR.out HT.out)
    have HR : Hid (E[i + j] = E[i + j]) := hidP rfl
    clear hown HR
    generalize hr : E[i + j] = r at *
    clear hr
    have hEl2 := hidP hEl
    clear hEl
    by_cases h0 : j < n
    · obtain ⟨b, off, rfl, hc⟩ := (hs'.ext he).at_int (by omega)
      have hcy' := hc j (by omega)
      have hyb := hY.at j (by omega)
      obtain ⟨y, hy⟩ : ∃ y, y = Y[j]'(by omega) := ⟨_, rfl⟩
      rw [← hy] at hcy' hyb
      have HY : Hid (Y.getD j 0 = y) := hidP (by rw [hy, List.getD_eq_getElem?_getD, List.getElem?_eq_getElem (by omega)]; rfl)
      clear hy hc
      obtain ⟨mm, hm⟩ : ∃ mm : Nat, (y : Int) * (q : Int) = (mm : Int) ∧ mm = y * q := ⟨y * q, by rw [Int.natCast_mul], rfl⟩
      have hm1 := hm.1
      have hmb : mm ≤ 18446744065119617025 := by rw [hm.2]; exact Nat.mul_le_mul (by omega : y ≤ 4294967295) hq
      have HMM := hidP hm.2
      clear hm
      have hlo : bits .and .u64 ((mm : Int) + (cy : Int)) 4294967295 = (((mm + cy) % 4294967296 : Nat) : Int) := lo32 (mm + cy) (by omega)
      have hlb : (mm + cy) % 4294967296 ≤ 4294967295 := by omega
      have hhb : (mm + cy) / 4294967296 ≤ 4294967295 := by omega
      have HLO := hidP (rfl : (mm + cy) % 4294967296 = (mm + cy) % 4294967296)
      have HTS := hidP (take_step (B := 4294967296) (P := B32 ^ j) (q := q) (w := y) (cy := cy) (r := r) (br := br) (E := val B32 ((E.drop i).take j)) (X := val B32 ((D.drop i).take j)) (Y := val B32 (Y.take j)) (d := (4294967296 + r - (y * q + cy) % 4294967296 - br) % 4294967296) (by omega) (by omega) hbr HV.out rfl)
      rw [← HMM.out] at HTS
      generalize hlv : (mm + cy) % 4294967296 = lo at *
      generalize hhv : (mm + cy) / 4294967296 = hi at *
      have HHV := hidP hhv
      have hhi : ((mm : Int) + (cy : Int)) / 4294967296 = (hi : Int) := by omega
      clear hlv hhv HLO
      go_wp2_with fail
      refine (bits_Sub32_any r lo br _ (by omega) (by omega) hbr).mono ?_
      have hb2 : 1 - (4294967296 + r - lo - br) / 4294967296 ≤ 1 := by omega
      generalize (4294967296 + r - lo - br) % 4294967296 = d at *
      generalize 1 - (4294967296 + r - lo - br) / 4294967296 = br2 at *
      rintro e w' ⟨rfl, rfl⟩
      go_wp2
      go_roundw
      case rel =>
        have hpw := HPW.out d
        refine ⟨j + 1, hi, br2, E.set (i + j) d, by omega, by go_num, rfl, by omega, rfl, hb2, HST.out d, HEX.out.store HG.out _, HB.out.store, set_lt hE _ _ (by have := HTS.out.2; unfold B32; omega), hpw.1, by have := hpw.2.1; rwa [Nat.add_assoc] at this, ?_⟩
        rw [hpw.2.2.1, hpw.2.2.2, val_take_snoc, HY.out, Nat.pow_succ]
        exact HTS.out.1
      case measure => simp only [intOf]; omega
    · obtain rfl : j = n := by omega
      have hv := HV.out
      rw [List.take_of_length_le (by omega : Y.length ≤ j)] at hv
      have HTS := hidP (take_step (B := 4294967296) (P := B32 ^ j) (q := q) (w := 0) (cy := cy) (r := r) (br := br) (E := val B32 ((E.drop i).take j)) (X := val B32 ((D.drop i).take j)) (Y := val B32 Y) (d := (4294967296 + r - (0 * q + cy) % 4294967296 - br) % 4294967296) (by omega) (by omega) hbr hv rfl)
      have hcm : (0 * q + cy) % 4294967296 = cy := by omega
      have hcd : (0 * q + cy) / 4294967296 = 0 := by omega
      rw [hcm, hcd] at HTS
      clear hcm hcd hv
      go_wp2_with fail
      refine (bits_Sub32_any r cy br _ (by omega) (by omega) hbr).mono ?_
      have hb2 : 1 - (4294967296 + r - cy - br) / 4294967296 ≤ 1 := by omega
      generalize (4294967296 + r - cy - br) % 4294967296 = d at *
      generalize 1 - (4294967296 + r - cy - br) / 4294967296 = br2 at *
      rintro e w' ⟨rfl, rfl⟩
      go_wp2
      go_ret
      have hpw := HPW.out d
      refine ⟨E.set (i + j) d, br2, ?_, HST.out d, HEX.out.store HG.out _, HB.out.store, set_lt hE _ _ (by have := HTS.out.2; unfold B32; omega), hpw.1, hpw.2.1, hb2, ?_⟩
      · have : ((br2 : Int) == 0) = decide (br2 = 0) := by rw [Bool.eq_iff_iff]; simp
        rw [← this]; rfl
      · rw [hpw.2.2.1, hpw.2.2.2, Nat.pow_succ]
        have := HTS.out.1
        simp only [Nat.mul_zero, Nat.add_zero, Nat.zero_add] at this
        exact this

/-- What 'give' leaves. -/
def GiveR (W w : World) (g N i n : Nat) (D Y : List Nat) (e : Ending) (w' : World) : Prop :=
  e = .returned (.tuple #[]) ∧ ∃ (D' : List Nat) (c : Nat), w'.ownsRow W.heap.size 57 1 (.slice (some ⟨g, 0, none⟩) N N) N (ints .u32 D') ∧ Ext W w' ∧ But w w' g ∧ Ws D' ∧
    D'.take i = D.take i ∧ D'.drop (i + n + 1) = D.drop (i + n + 1) ∧ c ≤ 1 ∧ val B32 ((D'.drop i).take (n + 1)) + B32 ^ (n + 1) * c = val B32 ((D.drop i).take (n + 1)) + val B32 Y

set_option maxRecDepth 100000 in
set_option maxHeartbeats 2000000 in
theorem nat_give_any (W : World) (g N i n cap0 : Nat) (D Y : List Nat) (a' : Option Addr) (cap' : Nat) (w : World) (hown : w.ownsRow W.heap.size 57 1 (.slice (some ⟨g, 0, none⟩) N N) N (ints .u32 D)) (he : Ext W w)
    (hs' : Sl W a' n cap' (ints .u32 Y)) (hY : Ws Y) (hD : Ws D) (hin : i + n < N) (hN : N ≤ 4398046511105) :
    Calls Try.prog 134 #[.slice (some ⟨g, i, none⟩) (n + 1) cap0, .slice a' n cap'] w (GiveR W w g N i n D Y) := by
  have hlen' := hs'.int_len
  have hDl := Row.len hown
  have hgb := Row.base hown
  have HG : Hid (W.heap.size ≤ g) := hidP hgb.1
  clear hgb
  have HDL := hidP hDl; clear hDl
  have HI0 : Hid (val B32 ((D.drop i).take 0) + B32 ^ 0 * 0 = val B32 ((D.drop i).take 0) + val B32 (Y.take 0)) := hidP (by simp [val])
  go_enter Try.func134, Try.ntmps134
  go_wp2
  go_loopw [4, 9] (fun c jv wr => ∃ (j cy : Nat) (E : List Nat), j ≤ n ∧ jv = .int .i64 j ∧ c = .int .u32 (cy : Nat) ∧ cy ≤ 1 ∧ wr.ownsRow W.heap.size 57 1 (.slice (some ⟨g, 0, none⟩) N N) N (ints .u32 E) ∧ Ext W wr ∧ But w wr g ∧ Ws E ∧
    E.take i = D.take i ∧ E.drop (i + j) = D.drop (i + j) ∧ val B32 ((E.drop i).take j) + B32 ^ j * cy = val B32 ((D.drop i).take j) + val B32 (Y.take j)) (fun _ jv _ => n - (intOf jv).toNat)
  case atStart => exact ⟨0, 0, D, by omega, rfl, rfl, by omega, hown, he, But.refl _ _, hD, rfl, rfl, HI0.out⟩
  case round =>
    clear hown he HI0
    obtain ⟨j, cy, E, hj, rfl, rfl, hcy, hown, he, hbut, hE, ht, hd, hv⟩ := hrel
    have hEl := Row.len hown
    have HT := hidP ht; have HDR := hidP hd; have HV := hidP hv; have HB := hidP hbut; have HEX := hidP he
    clear ht hd hv hbut
    have hij : i + j < E.length := by omega
    have hcE := Row.cell hown (i + j) hij
    have hfr := Row.free hown (i + j)
    have hrb := hE.at (i + j) hij
    have HST := hidP (fun v => Row.store hown (i + j) v)
    have HPW := hidP (fun d => part_write (B := B32) (E := E) (D := D) (i := i) (j := j) (d := d) hij HDR.out HT.out)
    clear hown
    generalize hr : E[i + j] = r at *
    clear hr
    have hEl2 := hidP hEl
    clear hEl
    by_cases h0 : j < n
    · obtain ⟨b, off, rfl, hc⟩ := (hs'.ext he).at_int (by omega)
      have hcy' := hc j (by omega)
      have hyb := hY.at j (by omega)
      obtain ⟨y, hy⟩ : ∃ y, y = Y[j]'(by omega) := ⟨_, rfl⟩
      rw [← hy] at hcy' hyb
      have HY : Hid (Y.getD j 0 = y) := hidP (by rw [hy, List.getD_eq_getElem?_getD, List.getElem?_eq_getElem (by omega)]; rfl)
      clear hy hc
      have HTS := hidP (give_step (B := 4294967296) (P := B32 ^ j) (w := y) (cy := cy) (r := r) (E := val B32 ((E.drop i).take j)) (X := val B32 ((D.drop i).take j)) (Y := val B32 (Y.take j)) HV.out)
      go_wp2_with fail
      refine (bits_Add32_any r y cy _ (by omega) (by omega) hcy).mono ?_
      have hb1 : (r + y + cy) % 4294967296 < 4294967296 := Nat.mod_lt _ (by decide)
      have hb2 : (r + y + cy) / 4294967296 ≤ 1 := by omega
      generalize (r + y + cy) % 4294967296 = d at *
      generalize (r + y + cy) / 4294967296 = c2 at *
      rintro e w' ⟨rfl, rfl⟩
      go_wp2
      go_roundw
      case rel =>
        have hpw := HPW.out d
        refine ⟨j + 1, c2, E.set (i + j) d, by omega, by go_num, rfl, hb2, HST.out d, HEX.out.store HG.out _, HB.out.store, set_lt hE _ _ hb1, hpw.1, by have := hpw.2.1; rwa [Nat.add_assoc] at this, ?_⟩
        rw [hpw.2.2.1, hpw.2.2.2, val_take_snoc, HY.out, Nat.pow_succ]
        exact HTS.out
      case measure => simp only [intOf]; omega
    · obtain rfl : j = n := by omega
      have hv := HV.out
      rw [List.take_of_length_le (by omega : Y.length ≤ j)] at hv
      have HTS := hidP (give_step (B := 4294967296) (P := B32 ^ j) (w := 0) (cy := cy) (r := r) (E := val B32 ((E.drop i).take j)) (X := val B32 ((D.drop i).take j)) (Y := val B32 Y) hv)
      have hrd : ((r : Int) + (cy : Int)) % 4294967296 = (((r + 0 + cy) % 4294967296 : Nat) : Int) := by omega
      have hb1 : (r + 0 + cy) % 4294967296 < 4294967296 := Nat.mod_lt _ (by decide)
      have hb2 : (r + 0 + cy) / 4294967296 ≤ 1 := by omega
      generalize (r + 0 + cy) % 4294967296 = d at *
      generalize (r + 0 + cy) / 4294967296 = c2 at *
      clear hv
      go_wp2
      go_end0
      have hpw := HPW.out d
      refine ⟨rfl, E.set (i + j) d, c2, HST.out d, HEX.out.store HG.out _, HB.out.store, set_lt hE _ _ hb1, hpw.1, hpw.2.1, hb2, ?_⟩
      rw [hpw.2.2.1, hpw.2.2.2, Nat.pow_succ]
      have := HTS.out
      simp only [Nat.mul_zero, Nat.add_zero] at this
      exact this

end Go.Proofs.Ytcipcpbjkcpgdaa
