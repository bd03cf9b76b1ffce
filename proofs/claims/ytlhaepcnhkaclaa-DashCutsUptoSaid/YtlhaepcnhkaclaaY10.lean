/- Dashes, in the document: patterns, and the point at a distance. -/
import Derived.Test.YtlhaepcnhkaclaaY6
namespace Go.Proofs.Ytlhaepcnhkaclaa
set_option linter.unusedVariables false
set_option linter.unusedSimpArgs false
open Go Go.RowKit

theorem sl_k1 {w : World} {a : Option Addr} {n c : Nat} {xs : List Value} (h : Sl w a n c xs) : SlK 1 w a n c xs := ⟨by rw [Nat.mul_one]; exact h.1, h.2.1, h.2.2.1, h.2.2.2⟩
theorem k1_sl {w : World} {a : Option Addr} {n c : Nat} {xs : List Value} (h : SlK 1 w a n c xs) : Sl w a n c xs := ⟨by have := h.1; rwa [Nat.mul_one] at this, h.2.1, h.2.2.1, h.2.2.2⟩
theorem T_int : SlTK Try.prog 25 3 1 (.int .i64 0) 8 :=
  let ⟨i, h1, h2, h3, h4⟩ := info_parts (P := Try.prog) (e := 3) (z := .int .i64 0) (size := 1) (bytes := 8) (by kernel_rfl); ⟨Try.underlying25, by omega, i, h1, h2, h3, h4, rfl⟩
theorem izs_one (l : List Int) : ∀ u ∈ izs l, u.oneCell' = true := by
  intro u hu
  simp only [izs, List.mem_map] at hu
  obtain ⟨x, _, rfl⟩ := hu
  rfl
def patD (pat : List Int) : List Int := if pat.length % 2 = 1 then pat ++ pat else pat
theorem patD_sum (pat : List Int) : sumZ (patD pat) = totD pat := by
  unfold patD totD
  split
  · rw [sumZ_append]; omega
  · rfl
theorem patD_at (pat : List Int) (k : Nat) : (patD pat).getD (k % (patD pat).length) 0 = patAt pat k := by
  unfold patD patAt
  split
  · next h =>
    have hl : 0 < pat.length := by omega
    rw [List.length_append, List.getD_eq_getElem?_getD, List.getD_eq_getElem?_getD]
    congr 1
    have h1 : k % (pat.length + pat.length) % pat.length = k % pat.length := Nat.mod_mod_of_dvd k ⟨2, by omega⟩
    have h2 : k % (pat.length + pat.length) < pat.length + pat.length := Nat.mod_lt _ (by omega)
    generalize k % (pat.length + pat.length) = m at *
    rcases Nat.lt_or_ge m pat.length with h3 | h3
    · rw [List.getElem?_append_left h3, ← h1, Nat.mod_eq_of_lt h3]
    · have e : m - pat.length = m % pat.length := by rw [Nat.mod_eq_sub_mod h3, Nat.mod_eq_of_lt (by omega)]
      rw [List.getElem?_append_right h3, e, h1]
  · rfl

set_option maxRecDepth 100000 in
set_option maxHeartbeats 4000000 in
theorem dr_May (a : Option Addr) (n cap : Nat) (l : List Int) (ph : Int) (w : World) (h : Sl w a n cap (izs l)) :
    Calls Try.prog 16 #[.slice a n cap, .int .i64 ph] w fun e w' => e = .returned (.bool (mayD l ph)) ∧ Ext w w' := by
  have H := hidP h
  have HLN := hidP h.z_len
  have hcap : n ≤ maxLen := Nat.le_trans h.2.1 h.2.2.1
  unfold maxLen at hcap
  clear h
  by_cases hok : n ≤ 8 ∧ 0 ≤ ph ∧ ph ≤ 8388607
  · have HM : Hid (mayD l ph = l.all dash1) := hidP (by unfold mayD; rw [HLN.out, decide_eq_true hok, Bool.true_and])
    generalize mayD l ph = r at *
    have HE0 : Hid ((l.take 0).all dash1 = true) := hidP (by simp)
    obtain ⟨o1, o2, o3⟩ := hok
    go_enter Try.func16, Try.ntmps16
    go_wp2_with fail
    go_loopw [5, 6] (fun ok iv wr => ∃ (j : Nat) (b : Bool), j ≤ n ∧ iv = .int .i64 (j : Int) ∧ ok = .bool b ∧ Hid ((l.take j).all dash1 = b) ∧ Ext w wr) (fun _ iv _ => n - (intOf iv).toNat)
    case atStart => exact ⟨0, true, by omega, rfl, rfl, HE0, Ext.refl _⟩
    case round =>
      clear HE0
      obtain ⟨j, b, hj, rfl, rfl, HJ, HE⟩ := hrel
      by_cases hlt : j < n
      · obtain ⟨g, off, rfl, hc⟩ := (H.out.ext HE).z_at (by omega)
        have hjl : j < l.length := by rw [HLN.out]; exact hlt
        have h1 := hc j hjl
        have HT1 := hidP (all_take (f := dash1) hjl)
        clear hc
        generalize l[j] = x at *
        cases b
        · have HR : Hid ((l.take (j + 1)).all dash1 = false) := hidP (by rw [HT1.out, HJ.out]; rfl)
          clear HT1
          go_wp2_with fail
          go_roundw
          case rel => exact ⟨j + 1, false, by omega, by go_num, rfl, HR, HE⟩
          case measure => simp only [intOf]; omega
        · rcases (by omega : x < 1 ∨ (1 ≤ x ∧ 8388607 < x) ∨ (1 ≤ x ∧ x ≤ 8388607)) with x1 | ⟨x1, x2⟩ | ⟨x1, x2⟩
          · have HR : Hid ((l.take (j + 1)).all dash1 = false) := hidP (by rw [HT1.out, HJ.out, Bool.true_and]; exact decide_eq_false (by omega))
            clear HT1
            go_wp2_with fail
            go_roundw
            case rel => exact ⟨j + 1, false, by omega, by go_num, rfl, HR, HE⟩
            case measure => simp only [intOf]; omega
          · have HR : Hid ((l.take (j + 1)).all dash1 = false) := hidP (by rw [HT1.out, HJ.out, Bool.true_and]; exact decide_eq_false (by omega))
            have hd : decide (x ≤ 8388607) = false := decide_eq_false (by omega)
            clear HT1
            go_wp2_with fail
            go_roundw
            case rel => exact ⟨j + 1, false, by omega, by go_num, rfl, HR, HE⟩
            case measure => simp only [intOf]; omega
          · have HR : Hid ((l.take (j + 1)).all dash1 = true) := hidP (by rw [HT1.out, HJ.out, Bool.true_and]; exact decide_eq_true (by omega))
            clear HT1
            go_wp2_with fail
            go_roundw
            case rel => exact ⟨j + 1, true, by omega, by go_num, rfl, HR, HE⟩
            case measure => simp only [intOf]; omega
      · obtain rfl : j = n := by omega
        have HR : Hid (r = b) := hidP (by have := HJ.out; rw [List.take_of_length_le (by rw [HLN.out]; omega)] at this; rw [HM.out, this])
        clear HJ
        go_wp2_with fail
        go_ret
        exact ⟨congrArg (fun x => Ending.returned (Value.bool x)) HR.out.symm, HE⟩
  · have HR : Hid (mayD l ph = false) := hidP (by unfold mayD; rw [HLN.out, decide_eq_false hok]; rfl)
    generalize mayD l ph = r at *
    rcases (by omega : 8 < n ∨ (n ≤ 8 ∧ ph < 0) ∨ (n ≤ 8 ∧ 0 ≤ ph ∧ 8388607 < ph)) with o1 | ⟨o1, o2⟩ | ⟨o1, o2, o3⟩ <;> clear hok
    all_goals (
      try (have hd : decide (ph ≤ 8388607) = false := decide_eq_false (by omega))
      go_enter Try.func16, Try.ntmps16
      go_wp2_with fail
      go_loopw [5, 6] (fun ok iv wr => ∃ (j : Nat), j ≤ n ∧ iv = .int .i64 (j : Int) ∧ ok = .bool false ∧ Ext w wr) (fun _ iv _ => n - (intOf iv).toNat)
      case atStart => exact ⟨0, by omega, rfl, rfl, Ext.refl _⟩
      case round =>
        obtain ⟨j, hj, rfl, rfl, HE⟩ := hrel
        by_cases hlt : j < n
        · go_wp2_with fail
          go_roundw
          case rel => exact ⟨j + 1, by omega, by go_num, rfl, HE⟩
          case measure => simp only [intOf]; omega
        · obtain rfl : j = n := by omega
          go_wp2_with fail
          go_ret
          exact ⟨congrArg (fun x => Ending.returned (Value.bool x)) HR.out.symm, HE⟩)
/-- The call hands back a row of ints of its own. -/
def RetZ (w : World) (l : List Int) (e : Ending) (w' : World) : Prop := ∃ a n cap, e = .returned (.slice a n cap) ∧ Sl w' a n cap (izs l) ∧ Ext w w'

set_option maxRecDepth 100000 in
set_option maxHeartbeats 4000000 in
theorem dr_Pattern (a : Option Addr) (n cap : Nat) (l : List Int) (w : World) (h : Sl w a n cap (izs l)) (hn : n ≤ 4194304) :
    Calls Try.prog 31 #[.slice a n cap] w (RetZ w (patD l)) := by
  have H := hidP h
  have HLN := hidP h.z_len
  clear h
  have hm : ((n : Int)).tmod 2 = ((n % 2 : Nat) : Int) := by rw [Int.tmod_eq_emod_of_nonneg (by omega)]; omega
  rcases (by omega : n % 2 = 0 ∨ n % 2 = 1) with h2 | h2
  · rw [h2] at hm
    have hm0 : ((n : Int)).tmod 2 = 0 := hm
    have HR : Hid (patD l = l) := hidP (if_neg (by rw [HLN.out, h2]; decide))
    generalize patD l = r at *
    clear hm h2
    go_enter Try.func31, Try.ntmps31
    go_wp2_with (at_builtin; refine wpList_appAll (B := w.heap.size) T_int rfl _ _ rfl (Nat.le_refl _) rfl rfl (sl_k1 H.out) (izs_one l) (by omega) (by omega) ?_; intro v2 w2 hown2 hlow2; obtain ⟨a2, c2, rfl, hs2⟩ := SlK.of_owns hown2)
    go_ret
    exact ⟨_, _, _, rfl, by rw [HR.out]; exact k1_sl hs2, hlow2⟩
  · rw [h2] at hm
    have hm0 : ((n : Int)).tmod 2 = 1 := hm
    have HR : Hid (patD l = l ++ l) := hidP (if_pos (by rw [HLN.out, h2]))
    generalize patD l = r at *
    have hn0 : 0 < n := by omega
    clear hm h2
    obtain ⟨b, off, rfl, hc⟩ := H.out.2.2.2 hn0
    have HC := hidP hc
    clear hc
    go_enter Try.func31, Try.ntmps31
    go_upto_region 3 with (at_builtin; refine wpList_appAll (B := w.heap.size) T_int rfl _ _ rfl (Nat.le_refl _) rfl rfl (sl_k1 H.out) (izs_one l) (by omega) (by omega) ?_; intro v2 w2 hown2 hlow2; obtain ⟨a2, c2, rfl, hs2⟩ := SlK.of_owns hown2)
    have HX : Ext w w2 := hlow2
    go_wp2_with (at_builtin; refine wpList_plain rfl fun _ hk => wp_appB T_int _ _ rfl hown2 HX.size (m := n) (izs l) rfl rfl (by rw [izs_len, HLN.out, Nat.mul_one]) (fun j u hj => by rw [show (⟨b, off, none⟩ : Addr).add j = ⟨b, off + j, none⟩ by unfold Addr.add; by_cases hz : j = 0 <;> simp [hz]]; exact HX.cell' (HC.out j u hj)) (izs_one l) (by omega) (by omega) (fun v3 w3 hown3 hlow3 => hk _ _ ?_); obtain ⟨a3, c3, rfl, hs3⟩ := SlK.of_owns hown3)
    go_ret
    exact ⟨_, _, _, rfl, by rw [HR.out, izs_append]; exact k1_sl hs3, Below.trans HX hlow3⟩

set_option maxRecDepth 100000 in
set_option maxHeartbeats 4000000 in
theorem dr_Total (a : Option Addr) (n cap : Nat) (l : List Int) (w : World) (h : Sl w a n cap (izs l)) (hn : n ≤ 8) (hl : ∀ x ∈ l, 1 ≤ x ∧ x ≤ 8388607) :
    Calls Try.prog 19 #[.slice a n cap] w fun e w' => e = .returned (.int .i64 (totD l)) ∧ Ext w w' := by
  have hP := dr_Pattern a n cap l w h (by omega)
  have hlen : (patD l).length ≤ 16 := by
    have := h.z_len
    unfold patD
    split
    · rw [List.length_append]; omega
    · omega
  have hl2 : ∀ x ∈ patD l, 1 ≤ x ∧ x ≤ 8388607 := fun x hx => by
    unfold patD at hx
    split at hx
    · rcases List.mem_append.1 hx with hx | hx <;> exact hl x hx
    · exact hl x hx
  have HT : Hid (totD l = sumZ (patD l)) := hidP (patD_sum l).symm
  generalize totD l = tot at *
  generalize patD l = L at *
  have HB : Hid (∀ j, 0 ≤ sumZ (L.take j) ∧ sumZ (L.take j) ≤ 134217712) := hidP (fun j => by
    have := sumZ_bd (l := L.take j) (fun x hx => hl2 x (List.mem_of_mem_take hx))
    have h3 : (L.take j).length ≤ L.length := List.length_take_le' _ _
    omega)
  have HS := hidP (fun (j : Nat) (hj : j < L.length) => sumZ_take hj)
  have HX : Hid (∀ j (hj : j < L.length), 1 ≤ L[j] ∧ L[j] ≤ 8388607) := hidP (fun j hj => hl2 _ (List.getElem_mem hj))
  have HP := hidP hP
  clear h hl hl2 hP
  go_enter Try.func19, Try.ntmps19
  go_wp2_with fail
  refine HP.out.mono ?_
  rintro e u1 ⟨a1, n1, c1, rfl, hs1, HE⟩
  have hn1 : n1 ≤ 16 := by rw [← hs1.z_len]; exact hlen
  have HLN := hidP hs1.z_len
  have H1 := hidP hs1
  clear hs1 hlen
  go_wp2_with fail
  go_loopw [3, 5] (fun sv iv wr => ∃ (j : Nat) (s : Int), j ≤ n1 ∧ iv = .int .i64 (j : Int) ∧ sv = .int .i64 s ∧ Hid (sumZ (L.take j) = s) ∧ 0 ≤ s ∧ s ≤ 134217712 ∧ Ext u1 wr) (fun _ iv _ => n1 - (intOf iv).toNat)
  case atStart => exact ⟨0, 0, by omega, rfl, rfl, hidP rfl, by omega, by omega, Ext.refl _⟩
  case round =>
    obtain ⟨j, s, hj, rfl, rfl, HJ, s1, s2, HE2⟩ := hrel
    by_cases hlt : j < n1
    · obtain ⟨g, off, rfl, hc⟩ := (H1.out.ext HE2).z_at (by omega)
      have hjl : j < L.length := by rw [HLN.out]; exact hlt
      have h1 := hc j hjl
      have hst := HS.out j hjl
      have hbd := HB.out (j + 1)
      have hxb := HX.out j hjl
      rw [hst, HJ.out] at hbd
      rw [HJ.out] at hst
      have HST := hidP hst
      clear hc hst
      generalize L[j] = x at *
      obtain ⟨b1, b2⟩ := hbd
      obtain ⟨b3, b4⟩ := hxb
      go_wp2_with fail
      go_roundw
      case rel => exact ⟨j + 1, _, by omega, by go_num, rfl, HST, b1, b2, HE2⟩
      case measure => simp only [intOf]; omega
    · obtain rfl : j = n1 := by omega
      have HR : Hid (tot = s) := hidP (by have := HJ.out; rw [List.take_of_length_le (by rw [HLN.out]; omega)] at this; rw [HT.out, this])
      clear HJ HB HS HX
      go_wp2_with fail
      go_ret
      exact ⟨congrArg (fun x => Ending.returned (Value.int .i64 x)) HR.out.symm, HE.trans HE2⟩

end Go.Proofs.Ytlhaepcnhkaclaa
