/- The document's bytes in figures (frisketref07), and the program's (figure). -/
import Derived.Test.YtbhjookpdmfdnaaDoorProg
import Derived.Test.YtbhjookpdmfdnaaDoorMem2
import Derived.Test.YtbhjookpdmfdnaaDoorD0
import Derived.Outline
import Derived.Lib.BitFns
import Derived.Laws.Rows
import Derived.Deep.DeepCutAuto
namespace Go.Proofs.YtbhjookpdmfdnaaDoor
set_option linter.unusedVariables false
open Go Go.RowKit

theorem T_u8 : SlT Tryd.prog 31 5 (.int .u8 0) 1 :=
  let ⟨i, h1, h2, h3, h4⟩ := info_parts (P := Tryd.prog) (e := 5) (z := .int .u8 0) (size := 1) (bytes := 1) (by kernel_rfl); ⟨Tryd.underlying31, i, h1, h2, h3, h4, rfl⟩

/-- 'string(b)'. -/
theorem str_of {w : World} {a : Option Addr} {n cap : Nat} {l : List Nat} (hs : Sl w a n cap (ints .u8 l)) (hl : ∀ x ∈ l, x ≤ 255) :
    (convert 31 9 (.slice a n cap)).run Tryd.prog w = .ok (.string (bytesOf l)) w := by
  have hlen := hs.int_len
  by_cases h0 : 0 < n
  · obtain ⟨b, off, rfl, hc⟩ := hs.at_int h0
    have := run_convert_bytes_back (P := Tryd.prog) w 31 9 5 ⟨b, off, none⟩ cap (l.map UInt8.ofNat) Tryd.underlying31 Tryd.underlying5 Tryd.underlying9 (fun j hj => by
      have hj' : j < l.length := by simpa using hj
      have hle := hl l[j] (List.getElem_mem hj')
      have e1 : ((((l.map UInt8.ofNat)[j]'hj).toNat : Nat) : Int) = (l[j] : Nat) := by simp; omega
      rw [e1, ← hc j hj']
      unfold Addr.add
      by_cases hz : j = 0
      · subst hz; simp
      · simp [hz])
    rw [List.length_map, hlen] at this
    exact this
  · obtain rfl : n = 0 := by omega
    obtain rfl : l = [] := List.eq_nil_of_length_eq_zero hlen
    cases a with
    | none => exact run_convert_bytes_nil w 31 5 Tryd.underlying31 Tryd.underlying5 0 cap 9 Tryd.underlying9
    | some a =>
      exact run_convert_bytes_back (P := Tryd.prog) w 31 9 5 a cap [] Tryd.underlying31 Tryd.underlying5 Tryd.underlying9 (fun j hj => by simp at hj)

set_option maxHeartbeats 400000 in
theorem r07_figure_any (n : Nat) (hn : n ≤ 15) (w : World) :
    Calls Tryd.prog 33 #[.int .i64 n] w fun e w' => e = .returned (.int .u8 ((fig n : Nat) : Int)) ∧ w = w' := by
  by_cases h : n < 10
  · have hf : fig n = 48 + n := if_pos h
    have HF := hidP hf; clear hf
    go_enter Tryd.func33, Tryd.ntmps33
    go_wp2
    go_ret
    exact ⟨ret_int (by rw [HF.out]; omega), rfl⟩
  · have hf : fig n = 87 + n := if_neg h
    have HF := hidP hf; clear hf
    go_enter Tryd.func33, Tryd.ntmps33
    go_wp2
    go_ret
    exact ⟨ret_int (by rw [HF.out]; omega), rfl⟩

set_option maxHeartbeats 1000000 in
theorem r07_Hex_any (a : Option Addr) (n cap : Nat) (l : List Nat) (w : World) (hs : Sl w a n cap (ints .u8 l)) (hl : ∀ x ∈ l, x ≤ 255) (hn : n ≤ 4398046511104) :
    Calls Tryd.prog 15 #[.slice a n cap] w fun e w' => e = .returned (.string (bytesOf (hexL l))) ∧ Ext w w' := by
  have hlen := hs.int_len
  have hcap := hs.2.1
  have hm := hs.2.2.1
  unfold maxLen at hm
  have HH := hexL_le l hl
  generalize hR : hexL l = R at *
  have HR := hidP hR; clear hR
  have HHL := hidP HH; clear HH
  have HL := hidP hl; clear hl
  go_enter Tryd.func15, Tryd.ntmps15
  go_wp2
  go_loopw [3, 4] (fun v i wr => ∃ (k : Nat) (D : List Nat), k ≤ n ∧ i = .int .i64 k ∧ wr.ownsRow w.heap.size 5 1 v (2 * k) (ints .u8 D) ∧ Ext w wr ∧ D ++ hexL (l.drop k) = R) (fun _ i _ => n - (intOf i).toNat)
  case atStart => exact ⟨0, [], by omega, rfl, by simpa [ints] using World.ownsRow_nil w w.heap.size 5 1, Ext.refl w, by simpa using HR.out⟩
  case round =>
    obtain ⟨k, D, hk, rfl, hown, he, hv⟩ := hrel
    have HV := hidP hv; clear hv
    by_cases h0 : k < n
    · obtain ⟨b, off, rfl, hc⟩ := (hs.ext he).at_int (by omega)
      have hck := hc k (by omega)
      have hx := HL.out l[k] (List.getElem_mem (by omega))
      have hcc : l.getD k 0 = l[k] := by rw [List.getD_eq_getElem?_getD, List.getElem?_eq_getElem (by omega)]; rfl
      generalize l[k] = c at *
      have HC := hidP hcc; clear hcc hc
      go_wp2
      refine wp_region_plan (R := Ext) (.q 0 (.q 1 (.q 2 (.q 3 (.q 4 (.q 5 (.q 6 (.q 8 (.q 9 (.q 10 (.q 11 (.q 12 (.q 13 (.l 7 (.l 14 (.l 15 (.b 16 (.q 17 .done)))))))))))))))))) (by kernel_rfl) (by kernel_rfl) (by kernel_rfl) (by kernel_rfl) Ext.refl (fun _ _ _ => Ext.trans) ?_
      have hcd : wr.drew.cell? ⟨b, off + k, none⟩ = some (.int .u8 (c : Int)) := by go_simp
      have hown1 := hown.drew
      have he1 := he.drew
      have hz := he.size
      generalize wr.drew = W1 at *
      have e1 : ((c : Int) / 16) = ((c / 16 : Nat) : Int) := by omega
      have e2 : ((c : Int) % 16) = ((c % 16 : Nat) : Int) := by omega
      have E1 := hidP e1; have E2 := hidP e2; clear e1 e2
      repeat (refine wpE_q (v := ?_) rfl rfl (fun u hu => ?_) ?_; rotate_left 1; (focus ((try have hcu := hu.cell' hcd); go_simp; (try go_bits); (try rfl))); simp only [Act.put, List.setIfInBounds_toArray, List.set_cons_zero, List.set_cons_succ])
      refine wpE_l rfl rfl (fun K hK => ?_)
      go_simp
      rw [E1.out]
      refine (r07_figure_any (c / 16) (by omega) _).mono ?_
      rintro e u ⟨rfl, rfl⟩
      refine hK.out _ _ (Ext.refl _) ?_
      clear hK K
      try simp only [Act.put, List.setIfInBounds_toArray, List.set_cons_zero, List.set_cons_succ]
      refine wpE_l rfl rfl (fun K hK => ?_)
      go_simp
      rw [E2.out]
      refine (r07_figure_any (c % 16) (by omega) _).mono ?_
      rintro e u ⟨rfl, rfl⟩
      refine hK.out _ _ (Ext.refl _) ?_
      clear hK K
      try simp only [Act.put, List.setIfInBounds_toArray, List.set_cons_zero, List.set_cons_succ]
      refine wpE_l rfl rfl (fun K hK => ?_)
      go_simp
      refine hK.out _ _ ((Ext.refl _).alloc _) ?_
      clear hK K
      refine wpE_b rfl rfl (fun K hK => ?_)
      refine wp_app T_u8 _ _ rfl (hown1.alloc _) (he1.alloc _) [.int .u8 ((fig (c / 16) : Nat) : Int), .int .u8 ((fig (c % 16) : Nat) : Int)] rfl rfl rfl ?_ (by simp [Value.oneCell']) (by omega) (by omega) ?_
      · intro j u hj
        match j, hj with
        | 0, hj => simp at hj; subst hj; go_simp
        | 1, hj => simp at hj; subst hj; go_simp
        | j + 2, hj => simp at hj
      intro v' w' hown' he'
      refine hK.out _ _ ?_
      clear hK K
      repeat (refine wpE_q (v := ?_) rfl rfl (fun u hu => ?_) ?_; rotate_left 1; (focus ((skip); go_simp; (try go_bits); (try rfl))); simp only [Act.put, List.setIfInBounds_toArray, List.set_cons_zero, List.set_cons_succ])
      refine wpE_done ?_
      have hown2 : w'.ownsRow w.heap.size 5 1 v' (2 * (k + 1)) (ints .u8 (D ++ [fig (c / 16), fig (c % 16)])) := by
        rw [ints_append]
        exact hown'
      clear hown' hown1 hown he he1
      go_wp2
      go_roundw
      case rel => exact ⟨k + 1, _, by omega, by go_num, hown2, he', hexL_step HV.out (by omega) HC.out⟩
      case measure => simp [intOf]; omega
    · have hD := hexL_end HV.out (by omega)
      have HD := hidP hD; clear hD
      obtain ⟨a', cap', rfl, hsl⟩ := Sl.of_owns hown
      have hcv := str_of hsl (by rw [← HD.out]; exact fun x hx => Nat.le_trans (HHL.out x hx) (by omega))
      go_wp2
      go_ret
      exact ⟨by rw [HD.out]; rfl, he⟩

theorem or_fig (x y : Nat) (hx : x ≤ 15) (hy : y ≤ 15) : bits .or .u8 ((x : Int) * 16) (y : Int) = 16 * (x : Int) + (y : Int) := by
  have h1 := u8_or_nat (x * 16) y (by omega) (by omega)
  have h2 : x * 16 ||| y = x * 16 + y := by
    have := Nat.shiftLeft_add_eq_or_of_lt (i := 4) (b := y) (by omega) x
    rw [Nat.shiftLeft_eq] at this
    exact this.symm
  rw [h2] at h1
  have e : (((x * 16 : Nat) : Nat) : Int) = (x : Int) * 16 := by omega
  rw [e] at h1
  rw [h1]
  omega
/-- The value of a figure, and whether it is one. -/
def valueR (c : Nat) : Value := .tuple #[.int .u8 (((digv c).getD 0 : Nat) : Int), .bool (digv c).isSome]

set_option maxHeartbeats 400000 in
theorem f_value_any (c : Nat) (hc : c ≤ 255) (w : World) :
    Calls Tryd.prog 32 #[.int .u8 c] w fun e w' => e = .returned (valueR c) ∧ w = w' := by
  rcases (by omega : (48 ≤ c ∧ c ≤ 57) ∨ (97 ≤ c ∧ c ≤ 102) ∨ (c < 48 ∨ (57 < c ∧ c < 97) ∨ 102 < c)) with h | h | h
  · have hf : digv c = some (c - 48) := if_pos h
    have HF := hidP hf; clear hf
    obtain ⟨h1, h2⟩ := h
    go_enter Tryd.func32, Tryd.ntmps32
    go_wp2
    go_ret2
    refine ⟨?_, rfl⟩
    unfold valueR
    rw [HF.out]
    simp
    omega
  · have hf : digv c = some (c - 87) := by unfold digv; rw [if_neg (by omega), if_pos h]
    have HF := hidP hf; clear hf
    obtain ⟨h1, h2⟩ := h
    go_enter Tryd.func32, Tryd.ntmps32
    go_wp2
    go_ret2
    refine ⟨?_, rfl⟩
    unfold valueR
    rw [HF.out]
    simp
    omega
  · have hf : digv c = none := by unfold digv; rw [if_neg (by omega), if_neg (by omega)]
    have HF := hidP hf; clear hf
    have HV : Hid (valueR c = .tuple #[.int .u8 0, .bool false]) := hidP (by unfold valueR; rw [HF.out]; rfl)
    go_enter Tryd.func32, Tryd.ntmps32
    go_wp2
    all_goals first | (exfalso; omega) | (go_ret2; exact ⟨by rw [HV.out]; rfl, rfl⟩)

set_option maxHeartbeats 1000000 in
theorem f_Hex_any (a : Option Addr) (n cap : Nat) (l : List Nat) (w : World) (hs : Sl w a n cap (ints .u8 l)) (hl : ∀ x ∈ l, x ≤ 255) (hn : n ≤ 4398046511104) (hF : ∀ i, i ≤ 15 → w.cell? ⟨0, i, none⟩ = some (.int .u8 ((fig i : Nat) : Int))) :
    Calls Tryd.prog 14 #[.slice a n cap] w fun e w' => e = .returned (.string (bytesOf (hexL l))) ∧ Ext w w' := by
  have hlen := hs.int_len
  have hcap := hs.2.1
  have hm := hs.2.2.1
  unfold maxLen at hm
  have HH := hexL_le l hl
  generalize hR : hexL l = R at *
  have HR := hidP hR; clear hR
  have HHL := hidP HH; clear HH
  have HL := hidP hl; clear hl
  have HF := hidP hF; clear hF
  go_enter Tryd.func14, Tryd.ntmps14
  go_wp2_with (at_make; refine wpList_make0 (W := w) (n := 2 * n) T_u8 rfl _ _ rfl rfl rfl (Ext.refl _) (by omega) (by omega) ?_; intro v' hown he)
  go_loopw [3, 12] (fun v i wr => ∃ (k : Nat) (D : List Nat), k ≤ n ∧ i = .int .i64 k ∧ wr.ownsRow w.heap.size 5 1 v (2 * k) (ints .u8 D) ∧ Ext w wr ∧ D ++ hexL (l.drop k) = R) (fun _ i _ => n - (intOf i).toNat)
  case atStart => exact ⟨0, [], by omega, rfl, by simpa [ints] using hown, he, by simpa using HR.out⟩
  case round =>
    clear hown he
    obtain ⟨k, D, hk, rfl, hown, he, hv⟩ := hrel
    have HV := hidP hv; clear hv
    by_cases h0 : k < n
    · obtain ⟨b, off, rfl, hc⟩ := (hs.ext he).at_int (by omega)
      have hck := hc k (by omega)
      have hx := HL.out l[k] (List.getElem_mem (by omega))
      have hcc : l.getD k 0 = l[k] := by rw [List.getD_eq_getElem?_getD, List.getElem?_eq_getElem (by omega)]; rfl
      generalize l[k] = c at *
      have HC := hidP hcc; clear hcc hc
      have hg1 := he.cell' (HF.out (c / 16) (by omega))
      have hg2 := he.cell' (HF.out (c % 16) (by omega))
      go_wp2
      refine wp_region_plan (R := Ext) (.q 0 (.q 1 (.q 2 (.q 3 (.q 4 (.q 5 (.q 6 (.q 7 (.q 8 (.l 9 (.b 10 (.q 11 .done)))))))))))) (by kernel_rfl) (by kernel_rfl) (by kernel_rfl) (by kernel_rfl) Ext.refl (fun _ _ _ => Ext.trans) ?_
      have hcd : wr.drew.cell? ⟨b, off + k, none⟩ = some (.int .u8 (c : Int)) := by go_simp
      have hh1 : wr.drew.cell? ⟨0, c / 16, none⟩ = some (.int .u8 ((fig (c / 16) : Nat) : Int)) := by go_simp
      have hh2 : wr.drew.cell? ⟨0, c % 16, none⟩ = some (.int .u8 ((fig (c % 16) : Nat) : Int)) := by go_simp
      have hown1 := hown.drew
      have he1 := he.drew
      have hz := he.size
      clear hg1 hg2 hck
      generalize wr.drew = W1 at *
      have e1 : ((c : Int) / 16) = ((c / 16 : Nat) : Int) := by omega
      have e2 : ((c : Int) % 16) = ((c % 16 : Nat) : Int) := by omega
      have E1 := hidP e1; have E2 := hidP e2; clear e1 e2
      have ex : c / 16 ≤ 15 := by omega
      have ey : c % 16 ≤ 15 := by omega
      repeat (refine wpE_q (v := ?_) rfl rfl (fun u hu => ?_) ?_; rotate_left 1; (focus ((try (have hcu := hu.cell' hcd; have hu1 := hu.cell' hh1; have hu2 := hu.cell' hh2)); go_simp; (try go_bits); (try rfl))); simp only [Act.put, List.setIfInBounds_toArray, List.set_cons_zero, List.set_cons_succ])

      rw [E1.out]
      generalize c / 16 = x at *
      refine wpE_q (v := .pointer (some ⟨0, x, none⟩)) rfl rfl (fun u hu => ?_) ?_
      · go_simp
        intro _; exfalso; omega
      simp only [Act.put, List.setIfInBounds_toArray, List.set_cons_zero, List.set_cons_succ]
      repeat (refine wpE_q (v := ?_) rfl rfl (fun u hu => ?_) ?_; rotate_left 1; (focus ((try (have hcu := hu.cell' hcd; have hu1 := hu.cell' hh1; have hu2 := hu.cell' hh2)); go_simp; (try go_bits); (try rfl))); simp only [Act.put, List.setIfInBounds_toArray, List.set_cons_zero, List.set_cons_succ])

      rw [E2.out]
      generalize c % 16 = y at *
      refine wpE_q (v := .pointer (some ⟨0, y, none⟩)) rfl rfl (fun u hu => ?_) ?_
      · go_simp
        intro _; exfalso; omega
      simp only [Act.put, List.setIfInBounds_toArray, List.set_cons_zero, List.set_cons_succ]
      repeat (refine wpE_q (v := ?_) rfl rfl (fun u hu => ?_) ?_; rotate_left 1; (focus ((try (have hcu := hu.cell' hcd; have hu1 := hu.cell' hh1; have hu2 := hu.cell' hh2)); go_simp; (try go_bits); (try rfl))); simp only [Act.put, List.setIfInBounds_toArray, List.set_cons_zero, List.set_cons_succ])

      refine wpE_l rfl rfl (fun K hK => ?_)
      go_simp
      refine hK.out _ _ ((Ext.refl _).alloc _) ?_
      clear hK K
      refine wpE_b rfl rfl (fun K hK => ?_)
      refine wp_app T_u8 _ _ rfl (hown1.alloc _) (he1.alloc _) [.int .u8 ((fig x : Nat) : Int), .int .u8 ((fig y : Nat) : Int)] rfl rfl rfl ?_ (by simp [Value.oneCell']) (by omega) (by omega) ?_
      · intro j u hj
        match j, hj with
        | 0, hj => simp at hj; subst hj; go_simp
        | 1, hj => simp at hj; subst hj; go_simp
        | j + 2, hj => simp at hj
      intro v' w' hown' he'
      refine hK.out _ _ ?_
      clear hK K
      repeat (refine wpE_q (v := ?_) rfl rfl (fun u hu => ?_) ?_; rotate_left 1; (focus ((try (have hcu := hu.cell' hcd; have hu1 := hu.cell' hh1; have hu2 := hu.cell' hh2)); go_simp; (try go_bits); (try rfl))); simp only [Act.put, List.setIfInBounds_toArray, List.set_cons_zero, List.set_cons_succ])

      refine wpE_done ?_
      have hown2 : w'.ownsRow w.heap.size 5 1 v' (2 * (k + 1)) (ints .u8 (D ++ [fig x, fig y])) := by
        rw [ints_append]
        exact hown'
      have HV2 : Hid ((D ++ [fig x, fig y]) ++ hexL (l.drop (k + 1)) = R) := hidP (by
        have := hexL_step HV.out (by omega) HC.out
        have q1 : c / 16 = x := by have := E1.out; omega
        have q2 : c % 16 = y := by have := E2.out; omega
        rw [q1, q2] at this
        exact this)
      clear hown' hown1 hown he he1
      go_wp2
      go_roundw
      case rel => exact ⟨k + 1, _, by omega, by go_num, hown2, he', HV2.out⟩
      case measure => simp [intOf]; omega
    · have hD := hexL_end HV.out (by omega)
      have HD := hidP hD; clear hD
      obtain ⟨a', cap', rfl, hsl⟩ := Sl.of_owns hown
      have hcv := str_of hsl (by rw [← HD.out]; exact fun x hx => Nat.le_trans (HHL.out x hx) (by omega))
      go_wp2
      go_ret
      exact ⟨by rw [HD.out]; rfl, he⟩

end Go.Proofs.YtbhjookpdmfdnaaDoor
