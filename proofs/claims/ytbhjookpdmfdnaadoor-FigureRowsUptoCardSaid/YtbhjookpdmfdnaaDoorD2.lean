/- Bytes of figures: the program's Unhex and the document's. -/
import Derived.Test.YtbhjookpdmfdnaaDoorD1
namespace Go.Proofs.YtbhjookpdmfdnaaDoor
set_option linter.unusedVariables false
open Go Go.RowKit

/-- What Unhex answers. -/
def UnhexR (w : World) (r : Option (List Nat)) (e : Ending) (w' : World) : Prop :=
  match r with
  | some m => ∃ a n cap, e = .returned (.tuple #[.slice a n cap, .int .i64 0]) ∧ Sl w' a n cap (ints .u8 m) ∧ Ext w w'
  | none => e = .returned (.tuple #[.slice none 0 0, .int .i64 3]) ∧ Ext w w'

set_option maxHeartbeats 1000000 in
theorem f_Unhex_any (s : ByteArray) (w : World) (hn : s.size ≤ 8796093022208) :
    Calls Tryd.prog 12 #[.string s] w (UnhexR w (unhexL (natsOf s))) := by
  have hlen := natsOf_len s
  have hle := natsOf_le s
  have hat := natsOf_at s
  generalize hR : unhexL (natsOf s) = R at *
  have HR := hidP hR; clear hR
  have HLE := hidP hle; clear hle
  have HAT := hidP hat; clear hat
  have HLEN := hidP hlen; clear hlen
  obtain ⟨m, hm | hm⟩ : ∃ m, s.size = 2 * m + 1 ∨ s.size = 2 * m := ⟨s.size / 2, by omega⟩
  · have HM := hidP hm
    have HN : Hid (R = none) := hidP (by rw [← HR.out]; exact unhexL_odd _ (by rw [HLEN.out]; omega))
    have hz : (((s.size : Int) % 2) == 0) = false := by rw [hm]; simp
    clear hm
    go_enter Tryd.func12, Tryd.ntmps12
    go_wp2
    go_ret2
    rw [HN.out]
    exact ⟨rfl, Ext.refl _⟩
  · have HM := hidP hm
    have hz : (((s.size : Int) % 2) == 0) = true := by rw [hm]; simp
    have hz2 : (s.size : Int) / 2 = (m : Int) := by rw [hm]; omega
    clear hm
    go_enter Tryd.func12, Tryd.ntmps12
    go_wp2_with (at_make; refine wpList_make0 (W := w) (n := m) T_u8 rfl _ _ rfl rfl rfl (Ext.refl _) (by have := HM.out; omega) (by omega) ?_; intro v' hown he)
    go_loopw [4, 5] (fun v i wr => ∃ (k : Nat) (D : List Nat), k ≤ m ∧ i = .int .i64 ((2 * k : Nat) : Int) ∧ wr.ownsRow w.heap.size 5 1 v k (ints .u8 D) ∧ Ext w wr ∧ (unhexL ((natsOf s).drop (2 * k))).map (D ++ ·) = R) (fun _ i _ => 2 * m - (intOf i).toNat)
    case atStart => exact ⟨0, [], by omega, rfl, by simpa [ints] using hown, he, by rw [← HR.out]; simp⟩
    case round =>
      clear hown he
      obtain ⟨k, D, hk, rfl, hown, he, hv⟩ := hrel
      have HV := hidP hv; clear hv
      by_cases h0 : k < m
      · have h1 : 2 * k < s.size := by have := HM.out; omega
        have h2 : 2 * k + 1 < s.size := by have := HM.out; omega
        have hstep := unhexL_step HV.out (by rw [HLEN.out]; omega) (HAT.out (2 * k) h1) (HAT.out (2 * k + 1) h2)
        have hpv : pairv s[2 * k].toNat s[2 * k + 1].toNat = match digv s[2 * k].toNat, digv s[2 * k + 1].toNat with | some x, some y => some (16 * x + y) | _, _ => none := rfl
        have hb1 : s[2 * k].toNat ≤ 255 := by have := s[2 * k].toNat_lt; omega
        have hb2 : s[2 * k + 1].toNat ≤ 255 := by have := s[2 * k + 1].toNat_lt; omega
        have HS := hidP hstep; clear hstep
        have HP := hidP hpv; clear hpv
        go_wp2_with fail
        refine (f_value_any s[2 * k].toNat hb1 _).mono ?_
        rintro e w' ⟨rfl, rfl⟩
        cases hA : digv s[2 * k].toNat with
        | none =>
          have HN : Hid (R = none) := hidP (by have h := HS.out; rw [HP.out, hA] at h; exact h)
          simp only [valueR, hA, Option.getD, Option.isSome]
          go_wp2_with fail
          refine (f_value_any s[2 * k + 1].toNat hb2 _).mono ?_
          rintro e w' ⟨rfl, rfl⟩
          simp only [valueR]
          generalize (digv s[2 * k + 1].toNat).isSome = bb
          generalize (digv s[2 * k + 1].toNat).getD 0 = vv
          go_wp2_with fail
          go_ret2
          rw [HN.out]
          exact ⟨rfl, he⟩
        | some x =>
          have hx := digv_le hA
          simp only [valueR, hA, Option.getD, Option.isSome]
          go_wp2_with fail
          refine (f_value_any s[2 * k + 1].toNat hb2 _).mono ?_
          rintro e w' ⟨rfl, rfl⟩
          cases hB : digv s[2 * k + 1].toNat with
          | none =>
            have HN : Hid (R = none) := hidP (by have h := HS.out; rw [HP.out, hA, hB] at h; exact h)
            simp only [valueR, hB, Option.getD, Option.isSome]
            go_wp2_with fail
            go_ret2
            rw [HN.out]
            exact ⟨rfl, he⟩
          | some y =>
            have hy := digv_le hB
            have HN : Hid ((unhexL ((natsOf s).drop (2 * (k + 1)))).map ((D ++ [16 * x + y]) ++ ·) = R) := hidP (by have h := HS.out; rw [HP.out, hA, hB] at h; exact h)
            simp only [valueR, hB, Option.getD, Option.isSome]
            clear hA hB
            have h8 := or_fig x y hx hy
            have hmm : m ≤ 8796093022208 := by have := HM.out; omega
            go_wp2_with (at_builtin; refine wpList_app1 T_u8 rfl _ _ rfl hown he _ rfl rfl rfl (by omega) (by omega) ?_; intro v' w' hown' he')
            go_roundw
            case rel => exact ⟨k + 1, D ++ [16 * x + y], by omega, by go_num, by rw [ints_append]; exact hown', he', HN.out⟩
            case measure => simp only [intOf]; omega
      · have hD := unhexL_end HV.out (by rw [HLEN.out, HM.out]; omega)
        have HD := hidP hD; clear hD
        obtain rfl : k = m := by omega
        obtain ⟨a', cap', rfl, hsl⟩ := Sl.of_owns hown
        have hq : s.size ≤ 2 * k := by rw [HM.out]; omega
        go_wp2
        go_ret2
        rw [HD.out]
        exact ⟨_, _, _, rfl, hsl, he⟩

/-- What the search knows when the numbers below n are seen. -/
def Found (P : Option Nat) (D : List Nat) (n : Nat) (f : Bool) (E : List Nat) : Prop :=
  (f = true ∧ ∃ v, P = some v ∧ v < n ∧ E = D ++ [v]) ∨ (f = false ∧ E = D ∧ ∀ v, P = some v → n ≤ v)

theorem Found.skip {P : Option Nat} {D E : List Nat} {n : Nat} {f : Bool} (h : Found P D n f E) (hn : P ≠ some n) : Found P D (n + 1) f E := by
  rcases h with ⟨rfl, v, hv, hlt, rfl⟩ | ⟨rfl, rfl, hv⟩
  · exact .inl ⟨rfl, v, hv, by omega, rfl⟩
  · refine .inr ⟨rfl, rfl, fun v h => ?_⟩
    have := hv v h
    have : v ≠ n := fun he => hn (by rw [h, he])
    omega
theorem Found.hit {P : Option Nat} {D E : List Nat} {n : Nat} {f : Bool} (h : Found P D n f E) (hn : P = some n) : Found P D (n + 1) true (E ++ [n]) ∧ f = false ∧ E = D := by
  rcases h with ⟨rfl, v, hv, hlt, rfl⟩ | ⟨rfl, rfl, hv⟩
  · rw [hn] at hv; cases hv; omega
  · exact ⟨.inl ⟨rfl, n, hn, by omega, rfl⟩, rfl, rfl⟩
theorem Found.len {P : Option Nat} {D E : List Nat} {n : Nat} {f : Bool} (h : Found P D n f E) : E.length ≤ D.length + 1 := by
  rcases h with ⟨rfl, v, hv, hlt, rfl⟩ | ⟨rfl, rfl, hv⟩ <;> simp

set_option maxRecDepth 100000 in
set_option maxHeartbeats 2000000 in
theorem r07_Unhex_any (s : ByteArray) (w : World) (hn : s.size ≤ 8796093022208) :
    Calls Tryd.prog 13 #[.string s] w (UnhexR w (unhexL (natsOf s))) := by
  have hlen := natsOf_len s
  have hle := natsOf_le s
  have hat := natsOf_at s
  generalize hR : unhexL (natsOf s) = R at *
  have HR := hidP hR; clear hR
  have HLE := hidP hle; clear hle
  have HAT := hidP hat; clear hat
  have HLEN := hidP hlen; clear hlen
  obtain ⟨m, hm | hm⟩ : ∃ m, s.size = 2 * m + 1 ∨ s.size = 2 * m := ⟨s.size / 2, by omega⟩
  · have HM := hidP hm
    have HN : Hid (R = none) := hidP (by rw [← HR.out]; exact unhexL_odd _ (by rw [HLEN.out]; omega))
    have hz : (((s.size : Int) % 2) == 1) = true := by rw [hm]; simp
    clear hm
    go_enter Tryd.func13, Tryd.ntmps13
    go_wp2
    go_ret2
    rw [HN.out]
    exact ⟨rfl, Ext.refl _⟩
  · have HM := hidP hm
    have hz : (((s.size : Int) % 2) == 1) = false := by rw [hm]; simp
    clear hm
    have hmm : m ≤ 8796093022208 := by have := HM.out; omega
    go_enter Tryd.func13, Tryd.ntmps13
    go_wp2_with fail
    go_loopw [4, 5] (fun v i wr => ∃ (k : Nat) (D : List Nat), k ≤ m ∧ i = .int .i64 (2 * (k : Int)) ∧ wr.ownsRow w.heap.size 5 1 v k (ints .u8 D) ∧ Ext w wr ∧ (unhexL ((natsOf s).drop (2 * k))).map (D ++ ·) = R) (fun _ i _ => 2 * m - (intOf i).toNat)
    case atStart => exact ⟨0, [], by omega, rfl, by simpa [ints] using World.ownsRow_nil w w.heap.size 5 1, Ext.refl w, by rw [← HR.out]; simp⟩
    case round =>
      obtain ⟨k, D, hk, rfl, hown, he, hv⟩ := hrel
      have HV := hidP hv; clear hv
      by_cases h0 : k < m
      · have h1 : 2 * k < s.size := by have := HM.out; omega
        have h2 : 2 * k + 1 < s.size := by have := HM.out; omega
        have h1i : 2 * (k : Int) < (s.size : Int) := by omega
        have h2i : 2 * (k : Int) + 1 < (s.size : Int) := by omega
        have hDk : D.length = k := by have := hown.1; rw [ints_len] at this; omega
        have HDK := hidP hDk; clear hDk
        have hstep := unhexL_step HV.out (by rw [HLEN.out]; omega) (HAT.out (2 * k) h1) (HAT.out (2 * k + 1) h2)
        have hb1 : s[2 * k].toNat ≤ 255 := by have := s[2 * k].toNat_lt; omega
        have hb2 : s[2 * k + 1].toNat ≤ 255 := by have := s[2 * k + 1].toNat_lt; omega
        have HS := hidP hstep; clear hstep
        have hpi := fun n (h : n ≤ 255) => pairv_iff (a := s[2 * k].toNat) (b := s[2 * k + 1].toNat) h
        have HPI := hidP hpi; clear hpi
        go_wp2_with fail
        obtain ⟨wo, rfl⟩ : ∃ wo, wo = wr := ⟨_, rfl⟩
        go_loopw [4, 6, 7] (fun v f i wr => ∃ (n : Nat) (fb : Bool) (q : Nat) (E : List Nat), n ≤ 256 ∧ i = .int .i64 (n : Int) ∧ f = .bool fb ∧ wr.ownsRow w.heap.size 5 1 v q (ints .u8 E) ∧ Ext w wr ∧ Found (pairv s[2 * k].toNat s[2 * k + 1].toNat) D n fb E) (fun _ _ i _ => 256 - (intOf i).toNat)
        case atStart => exact ⟨0, false, k, D, by omega, rfl, rfl, hown, he, .inr ⟨rfl, rfl, fun v _ => Nat.zero_le _⟩⟩
        case round =>
          clear hown he
          obtain ⟨n, fb, q, E, hn2, rfl, rfl, hown, he, hf⟩ := hrel
          have HF := hidP hf; clear hf
          have hEq : E.length = q := by have := hown.1; rw [ints_len] at this; omega
          have hqb : q ≤ k + 1 := by have := HF.out.len; have := HDK.out; omega
          have HEQ := hidP hEq; clear hEq
          by_cases h5 : n < 256
          · have hI := HPI.out n (by omega)
            have e1 : ((n : Int) / 16) = ((n / 16 : Nat) : Int) := by omega
            have e2 : ((n : Int) % 16) = ((n % 16 : Nat) : Int) := by omega
            have E1 := hidP e1; have E2 := hidP e2; clear e1 e2
            have HI := hidP hI; clear hI
            go_upto_region 11 with fail
            have hown1 := hown.drew
            have he1 := he.drew
            refine wp_region_plan (R := Ext) (.q 0 (.q 1 (.q 3 (.q 4 (.q 5 (.l 2 (.q 6 (.q 7 (.q 8 (.q 9 (.q 11 (.q 12 (.q 13 (.q 14 (.l 10 (.q 15 (.q 16 .done))))))))))))))))) (by kernel_rfl) (by kernel_rfl) (by kernel_rfl) (by kernel_rfl) Ext.refl (fun _ _ _ => Ext.trans) ?_
            clear hown he
            generalize wr.drew = W1 at *
            repeat ((first | (refine wpE_q (v := ?_) rfl rfl (fun u hu => ?_) ?_; rotate_left 1; (focus (go_simp; (try go_bits); (try rfl)))) | refine wpE_qs rfl rfl ?_); simp only [Act.put, List.setIfInBounds_toArray, List.set_cons_zero, List.set_cons_succ])
            refine wpE_l rfl rfl (fun K hK => ?_)
            go_simp
            rw [E1.out]
            refine (r07_figure_any (n / 16) (by omega) _).mono ?_
            have hp := fig_le (x := n / 16) (by omega)
            have hI := HI.out
            generalize fig (n / 16) = p at *
            rintro e u ⟨rfl, rfl⟩
            refine hK.out _ _ (Ext.refl _) ?_
            clear hK K
            try simp only [Act.put, List.setIfInBounds_toArray, List.set_cons_zero, List.set_cons_succ]
            by_cases hpa : p = s[2 * k].toNat
            · subst hpa
              have HI2 := hidP hI; clear hI
              repeat ((first | (refine wpE_q (v := ?_) rfl rfl (fun u hu => ?_) ?_; rotate_left 1; (focus (go_simp; (try go_bits); (try rfl)))) | refine wpE_qs rfl rfl ?_); simp only [Act.put, List.setIfInBounds_toArray, List.set_cons_zero, List.set_cons_succ])
              refine wpE_l rfl rfl (fun K hK => ?_)
              go_simp
              rw [E2.out]
              refine (r07_figure_any (n % 16) (by omega) _).mono ?_
              have hp2 := fig_le (x := n % 16) (by omega)
              have hI := HI2.out
              generalize fig (n % 16) = p2 at *
              rintro e u ⟨rfl, rfl⟩
              refine hK.out _ _ (Ext.refl _) ?_
              clear hK K
              try simp only [Act.put, List.setIfInBounds_toArray, List.set_cons_zero, List.set_cons_succ]
              by_cases hpb : p2 = s[2 * k + 1].toNat
              · subst hpb
                have HH : Hid (pairv s[2 * k].toNat s[2 * k + 1].toNat = some n) := hidP (hI.1 ⟨rfl, rfl⟩)
                clear hI
                repeat ((first | (refine wpE_q (v := ?_) rfl rfl (fun u hu => ?_) ?_; rotate_left 1; (focus (go_simp; (try go_bits); (try rfl)))) | refine wpE_qs rfl rfl ?_); simp only [Act.put, List.setIfInBounds_toArray, List.set_cons_zero, List.set_cons_succ])
                refine wpE_done ?_
                go_wp2_with (at_builtin; refine wpList_app1 T_u8 rfl _ _ rfl hown1 he1 _ rfl rfl rfl (by omega) (by omega) ?_; intro v' w' hown' he')
                go_roundw
                case rel =>
                  have hh := HF.out.hit HH.out
                  exact ⟨n + 1, true, q + 1, E ++ [n], by omega, by go_num, rfl, by rw [ints_append]; exact hown', he', hh.1⟩
                case measure => simp only [intOf]; omega
              · have hne : ((p2 : Int) == (s[2 * k + 1].toNat : Int)) = false := by simp; omega
                have HNP : Hid (pairv s[2 * k].toNat s[2 * k + 1].toNat ≠ some n) := hidP (fun h => hpb (hI.2 h).2)
                clear hI
                repeat ((first | (refine wpE_q (v := ?_) rfl rfl (fun u hu => ?_) ?_; rotate_left 1; (focus (go_simp; (try go_bits); (try rfl)))) | refine wpE_qs rfl rfl ?_); simp only [Act.put, List.setIfInBounds_toArray, List.set_cons_zero, List.set_cons_succ])
                refine wpE_done ?_
                go_wp2_with fail
                go_roundw
                case rel => exact ⟨n + 1, fb, q, E, by omega, by go_num, rfl, hown1, he1, HF.out.skip HNP.out⟩
                case measure => simp only [intOf]; omega
            · have hne : ((p : Int) == (s[2 * k].toNat : Int)) = false := by simp; omega
              have HNP : Hid (pairv s[2 * k].toNat s[2 * k + 1].toNat ≠ some n) := hidP (fun h => hpa (hI.2 h).1)
              clear hI
              repeat ((first | (refine wpE_q (v := ?_) rfl rfl (fun u hu => ?_) ?_; rotate_left 1; (focus (go_simp; (try go_bits); (try rfl)))) | refine wpE_qs rfl rfl ?_); simp only [Act.put, List.setIfInBounds_toArray, List.set_cons_zero, List.set_cons_succ])
              refine wpE_ls (Ext.refl _) rfl rfl ?_
              simp only [Act.put, List.setIfInBounds_toArray, List.set_cons_zero, List.set_cons_succ]
              repeat ((first | (refine wpE_q (v := ?_) rfl rfl (fun u hu => ?_) ?_; rotate_left 1; (focus (go_simp; (try go_bits); (try rfl)))) | refine wpE_qs rfl rfl ?_); simp only [Act.put, List.setIfInBounds_toArray, List.set_cons_zero, List.set_cons_succ])
              refine wpE_done ?_
              go_wp2_with fail
              go_roundw
              case rel => exact ⟨n + 1, fb, q, E, by omega, by go_num, rfl, hown1, he1, HF.out.skip HNP.out⟩
              case measure => simp only [intOf]; omega
          · obtain rfl : n = 256 := by omega
            rcases HF.out with ⟨rfl, v, hv, hlt, rfl⟩ | ⟨rfl, rfl, hv⟩
            · have HN : Hid ((unhexL ((natsOf s).drop (2 * (k + 1)))).map ((D ++ [v]) ++ ·) = R) := hidP (by have h := HS.out; rw [hv] at h; exact h)
              obtain rfl : q = k + 1 := by have h1 := HEQ.out; have h2 := HDK.out; simp at h1; omega
              clear hv hlt HF HS HPI
              go_wp2_with fail
              go_roundw
              case rel => exact ⟨k + 1, D ++ [v], by omega, by go_num, hown, he, HN.out⟩
              case measure => simp only [intOf]; omega
            · have HN : Hid (R = none) := hidP (by
                have h := HS.out
                cases hpv : pairv s[2 * k].toNat s[2 * k + 1].toNat with
                | none => rw [hpv] at h; exact h
                | some v => have h1 := hv v hpv; have h2 := pairv_le hpv; omega)
              clear hv HF HS HPI
              go_wp2_with fail
              go_ret2
              rw [HN.out]
              exact ⟨rfl, he⟩
      · have hD := unhexL_end HV.out (by rw [HLEN.out, HM.out]; omega)
        have HD := hidP hD; clear hD
        obtain rfl : k = m := by omega
        obtain ⟨a', cap', rfl, hsl⟩ := Sl.of_owns hown
        have hq : s.size ≤ 2 * k := by rw [HM.out]; omega
        go_wp2
        go_ret2
        rw [HD.out]
        exact ⟨_, _, _, rfl, hsl, he⟩

end Go.Proofs.YtbhjookpdmfdnaaDoor
