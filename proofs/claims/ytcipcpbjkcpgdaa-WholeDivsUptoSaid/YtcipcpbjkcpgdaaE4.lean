/- The document's numbers (frisketref01): the number of a text. -/
import Derived.Test.YtcipcpbjkcpgdaaE3
import Derived.Test.YtcipcpbjkcpgdaaD3
namespace Go.Proofs.Ytcipcpbjkcpgdaa
set_option linter.unusedVariables false
open Go Go.RowKit

/-- What Parse answers: a number's words, 3: it is none, 4: too long. -/
def ParseR (w : World) (l : List Nat) (e : Ending) (w' : World) : Prop :=
  (2000 < l.length ∧ e = .returned (.tuple #[.slice none 0 0, .int .i64 4]) ∧ Ext w w') ∨
  (l.length ≤ 2000 ∧ ¬ PlainL l ∧ e = .returned (.tuple #[.slice none 0 0, .int .i64 3]) ∧ Ext w w') ∨
  (l.length ≤ 2000 ∧ PlainL l ∧ ∃ a n cap, e = .returned (.tuple #[.slice a n cap, .int .i64 0]) ∧ Sl w' a n cap (ints .u32 (dig B32 (dval l))) ∧ Ext w w')

theorem dval_lt (l : List Nat) (h : ∀ c ∈ l, c ≤ 57) : dval l < B32 ^ l.length := by
  have : ∀ (l : List Nat), (∀ c ∈ l, c ≤ 57) → ∀ a m : Nat, a < B32 ^ m → l.foldl (fun a c => 10 * a + (c - 48)) a < B32 ^ (m + l.length) := by
    intro l
    induction l with
    | nil => intro _ a m ha; simpa using ha
    | cons c r ih =>
      intro h a m ha
      have hc := h c (by simp)
      have h2 : 10 * a + (c - 48) < B32 ^ (m + 1) := by
        rw [Nat.pow_succ]
        have : B32 ^ m * 20 ≤ B32 ^ m * B32 := Nat.mul_le_mul_left _ (by unfold B32; omega)
        have : 1 ≤ B32 ^ m := Nat.pow_pos (by decide)
        omega
      have := ih (fun x hx => h x (by simp [hx])) _ _ h2
      simp only [List.foldl_cons, List.length_cons]
      rw [show m + (r.length + 1) = m + 1 + r.length by omega]
      exact this
  have := this l h 0 0 (by simp)
  simpa [dval] using this

theorem ws10 : Ws [10] := by intro x hx; simp at hx; subst hx; decide

set_option maxRecDepth 100000 in
set_option maxHeartbeats 1000000 in
theorem r01_Parse_any (s : ByteArray) (w : World) :
    Calls Try.prog 22 #[.string s] w (ParseR w (natsOf s)) := by
  have hlen := natsOf_len s
  have hat := natsOf_at s
  by_cases hbig : 2000 < s.size
  · have HB : Hid (2000 < (natsOf s).length) := hidP (by omega)
    go_enter Try.func22, Try.ntmps22
    go_wp2
    go_ret2
    exact .inl ⟨HB.out, rfl, Ext.refl _⟩
  have HB : Hid ((natsOf s).length ≤ 2000) := hidP (by omega)
  by_cases h0 : s.size = 0
  · obtain rfl := size_zero h0
    go_enter Try.func22, Try.ntmps22
    go_wp2
    go_ret2
    exact .inr (.inl ⟨by decide, by decide, rfl, Ext.refl _⟩)
  have h00 : 0 < s.size := by omega
  have hne : s.toList.isEmpty = false := by
    rw [toList_data]
    cases hd : s.data.toList with
    | nil => have : s.data.toList.length = 0 := by rw [hd]; rfl
             have h2 : s.size = s.data.toList.length := rfl
             omega
    | cons x r => rfl
  have ha0 := hat 0 h00
  by_cases hz : s[0].toNat = 48 ∧ 1 < s.size
  · have HN : Hid (¬ PlainL (natsOf s)) := hidP (fun h => by have := h.2.1 (by rw [ha0]; exact hz.1); omega)
    obtain ⟨z1, z2⟩ := hz
    have z3 : ((s[0].toNat : Int) == 48) = true := by simp; omega
    go_enter Try.func22, Try.ntmps22
    go_wp2
    go_ret2
    exact .inr (.inl ⟨HB.out, HN.out, rfl, Ext.refl _⟩)
  have HZ : Hid ((natsOf s).getD 0 0 = 48 → (natsOf s).length ≤ 1) := hidP (fun h => by rw [ha0] at h; have : ¬ 1 < s.size := fun h2 => hz ⟨h, h2⟩; omega)
  have HAT := hidP hat; clear hat
  have HLEN := hidP hlen; clear hlen
  clear ha0
  go_enter Try.func22, Try.ntmps22
  go_wp2_with fail
  all_goals (
    go_loopw [4, 5] (fun v i wr => ∃ (k : Nat) (a : Option Addr) (n cap : Nat), k ≤ s.size ∧ i = .int .i64 (k : Int) ∧ v = .slice a n cap ∧ Sl wr a n cap (ints .u32 (dig B32 (dval ((natsOf s).take k)))) ∧ Ext w wr ∧ ∀ c ∈ (natsOf s).take k, 48 ≤ c ∧ c ≤ 57) (fun _ i _ => s.size - (intOf i).toNat)
    case atStart => exact ⟨0, none, 0, 0, by omega, rfl, rfl, by simpa [dval, dig_zero, ints] using Sl.nil w, Ext.refl _, by simp⟩
    case round =>
      obtain ⟨k, a, n, cap, hk, rfl, rfl, hA, HE, hdg⟩ := hrel
      have HD := hidP hdg; clear hdg
      by_cases hlt : k < s.size
      · have hki : (k : Int) < (s.size : Int) := by omega
        have hc := HAT.out k hlt
        have hnx := dval_next (by rw [HLEN.out]; exact hlt) hc
        have hmem : s[k].toNat ∈ natsOf s := by
          rw [← hc, List.getD_eq_getElem?_getD, List.getElem?_eq_getElem (by rw [HLEN.out]; exact hlt)]
          exact List.getElem_mem _
        have htk : (natsOf s).take (k + 1) = (natsOf s).take k ++ [s[k].toNat] := by
          rw [List.take_succ_eq_append_getElem (by rw [HLEN.out]; exact hlt)]
          rw [List.getD_eq_getElem?_getD, List.getElem?_eq_getElem (by rw [HLEN.out]; exact hlt)] at hc
          simp only [Option.getD_some] at hc
          rw [hc]
        have HC := hidP hc; have HM := hidP hmem; have HT := hidP htk
        clear hc hmem htk
        have hcl : s[k].toNat ≤ 255 := by have := s[k].toNat_lt; omega
        have hnl : n ≤ 2000 := by
          have h1 := hA.int_len
          have h2 := dval_lt ((natsOf s).take k) (fun c hc => (HD.out c hc).2)
          have h3 := dig_len_le B32_two h2
          rw [List.length_take] at h3
          omega
        rcases (by omega : s[k].toNat < 48 ∨ 57 < s[k].toNat ∨ (48 ≤ s[k].toNat ∧ s[k].toNat ≤ 57)) with h | h | ⟨h, h'⟩
        · have HN : Hid (¬ PlainL (natsOf s)) := hidP (fun hh => by have := hh.2.2 _ HM.out; omega)
          go_wp2_with fail
          go_ret2
          exact .inr (.inl ⟨HB.out, HN.out, rfl, HE⟩)
        · have HN : Hid (¬ PlainL (natsOf s)) := hidP (fun hh => by have := hh.2.2 _ HM.out; omega)
          go_wp2_with fail
          go_ret2
          exact .inr (.inl ⟨HB.out, HN.out, rfl, HE⟩)
        have HNX0 := hidP hnx; clear hnx
        obtain ⟨d, hd⟩ : ∃ d : Nat, d = s[k].toNat - 48 := ⟨_, rfl⟩
        have hd9 : d ≤ 9 := by omega
        have hdi : (s[k].toNat : Int) - 48 = (d : Int) := by omega
        have DD := hidP hdi
        have HNX : Hid (dval ((natsOf s).take k) * 10 + d = dval ((natsOf s).take (k + 1))) := hidP (by rw [HNX0.out, hd]; omega)
        have HDG : Hid (∀ c ∈ (natsOf s).take (k + 1), 48 ≤ c ∧ c ≤ 57) := hidP (by
          rw [HT.out]
          intro c hc
          rcases List.mem_append.1 hc with hc | hc
          · exact HD.out c hc
          · simp at hc; subst hc; exact ⟨h, h'⟩)
        have HML : Hid ((dig B32 (dval ((natsOf s).take k) * 10)).length ≤ 2001) := hidP (by
          have h2 := dval_lt ((natsOf s).take k) (fun c hc => (HD.out c hc).2)
          have h4 : dval ((natsOf s).take k) * 10 < B32 ^ (((natsOf s).take k).length + 1) := by
            rw [Nat.pow_succ]
            have : B32 ^ ((natsOf s).take k).length * 10 ≤ B32 ^ ((natsOf s).take k).length * B32 := Nat.mul_le_mul_left _ (by unfold B32; omega)
            omega
          have h3 := dig_len_le B32_two h4
          rw [List.length_take] at h3
          omega)
        have e8 : IntKind.u8.wrap (d : Int) = (d : Int) := by rw [IntKind.wrap_u8]; omega
        have e32 : IntKind.u32.wrap (d : Int) = (d : Int) := by rw [IntKind.wrap_u32]; omega
        have HX := hidP (And.intro e8 (And.intro e32 hdi))
        clear hd hdi e8 e32
        go_upto_region 11 with fail
        replace HE := HE.drew
        replace hA := hA.ext (Ext.refl wr).drew
        refine wp_region_plan (R := Ext) (.q 0 (.q 3 (.q 4 (.q 5 (.q 6 (.q 7 (.br 1 (.br 2 (.l 8 (.l 9 (.q 10 .done))) (.l 8 (.l 2 (.l 9 (.q 10 .done))))) (.l 8 (.l 1 (.l 2 (.l 9 (.q 10 .done)))))))))))) (by kernel_rfl) (by kernel_rfl) (by kernel_rfl) (by kernel_rfl) Ext.refl (fun _ _ _ => Ext.trans) ?_
        generalize wr.drew = W1 at *
        repeat (refine wpE_q (v := ?_) rfl rfl (fun u hu => ?_) ?_; rotate_left 1; (focus (go_simp; (try rfl))); simp only [Act.put, List.setIfInBounds_toArray, List.set_cons_zero, List.set_cons_succ])
        simp only [HX.out.2.2, HX.out.1, HX.out.2.1]
        refine wpE_br rfl rfl (fun K hK => ?_) ?_
        · go_simp
          refine hK.out _ _ ((Ext.refl _).alloc _) ?_
          clear hK K
          try simp only [Act.put, List.setIfInBounds_toArray, List.set_cons_zero, List.set_cons_succ]
          have h10 := Sl.lit W1 57 #[.int .u32 10] 1 rfl (by omega)
          have hx := (Ext.refl W1).alloc (.cells #[.int .u32 10] 57)
          replace hA := hA.ext hx
          replace HE := HE.trans hx
          clear hx
          generalize W1.alloc (.cells #[.int .u32 10] 57) = W2 at *
          refine wpE_br rfl rfl (fun K hK => ?_) ?_
          · go_simp
            refine (r01_Mul_any a _ n cap 1 1 _ [10] _ hA h10 (Ws.dig _) ws10 (by omega) (by omega)).mono ?_
            rw [val_dig B32_two, show val B32 [10] = 10 by simp [val]]
            rintro e W3 ⟨am, nm, cm, rfl, hM, hx⟩
            refine hK.out _ _ hx ?_
            clear hK K
            try simp only [Act.put, List.setIfInBounds_toArray, List.set_cons_zero, List.set_cons_succ]
            replace HE := HE.trans hx
            replace h10 := h10.ext hx
            clear hx
            refine wpE_l rfl rfl (fun K hK => ?_)
            go_simp
            refine hK.out _ _ ((Ext.refl _).alloc _) ?_
            clear hK K
            try simp only [Act.put, List.setIfInBounds_toArray, List.set_cons_zero, List.set_cons_succ]
            have hd := Sl.lit W3 57 #[.int .u32 (d : Int)] 1 rfl (by omega)
            have hx := (Ext.refl W3).alloc (.cells #[.int .u32 (d : Int)] 57)
            replace HE := HE.trans hx
            replace h10 := h10.ext hx
            replace hM := hM.ext hx
            clear hx
            generalize W3.alloc (.cells #[.int .u32 (d : Int)] 57) = W4 at *
            refine wpE_l rfl rfl (fun K hK => ?_)
            go_simp
            refine (r01_Add_any am _ nm cm 1 1 _ [d] _ hM hd (Ws.dig _) (by intro x hx; simp at hx; subst hx; unfold B32; omega) (by have h3 := hM.int_len; have h4 := HML.out; omega) (by omega)).mono ?_
            rw [val_dig B32_two, show val B32 [d] = d by simp [val], HNX.out]
            rintro e W5 ⟨ar, nr, cr, rfl, hR, hx⟩
            refine hK.out _ _ hx ?_
            clear hK K
            try simp only [Act.put, List.setIfInBounds_toArray, List.set_cons_zero, List.set_cons_succ]
            replace HE := HE.trans hx
            clear hx
            repeat (refine wpE_q (v := ?_) rfl rfl (fun u hu => ?_) ?_; rotate_left 1; (focus (go_simp; (try rfl))); simp only [Act.put, List.setIfInBounds_toArray, List.set_cons_zero, List.set_cons_succ])
            refine wpE_done ?_
            go_wp2_with fail
            go_roundw
            case rel => exact ⟨k + 1, ar, nr, cr, by omega, by go_num, rfl, hR, HE, HDG.out⟩
            case measure => simp only [intOf]; omega
          · refine wpE_l rfl rfl (fun K hK => ?_)
            go_simp
            refine hK.out _ _ ((Ext.refl _).alloc _) ?_
            clear hK K
            try simp only [Act.put, List.setIfInBounds_toArray, List.set_cons_zero, List.set_cons_succ]
            have hd := Sl.lit W2 57 #[.int .u32 (d : Int)] 1 rfl (by omega)
            have hx := (Ext.refl W2).alloc (.cells #[.int .u32 (d : Int)] 57)
            replace hA := hA.ext hx
            replace HE := HE.trans hx
            replace h10 := h10.ext hx
            clear hx
            generalize W2.alloc (.cells #[.int .u32 (d : Int)] 57) = W3 at *
            refine wpE_l rfl rfl (fun K hK => ?_)
            go_simp
            refine (r01_Mul_any a _ n cap 1 1 _ [10] _ hA h10 (Ws.dig _) ws10 (by omega) (by omega)).mono ?_
            rw [val_dig B32_two, show val B32 [10] = 10 by simp [val]]
            rintro e W4 ⟨am, nm, cm, rfl, hM, hx⟩
            refine hK.out _ _ hx ?_
            clear hK K
            try simp only [Act.put, List.setIfInBounds_toArray, List.set_cons_zero, List.set_cons_succ]
            replace HE := HE.trans hx
            replace h10 := h10.ext hx
            replace hd := hd.ext hx
            clear hx
            refine wpE_l rfl rfl (fun K hK => ?_)
            go_simp
            refine (r01_Add_any am _ nm cm 1 1 _ [d] _ hM hd (Ws.dig _) (by intro x hx; simp at hx; subst hx; unfold B32; omega) (by have h3 := hM.int_len; have h4 := HML.out; omega) (by omega)).mono ?_
            rw [val_dig B32_two, show val B32 [d] = d by simp [val], HNX.out]
            rintro e W5 ⟨ar, nr, cr, rfl, hR, hx⟩
            refine hK.out _ _ hx ?_
            clear hK K
            try simp only [Act.put, List.setIfInBounds_toArray, List.set_cons_zero, List.set_cons_succ]
            replace HE := HE.trans hx
            clear hx
            repeat (refine wpE_q (v := ?_) rfl rfl (fun u hu => ?_) ?_; rotate_left 1; (focus (go_simp; (try rfl))); simp only [Act.put, List.setIfInBounds_toArray, List.set_cons_zero, List.set_cons_succ])
            refine wpE_done ?_
            go_wp2_with fail
            go_roundw
            case rel => exact ⟨k + 1, ar, nr, cr, by omega, by go_num, rfl, hR, HE, HDG.out⟩
            case measure => simp only [intOf]; omega
        · refine wpE_l rfl rfl (fun K hK => ?_)
          go_simp
          refine hK.out _ _ ((Ext.refl _).alloc _) ?_
          clear hK K
          try simp only [Act.put, List.setIfInBounds_toArray, List.set_cons_zero, List.set_cons_succ]
          have hd := Sl.lit W1 57 #[.int .u32 (d : Int)] 1 rfl (by omega)
          have hx := (Ext.refl W1).alloc (.cells #[.int .u32 (d : Int)] 57)
          replace hA := hA.ext hx
          replace HE := HE.trans hx
          clear hx
          generalize W1.alloc (.cells #[.int .u32 (d : Int)] 57) = W2 at *
          refine wpE_l rfl rfl (fun K hK => ?_)
          go_simp
          refine hK.out _ _ ((Ext.refl _).alloc _) ?_
          clear hK K
          try simp only [Act.put, List.setIfInBounds_toArray, List.set_cons_zero, List.set_cons_succ]
          have h10 := Sl.lit W2 57 #[.int .u32 10] 1 rfl (by omega)
          have hx := (Ext.refl W2).alloc (.cells #[.int .u32 10] 57)
          replace hA := hA.ext hx
          replace HE := HE.trans hx
          replace hd := hd.ext hx
          clear hx
          generalize W2.alloc (.cells #[.int .u32 10] 57) = W3 at *
          refine wpE_l rfl rfl (fun K hK => ?_)
          go_simp
          refine (r01_Mul_any a _ n cap 1 1 _ [10] _ hA h10 (Ws.dig _) ws10 (by omega) (by omega)).mono ?_
          rw [val_dig B32_two, show val B32 [10] = 10 by simp [val]]
          rintro e W4 ⟨am, nm, cm, rfl, hM, hx⟩
          refine hK.out _ _ hx ?_
          clear hK K
          try simp only [Act.put, List.setIfInBounds_toArray, List.set_cons_zero, List.set_cons_succ]
          replace HE := HE.trans hx
          replace h10 := h10.ext hx
          replace hd := hd.ext hx
          clear hx
          refine wpE_l rfl rfl (fun K hK => ?_)
          go_simp
          refine (r01_Add_any am _ nm cm 1 1 _ [d] _ hM hd (Ws.dig _) (by intro x hx; simp at hx; subst hx; unfold B32; omega) (by have h3 := hM.int_len; have h4 := HML.out; omega) (by omega)).mono ?_
          rw [val_dig B32_two, show val B32 [d] = d by simp [val], HNX.out]
          rintro e W5 ⟨ar, nr, cr, rfl, hR, hx⟩
          refine hK.out _ _ hx ?_
          clear hK K
          try simp only [Act.put, List.setIfInBounds_toArray, List.set_cons_zero, List.set_cons_succ]
          replace HE := HE.trans hx
          clear hx
          repeat (refine wpE_q (v := ?_) rfl rfl (fun u hu => ?_) ?_; rotate_left 1; (focus (go_simp; (try rfl))); simp only [Act.put, List.setIfInBounds_toArray, List.set_cons_zero, List.set_cons_succ])
          refine wpE_done ?_
          go_wp2_with fail
          go_roundw
          case rel => exact ⟨k + 1, ar, nr, cr, by omega, by go_num, rfl, hR, HE, HDG.out⟩
          case measure => simp only [intOf]; omega
      · have hq : s.size ≤ k := by omega
        have HN : Hid (PlainL (natsOf s)) := hidP (by
          refine ⟨fun h => by have := HLEN.out; rw [h] at this; simp at this; omega, HZ.out, ?_⟩
          have := HD.out
          rw [List.take_of_length_le (by rw [HLEN.out]; omega)] at this
          exact this)
        rw [List.take_of_length_le (by rw [HLEN.out]; omega)] at hA
        obtain rfl : k = s.size := by omega
        go_wp2_with fail
        go_ret2
        exact .inr (.inr ⟨HB.out, HN.out, _, _, _, rfl, hA, HE⟩))

end Go.Proofs.Ytcipcpbjkcpgdaa
