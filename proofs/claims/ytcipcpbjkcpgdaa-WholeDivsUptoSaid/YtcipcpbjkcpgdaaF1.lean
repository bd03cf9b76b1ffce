/- The program's numbers (nat): as texts. -/
import Derived.Test.YtcipcpbjkcpgdaaB4
import Derived.Test.YtcipcpbjkcpgdaaF0
import Derived.Test.YtcipcpbjkcpgdaaD1
namespace Go.Proofs.Ytcipcpbjkcpgdaa
set_option linter.unusedVariables false
open Go Go.RowKit

/-- 'd = append(d, x)' of a byte: which other blocks stay. -/
theorem wpList_app1G {P : Program} {ops : Array Oper} {rest : List Oper} {o : Oper} {a : Act} {Q : Exit → Act → World → Prop} {W w : World} {t e e' : TypeId} {z : Value} {bytes : Nat} (hT : SlT P t e z bytes)
    (hgd : o.guard = none) (s x : Operand) (ho : o.op = .call { callee := .builtin .append, args := #[s, x], argTypes := #[t, t] })
    {v : Value} {n : Nat} {xs : List Value} (hown : w.ownsRow W.heap.size e 1 v n xs) (he : Ext W w) (u : Value) (hu : u.oneCell' = true) {c : Nat} (hs : a.eval s = v)
    (hx : a.eval x = .slice (some ⟨w.heap.size, 0, none⟩) 1 c) (hb : n + 1 ≤ 17592186044416) (hb' : bytes ≤ 8)
    (h : ∀ v' w', w'.ownsRow W.heap.size e 1 v' (n + 1) (xs ++ [u]) → Ext W w' → (w.alloc (.cells #[u] e')).grownBy w' v.ownBlock → wpList P ops Q rest (a.put o.dst v') w') :
    wpList P ops Q (o :: rest) a (w.alloc (.cells #[u] e')) := by
  obtain ⟨ht, i, hi, hz, hsz, hby, hzs⟩ := hT
  refine wpList_plain hgd fun _ hK => ?_
  refine wp_append_own _ s x t ho W.heap.size e i z 1 bytes ht hi hz hsz hby hzs (by decide) v n xs hs (hown.alloc _) _ 1 c [u] hx rfl (cell_one_new _ _ _) (by simpa using hu) (by unfold maxLen; omega)
    (Nat.le_trans (Nat.mul_le_mul hb hb') (by decide)) ((he.alloc _).size) ?_
  intro v' w' h1 h2 _
  exact hK _ _ (h v' w' h1 (Below.grown (he.alloc _) h2 (he.alloc _).size (fun k hk => (hown.lt k hk).1)) h2)

def sliceLen : Value → Nat
  | .slice _ n _ => n
  | _ => 0
theorem row_sliceLen {w : World} {B e n : Nat} {v : Value} {xs : List Value} (h : w.ownsRow B e 1 v n xs) : sliceLen v = n := by
  obtain ⟨a, cap, rfl, _⟩ := Sl.of_owns h
  rfl

theorem ownsRow_ext1 {w u : World} {B e n : Nat} {v : Value} {xs : List Value} (h : w.ownsRow B e 1 v n xs) (he : Ext w u) : u.ownsRow B e 1 v n xs := by
  obtain ⟨h1, h2⟩ := h
  refine ⟨h1, ?_⟩
  rcases h2 with h2 | ⟨g, cap, cur, rfl, hg, hh, hn, hm, hs, hx⟩
  · exact .inl h2
  · have hlt : g < w.heap.size := by
      rcases Nat.lt_or_ge g w.heap.size with h | h
      · exact h
      · rw [Array.getElem?_eq_none h] at hh; cases hh
    exact .inr ⟨g, cap, cur, rfl, hg, (he.block g hlt).trans hh, hn, hm, hs, hx⟩

/-- The letters of digits. -/
def lets (E : List Nat) : List Nat := E.map (48 + ·)
theorem lets_append (E F : List Nat) : lets (E ++ F) = lets E ++ lets F := by simp [lets]

set_option maxRecDepth 100000 in
set_option maxHeartbeats 4000000 in
theorem nat_Text_any (a : Option Addr) (n cap : Nat) (x : List Nat) (w : World) (hs : Sl w a n cap (ints .u32 x)) (hx : Ws x) (hn : n ≤ 1099511627776) :
    Calls Try.prog 23 #[.slice a n cap] w fun e w' => e = .returned (.string (decS (val B32 x))) ∧ Ext w w' := by
  have hlx := hs.int_len
  have hDL : (dig 10 (val B32 x)).length ≤ 10995116277760 := by have := dig10_len hx (n := n) (by omega); omega
  have hxn := dig_val_len B32_two x hx
  generalize hV : val B32 x = V at *
  have HV := hidP hV
  obtain ⟨D, hD⟩ : ∃ D, D = dig 10 V := ⟨_, rfl⟩
  rw [← hD] at hDL
  have HD := hidP hD; have HDL := hidP hDL
  clear hV hD hDL
  go_enter Try.func23, Try.ntmps23
  go_wp2_with fail
  refine (nat_Trim_any a n cap x _ hs hx hn).mono ?_
  rw [HV.out]
  rintro e w1 ⟨a1, n1, c1, rfl, hs1, he1⟩
  have hn1 : n1 ≤ 1099511627776 := by have := hs1.int_len; omega
  clear hs hxn hlx
  go_wp2_with fail
  go_loopw [0, 3] (fun av bv wr => ∃ (a : Option Addr) (n cap V' : Nat) (E : List Nat), av = .slice a n cap ∧ Sl wr a n cap (ints .u32 (dig B32 V')) ∧ n ≤ 1099511627776 ∧ wr.ownsRow w.heap.size 5 1 bv E.length (ints .u8 (lets E)) ∧ Ext w wr ∧ D = E ++ dig 10 V') (fun _ bv _ => D.length - sliceLen bv)
  case atStart => exact ⟨a1, n1, c1, V, [], rfl, hs1, hn1, by simpa [ints, lets] using World.ownsRow_nil w1 w.heap.size 5 1, he1, by rw [HD.out]; rfl⟩
  case round =>
    clear hs1 he1 hn1
    obtain ⟨a, n, cap, V', E, rfl, hsa, hn, hown, he, hv⟩ := hrel
    have HVE := hidP hv; clear hv
    have hln := hsa.int_len
    by_cases h0 : V' = 0
    · subst h0
      obtain rfl : n = 0 := by rw [dig_zero] at hln; exact hln.symm
      have hDE : D = E := by rw [HVE.out, dig_zero]; simp
      have HDE := hidP hDE
      clear hDE hsa hln HVE
      by_cases hE : E = []
      · subst hE
        have HR : Hid (decS V = ⟨#[48]⟩) := hidP (by
          have h1 : V = 0 := by
            have h2 := val_dig (B := 10) (by decide) V
            rw [← HD.out, HDE.out] at h2
            simpa [val] using h2.symm
          rw [h1]; rfl)
        obtain ⟨a5, cap5, rfl, hsl⟩ := Sl.of_owns hown
        go_wp2_with fail
        go_ret
        exact ⟨by rw [HR.out]; rfl, he⟩
      · have hEl : 0 < E.length := List.length_pos_iff.2 hE
        obtain ⟨L, hL⟩ : ∃ L, L = E.length := ⟨_, rfl⟩
        rw [← hL] at hown hEl
        obtain ⟨a5, cap5, rfl, hsl⟩ := Sl.of_owns hown
        have hLb : L ≤ 10995116277760 := by have := HDL.out; rw [HDE.out] at this; omega
        have HL := hidP hL
        have HR : Hid (decS V = bytesOf (lets E.reverse)) := hidP (by
          have h1 : decD V = E.reverse := by
            unfold decD
            rw [if_neg, ← HD.out, HDE.out]
            intro h
            rw [h, dig_zero] at HD
            have := HD.out
            rw [HDE.out] at this
            exact hE this
          unfold decS
          rw [h1]
          simp [decB, bytesOf, lets, Function.comp_def])
        have hz : ((L : Int) == 0) = false := by simp; omega
        clear hE hL hown
        have HSL := hidP hsl; clear hsl
        go_wp2_with (at_make; refine wpList_make (W := wr) (n := L) T_u8 rfl _ _ rfl rfl rfl (Ext.refl _) (by omega) (by omega) rfl ?_; intro w3 hown he3 hsz)
        rw [replicate_ints] at hown
        have hle : Ext w wr := he
        generalize hG : wr.heap.size = g6 at *
        have HG := hidP hG; clear hG hsz he
        obtain ⟨wo, rfl⟩ : ∃ wo, wo = wr := ⟨_, rfl⟩
        go_loopw [49] (fun iv wq => ∃ (i : Nat) (R : List Nat), i ≤ L ∧ iv = .int .i64 (i : Int) ∧ wq.ownsRow g6 5 1 (.slice (some ⟨g6, 0, none⟩) L L) L (ints .u8 R) ∧ Ext wo wq ∧ R.drop (L - i) = (lets (E.take i)).reverse) (fun iv _ => L - (intOf iv).toNat)
        case atStart => exact ⟨0, _, by omega, rfl, hown, he3, by simp [lets]⟩
        case round =>
          clear hown he3
          obtain ⟨i, R, hi, rfl, hown, he3, hdr⟩ := hrel
          have hRl := Row.len hown
          have HDR := hidP hdr; clear hdr
          by_cases hlt : i < L
          · obtain ⟨j, hj⟩ : ∃ j, L = j + 1 + i := ⟨L - 1 - i, by omega⟩
            have hji : (L : Int) - 1 - (i : Int) = (j : Int) := by omega
            have hjL : j < L := by omega
            have hji2 : (j : Int) < (L : Int) := by omega
            obtain ⟨b, off, rfl, hc⟩ := (HSL.out.ext he3).at_int (by omega)
            have hll : (lets E).length = L := by simp [lets]; exact HL.out.symm
            have hck := hc i (by omega)
            have hEl : E.length = L := HL.out.symm
            have hcv : (lets E)[i]'(by omega) = 48 + E[i]'(by omega) := by simp [lets]
            rw [hcv] at hck
            clear hc hcv
            have htk : (lets (E.take (i + 1))).reverse = (48 + E[i]'(by omega)) :: (lets (E.take i)).reverse := by
              rw [List.take_succ_eq_append_getElem (by omega), lets_append]; simp [lets]
            generalize hcc : 48 + E[i]'(by omega) = c at *
            obtain ⟨old, hold⟩ : ∃ old, wr.cell? ⟨g6, j, none⟩ = some old := ⟨_, Row.cell hown j (by rw [hRl]; exact hjL)⟩
            have hfree := Row.free hown j
            have hst := Row.store hown j c
            have hes : Ext wo (wr.setCell ⟨g6, j, none⟩ (.int .u8 (c : Int))) := he3.store (by rw [HG.out]; exact Nat.le_refl _) _
            have hdr2 : (R.set j c).drop (L - (i + 1)) = (lets (E.take (i + 1))).reverse := by
              rw [htk, show L - (i + 1) = j by omega, List.drop_eq_getElem_cons (by rw [List.length_set]; omega), List.getElem_set_self, List.drop_set_of_lt (by omega)]
              have := HDR.out
              rw [show L - i = j + 1 by omega] at this
              rw [this]
            have HST := hidP hst; have HES := hidP hes; have HD2 := hidP hdr2
            clear hst hes hdr2 htk hcc hj hown he3 hll hEl hRl
            have hki : (i : Int) < (L : Int) := by omega
            go_wp2_with fail
            go_roundw
            case rel => exact ⟨i + 1, _, by omega, by go_num, HST.out, HES.out, HD2.out⟩
            case measure => simp only [intOf]; omega
          · obtain rfl : i = L := by omega
            have hR : R = lets E.reverse := by
              have := HDR.out
              rw [Nat.sub_self, List.drop_zero, List.take_of_length_le (by have := HL.out; omega)] at this
              rw [this]; simp [lets]
            have hE9 : ∀ d ∈ E, d < 10 := by
              intro d hd
              have h1 : D = E := HDE.out
              rw [← h1, HD.out] at hd
              exact dig_lt (by decide) _ d hd
            have hst := str_of (Sl.of_owns' hown) (by
              rw [hR]
              intro x hx
              simp only [lets, List.mem_map, List.mem_reverse] at hx
              obtain ⟨d, hd, rfl⟩ := hx
              have := hE9 d hd
              omega)
            rw [hR] at hst
            clear hE9 hR hown
            go_wp2_with fail
            go_ret
            exact ⟨by rw [HR.out]; rfl, hle.trans he3⟩
    · have hnp : 0 < n := by
        have h5 : 0 < (dig B32 V').length := by rw [dig_pos B32_two h0]; simp
        omega
      have hni : (0 : Int) < (n : Int) := by omega
      have HV0 := hidP h0; clear h0
      go_wp2_with fail
      refine (nat_small_any a n cap (dig B32 V') 1000000000 _ hsa (Ws.dig _) (by omega) (by omega) (by omega)).mono ?_
      rw [val_dig B32_two]
      rintro e w2 ⟨g2, n2, c2, rfl, hs2, he2, hb2⟩
      have hE0 := he.trans he2
      have hr2 := ownsRow_ext1 hown he2
      have hpos : 0 < V' % 1000000000 ∨ 0 < V' / 1000000000 := by have := HV0.out; omega
      have hVV : V' = V' % 1000000000 + 10 ^ (9 - 0) * (V' / 1000000000) := by
        have : (10 : Nat) ^ (9 - 0) = 1000000000 := by decide
        rw [this]; omega
      have hpl : V' % 1000000000 < 10 ^ (9 - 0) := Nat.mod_lt _ (by decide)
      have hDE : D = E ++ dig 10 (V' % 1000000000 + 10 ^ (9 - 0) * (V' / 1000000000)) := by rw [← hVV]; exact HVE.out
      have hn2l := hs2.int_len
      have hp9 : V' % 1000000000 ≤ 999999999 := by omega
      generalize V' % 1000000000 = p0 at *
      generalize V' / 1000000000 = V2 at *
      have HDE := hidP hDE; have HPL := hidP hpl; have HPOS := hidP hpos; have HN2 := hidP hn2l
      have hn2b : n2 ≤ 1099511627776 := by
        have h1 := hn2l
        have h2 := HVE.out
        have h3 : (dig B32 V2).length ≤ (dig B32 V').length := dig_mono B32_two (by rw [hVV]; exact Nat.le_trans (Nat.le_mul_of_pos_left _ (Nat.pow_pos (by decide))) (Nat.le_add_left _ _))
        omega
      have HOLD := hidP hown
      clear hVV hDE hpl hpos hn2l hsa hown he hln
      go_wp2_with fail
      go_loopw [3, 4, 5] (fun bv pv kv wq => ∃ (k part : Nat) (F : List Nat), k ≤ 9 ∧ kv = .int .i64 (k : Int) ∧ pv = .int .u32 (part : Int) ∧ part ≤ 999999999 ∧ part < 10 ^ (9 - k) ∧ wq.ownsRow w.heap.size 5 1 bv F.length (ints .u8 (lets F)) ∧ Ext w wq ∧ D = F ++ dig 10 (part + 10 ^ (9 - k) * V2) ∧ E.length ≤ F.length ∧ (0 < k → E.length < F.length) ∧ (k = 0 → 0 < part ∨ 0 < V2) ∧ Sl wq (some ⟨g2, 0, none⟩) n2 c2 (ints .u32 (dig B32 V2)) ∧ BlkT wq g2 57) (fun _ _ kv _ => 9 - (intOf kv).toNat)
      case atStart => exact ⟨0, p0, E, by omega, rfl, rfl, hp9, HPL.out, hr2, hE0, HDE.out, Nat.le_refl _, by omega, fun _ => HPOS.out, hs2, hb2⟩
      case round =>
        clear hr2 hE0 hs2 hb2
        obtain ⟨k, part, F, hk, rfl, rfl, hpb, hp10, hown, he, hv, hEF, hEF2, hk0, hs2, hb2⟩ := hrel
        obtain ⟨lf, hlf⟩ : ∃ lf, lf = F.length := ⟨_, rfl⟩
        rw [← hlf] at hown hEF hEF2
        have hFD : lf ≤ 10995116277760 := by have h1 := HDL.out; rw [hv, List.length_append] at h1; omega
        have HV := hidP hv; have HLF := hidP hlf; have HP10 := hidP hp10
        have HEF := hidP (And.intro hEF (And.intro hEF2 hk0))
        clear hv hlf hp10 hEF hEF2 hk0
        have hstop : (k < 9 ∧ (0 < n2 ∨ 0 < part)) ∨ (¬ k < 9 ∨ (n2 = 0 ∧ part = 0)) := by omega
        rcases hstop with ⟨hk9, hor⟩ | hst
        · have hV2 : 0 < part ∨ 0 < V2 := by
            rcases hor with h | h
            · right
              rcases Nat.eq_zero_or_pos V2 with h2 | h2
              · have := HN2.out; rw [h2, dig_zero] at this; simp at this; omega
              · exact h2
            · exact .inl h
          have HSTEP := hidP (chunk_step (part := part) (V2 := V2) hk9 hV2)
          have HLT := hidP (chunk_lt hk9 HP10.out)
          have hki : (k : Int) < 9 := by omega
          have hcast : (48 + (part : Int) % 10) = ((48 + part % 10 : Nat) : Int) := by omega
          have HC := hidP hcast
          have hd9 : part % 10 ≤ 9 := by omega
          have hdv : (part : Int) / 10 = ((part / 10 : Nat) : Int) := by omega
          have HDV := hidP hdv
          clear hcast hV2 hdv
          have hgo : ∀ (v' : Value) (w' : World) (bv : Value), wr.ownsRow w.heap.size 5 1 bv lf (ints .u8 (lets F)) → (wr.alloc (.cells #[.int .u8 (48 + (part : Int) % 10)] 5)).grownBy w' bv.ownBlock → Sl w' (some ⟨g2, 0, none⟩) n2 c2 (ints .u32 (dig B32 V2)) ∧ BlkT w' g2 57 := fun v' w' bv hr hg => by
            have hx := (Ext.refl wr).alloc (.cells #[.int .u8 (48 + (part : Int) % 10)] 5)
            have hno := hb2.other hr (by decide)
            exact ⟨(hs2.ext hx).grown (hb2.ext hx).lt hg hno, (hb2.ext hx).grown hg hno⟩
          have HGO := hidP hgo
          clear hgo hs2 hb2
          rcases hor with hn0 | hp0
          · have hn0i : (0 : Int) < (n2 : Int) := by omega
            go_wp2_with (at_builtin; refine wpList_app1G T_u8 rfl _ _ rfl hown he _ rfl rfl rfl (by omega) (by omega) ?_; intro v' w' hown' he' hg')
            go_roundw
            case rel =>
              obtain ⟨q1, q2⟩ := HGO.out v' w' _ hown hg'
              refine ⟨k + 1, part / 10, F ++ [part % 10], by omega, by go_num, by rw [HDV.out], by omega, HLT.out, ?_, he', ?_, by have := HEF.out.1; have := HLF.out; simp; omega, fun _ => by have := HEF.out.1; have := HLF.out; simp; omega, fun h => by omega, q1, q2⟩
              · rw [lets_append, ints_append, List.length_append, ← HLF.out]
                rw [HC.out] at hown'
                exact hown'
              · rw [HV.out, HSTEP.out]; simp
            case measure => simp only [intOf]; omega
          · by_cases hn0 : 0 < n2
            · have hn0i : (0 : Int) < (n2 : Int) := by omega
              go_wp2_with (at_builtin; refine wpList_app1G T_u8 rfl _ _ rfl hown he _ rfl rfl rfl (by omega) (by omega) ?_; intro v' w' hown' he' hg')
              go_roundw
              case rel =>
                obtain ⟨q1, q2⟩ := HGO.out v' w' _ hown hg'
                refine ⟨k + 1, part / 10, F ++ [part % 10], by omega, by go_num, by rw [HDV.out], by omega, HLT.out, ?_, he', ?_, by have := HEF.out.1; have := HLF.out; simp; omega, fun _ => by have := HEF.out.1; have := HLF.out; simp; omega, fun h => by omega, q1, q2⟩
                · rw [lets_append, ints_append, List.length_append, ← HLF.out]
                  rw [HC.out] at hown'
                  exact hown'
                · rw [HV.out, HSTEP.out]; simp
              case measure => simp only [intOf]; omega
            · obtain rfl : n2 = 0 := by omega
              have hp0i : (0 : Int) < (part : Int) := by omega
              go_wp2_with (at_builtin; refine wpList_app1G T_u8 rfl _ _ rfl hown he _ rfl rfl rfl (by omega) (by omega) ?_; intro v' w' hown' he' hg')
              go_roundw
              case rel =>
                obtain ⟨q1, q2⟩ := HGO.out v' w' _ hown hg'
                refine ⟨k + 1, part / 10, F ++ [part % 10], by omega, by go_num, by rw [HDV.out], by omega, HLT.out, ?_, he', ?_, by have := HEF.out.1; have := HLF.out; simp; omega, fun _ => by have := HEF.out.1; have := HLF.out; simp; omega, fun h => by omega, q1, q2⟩
                · rw [lets_append, ints_append, List.length_append, ← HLF.out]
                  rw [HC.out] at hown'
                  exact hown'
                · rw [HV.out, HSTEP.out]; simp
              case measure => simp only [intOf]; omega
        · have hfin : part + 10 ^ (9 - k) * V2 = V2 := by
            rcases hst with h | ⟨h1, h2⟩
            · obtain rfl : k = 9 := by omega
              exact chunk_end HP10.out
            · have h3 : V2 = 0 := by
                have h4 := HN2.out
                rw [h1] at h4
                have h5 := val_dig B32_two V2
                rw [List.eq_nil_of_length_eq_zero h4] at h5
                simpa [val] using h5.symm
              rw [h2, h3]; simp
          have hkp : 0 < k := by
            rcases Nat.eq_zero_or_pos k with h | h
            · exfalso
              have h6 := HEF.out.2.2 h
              rcases hst with h1 | ⟨h1, h2⟩
              · omega
              · rcases h6 with h7 | h7
                · omega
                · have h4 := HN2.out
                  rw [h1] at h4
                  have h5 := val_dig B32_two V2
                  rw [List.eq_nil_of_length_eq_zero h4] at h5
                  simp [val] at h5
                  omega
            · exact h
          have hvv := HV.out
          rw [hfin] at hvv
          have hlen : lf ≤ D.length := by rw [hvv, List.length_append, HLF.out]; omega
          have hEl := HEF.out.2.1 hkp
          have HVV := hidP hvv; have HLEN := hidP hlen; have HEL := hidP hEl
          have hrl := row_sliceLen hown
          have HRL := hidP hrl
          clear hvv hlen hEl hfin hkp hrl
          rw [HLF.out] at hown
          by_cases hk9 : k < 9
          · obtain ⟨rfl, rfl⟩ : n2 = 0 ∧ part = 0 := by omega
            clear hst
            go_wp2_with fail
            go_roundw
            case rel => exact ⟨_, _, _, V2, F, rfl, hs2, hn2b, hown, he, HVV.out⟩
            case measure =>
              have h1 := HRL.out
              have h2 := row_sliceLen (HOLD.out)
              have h3 := HLEN.out
              have h4 := HEL.out
              rw [h1, h2]
              omega
          · obtain rfl : k = 9 := by omega
            clear hst
            go_wp2_with fail
            go_roundw
            case rel => exact ⟨_, _, _, V2, F, rfl, hs2, hn2b, hown, he, HVV.out⟩
            case measure =>
              have h1 := HRL.out
              have h2 := row_sliceLen (HOLD.out)
              have h3 := HLEN.out
              have h4 := HEL.out
              rw [h1, h2]
              omega

end Go.Proofs.Ytcipcpbjkcpgdaa
